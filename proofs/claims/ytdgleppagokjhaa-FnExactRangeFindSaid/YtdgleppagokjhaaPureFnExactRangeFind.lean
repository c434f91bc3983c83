/- The program's RangeFind and the reference's answer alike at every slice of ranges and every key. No condition. -/
import Derived.Test.YtdgleppagokjhaaRngFnExactRangeFind
namespace Go.Proofs.Ytdgleppagokjhaa.Pure
set_option linter.unusedVariables false
set_option linter.unusedSimpArgs false
open Go.RowKit Go.Proofs.Ytdgleppagokjhaa.QFnExactRangeFind Go.Proofs.YtdgleppagokjhaaW.PrintWords Go.Proofs.YtdgleppagokjhaaU Go.Proofs.Ytdgleppagokjhaa.QFnExactRangeFindG
theorem find_from (l : List S30) (key : ByteArray) (hl : l.length ≤ 64) (d : Nat) : ∀ (i : Int), 0 ≤ i → i ≤ l.length → (l.length : Int) - i = d → ∃ r, Ev (fun k => spec_RangeFind.l0 k l key i) r ∧ Ev (fun k => impl_RangeFind.l0 k key l (l.length : Int) i) r := by
  induction d with
  | zero =>
    intro i h0 h1 hd
    exact ⟨(0, (⟨#[]⟩ : ByteArray), (⟨#[]⟩ : ByteArray), 0, 0, 0, 1), Ev.succ (by simp only [spec_RangeFind.l0]; exact Ev.neg (by omega) (Ev.some' rfl)), Ev.succ (by simp only [impl_RangeFind.l0]; exact Ev.neg (by omega) (Ev.some' rfl))⟩
  | succ d ih =>
    intro i h0 h1 hd
    obtain ⟨r, r1, r2⟩ := ih (i + 1) (by omega) (by omega) (by omega)
    have ew := wrap_in (i + 1) (by omega) (by omega)
    by_cases c1 : Op.bytesLess key.toList (rd_T30 l i).f1.toList = true
    · refine ⟨r, Ev.succ ?_, Ev.succ ?_⟩
      · simp only [spec_RangeFind.l0, ew]
        exact Ev.pos (by omega) (Ev.pos h0 (Ev.bndc (b := false) (by unfold spec_l06In.f; rw [if_pos c1]) (Ev.neg (by simp) r1)))
      · simp only [impl_RangeFind.l0, ew]
        exact Ev.pos (by omega) (Ev.pos h0 (Ev.pos (by omega) (Ev.pos c1 r2)))
    · by_cases c2 : (rd_T30 l i).f2.toList = ([] : List UInt8)
      · refine ⟨((rd_T30 l i).f0, (rd_T30 l i).f1, (rd_T30 l i).f2, (rd_T30 l i).f3, (rd_T30 l i).f4, (rd_T30 l i).f5, 0), Ev.succ ?_, Ev.succ ?_⟩
        rotate_left
        · simp only [impl_RangeFind.l0, ew]
          exact Ev.pos (by omega) (Ev.pos h0 (Ev.pos (by omega) (Ev.neg c1 (Ev.pos c2 (Ev.some' rfl)))))
        · simp only [spec_RangeFind.l0, ew]
          exact Ev.pos (by omega) (Ev.pos h0 (Ev.bndc (b := true) (by unfold spec_l06In.f; rw [if_neg c1, if_pos c2]) (Ev.pos rfl (Ev.some' rfl))))
      · by_cases c3 : Op.bytesLess key.toList (rd_T30 l i).f2.toList = true
        · refine ⟨((rd_T30 l i).f0, (rd_T30 l i).f1, (rd_T30 l i).f2, (rd_T30 l i).f3, (rd_T30 l i).f4, (rd_T30 l i).f5, 0), Ev.succ ?_, Ev.succ ?_⟩
          rotate_left
          · simp only [impl_RangeFind.l0, ew]
            exact Ev.pos (by omega) (Ev.pos h0 (Ev.pos (by omega) (Ev.neg c1 (Ev.neg c2 (Ev.pos c3 (Ev.some' rfl))))))
          · simp only [spec_RangeFind.l0, ew]
            exact Ev.pos (by omega) (Ev.pos h0 (Ev.bndc (b := true) (by unfold spec_l06In.f; rw [if_neg c1, if_neg c2, c3]) (Ev.pos rfl (Ev.some' rfl))))
        · have c3' : Op.bytesLess key.toList (rd_T30 l i).f2.toList = false := by simpa using c3
          refine ⟨r, Ev.succ ?_, Ev.succ ?_⟩
          · simp only [spec_RangeFind.l0, ew]
            exact Ev.pos (by omega) (Ev.pos h0 (Ev.bndc (b := false) (by unfold spec_l06In.f; rw [if_neg c1, if_neg c2, c3']) (Ev.neg (by simp) r1)))
          · simp only [impl_RangeFind.l0, ew]
            exact Ev.pos (by omega) (Ev.pos h0 (Ev.pos (by omega) (Ev.neg c1 (Ev.neg c2 (Ev.neg c3 r2)))))
theorem find_alike (l : List S30) (key : ByteArray) (hl : (l.length : Int) ≤ 1048576) : ∃ r, Ev (fun k => spec_RangeFind.f k l key) r ∧ Ev (fun k => impl_RangeFind.f k l key) r := by
  obtain ⟨b, b1, b2, b3⟩ := ok_alike l hl
  simp only [spec_RangeFind.f, impl_RangeFind.f]
  cases b with
  | false => exact ⟨_, Ev.bind b1 (Ev.neg (by simp) (Ev.some' rfl)), Ev.bind b2 (Ev.neg (by simp) (Ev.some' rfl))⟩
  | true =>
    obtain ⟨r, r1, r2⟩ := find_from l key (b3 rfl).2 l.length 0 (by omega) (by omega) (by omega)
    exact ⟨r, Ev.bind b1 (Ev.pos rfl r1), Ev.bind b2 (Ev.pos rfl r2)⟩
theorem FnExactRangeFind (l : List S61) (key : ByteArray) (o : l.length ≤ 9223372036854775807 ∧ ∀ x ∈ l, (Lit.int .i64 x.f0).wf = true ∧ x.f1.size ≤ 9223372036854775807 ∧ x.f2.size ≤ 9223372036854775807 ∧ (Lit.int .i64 x.f3).wf = true ∧ (Lit.int .i64 x.f4).wf = true ∧ (Lit.int .i64 x.f5).wf = true) (hk : key.size ≤ 140737488351232) : ∃ k, laws_FnExactRangeFind.f k l key = some true := by
  obtain ⟨hl, hs⟩ := o
  obtain ⟨z, hz, hc⟩ := sz_ends l 1048576 (by omega) (by omega) hl (fun x hx => ⟨(hs x hx).2.1, (hs x hx).2.2.1⟩)
  refine Ev.at ?_
  simp only [laws_FnExactRangeFind.f]
  by_cases c0 : (key.size : Int) > 1048576
  · exact Ev.pos c0 (Ev.some' rfl)
  · refine Ev.neg c0 (Ev.bind hz ?_)
    by_cases c : z < 0
    · exact Ev.pos c (Ev.some' rfl)
    · have hl' : (l.length : Int) ≤ 1048576 := by omega
      have hm : ((l.map cv).length : Int) ≤ 1048576 := by rw [List.length_map]; exact hl'
      obtain ⟨⟨r0, r1, r2, r3, r4, r5, r6⟩, b1, b2⟩ := find_alike (l.map cv) key hm
      refine Ev.neg c (Ev.bind (to_same l hl') (Ev.bind b1 (Ev.bind (to_same l hl') (Ev.bind b2 (Ev.bndc (b := true) (eqOne ⟨r0, r1, r2, r3, r4, r5⟩) (Ev.pos rfl (Ev.succ ?_)))))))
      simp only [laws_FnExactRangeFind.j0]
      exact Ev.neg (by simp) (Ev.bind (to_same l hl') (Ev.bind (eq_same (l.map cv) hm) (Ev.pos rfl (Ev.some' rfl))))
end Go.Proofs.Ytdgleppagokjhaa.Pure
