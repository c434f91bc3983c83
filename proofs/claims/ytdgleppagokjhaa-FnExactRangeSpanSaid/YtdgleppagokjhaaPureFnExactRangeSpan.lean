/- The program's RangeSpan and the reference's answer alike at every slice of ranges and every two keys, and what is answered is the call's own. No condition. -/
import Derived.Test.YtdgleppagokjhaaRngFnExactRangeSpan
namespace Go.Proofs.Ytdgleppagokjhaa.Pure
set_option linter.unusedVariables false
set_option linter.unusedSimpArgs false
open Go.RowKit Go.Proofs.Ytdgleppagokjhaa.QFnExactRangeSpan Go.Proofs.YtdgleppagokjhaaW.PrintWords Go.Proofs.YtdgleppagokjhaaU Go.Proofs.Ytdgleppagokjhaa.QFnExactRangeSpanG
/-! ### the text of a mark -/
theorem mt_loop (d : Nat) : ∀ (n : Nat) (acc : ByteArray), n < 10 ^ d → n < 9223372036854775808 → acc.size + d ≤ 1000 → ∃ t, Ev (fun k => laws_markText.l0 k (n : Int) acc) t := by
  induction d with
  | zero =>
    intro n acc hn hb ha
    obtain rfl : n = 0 := by omega
    refine ⟨(⟨#[109]⟩ : ByteArray) ++ acc, Ev.succ ?_⟩
    simp only [laws_markText.l0]
    exact Ev.neg (by omega) (Ev.pos (by omega) (Ev.some' rfl))
  | succ d ih =>
    intro n acc hn hb ha
    by_cases c : n = 0
    · subst c
      refine ⟨(⟨#[109]⟩ : ByteArray) ++ acc, Ev.succ ?_⟩
      simp only [laws_markText.l0]
      exact Ev.neg (by omega) (Ev.pos (by omega) (Ev.some' rfl))
    · have h1 : Int.tdiv (n : Int) 10 = ((n / 10 : Nat) : Int) := by rw [Int.tdiv_eq_ediv_of_nonneg (by omega)]; omega
      have h2 : n / 10 < 10 ^ d := by rw [Nat.pow_succ] at hn; omega
      have hz : ∀ z : Int, (strOfNums [z]).size = 1 := fun z => by rw [strOfNums_size]; rfl
      obtain ⟨t, ht⟩ := ih (n / 10) (strOfNums [(wrap64 (48 + (Int.tmod (n : Int) 10))) % 256] ++ acc) h2 (by omega) (by rw [ByteArray.size_append, hz]; omega)
      refine ⟨t, Ev.succ ?_⟩
      simp only [laws_markText.l0]
      refine Ev.pos (by omega) (Ev.bndc rfl (Ev.pos (by rw [hz]; omega) ?_))
      rw [h1, wrap_in ((n / 10 : Nat) : Int) (by omega) (by omega)]
      exact ht
theorem mt_some (x : Int) (h : x ≤ 9223372036854775807) : ∃ t, Ev (fun k => laws_markText.f k x) t := by
  simp only [laws_markText.f]
  by_cases c : x ≤ 0
  · exact ⟨_, Ev.pos c (Ev.some' rfl)⟩
  · obtain ⟨n, rfl⟩ := Int.eq_ofNat_of_zero_le (show 0 ≤ x by omega)
    obtain ⟨t, ht⟩ := mt_loop 19 n (⟨#[]⟩ : ByteArray) (by omega) (by omega) (by show (0 : Nat) + 19 ≤ 1000; omega)
    exact ⟨t, Ev.neg c ht⟩
open Classical in
noncomputable def txt (x : Int) : ByteArray := if h : ∃ t, Ev (fun k => laws_markText.f k x) t then h.choose else ByteArray.empty
theorem txt_ok (x : Int) (h : x ≤ 9223372036854775807) : Ev (fun k => laws_markText.f k x) (txt x) := by
  unfold txt
  rw [dif_pos (mt_some x h)]
  exact (mt_some x h).choose_spec
/-! ### marks in a slice of S30 -/
noncomputable def el_Range (m : Int) : S30 := ⟨m, txt (m + 1), txt (m + 2), m + 3, m + 4, m + 5⟩
noncomputable def ml_Range : Int → Nat → List S30
  | _, 0 => []
  | m, n + 1 => el_Range m :: ml_Range (m + 6) n
theorem rdm_Range (pre rest : List S30) (a : S30) : rd_T30 (pre ++ a :: rest) (pre.length : Int) = a := by
  unfold rd_T30
  rw [Int.toNat_natCast, List.getD_eq_getElem?_getD, List.getElem?_append_right (Nat.le_refl _), Nat.sub_self]
  rfl
theorem stm_Range (pre rest : List S30) (a b : S30) : (pre ++ a :: rest).set pre.length b = pre ++ b :: rest := by
  rw [List.set_append_right _ _ (Nat.le_refl _), Nat.sub_self]
  rfl
theorem mark_Range (d : Nat) : ∀ (pre rest : List S30) (m : Int), rest.length = d → 0 ≤ m → m + 6 * (d : Int) ≤ 1000000000000 → (pre.length : Int) + d ≤ 1000000000000 →
    Ev (fun k => laws_markRangeS.l0 k (pre ++ rest) m (pre.length : Int)) (m + 6 * (d : Int), pre ++ ml_Range m d) := by
  induction d with
  | zero =>
    intro pre rest m hr h0 h1 h2
    obtain rfl : rest = [] := List.length_eq_zero_iff.mp hr
    refine Ev.succ ?_
    simp only [laws_markRangeS.l0]
    refine Ev.neg (by simp) (Ev.some' ?_)
    simp [ml_Range]
  | succ d ih =>
    intro pre rest m hr h0 h1 h2
    obtain ⟨a, rest, rfl⟩ : ∃ a r, rest = a :: r := by cases rest with | nil => cases hr | cons a r => exact ⟨a, r, rfl⟩
    rw [List.length_cons] at hr
    have w1 : wrap64 (m + 1) = m + 1 := by have := wrap_in (m + 1) (by omega) (by omega); omega
    have w2 : wrap64 (m + 1 + 1) = m + 2 := by have := wrap_in (m + 1 + 1) (by omega) (by omega); omega
    have w3 : wrap64 (m + 2 + 1) = m + 3 := by have := wrap_in (m + 2 + 1) (by omega) (by omega); omega
    have w4 : wrap64 (m + 3 + 1) = m + 4 := by have := wrap_in (m + 3 + 1) (by omega) (by omega); omega
    have w5 : wrap64 (m + 4 + 1) = m + 5 := by have := wrap_in (m + 4 + 1) (by omega) (by omega); omega
    have w6 : wrap64 (m + 5 + 1) = m + 6 := by have := wrap_in (m + 5 + 1) (by omega) (by omega); omega
    have wi : wrap64 ((pre.length : Int) + 1) = ((pre ++ [el_Range m]).length : Int) := by rw [wrap_in _ (by omega) (by omega), List.length_append]; simp
    have hh := ih (pre ++ [el_Range m]) rest (m + 6) (by omega) (by omega) (by omega) (by rw [List.length_append, List.length_singleton]; omega)
    rw [show m + 6 + 6 * (d : Int) = m + 6 * ((d + 1 : Nat) : Int) by omega, List.append_assoc, List.append_assoc] at hh
    refine Ev.succ ?_
    simp only [laws_markRangeS.l0, w1, w2, w3, w4, w5, w6, wi]
    refine Ev.pos (by rw [List.length_append, List.length_cons]; omega) (Ev.pos (by omega) ?_)
    refine Ev.bndc rfl (Ev.bind (txt_ok (m + 1) (by omega)) (Ev.bndc rfl (Ev.bind (txt_ok (m + 2) (by omega)) (Ev.bndc rfl (Ev.bndc rfl (Ev.bndc rfl (?_)))))))
    simp only [Int.toNat_natCast, stm_Range, rdm_Range]
    exact hh
theorem held_Range (d : Nat) : ∀ (pre : List S30) (m : Int), 0 ≤ m → m + 6 * (d : Int) ≤ 1000000000000 → (pre.length : Int) + d ≤ 1000000000000 →
    Ev (fun k => laws_heldRangeS.l0 k (pre ++ ml_Range m d) m (pre.length : Int)) (m + 6 * (d : Int)) := by
  induction d with
  | zero =>
    intro pre m h0 h1 h2
    refine Ev.succ ?_
    simp only [laws_heldRangeS.l0]
    exact Ev.neg (by simp [ml_Range]) (Ev.some' (by simp))
  | succ d ih =>
    intro pre m h0 h1 h2
    have w1 : wrap64 (m + 1) = m + 1 := by have := wrap_in (m + 1) (by omega) (by omega); omega
    have w2 : wrap64 (m + 1 + 1) = m + 2 := by have := wrap_in (m + 1 + 1) (by omega) (by omega); omega
    have w3 : wrap64 (m + 2 + 1) = m + 3 := by have := wrap_in (m + 2 + 1) (by omega) (by omega); omega
    have w4 : wrap64 (m + 3 + 1) = m + 4 := by have := wrap_in (m + 3 + 1) (by omega) (by omega); omega
    have w5 : wrap64 (m + 4 + 1) = m + 5 := by have := wrap_in (m + 4 + 1) (by omega) (by omega); omega
    have w6 : wrap64 (m + 5 + 1) = m + 6 := by have := wrap_in (m + 5 + 1) (by omega) (by omega); omega
    have wi : wrap64 ((pre.length : Int) + 1) = ((pre ++ [el_Range m]).length : Int) := by rw [wrap_in _ (by omega) (by omega), List.length_append]; simp
    have hh := ih (pre ++ [el_Range m]) (m + 6) (by omega) (by omega) (by rw [List.length_append, List.length_singleton]; omega)
    rw [show m + 6 + 6 * (d : Int) = m + 6 * ((d + 1 : Nat) : Int) by omega, List.append_assoc] at hh
    refine Ev.succ ?_
    simp only [laws_heldRangeS.l0, ml_Range, rdm_Range, w1, w2, w3, w4, w5, w6, wi]
    refine Ev.pos (by rw [List.length_append, List.length_cons]; omega) (Ev.pos (by omega) ?_)
    refine Ev.pos (by rfl) (Ev.bind (txt_ok (m + 1) (by omega)) (Ev.pos (by rfl) (Ev.bind (txt_ok (m + 2) (by omega)) (Ev.pos (by rfl) (Ev.pos (by rfl) (Ev.pos (by rfl) (Ev.pos (by rfl) (?_))))))))
    exact hh

theorem span_from (l : List S30) (a b : ByteArray) (hl : l.length ≤ 64) (d : Nat) : ∀ (acc : List S30) (i : Int), 0 ≤ i → i ≤ l.length → (l.length : Int) - i = d → (acc.length : Int) ≤ i →
    ∃ r : List S30, r.length ≤ 64 ∧ Ev (fun k => spec_RangeSpan.l0 k l a b acc i) (r, 0) ∧ Ev (fun k => impl_RangeSpan.l0 k a b acc l (l.length : Int) i) (r, 0) := by
  induction d with
  | zero =>
    intro acc i h0 h1 hd ha
    exact ⟨acc, by omega, Ev.succ (by simp only [spec_RangeSpan.l0]; exact Ev.neg (by omega) (Ev.some' rfl)), Ev.succ (by simp only [impl_RangeSpan.l0]; exact Ev.neg (by omega) (Ev.some' rfl))⟩
  | succ d ih =>
    intro acc i h0 h1 hd ha
    have ew := wrap_in (i + 1) (by omega) (by omega)
    obtain ⟨r, rl, r1, r2⟩ := ih acc (i + 1) (by omega) (by omega) (by omega) (by omega)
    obtain ⟨q, ql, q1, q2⟩ := ih (acc ++ [(⟨(rd_T30 l i).f0, (rd_T30 l i).f1, (rd_T30 l i).f2, (rd_T30 l i).f3, (rd_T30 l i).f4, (rd_T30 l i).f5⟩ : S30)]) (i + 1) (by omega) (by omega) (by omega) (by rw [List.length_append]; simp; omega)
    -- whichever way is gone, both go it
    have both : ∀ (p : Bool), (p = true → ∀ g1 g2 : Nat → Option (List S30 × Int), True) → True := fun _ _ => trivial
    by_cases c1 : (rd_T30 l i).f2.toList = ([] : List UInt8)
    · by_cases c2 : b.toList = ([] : List UInt8)
      · exact ⟨q, ql, Ev.succ (by simp only [spec_RangeSpan.l0, ew]; exact Ev.pos (by omega) (Ev.pos h0 (Ev.pos c1 (Ev.pos c2 (Ev.pos (by omega) q1))))), Ev.succ (by simp only [impl_RangeSpan.l0, ew]; exact Ev.pos (by omega) (Ev.pos h0 (Ev.pos (by omega) (Ev.pos c1 (Ev.pos c2 (Ev.pos (by omega) q2))))))⟩
      · by_cases c3 : Op.bytesLess (rd_T30 l i).f1.toList b.toList = true
        · exact ⟨q, ql, Ev.succ (by simp only [spec_RangeSpan.l0, ew]; exact Ev.pos (by omega) (Ev.pos h0 (Ev.pos c1 (Ev.neg c2 (Ev.pos c3 (Ev.pos (by omega) q1)))))), Ev.succ (by simp only [impl_RangeSpan.l0, ew]; exact Ev.pos (by omega) (Ev.pos h0 (Ev.pos (by omega) (Ev.pos c1 (Ev.neg c2 (Ev.pos c3 (Ev.pos (by omega) q2)))))))⟩
        · exact ⟨r, rl, Ev.succ (by simp only [spec_RangeSpan.l0, ew]; exact Ev.pos (by omega) (Ev.pos h0 (Ev.pos c1 (Ev.neg c2 (Ev.neg c3 r1))))), Ev.succ (by simp only [impl_RangeSpan.l0, ew]; exact Ev.pos (by omega) (Ev.pos h0 (Ev.pos (by omega) (Ev.pos c1 (Ev.neg c2 (Ev.neg c3 r2))))))⟩
    · by_cases c4 : Op.bytesLess a.toList (rd_T30 l i).f2.toList = true
      · by_cases c2 : b.toList = ([] : List UInt8)
        · exact ⟨q, ql, Ev.succ (by simp only [spec_RangeSpan.l0, ew]; exact Ev.pos (by omega) (Ev.pos h0 (Ev.neg c1 (Ev.pos c4 (Ev.pos c2 (Ev.pos (by omega) q1)))))), Ev.succ (by simp only [impl_RangeSpan.l0, ew]; exact Ev.pos (by omega) (Ev.pos h0 (Ev.pos (by omega) (Ev.neg c1 (Ev.pos c4 (Ev.pos c2 (Ev.pos (by omega) q2)))))))⟩
        · by_cases c3 : Op.bytesLess (rd_T30 l i).f1.toList b.toList = true
          · exact ⟨q, ql, Ev.succ (by simp only [spec_RangeSpan.l0, ew]; exact Ev.pos (by omega) (Ev.pos h0 (Ev.neg c1 (Ev.pos c4 (Ev.neg c2 (Ev.pos c3 (Ev.pos (by omega) q1))))))), Ev.succ (by simp only [impl_RangeSpan.l0, ew]; exact Ev.pos (by omega) (Ev.pos h0 (Ev.pos (by omega) (Ev.neg c1 (Ev.pos c4 (Ev.neg c2 (Ev.pos c3 (Ev.pos (by omega) q2))))))))⟩
          · exact ⟨r, rl, Ev.succ (by simp only [spec_RangeSpan.l0, ew]; exact Ev.pos (by omega) (Ev.pos h0 (Ev.neg c1 (Ev.pos c4 (Ev.neg c2 (Ev.neg c3 r1)))))), Ev.succ (by simp only [impl_RangeSpan.l0, ew]; exact Ev.pos (by omega) (Ev.pos h0 (Ev.pos (by omega) (Ev.neg c1 (Ev.pos c4 (Ev.neg c2 (Ev.neg c3 r2)))))))⟩
      · exact ⟨r, rl, Ev.succ (by simp only [spec_RangeSpan.l0, ew]; exact Ev.pos (by omega) (Ev.pos h0 (Ev.neg c1 (Ev.neg c4 r1)))), Ev.succ (by simp only [impl_RangeSpan.l0, ew]; exact Ev.pos (by omega) (Ev.pos h0 (Ev.pos (by omega) (Ev.neg c1 (Ev.neg c4 r2)))))⟩
theorem span_alike (l : List S30) (a b : ByteArray) (hl : (l.length : Int) ≤ 1048576) : ∃ (r : List S30) (c : Int), r.length ≤ 64 ∧ Ev (fun k => spec_RangeSpan.f k l a b) (r, c) ∧ Ev (fun k => impl_RangeSpan.f k l a b) (r, c) := by
  obtain ⟨g, b1, b2, b3⟩ := ok_alike l hl
  simp only [spec_RangeSpan.f, impl_RangeSpan.f, Option.bind_some]
  cases g with
  | false => exact ⟨_, _, by simp, Ev.bind b1 (Ev.neg (by simp) (Ev.some' rfl)), Ev.bind b2 (Ev.neg (by simp) (Ev.some' rfl))⟩
  | true =>
    obtain ⟨r, rl, r1, r2⟩ := span_from l a b (b3 rfl).2 l.length [] 0 (by omega) (by omega) (by omega) (by simp)
    have s0 : ∀ x : Bool, Ev (fun k => spec_RangeSpan.j0 k l a b [] x) (if x = true then [] else r, 0) := by
      intro x
      refine Ev.succ ?_
      simp only [spec_RangeSpan.j0]
      cases x with
      | true => exact Ev.pos (by trivial) (Ev.some' rfl)
      | false => exact Ev.neg (by simp) r1
    have i0 : ∀ x : Bool, Ev (fun k => impl_RangeSpan.j0 k l a b x) (if x = true then [] else r, 0) := by
      intro x
      refine Ev.succ ?_
      simp only [impl_RangeSpan.j0]
      cases x with
      | true => exact Ev.pos (by trivial) (Ev.some' rfl)
      | false => exact Ev.neg (by simp) r2
    by_cases c : b.toList = ([] : List UInt8)
    · exact ⟨_, _, by split <;> simp [rl], Ev.bind b1 (Ev.pos rfl (Ev.pos c (s0 false))), Ev.bind b2 (Ev.pos rfl (Ev.pos c (i0 false)))⟩
    · exact ⟨_, _, by split <;> simp [rl], Ev.bind b1 (Ev.pos rfl (Ev.neg c (s0 _))), Ev.bind b2 (Ev.pos rfl (Ev.neg c (i0 _)))⟩
theorem FnExactRangeSpan (l : List S61) (a b : ByteArray) (o : l.length ≤ 9223372036854775807 ∧ ∀ x ∈ l, (Lit.int .i64 x.f0).wf = true ∧ x.f1.size ≤ 9223372036854775807 ∧ x.f2.size ≤ 9223372036854775807 ∧ (Lit.int .i64 x.f3).wf = true ∧ (Lit.int .i64 x.f4).wf = true ∧ (Lit.int .i64 x.f5).wf = true) (ha : a.size ≤ 140737488351232) (hb : b.size ≤ 140737488351232) : ∃ k, laws_FnExactRangeSpan.f k l a b = some true := by
  obtain ⟨hl, hs⟩ := o
  obtain ⟨z, hz, hc⟩ := sz_ends l 1048576 (by omega) (by omega) hl (fun x hx => ⟨(hs x hx).2.1, (hs x hx).2.2.1⟩)
  refine Ev.at ?_
  simp only [laws_FnExactRangeSpan.f]
  by_cases c0 : (a.size : Int) > 1048576
  · exact Ev.pos c0 (Ev.some' rfl)
  by_cases c1 : (b.size : Int) > 1048576
  · exact Ev.neg c0 (Ev.pos c1 (Ev.some' rfl))
  refine Ev.neg c0 (Ev.neg c1 (Ev.bind hz ?_))
  by_cases c : z < 0
  · exact Ev.pos c (Ev.some' rfl)
  have hl' : (l.length : Int) ≤ 1048576 := by omega
  have hm : ((l.map cv).length : Int) ≤ 1048576 := by rw [List.length_map]; exact hl'
  obtain ⟨r, e, rl, b1, b2⟩ := span_alike (l.map cv) a b hm
  have hr : (r.length : Int) ≤ 1048576 := by omega
  have m1 := mark_Range (l.map cv).length [] (l.map cv) 1 rfl (by omega) (by omega) (by simp only [List.length_nil]; omega)
  have m2 := mark_Range r.length [] r 1 rfl (by omega) (by omega) (by simp only [List.length_nil]; omega)
  have h2 := held_Range r.length [] 1 (by omega) (by omega) (by simp only [List.length_nil]; omega)
  simp only [List.nil_append, List.length_nil] at m1 m2 h2
  refine Ev.neg c (Ev.bind (to_same l hl') (Ev.bind b1 (Ev.bind (to_same l hl') (Ev.bind b2 (Ev.bind (eq_same r hr) (Ev.pos rfl (Ev.succ ?_)))))))
  simp only [laws_FnExactRangeSpan.j0]
  refine Ev.neg (by simp) (Ev.bind (to_same l hl') (Ev.bind (eq_same (l.map cv) hm) (Ev.pos rfl ?_)))
  refine Ev.bind (by simp only [laws_markRangeS.f]; exact m1) (Ev.neg (by simp only; omega) (Ev.bind (eq_same r hr) (Ev.pos rfl (Ev.succ ?_))))
  simp only [laws_FnExactRangeSpan.j1]
  refine Ev.neg (by simp) (Ev.bind (by simp only [laws_markRangeS.f]; exact m2) (Ev.bind (by simp only [laws_heldRangeS.f]; exact h2) (Ev.neg (by omega) (Ev.pos rfl ?_))))
  refine Ev.bind (to_same l hl') (Ev.bind b2 (Ev.bind (eq_same r hr) (Ev.pos rfl (Ev.succ ?_))))
  simp only [laws_FnExactRangeSpan.j2]
  exact Ev.neg (by simp) (Ev.bind (by simp only [laws_heldRangeS.f]; exact h2) (Ev.neg (by omega) (Ev.pos rfl (Ev.some' rfl))))
end Go.Proofs.Ytdgleppagokjhaa.Pure
