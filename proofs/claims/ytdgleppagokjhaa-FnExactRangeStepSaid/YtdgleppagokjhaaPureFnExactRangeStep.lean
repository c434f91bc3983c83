/- The program's RangeStep and the reference's answer alike at every slice of ranges and every change, and what is answered is the call's own. No condition. -/
import Derived.Test.YtdgleppagokjhaaRgJ
import Derived.Test.YtdgleppagokjhaaLwS
namespace Go.Proofs.Ytdgleppagokjhaa.Pure
set_option linter.unusedVariables false
set_option linter.unusedSimpArgs false
open Go.RowKit Go.Proofs.Ytdgleppagokjhaa.QFnExactRangeStep Go.Proofs.Ytdgleppagokjhaa.QFnExactRangeStepH Go.Proofs.Ytdgleppagokjhaa.QFnExactRangeStepS Go.Proofs.Ytdgleppagokjhaa.QFnExactRangeStepJ Go.Proofs.Ytdgleppagokjhaa.QFnExactRangeStepG Go.Proofs.YtdgleppagokjhaaW.PrintWords Go.Proofs.YtdgleppagokjhaaU
/-! ### the text of a mark -/
theorem mt_loop (d : Nat) : ∀ (n : Nat) (acc : ByteArray), n < 10 ^ d → n < 9223372036854775808 → acc.size + d ≤ 1000 → ∃ t, Ev (fun k => laws_markText.l0 k (n : Int) acc) t := by
  induction d with
  | zero =>
    intro n acc hn hb ha
    obtain rfl : n = 0 := by omega
    refine ⟨(⟨#[109]⟩ : ByteArray) ++ acc, Ev.succ ?_⟩
    simp only [laws_markText.l0]
    exact Ev.neg (by omega) (Ev.pos (by omega) (Ev.some' rfl))
  | succ d ih =>
    intro n acc hn hb ha
    by_cases c : n = 0
    · subst c
      refine ⟨(⟨#[109]⟩ : ByteArray) ++ acc, Ev.succ ?_⟩
      simp only [laws_markText.l0]
      exact Ev.neg (by omega) (Ev.pos (by omega) (Ev.some' rfl))
    · have h1 : Int.tdiv (n : Int) 10 = ((n / 10 : Nat) : Int) := by rw [Int.tdiv_eq_ediv_of_nonneg (by omega)]; omega
      have h2 : n / 10 < 10 ^ d := by rw [Nat.pow_succ] at hn; omega
      have hz : ∀ z : Int, (strOfNums [z]).size = 1 := fun z => by rw [strOfNums_size]; rfl
      obtain ⟨t, ht⟩ := ih (n / 10) (strOfNums [(wrap64 (48 + (Int.tmod (n : Int) 10))) % 256] ++ acc) h2 (by omega) (by rw [ByteArray.size_append, hz]; omega)
      refine ⟨t, Ev.succ ?_⟩
      simp only [laws_markText.l0]
      refine Ev.pos (by omega) (Ev.bndc rfl (Ev.pos (by rw [hz]; omega) ?_))
      rw [h1, wrap_in ((n / 10 : Nat) : Int) (by omega) (by omega)]
      exact ht
theorem mt_some (x : Int) (h : x ≤ 9223372036854775807) : ∃ t, Ev (fun k => laws_markText.f k x) t := by
  simp only [laws_markText.f]
  by_cases c : x ≤ 0
  · exact ⟨_, Ev.pos c (Ev.some' rfl)⟩
  · obtain ⟨n, rfl⟩ := Int.eq_ofNat_of_zero_le (show 0 ≤ x by omega)
    obtain ⟨t, ht⟩ := mt_loop 19 n (⟨#[]⟩ : ByteArray) (by omega) (by omega) (by show (0 : Nat) + 19 ≤ 1000; omega)
    exact ⟨t, Ev.neg c ht⟩
open Classical in
noncomputable def txt (x : Int) : ByteArray := if h : ∃ t, Ev (fun k => laws_markText.f k x) t then h.choose else ByteArray.empty
theorem txt_ok (x : Int) (h : x ≤ 9223372036854775807) : Ev (fun k => laws_markText.f k x) (txt x) := by
  unfold txt
  rw [dif_pos (mt_some x h)]
  exact (mt_some x h).choose_spec
/-! ### marks in a slice of S30 -/
noncomputable def el_Range (m : Int) : S30 := ⟨m, txt (m + 1), txt (m + 2), m + 3, m + 4, m + 5⟩
noncomputable def ml_Range : Int → Nat → List S30
  | _, 0 => []
  | m, n + 1 => el_Range m :: ml_Range (m + 6) n
theorem rdm_Range (pre rest : List S30) (a : S30) : rd_T30 (pre ++ a :: rest) (pre.length : Int) = a := by
  unfold rd_T30
  rw [Int.toNat_natCast, List.getD_eq_getElem?_getD, List.getElem?_append_right (Nat.le_refl _), Nat.sub_self]
  rfl
theorem stm_Range (pre rest : List S30) (a b : S30) : (pre ++ a :: rest).set pre.length b = pre ++ b :: rest := by
  rw [List.set_append_right _ _ (Nat.le_refl _), Nat.sub_self]
  rfl
theorem mark_Range (d : Nat) : ∀ (pre rest : List S30) (m : Int), rest.length = d → 0 ≤ m → m + 6 * (d : Int) ≤ 1000000000000 → (pre.length : Int) + d ≤ 1000000000000 →
    Ev (fun k => laws_markRangeS.l0 k (pre ++ rest) m (pre.length : Int)) (m + 6 * (d : Int), pre ++ ml_Range m d) := by
  induction d with
  | zero =>
    intro pre rest m hr h0 h1 h2
    obtain rfl : rest = [] := List.length_eq_zero_iff.mp hr
    refine Ev.succ ?_
    simp only [laws_markRangeS.l0]
    refine Ev.neg (by simp) (Ev.some' ?_)
    simp [ml_Range]
  | succ d ih =>
    intro pre rest m hr h0 h1 h2
    obtain ⟨a, rest, rfl⟩ : ∃ a r, rest = a :: r := by cases rest with | nil => cases hr | cons a r => exact ⟨a, r, rfl⟩
    rw [List.length_cons] at hr
    have w1 : wrap64 (m + 1) = m + 1 := by have := wrap_in (m + 1) (by omega) (by omega); omega
    have w2 : wrap64 (m + 1 + 1) = m + 2 := by have := wrap_in (m + 1 + 1) (by omega) (by omega); omega
    have w3 : wrap64 (m + 2 + 1) = m + 3 := by have := wrap_in (m + 2 + 1) (by omega) (by omega); omega
    have w4 : wrap64 (m + 3 + 1) = m + 4 := by have := wrap_in (m + 3 + 1) (by omega) (by omega); omega
    have w5 : wrap64 (m + 4 + 1) = m + 5 := by have := wrap_in (m + 4 + 1) (by omega) (by omega); omega
    have w6 : wrap64 (m + 5 + 1) = m + 6 := by have := wrap_in (m + 5 + 1) (by omega) (by omega); omega
    have wi : wrap64 ((pre.length : Int) + 1) = ((pre ++ [el_Range m]).length : Int) := by rw [wrap_in _ (by omega) (by omega), List.length_append]; simp
    have hh := ih (pre ++ [el_Range m]) rest (m + 6) (by omega) (by omega) (by omega) (by rw [List.length_append, List.length_singleton]; omega)
    rw [show m + 6 + 6 * (d : Int) = m + 6 * ((d + 1 : Nat) : Int) by omega, List.append_assoc, List.append_assoc] at hh
    refine Ev.succ ?_
    simp only [laws_markRangeS.l0, w1, w2, w3, w4, w5, w6, wi]
    refine Ev.pos (by rw [List.length_append, List.length_cons]; omega) (Ev.pos (by omega) ?_)
    refine Ev.bndc rfl (Ev.bind (txt_ok (m + 1) (by omega)) (Ev.bndc rfl (Ev.bind (txt_ok (m + 2) (by omega)) (Ev.bndc rfl (Ev.bndc rfl (Ev.bndc rfl (?_)))))))
    simp only [Int.toNat_natCast, stm_Range, rdm_Range]
    exact hh
theorem held_Range (d : Nat) : ∀ (pre : List S30) (m : Int), 0 ≤ m → m + 6 * (d : Int) ≤ 1000000000000 → (pre.length : Int) + d ≤ 1000000000000 →
    Ev (fun k => laws_heldRangeS.l0 k (pre ++ ml_Range m d) m (pre.length : Int)) (m + 6 * (d : Int)) := by
  induction d with
  | zero =>
    intro pre m h0 h1 h2
    refine Ev.succ ?_
    simp only [laws_heldRangeS.l0]
    exact Ev.neg (by simp [ml_Range]) (Ev.some' (by simp))
  | succ d ih =>
    intro pre m h0 h1 h2
    have w1 : wrap64 (m + 1) = m + 1 := by have := wrap_in (m + 1) (by omega) (by omega); omega
    have w2 : wrap64 (m + 1 + 1) = m + 2 := by have := wrap_in (m + 1 + 1) (by omega) (by omega); omega
    have w3 : wrap64 (m + 2 + 1) = m + 3 := by have := wrap_in (m + 2 + 1) (by omega) (by omega); omega
    have w4 : wrap64 (m + 3 + 1) = m + 4 := by have := wrap_in (m + 3 + 1) (by omega) (by omega); omega
    have w5 : wrap64 (m + 4 + 1) = m + 5 := by have := wrap_in (m + 4 + 1) (by omega) (by omega); omega
    have w6 : wrap64 (m + 5 + 1) = m + 6 := by have := wrap_in (m + 5 + 1) (by omega) (by omega); omega
    have wi : wrap64 ((pre.length : Int) + 1) = ((pre ++ [el_Range m]).length : Int) := by rw [wrap_in _ (by omega) (by omega), List.length_append]; simp
    have hh := ih (pre ++ [el_Range m]) (m + 6) (by omega) (by omega) (by rw [List.length_append, List.length_singleton]; omega)
    rw [show m + 6 + 6 * (d : Int) = m + 6 * ((d + 1 : Nat) : Int) by omega, List.append_assoc] at hh
    refine Ev.succ ?_
    simp only [laws_heldRangeS.l0, ml_Range, rdm_Range, w1, w2, w3, w4, w5, w6, wi]
    refine Ev.pos (by rw [List.length_append, List.length_cons]; omega) (Ev.pos (by omega) ?_)
    refine Ev.pos (by rfl) (Ev.bind (txt_ok (m + 1) (by omega)) (Ev.pos (by rfl) (Ev.bind (txt_ok (m + 2) (by omega)) (Ev.pos (by rfl) (Ev.pos (by rfl) (Ev.pos (by rfl) (Ev.pos (by rfl) (?_))))))))
    exact hh
theorem stp_len (l : List S30) (hl : l.length ≤ 64) (kind id : Int) (key : ByteArray) (node dst : Int) : (stp l kind id key node dst).1.length ≤ 200 := by
  unfold stp
  repeat' split
  all_goals first
    | (simp only [List.length_nil]; omega)
    | (simp only [put, List.length_append, List.length_take, List.length_drop, List.length_cons, List.length_nil]; omega)
theorem step_both (l : List S30) (hl : (l.length : Int) ≤ 1048576) (kind id : Int) (key : ByteArray) (node dst : Int) :
    ∃ (r : List S30) (c : Int), r.length ≤ 200 ∧ Ev (fun k => spec_RangeStep.f k l kind id key node dst) (r, c) ∧ Ev (fun k => impl_RangeStep.f k l kind id key node dst) (r, c) := by
  obtain ⟨b, b1, b2, b3⟩ := ok_alike l hl
  cases b with
  | false => exact ⟨[], 1, by simp, spec_bad l b1 kind id key node dst, impl_bad l b2 kind id key node dst⟩
  | true =>
    obtain ⟨k, hk⟩ := Ev.at b1
    have hg := good_of l k hk
    exact ⟨_, _, stp_len l hg.len.2 kind id key node dst, spec_stp l hg b1 kind id key node dst, impl_stp l hg b2 kind id key node dst⟩
theorem FnExactRangeStep (l : List S61) (a1_0 a1_1 : Int) (a1_2 : ByteArray) (a1_3 a1_4 : Int) (o : l.length ≤ 9223372036854775807 ∧ ∀ x ∈ l, (Lit.int .i64 x.f0).wf = true ∧ x.f1.size ≤ 9223372036854775807 ∧ x.f2.size ≤ 9223372036854775807 ∧ (Lit.int .i64 x.f3).wf = true ∧ (Lit.int .i64 x.f4).wf = true ∧ (Lit.int .i64 x.f5).wf = true) {P : Prop} (_ : P) :
    ∃ k, AllTold k l a1_0 a1_1 a1_2 a1_3 a1_4 := by
  obtain ⟨hl, hs⟩ := o
  obtain ⟨z, hz, hc⟩ := sz_ends l 1048576 (by omega) (by omega) hl (fun x hx => ⟨(hs x hx).2.1, (hs x hx).2.2.1⟩)
  obtain ⟨K0, f0⟩ := hz
  by_cases c : z < 0
  · exact ⟨K0, z, f0 _ (Nat.le_refl _), .inl c⟩
  have hl' : (l.length : Int) ≤ 1048576 := by omega
  have hm : ((l.map cv).length : Int) ≤ 1048576 := by rw [List.length_map]; exact hl'
  obtain ⟨t2, ht2⟩ : ∃ t2, laws_szRangeOp.f a1_0 a1_1 a1_2 a1_3 a1_4 z = some t2 := by
    unfold laws_szRangeOp.f
    split <;> exact ⟨_, rfl⟩
  by_cases c2 : t2 < 0
  · exact ⟨K0, z, f0 _ (Nat.le_refl _), .inr ⟨c, t2, ht2, .inl c2⟩⟩
  obtain ⟨r, cc, rl, e2, e3⟩ := step_both (l.map cv) hm a1_0 a1_1 a1_2 a1_3 a1_4
  have m1 := mark_Range (l.map cv).length [] (l.map cv) 1 rfl (by omega) (by omega) (by simp only [List.length_nil]; omega)
  have m2 := mark_Range r.length [] r 1 rfl (by omega) (by omega) (by simp only [List.length_nil]; omega)
  have h2 := held_Range r.length [] 1 (by omega) (by omega) (by simp only [List.length_nil]; omega)
  simp only [List.nil_append, List.length_nil] at m1 m2 h2
  obtain ⟨K1, f1⟩ := to_same l hl'
  obtain ⟨K2, f2⟩ := e2
  obtain ⟨K3, f3⟩ := e3
  obtain ⟨K4, f4⟩ := eq_same r (by omega)
  obtain ⟨K5, f5⟩ := eq_same (l.map cv) hm
  obtain ⟨K6, f6⟩ := m1
  obtain ⟨K7, f7⟩ := m2
  obtain ⟨K8, f8⟩ := h2
  refine ⟨K0 + K1 + K2 + K3 + K4 + K5 + K6 + K7 + K8, z, f0 _ (by omega), .inr ⟨c, t2, ht2, .inr ⟨c2, l.map cv, ml_Range 1 (l.map cv).length, r, ml_Range 1 r.length, cc, 1 + 6 * ((l.map cv).length : Int), 1 + 6 * (r.length : Int), f1 _ (by omega), f2 _ (by omega), f3 _ (by omega), f4 _ (by omega), f5 _ (by omega), ?_, ?_, ?_, ?_, ?_⟩⟩⟩
  · simp only [laws_markRangeS.f]
    exact f6 _ (by omega)
  · omega
  · simp only [laws_markRangeS.f]
    exact f7 _ (by omega)
  · simp only [laws_heldRangeS.f]
    exact f8 _ (by omega)
  · omega
end Go.Proofs.Ytdgleppagokjhaa.Pure
