/- The program's KeyValues and the reference's answer alike at every text; the answer owns its memory. No condition. -/
import Derived.Test.YtjplogeifleojaaKvS
namespace Go.Proofs.Ytjplogeifleojaa.Pure
set_option linter.unusedVariables false
set_option linter.unusedSimpArgs false
open Go.RowKit Go.Proofs.Ytjplogeifleojaa.QFnExactKeyValues Go.Proofs.YtjplogeifleojaaW.PrintWords Go.Proofs.YtjplogeifleojaaW.PrintMore Go.Proofs.YtjplogeifleojaaU Go.Proofs.Ytjplogeifleojaa.QFnExactKeyValuesB
/-! ### a slice of S42 is the same as itself -/
theorem eqOne_Value (x : S42) : laws_eqValue.f x.f0 x.f1 x.f2 x.f3 x.f0 x.f1 x.f2 x.f3 = some true := by
  unfold laws_eqValue.f
  simp
theorem eqfrom_Value (l : List S42) (hl : (l.length : Int) ≤ 1048576) (d : Nat) : ∀ (i : Int), 0 ≤ i → i ≤ l.length → (l.length : Int) - i = d → Ev (fun k => laws_eqValueS.l0 k l l i) true := by
  induction d with
  | zero =>
    intro i h0 h1 hd
    exact Ev.succ (by simp only [laws_eqValueS.l0]; exact Ev.neg (by omega) (Ev.some' rfl))
  | succ d ih =>
    intro i h0 h1 hd
    refine Ev.succ ?_
    simp only [laws_eqValueS.l0]
    refine Ev.pos (by omega) (Ev.pos h0 (Ev.pos (by omega) (Ev.bndc (b := true) (eqOne_Value _) (Ev.pos rfl ?_))))
    rw [wrap_in (i + 1) (by omega) (by omega)]
    exact ih (i + 1) (by omega) (by omega) (by omega)
theorem eq_Value (l : List S42) (hl : (l.length : Int) ≤ 1048576) : Ev (fun k => laws_eqValueS.f k l l) true := by
  simp only [laws_eqValueS.f]
  exact Ev.pos (by trivial) (eqfrom_Value l hl l.length 0 (by omega) (by omega) (by omega))
/-! ### the text of a mark -/
theorem mt_loop (d : Nat) : ∀ (n : Nat) (acc : ByteArray), n < 10 ^ d → n < 9223372036854775808 → acc.size + d ≤ 1000 → ∃ t, Ev (fun k => laws_markText.l0 k (n : Int) acc) t := by
  induction d with
  | zero =>
    intro n acc hn hb ha
    obtain rfl : n = 0 := by omega
    refine ⟨(⟨#[109]⟩ : ByteArray) ++ acc, Ev.succ ?_⟩
    simp only [laws_markText.l0]
    exact Ev.neg (by omega) (Ev.pos (by omega) (Ev.some' rfl))
  | succ d ih =>
    intro n acc hn hb ha
    by_cases c : n = 0
    · subst c
      refine ⟨(⟨#[109]⟩ : ByteArray) ++ acc, Ev.succ ?_⟩
      simp only [laws_markText.l0]
      exact Ev.neg (by omega) (Ev.pos (by omega) (Ev.some' rfl))
    · have h1 : Int.tdiv (n : Int) 10 = ((n / 10 : Nat) : Int) := by rw [Int.tdiv_eq_ediv_of_nonneg (by omega)]; omega
      have h2 : n / 10 < 10 ^ d := by rw [Nat.pow_succ] at hn; omega
      have hz : ∀ z : Int, (strOfNums [z]).size = 1 := fun z => by rw [strOfNums_size]; rfl
      obtain ⟨t, ht⟩ := ih (n / 10) (strOfNums [(wrap64 (48 + (Int.tmod (n : Int) 10))) % 256] ++ acc) h2 (by omega) (by rw [ByteArray.size_append, hz]; omega)
      refine ⟨t, Ev.succ ?_⟩
      simp only [laws_markText.l0]
      refine Ev.pos (by omega) (Ev.bndc rfl (Ev.pos (by rw [hz]; omega) ?_))
      rw [h1, wrap_in ((n / 10 : Nat) : Int) (by omega) (by omega)]
      exact ht
theorem mt_some (x : Int) (h : x ≤ 9223372036854775807) : ∃ t, Ev (fun k => laws_markText.f k x) t := by
  simp only [laws_markText.f]
  by_cases c : x ≤ 0
  · exact ⟨_, Ev.pos c (Ev.some' rfl)⟩
  · obtain ⟨n, rfl⟩ := Int.eq_ofNat_of_zero_le (show 0 ≤ x by omega)
    obtain ⟨t, ht⟩ := mt_loop 19 n (⟨#[]⟩ : ByteArray) (by omega) (by omega) (by show (0 : Nat) + 19 ≤ 1000; omega)
    exact ⟨t, Ev.neg c ht⟩
open Classical in
noncomputable def txt (x : Int) : ByteArray := if h : ∃ t, Ev (fun k => laws_markText.f k x) t then h.choose else ByteArray.empty
theorem txt_ok (x : Int) (h : x ≤ 9223372036854775807) : Ev (fun k => laws_markText.f k x) (txt x) := by
  unfold txt
  rw [dif_pos (mt_some x h)]
  exact (mt_some x h).choose_spec
/-! ### marks in a slice of S42 -/
noncomputable def el_Value (m : Int) : S42 := ⟨m, m + 1, m + 2, txt (m + 3)⟩
noncomputable def ml_Value : Int → Nat → List S42
  | _, 0 => []
  | m, n + 1 => el_Value m :: ml_Value (m + 4) n
theorem rdm_Value (pre rest : List S42) (a : S42) : rd_T42 (pre ++ a :: rest) (pre.length : Int) = a := by
  unfold rd_T42
  rw [Int.toNat_natCast, List.getD_eq_getElem?_getD, List.getElem?_append_right (Nat.le_refl _), Nat.sub_self]
  rfl
theorem stm_Value (pre rest : List S42) (a b : S42) : (pre ++ a :: rest).set pre.length b = pre ++ b :: rest := by
  rw [List.set_append_right _ _ (Nat.le_refl _), Nat.sub_self]
  rfl
theorem mark_Value (d : Nat) : ∀ (pre rest : List S42) (m : Int), rest.length = d → 0 ≤ m → m + 4 * (d : Int) ≤ 1000000000000 → (pre.length : Int) + d ≤ 1000000000000 →
    Ev (fun k => laws_markValueS.l0 k (pre ++ rest) m (pre.length : Int)) (m + 4 * (d : Int), pre ++ ml_Value m d) := by
  induction d with
  | zero =>
    intro pre rest m hr h0 h1 h2
    obtain rfl : rest = [] := List.length_eq_zero_iff.mp hr
    refine Ev.succ ?_
    simp only [laws_markValueS.l0]
    refine Ev.neg (by simp) (Ev.some' ?_)
    simp [ml_Value]
  | succ d ih =>
    intro pre rest m hr h0 h1 h2
    obtain ⟨a, rest, rfl⟩ : ∃ a r, rest = a :: r := by cases rest with | nil => cases hr | cons a r => exact ⟨a, r, rfl⟩
    rw [List.length_cons] at hr
    have w1 : wrap64 (m + 1) = m + 1 := by have := wrap_in (m + 1) (by omega) (by omega); omega
    have w2 : wrap64 (m + 1 + 1) = m + 2 := by have := wrap_in (m + 1 + 1) (by omega) (by omega); omega
    have w3 : wrap64 (m + 2 + 1) = m + 3 := by have := wrap_in (m + 2 + 1) (by omega) (by omega); omega
    have w4 : wrap64 (m + 3 + 1) = m + 4 := by have := wrap_in (m + 3 + 1) (by omega) (by omega); omega
    have wi : wrap64 ((pre.length : Int) + 1) = ((pre ++ [el_Value m]).length : Int) := by rw [wrap_in _ (by omega) (by omega), List.length_append]; simp
    have hh := ih (pre ++ [el_Value m]) rest (m + 4) (by omega) (by omega) (by omega) (by rw [List.length_append, List.length_singleton]; omega)
    rw [show m + 4 + 4 * (d : Int) = m + 4 * ((d + 1 : Nat) : Int) by omega, List.append_assoc, List.append_assoc] at hh
    refine Ev.succ ?_
    simp only [laws_markValueS.l0, w1, w2, w3, w4, wi]
    refine Ev.pos (by rw [List.length_append, List.length_cons]; omega) (Ev.pos (by omega) ?_)
    refine Ev.bndc rfl (Ev.bndc rfl (Ev.bndc rfl (Ev.bind (txt_ok (m + 3) (by omega)) (?_))))
    simp only [Int.toNat_natCast, stm_Value, rdm_Value]
    exact hh
theorem held_Value (d : Nat) : ∀ (pre : List S42) (m : Int), 0 ≤ m → m + 4 * (d : Int) ≤ 1000000000000 → (pre.length : Int) + d ≤ 1000000000000 →
    Ev (fun k => laws_heldValueS.l0 k (pre ++ ml_Value m d) m (pre.length : Int)) (m + 4 * (d : Int)) := by
  induction d with
  | zero =>
    intro pre m h0 h1 h2
    refine Ev.succ ?_
    simp only [laws_heldValueS.l0]
    exact Ev.neg (by simp [ml_Value]) (Ev.some' (by simp))
  | succ d ih =>
    intro pre m h0 h1 h2
    have w1 : wrap64 (m + 1) = m + 1 := by have := wrap_in (m + 1) (by omega) (by omega); omega
    have w2 : wrap64 (m + 1 + 1) = m + 2 := by have := wrap_in (m + 1 + 1) (by omega) (by omega); omega
    have w3 : wrap64 (m + 2 + 1) = m + 3 := by have := wrap_in (m + 2 + 1) (by omega) (by omega); omega
    have w4 : wrap64 (m + 3 + 1) = m + 4 := by have := wrap_in (m + 3 + 1) (by omega) (by omega); omega
    have wi : wrap64 ((pre.length : Int) + 1) = ((pre ++ [el_Value m]).length : Int) := by rw [wrap_in _ (by omega) (by omega), List.length_append]; simp
    have hh := ih (pre ++ [el_Value m]) (m + 4) (by omega) (by omega) (by rw [List.length_append, List.length_singleton]; omega)
    rw [show m + 4 + 4 * (d : Int) = m + 4 * ((d + 1 : Nat) : Int) by omega, List.append_assoc] at hh
    refine Ev.succ ?_
    simp only [laws_heldValueS.l0, ml_Value, rdm_Value, w1, w2, w3, w4, wi]
    refine Ev.pos (by rw [List.length_append, List.length_cons]; omega) (Ev.pos (by omega) ?_)
    refine Ev.pos (by rfl) (Ev.pos (by rfl) (Ev.pos (by rfl) (Ev.bind (txt_ok (m + 3) (by omega)) (Ev.pos (by rfl) (?_)))))
    exact hh
theorem FnExactKeyValues (s : ByteArray) (o : s.size ≤ 140737488351232) : ∃ k, laws_FnExactKeyValues.f k s = some true := by
  obtain ⟨⟨l, c⟩, r1, r2, r3⟩ := kv_both s
  have hm : (l.length : Int) ≤ 1048576 := by have : l.length ≤ 16 := r3; omega
  have m1 := mark_Value l.length [] l 1 rfl (by omega) (by omega) (by simp only [List.length_nil]; omega)
  have h2 := held_Value l.length [] 1 (by omega) (by omega) (by simp only [List.length_nil]; omega)
  simp only [List.nil_append, List.length_nil] at m1 h2
  refine Ev.at ?_
  simp only [laws_FnExactKeyValues.f]
  by_cases c0 : (s.size : Int) > 1048576
  · exact Ev.pos c0 (Ev.some' rfl)
  refine Ev.neg c0 (Ev.bind r1 (Ev.bind r2 (Ev.bind (eq_Value l hm) (Ev.pos (by trivial) ?_))))
  rw [bne_self_eq_false]
  refine Ev.succ ?_
  simp only [laws_FnExactKeyValues.j0]
  refine Ev.neg (by simp) (Ev.bind (by simp only [laws_markValueS.f]; exact m1) (Ev.bind (by simp only [laws_heldValueS.f]; exact h2) (Ev.neg (by omega) (Ev.pos rfl ?_))))
  refine Ev.bind r2 (Ev.bind (eq_Value l hm) (Ev.pos (by trivial) ?_))
  rw [bne_self_eq_false]
  refine Ev.succ ?_
  simp only [laws_FnExactKeyValues.j1]
  exact Ev.neg (by simp) (Ev.bind (by simp only [laws_heldValueS.f]; exact h2) (Ev.neg (by omega) (Ev.pos rfl (Ev.some' rfl))))
end Go.Proofs.Ytjplogeifleojaa.Pure
