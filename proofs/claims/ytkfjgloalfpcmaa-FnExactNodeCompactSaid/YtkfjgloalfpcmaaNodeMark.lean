/- Marks in a node: what is written is held. -/
import Derived.Test.YtkfjgloalfpcmaaStM
import Derived.Test.YtkfjgloalfpcmaaUtil
namespace Go.Proofs.Ytkfjgloalfpcmaa.QFnExactNodeOKM
set_option linter.unusedVariables false
set_option linter.unusedSimpArgs false
open Go.RowKit Go.Proofs.Ytkfjgloalfpcmaa.QFnExactNodeOK Go.Proofs.YtkfjgloalfpcmaaW.PrintWords Go.Proofs.YtkfjgloalfpcmaaU
/-! ### the text of a mark -/
theorem mt_loop (d : Nat) : ∀ (n : Nat) (acc : ByteArray), n < 10 ^ d → n < 9223372036854775808 → acc.size + d ≤ 1000 → ∃ t, Ev (fun k => laws_markText.l0 k (n : Int) acc) t := by
  induction d with
  | zero =>
    intro n acc hn hb ha
    obtain rfl : n = 0 := by omega
    refine ⟨(⟨#[109]⟩ : ByteArray) ++ acc, Ev.succ ?_⟩
    simp only [laws_markText.l0]
    exact Ev.neg (by omega) (Ev.pos (by omega) (Ev.some' rfl))
  | succ d ih =>
    intro n acc hn hb ha
    by_cases c : n = 0
    · subst c
      refine ⟨(⟨#[109]⟩ : ByteArray) ++ acc, Ev.succ ?_⟩
      simp only [laws_markText.l0]
      exact Ev.neg (by omega) (Ev.pos (by omega) (Ev.some' rfl))
    · have h1 : Int.tdiv (n : Int) 10 = ((n / 10 : Nat) : Int) := by rw [Int.tdiv_eq_ediv_of_nonneg (by omega)]; omega
      have h2 : n / 10 < 10 ^ d := by rw [Nat.pow_succ] at hn; omega
      have hz : ∀ z : Int, (strOfNums [z]).size = 1 := fun z => by rw [strOfNums_size]; rfl
      obtain ⟨t, ht⟩ := ih (n / 10) (strOfNums [(wrap64 (48 + (Int.tmod (n : Int) 10))) % 256] ++ acc) h2 (by omega) (by rw [ByteArray.size_append, hz]; omega)
      refine ⟨t, Ev.succ ?_⟩
      simp only [laws_markText.l0]
      refine Ev.pos (by omega) (Ev.bndc rfl (Ev.pos (by rw [hz]; omega) ?_))
      rw [h1, wrap_in ((n / 10 : Nat) : Int) (by omega) (by omega)]
      exact ht
theorem mt_some (x : Int) (h : x ≤ 9223372036854775807) : ∃ t, Ev (fun k => laws_markText.f k x) t := by
  simp only [laws_markText.f]
  by_cases c : x ≤ 0
  · exact ⟨_, Ev.pos c (Ev.some' rfl)⟩
  · obtain ⟨n, rfl⟩ := Int.eq_ofNat_of_zero_le (show 0 ≤ x by omega)
    obtain ⟨t, ht⟩ := mt_loop 19 n (⟨#[]⟩ : ByteArray) (by omega) (by omega) (by show (0 : Nat) + 19 ≤ 1000; omega)
    exact ⟨t, Ev.neg c ht⟩
open Classical in
noncomputable def txt (x : Int) : ByteArray := if h : ∃ t, Ev (fun k => laws_markText.f k x) t then h.choose else ByteArray.empty
theorem txt_ok (x : Int) (h : x ≤ 9223372036854775807) : Ev (fun k => laws_markText.f k x) (txt x) := by
  unfold txt
  rw [dif_pos (mt_some x h)]
  exact (mt_some x h).choose_spec
/-! ### marks in a slice of S54 -/
noncomputable def el_Entry (m : Int) : S54 := ⟨m, m + 1, txt (m + 2), m + 3, m + 4⟩
noncomputable def ml_Entry : Int → Nat → List S54
  | _, 0 => []
  | m, n + 1 => el_Entry m :: ml_Entry (m + 5) n
theorem rdm_Entry (pre rest : List S54) (a : S54) : rd_T54 (pre ++ a :: rest) (pre.length : Int) = a := by
  unfold rd_T54
  rw [Int.toNat_natCast, List.getD_eq_getElem?_getD, List.getElem?_append_right (Nat.le_refl _), Nat.sub_self]
  rfl
theorem stm_Entry (pre rest : List S54) (a b : S54) : (pre ++ a :: rest).set pre.length b = pre ++ b :: rest := by
  rw [List.set_append_right _ _ (Nat.le_refl _), Nat.sub_self]
  rfl
theorem mark_Entry (d : Nat) : ∀ (pre rest : List S54) (m : Int), rest.length = d → 0 ≤ m → m + 5 * (d : Int) ≤ 1000000000000 → (pre.length : Int) + d ≤ 1000000000000 →
    Ev (fun k => laws_markEntryS.l0 k (pre ++ rest) m (pre.length : Int)) (m + 5 * (d : Int), pre ++ ml_Entry m d) := by
  induction d with
  | zero =>
    intro pre rest m hr h0 h1 h2
    obtain rfl : rest = [] := List.length_eq_zero_iff.mp hr
    refine Ev.succ ?_
    simp only [laws_markEntryS.l0]
    refine Ev.neg (by simp) (Ev.some' ?_)
    simp [ml_Entry]
  | succ d ih =>
    intro pre rest m hr h0 h1 h2
    obtain ⟨a, rest, rfl⟩ : ∃ a r, rest = a :: r := by cases rest with | nil => cases hr | cons a r => exact ⟨a, r, rfl⟩
    rw [List.length_cons] at hr
    have w1 : wrap64 (m + 1) = m + 1 := by have := wrap_in (m + 1) (by omega) (by omega); omega
    have w2 : wrap64 (m + 1 + 1) = m + 2 := by have := wrap_in (m + 1 + 1) (by omega) (by omega); omega
    have w3 : wrap64 (m + 2 + 1) = m + 3 := by have := wrap_in (m + 2 + 1) (by omega) (by omega); omega
    have w4 : wrap64 (m + 3 + 1) = m + 4 := by have := wrap_in (m + 3 + 1) (by omega) (by omega); omega
    have w5 : wrap64 (m + 4 + 1) = m + 5 := by have := wrap_in (m + 4 + 1) (by omega) (by omega); omega
    have wi : wrap64 ((pre.length : Int) + 1) = ((pre ++ [el_Entry m]).length : Int) := by rw [wrap_in _ (by omega) (by omega), List.length_append]; simp
    have hh := ih (pre ++ [el_Entry m]) rest (m + 5) (by omega) (by omega) (by omega) (by rw [List.length_append, List.length_singleton]; omega)
    rw [show m + 5 + 5 * (d : Int) = m + 5 * ((d + 1 : Nat) : Int) by omega, List.append_assoc, List.append_assoc] at hh
    refine Ev.succ ?_
    simp only [laws_markEntryS.l0, w1, w2, w3, w4, w5, wi]
    refine Ev.pos (by rw [List.length_append, List.length_cons]; omega) (Ev.pos (by omega) ?_)
    refine Ev.bndc rfl (Ev.bndc rfl (Ev.bind (txt_ok (m + 2) (by omega)) (Ev.bndc rfl (Ev.bndc rfl (?_)))))
    simp only [Int.toNat_natCast, stm_Entry, rdm_Entry]
    exact hh
theorem held_Entry (d : Nat) : ∀ (pre : List S54) (m : Int), 0 ≤ m → m + 5 * (d : Int) ≤ 1000000000000 → (pre.length : Int) + d ≤ 1000000000000 →
    Ev (fun k => laws_heldEntryS.l0 k (pre ++ ml_Entry m d) m (pre.length : Int)) (m + 5 * (d : Int)) := by
  induction d with
  | zero =>
    intro pre m h0 h1 h2
    refine Ev.succ ?_
    simp only [laws_heldEntryS.l0]
    exact Ev.neg (by simp [ml_Entry]) (Ev.some' (by simp))
  | succ d ih =>
    intro pre m h0 h1 h2
    have w1 : wrap64 (m + 1) = m + 1 := by have := wrap_in (m + 1) (by omega) (by omega); omega
    have w2 : wrap64 (m + 1 + 1) = m + 2 := by have := wrap_in (m + 1 + 1) (by omega) (by omega); omega
    have w3 : wrap64 (m + 2 + 1) = m + 3 := by have := wrap_in (m + 2 + 1) (by omega) (by omega); omega
    have w4 : wrap64 (m + 3 + 1) = m + 4 := by have := wrap_in (m + 3 + 1) (by omega) (by omega); omega
    have w5 : wrap64 (m + 4 + 1) = m + 5 := by have := wrap_in (m + 4 + 1) (by omega) (by omega); omega
    have wi : wrap64 ((pre.length : Int) + 1) = ((pre ++ [el_Entry m]).length : Int) := by rw [wrap_in _ (by omega) (by omega), List.length_append]; simp
    have hh := ih (pre ++ [el_Entry m]) (m + 5) (by omega) (by omega) (by rw [List.length_append, List.length_singleton]; omega)
    rw [show m + 5 + 5 * (d : Int) = m + 5 * ((d + 1 : Nat) : Int) by omega, List.append_assoc] at hh
    refine Ev.succ ?_
    simp only [laws_heldEntryS.l0, ml_Entry, rdm_Entry, w1, w2, w3, w4, w5, wi]
    refine Ev.pos (by rw [List.length_append, List.length_cons]; omega) (Ev.pos (by omega) ?_)
    refine Ev.pos (by rfl) (Ev.pos (by rfl) (Ev.bind (txt_ok (m + 2) (by omega)) (Ev.pos (by rfl) (Ev.pos (by rfl) (Ev.pos (by rfl) (?_))))))
    exact hh
/-! ### marks in a slice of whole numbers, and in a node -/
def ml_Int : Int → Nat → List Int
  | _, 0 => []
  | m, n + 1 => m :: ml_Int (m + 1) n
theorem rdm_Int (pre rest : List Int) (a : Int) : rd (pre ++ a :: rest) (pre.length : Int) = a := by
  unfold rd
  rw [Int.toNat_natCast, List.getD_eq_getElem?_getD, List.getElem?_append_right (Nat.le_refl _), Nat.sub_self]
  rfl
theorem stm_Int (pre rest : List Int) (a b : Int) : (pre ++ a :: rest).set pre.length b = pre ++ b :: rest := by
  rw [List.set_append_right _ _ (Nat.le_refl _), Nat.sub_self]
  rfl
theorem mark_Int (d : Nat) : ∀ (pre rest : List Int) (m : Int), rest.length = d → 0 ≤ m → m + (d : Int) ≤ 1000000000000 → (pre.length : Int) + d ≤ 1000000000000 →
    Ev (fun k => laws_markIntS.l0 k (pre ++ rest) m (pre.length : Int)) (m + (d : Int), pre ++ ml_Int m d) := by
  induction d with
  | zero =>
    intro pre rest m hr h0 h1 h2
    obtain rfl : rest = [] := List.length_eq_zero_iff.mp hr
    refine Ev.succ ?_
    simp only [laws_markIntS.l0]
    refine Ev.neg (by simp) (Ev.some' ?_)
    simp [ml_Int]
  | succ d ih =>
    intro pre rest m hr h0 h1 h2
    obtain ⟨a, rest, rfl⟩ : ∃ a r, rest = a :: r := by cases rest with | nil => cases hr | cons a r => exact ⟨a, r, rfl⟩
    rw [List.length_cons] at hr
    have w1 : wrap64 (m + 1) = m + 1 := wrap_in (m + 1) (by omega) (by omega)
    have wi : wrap64 ((pre.length : Int) + 1) = ((pre ++ [m]).length : Int) := by rw [wrap_in _ (by omega) (by omega), List.length_append]; simp
    have hh := ih (pre ++ [m]) rest (m + 1) (by omega) (by omega) (by omega) (by rw [List.length_append, List.length_singleton]; omega)
    rw [show m + 1 + (d : Int) = m + ((d + 1 : Nat) : Int) by omega, List.append_assoc, List.append_assoc] at hh
    refine Ev.succ ?_
    simp only [laws_markIntS.l0, w1, wi]
    refine Ev.pos (by rw [List.length_append, List.length_cons]; omega) (Ev.pos (by omega) ?_)
    simp only [Int.toNat_natCast, stm_Int]
    exact hh
theorem held_Int (d : Nat) : ∀ (pre : List Int) (m : Int), 0 ≤ m → m + (d : Int) ≤ 1000000000000 → (pre.length : Int) + d ≤ 1000000000000 →
    Ev (fun k => laws_heldIntS.l0 k (pre ++ ml_Int m d) m (pre.length : Int)) (m + (d : Int)) := by
  induction d with
  | zero =>
    intro pre m h0 h1 h2
    refine Ev.succ ?_
    simp only [laws_heldIntS.l0]
    exact Ev.neg (by simp [ml_Int]) (Ev.some' (by simp))
  | succ d ih =>
    intro pre m h0 h1 h2
    have w1 : wrap64 (m + 1) = m + 1 := wrap_in (m + 1) (by omega) (by omega)
    have wi : wrap64 ((pre.length : Int) + 1) = ((pre ++ [m]).length : Int) := by rw [wrap_in _ (by omega) (by omega), List.length_append]; simp
    have hh := ih (pre ++ [m]) (m + 1) (by omega) (by omega) (by rw [List.length_append, List.length_singleton]; omega)
    rw [show m + 1 + (d : Int) = m + ((d + 1 : Nat) : Int) by omega, List.append_assoc] at hh
    refine Ev.succ ?_
    simp only [laws_heldIntS.l0, ml_Int, rdm_Int, w1, wi]
    exact Ev.pos (by rw [List.length_append, List.length_cons]; omega) (Ev.pos (by omega) (Ev.pos (by trivial) hh))
section
variable (a0 a1 a2 a3 a4 a6 a7 a8 a9 a10 a11 a12 a13 : Int)
theorem mark_node (l5 : List S54) (l14 l15 : List Int) (h5 : (l5.length : Int) ≤ 1048576) (h14 : (l14.length : Int) ≤ 1048576) (h15 : (l15.length : Int) ≤ 1048576) :
    Ev (fun k => laws_markNode.f k a0 a1 a2 a3 a4 l5 a6 a7 a8 a9 a10 a11 a12 a13 l14 l15 1)
      (1 + 5 * (l5.length : Int) + (l14.length : Int) + (l15.length : Int), ml_Entry 1 l5.length, ml_Int (1 + 5 * (l5.length : Int)) l14.length, ml_Int (1 + 5 * (l5.length : Int) + (l14.length : Int)) l15.length) := by
  simp only [laws_markNode.f, laws_markEntryS.f, laws_markIntS.f]
  have e5 := mark_Entry l5.length [] l5 1 rfl (by omega) (by omega) (by simp; omega)
  have e14 := mark_Int l14.length [] l14 (1 + 5 * (l5.length : Int)) rfl (by omega) (by omega) (by simp; omega)
  have e15 := mark_Int l15.length [] l15 (1 + 5 * (l5.length : Int) + (l14.length : Int)) rfl (by omega) (by omega) (by simp; omega)
  exact Ev.bind e5 (Ev.bind e14 (Ev.bind e15 (Ev.some' rfl)))
theorem held_node (n5 n14 n15 : Nat) (h5 : (n5 : Int) ≤ 1048576) (h14 : (n14 : Int) ≤ 1048576) (h15 : (n15 : Int) ≤ 1048576) :
    Ev (fun k => laws_heldNode.f k a0 a1 a2 a3 a4 (ml_Entry 1 n5) a6 a7 a8 a9 a10 a11 a12 a13 (ml_Int (1 + 5 * (n5 : Int)) n14) (ml_Int (1 + 5 * (n5 : Int) + (n14 : Int)) n15) 1)
      (1 + 5 * (n5 : Int) + (n14 : Int) + (n15 : Int)) := by
  simp only [laws_heldNode.f, laws_heldEntryS.f, laws_heldIntS.f]
  have e5 := held_Entry n5 [] 1 (by omega) (by omega) (by simp; omega)
  have e14 := held_Int n14 [] (1 + 5 * (n5 : Int)) (by omega) (by omega) (by simp; omega)
  have e15 := held_Int n15 [] (1 + 5 * (n5 : Int) + (n14 : Int)) (by omega) (by omega) (by simp; omega)
  exact Ev.bind e5 (Ev.neg (by omega) (Ev.bind e14 (Ev.neg (by omega) (Ev.bind e15 (Ev.neg (by omega) (Ev.some' rfl))))))
end

end Go.Proofs.Ytkfjgloalfpcmaa.QFnExactNodeOKM
