/- The program's AdmitRun and the reference's answer alike at every list of operations, and what is answered is the call's own. No condition. -/
import Derived.Test.YtjnhbegppjeafaaAdmD
import Derived.Test.YtjnhbegppjeafaaAdmW
namespace Go.Proofs.Ytjnhbegppjeafaa.Pure
set_option linter.unusedVariables false
set_option linter.unusedSimpArgs false
open Go.RowKit Go.Proofs.Ytjnhbegppjeafaa.QFnExactAdmitRun Go.Proofs.Ytjnhbegppjeafaa.QFnAdmD Go.Proofs.YtjnhbegppjeafaaW.PrintWords Go.Proofs.YtjnhbegppjeafaaU
/-! ### the copy of a slice of S84 -/
def cv_AdmitOp (x : S84) : S58 := ⟨x.f0, x.f1, x.f2⟩
theorem rdto_AdmitOp (l : List S84) (i : Nat) (h : i < l.length) : rd_T84 l (i : Int) = l[i] := by
  unfold rd_T84
  rw [Int.toNat_natCast, List.getD_eq_getElem?_getD, List.getElem?_eq_getElem h]
  rfl
theorem tofrom_AdmitOp (l : List S84) (hl : (l.length : Int) ≤ 1048576) (d : Nat) : ∀ (i : Nat), i ≤ l.length → l.length - i = d →
    Ev (fun k => laws_toAdmitOpS.l0 k l ((l.take i).map cv_AdmitOp ++ List.replicate (l.length - i) z58) (i : Int)) (l.map cv_AdmitOp) := by
  induction d with
  | zero =>
    intro i h1 hd
    have hi : i = l.length := by omega
    refine Ev.succ ?_
    simp only [laws_toAdmitOpS.l0]
    refine Ev.neg (by omega) (Ev.some' ?_)
    subst hi
    rw [fill_all]
  | succ d ih =>
    intro i h1 hd
    refine Ev.succ ?_
    simp only [laws_toAdmitOpS.l0]
    refine Ev.pos (by omega) (Ev.pos (by omega) (Ev.bndc rfl (Ev.pos (by rw [fill_len cv_AdmitOp _ l i h1]; omega) ?_)))
    rw [wrap_in ((i : Int) + 1) (by omega) (by omega), rdto_AdmitOp l _ (by omega)]
    have := ih (i + 1) (by omega) (by omega)
    have e := fill_set cv_AdmitOp z58 l i (by omega)
    simp only [Int.toNat_natCast]
    rw [show (⟨(l[i]).f0, (l[i]).f1, (l[i]).f2⟩ : S58) = cv_AdmitOp l[i] from rfl, e]
    exact this
theorem to_AdmitOp (l : List S84) (hl : (l.length : Int) ≤ 1048576) : Ev (fun k => laws_toAdmitOpS.f k l) (l.map cv_AdmitOp) := by
  simp only [laws_toAdmitOpS.f]
  refine Ev.pos (by omega) (Ev.pos (by omega) ?_)
  have := tofrom_AdmitOp l hl l.length 0 (by omega) (by omega)
  rw [← fill_zero] at this
  simpa using this
/-! ### a slice of S58 is the same as itself -/
theorem eqOne_AdmitOp (x : S58) : laws_eqAdmitOp.f x.f0 x.f1 x.f2 x.f0 x.f1 x.f2 = some true := by
  unfold laws_eqAdmitOp.f
  simp
theorem eqfrom_AdmitOp (l : List S58) (hl : (l.length : Int) ≤ 1048576) (d : Nat) : ∀ (i : Int), 0 ≤ i → i ≤ l.length → (l.length : Int) - i = d → Ev (fun k => laws_eqAdmitOpS.l0 k l l i) true := by
  induction d with
  | zero =>
    intro i h0 h1 hd
    exact Ev.succ (by simp only [laws_eqAdmitOpS.l0]; exact Ev.neg (by omega) (Ev.some' rfl))
  | succ d ih =>
    intro i h0 h1 hd
    refine Ev.succ ?_
    simp only [laws_eqAdmitOpS.l0]
    refine Ev.pos (by omega) (Ev.pos h0 (Ev.pos (by omega) (Ev.bndc (b := true) (eqOne_AdmitOp _) (Ev.pos rfl ?_))))
    rw [wrap_in (i + 1) (by omega) (by omega)]
    exact ih (i + 1) (by omega) (by omega) (by omega)
theorem eq_AdmitOp (l : List S58) (hl : (l.length : Int) ≤ 1048576) : Ev (fun k => laws_eqAdmitOpS.f k l l) true := by
  simp only [laws_eqAdmitOpS.f]
  exact Ev.pos (by trivial) (eqfrom_AdmitOp l hl l.length 0 (by omega) (by omega) (by omega))
/-! ### marks in a slice of S58 -/
def el_AdmitOp (m : Int) : S58 := ⟨m, m + 1, m + 2⟩
def ml_AdmitOp : Int → Nat → List S58
  | _, 0 => []
  | m, n + 1 => el_AdmitOp m :: ml_AdmitOp (m + 3) n
theorem rdm_AdmitOp (pre rest : List S58) (a : S58) : rd_T58 (pre ++ a :: rest) (pre.length : Int) = a := by
  unfold rd_T58
  rw [Int.toNat_natCast, List.getD_eq_getElem?_getD, List.getElem?_append_right (Nat.le_refl _), Nat.sub_self]
  rfl
theorem stm_AdmitOp (pre rest : List S58) (a b : S58) : (pre ++ a :: rest).set pre.length b = pre ++ b :: rest := by
  rw [List.set_append_right _ _ (Nat.le_refl _), Nat.sub_self]
  rfl
theorem mark_AdmitOp (d : Nat) : ∀ (pre rest : List S58) (m : Int), rest.length = d → 0 ≤ m → m + 3 * (d : Int) ≤ 1000000000000 → (pre.length : Int) + d ≤ 1000000000000 →
    Ev (fun k => laws_markAdmitOpS.l0 k (pre ++ rest) m (pre.length : Int)) (m + 3 * (d : Int), pre ++ ml_AdmitOp m d) := by
  induction d with
  | zero =>
    intro pre rest m hr h0 h1 h2
    obtain rfl : rest = [] := List.length_eq_zero_iff.mp hr
    refine Ev.succ ?_
    simp only [laws_markAdmitOpS.l0]
    refine Ev.neg (by simp) (Ev.some' ?_)
    simp [ml_AdmitOp]
  | succ d ih =>
    intro pre rest m hr h0 h1 h2
    obtain ⟨a, rest, rfl⟩ : ∃ a r, rest = a :: r := by cases rest with | nil => cases hr | cons a r => exact ⟨a, r, rfl⟩
    rw [List.length_cons] at hr
    have w1 : wrap64 (m + 1) = m + 1 := by have := wrap_in (m + 1) (by omega) (by omega); omega
    have w2 : wrap64 (m + 1 + 1) = m + 2 := by have := wrap_in (m + 1 + 1) (by omega) (by omega); omega
    have w3 : wrap64 (m + 2 + 1) = m + 3 := by have := wrap_in (m + 2 + 1) (by omega) (by omega); omega
    have wi : wrap64 ((pre.length : Int) + 1) = ((pre ++ [el_AdmitOp m]).length : Int) := by rw [wrap_in _ (by omega) (by omega), List.length_append]; simp
    have hh := ih (pre ++ [el_AdmitOp m]) rest (m + 3) (by omega) (by omega) (by omega) (by rw [List.length_append, List.length_singleton]; omega)
    rw [show m + 3 + 3 * (d : Int) = m + 3 * ((d + 1 : Nat) : Int) by omega, List.append_assoc, List.append_assoc] at hh
    refine Ev.succ ?_
    simp only [laws_markAdmitOpS.l0, w1, w2, w3, wi]
    refine Ev.pos (by rw [List.length_append, List.length_cons]; omega) (Ev.pos (by omega) ?_)
    refine Ev.bndc rfl (Ev.bndc rfl (?_))
    simp only [Int.toNat_natCast, stm_AdmitOp, rdm_AdmitOp]
    exact hh
theorem ints_eq_from (l : List Int) (hl : l.length ≤ 1048576) (d : Nat) : ∀ i : Nat, i ≤ l.length → l.length - i = d → Ev (fun k => laws_eqIntS.l0 k l l i) true := by
  induction d with
  | zero =>
    intro i hi hd
    refine Ev.succ ?_
    simp only [laws_eqIntS.l0]
    exact Ev.neg (by omega) (Ev.some' rfl)
  | succ d ih =>
    intro i hi hd
    refine Ev.succ ?_
    simp only [laws_eqIntS.l0]
    refine Ev.pos (by omega) (Ev.pos (by omega) (Ev.pos (by omega) (Ev.pos (by trivial) ?_)))
    rw [wrap_in _ (by omega) (by omega)]
    exact ih (i + 1) (by omega) (by omega)
theorem ints_eq (l : List Int) (hl : l.length ≤ 1048576) : Ev (fun k => laws_eqIntS.f k l l) true := by
  simp only [laws_eqIntS.f]
  exact Ev.pos (by trivial) (ints_eq_from l hl l.length 0 (by omega) (by omega))

/-! ### marks in a slice of whole numbers, and in a node -/
def ml_Int : Int → Nat → List Int
  | _, 0 => []
  | m, n + 1 => m :: ml_Int (m + 1) n
theorem rdm_Int (pre rest : List Int) (a : Int) : rd (pre ++ a :: rest) (pre.length : Int) = a := by
  unfold rd
  rw [Int.toNat_natCast, List.getD_eq_getElem?_getD, List.getElem?_append_right (Nat.le_refl _), Nat.sub_self]
  rfl
theorem stm_Int (pre rest : List Int) (a b : Int) : (pre ++ a :: rest).set pre.length b = pre ++ b :: rest := by
  rw [List.set_append_right _ _ (Nat.le_refl _), Nat.sub_self]
  rfl
theorem mark_Int (d : Nat) : ∀ (pre rest : List Int) (m : Int), rest.length = d → 0 ≤ m → m + (d : Int) ≤ 1000000000000 → (pre.length : Int) + d ≤ 1000000000000 →
    Ev (fun k => laws_markIntS.l0 k (pre ++ rest) m (pre.length : Int)) (m + (d : Int), pre ++ ml_Int m d) := by
  induction d with
  | zero =>
    intro pre rest m hr h0 h1 h2
    obtain rfl : rest = [] := List.length_eq_zero_iff.mp hr
    refine Ev.succ ?_
    simp only [laws_markIntS.l0]
    refine Ev.neg (by simp) (Ev.some' ?_)
    simp [ml_Int]
  | succ d ih =>
    intro pre rest m hr h0 h1 h2
    obtain ⟨a, rest, rfl⟩ : ∃ a r, rest = a :: r := by cases rest with | nil => cases hr | cons a r => exact ⟨a, r, rfl⟩
    rw [List.length_cons] at hr
    have w1 : wrap64 (m + 1) = m + 1 := wrap_in (m + 1) (by omega) (by omega)
    have wi : wrap64 ((pre.length : Int) + 1) = ((pre ++ [m]).length : Int) := by rw [wrap_in _ (by omega) (by omega), List.length_append]; simp
    have hh := ih (pre ++ [m]) rest (m + 1) (by omega) (by omega) (by omega) (by rw [List.length_append, List.length_singleton]; omega)
    rw [show m + 1 + (d : Int) = m + ((d + 1 : Nat) : Int) by omega, List.append_assoc, List.append_assoc] at hh
    refine Ev.succ ?_
    simp only [laws_markIntS.l0, w1, wi]
    refine Ev.pos (by rw [List.length_append, List.length_cons]; omega) (Ev.pos (by omega) ?_)
    simp only [Int.toNat_natCast, stm_Int]
    exact hh
theorem held_Int (d : Nat) : ∀ (pre : List Int) (m : Int), 0 ≤ m → m + (d : Int) ≤ 1000000000000 → (pre.length : Int) + d ≤ 1000000000000 →
    Ev (fun k => laws_heldIntS.l0 k (pre ++ ml_Int m d) m (pre.length : Int)) (m + (d : Int)) := by
  induction d with
  | zero =>
    intro pre m h0 h1 h2
    refine Ev.succ ?_
    simp only [laws_heldIntS.l0]
    exact Ev.neg (by simp [ml_Int]) (Ev.some' (by simp))
  | succ d ih =>
    intro pre m h0 h1 h2
    have w1 : wrap64 (m + 1) = m + 1 := wrap_in (m + 1) (by omega) (by omega)
    have wi : wrap64 ((pre.length : Int) + 1) = ((pre ++ [m]).length : Int) := by rw [wrap_in _ (by omega) (by omega), List.length_append]; simp
    have hh := ih (pre ++ [m]) (m + 1) (by omega) (by omega) (by rw [List.length_append, List.length_singleton]; omega)
    rw [show m + 1 + (d : Int) = m + ((d + 1 : Nat) : Int) by omega, List.append_assoc] at hh
    refine Ev.succ ?_
    simp only [laws_heldIntS.l0, ml_Int, rdm_Int, w1, wi]
    exact Ev.pos (by rw [List.length_append, List.length_cons]; omega) (Ev.pos (by omega) (Ev.pos (by trivial) hh))
theorem rdm_Obs (pre rest : List S56) (a : S56) : rd_T56 (pre ++ a :: rest) (pre.length : Int) = a := by
  unfold rd_T56
  rw [Int.toNat_natCast, List.getD_eq_getElem?_getD, List.getElem?_append_right (Nat.le_refl _), Nat.sub_self]
  rfl
theorem stm_Obs (pre rest : List S56) (a b : S56) : (pre ++ a :: rest).set pre.length b = pre ++ b :: rest := by
  rw [List.set_append_right _ _ (Nat.le_refl _), Nat.sub_self]
  rfl
def mlo : Int → List S56 → List S56
  | _, [] => []
  | m, x :: xs => ⟨m, m + 1, ml_Int (m + 2) x.f2.length⟩ :: mlo (m + 2 + (x.f2.length : Int)) xs
def mend : Int → List S56 → Int
  | m, [] => m
  | m, x :: xs => mend (m + 2 + (x.f2.length : Int)) xs
theorem mend_ge : ∀ (l : List S56) (m : Int), m ≤ mend m l
  | [], m => Int.le_refl m
  | x :: xs, m => by
    have := mend_ge xs (m + 2 + (x.f2.length : Int))
    show m ≤ mend (m + 2 + (x.f2.length : Int)) xs
    omega
theorem mark_obs : ∀ (rest pre : List S56) (m : Int), (∀ x ∈ rest, x.f2.length ≤ 50) → pre.length + rest.length ≤ 500 → 0 ≤ m → m + 52 * (rest.length : Int) ≤ 1000000 →
    Ev (fun k => laws_markAdmitObsS.l0 k (pre ++ rest) m (pre.length : Int)) (mend m rest, pre ++ mlo m rest)
  | [], pre, m, _, _, _, _ => by
    refine Ev.succ ?_
    simp only [laws_markAdmitObsS.l0]
    exact Ev.neg (by simp) (Ev.some' (by simp [mend, mlo]))
  | a :: rest, pre, m, hs, hl, h0, h1 => by
    have ha := hs a (by simp)
    rw [List.length_cons] at hl h1
    have w1 : wrap64 (m + 1) = m + 1 := wrap_in _ (by omega) (by omega)
    have w2 : wrap64 (m + 1 + 1) = m + 2 := by have := wrap_in (m + 1 + 1) (by omega) (by omega); omega
    have wi : wrap64 ((pre.length : Int) + 1) = ((pre ++ [(⟨m, m + 1, ml_Int (m + 2) a.f2.length⟩ : S56)]).length : Int) := by rw [wrap_in _ (by omega) (by omega), List.length_append]; simp
    have e := mark_Int a.f2.length [] a.f2 (m + 2) rfl (by omega) (by omega) (by simp only [List.length_nil]; omega)
    have hh := mark_obs rest (pre ++ [(⟨m, m + 1, ml_Int (m + 2) a.f2.length⟩ : S56)]) (m + 2 + (a.f2.length : Int)) (fun x hx => hs x (by simp [hx])) (by rw [List.length_append, List.length_singleton]; omega) (by omega) (by omega)
    rw [List.append_assoc, List.append_assoc] at hh
    refine Ev.succ ?_
    simp only [laws_markAdmitObsS.l0, w1, w2, wi, laws_markIntS.f]
    rw [rdm_Obs]
    refine Ev.pos (by rw [List.length_append, List.length_cons]; omega) (Ev.pos (by omega) (Ev.bind e ?_))
    simp only [Int.toNat_natCast, stm_Obs, List.nil_append]
    exact hh
theorem held_obs : ∀ (rest pre : List S56) (m : Int), (∀ x ∈ rest, x.f2.length ≤ 50) → pre.length + rest.length ≤ 500 → 0 ≤ m → m + 52 * (rest.length : Int) ≤ 1000000 →
    Ev (fun k => laws_heldAdmitObsS.l0 k (pre ++ mlo m rest) m (pre.length : Int)) (mend m rest)
  | [], pre, m, _, _, _, _ => by
    refine Ev.succ ?_
    simp only [laws_heldAdmitObsS.l0]
    exact Ev.neg (by simp [mlo]) (Ev.some' (by simp [mend]))
  | a :: rest, pre, m, hs, hl, h0, h1 => by
    have ha := hs a (by simp)
    rw [List.length_cons] at hl h1
    have w1 : wrap64 (m + 1) = m + 1 := wrap_in _ (by omega) (by omega)
    have w2 : wrap64 (m + 1 + 1) = m + 2 := by have := wrap_in (m + 1 + 1) (by omega) (by omega); omega
    have wi : wrap64 ((pre.length : Int) + 1) = ((pre ++ [(⟨m, m + 1, ml_Int (m + 2) a.f2.length⟩ : S56)]).length : Int) := by rw [wrap_in _ (by omega) (by omega), List.length_append]; simp
    have e := held_Int a.f2.length [] (m + 2) (by omega) (by omega) (by simp only [List.length_nil]; omega)
    have hh := held_obs rest (pre ++ [(⟨m, m + 1, ml_Int (m + 2) a.f2.length⟩ : S56)]) (m + 2 + (a.f2.length : Int)) (fun x hx => hs x (by simp [hx])) (by rw [List.length_append, List.length_singleton]; omega) (by omega) (by omega)
    rw [List.append_assoc] at hh
    refine Ev.succ ?_
    simp only [laws_heldAdmitObsS.l0, mlo, w1, w2, wi, laws_heldIntS.f]
    rw [rdm_Obs]
    exact Ev.pos (by rw [List.length_append, List.length_cons]; omega) (Ev.pos (by omega) (Ev.pos rfl (Ev.pos rfl (Ev.bind e (Ev.neg (by omega) hh)))))
theorem eqo_from (l : List S56) (hl : l.length ≤ 500) (hs : ∀ x ∈ l, x.f2.length ≤ 50) (d : Nat) : ∀ (i : Nat), i + d = l.length → Ev (fun k => laws_eqAdmitObsS.l0 k l l (i : Int)) true := by
  induction d with
  | zero =>
    intro i hi
    exact Ev.succ (by simp only [laws_eqAdmitObsS.l0]; exact Ev.neg (by omega) (Ev.some' rfl))
  | succ d ih =>
    intro i hi
    have hlt : i < l.length := by omega
    have h2 := hs l[i] (List.getElem_mem hlt)
    have hr : rd_T56 l (i : Int) = l[i] := by
      unfold rd_T56
      rw [Int.toNat_natCast, getD_get _ _ _ hlt]
    refine Ev.succ ?_
    simp only [laws_eqAdmitObsS.l0, laws_eqAdmitObs.f]
    rw [hr]
    refine Ev.pos (by omega) (Ev.pos (by omega) (Ev.pos (by omega) (Ev.bind (a := true) (Ev.pos (by trivial) (Ev.pos (by trivial) (Ev.bind (ints_eq _ (by omega)) (Ev.pos (by trivial) (Ev.some' rfl))))) (Ev.pos (by trivial) ?_))))
    rw [show wrap64 ((i : Int) + 1) = ((i + 1 : Nat) : Int) by rw [wrap_in _ (by omega) (by omega)]; omega]
    exact ih (i + 1) (by omega)
theorem run_len (x0 x1 : Int) : ∀ (os : List S58) (l : List S78) (t id : Int), (run x0 x1 os l t id).length = os.length
  | [], _, _, _ => rfl
  | o :: os, l, t, id => by
    simp only [run, List.length_cons]
    rw [run_len x0 x1 os]
theorem run_small (x0 x1 : Int) (h0 : 1 ≤ x0) (h1 : 1 ≤ x1) : ∀ (os : List S58) (l : List S78) (t id : Int) (n : Nat), Inv x1 l t id n → ∀ x ∈ run x0 x1 os l t id, x.f2.length ≤ 50
  | [], _, _, _, _, _ => fun x hx => by simp [run] at hx
  | o :: os, l, t, id, n, h => by
    have hv := gq_inv x0 x1 o l t id n h0 h1 h
    obtain ⟨a, b, c, d, e, f, g⟩ := opn_inv x0 x1 o l t id n h0 h1 h
    intro x hx
    simp only [run, List.mem_cons] at hx
    rcases hx with rfl | hx
    · show (gq _ _ _).2.2.length ≤ 50
      unfold gq
      by_cases z : (opn x0 x1 o l t id).1 = 0
      · rw [if_pos z]
        have := (gr_facts _ (opn x0 x1 o l t id).2.2.1 (opn x0 x1 o l t id).2.2.2.1 [] rfl a (fun x hx => (f x hx).1)).2.2.2.2.2
        simp only [List.length_nil] at this
        exact Nat.le_trans this (by rw [Nat.zero_add]; exact c)
      · rw [if_neg z]; simp
    · exact run_small x0 x1 h0 h1 os _ _ _ _ hv x hx
theorem FnExactAdmitRun (a0 a1 : Int) (l : List S84) (_ : (Lit.int .i64 a0).wf = true) (_ : (Lit.int .i64 a1).wf = true) (o : (l.length ≤ 9223372036854775807 ∧ ∀ x ∈ l, (Lit.int .i64 x.f0).wf = true ∧ (Lit.int .i64 x.f1).wf = true ∧ (Lit.int .i64 x.f2).wf = true)) : ∃ k, AllTold k a0 a1 l := by
  obtain ⟨hl, hs⟩ := o
  have hz : ∃ z, laws_szAdmitOpS.f l 1048576 = some z ∧ (0 ≤ z → (l.length : Int) ≤ 1048576) := by
    unfold laws_szAdmitOpS.f
    rw [wrap_in (1048576 - (l.length : Int)) (by omega) (by omega)]
    by_cases c : 1048576 - (l.length : Int) < 0
    · exact ⟨-1, by rw [if_pos c], fun h => by omega⟩
    · exact ⟨_, by rw [if_neg c], fun h => by omega⟩
  obtain ⟨z, hz, hc⟩ := hz
  by_cases c : z < 0
  · exact ⟨0, z, hz, .inl c⟩
  have hl' : (l.length : Int) ≤ 1048576 := hc (by omega)
  have hm : ((l.map cv_AdmitOp).length : Int) ≤ 1048576 := by rw [List.length_map]; exact hl'
  obtain ⟨⟨r, cc⟩, e2, e3, h3⟩ := admit_both a0 a1 (l.map cv_AdmitOp)
  have hr : r.length ≤ 500 ∧ ∀ x ∈ r, x.f2.length ≤ 50 := by
    by_cases q : cc = 0
    · obtain ⟨p0, p1, p2, p3⟩ := h3.1 q
      have p3' : r = run a0 a1 (l.map cv_AdmitOp) [] a1 0 := p3
      rw [p3']
      exact ⟨by rw [run_len]; exact p2, run_small a0 a1 p0.1 p1.1 _ [] a1 0 0 ⟨by omega, by omega, by simp, by omega, by simp, by simp, .inl rfl⟩⟩
    · have : r = [] := h3.2 q
      subst this
      exact ⟨by simp, by simp⟩
  obtain ⟨r0, r1⟩ := hr
  have m1 := mark_AdmitOp (l.map cv_AdmitOp).length [] (l.map cv_AdmitOp) 1 rfl (by omega) (by omega) (by simp only [List.length_nil]; omega)
  have m2 := mark_obs r [] 1 r1 (by simp only [List.length_nil]; omega) (by omega) (by omega)
  have h2 := held_obs r [] 1 r1 (by simp only [List.length_nil]; omega) (by omega) (by omega)
  have q2 := eqo_from r r0 r1 r.length 0 (by omega)
  simp only [List.nil_append, List.length_nil] at m1 m2 h2
  obtain ⟨K1, f1⟩ := to_AdmitOp l hl'
  obtain ⟨K2, f2⟩ := e2
  obtain ⟨K3, f3⟩ := e3
  obtain ⟨K4, f4⟩ := q2
  obtain ⟨K5, f5⟩ := eq_AdmitOp (l.map cv_AdmitOp) hm
  obtain ⟨K6, f6⟩ := m1
  obtain ⟨K7, f7⟩ := m2
  obtain ⟨K8, f8⟩ := h2
  have := mend_ge r 1
  refine ⟨K1 + K2 + K3 + K4 + K5 + K6 + K7 + K8, z, hz, .inr ⟨c, l.map cv_AdmitOp, ml_AdmitOp 1 (l.map cv_AdmitOp).length, r, mlo 1 r, cc, 1 + 3 * ((l.map cv_AdmitOp).length : Int), mend 1 r, f1 _ (by omega), f2 _ (by omega), f3 _ (by omega), ?_, f5 _ (by omega), ?_, by omega, ?_, ?_, by omega⟩⟩
  · simp only [laws_eqAdmitObsS.f]
    rw [if_pos trivial]
    exact f4 _ (by omega)
  · simp only [laws_markAdmitOpS.f]
    exact f6 _ (by omega)
  · simp only [laws_markAdmitObsS.f]
    exact f7 _ (by omega)
  · simp only [laws_heldAdmitObsS.f]
    exact f8 _ (by omega)
end Go.Proofs.Ytjnhbegppjeafaa.Pure
