/- The program's LeaseRun and the reference's answer alike at every list of steps, and what is answered is the call's own. No condition. -/
import Derived.Test.YtjnhbegppjeafaaLeaseFnExactLeaseRun
import Derived.Test.YtjnhbegppjeafaaQFnExactLeaseRunx6
namespace Go.Proofs.Ytjnhbegppjeafaa.Pure
set_option linter.unusedVariables false
set_option linter.unusedSimpArgs false
open Go.RowKit Go.Proofs.Ytjnhbegppjeafaa.QFnExactLeaseRun Go.Proofs.YtjnhbegppjeafaaW.PrintWords Go.Proofs.YtjnhbegppjeafaaU Go.Proofs.Ytjnhbegppjeafaa.QFnExactLeaseRunG
/-! ### the copy of a slice of S73 -/
def cv_LeaseOp (x : S73) : S39 := ⟨x.f0, x.f1, x.f2⟩
theorem rdto_LeaseOp (l : List S73) (i : Nat) (h : i < l.length) : rd_T73 l (i : Int) = l[i] := by
  unfold rd_T73
  rw [Int.toNat_natCast, List.getD_eq_getElem?_getD, List.getElem?_eq_getElem h]
  rfl
theorem tofrom_LeaseOp (l : List S73) (hl : (l.length : Int) ≤ 1048576) (d : Nat) : ∀ (i : Nat), i ≤ l.length → l.length - i = d →
    Ev (fun k => laws_toLeaseOpS.l0 k l ((l.take i).map cv_LeaseOp ++ List.replicate (l.length - i) z39) (i : Int)) (l.map cv_LeaseOp) := by
  induction d with
  | zero =>
    intro i h1 hd
    have hi : i = l.length := by omega
    refine Ev.succ ?_
    simp only [laws_toLeaseOpS.l0]
    refine Ev.neg (by omega) (Ev.some' ?_)
    subst hi
    rw [fill_all]
  | succ d ih =>
    intro i h1 hd
    refine Ev.succ ?_
    simp only [laws_toLeaseOpS.l0]
    refine Ev.pos (by omega) (Ev.pos (by omega) (Ev.bndc rfl (Ev.pos (by rw [fill_len cv_LeaseOp _ l i h1]; omega) ?_)))
    rw [wrap_in ((i : Int) + 1) (by omega) (by omega), rdto_LeaseOp l _ (by omega)]
    have := ih (i + 1) (by omega) (by omega)
    have e := fill_set cv_LeaseOp z39 l i (by omega)
    simp only [Int.toNat_natCast]
    rw [show (⟨(l[i]).f0, (l[i]).f1, (l[i]).f2⟩ : S39) = cv_LeaseOp l[i] from rfl, e]
    exact this
theorem to_LeaseOp (l : List S73) (hl : (l.length : Int) ≤ 1048576) : Ev (fun k => laws_toLeaseOpS.f k l) (l.map cv_LeaseOp) := by
  simp only [laws_toLeaseOpS.f]
  refine Ev.pos (by omega) (Ev.pos (by omega) ?_)
  have := tofrom_LeaseOp l hl l.length 0 (by omega) (by omega)
  rw [← fill_zero] at this
  simpa using this
/-! ### a slice of S39 is the same as itself -/
theorem eqOne_LeaseOp (x : S39) : laws_eqLeaseOp.f x.f0 x.f1 x.f2 x.f0 x.f1 x.f2 = some true := by
  unfold laws_eqLeaseOp.f
  simp
theorem eqfrom_LeaseOp (l : List S39) (hl : (l.length : Int) ≤ 1048576) (d : Nat) : ∀ (i : Int), 0 ≤ i → i ≤ l.length → (l.length : Int) - i = d → Ev (fun k => laws_eqLeaseOpS.l0 k l l i) true := by
  induction d with
  | zero =>
    intro i h0 h1 hd
    exact Ev.succ (by simp only [laws_eqLeaseOpS.l0]; exact Ev.neg (by omega) (Ev.some' rfl))
  | succ d ih =>
    intro i h0 h1 hd
    refine Ev.succ ?_
    simp only [laws_eqLeaseOpS.l0]
    refine Ev.pos (by omega) (Ev.pos h0 (Ev.pos (by omega) (Ev.bndc (b := true) (eqOne_LeaseOp _) (Ev.pos rfl ?_))))
    rw [wrap_in (i + 1) (by omega) (by omega)]
    exact ih (i + 1) (by omega) (by omega) (by omega)
theorem eq_LeaseOp (l : List S39) (hl : (l.length : Int) ≤ 1048576) : Ev (fun k => laws_eqLeaseOpS.f k l l) true := by
  simp only [laws_eqLeaseOpS.f]
  exact Ev.pos (by trivial) (eqfrom_LeaseOp l hl l.length 0 (by omega) (by omega) (by omega))
/-! ### a slice of S37 is the same as itself -/
theorem eqOne_LeaseObs (x : S37) : laws_eqLeaseObs.f x.f0 x.f1 x.f0 x.f1 = some true := by
  unfold laws_eqLeaseObs.f
  simp
theorem eqfrom_LeaseObs (l : List S37) (hl : (l.length : Int) ≤ 1048576) (d : Nat) : ∀ (i : Int), 0 ≤ i → i ≤ l.length → (l.length : Int) - i = d → Ev (fun k => laws_eqLeaseObsS.l0 k l l i) true := by
  induction d with
  | zero =>
    intro i h0 h1 hd
    exact Ev.succ (by simp only [laws_eqLeaseObsS.l0]; exact Ev.neg (by omega) (Ev.some' rfl))
  | succ d ih =>
    intro i h0 h1 hd
    refine Ev.succ ?_
    simp only [laws_eqLeaseObsS.l0]
    refine Ev.pos (by omega) (Ev.pos h0 (Ev.pos (by omega) (Ev.bndc (b := true) (eqOne_LeaseObs _) (Ev.pos rfl ?_))))
    rw [wrap_in (i + 1) (by omega) (by omega)]
    exact ih (i + 1) (by omega) (by omega) (by omega)
theorem eq_LeaseObs (l : List S37) (hl : (l.length : Int) ≤ 1048576) : Ev (fun k => laws_eqLeaseObsS.f k l l) true := by
  simp only [laws_eqLeaseObsS.f]
  exact Ev.pos (by trivial) (eqfrom_LeaseObs l hl l.length 0 (by omega) (by omega) (by omega))
/-! ### marks in a slice of S39 -/
def el_LeaseOp (m : Int) : S39 := ⟨m, m + 1, m + 2⟩
def ml_LeaseOp : Int → Nat → List S39
  | _, 0 => []
  | m, n + 1 => el_LeaseOp m :: ml_LeaseOp (m + 3) n
theorem rdm_LeaseOp (pre rest : List S39) (a : S39) : rd_T39 (pre ++ a :: rest) (pre.length : Int) = a := by
  unfold rd_T39
  rw [Int.toNat_natCast, List.getD_eq_getElem?_getD, List.getElem?_append_right (Nat.le_refl _), Nat.sub_self]
  rfl
theorem stm_LeaseOp (pre rest : List S39) (a b : S39) : (pre ++ a :: rest).set pre.length b = pre ++ b :: rest := by
  rw [List.set_append_right _ _ (Nat.le_refl _), Nat.sub_self]
  rfl
theorem mark_LeaseOp (d : Nat) : ∀ (pre rest : List S39) (m : Int), rest.length = d → 0 ≤ m → m + 3 * (d : Int) ≤ 1000000000000 → (pre.length : Int) + d ≤ 1000000000000 →
    Ev (fun k => laws_markLeaseOpS.l0 k (pre ++ rest) m (pre.length : Int)) (m + 3 * (d : Int), pre ++ ml_LeaseOp m d) := by
  induction d with
  | zero =>
    intro pre rest m hr h0 h1 h2
    obtain rfl : rest = [] := List.length_eq_zero_iff.mp hr
    refine Ev.succ ?_
    simp only [laws_markLeaseOpS.l0]
    refine Ev.neg (by simp) (Ev.some' ?_)
    simp [ml_LeaseOp]
  | succ d ih =>
    intro pre rest m hr h0 h1 h2
    obtain ⟨a, rest, rfl⟩ : ∃ a r, rest = a :: r := by cases rest with | nil => cases hr | cons a r => exact ⟨a, r, rfl⟩
    rw [List.length_cons] at hr
    have w1 : wrap64 (m + 1) = m + 1 := by have := wrap_in (m + 1) (by omega) (by omega); omega
    have w2 : wrap64 (m + 1 + 1) = m + 2 := by have := wrap_in (m + 1 + 1) (by omega) (by omega); omega
    have w3 : wrap64 (m + 2 + 1) = m + 3 := by have := wrap_in (m + 2 + 1) (by omega) (by omega); omega
    have wi : wrap64 ((pre.length : Int) + 1) = ((pre ++ [el_LeaseOp m]).length : Int) := by rw [wrap_in _ (by omega) (by omega), List.length_append]; simp
    have hh := ih (pre ++ [el_LeaseOp m]) rest (m + 3) (by omega) (by omega) (by omega) (by rw [List.length_append, List.length_singleton]; omega)
    rw [show m + 3 + 3 * (d : Int) = m + 3 * ((d + 1 : Nat) : Int) by omega, List.append_assoc, List.append_assoc] at hh
    refine Ev.succ ?_
    simp only [laws_markLeaseOpS.l0, w1, w2, w3, wi]
    refine Ev.pos (by rw [List.length_append, List.length_cons]; omega) (Ev.pos (by omega) ?_)
    refine Ev.bndc rfl (Ev.bndc rfl (?_))
    simp only [Int.toNat_natCast, stm_LeaseOp, rdm_LeaseOp]
    exact hh
/-! ### marks in a slice of S37 -/
def el_LeaseObs (m : Int) : S37 := ⟨m, m + 1⟩
def ml_LeaseObs : Int → Nat → List S37
  | _, 0 => []
  | m, n + 1 => el_LeaseObs m :: ml_LeaseObs (m + 2) n
theorem rdm_LeaseObs (pre rest : List S37) (a : S37) : rd_T37 (pre ++ a :: rest) (pre.length : Int) = a := by
  unfold rd_T37
  rw [Int.toNat_natCast, List.getD_eq_getElem?_getD, List.getElem?_append_right (Nat.le_refl _), Nat.sub_self]
  rfl
theorem stm_LeaseObs (pre rest : List S37) (a b : S37) : (pre ++ a :: rest).set pre.length b = pre ++ b :: rest := by
  rw [List.set_append_right _ _ (Nat.le_refl _), Nat.sub_self]
  rfl
theorem mark_LeaseObs (d : Nat) : ∀ (pre rest : List S37) (m : Int), rest.length = d → 0 ≤ m → m + 2 * (d : Int) ≤ 1000000000000 → (pre.length : Int) + d ≤ 1000000000000 →
    Ev (fun k => laws_markLeaseObsS.l0 k (pre ++ rest) m (pre.length : Int)) (m + 2 * (d : Int), pre ++ ml_LeaseObs m d) := by
  induction d with
  | zero =>
    intro pre rest m hr h0 h1 h2
    obtain rfl : rest = [] := List.length_eq_zero_iff.mp hr
    refine Ev.succ ?_
    simp only [laws_markLeaseObsS.l0]
    refine Ev.neg (by simp) (Ev.some' ?_)
    simp [ml_LeaseObs]
  | succ d ih =>
    intro pre rest m hr h0 h1 h2
    obtain ⟨a, rest, rfl⟩ : ∃ a r, rest = a :: r := by cases rest with | nil => cases hr | cons a r => exact ⟨a, r, rfl⟩
    rw [List.length_cons] at hr
    have w1 : wrap64 (m + 1) = m + 1 := by have := wrap_in (m + 1) (by omega) (by omega); omega
    have w2 : wrap64 (m + 1 + 1) = m + 2 := by have := wrap_in (m + 1 + 1) (by omega) (by omega); omega
    have wi : wrap64 ((pre.length : Int) + 1) = ((pre ++ [el_LeaseObs m]).length : Int) := by rw [wrap_in _ (by omega) (by omega), List.length_append]; simp
    have hh := ih (pre ++ [el_LeaseObs m]) rest (m + 2) (by omega) (by omega) (by omega) (by rw [List.length_append, List.length_singleton]; omega)
    rw [show m + 2 + 2 * (d : Int) = m + 2 * ((d + 1 : Nat) : Int) by omega, List.append_assoc, List.append_assoc] at hh
    refine Ev.succ ?_
    simp only [laws_markLeaseObsS.l0, w1, w2, wi]
    refine Ev.pos (by rw [List.length_append, List.length_cons]; omega) (Ev.pos (by omega) ?_)
    refine Ev.bndc rfl (?_)
    simp only [Int.toNat_natCast, stm_LeaseObs, rdm_LeaseObs]
    exact hh
theorem held_LeaseObs (d : Nat) : ∀ (pre : List S37) (m : Int), 0 ≤ m → m + 2 * (d : Int) ≤ 1000000000000 → (pre.length : Int) + d ≤ 1000000000000 →
    Ev (fun k => laws_heldLeaseObsS.l0 k (pre ++ ml_LeaseObs m d) m (pre.length : Int)) (m + 2 * (d : Int)) := by
  induction d with
  | zero =>
    intro pre m h0 h1 h2
    refine Ev.succ ?_
    simp only [laws_heldLeaseObsS.l0]
    exact Ev.neg (by simp [ml_LeaseObs]) (Ev.some' (by simp))
  | succ d ih =>
    intro pre m h0 h1 h2
    have w1 : wrap64 (m + 1) = m + 1 := by have := wrap_in (m + 1) (by omega) (by omega); omega
    have w2 : wrap64 (m + 1 + 1) = m + 2 := by have := wrap_in (m + 1 + 1) (by omega) (by omega); omega
    have wi : wrap64 ((pre.length : Int) + 1) = ((pre ++ [el_LeaseObs m]).length : Int) := by rw [wrap_in _ (by omega) (by omega), List.length_append]; simp
    have hh := ih (pre ++ [el_LeaseObs m]) (m + 2) (by omega) (by omega) (by rw [List.length_append, List.length_singleton]; omega)
    rw [show m + 2 + 2 * (d : Int) = m + 2 * ((d + 1 : Nat) : Int) by omega, List.append_assoc] at hh
    refine Ev.succ ?_
    simp only [laws_heldLeaseObsS.l0, ml_LeaseObs, rdm_LeaseObs, w1, w2, wi]
    refine Ev.pos (by rw [List.length_append, List.length_cons]; omega) (Ev.pos (by omega) ?_)
    refine Ev.pos (by rfl) (Ev.pos (by rfl) (?_))
    exact hh
theorem FnExactLeaseRun (l : List S73) (o : l.length ≤ 9223372036854775807 ∧ ∀ x ∈ l, (Lit.int .i64 x.f0).wf = true ∧ (Lit.int .i64 x.f1).wf = true ∧ (Lit.int .i64 x.f2).wf = true) : ∃ k, laws_FnExactLeaseRun.f k l = some true := by
  obtain ⟨hl, hs⟩ := o
  refine Ev.at ?_
  simp only [laws_FnExactLeaseRun.f]
  have hz : ∃ z, laws_szLeaseOpS.f l 1048576 = some z ∧ (0 ≤ z → (l.length : Int) ≤ 1048576) := by
    unfold laws_szLeaseOpS.f
    rw [wrap_in (1048576 - (l.length : Int)) (by omega) (by omega)]
    by_cases c : 1048576 - (l.length : Int) < 0
    · exact ⟨-1, by rw [if_pos c], fun h => by omega⟩
    · exact ⟨_, by rw [if_neg c], fun h => by omega⟩
  obtain ⟨z, hz, hc⟩ := hz
  refine Ev.bndc hz ?_
  by_cases c : z < 0
  · exact Ev.pos c (Ev.some' rfl)
  have hl' : (l.length : Int) ≤ 1048576 := hc (by omega)
  have hm : ((l.map cv_LeaseOp).length : Int) ≤ 1048576 := by rw [List.length_map]; exact hl'
  obtain ⟨r, e, rl, b1, b2⟩ := lease_alike (l.map cv_LeaseOp)
  have hr : (r.length : Int) ≤ 1048576 := by omega
  have m1 := mark_LeaseOp (l.map cv_LeaseOp).length [] (l.map cv_LeaseOp) 1 rfl (by omega) (by omega) (by simp only [List.length_nil]; omega)
  have m2 := mark_LeaseObs r.length [] r 1 rfl (by omega) (by omega) (by simp only [List.length_nil]; omega)
  have h2 := held_LeaseObs r.length [] 1 (by omega) (by omega) (by simp only [List.length_nil]; omega)
  simp only [List.nil_append, List.length_nil] at m1 m2 h2
  refine Ev.neg c (Ev.bind (to_LeaseOp l hl') (Ev.bind b1 (Ev.bind (to_LeaseOp l hl') (Ev.bind b2 (Ev.bind (eq_LeaseObs r hr) (Ev.pos rfl (Ev.succ ?_)))))))
  simp only [laws_FnExactLeaseRun.j0]
  refine Ev.neg (by simp) (Ev.bind (to_LeaseOp l hl') (Ev.bind (eq_LeaseOp (l.map cv_LeaseOp) hm) (Ev.pos rfl ?_)))
  refine Ev.bind (by simp only [laws_markLeaseOpS.f]; exact m1) (Ev.neg (by simp only; omega) (Ev.bind (eq_LeaseObs r hr) (Ev.pos rfl (Ev.succ ?_))))
  simp only [laws_FnExactLeaseRun.j1]
  refine Ev.neg (by simp) (Ev.bind (by simp only [laws_markLeaseObsS.f]; exact m2) (Ev.bind (by simp only [laws_heldLeaseObsS.f]; exact h2) (Ev.neg (by omega) (Ev.pos rfl ?_))))
  refine Ev.bind (to_LeaseOp l hl') (Ev.bind b2 (Ev.bind (eq_LeaseObs r hr) (Ev.pos rfl (Ev.succ ?_))))
  simp only [laws_FnExactLeaseRun.j2]
  exact Ev.neg (by simp) (Ev.bind (by simp only [laws_heldLeaseObsS.f]; exact h2) (Ev.neg (by omega) (Ev.pos rfl (Ev.some' rfl))))
end Go.Proofs.Ytjnhbegppjeafaa.Pure
