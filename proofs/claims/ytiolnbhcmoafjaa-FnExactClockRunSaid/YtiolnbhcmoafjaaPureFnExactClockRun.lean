/- The program's ClockRun and the reference's answer alike at every list of operations, and what is answered is the call's own. No condition. -/
import Derived.Test.YtiolnbhcmoafjaaClkD
import Derived.Test.YtiolnbhcmoafjaaExcW
namespace Go.Proofs.Ytiolnbhcmoafjaa.Pure
set_option linter.unusedVariables false
set_option linter.unusedSimpArgs false
open Go.RowKit Go.Proofs.Ytiolnbhcmoafjaa.QFnClocks Go.Proofs.Ytiolnbhcmoafjaa.QFnClocksD Go.Proofs.YtiolnbhcmoafjaaW.PrintWords Go.Proofs.YtiolnbhcmoafjaaU
/-! ### the copy of a slice of S65 -/
def cv_ClockOp (x : S65) : S44 := ⟨x.f0, x.f1, x.f2, x.f3⟩
theorem rdto_ClockOp (l : List S65) (i : Nat) (h : i < l.length) : rd_T65 l (i : Int) = l[i] := by
  unfold rd_T65
  rw [Int.toNat_natCast, List.getD_eq_getElem?_getD, List.getElem?_eq_getElem h]
  rfl
theorem tofrom_ClockOp (l : List S65) (hl : (l.length : Int) ≤ 1048576) (d : Nat) : ∀ (i : Nat), i ≤ l.length → l.length - i = d →
    Ev (fun k => laws_toClockOpS.l0 k l ((l.take i).map cv_ClockOp ++ List.replicate (l.length - i) z44) (i : Int)) (l.map cv_ClockOp) := by
  induction d with
  | zero =>
    intro i h1 hd
    have hi : i = l.length := by omega
    refine Ev.succ ?_
    simp only [laws_toClockOpS.l0]
    refine Ev.neg (by omega) (Ev.some' ?_)
    subst hi
    rw [fill_all]
  | succ d ih =>
    intro i h1 hd
    refine Ev.succ ?_
    simp only [laws_toClockOpS.l0]
    refine Ev.pos (by omega) (Ev.pos (by omega) (Ev.bndc rfl (Ev.pos (by rw [fill_len cv_ClockOp _ l i h1]; omega) ?_)))
    rw [wrap_in ((i : Int) + 1) (by omega) (by omega), rdto_ClockOp l _ (by omega)]
    have := ih (i + 1) (by omega) (by omega)
    have e := fill_set cv_ClockOp z44 l i (by omega)
    simp only [Int.toNat_natCast]
    rw [show (⟨(l[i]).f0, (l[i]).f1, (l[i]).f2, (l[i]).f3⟩ : S44) = cv_ClockOp l[i] from rfl, e]
    exact this
theorem to_ClockOp (l : List S65) (hl : (l.length : Int) ≤ 1048576) : Ev (fun k => laws_toClockOpS.f k l) (l.map cv_ClockOp) := by
  simp only [laws_toClockOpS.f]
  refine Ev.pos (by omega) (Ev.pos (by omega) ?_)
  have := tofrom_ClockOp l hl l.length 0 (by omega) (by omega)
  rw [← fill_zero] at this
  simpa using this
/-! ### a slice of S44 is the same as itself -/
theorem eqOne_ClockOp (x : S44) : laws_eqClockOp.f x.f0 x.f1 x.f2 x.f3 x.f0 x.f1 x.f2 x.f3 = some true := by
  unfold laws_eqClockOp.f
  simp
theorem eqfrom_ClockOp (l : List S44) (hl : (l.length : Int) ≤ 1048576) (d : Nat) : ∀ (i : Int), 0 ≤ i → i ≤ l.length → (l.length : Int) - i = d → Ev (fun k => laws_eqClockOpS.l0 k l l i) true := by
  induction d with
  | zero =>
    intro i h0 h1 hd
    exact Ev.succ (by simp only [laws_eqClockOpS.l0]; exact Ev.neg (by omega) (Ev.some' rfl))
  | succ d ih =>
    intro i h0 h1 hd
    refine Ev.succ ?_
    simp only [laws_eqClockOpS.l0]
    refine Ev.pos (by omega) (Ev.pos h0 (Ev.pos (by omega) (Ev.bndc (b := true) (eqOne_ClockOp _) (Ev.pos rfl ?_))))
    rw [wrap_in (i + 1) (by omega) (by omega)]
    exact ih (i + 1) (by omega) (by omega) (by omega)
theorem eq_ClockOp (l : List S44) (hl : (l.length : Int) ≤ 1048576) : Ev (fun k => laws_eqClockOpS.f k l l) true := by
  simp only [laws_eqClockOpS.f]
  exact Ev.pos (by trivial) (eqfrom_ClockOp l hl l.length 0 (by omega) (by omega) (by omega))
/-! ### marks in a slice of S44 -/
def el_ClockOp (m : Int) : S44 := ⟨m, m + 1, m + 2, m + 3⟩
def ml_ClockOp : Int → Nat → List S44
  | _, 0 => []
  | m, n + 1 => el_ClockOp m :: ml_ClockOp (m + 4) n
theorem rdm_ClockOp (pre rest : List S44) (a : S44) : rd_T44 (pre ++ a :: rest) (pre.length : Int) = a := by
  unfold rd_T44
  rw [Int.toNat_natCast, List.getD_eq_getElem?_getD, List.getElem?_append_right (Nat.le_refl _), Nat.sub_self]
  rfl
theorem stm_ClockOp (pre rest : List S44) (a b : S44) : (pre ++ a :: rest).set pre.length b = pre ++ b :: rest := by
  rw [List.set_append_right _ _ (Nat.le_refl _), Nat.sub_self]
  rfl
theorem mark_ClockOp (d : Nat) : ∀ (pre rest : List S44) (m : Int), rest.length = d → 0 ≤ m → m + 4 * (d : Int) ≤ 1000000000000 → (pre.length : Int) + d ≤ 1000000000000 →
    Ev (fun k => laws_markClockOpS.l0 k (pre ++ rest) m (pre.length : Int)) (m + 4 * (d : Int), pre ++ ml_ClockOp m d) := by
  induction d with
  | zero =>
    intro pre rest m hr h0 h1 h2
    obtain rfl : rest = [] := List.length_eq_zero_iff.mp hr
    refine Ev.succ ?_
    simp only [laws_markClockOpS.l0]
    refine Ev.neg (by simp) (Ev.some' ?_)
    simp [ml_ClockOp]
  | succ d ih =>
    intro pre rest m hr h0 h1 h2
    obtain ⟨a, rest, rfl⟩ : ∃ a r, rest = a :: r := by cases rest with | nil => cases hr | cons a r => exact ⟨a, r, rfl⟩
    rw [List.length_cons] at hr
    have w1 : wrap64 (m + 1) = m + 1 := by have := wrap_in (m + 1) (by omega) (by omega); omega
    have w2 : wrap64 (m + 1 + 1) = m + 2 := by have := wrap_in (m + 1 + 1) (by omega) (by omega); omega
    have w3 : wrap64 (m + 2 + 1) = m + 3 := by have := wrap_in (m + 2 + 1) (by omega) (by omega); omega
    have w4 : wrap64 (m + 3 + 1) = m + 4 := by have := wrap_in (m + 3 + 1) (by omega) (by omega); omega
    have wi : wrap64 ((pre.length : Int) + 1) = ((pre ++ [el_ClockOp m]).length : Int) := by rw [wrap_in _ (by omega) (by omega), List.length_append]; simp
    have hh := ih (pre ++ [el_ClockOp m]) rest (m + 4) (by omega) (by omega) (by omega) (by rw [List.length_append, List.length_singleton]; omega)
    rw [show m + 4 + 4 * (d : Int) = m + 4 * ((d + 1 : Nat) : Int) by omega, List.append_assoc, List.append_assoc] at hh
    refine Ev.succ ?_
    simp only [laws_markClockOpS.l0, w1, w2, w3, w4, wi]
    refine Ev.pos (by rw [List.length_append, List.length_cons]; omega) (Ev.pos (by omega) ?_)
    refine Ev.bndc rfl (Ev.bndc rfl (Ev.bndc rfl (?_)))
    simp only [Int.toNat_natCast, stm_ClockOp, rdm_ClockOp]
    exact hh
theorem rdm_Obs (pre rest : List S42) (a : S42) : rd_T42 (pre ++ a :: rest) (pre.length : Int) = a := by
  unfold rd_T42
  rw [Int.toNat_natCast, List.getD_eq_getElem?_getD, List.getElem?_append_right (Nat.le_refl _), Nat.sub_self]
  rfl
theorem stm_Obs (pre rest : List S42) (a b : S42) : (pre ++ a :: rest).set pre.length b = pre ++ b :: rest := by
  rw [List.set_append_right _ _ (Nat.le_refl _), Nat.sub_self]
  rfl
abbrev mel (m : Int) : S42 := ⟨m, ⟨m + 1, m + 2⟩⟩
def mlo : Int → List S42 → List S42
  | _, [] => []
  | m, _ :: xs => mel m :: mlo (m + 3) xs
theorem mark_obs : ∀ (rest pre : List S42) (m : Int), pre.length + rest.length ≤ 500 → 0 ≤ m → m + 3 * (rest.length : Int) ≤ 1000000 →
    Ev (fun k => laws_markClockObsS.l0 k (pre ++ rest) m (pre.length : Int)) (m + 3 * (rest.length : Int), pre ++ mlo m rest)
  | [], pre, m, _, _, _ => by
    refine Ev.succ ?_
    simp only [laws_markClockObsS.l0]
    exact Ev.neg (by simp) (Ev.some' (by simp [mlo]))
  | a :: rest, pre, m, hl, h0, h1 => by
    rw [List.length_cons] at hl h1
    have w1 : wrap64 (m + 1) = m + 1 := wrap_in _ (by omega) (by omega)
    have w2 : wrap64 (m + 1 + 1) = m + 2 := by have := wrap_in (m + 1 + 1) (by omega) (by omega); omega
    have w3 : wrap64 (m + 2 + 1) = m + 3 := by have := wrap_in (m + 2 + 1) (by omega) (by omega); omega
    have wi : wrap64 ((pre.length : Int) + 1) = ((pre ++ [mel m]).length : Int) := by rw [wrap_in _ (by omega) (by omega), List.length_append]; simp
    have hh := mark_obs rest (pre ++ [mel m]) (m + 3) (by rw [List.length_append, List.length_singleton]; omega) (by omega) (by omega)
    rw [List.append_assoc, List.append_assoc, show m + 3 + 3 * (rest.length : Int) = m + 3 * ((a :: rest).length : Int) by rw [List.length_cons]; omega] at hh
    refine Ev.succ ?_
    simp only [laws_markClockObsS.l0, w1, w2, w3, wi]
    refine Ev.pos (by rw [List.length_append, List.length_cons]; omega) (Ev.pos (by omega) ?_)
    simp only [Int.toNat_natCast, stm_Obs, rdm_Obs, Option.bind_some]
    exact hh
theorem held_obs : ∀ (rest pre : List S42) (m : Int), pre.length + rest.length ≤ 500 → 0 ≤ m → m + 3 * (rest.length : Int) ≤ 1000000 →
    Ev (fun k => laws_heldClockObsS.l0 k (pre ++ mlo m rest) m (pre.length : Int)) (m + 3 * (rest.length : Int))
  | [], pre, m, _, _, _ => by
    refine Ev.succ ?_
    simp only [laws_heldClockObsS.l0]
    exact Ev.neg (by simp [mlo]) (Ev.some' (by simp))
  | a :: rest, pre, m, hl, h0, h1 => by
    rw [List.length_cons] at hl h1
    have w1 : wrap64 (m + 1) = m + 1 := wrap_in _ (by omega) (by omega)
    have w2 : wrap64 (m + 1 + 1) = m + 2 := by have := wrap_in (m + 1 + 1) (by omega) (by omega); omega
    have w3 : wrap64 (m + 2 + 1) = m + 3 := by have := wrap_in (m + 2 + 1) (by omega) (by omega); omega
    have wi : wrap64 ((pre.length : Int) + 1) = ((pre ++ [mel m]).length : Int) := by rw [wrap_in _ (by omega) (by omega), List.length_append]; simp
    have hh := held_obs rest (pre ++ [mel m]) (m + 3) (by rw [List.length_append, List.length_singleton]; omega) (by omega) (by omega)
    rw [List.append_assoc, show m + 3 + 3 * (rest.length : Int) = m + 3 * ((a :: rest).length : Int) by rw [List.length_cons]; omega] at hh
    refine Ev.succ ?_
    simp only [laws_heldClockObsS.l0, mlo, w1, w2, w3, wi]
    rw [rdm_Obs]
    exact Ev.pos (by rw [List.length_append, List.length_cons]; omega) (Ev.pos (by omega) (Ev.pos rfl (Ev.pos rfl (Ev.pos rfl hh))))
theorem eqo_from (l : List S42) (hl : l.length ≤ 500) (d : Nat) : ∀ (i : Nat), i + d = l.length → Ev (fun k => laws_eqClockObsS.l0 k l l (i : Int)) true := by
  induction d with
  | zero =>
    intro i hi
    exact Ev.succ (by simp only [laws_eqClockObsS.l0]; exact Ev.neg (by omega) (Ev.some' rfl))
  | succ d ih =>
    intro i hi
    have hlt : i < l.length := by omega
    refine Ev.succ ?_
    simp only [laws_eqClockObsS.l0, laws_eqClockObs.f, laws_eqTime.f]
    refine Ev.pos (by omega) (Ev.pos (by omega) (Ev.pos (by omega) (Ev.bind (a := true) (Ev.some' (by simp)) (Ev.pos (by trivial) ?_))))
    rw [show wrap64 ((i : Int) + 1) = ((i + 1 : Nat) : Int) by rw [wrap_in _ (by omega) (by omega)]; omega]
    exact ih (i + 1) (by omega)
theorem run_len (n : Int) : ∀ (os : List S44) (L : List S40) (W : List Int), (run n os L W).length = os.length
  | [], _, _ => rfl
  | o :: os, L, W => by
    simp only [run, List.length_cons]
    rw [run_len n os]
theorem FnExactClockRun (a0 : Int) (l : List S65) (_ : (Lit.int .i64 a0).wf = true) (o : (l.length ≤ 9223372036854775807 ∧ ∀ x ∈ l, (Lit.int .i64 x.f0).wf = true ∧ (Lit.int .i64 x.f1).wf = true ∧ (Lit.int .i64 x.f2).wf = true ∧ (Lit.int .i64 x.f3).wf = true)) : ∃ k, AllTold k a0 l := by
  obtain ⟨hl, hs⟩ := o
  have hz : ∃ z, laws_szClockOpS.f l 1048576 = some z ∧ (0 ≤ z → (l.length : Int) ≤ 1048576) := by
    unfold laws_szClockOpS.f
    rw [wrap_in (1048576 - (l.length : Int)) (by omega) (by omega)]
    by_cases c : 1048576 - (l.length : Int) < 0
    · exact ⟨-1, by rw [if_pos c], fun h => by omega⟩
    · exact ⟨_, by rw [if_neg c], fun h => by omega⟩
  obtain ⟨z, hz, hc⟩ := hz
  by_cases c : z < 0
  · exact ⟨0, z, hz, .inl c⟩
  have hl' : (l.length : Int) ≤ 1048576 := hc (by omega)
  have hm : ((l.map cv_ClockOp).length : Int) ≤ 1048576 := by rw [List.length_map]; exact hl'
  obtain ⟨⟨r, cc⟩, e2, e3, h3⟩ := clock_both a0 (l.map cv_ClockOp)
  have r0 : r.length ≤ 500 := by
    by_cases q : cc = 0
    · obtain ⟨p0, p1, p2⟩ := h3.1 q
      have p3 : r = run a0 (l.map cv_ClockOp) (List.replicate a0.toNat z40) (List.replicate a0.toNat 0) := p2
      rw [p3, run_len]
      exact p1
    · have : r = [] := h3.2 q
      subst this
      simp
  have m1 := mark_ClockOp (l.map cv_ClockOp).length [] (l.map cv_ClockOp) 1 rfl (by omega) (by omega) (by simp only [List.length_nil]; omega)
  have m2 := mark_obs r [] 1 (by simp only [List.length_nil]; omega) (by omega) (by omega)
  have h2 := held_obs r [] 1 (by simp only [List.length_nil]; omega) (by omega) (by omega)
  have q2 := eqo_from r r0 r.length 0 (by omega)
  simp only [List.nil_append, List.length_nil] at m1 m2 h2
  obtain ⟨K1, f1⟩ := to_ClockOp l hl'
  obtain ⟨K2, f2⟩ := e2
  obtain ⟨K3, f3⟩ := e3
  obtain ⟨K4, f4⟩ := q2
  obtain ⟨K5, f5⟩ := eq_ClockOp (l.map cv_ClockOp) hm
  obtain ⟨K6, f6⟩ := m1
  obtain ⟨K7, f7⟩ := m2
  obtain ⟨K8, f8⟩ := h2
  refine ⟨K1 + K2 + K3 + K4 + K5 + K6 + K7 + K8, z, hz, .inr ⟨c, l.map cv_ClockOp, ml_ClockOp 1 (l.map cv_ClockOp).length, r, mlo 1 r, cc, 1 + 4 * ((l.map cv_ClockOp).length : Int), 1 + 3 * (r.length : Int), f1 _ (by omega), f2 _ (by omega), f3 _ (by omega), ?_, f5 _ (by omega), ?_, by omega, ?_, ?_, by omega⟩⟩
  · simp only [laws_eqClockObsS.f]
    rw [if_pos trivial]
    exact f4 _ (by omega)
  · simp only [laws_markClockOpS.f]
    exact f6 _ (by omega)
  · simp only [laws_markClockObsS.f]
    exact f7 _ (by omega)
  · simp only [laws_heldClockObsS.f]
    exact f8 _ (by omega)
end Go.Proofs.Ytiolnbhcmoafjaa.Pure
