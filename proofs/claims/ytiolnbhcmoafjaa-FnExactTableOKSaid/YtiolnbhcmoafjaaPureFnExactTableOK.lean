/- The program's TableOK and the reference's answer alike at every table, and the table is as it was. No condition. -/
import Derived.Test.YtiolnbhcmoafjaaTblL
namespace Go.Proofs.Ytiolnbhcmoafjaa.Pure
set_option linter.unusedVariables false
set_option linter.unusedSimpArgs false
open Go.RowKit Go.Proofs.Ytiolnbhcmoafjaa.QFnExactTableOK Go.Proofs.YtiolnbhcmoafjaaW.PrintWords Go.Proofs.YtiolnbhcmoafjaaU Go.Proofs.Ytiolnbhcmoafjaa.QTbl
/-! ### the copy of a slice of S101 -/
def cv_Column (x : S101) : S78 := ⟨x.f0, x.f1, x.f2, x.f3⟩
theorem rdto_Column (l : List S101) (i : Nat) (h : i < l.length) : rd_T101 l (i : Int) = l[i] := by
  unfold rd_T101
  rw [Int.toNat_natCast, List.getD_eq_getElem?_getD, List.getElem?_eq_getElem h]
  rfl
theorem tofrom_Column (l : List S101) (hl : (l.length : Int) ≤ 1048576) (d : Nat) : ∀ (i : Nat), i ≤ l.length → l.length - i = d →
    Ev (fun k => laws_toColumnS.l0 k l ((l.take i).map cv_Column ++ List.replicate (l.length - i) z78) (i : Int)) (l.map cv_Column) := by
  induction d with
  | zero =>
    intro i h1 hd
    have hi : i = l.length := by omega
    refine Ev.succ ?_
    simp only [laws_toColumnS.l0]
    refine Ev.neg (by omega) (Ev.some' ?_)
    subst hi
    rw [fill_all]
  | succ d ih =>
    intro i h1 hd
    refine Ev.succ ?_
    simp only [laws_toColumnS.l0]
    refine Ev.pos (by omega) (Ev.pos (by omega) (Ev.bndc rfl (Ev.pos (by rw [fill_len cv_Column _ l i h1]; omega) ?_)))
    rw [wrap_in ((i : Int) + 1) (by omega) (by omega), rdto_Column l _ (by omega)]
    have := ih (i + 1) (by omega) (by omega)
    have e := fill_set cv_Column z78 l i (by omega)
    simp only [Int.toNat_natCast]
    rw [show (⟨(l[i]).f0, (l[i]).f1, (l[i]).f2, (l[i]).f3⟩ : S78) = cv_Column l[i] from rfl, e]
    exact this
theorem to_Column (l : List S101) (hl : (l.length : Int) ≤ 1048576) : Ev (fun k => laws_toColumnS.f k l) (l.map cv_Column) := by
  simp only [laws_toColumnS.f]
  refine Ev.pos (by omega) (Ev.pos (by omega) ?_)
  have := tofrom_Column l hl l.length 0 (by omega) (by omega)
  rw [← fill_zero] at this
  simpa using this
/-! ### a slice of S78 is the same as itself -/
theorem eqOne_Column (x : S78) : laws_eqColumn.f x.f0 x.f1 x.f2 x.f3 x.f0 x.f1 x.f2 x.f3 = some true := by
  unfold laws_eqColumn.f
  simp
theorem eqfrom_Column (l : List S78) (hl : (l.length : Int) ≤ 1048576) (d : Nat) : ∀ (i : Int), 0 ≤ i → i ≤ l.length → (l.length : Int) - i = d → Ev (fun k => laws_eqColumnS.l0 k l l i) true := by
  induction d with
  | zero =>
    intro i h0 h1 hd
    exact Ev.succ (by simp only [laws_eqColumnS.l0]; exact Ev.neg (by omega) (Ev.some' rfl))
  | succ d ih =>
    intro i h0 h1 hd
    refine Ev.succ ?_
    simp only [laws_eqColumnS.l0]
    refine Ev.pos (by omega) (Ev.pos h0 (Ev.pos (by omega) (Ev.bndc (b := true) (eqOne_Column _) (Ev.pos rfl ?_))))
    rw [wrap_in (i + 1) (by omega) (by omega)]
    exact ih (i + 1) (by omega) (by omega) (by omega)
theorem eq_Column (l : List S78) (hl : (l.length : Int) ≤ 1048576) : Ev (fun k => laws_eqColumnS.f k l l) true := by
  simp only [laws_eqColumnS.f]
  exact Ev.pos (by trivial) (eqfrom_Column l hl l.length 0 (by omega) (by omega) (by omega))
theorem ints_to_from (l : List Int) (hl : l.length ≤ 1048576) (d : Nat) : ∀ i : Nat, i ≤ l.length → l.length - i = d →
    Ev (fun k => laws_toIntS.l0 k l ((l.take i).map id ++ List.replicate (l.length - i) 0) i) l := by
  induction d with
  | zero =>
    intro i hi hd
    obtain rfl : i = l.length := by omega
    refine Ev.succ ?_
    simp only [laws_toIntS.l0]
    refine Ev.neg (by omega) (Ev.some' ?_)
    rw [fill_all]; simp
  | succ d ih =>
    intro i hi hd
    have hlt : i < l.length := by omega
    refine Ev.succ ?_
    simp only [laws_toIntS.l0]
    rw [fill_len _ _ _ _ hi]
    refine Ev.pos (by omega) (Ev.pos (by omega) (Ev.pos (by omega) ?_))
    rw [wrap_in _ (by omega) (by omega), rd_get l _ (by simpa using hlt)]
    have hs := fill_set (f := id) (0 : Int) l i hlt
    simp only [Int.toNat_natCast]
    rw [show l[i] = id l[i] from rfl, hs]
    exact ih (i + 1) (by omega) (by omega)
theorem ints_to (l : List Int) (hl : l.length ≤ 1048576) : Ev (fun k => laws_toIntS.f k l) l := by
  simp only [laws_toIntS.f]
  refine Ev.pos (by omega) (Ev.pos (by simp only [Int.toNat_natCast]; omega) ?_)
  have h := ints_to_from l hl l.length 0 (by omega) (by omega)
  rw [← fill_zero] at h
  exact h
theorem ints_eq_from (l : List Int) (hl : l.length ≤ 1048576) (d : Nat) : ∀ i : Nat, i ≤ l.length → l.length - i = d → Ev (fun k => laws_eqIntS.l0 k l l i) true := by
  induction d with
  | zero =>
    intro i hi hd
    refine Ev.succ ?_
    simp only [laws_eqIntS.l0]
    exact Ev.neg (by omega) (Ev.some' rfl)
  | succ d ih =>
    intro i hi hd
    refine Ev.succ ?_
    simp only [laws_eqIntS.l0]
    refine Ev.pos (by omega) (Ev.pos (by omega) (Ev.pos (by omega) (Ev.pos (by trivial) ?_)))
    rw [wrap_in _ (by omega) (by omega)]
    exact ih (i + 1) (by omega) (by omega)
theorem ints_eq (l : List Int) (hl : l.length ≤ 1048576) : Ev (fun k => laws_eqIntS.f k l l) true := by
  simp only [laws_eqIntS.f]
  exact Ev.pos (by trivial) (ints_eq_from l hl l.length 0 (by omega) (by omega))
/-! ### indexes -/
def cv_Index (x : S103) : S83 := ⟨x.f0, x.f1, x.f2, x.f3, x.f4, x.f5⟩
theorem at103 (I : List S103) (m : Nat) (h : m < I.length) : rd_T103 I (m : Int) = I[m] := by
  unfold rd_T103
  rw [Int.toNat_natCast, getD_get _ _ _ h]
theorem toi_from (l : List S103) (hl : (l.length : Int) ≤ 1048576) (hs : ∀ x ∈ l, x.f2.length ≤ 1048576) (d : Nat) : ∀ (i : Nat), i ≤ l.length → l.length - i = d →
    Ev (fun k => laws_toIndexS.l0 k l ((l.take i).map cv_Index ++ List.replicate (l.length - i) z83) (i : Int)) (l.map cv_Index) := by
  induction d with
  | zero =>
    intro i h1 hd
    have hi : i = l.length := by omega
    refine Ev.succ ?_
    simp only [laws_toIndexS.l0]
    refine Ev.neg (by omega) (Ev.some' ?_)
    subst hi
    rw [fill_all]
  | succ d ih =>
    intro i h1 hd
    have hi : i < l.length := by omega
    have h2 := hs l[i] (List.getElem_mem hi)
    refine Ev.succ ?_
    simp only [laws_toIndexS.l0, laws_toIndex.f]
    rw [at103 l i hi]
    refine Ev.pos (by omega) (Ev.pos (by omega) (Ev.bind (a := (l[i].f0, l[i].f1, l[i].f2, l[i].f3, l[i].f4, l[i].f5)) (Ev.bind (ints_to _ h2) (Ev.some' rfl)) (Ev.pos (by rw [fill_len cv_Index _ l i h1]; omega) ?_)))
    rw [wrap_in ((i : Int) + 1) (by omega) (by omega)]
    have := ih (i + 1) (by omega) (by omega)
    have e := fill_set cv_Index z83 l i hi
    simp only [Int.toNat_natCast]
    rw [show (⟨l[i].f0, l[i].f1, l[i].f2, l[i].f3, l[i].f4, l[i].f5⟩ : S83) = cv_Index l[i] from rfl, e]
    exact this
theorem to_Index (l : List S103) (hl : (l.length : Int) ≤ 1048576) (hs : ∀ x ∈ l, x.f2.length ≤ 1048576) : Ev (fun k => laws_toIndexS.f k l) (l.map cv_Index) := by
  simp only [laws_toIndexS.f]
  refine Ev.pos (by omega) (Ev.pos (by omega) ?_)
  have := toi_from l hl hs l.length 0 (by omega) (by omega)
  rw [← fill_zero] at this
  simpa using this
theorem eqi_from (l : List S83) (hl : (l.length : Int) ≤ 1048576) (hs : ∀ x ∈ l, x.f2.length ≤ 1048576) (d : Nat) : ∀ (i : Nat), i ≤ l.length → l.length - i = d → Ev (fun k => laws_eqIndexS.l0 k l l (i : Int)) true := by
  induction d with
  | zero =>
    intro i h1 hd
    exact Ev.succ (by simp only [laws_eqIndexS.l0]; exact Ev.neg (by omega) (Ev.some' rfl))
  | succ d ih =>
    intro i h1 hd
    have hi : i < l.length := by omega
    have h2 := hs l[i] (List.getElem_mem hi)
    refine Ev.succ ?_
    simp only [laws_eqIndexS.l0, laws_eqIndex.f]
    rw [at83 l i hi]
    refine Ev.pos (by omega) (Ev.pos (by omega) (Ev.pos (by omega) (Ev.bind (a := true) (Ev.pos (by trivial) (Ev.pos (by trivial) (Ev.bind (ints_eq _ h2) (Ev.pos (by trivial) (Ev.neg (by simp) (Ev.pos (by trivial) (Ev.neg (by simp) (Ev.some' rfl)))))))) (Ev.pos (by trivial) ?_))))
    rw [wrap_in ((i : Int) + 1) (by omega) (by omega)]
    exact ih (i + 1) (by omega) (by omega)
theorem eq_Index (l : List S83) (hl : (l.length : Int) ≤ 1048576) (hs : ∀ x ∈ l, x.f2.length ≤ 1048576) : Ev (fun k => laws_eqIndexS.f k l l) true := by
  simp only [laws_eqIndexS.f]
  exact Ev.pos (by trivial) (eqi_from l hl hs l.length 0 (by omega) (by omega))
/-! ### how large -/
theorem szc_from (l : List S101) (hl : l.length ≤ 1048576) (hs : ∀ x ∈ l, x.f1.size ≤ 9223372036854775807) (d : Nat) : ∀ (i : Nat) (a : Int), i + d = l.length → 0 ≤ a → a ≤ 1048576 → ∃ t, Ev (fun k => laws_szColumnS.l0 k l a (i : Int)) t ∧ t ≤ a := by
  induction d with
  | zero =>
    intro i a hi h0 h1
    exact ⟨a, Ev.succ (by simp only [laws_szColumnS.l0]; exact Ev.neg (by omega) (Ev.some' rfl)), by omega⟩
  | succ d ih =>
    intro i a hi h0 h1
    have hlt : i < l.length := by omega
    have h2 := hs l[i] (List.getElem_mem hlt)
    have w := wrap_succ i l.length hlt (by omega)
    have w2 := wrap_in (a - (l[i].f1.size : Int)) (by omega) (by omega)
    by_cases c : a - (l[i].f1.size : Int) < 0
    · refine ⟨-1, Ev.succ ?_, by omega⟩
      simp only [laws_szColumnS.l0, laws_szColumn.f]
      rw [rdto_Column l i hlt, w2]
      exact Ev.pos (by omega) (Ev.pos (by omega) (Ev.bind (a := -1) (Ev.pos c (Ev.some' rfl)) (Ev.pos (by omega) (Ev.some' rfl))))
    · obtain ⟨t, e, ht⟩ := ih (i + 1) (a - (l[i].f1.size : Int)) (by omega) (by omega) (by omega)
      refine ⟨t, Ev.succ ?_, by omega⟩
      simp only [laws_szColumnS.l0, laws_szColumn.f, w]
      rw [rdto_Column l i hlt, w2]
      exact Ev.pos (by omega) (Ev.pos (by omega) (Ev.bind (a := a - (l[i].f1.size : Int)) (Ev.neg c (Ev.some' rfl)) (Ev.neg c e)))
theorem szi_from (l : List S103) (hl : l.length ≤ 1048576) (hs : ∀ x ∈ l, x.f1.size ≤ 9223372036854775807 ∧ x.f2.length ≤ 9223372036854775807) (d : Nat) : ∀ (i : Nat) (a : Int), i + d = l.length → 0 ≤ a → a ≤ 1048576 → ∃ t, Ev (fun k => laws_szIndexS.l0 k l a (i : Int)) t ∧ (0 ≤ t → ∀ (j : Nat) (h : j < l.length), i ≤ j → l[j].f2.length ≤ 1048576) := by
  induction d with
  | zero =>
    intro i a hi h0 h1
    exact ⟨a, Ev.succ (by simp only [laws_szIndexS.l0]; exact Ev.neg (by omega) (Ev.some' rfl)), fun _ j h hj => by omega⟩
  | succ d ih =>
    intro i a hi h0 h1
    have hlt : i < l.length := by omega
    obtain ⟨h2, h3⟩ := hs l[i] (List.getElem_mem hlt)
    have w := wrap_succ i l.length hlt (by omega)
    have w2 := wrap_in (a - (l[i].f1.size : Int)) (by omega) (by omega)
    by_cases c : a - (l[i].f1.size : Int) < 0
    · refine ⟨-1, Ev.succ ?_, fun h => by omega⟩
      simp only [laws_szIndexS.l0, laws_szIndex.f]
      rw [at103 l i hlt, w2]
      exact Ev.pos (by omega) (Ev.pos (by omega) (Ev.bind (a := -1) (Ev.pos c (Ev.some' rfl)) (Ev.pos (by omega) (Ev.some' rfl))))
    · have w3 := wrap_in (a - (l[i].f1.size : Int) - (l[i].f2.length : Int)) (by omega) (by omega)
      by_cases c2 : a - (l[i].f1.size : Int) - (l[i].f2.length : Int) < 0
      · refine ⟨-1, Ev.succ ?_, fun h => by omega⟩
        simp only [laws_szIndexS.l0, laws_szIndex.f, laws_szIntS.f]
        rw [at103 l i hlt, w2, w3]
        exact Ev.pos (by omega) (Ev.pos (by omega) (Ev.bind (a := -1) (Ev.neg c (Ev.bind (a := -1) (Ev.pos c2 (Ev.some' rfl)) (Ev.pos (by omega) (Ev.some' rfl)))) (Ev.pos (by omega) (Ev.some' rfl))))
      · obtain ⟨t, e, ht⟩ := ih (i + 1) (a - (l[i].f1.size : Int) - (l[i].f2.length : Int)) (by omega) (by omega) (by omega)
        refine ⟨t, Ev.succ ?_, fun h j hj hij => ?_⟩
        · simp only [laws_szIndexS.l0, laws_szIndex.f, laws_szIntS.f, w]
          rw [at103 l i hlt, w2, w3]
          exact Ev.pos (by omega) (Ev.pos (by omega) (Ev.bind (a := a - (l[i].f1.size : Int) - (l[i].f2.length : Int)) (Ev.neg c (Ev.bind (a := a - (l[i].f1.size : Int) - (l[i].f2.length : Int)) (Ev.neg c2 (Ev.some' rfl)) (Ev.neg c2 (Ev.some' rfl)))) (Ev.neg c2 e)))
        · by_cases e2 : j = i
          · subst e2; omega
          · exact ht h j hj (by omega)
theorem FnExactTableOK (a0 : Int) (a1 : ByteArray) (a2 : Int) (C : List S101) (K : List Int) (I : List S103)
    (o : (Lit.int .i64 a0).wf = true ∧ a1.size ≤ 9223372036854775807 ∧ (Lit.int .i64 a2).wf = true ∧ (C.length ≤ 9223372036854775807 ∧ ∀ x ∈ C, (Lit.int .i64 x.f0).wf = true ∧ x.f1.size ≤ 9223372036854775807 ∧ (Lit.int .i64 x.f2).wf = true ∧ True) ∧ (K.length ≤ 9223372036854775807 ∧ ∀ x ∈ K, (Lit.int .i64 x).wf = true) ∧ (I.length ≤ 9223372036854775807 ∧ ∀ x ∈ I, (Lit.int .i64 x.f0).wf = true ∧ x.f1.size ≤ 9223372036854775807 ∧ (x.f2.length ≤ 9223372036854775807 ∧ ∀ y ∈ x.f2, (Lit.int .i64 y).wf = true) ∧ True ∧ (Lit.int .i64 x.f4).wf = true ∧ True)) :
    ∃ k, laws_FnExactTableOK.f k a0 a1 a2 C K I = some true := by
  obtain ⟨_, o1, _, ⟨o3, o3'⟩, ⟨o4, _⟩, ⟨o5, o5'⟩⟩ := o
  refine Ev.at ?_
  have hz : ∃ t, Ev (fun k => laws_szTable.f k a0 a1 a2 C K I 1048576) t ∧ (0 ≤ t → C.length ≤ 1048576 ∧ K.length ≤ 1048576 ∧ I.length ≤ 1048576 ∧ ∀ x ∈ I, x.f2.length ≤ 1048576) := by
    simp only [laws_szTable.f, laws_szColumnS.f, laws_szIntS.f, laws_szIndexS.f]
    rw [wrap_in (1048576 - (a1.size : Int)) (by omega) (by omega)]
    by_cases c : 1048576 - (a1.size : Int) < 0
    · exact ⟨-1, Ev.pos c (Ev.some' rfl), fun h => by omega⟩
    · rw [wrap_in (1048576 - (a1.size : Int) - (C.length : Int)) (by omega) (by omega)]
      by_cases c2 : 1048576 - (a1.size : Int) - (C.length : Int) < 0
      · exact ⟨-1, Ev.neg c (Ev.bind (a := -1) (Ev.pos c2 (Ev.some' rfl)) (Ev.pos (by omega) (Ev.some' rfl))), fun h => by omega⟩
      · obtain ⟨t, e, ht⟩ := szc_from C (by omega) (fun x hx => (o3' x hx).2.1) C.length 0 (1048576 - (a1.size : Int) - (C.length : Int)) (by omega) (by omega) (by omega)
        have et : Ev (fun k => if 1048576 - (a1.size : Int) - (C.length : Int) < 0 then some (-1) else laws_szColumnS.l0 k C (1048576 - (a1.size : Int) - (C.length : Int)) 0) t := Ev.neg c2 e
        by_cases c3 : t < 0
        · exact ⟨-1, Ev.neg c (Ev.bind et (Ev.pos c3 (Ev.some' rfl))), fun h => by omega⟩
        · have w4 := wrap_in (t - (K.length : Int)) (by omega) (by omega)
          by_cases c4 : t - (K.length : Int) < 0
          · exact ⟨-1, Ev.neg c (Ev.bind et (Ev.neg c3 (Ev.bind (a := -1) (by rw [w4]; exact Ev.pos c4 (Ev.some' rfl)) (Ev.pos (by omega) (Ev.some' rfl))))), fun h => by omega⟩
          · have ek : Ev (fun k => if wrap64 (t - (K.length : Int)) < 0 then some (-1) else some (wrap64 (t - (K.length : Int)))) (t - (K.length : Int)) := by rw [w4]; exact Ev.neg c4 (Ev.some' rfl)
            have w5 := wrap_in (t - (K.length : Int) - (I.length : Int)) (by omega) (by omega)
            by_cases c5 : t - (K.length : Int) - (I.length : Int) < 0
            · exact ⟨-1, Ev.neg c (Ev.bind et (Ev.neg c3 (Ev.bind ek (Ev.neg c4 (Ev.bind (a := -1) (by rw [w5]; exact Ev.pos c5 (Ev.some' rfl)) (Ev.pos (by omega) (Ev.some' rfl))))))), fun h => by omega⟩
            · obtain ⟨u, eu, hu⟩ := szi_from I (by omega) (fun x hx => ⟨(o5' x hx).2.1, (o5' x hx).2.2.1.1⟩) I.length 0 (t - (K.length : Int) - (I.length : Int)) (by omega) (by omega) (by omega)
              have ei : Ev (fun k => if wrap64 (t - (K.length : Int) - (I.length : Int)) < 0 then some (-1) else laws_szIndexS.l0 k I (wrap64 (t - (K.length : Int) - (I.length : Int))) 0) u := by rw [w5]; exact Ev.neg c5 eu
              by_cases c6 : u < 0
              · exact ⟨-1, Ev.neg c (Ev.bind et (Ev.neg c3 (Ev.bind ek (Ev.neg c4 (Ev.bind ei (Ev.pos c6 (Ev.some' rfl))))))), fun h => by omega⟩
              · refine ⟨u, Ev.neg c (Ev.bind et (Ev.neg c3 (Ev.bind ek (Ev.neg c4 (Ev.bind ei (Ev.neg c6 (Ev.some' rfl))))))), fun h => ⟨by omega, by omega, by omega, fun x hx => ?_⟩⟩
                obtain ⟨j, hj, rfl⟩ := List.mem_iff_getElem.1 hx
                exact hu (by omega) j hj (Nat.zero_le _)
  obtain ⟨z, hz, hc⟩ := hz
  simp only [laws_FnExactTableOK.f]
  refine Ev.bind hz ?_
  by_cases c : z < 0
  · exact Ev.pos c (Ev.some' rfl)
  obtain ⟨b1, b2, b3, b4⟩ := hc (by omega)
  have T : Ev (fun k => laws_toTable.f k a0 a1 a2 C K I) (a0, a1, a2, C.map cv_Column, K, I.map cv_Index) := by
    simp only [laws_toTable.f]
    exact Ev.bind (to_Column C (by omega)) (Ev.bind (ints_to K b2) (Ev.bind (to_Index I (by omega) b4) (Ev.some' rfl)))
  have hcs : ∀ x ∈ C.map cv_Column, x.f1.size ≤ 9223372036854775807 := by
    intro x hx
    obtain ⟨y, hy, rfl⟩ := List.mem_map.1 hx
    exact (o3' y hy).2.1
  have his : ∀ x ∈ I.map cv_Index, x.f1.size ≤ 9223372036854775807 ∧ x.f2.length ≤ 1048576 := by
    intro x hx
    obtain ⟨y, hy, rfl⟩ := List.mem_map.1 hx
    exact ⟨(o5' y hy).2.1, b4 y hy⟩
  obtain ⟨v, e1, e2⟩ := table_both a0 a1 a2 (C.map cv_Column) K (I.map cv_Index) (by rw [List.length_map]; exact b1) b2 (by rw [List.length_map]; exact b3) hcs his o1
  have Q : Ev (fun k => laws_eqTable.f k a0 a1 a2 (C.map cv_Column) K (I.map cv_Index) a0 a1 a2 (C.map cv_Column) K (I.map cv_Index)) true := by
    simp only [laws_eqTable.f]
    exact Ev.pos (by trivial) (Ev.pos (by trivial) (Ev.pos (by trivial) (Ev.bind (eq_Column _ (by rw [List.length_map]; omega)) (Ev.pos (by trivial) (Ev.bind (ints_eq K b2) (Ev.pos (by trivial) (Ev.bind (eq_Index _ (by rw [List.length_map]; omega) (fun x hx => (his x hx).2)) (Ev.pos (by trivial) (Ev.some' rfl)))))))))
  exact Ev.neg c (Ev.bind T (Ev.bind e1 (Ev.bind T (Ev.bind e2 (Ev.neg (by simp) (Ev.bind T (Ev.bind Q (Ev.pos (by trivial) (Ev.some' rfl)))))))))
end Go.Proofs.Ytiolnbhcmoafjaa.Pure
