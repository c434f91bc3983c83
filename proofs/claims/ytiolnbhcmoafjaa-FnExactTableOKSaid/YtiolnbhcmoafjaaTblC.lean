/- The reference's TableOK and the program's answer alike: places of columns, rows without a twin, the loops over columns, key and indexes. No condition beside that rows have a place in memory. -/
import Derived.Test.YtiolnbhcmoafjaaTblP
namespace Go.Proofs.Ytiolnbhcmoafjaa.QTbl
set_option linter.unusedVariables false
set_option linter.unusedSimpArgs false
open Go.RowKit Go.Proofs.Ytiolnbhcmoafjaa.QFnExactTableOK Go.Proofs.YtiolnbhcmoafjaaW.PrintWords Go.Proofs.YtiolnbhcmoafjaaU
/-! ### the place of a column -/
def HAS (C : List S78) (id : Int) (need : Bool) : Prop := ∃ n : Nat, n < C.length ∧ (rd_T78 C (n : Int)).f0 = id ∧ (∀ j : Nat, j < n → (rd_T78 C (j : Int)).f0 ≠ id) ∧ (need = true → (rd_T78 C (n : Int)).f3 = true)
def PL (C : List S78) (P : S78 → Prop) (r : Int) : Prop := (r = -1 ∧ ∀ j : Nat, j < C.length → ¬ P (rd_T78 C (j : Int))) ∨ ∃ n : Nat, r = n ∧ n < C.length ∧ P (rd_T78 C (n : Int)) ∧ ∀ j : Nat, j < n → ¬ P (rd_T78 C (j : Int))
theorem col_from (t0 : Int) (t1 : ByteArray) (t2 : Int) (C : List S78) (K : List Int) (I : List S83) (hC : C.length ≤ 9223372036854775807) (id : Int) (d : Nat) : ∀ i : Nat, i + d = C.length → (∀ j : Nat, j < i → (rd_T78 C (j : Int)).f0 ≠ id) →
    ∃ r, Ev (fun k => spec_l09Col.l0 k id (i : Int) t0 t1 t2 C K I) r ∧ Ev (fun k => impl_kCol.l0 k id C (i : Int)) r ∧ PL C (fun c => c.f0 = id) r := by
  induction d with
  | zero =>
    intro i hi h
    refine ⟨-1, Ev.succ ?_, Ev.succ ?_, .inl ⟨rfl, fun j hj => h j (by omega)⟩⟩
    · simp only [spec_l09Col.l0]
      exact Ev.neg (by omega) (Ev.some' rfl)
    · simp only [impl_kCol.l0]
      exact Ev.neg (by omega) (Ev.some' rfl)
  | succ d ih =>
    intro i hi h
    have w := wrap_succ i C.length (by omega) hC
    by_cases c : (rd_T78 C (i : Int)).f0 = id
    · refine ⟨i, Ev.succ ?_, Ev.succ ?_, .inr ⟨i, rfl, by omega, c, h⟩⟩
      · simp only [spec_l09Col.l0]
        exact Ev.pos (by omega) (Ev.pos (by omega) (Ev.pos c (Ev.some' rfl)))
      · simp only [impl_kCol.l0]
        exact Ev.pos (by omega) (Ev.pos (by omega) (Ev.pos c (Ev.some' rfl)))
    · obtain ⟨r, e1, e2, p⟩ := ih (i + 1) (by omega) (fun j hj => if e : j = i then e ▸ c else h j (by omega))
      refine ⟨r, Ev.succ ?_, Ev.succ ?_, p⟩
      · simp only [spec_l09Col.l0, w]
        exact Ev.pos (by omega) (Ev.pos (by omega) (Ev.neg c e1))
      · simp only [impl_kCol.l0, w]
        exact Ev.pos (by omega) (Ev.pos (by omega) (Ev.neg c e2))
theorem named_from (t0 : Int) (t1 : ByteArray) (t2 : Int) (C : List S78) (K : List Int) (I : List S83) (hC : C.length ≤ 9223372036854775807) (nm : ByteArray) (d : Nat) : ∀ i : Nat, i + d = C.length → (∀ j : Nat, j < i → (rd_T78 C (j : Int)).f1.toList ≠ nm.toList) →
    ∃ r, Ev (fun k => spec_l09Named.l0 k nm (i : Int) t0 t1 t2 C K I) r ∧ PL C (fun c => c.f1.toList = nm.toList) r := by
  induction d with
  | zero =>
    intro i hi h
    refine ⟨-1, Ev.succ ?_, .inl ⟨rfl, fun j hj => h j (by omega)⟩⟩
    simp only [spec_l09Named.l0]
    exact Ev.neg (by omega) (Ev.some' rfl)
  | succ d ih =>
    intro i hi h
    have w := wrap_succ i C.length (by omega) hC
    by_cases c : (rd_T78 C (i : Int)).f1.toList = nm.toList
    · refine ⟨i, Ev.succ ?_, .inr ⟨i, rfl, by omega, c, h⟩⟩
      simp only [spec_l09Named.l0]
      exact Ev.pos (by omega) (Ev.pos (by omega) (Ev.pos c (Ev.some' rfl)))
    · obtain ⟨r, e1, p⟩ := ih (i + 1) (by omega) (fun j hj => if e : j = i then e ▸ c else h j (by omega))
      refine ⟨r, Ev.succ ?_, p⟩
      simp only [spec_l09Named.l0, w]
      exact Ev.pos (by omega) (Ev.pos (by omega) (Ev.neg c e1))
/-- It is the first of its kind just where its place is its own. -/
theorem PL.own {C : List S78} {P : S78 → Prop} {r : Int} (h : PL C P r) (i : Nat) (hi : i < C.length) (hP : P (rd_T78 C (i : Int))) : r = (i : Int) ↔ ∀ j : Nat, j < i → ¬ P (rd_T78 C (j : Int)) := by
  rcases h with ⟨_, h⟩ | ⟨n, rfl, hn, hp, hf⟩
  · exact absurd hP (h i hi)
  · constructor
    · intro e
      have : n = i := by omega
      subst this
      exact hf
    · intro g
      rcases Nat.lt_trichotomy n i with q | q | q
      · exact absurd hp (g n q)
      · rw [q]
      · exact absurd hP (hf i q)
/-! ### rows without a twin -/
def DIS (l : List Int) (m : Nat) : Prop := ∀ j : Nat, j < m → rd l (m : Int) ≠ rd l (j : Int)
def DISS (l : List ByteArray) (m : Nat) : Prop := ∀ j : Nat, j < m → (rdOf ByteArray.empty l (m : Int)).toList ≠ (rdOf ByteArray.empty l (j : Int)).toList
theorem rd_take (l : List Int) (i j : Nat) (h : j < i) : rd (l.take i) (j : Int) = rd l (j : Int) := by
  unfold rd
  rw [Int.toNat_natCast, List.getD_eq_getElem?_getD, List.getD_eq_getElem?_getD, List.getElem?_take_of_lt h]
theorem rdOf_take (l : List ByteArray) (i j : Nat) (h : j < i) : rdOf ByteArray.empty (l.take i) (j : Int) = rdOf ByteArray.empty l (j : Int) := by
  unfold rdOf
  rw [Int.toNat_natCast, List.getD_eq_getElem?_getD, List.getD_eq_getElem?_getD, List.getElem?_take_of_lt h]
theorem has_from (l : List Int) (hl : l.length ≤ 9223372036854775807) (x : Int) (d : Nat) : ∀ i : Nat, i + d = l.length → EvP (fun k => spec_l09Has.l0 k l x (i : Int)) (∃ j : Nat, i ≤ j ∧ j < l.length ∧ x = rd l (j : Int)) := by
  induction d with
  | zero =>
    intro i hi
    refine EvP.succ ?_
    simp only [spec_l09Has.l0]
    exact EvP.neg (by omega) (EvP.no fun ⟨j, a, b, _⟩ => by omega)
  | succ d ih =>
    intro i hi
    have w := wrap_succ i l.length (by omega) hl
    have q := ih (i + 1) (by omega)
    refine EvP.succ ?_
    simp only [spec_l09Has.l0, w]
    refine EvP.pos (by omega) (EvP.pos (by omega) (EvP.ite (fun z => EvP.yes ⟨i, Nat.le_refl _, by omega, z.symm⟩) fun z => q.iff ?_))
    exact ⟨fun ⟨j, a, b, c⟩ => ⟨j, by omega, b, c⟩, fun ⟨j, a, b, c⟩ => ⟨j, if e : j = i then absurd (e ▸ c).symm z else by omega, b, c⟩⟩
theorem index_from (l : List Int) (hl : l.length ≤ 9223372036854775807) (x : Int) (d : Nat) : ∀ i : Nat, i + d = l.length → ∃ r, Ev (fun k => slices_Index_int_int.l0 k l x (l.length : Int) (i : Int)) r ∧ (r ≥ 0 ↔ ∃ j : Nat, i ≤ j ∧ j < l.length ∧ x = rd l (j : Int)) := by
  induction d with
  | zero =>
    intro i hi
    refine ⟨-1, Ev.succ ?_, fun h => by omega, fun ⟨j, a, b, _⟩ => by omega⟩
    simp only [slices_Index_int_int.l0]
    exact Ev.neg (by omega) (Ev.some' rfl)
  | succ d ih =>
    intro i hi
    have w := wrap_succ i l.length (by omega) hl
    by_cases z : x = rd l (i : Int)
    · refine ⟨i, Ev.succ ?_, fun _ => ⟨i, Nat.le_refl _, by omega, z⟩, fun _ => by omega⟩
      simp only [slices_Index_int_int.l0]
      exact Ev.pos (by omega) (Ev.pos (by omega) (Ev.pos (by omega) (Ev.pos z (Ev.some' rfl))))
    · obtain ⟨r, e, p⟩ := ih (i + 1) (by omega)
      refine ⟨r, Ev.succ ?_, p.trans ⟨fun ⟨j, a, b, c⟩ => ⟨j, by omega, b, c⟩, fun ⟨j, a, b, c⟩ => ⟨j, if e : j = i then absurd (e ▸ c) z else by omega, b, c⟩⟩⟩
      simp only [slices_Index_int_int.l0, w]
      exact Ev.pos (by omega) (Ev.pos (by omega) (Ev.pos (by omega) (Ev.neg z e)))
theorem indexs_from (l : List ByteArray) (hl : l.length ≤ 9223372036854775807) (x : ByteArray) (d : Nat) : ∀ i : Nat, i + d = l.length → ∃ r, Ev (fun k => slices_Index_string_string.l0 k l x (l.length : Int) (i : Int)) r ∧ (r ≥ 0 ↔ ∃ j : Nat, i ≤ j ∧ j < l.length ∧ x.toList = (rdOf ByteArray.empty l (j : Int)).toList) := by
  induction d with
  | zero =>
    intro i hi
    refine ⟨-1, Ev.succ ?_, fun h => by omega, fun ⟨j, a, b, _⟩ => by omega⟩
    simp only [slices_Index_string_string.l0]
    exact Ev.neg (by omega) (Ev.some' rfl)
  | succ d ih =>
    intro i hi
    have w := wrap_succ i l.length (by omega) hl
    by_cases z : x.toList = (rdOf ByteArray.empty l (i : Int)).toList
    · refine ⟨i, Ev.succ ?_, fun _ => ⟨i, Nat.le_refl _, by omega, z⟩, fun _ => by omega⟩
      simp only [slices_Index_string_string.l0]
      exact Ev.pos (by omega) (Ev.pos (by omega) (Ev.pos (by omega) (Ev.pos z (Ev.some' rfl))))
    · obtain ⟨r, e, p⟩ := ih (i + 1) (by omega)
      refine ⟨r, Ev.succ ?_, p.trans ⟨fun ⟨j, a, b, c⟩ => ⟨j, by omega, b, c⟩, fun ⟨j, a, b, c⟩ => ⟨j, if e : j = i then absurd (e ▸ c) z else by omega, b, c⟩⟩⟩
      simp only [slices_Index_string_string.l0, w]
      exact Ev.pos (by omega) (Ev.pos (by omega) (Ev.pos (by omega) (Ev.neg z e)))
theorem once_from (l : List Int) (hl : l.length ≤ 9223372036854775807) (d : Nat) : ∀ i : Nat, i + d = l.length → EvP (fun k => spec_l09Once.l0 k l (i : Int)) (∀ m, i ≤ m → m < l.length → DIS l m) := by
  induction d with
  | zero =>
    intro i hi
    refine EvP.succ ?_
    simp only [spec_l09Once.l0]
    exact EvP.neg (by omega) (EvP.yes fun m h1 h2 => by omega)
  | succ d ih =>
    intro i hi
    have w := wrap_succ i l.length (by omega) hl
    have q := ih (i + 1) (by omega)
    have ht : (l.take i).length = i := by rw [List.length_take]; omega
    refine EvP.succ ?_
    simp only [spec_l09Once.l0, w, spec_l09Has.f, Int.toNat_natCast]
    refine EvP.pos (by omega) (EvP.pos (by omega) (EvP.pos (by omega) (EvP.bnd (has_from (l.take i) (by omega) _ i 0 (by omega)) fun b hb => EvP.ite (fun z => EvP.no fun g => ?_) fun z => q.iff (all_yes fun j hj e => z (hb.2 ⟨j, Nat.zero_le _, by omega, by rw [rd_take l i j hj]; exact e⟩)))))
    obtain ⟨j, _, hj, e⟩ := hb.1 z
    rw [ht] at hj
    rw [rd_take l i j hj] at e
    exact g i (Nat.le_refl _) (by omega) j hj e
theorem twice_from (l : List Int) (hl : l.length ≤ 9223372036854775807) (d : Nat) : ∀ i : Nat, i + d = l.length → EvP (fun k => impl_kTwice_int.l0 k l (l.length : Int) (i : Int)) (¬ ∀ m, i ≤ m → m < l.length → DIS l m) := by
  induction d with
  | zero =>
    intro i hi
    refine EvP.succ ?_
    simp only [impl_kTwice_int.l0]
    exact EvP.neg (by omega) (EvP.no fun g => g fun m h1 h2 => by omega)
  | succ d ih =>
    intro i hi
    have w := wrap_succ i l.length (by omega) hl
    have q := ih (i + 1) (by omega)
    have ht : (l.take i).length = i := by rw [List.length_take]; omega
    obtain ⟨r, er, hr⟩ := index_from (l.take i) (by omega) (rd l (i : Int)) i 0 (by omega)
    refine EvP.succ ?_
    simp only [impl_kTwice_int.l0, w, slices_Contains_int_int.f, slices_Index_int_int.f, Int.toNat_natCast]
    refine EvP.pos (by omega) (EvP.pos (by omega) (EvP.pos (by omega) (EvP.pos (by omega) (EvP.bind (b := decide (r ≥ 0)) (Ev.bind er (Ev.some' rfl)) (EvP.ite (fun z => EvP.yes fun g => ?_) fun z => q.iff (not_congr (all_yes fun j hj e => z ?_)))))))
    · obtain ⟨j, _, hj, e⟩ := hr.1 (of_decide_eq_true z)
      rw [ht] at hj
      rw [rd_take l i j hj] at e
      exact g i (Nat.le_refl _) (by omega) j hj e
    · exact decide_eq_true (hr.2 ⟨j, Nat.zero_le _, by omega, by rw [rd_take l i j hj]; exact e⟩)
theorem twices_from (l : List ByteArray) (hl : l.length ≤ 9223372036854775807) (d : Nat) : ∀ i : Nat, i + d = l.length → EvP (fun k => impl_kTwice_string.l0 k l (l.length : Int) (i : Int)) (¬ ∀ m, i ≤ m → m < l.length → DISS l m) := by
  induction d with
  | zero =>
    intro i hi
    refine EvP.succ ?_
    simp only [impl_kTwice_string.l0]
    exact EvP.neg (by omega) (EvP.no fun g => g fun m h1 h2 => by omega)
  | succ d ih =>
    intro i hi
    have w := wrap_succ i l.length (by omega) hl
    have q := ih (i + 1) (by omega)
    have ht : (l.take i).length = i := by rw [List.length_take]; omega
    obtain ⟨r, er, hr⟩ := indexs_from (l.take i) (by omega) (rdOf ByteArray.empty l (i : Int)) i 0 (by omega)
    refine EvP.succ ?_
    simp only [impl_kTwice_string.l0, w, slices_Contains_string_string.f, slices_Index_string_string.f, Int.toNat_natCast]
    refine EvP.pos (by omega) (EvP.pos (by omega) (EvP.pos (by omega) (EvP.pos (by omega) (EvP.bind (b := decide (r ≥ 0)) (Ev.bind er (Ev.some' rfl)) (EvP.ite (fun z => EvP.yes fun g => ?_) fun z => q.iff (not_congr (all_yes fun j hj e => z ?_)))))))
    · obtain ⟨j, _, hj, e⟩ := hr.1 (of_decide_eq_true z)
      rw [ht] at hj
      rw [rdOf_take l i j hj] at e
      exact g i (Nat.le_refl _) (by omega) j hj e
    · exact decide_eq_true (hr.2 ⟨j, Nat.zero_le _, by omega, by rw [rdOf_take l i j hj]; exact e⟩)
def ONCE (l : List Int) : Prop := ∀ m, 0 ≤ m → m < l.length → DIS l m
def ONCES (l : List ByteArray) : Prop := ∀ m, 0 ≤ m → m < l.length → DISS l m
theorem once_f (l : List Int) (hl : l.length ≤ 9223372036854775807) : EvP (fun k => spec_l09Once.f k l) (ONCE l) := once_from l hl l.length 0 (by omega)
theorem twice_f (l : List Int) (hl : l.length ≤ 9223372036854775807) : EvP (fun k => impl_kTwice_int.f k l) (¬ ONCE l) := twice_from l hl l.length 0 (by omega)
theorem twices_f (l : List ByteArray) (hl : l.length ≤ 9223372036854775807) : EvP (fun k => impl_kTwice_string.f k l) (¬ ONCES l) := twices_from l hl l.length 0 (by omega)
theorem kw (a lo hi : Int) : impl_kWithin.f a lo hi = some (decide (lo ≤ a ∧ a ≤ hi)) := by
  unfold impl_kWithin.f
  by_cases c : a ≥ lo
  · rw [if_pos c, show decide (lo ≤ a ∧ a ≤ hi) = decide (a ≤ hi) by rw [decide_eq_decide]; exact ⟨fun q => q.2, fun q => ⟨c, q⟩⟩]
  · rw [if_neg c, decide_eq_false (fun q => c q.1)]
theorem kwP {a lo hi : Int} {f g : Nat → Option Bool} {P : Prop} (h1 : lo ≤ a ∧ a ≤ hi → EvP f P) (h2 : ¬ (lo ≤ a ∧ a ≤ hi) → EvP g P) : EvP (fun n => (impl_kWithin.f a lo hi).bind fun t => if t = true then f n else g n) P :=
  EvP.bndc (kw a lo hi) (EvP.ite (fun z => h1 (of_decide_eq_true z)) fun z => h2 (by simpa using z))
/-! ### a row of columns -/
theorem colsok (t0 : Int) (t1 : ByteArray) (t2 : Int) (C : List S78) (K : List Int) (I : List S83) (hC : C.length ≤ 9223372036854775807) (l : List Int) (hl : l.length ≤ 9223372036854775807) (need : Bool) :
    EvP (fun k => spec_l09ColsOK.f k t0 t1 t2 C K I l need) (l.length ≠ 0 ∧ l.length ≤ 16 ∧ ONCE l ∧ ∀ m, 0 ≤ m → m < l.length → HAS C (rd l (m : Int)) need) := by
  have L : ∀ d : Nat, ∀ i : Nat, i + d = l.length → EvP (fun k => spec_l09ColsOK.l0 k l need (i : Int) t0 t1 t2 C K I) (∀ m, i ≤ m → m < l.length → HAS C (rd l (m : Int)) need) := by
    intro d
    induction d with
    | zero =>
      intro i hi
      refine EvP.succ ?_
      simp only [spec_l09ColsOK.l0]
      exact EvP.neg (by omega) (EvP.yes fun m h1 h2 => by omega)
    | succ d ih =>
      intro i hi
      have w := wrap_succ i l.length (by omega) hl
      have q := ih (i + 1) (by omega)
      obtain ⟨r, e, _, p⟩ := col_from t0 t1 t2 C K I hC (rd l (i : Int)) C.length 0 (by omega) (fun j hj => by omega)
      have no : ¬ HAS C (rd l (i : Int)) need → EvP (fun _ => some false) (∀ m, i ≤ m → m < l.length → HAS C (rd l (m : Int)) need) := fun h => EvP.no (all_no (P := fun m => HAS C (rd l (m : Int)) need) (by omega) h)
      have yes : HAS C (rd l (i : Int)) need → EvP (fun k => spec_l09ColsOK.l0 k l need ((i + 1 : Nat) : Int) t0 t1 t2 C K I) (∀ m, i ≤ m → m < l.length → HAS C (rd l (m : Int)) need) := fun h => q.iff (all_yes (P := fun m => HAS C (rd l (m : Int)) need) h)
      refine EvP.succ ?_
      simp only [spec_l09ColsOK.l0, w, spec_l09Col.f]
      refine EvP.pos (by omega) (EvP.pos (by omega) (EvP.bind e ?_))
      rcases p with ⟨rfl, p⟩ | ⟨n, rfl, hn, p, pf⟩
      · exact EvP.pos (by omega) (no fun ⟨n, a, b, _⟩ => p n a b)
      · refine EvP.neg (by omega) (EvP.ite (fun z => EvP.pos (by omega) (EvP.pos (by omega) (EvP.ite (fun y => yes ⟨n, hn, p, pf, fun _ => y⟩) fun y => no ?_))) fun z => yes ⟨n, hn, p, pf, fun x => absurd x z⟩)
        rintro ⟨n', a, b, c, g⟩
        have : n' = n := by
          rcases Nat.lt_trichotomy n' n with q | q | q
          · exact absurd b (pf n' q)
          · exact q
          · exact absurd p (c n q)
        subst this
        exact y (g z)
  have J : ∀ b : Bool, EvP (fun k => spec_l09ColsOK.j0 k l need b t0 t1 t2 C K I) (b = false ∧ ∀ m, 0 ≤ m → m < l.length → HAS C (rd l (m : Int)) need) := by
    intro b
    refine EvP.succ ?_
    simp only [spec_l09ColsOK.j0]
    refine EvP.ite (fun z => EvP.no fun q => ?_) fun z => (L l.length 0 (by omega)).iff ⟨fun q => ⟨by simpa using z, q⟩, fun q => q.2⟩
    rw [z] at q; cases q.1
  simp only [spec_l09ColsOK.f]
  refine EvP.ite (fun z => (J true).iff ⟨fun q => (by cases q.1), fun q => absurd q.1 (by omega)⟩) fun z => EvP.ite (fun y => (J true).iff ⟨fun q => (by cases q.1), fun q => absurd q.2.1 (by omega)⟩) fun y => EvP.bnd (once_f l hl) fun b hb => (J _).iff ?_
  constructor
  · rintro ⟨a, q⟩
    exact ⟨by omega, by omega, hb.1 (by simpa using a), q⟩
  · rintro ⟨_, _, a, q⟩
    exact ⟨by simpa using hb.2 a, q⟩
end Go.Proofs.Ytiolnbhcmoafjaa.QTbl
