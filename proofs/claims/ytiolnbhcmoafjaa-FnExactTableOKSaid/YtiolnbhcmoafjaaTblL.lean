/- The reference's TableOK and the program's answer alike: the loops over columns and indexes. No condition beside that rows have a place in memory. -/
import Derived.Test.YtiolnbhcmoafjaaTblC
namespace Go.Proofs.Ytiolnbhcmoafjaa.QTbl
set_option linter.unusedVariables false
set_option linter.unusedSimpArgs false
open Go.RowKit Go.Proofs.Ytiolnbhcmoafjaa.QFnExactTableOK Go.Proofs.YtiolnbhcmoafjaaW.PrintWords Go.Proofs.YtiolnbhcmoafjaaU
def COL (C : List S78) (m : Nat) : Prop := (1 ≤ (rd_T78 C (m : Int)).f0 ∧ (rd_T78 C (m : Int)).f0 ≤ 1000) ∧ NM (rd_T78 C (m : Int)).f1 ∧ (1 ≤ (rd_T78 C (m : Int)).f2 ∧ (rd_T78 C (m : Int)).f2 ≤ 5)
def DC (C : List S78) (m : Nat) : Prop := ∀ j : Nat, j < m → (rd_T78 C (j : Int)).f0 ≠ (rd_T78 C (m : Int)).f0
def DN (C : List S78) (m : Nat) : Prop := ∀ j : Nat, j < m → (rd_T78 C (j : Int)).f1.toList ≠ (rd_T78 C (m : Int)).f1.toList
def IXP (C : List S78) (K : List Int) (x : S83) : Prop := (1 ≤ x.f0 ∧ x.f0 ≤ 1000) ∧ NM x.f1 ∧ (x.f2.length ≠ 0 ∧ ONCE x.f2 ∧ ∀ m, 0 ≤ m → m < x.f2.length → HAS C (rd x.f2 (m : Int)) false) ∧ (1 ≤ x.f4 ∧ x.f4 ≤ 3) ∧ x.f2.length + K.length ≤ 14
def TI (I : List S83) (m : Nat) : Prop := ∀ j, 0 ≤ j → j < m → (rd_T83 I (j : Int)).f0 ≠ (rd_T83 I (m : Int)).f0 ∧ (rd_T83 I (j : Int)).f1.toList ≠ (rd_T83 I (m : Int)).f1.toList
/-! ### the reference -/
section
variable (t0 : Int) (t1 : ByteArray) (t2 : Int) (C : List S78) (K : List Int) (I : List S83) (hC : C.length ≤ 1048576) (hK : K.length ≤ 1048576) (hI : I.length ≤ 1048576)
variable (hCs : ∀ x ∈ C, x.f1.size ≤ 9223372036854775807) (hIs : ∀ x ∈ I, x.f1.size ≤ 9223372036854775807 ∧ x.f2.length ≤ 1048576)
theorem mem78 {C : List S78} {m : Nat} (h : m < C.length) : rd_T78 C (m : Int) ∈ C := by
  unfold rd_T78
  rw [Int.toNat_natCast, getD_get _ _ _ h]
  exact List.getElem_mem h
theorem mem83 {I : List S83} {m : Nat} (h : m < I.length) : rd_T83 I (m : Int) ∈ I := by
  unfold rd_T83
  rw [Int.toNat_natCast, getD_get _ _ _ h]
  exact List.getElem_mem h
include hI in
theorem s_l2 (i : Nat) (hi : i < I.length) (x : S83) (hx : rd_T83 I (i : Int) = x) (R : Prop) (h : EvP (fun k => spec_TableOK.l1 k ((i + 1 : Nat) : Int) t0 t1 t2 C K I) R) (d : Nat) : ∀ j : Nat, j + d = i →
    EvP (fun k => spec_TableOK.l2 k (i : Int) (j : Int) t0 t1 t2 C K I x.f0 x.f1 x.f2 x.f3 x.f4 x.f5) ((∀ m, j ≤ m → m < i → (rd_T83 I (m : Int)).f0 ≠ x.f0 ∧ (rd_T83 I (m : Int)).f1.toList ≠ x.f1.toList) ∧ R) := by
  induction d with
  | zero =>
    intro j hj
    have w := wrap_succ i I.length hi (by omega)
    refine EvP.succ ?_
    simp only [spec_TableOK.l2, w]
    exact EvP.neg (by omega) (h.iff ⟨fun q => ⟨fun m h1 h2 => absurd h2 (by omega), q⟩, fun q => q.2⟩)
  | succ d ih =>
    intro j hj
    have w := wrap_succ j i (by omega) (by omega)
    have q := ih (j + 1) (by omega)
    have no : ¬ ((rd_T83 I (j : Int)).f0 ≠ x.f0 ∧ (rd_T83 I (j : Int)).f1.toList ≠ x.f1.toList) → EvP (fun _ => some false) ((∀ m, j ≤ m → m < i → (rd_T83 I (m : Int)).f0 ≠ x.f0 ∧ (rd_T83 I (m : Int)).f1.toList ≠ x.f1.toList) ∧ R) :=
      fun h => EvP.no fun g => all_no (P := fun m => (rd_T83 I (m : Int)).f0 ≠ x.f0 ∧ (rd_T83 I (m : Int)).f1.toList ≠ x.f1.toList) (by omega) h g.1
    refine EvP.succ ?_
    simp only [spec_TableOK.l2, w]
    refine EvP.pos (by omega) (EvP.pos (by omega) (EvP.pos (by omega) (EvP.ite (fun a => no fun g => g.1 a) fun a => EvP.ite (fun b => no fun g => g.2 b) fun b => q.iff (and_congr (all_yes (P := fun m => (rd_T83 I (m : Int)).f0 ≠ x.f0 ∧ (rd_T83 I (m : Int)).f1.toList ≠ x.f1.toList) ⟨a, b⟩) Iff.rfl))))
include hC hK hI hIs in
theorem s_l1 (d : Nat) : ∀ i : Nat, i + d = I.length → EvP (fun k => spec_TableOK.l1 k (i : Int) t0 t1 t2 C K I) (∀ m, i ≤ m → m < I.length → IXP C K (rd_T83 I (m : Int)) ∧ TI I m) := by
  induction d with
  | zero =>
    intro i hi
    refine EvP.succ ?_
    simp only [spec_TableOK.l1]
    exact EvP.neg (by omega) (EvP.yes fun m h1 h2 => absurd h2 (by omega))
  | succ d ih =>
    intro i hi
    have q := ih (i + 1) (by omega)
    obtain ⟨hs, hl⟩ := hIs _ (mem83 (I := I) (m := i) (by omega))
    obtain ⟨x, hx⟩ : ∃ x, rd_T83 I (i : Int) = x := ⟨_, rfl⟩
    rw [hx] at hs hl
    have J : ∀ b : Bool, EvP (fun k => spec_TableOK.j3 k (i : Int) b t0 t1 t2 C K I x.f0 x.f1 x.f2 x.f3 x.f4 x.f5) (b = false ∧ TI I i ∧ ∀ m, i + 1 ≤ m → m < I.length → IXP C K (rd_T83 I (m : Int)) ∧ TI I m) := by
      intro b
      refine EvP.succ ?_
      simp only [spec_TableOK.j3]
      refine EvP.ite (fun z => EvP.no fun q => ?_) fun z => (s_l2 t0 t1 t2 C K I hI i (by omega) x hx _ q i 0 (by omega)).iff ?_
      · rw [z] at q; cases q.1
      · unfold TI
        rw [hx]
        exact ⟨fun q => ⟨by simpa using z, q.1, q.2⟩, fun q => ⟨q.2.1, q.2.2⟩⟩
    have B : ∀ b : Bool, (b = false ↔ IXP C K x) → EvP (fun k => spec_TableOK.j3 k (i : Int) b t0 t1 t2 C K I x.f0 x.f1 x.f2 x.f3 x.f4 x.f5) (∀ m, i ≤ m → m < I.length → IXP C K (rd_T83 I (m : Int)) ∧ TI I m) := by
      intro b hb
      refine (J b).iff ⟨fun ⟨a, c, e⟩ m h1 h2 => ?_, fun g => ⟨hb.2 ?_, (g i (Nat.le_refl _) (by omega)).2, fun m h1 h2 => g m (by omega) h2⟩⟩
      · by_cases e2 : m = i
        · subst e2; rw [hx]; exact ⟨hb.1 a, c⟩
        · exact e m (by omega) h2
      · have := (g i (Nat.le_refl _) (by omega)).1
        rw [hx] at this; exact this
    have F : ¬ IXP C K x → EvP (fun k => spec_TableOK.j3 k (i : Int) true t0 t1 t2 C K I x.f0 x.f1 x.f2 x.f3 x.f4 x.f5) (∀ m, i ≤ m → m < I.length → IXP C K (rd_T83 I (m : Int)) ∧ TI I m) := fun h => B true ⟨fun e => (by cases e), fun g => absurd g h⟩
    refine EvP.succ ?_
    simp only [spec_TableOK.l1, hx]
    refine EvP.pos (by omega) (EvP.pos (by omega) (EvP.ite (fun a => F fun g => by have := g.1; omega) fun a => EvP.ite (fun b => F fun g => by have := g.1; omega) fun b => EvP.bnd (name_spec x.f1 hs) fun v hv => EvP.ite (fun z => ?_) fun z => F fun g => z (hv.2 g.2.1)))
    refine EvP.ite (fun c => F fun g => by have := g.2.2.2.1; omega) fun c => EvP.ite (fun e => F fun g => by have := g.2.2.2.1; omega) fun e => EvP.bnd (colsok t0 t1 t2 C K I (by omega) x.f2 (by omega) false) fun u hu => EvP.ite (fun y => ?_) fun y => F fun g => y (hu.2 ⟨g.2.2.1.1, by have := g.2.2.2.2; omega, g.2.2.1.2⟩)
    have hw : wrap64 ((x.f2.length : Int) + (K.length : Int)) = (x.f2.length : Int) + (K.length : Int) := wrap_in _ (by omega) (by omega)
    rw [hw]
    obtain ⟨u1, u2, u3⟩ := hu.1 y
    refine B _ ⟨fun g => ⟨⟨by omega, by omega⟩, hv.1 z, ⟨u1, u3⟩, ⟨by omega, by omega⟩, ?_⟩, fun g => ?_⟩
    · have := of_decide_eq_false g; omega
    · have := g.2.2.2.2
      exact decide_eq_false (by omega)
include hC hK hI hCs hIs in
theorem s_l0 (d : Nat) : ∀ i : Nat, i + d = C.length → EvP (fun k => spec_TableOK.l0 k (i : Int) t0 t1 t2 C K I)
    ((∀ m, i ≤ m → m < C.length → COL C m ∧ DC C m ∧ DN C m) ∧ (K.length ≠ 0 ∧ K.length ≤ 16 ∧ ONCE K ∧ ∀ m, 0 ≤ m → m < K.length → HAS C (rd K (m : Int)) true) ∧ ∀ m, 0 ≤ m → m < I.length → IXP C K (rd_T83 I (m : Int)) ∧ TI I m) := by
  induction d with
  | zero =>
    intro i hi
    refine EvP.succ ?_
    simp only [spec_TableOK.l0]
    refine EvP.neg (by omega) (EvP.bnd (colsok t0 t1 t2 C K I (by omega) K (by omega) true) fun v hv => EvP.ite (fun z => (s_l1 t0 t1 t2 C K I hC hK hI hIs I.length 0 (by omega)).iff ?_) fun z => EvP.no fun g => z (hv.2 g.2.1))
    exact ⟨fun g => ⟨fun m h1 h2 => absurd h2 (by omega), hv.1 z, g⟩, fun g => g.2.2⟩
  | succ d ih =>
    intro i hi
    have w := wrap_succ i C.length (by omega) (by omega)
    have q := ih (i + 1) (by omega)
    have hs := hCs _ (mem78 (C := C) (m := i) (by omega))
    have no : ¬ (COL C i ∧ DC C i ∧ DN C i) → EvP (fun _ => some false) ((∀ m, i ≤ m → m < C.length → COL C m ∧ DC C m ∧ DN C m) ∧ (K.length ≠ 0 ∧ K.length ≤ 16 ∧ ONCE K ∧ ∀ m, 0 ≤ m → m < K.length → HAS C (rd K (m : Int)) true) ∧ ∀ m, 0 ≤ m → m < I.length → IXP C K (rd_T83 I (m : Int)) ∧ TI I m) :=
      fun h => EvP.no fun g => all_no (P := fun m => COL C m ∧ DC C m ∧ DN C m) (by omega) h g.1
    obtain ⟨r1, e1, _, p1⟩ := col_from t0 t1 t2 C K I (by omega) (rd_T78 C (i : Int)).f0 C.length 0 (by omega) (fun j hj => by omega)
    obtain ⟨r2, e2, p2⟩ := named_from t0 t1 t2 C K I (by omega) (rd_T78 C (i : Int)).f1 C.length 0 (by omega) (fun j hj => by omega)
    have o1 := p1.own i (by omega) rfl
    have o2 := p2.own i (by omega) rfl
    refine EvP.succ ?_
    simp only [spec_TableOK.l0, w, spec_l09Col.f, spec_l09Named.f]
    refine EvP.pos (by omega) (EvP.pos (by omega) (EvP.ite (fun a => no fun g => by have := g.1.1; omega) fun a => EvP.ite (fun b => no fun g => by have := g.1.1; omega) fun b => EvP.bnd (name_spec _ hs) fun v hv => EvP.ite (fun z => ?_) fun z => no fun g => z (hv.2 g.1.2.1)))
    refine EvP.ite (fun c => no fun g => by have := g.1.2.2; omega) fun c => EvP.ite (fun e => no fun g => by have := g.1.2.2; omega) fun e => EvP.bind e1 (EvP.ite (fun x => EvP.bind e2 (EvP.ite (fun y => q.iff ?_) fun y => no fun g => y (o2.2 g.2.2))) fun x => no fun g => x (o1.2 g.2.1))
    exact and_congr (all_yes (P := fun m => COL C m ∧ DC C m ∧ DN C m) ⟨⟨⟨by omega, by omega⟩, hv.1 z, by omega, by omega⟩, o1.1 x, o2.1 y⟩) Iff.rfl
/-- What the reference asks. -/
def SP (t0 : Int) (t1 : ByteArray) (t2 : Int) (C : List S78) (K : List Int) (I : List S83) : Prop := ((1 ≤ t0 ∧ t0 ≤ 40) ∧ NM t1 ∧ (1 ≤ t2 ∧ t2 ≤ 1000000) ∧ (1 ≤ C.length ∧ C.length ≤ 14) ∧ I.length ≤ 8) ∧ (∀ m, 0 ≤ m → m < C.length → COL C m ∧ DC C m ∧ DN C m) ∧ (K.length ≠ 0 ∧ K.length ≤ 16 ∧ ONCE K ∧ ∀ m, 0 ≤ m → m < K.length → HAS C (rd K (m : Int)) true) ∧ ∀ m, 0 ≤ m → m < I.length → IXP C K (rd_T83 I (m : Int)) ∧ TI I m
include hC hK hI hCs hIs in
theorem s_f (ht : t1.size ≤ 9223372036854775807) : EvP (fun k => spec_TableOK.f k t0 t1 t2 C K I) (SP t0 t1 t2 C K I) := by
  have J : ∀ b : Bool, EvP (fun k => spec_TableOK.j0 k b t0 t1 t2 C K I) (b = false ∧ (∀ m, 0 ≤ m → m < C.length → COL C m ∧ DC C m ∧ DN C m) ∧ (K.length ≠ 0 ∧ K.length ≤ 16 ∧ ONCE K ∧ ∀ m, 0 ≤ m → m < K.length → HAS C (rd K (m : Int)) true) ∧ ∀ m, 0 ≤ m → m < I.length → IXP C K (rd_T83 I (m : Int)) ∧ TI I m) := by
    intro b
    refine EvP.succ ?_
    simp only [spec_TableOK.j0]
    refine EvP.ite (fun z => EvP.no fun q => ?_) fun z => (s_l0 t0 t1 t2 C K I hC hK hI hCs hIs C.length 0 (by omega)).iff ⟨fun q => ⟨by simpa using z, q⟩, fun q => q.2⟩
    rw [z] at q; cases q.1
  have F : ¬ ((1 ≤ t0 ∧ t0 ≤ 40) ∧ NM t1 ∧ (1 ≤ t2 ∧ t2 ≤ 1000000) ∧ (1 ≤ C.length ∧ C.length ≤ 14) ∧ I.length ≤ 8) → EvP (fun k => spec_TableOK.j0 k true t0 t1 t2 C K I) (SP t0 t1 t2 C K I) := fun h => (J true).iff ⟨fun q => (by cases q.1), fun q => absurd q.1 h⟩
  simp only [spec_TableOK.f]
  refine EvP.ite (fun a => F fun g => by have := g.1; omega) fun a => EvP.ite (fun b => F fun g => by have := g.1; omega) fun b => EvP.bnd (name_spec t1 ht) fun v hv => EvP.ite (fun z => ?_) fun z => F fun g => z (hv.2 g.2.1)
  refine EvP.ite (fun c => F fun g => by have := g.2.2.1; omega) fun c => EvP.ite (fun e => F fun g => by have := g.2.2.1; omega) fun e => EvP.ite (fun x => F fun g => by have := g.2.2.2.1; omega) fun x => EvP.ite (fun y => F fun g => by have := g.2.2.2.1; omega) fun y => (J _).iff ?_
  constructor
  · rintro ⟨g, q⟩
    have := of_decide_eq_false g
    exact ⟨⟨⟨by omega, by omega⟩, hv.1 z, ⟨by omega, by omega⟩, ⟨by omega, by omega⟩, by omega⟩, q⟩
  · rintro ⟨g, q⟩
    exact ⟨decide_eq_false (by have := g.2.2.2.2; omega), q⟩
/-! ### the program -/
theorem map_take_succ {α β : Type} (f : α → β) (l : List α) (i : Nat) (h : i < l.length) : (l.take i).map f ++ [f l[i]] = (l.take (i + 1)).map f := by
  rw [List.take_succ_eq_append_getElem h, List.map_append]; rfl
theorem at78 (C : List S78) (m : Nat) (h : m < C.length) : rd_T78 C (m : Int) = C[m] := by
  unfold rd_T78
  rw [Int.toNat_natCast, getD_get _ _ _ h]
theorem at83 (I : List S83) (m : Nat) (h : m < I.length) : rd_T83 I (m : Int) = I[m] := by
  unfold rd_T83
  rw [Int.toNat_natCast, getD_get _ _ _ h]
include hI hC in
theorem i_l3 (i : Nat) (hi : i < I.length) (x : S83) (hx : rd_T83 I (i : Int) = x) (hl : x.f2.length ≤ 1048576) (x3 : List Int) (x4 : List ByteArray) (h3 : x3.length ≤ 1048576) (h4 : x4.length ≤ 1048576) (R : Prop)
    (h : EvP (fun k => impl_TableOK.l2 k (x3 ++ [x.f0]) (x4 ++ [x.f1]) I (I.length : Int) ((i + 1 : Nat) : Int) t0 t1 t2 C K I) R) (d : Nat) : ∀ j : Nat, j + d = x.f2.length →
    EvP (fun k => impl_TableOK.l3 k x3 x4 I (I.length : Int) (i : Int) x.f2 (x.f2.length : Int) (j : Int) t0 t1 t2 C K I x.f0 x.f1 x.f2 x.f3 x.f4 x.f5) ((∀ m, j ≤ m → m < x.f2.length → HAS C (rd x.f2 (m : Int)) false) ∧ R) := by
  induction d with
  | zero =>
    intro j hj
    have w := wrap_succ i I.length hi (by omega)
    refine EvP.succ ?_
    simp only [impl_TableOK.l3, w, Option.bind_some]
    refine EvP.neg (by omega) (EvP.pos (by simp only [List.length_cons, List.length_nil]; omega) (EvP.pos (by simp only [List.length_cons, List.length_nil]; omega) (h.iff ⟨fun q => ⟨fun m h1 h2 => absurd h2 (by omega), q⟩, fun q => q.2⟩)))
  | succ d ih =>
    intro j hj
    have w := wrap_succ j x.f2.length (by omega) (by omega)
    have q := ih (j + 1) (by omega)
    obtain ⟨r, _, e, p⟩ := col_from t0 t1 t2 C K I (by omega) (rd x.f2 (j : Int)) C.length 0 (by omega) (fun j hj => by omega)
    refine EvP.succ ?_
    simp only [impl_TableOK.l3, w, impl_kCol.f]
    refine EvP.pos (by omega) (EvP.pos (by omega) (EvP.pos (by omega) (EvP.bind e ?_)))
    rcases p with ⟨rfl, p⟩ | ⟨n, rfl, hn, p, pf⟩
    · exact EvP.pos (by omega) (EvP.no fun g => all_no (P := fun m => HAS C (rd x.f2 (m : Int)) false) (by omega) (fun ⟨n, a, b, _⟩ => p n a b) g.1)
    · exact EvP.neg (by omega) (q.iff (and_congr (all_yes (P := fun m => HAS C (rd x.f2 (m : Int)) false) ⟨n, hn, p, pf, fun x => by cases x⟩) Iff.rfl))
include hI hC hK hIs in
theorem i_l2 (d : Nat) : ∀ i : Nat, i + d = I.length → EvP (fun k => impl_TableOK.l2 k ((I.take i).map (·.f0)) ((I.take i).map (·.f1)) I (I.length : Int) (i : Int) t0 t1 t2 C K I)
    ((∀ m, i ≤ m → m < I.length → IXP C K (rd_T83 I (m : Int))) ∧ ONCE (I.map (·.f0)) ∧ ONCES (I.map (·.f1))) := by
  induction d with
  | zero =>
    intro i hi
    refine EvP.succ ?_
    simp only [impl_TableOK.l2]
    rw [List.take_of_length_le (by omega)]
    refine EvP.neg (by omega) (EvP.bnd (twice_f _ (by rw [List.length_map]; omega)) fun v hv => EvP.ite (fun z => EvP.no fun g => hv.1 z g.2.1) fun z => EvP.bnd (twices_f _ (by rw [List.length_map]; omega)) fun u hu => ⟨_, Ev.some' rfl, ?_⟩)
    constructor
    · intro y
      exact ⟨fun m h1 h2 => absurd h2 (by omega), Classical.not_not.1 fun g => z (hv.2 g), Classical.not_not.1 fun g => by rw [hu.2 g] at y; cases y⟩
    · rintro ⟨_, _, g⟩
      cases u
      · rfl
      · exact absurd g (hu.1 rfl)
  | succ d ih =>
    intro i hi
    have q := ih (i + 1) (by omega)
    obtain ⟨hs, hl⟩ := hIs _ (mem83 (I := I) (m := i) (by omega))
    obtain ⟨x, hx⟩ : ∃ x, rd_T83 I (i : Int) = x := ⟨_, rfl⟩
    rw [hx] at hs hl
    rw [← map_take_succ (·.f0) I i (by omega), ← map_take_succ (·.f1) I i (by omega), ← at83 I i (by omega), hx] at q
    have J : ∀ b : Bool, EvP (fun k => impl_TableOK.j5 k ((I.take i).map (·.f0)) ((I.take i).map (·.f1)) I (I.length : Int) (i : Int) b t0 t1 t2 C K I x.f0 x.f1 x.f2 x.f3 x.f4 x.f5) (b = false ∧ (∀ m, 0 ≤ m → m < x.f2.length → HAS C (rd x.f2 (m : Int)) false) ∧ (∀ m, i + 1 ≤ m → m < I.length → IXP C K (rd_T83 I (m : Int))) ∧ ONCE (I.map (·.f0)) ∧ ONCES (I.map (·.f1))) := by
      intro b
      refine EvP.succ ?_
      simp only [impl_TableOK.j5]
      refine EvP.ite (fun z => EvP.no fun q => ?_) fun z => (i_l3 t0 t1 t2 C K I hC hI i (by omega) x hx hl _ _ (by rw [List.length_map, List.length_take]; omega) (by rw [List.length_map, List.length_take]; omega) _ q x.f2.length 0 (by omega)).iff ⟨fun q => ⟨by simpa using z, q⟩, fun q => q.2⟩
      rw [z] at q; cases q.1
    have F : ∀ g : Nat → Option Bool, (EvP g (true = false ∧ (∀ m, 0 ≤ m → m < x.f2.length → HAS C (rd x.f2 (m : Int)) false) ∧ (∀ m, i + 1 ≤ m → m < I.length → IXP C K (rd_T83 I (m : Int))) ∧ ONCE (I.map (·.f0)) ∧ ONCES (I.map (·.f1)))) → ¬ IXP C K x → EvP g ((∀ m, i ≤ m → m < I.length → IXP C K (rd_T83 I (m : Int))) ∧ ONCE (I.map (·.f0)) ∧ ONCES (I.map (·.f1))) :=
      fun g hg h => hg.iff ⟨fun q => (by cases q.1), fun q => absurd (by have := q.1 i (Nat.le_refl _) (by omega); rw [hx] at this; exact this) h⟩
    refine EvP.succ ?_
    simp only [impl_TableOK.l2, hx]
    refine EvP.pos (by omega) (EvP.pos (by omega) (EvP.pos (by omega) (kwP (fun a => EvP.bnd (name_impl x.f1 hs) fun v hv => EvP.ite (fun z => ?_) fun z => F _ (J true) fun g => z (hv.2 g.2.1)) fun a => F _ (J true) fun g => a g.1)))
    refine EvP.ite (fun b => F _ (J true) fun g => g.2.2.1.1 (by omega)) fun b => EvP.bnd (twice_f x.f2 (by omega)) fun u hu => EvP.ite (fun y => F _ (J true) fun g => hu.1 y g.2.2.1.2.1) fun y => kwP (fun c => ?_) fun c => F _ (J true) fun g => c g.2.2.2.1
    have hw : wrap64 ((x.f2.length : Int) + (K.length : Int)) = (x.f2.length : Int) + (K.length : Int) := wrap_in _ (by omega) (by omega)
    rw [hw]
    have o : ONCE x.f2 := Classical.not_not.1 fun g => y (hu.2 g)
    refine (J _).iff ⟨fun ⟨g1, g2, g3, g4⟩ => ⟨fun m h1 h2 => ?_, g4⟩, fun ⟨g, g4⟩ => ?_⟩
    · by_cases e2 : m = i
      · subst e2; rw [hx]
        have := of_decide_eq_false g1
        exact ⟨a, hv.1 z, ⟨by omega, o, g2⟩, c, by omega⟩
      · exact g3 m (by omega) h2
    · have t := g i (Nat.le_refl _) (by omega)
      rw [hx] at t
      exact ⟨decide_eq_false (by have := t.2.2.2.2; omega), t.2.2.1.2.2, fun m h1 h2 => g m (by omega) h2, g4⟩
include hC hK in
theorem i_l1 (R : Prop) (h : EvP (fun k => impl_TableOK.l2 k ([] : List Int) ([] : List ByteArray) I (I.length : Int) 0 t0 t1 t2 C K I) R) (d : Nat) : ∀ i : Nat, i + d = K.length →
    EvP (fun k => impl_TableOK.l1 k K (K.length : Int) (i : Int) t0 t1 t2 C K I) ((∀ m, i ≤ m → m < K.length → HAS C (rd K (m : Int)) true) ∧ R) := by
  induction d with
  | zero =>
    intro i hi
    refine EvP.succ ?_
    simp only [impl_TableOK.l1]
    exact EvP.neg (by omega) (h.iff ⟨fun q => ⟨fun m h1 h2 => absurd h2 (by omega), q⟩, fun q => q.2⟩)
  | succ d ih =>
    intro i hi
    have w := wrap_succ i K.length (by omega) (by omega)
    have q := ih (i + 1) (by omega)
    obtain ⟨r, _, e, p⟩ := col_from t0 t1 t2 C K I (by omega) (rd K (i : Int)) C.length 0 (by omega) (fun j hj => by omega)
    have no : ¬ HAS C (rd K (i : Int)) true → EvP (fun _ => some false) ((∀ m, i ≤ m → m < K.length → HAS C (rd K (m : Int)) true) ∧ R) := fun h => EvP.no fun g => all_no (P := fun m => HAS C (rd K (m : Int)) true) (by omega) h g.1
    refine EvP.succ ?_
    simp only [impl_TableOK.l1, w, impl_kCol.f]
    refine EvP.pos (by omega) (EvP.pos (by omega) (EvP.pos (by omega) (EvP.bind e ?_)))
    rcases p with ⟨rfl, p⟩ | ⟨n, rfl, hn, p, pf⟩
    · exact EvP.pos (by omega) (no fun ⟨n, a, b, _⟩ => p n a b)
    · refine EvP.neg (by omega) (EvP.pos (by omega) (EvP.pos (by omega) (EvP.ite (fun y => q.iff (and_congr (all_yes (P := fun m => HAS C (rd K (m : Int)) true) ⟨n, hn, p, pf, fun _ => y⟩) Iff.rfl)) fun y => no ?_)))
      rintro ⟨n', a, b, c, g⟩
      have : n' = n := by
        rcases Nat.lt_trichotomy n' n with q | q | q
        · exact absurd b (pf n' q)
        · exact q
        · exact absurd p (c n q)
      subst this
      exact y (g rfl)
/-- What the program asks behind the columns. -/
def RP (C : List S78) (K : List Int) (I : List S83) : Prop := (∀ m, 0 ≤ m → m < K.length → HAS C (rd K (m : Int)) true) ∧ (∀ m, 0 ≤ m → m < I.length → IXP C K (rd_T83 I (m : Int))) ∧ ONCE (I.map (·.f0)) ∧ ONCES (I.map (·.f1))
include hI hC hK hIs in
theorem i_j2 (b : Bool) : EvP (fun k => impl_TableOK.j2 k b t0 t1 t2 C K I) (b = false ∧ RP C K I) := by
  refine EvP.succ ?_
  simp only [impl_TableOK.j2]
  refine EvP.ite (fun z => EvP.no fun q => ?_) fun z => (i_l1 t0 t1 t2 C K I hC hK _ (by simpa using i_l2 t0 t1 t2 C K I hC hK hI hIs I.length 0 (by omega)) K.length 0 (by omega)).iff ⟨fun q => ⟨by simpa using z, q⟩, fun q => q.2⟩
  rw [z] at q; cases q.1
include hI hC hK hCs hIs in
theorem i_l0 (d : Nat) : ∀ i : Nat, i + d = C.length → EvP (fun k => impl_TableOK.l0 k ((C.take i).map (·.f0)) ((C.take i).map (·.f1)) C (C.length : Int) (i : Int) t0 t1 t2 C K I)
    ((∀ m, i ≤ m → m < C.length → COL C m) ∧ ONCE (C.map (·.f0)) ∧ ONCES (C.map (·.f1)) ∧ RP C K I) := by
  induction d with
  | zero =>
    intro i hi
    refine EvP.succ ?_
    simp only [impl_TableOK.l0]
    rw [List.take_of_length_le (by omega)]
    refine EvP.neg (by omega) (EvP.bnd (twice_f _ (by rw [List.length_map]; omega)) fun v hv => EvP.ite (fun z => (i_j2 t0 t1 t2 C K I hC hK hI hIs true).iff ⟨fun q => (by cases q.1), fun q => absurd q.2.1 (hv.1 z)⟩) fun z => EvP.bnd (twices_f _ (by rw [List.length_map]; omega)) fun u hu => (i_j2 t0 t1 t2 C K I hC hK hI hIs u).iff ?_)
    constructor
    · rintro ⟨y, q⟩
      exact ⟨fun m h1 h2 => absurd h2 (by omega), Classical.not_not.1 fun g => z (hv.2 g), Classical.not_not.1 fun g => (by rw [hu.2 g] at y; cases y), q⟩
    · rintro ⟨_, _, g, q⟩
      refine ⟨?_, q⟩
      cases u
      · rfl
      · exact absurd g (hu.1 rfl)
  | succ d ih =>
    intro i hi
    have w := wrap_succ i C.length (by omega) (by omega)
    have q := ih (i + 1) (by omega)
    have hs := hCs _ (mem78 (C := C) (m := i) (by omega))
    rw [← map_take_succ (·.f0) C i (by omega), ← map_take_succ (·.f1) C i (by omega), ← at78 C i (by omega)] at q
    have no : ¬ COL C i → EvP (fun _ => some false) ((∀ m, i ≤ m → m < C.length → COL C m) ∧ ONCE (C.map (·.f0)) ∧ ONCES (C.map (·.f1)) ∧ RP C K I) := fun h => EvP.no fun g => all_no (P := fun m => COL C m) (by omega) h g.1
    refine EvP.succ ?_
    simp only [impl_TableOK.l0, w, Option.bind_some]
    refine EvP.pos (by omega) (EvP.pos (by omega) (EvP.pos (by omega) (kwP (fun a => EvP.bnd (name_impl _ hs) fun v hv => EvP.ite (fun z => kwP (fun c => ?_) fun c => no fun g => c g.2.2) fun z => no fun g => z (hv.2 g.2.1)) fun a => no fun g => a g.1)))
    refine EvP.pos (by simp only [List.length_cons, List.length_nil, List.length_map, List.length_take]; omega) (EvP.pos (by simp only [List.length_cons, List.length_nil, List.length_map, List.length_take]; omega) (q.iff (and_congr (all_yes (P := fun m => COL C m) ⟨a, hv.1 z, c⟩) Iff.rfl)))
/-- What the program asks. -/
def IP (t0 : Int) (t1 : ByteArray) (t2 : Int) (C : List S78) (K : List Int) (I : List S83) : Prop := ((1 ≤ t0 ∧ t0 ≤ 40) ∧ (1 ≤ t2 ∧ t2 ≤ 1000000) ∧ NM t1 ∧ (1 ≤ (C.length : Int) ∧ (C.length : Int) ≤ 14) ∧ K.length ≠ 0 ∧ ONCE K ∧ I.length ≤ 8) ∧ (∀ m, 0 ≤ m → m < C.length → COL C m) ∧ ONCE (C.map (·.f0)) ∧ ONCES (C.map (·.f1)) ∧ RP C K I
include hI hC hK hCs hIs in
theorem i_f (ht : t1.size ≤ 9223372036854775807) : EvP (fun k => impl_TableOK.f k t0 t1 t2 C K I) (IP t0 t1 t2 C K I) := by
  have J : ∀ b : Bool, EvP (fun k => impl_TableOK.j0 k b t0 t1 t2 C K I) (b = false ∧ (∀ m, 0 ≤ m → m < C.length → COL C m) ∧ ONCE (C.map (·.f0)) ∧ ONCES (C.map (·.f1)) ∧ RP C K I) := by
    intro b
    refine EvP.succ ?_
    simp only [impl_TableOK.j0]
    have L := i_l0 t0 t1 t2 C K I hC hK hI hCs hIs C.length 0 (by omega)
    refine EvP.ite (fun z => EvP.no fun q => ?_) fun z => EvP.iff (by simpa using L) ⟨fun q => ⟨by simpa using z, by simpa using q⟩, fun q => by simpa using q.2⟩
    rw [z] at q; cases q.1
  have F : ¬ ((1 ≤ t0 ∧ t0 ≤ 40) ∧ (1 ≤ t2 ∧ t2 ≤ 1000000) ∧ NM t1 ∧ (1 ≤ (C.length : Int) ∧ (C.length : Int) ≤ 14) ∧ K.length ≠ 0 ∧ ONCE K ∧ I.length ≤ 8) → EvP (fun k => impl_TableOK.j0 k true t0 t1 t2 C K I) (IP t0 t1 t2 C K I) := fun h => (J true).iff ⟨fun q => (by cases q.1), fun q => absurd q.1 h⟩
  simp only [impl_TableOK.f]
  refine kwP (fun a => kwP (fun b => EvP.bnd (name_impl t1 ht) fun v hv => EvP.ite (fun z => kwP (fun c => EvP.ite (fun e => F fun g => g.2.2.2.2.1 (by omega)) fun e => EvP.bnd (twice_f K (by omega)) fun u hu => EvP.ite (fun y => F fun g => hu.1 y g.2.2.2.2.2.1) fun y => (J _).iff ?_) fun c => F fun g => c g.2.2.2.1) fun z => F fun g => z (hv.2 g.2.2.1)) fun b => F fun g => b g.2.1) fun a => F fun g => a g.1
  constructor
  · rintro ⟨g, q⟩
    have := of_decide_eq_false g
    exact ⟨⟨a, b, hv.1 z, c, by omega, Classical.not_not.1 fun g => y (hu.2 g), by omega⟩, q⟩
  · rintro ⟨g, q⟩
    exact ⟨decide_eq_false (by have := g.2.2.2.2.2.2; omega), q⟩
end
/-! ### both ask the same -/
theorem nd_le : ∀ (l m : List Int), l.Nodup → (∀ x ∈ l, x ∈ m) → l.length ≤ m.length
  | [], m, _, _ => by simp
  | x :: l, m, h, hm => by
    have hx := hm x (by simp)
    obtain ⟨h1, h2⟩ := List.nodup_cons.1 h
    have := nd_le l (m.erase x) h2 fun y hy => (List.mem_erase_of_ne (fun e => h1 (by subst e; exact hy))).2 (hm y (by simp [hy]))
    rw [List.length_erase_of_mem hx] at this
    have hp : 0 < m.length := List.length_pos_of_mem hx
    simp only [List.length_cons]
    omega
theorem once_nodup (l : List Int) (h : ONCE l) : l.Nodup := by
  rw [List.Nodup, List.pairwise_iff_getElem]
  intro i j hi hj hij e
  refine h j (Nat.zero_le _) hj i hij ?_
  rw [rd_get l _ (by simpa using hj), rd_get l _ (by simpa using hi)]
  simpa using e.symm
theorem rd_map (C : List S78) (m : Nat) (h : m < C.length) : rd (C.map (·.f0)) (m : Int) = (rd_T78 C (m : Int)).f0 := by
  rw [rd_get _ _ (by simpa using h), at78 C m h]; simp
theorem rd_maps (C : List S78) (m : Nat) (h : m < C.length) : rdOf ByteArray.empty (C.map (·.f1)) (m : Int) = (rd_T78 C (m : Int)).f1 := by
  unfold rdOf
  rw [Int.toNat_natCast, getD_get _ _ _ (by simpa using h), at78 C m h]; simp
theorem rd_map3 (I : List S83) (m : Nat) (h : m < I.length) : rd (I.map (·.f0)) (m : Int) = (rd_T83 I (m : Int)).f0 := by
  rw [rd_get _ _ (by simpa using h), at83 I m h]; simp
theorem rd_map3s (I : List S83) (m : Nat) (h : m < I.length) : rdOf ByteArray.empty (I.map (·.f1)) (m : Int) = (rd_T83 I (m : Int)).f1 := by
  unfold rdOf
  rw [Int.toNat_natCast, getD_get _ _ _ (by simpa using h), at83 I m h]; simp
theorem key_short (C : List S78) (K : List Int) (h : ONCE K) (g : ∀ m, 0 ≤ m → m < K.length → HAS C (rd K (m : Int)) true) : K.length ≤ C.length := by
  have := nd_le K (C.map (·.f0)) (once_nodup K h) fun x hx => by
    obtain ⟨m, hm, rfl⟩ := List.mem_iff_getElem.1 hx
    obtain ⟨n, hn, e, _⟩ := g m (Nat.zero_le _) hm
    rw [rd_get K _ (by simpa using hm)] at e
    refine List.mem_map.2 ⟨C[n], List.getElem_mem hn, ?_⟩
    rw [← at78 C n hn, e]; simp
  simpa using this
theorem both_ask (t0 : Int) (t1 : ByteArray) (t2 : Int) (C : List S78) (K : List Int) (I : List S83) : IP t0 t1 t2 C K I ↔ SP t0 t1 t2 C K I := by
  have c1 : ONCE (C.map (·.f0)) ↔ ∀ m, 0 ≤ m → m < C.length → DC C m := by
    unfold ONCE DIS DC
    rw [List.length_map]
    exact forall_congr' fun m => forall_congr' fun _ => forall_congr' fun hm => forall_congr' fun j => forall_congr' fun hj => by rw [rd_map C m hm, rd_map C j (by omega)]; exact ne_comm
  have c2 : ONCES (C.map (·.f1)) ↔ ∀ m, 0 ≤ m → m < C.length → DN C m := by
    unfold ONCES DISS DN
    rw [List.length_map]
    exact forall_congr' fun m => forall_congr' fun _ => forall_congr' fun hm => forall_congr' fun j => forall_congr' fun hj => by rw [rd_maps C m hm, rd_maps C j (by omega)]; exact ne_comm
  have c3 : (ONCE (I.map (·.f0)) ∧ ONCES (I.map (·.f1))) ↔ ∀ m, 0 ≤ m → m < I.length → TI I m := by
    unfold ONCE DIS ONCES DISS TI
    rw [List.length_map, List.length_map]
    constructor
    · rintro ⟨a, b⟩ m h0 hm j _ hj
      have e1 := a m h0 hm j hj
      have e2 := b m h0 hm j hj
      rw [rd_map3 I m hm, rd_map3 I j (by omega)] at e1
      rw [rd_map3s I m hm, rd_map3s I j (by omega)] at e2
      exact ⟨e1.symm, e2.symm⟩
    · intro g
      refine ⟨fun m h0 hm j hj => ?_, fun m h0 hm j hj => ?_⟩
      · rw [rd_map3 I m hm, rd_map3 I j (by omega)]; exact (g m h0 hm j (Nat.zero_le _) hj).1.symm
      · rw [rd_map3s I m hm, rd_map3s I j (by omega)]; exact (g m h0 hm j (Nat.zero_le _) hj).2.symm
  unfold IP SP RP
  rw [c3, c1, c2]
  constructor
  · rintro ⟨⟨a, b, c, d, e, f, g⟩, h1, h2, h3, h4, h5, h6⟩
    have := key_short C K f h4
    exact ⟨⟨a, c, b, ⟨by omega, by omega⟩, g⟩, fun m q r => ⟨h1 m q r, h2 m q r, h3 m q r⟩, ⟨e, by omega, f, h4⟩, fun m q r => ⟨h5 m q r, h6 m q r⟩⟩
  · rintro ⟨⟨a, c, b, d, g⟩, h1, ⟨e, _, f, h4⟩, h5⟩
    exact ⟨⟨a, b, c, ⟨by omega, by omega⟩, e, f, g⟩, fun m q r => (h1 m q r).1, fun m q r => (h1 m q r).2.1, fun m q r => (h1 m q r).2.2, h4, fun m q r => (h5 m q r).1, fun m q r => (h5 m q r).2⟩
theorem table_both (t0 : Int) (t1 : ByteArray) (t2 : Int) (C : List S78) (K : List Int) (I : List S83) (hC : C.length ≤ 1048576) (hK : K.length ≤ 1048576) (hI : I.length ≤ 1048576) (hCs : ∀ x ∈ C, x.f1.size ≤ 9223372036854775807) (hIs : ∀ x ∈ I, x.f1.size ≤ 9223372036854775807 ∧ x.f2.length ≤ 1048576) (ht : t1.size ≤ 9223372036854775807) :
    ∃ v, Ev (fun k => spec_TableOK.f k t0 t1 t2 C K I) v ∧ Ev (fun k => impl_TableOK.f k t0 t1 t2 C K I) v :=
  EvP.both (s_f t0 t1 t2 C K I hC hK hI hCs hIs ht) ((i_f t0 t1 t2 C K I hC hK hI hCs hIs ht).iff (both_ask t0 t1 t2 C K I))
end Go.Proofs.Ytiolnbhcmoafjaa.QTbl
