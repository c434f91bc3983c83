/- The reference's TableOK and the program's answer alike at every table whose rows have a place in memory: names, columns, key, indexes. No condition beside. -/
import Derived.Test.YtiolnbhcmoafjaaQFnExactTableOKx11
import Derived.Test.YtiolnbhcmoafjaaUtil
namespace Go.Proofs.Ytiolnbhcmoafjaa.QTbl
set_option linter.unusedVariables false
set_option linter.unusedSimpArgs false
open Go.RowKit Go.Proofs.Ytiolnbhcmoafjaa.QFnExactTableOK Go.Proofs.YtiolnbhcmoafjaaW.PrintWords Go.Proofs.YtiolnbhcmoafjaaU
/-- With enough rounds the answer is there, and it is yes just where P holds. -/
def EvP (g : Nat → Option Bool) (P : Prop) : Prop := ∃ v : Bool, Ev g v ∧ (v = true ↔ P)
theorem EvP.pos {c : Prop} [Decidable c] {f g : Nat → Option Bool} {P : Prop} (h : c) (hf : EvP f P) : EvP (fun k => if c then f k else g k) P := by
  obtain ⟨v, a, b⟩ := hf
  exact ⟨v, Ev.pos h a, b⟩
theorem EvP.neg {c : Prop} [Decidable c] {f g : Nat → Option Bool} {P : Prop} (h : ¬ c) (hf : EvP g P) : EvP (fun k => if c then f k else g k) P := by
  obtain ⟨v, a, b⟩ := hf
  exact ⟨v, Ev.neg h a, b⟩
theorem EvP.ite {c : Prop} [Decidable c] {f g : Nat → Option Bool} {P : Prop} (h1 : c → EvP f P) (h2 : ¬ c → EvP g P) : EvP (fun k => if c then f k else g k) P := by
  by_cases h : c
  · exact EvP.pos h (h1 h)
  · exact EvP.neg h (h2 h)
theorem EvP.no {P : Prop} (h : ¬ P) : EvP (fun _ => some false) P := ⟨false, Ev.some' rfl, by simp [h]⟩
theorem EvP.yes {P : Prop} (h : P) : EvP (fun _ => some true) P := ⟨true, Ev.some' rfl, by simp [h]⟩
theorem EvP.dec {c P : Prop} [Decidable c] (h : c ↔ P) : EvP (fun _ => some (decide c)) P := ⟨decide c, Ev.some' rfl, by simp [h]⟩
theorem EvP.iff {g : Nat → Option Bool} {P Q : Prop} (h : EvP g P) (e : P ↔ Q) : EvP g Q := by
  obtain ⟨v, a, b⟩ := h
  exact ⟨v, a, b.trans e⟩
theorem EvP.succ {g : Nat → Option Bool} {P : Prop} (h : EvP (fun k => g (k + 1)) P) : EvP g P := by
  obtain ⟨v, a, b⟩ := h
  exact ⟨v, Ev.succ a, b⟩
theorem EvP.bndc {β : Type} {o : Option β} {f : Nat → β → Option Bool} {b : β} {P : Prop} (h : o = some b) (k : EvP (fun n => f n b) P) : EvP (fun n => o.bind (f n)) P := by
  obtain ⟨v, a, c⟩ := k
  exact ⟨v, Ev.bndc h a, c⟩
theorem EvP.bind {β : Type} {o : Nat → Option β} {f : Nat → β → Option Bool} {b : β} {P : Prop} (h : Ev o b) (k : EvP (fun n => f n b) P) : EvP (fun n => (o n).bind (f n)) P := by
  obtain ⟨v, a, c⟩ := k
  exact ⟨v, Ev.bind h a, c⟩
theorem EvP.bnd {o : Nat → Option Bool} {f : Nat → Bool → Option Bool} {P Q : Prop} (h : EvP o Q) (k : ∀ b : Bool, (b = true ↔ Q) → EvP (fun n => f n b) P) : EvP (fun n => (o n).bind (f n)) P := by
  obtain ⟨v, a, e⟩ := h
  exact EvP.bind a (k v e)
theorem EvP.both {g g' : Nat → Option Bool} {P : Prop} (h : EvP g P) (h' : EvP g' P) : ∃ v, Ev g v ∧ Ev g' v := by
  obtain ⟨v, a, b⟩ := h
  obtain ⟨v', a', b'⟩ := h'
  have : v' = v := by rw [Bool.eq_iff_iff, b, b']
  subst this
  exact ⟨v', a, a'⟩
theorem all_yes {n i : Nat} {P : Nat → Prop} (h : P i) : (∀ j, i + 1 ≤ j → j < n → P j) ↔ ∀ j, i ≤ j → j < n → P j :=
  ⟨fun q j h1 h2 => if e : j = i then e ▸ h else q j (by omega) h2, fun q j h1 h2 => q j (by omega) h2⟩
theorem all_no {n i : Nat} {P : Nat → Prop} (hi : i < n) (h : ¬ P i) : ¬ ∀ j, i ≤ j → j < n → P j := fun q => h (q i (Nat.le_refl _) hi)
theorem wrap_succ (i n : Nat) (h : i < n) (hn : n ≤ 9223372036854775807) : wrap64 ((i : Int) + 1) = ((i + 1 : Nat) : Int) := by rw [wrap_in _ (by omega) (by omega)]; omega
/-! ### names -/
def CH (i : Nat) (c : Int) : Prop := ((97 ≤ c ∧ c ≤ 122) ∨ c = 95) ∨ (0 < i ∧ 48 ≤ c ∧ c ≤ 57)
def ALL (s : ByteArray) : Prop := ∀ j, 0 ≤ j → j < s.size → CH j (bt s (j : Int))
theorem letter_f (c : Int) : ∃ b, spec_l08Letter.f c = some b ∧ (b = true ↔ ((97 ≤ c ∧ c ≤ 122) ∨ c = 95)) := by
  unfold spec_l08Letter.f
  by_cases h : c ≥ 97
  · rw [if_pos h]
    by_cases h2 : c ≤ 122
    · rw [if_pos h2]; exact ⟨_, rfl, by simp; omega⟩
    · rw [if_neg h2]; exact ⟨_, rfl, by simp; omega⟩
  · rw [if_neg h]; exact ⟨_, rfl, by simp; omega⟩
theorem digit_f (c : Int) : ∃ b, spec_l01Digit.f c = some b ∧ (b = true ↔ (48 ≤ c ∧ c ≤ 57)) := by
  unfold spec_l01Digit.f
  by_cases h : c ≥ 48
  · rw [if_pos h]; exact ⟨_, rfl, by simp; omega⟩
  · rw [if_neg h]; exact ⟨_, rfl, by simp; omega⟩
theorem shape_from (s : ByteArray) (hs : s.size ≤ 9223372036854775807) (d : Nat) : ∀ i : Nat, i + d = s.size → EvP (fun k => spec_l08Shape.l0 k s (i : Int)) ((∀ j, i ≤ j → j < s.size → CH j (bt s (j : Int))) ∧ (1 ≤ s.size ∧ s.size ≤ 30)) := by
  induction d with
  | zero =>
    intro i hi
    refine EvP.succ ?_
    simp only [spec_l08Shape.l0]
    refine EvP.neg (by omega) (EvP.ite (fun h => EvP.dec ?_) fun h => EvP.no fun q => by omega)
    exact ⟨fun g => ⟨fun j h1 h2 => absurd h2 (by omega), by omega⟩, fun q => by omega⟩
  | succ d ih =>
    intro i hi
    have w := wrap_succ i s.size (by omega) hs
    have q := ih (i + 1) (by omega)
    have yes : CH i (bt s (i : Int)) → EvP (fun k => spec_l08Shape.l0 k s ((i + 1 : Nat) : Int)) ((∀ j, i ≤ j → j < s.size → CH j (bt s (j : Int))) ∧ (1 ≤ s.size ∧ s.size ≤ 30)) := fun h => q.iff (and_congr (all_yes (P := fun j => CH j (bt s (j : Int))) h) Iff.rfl)
    have no : ¬ CH i (bt s (i : Int)) → EvP (fun _ => some false) ((∀ j, i ≤ j → j < s.size → CH j (bt s (j : Int))) ∧ (1 ≤ s.size ∧ s.size ≤ 30)) := fun h => EvP.no fun g => all_no (P := fun j => CH j (bt s (j : Int))) (by omega) h g.1
    obtain ⟨b, e, hb⟩ := letter_f (bt s (i : Int))
    refine EvP.succ ?_
    simp only [spec_l08Shape.l0, w]
    refine EvP.pos (by omega) (EvP.pos (by omega) (EvP.bndc e ?_))
    refine EvP.ite (fun z => yes (.inl (hb.1 z))) fun z => EvP.ite (fun y => ?_) fun y => no fun c => ?_
    · obtain ⟨b2, e2, hb2⟩ := digit_f (bt s (i : Int))
      refine EvP.bndc e2 (EvP.ite (fun x => yes (.inr ⟨by omega, hb2.1 x⟩)) fun x => no fun c => ?_)
      rcases c with c | c
      · exact z (hb.2 c)
      · exact x (hb2.2 c.2)
    · rcases c with c | c
      · exact z (hb.2 c)
      · omega
theorem isname_from (s : ByteArray) (hs : s.size ≤ 9223372036854775807) (d : Nat) : ∀ i : Nat, i + d = s.size → EvP (fun k => impl_kIsName.l0 k s (s.size : Int) (i : Int)) (∀ j, i ≤ j → j < s.size → CH j (bt s (j : Int))) := by
  induction d with
  | zero =>
    intro i hi
    refine EvP.succ ?_
    simp only [impl_kIsName.l0]
    exact EvP.neg (by omega) (EvP.yes fun j h1 h2 => absurd h2 (by omega))
  | succ d ih =>
    intro i hi
    have w := wrap_succ i s.size (by omega) hs
    have q := ih (i + 1) (by omega)
    have yes : CH i (bt s (i : Int)) → EvP (fun k => impl_kIsName.l0 k s (s.size : Int) ((i + 1 : Nat) : Int)) (∀ j, i ≤ j → j < s.size → CH j (bt s (j : Int))) := fun h => q.iff (all_yes (P := fun j => CH j (bt s (j : Int))) h)
    have no : ¬ CH i (bt s (i : Int)) → EvP (fun _ => some false) (∀ j, i ≤ j → j < s.size → CH j (bt s (j : Int))) := fun h => EvP.no fun g => all_no (P := fun j => CH j (bt s (j : Int))) (by omega) h g
    refine EvP.succ ?_
    simp only [impl_kIsName.l0, w]
    unfold CH at yes no
    generalize bt s (i : Int) = c at yes no ⊢
    have tail : ¬ ((97 ≤ c ∧ c ≤ 122) ∨ c = 95) → EvP (fun k => if (i : Int) > 0 then (if c ≥ 48 then (if c ≤ 57 then (impl_kIsName.l0 k s (s.size : Int) ((i + 1 : Nat) : Int)) else some false) else some false) else some false) (∀ j, i ≤ j → j < s.size → CH j (bt s (j : Int))) :=
      fun z => EvP.ite (fun a => EvP.ite (fun b => EvP.ite (fun e => yes (.inr ⟨by omega, b, e⟩)) fun e => no (by omega)) fun b => no (by omega)) fun a => no (by omega)
    refine EvP.pos (by omega) (EvP.pos (by omega) (EvP.pos (by omega) (EvP.ite (fun a => EvP.ite (fun b => yes (.inl (.inl ⟨a, b⟩))) fun b => EvP.ite (fun e => yes (.inl (.inr e))) fun e => tail (by omega)) fun a => EvP.ite (fun e => yes (.inl (.inr e))) fun e => tail (by omega))))
/-! ### words that are reserved -/
def W : List (List UInt8) := [[97, 108, 108], [97, 110, 100], [97, 115], [97, 115, 99], [98, 101, 103, 105, 110], [98, 101, 116, 119, 101, 101, 110], [98, 121], [99, 97, 115, 101], [99, 97, 115, 116], [99, 111, 109, 109, 105, 116], [99, 114, 101, 97, 116, 101], [99, 114, 111, 115, 115], [100, 97, 121], [100, 101, 108, 101, 116, 101], [100, 101, 115, 99], [100, 105, 115, 116, 105, 110, 99, 116], [100, 114, 111, 112], [101, 108, 115, 101], [101, 110, 100], [101, 120, 99, 101, 112, 116], [101, 120, 105, 115, 116, 115], [101, 120, 112, 108, 97, 105, 110], [102, 97, 108, 115, 101], [102, 114, 111, 109], [103, 114, 111, 117, 112], [104, 97, 118, 105, 110, 103], [105, 110], [105, 110, 100, 101, 120], [105, 110, 115, 101, 114, 116], [105, 110, 116, 101, 114, 115, 101, 99, 116], [105, 110, 116, 111], [105, 115], [106, 111, 105, 110], [107, 101, 121], [108, 101, 102, 116], [108, 105, 109, 105, 116], [110, 111, 116], [110, 117, 108, 108], [111, 110], [111, 114], [111, 114, 100, 101, 114], [111, 118, 101, 114], [112, 97, 114, 116, 105, 116, 105, 111, 110], [112, 114, 105, 109, 97, 114, 121], [114, 101, 99, 117, 114, 115, 105, 118, 101], [114, 111, 108, 108, 98, 97, 99, 107], [115, 101, 108, 101, 99, 116], [115, 101, 116], [116, 97, 98, 108, 101], [116, 104, 101, 110], [116, 114, 117, 101], [117, 110, 105, 111, 110], [117, 110, 105, 113, 117, 101], [117, 112, 100, 97, 116, 101], [118, 97, 108, 117, 101, 115], [118, 105, 101, 119], [119, 104, 101, 110], [119, 104, 101, 114, 101], [119, 105, 116, 104], [97, 108, 116, 101, 114], [97, 100, 100], [99, 111, 108, 117, 109, 110], [108, 101, 118, 101, 108], [115, 101, 114, 105, 97, 108], [115, 110, 97, 112, 115, 104, 111, 116], [108, 97, 116, 101, 115, 116]]
def KR : ByteArray := ⟨#[32, 97, 108, 108, 32, 97, 110, 100, 32, 97, 115, 32, 97, 115, 99, 32, 98, 101, 103, 105, 110, 32, 98, 101, 116, 119, 101, 101, 110, 32, 98, 121, 32, 99, 97, 115, 101, 32, 99, 97, 115, 116, 32, 99, 111, 109, 109, 105, 116, 32, 99, 114, 101, 97, 116, 101, 32, 99, 114, 111, 115, 115, 32, 100, 97, 121, 32, 100, 101, 108, 101, 116, 101, 32, 100, 101, 115, 99, 32, 100, 105, 115, 116, 105, 110, 99, 116, 32, 100, 114, 111, 112, 32, 101, 108, 115, 101, 32, 101, 110, 100, 32, 101, 120, 99, 101, 112, 116, 32, 101, 120, 105, 115, 116, 115, 32, 101, 120, 112, 108, 97, 105, 110, 32, 102, 97, 108, 115, 101, 32, 102, 114, 111, 109, 32, 103, 114, 111, 117, 112, 32, 104, 97, 118, 105, 110, 103, 32, 105, 110, 32, 105, 110, 100, 101, 120, 32, 105, 110, 115, 101, 114, 116, 32, 105, 110, 116, 101, 114, 115, 101, 99, 116, 32, 105, 110, 116, 111, 32, 105, 115, 32, 106, 111, 105, 110, 32, 107, 101, 121, 32, 108, 101, 102, 116, 32, 108, 105, 109, 105, 116, 32, 110, 111, 116, 32, 110, 117, 108, 108, 32, 111, 110, 32, 111, 114, 32, 111, 114, 100, 101, 114, 32, 111, 118, 101, 114, 32, 112, 97, 114, 116, 105, 116, 105, 111, 110, 32, 112, 114, 105, 109, 97, 114, 121, 32, 114, 101, 99, 117, 114, 115, 105, 118, 101, 32, 114, 111, 108, 108, 98, 97, 99, 107, 32, 115, 101, 108, 101, 99, 116, 32, 115, 101, 116, 32, 116, 97, 98, 108, 101, 32, 116, 104, 101, 110, 32, 116, 114, 117, 101, 32, 117, 110, 105, 111, 110, 32, 117, 110, 105, 113, 117, 101, 32, 117, 112, 100, 97, 116, 101, 32, 118, 97, 108, 117, 101, 115, 32, 118, 105, 101, 119, 32, 119, 104, 101, 110, 32, 119, 104, 101, 114, 101, 32, 119, 105, 116, 104, 32, 97, 108, 116, 101, 114, 32, 97, 100, 100, 32, 99, 111, 108, 117, 109, 110, 32, 108, 101, 118, 101, 108, 32, 115, 101, 114, 105, 97, 108, 32, 115, 110, 97, 112, 115, 104, 111, 116, 32, 108, 97, 116, 101, 115, 116, 32]⟩
def rs : List (List UInt8) → List UInt8 → Bool
  | [], _ => false
  | w :: ws, x => if x = w then true else rs ws x
theorem rs_iff (x : List UInt8) : ∀ ws, rs ws x = true ↔ x ∈ ws
  | [] => by simp [rs]
  | w :: ws => by
    unfold rs
    by_cases h : x = w
    · simp [h]
    · rw [if_neg h, rs_iff x ws]; simp [h]
theorem ite_some {c : Prop} [Decidable c] {X : Option Bool} {Y : Bool} (h : X = some Y) : (if c then some true else X) = some (if c then true else Y) := by
  by_cases e : c
  · rw [if_pos e, if_pos e]
  · rw [if_neg e, if_neg e]; exact h
set_option maxRecDepth 100000 in
theorem res_f (s : ByteArray) : spec_l08Reserved.f s = some (rs W s.toList) := by
  unfold spec_l08Reserved.f
  unfold W
  repeat (first | rfl | refine ite_some ?_)
/-- What stands in the words' text between a blank and the next. -/
def tw : List UInt8 → List UInt8
  | [] => []
  | c :: t => if c = 32 then [] else c :: tw t
theorem tw_of : ∀ (s r : List UInt8), (∀ c ∈ s, c ≠ 32) → tw (s ++ 32 :: r) = s
  | [], r, _ => by simp [tw]
  | c :: s, r, h => by
    have hc : c ≠ 32 := h c (by simp)
    show (if c = 32 then [] else c :: tw (s ++ 32 :: r)) = c :: s
    rw [if_neg hc, tw_of s r (fun x hx => h x (by simp [hx]))]
def chk (l : List UInt8) : Bool := match l with
  | [] => true
  | c :: t => if c = 32 then (tw t = [] || rs W (tw t)) else true
def chks : List UInt8 → Bool
  | [] => true
  | c :: t => chk (c :: t) && chks t
theorem chks_drop : ∀ (l : List UInt8) (i : Nat), chks l = true → chk (l.drop i) = true
  | [], i, _ => by simp [chk]
  | c :: t, 0, h => by
    unfold chks at h
    exact (Bool.and_eq_true _ _ ▸ h).1
  | c :: t, i + 1, h => by
    unfold chks at h
    exact chks_drop t i (Bool.and_eq_true _ _ ▸ h).2
theorem KR_chks : chks KR.data.toList = true := by decide +kernel
theorem KR_all : W.all (fun w => Go.Lib.contains KR.data.toList (32 :: (w ++ [32]))) = true := by decide +kernel
theorem contains_iff (s sub : List UInt8) : Go.Lib.contains s sub = true ↔ ∃ i, i ≤ s.length ∧ Go.Lib.occAt s sub i = true := by
  unfold Go.Lib.contains
  rw [decide_eq_true_eq]
  rcases Go.Lib.index_spec s sub with ⟨e, h⟩ | ⟨i, e, hi, ho, _⟩
  · rw [e]
    exact ⟨fun q => by omega, fun ⟨i, a, b⟩ => by rw [h i a] at b; cases b⟩
  · exact ⟨fun _ => ⟨i, hi, ho⟩, fun _ => by omega⟩
theorem res_contains (s : List UInt8) (h0 : s ≠ []) (h : ∀ c ∈ s, c ≠ 32) : Go.Lib.contains KR.data.toList (32 :: (s ++ [32])) = true ↔ s ∈ W := by
  constructor
  · intro q
    obtain ⟨i, hi, ho⟩ := (contains_iff _ _).1 q
    unfold Go.Lib.occAt at ho
    obtain ⟨r, hr⟩ := List.isPrefixOf_iff_prefix.1 ho
    have c := chks_drop KR.data.toList i KR_chks
    rw [← hr] at c
    have e : tw (s ++ [32] ++ r) = s := by rw [List.append_assoc]; exact tw_of s r h
    simp only [List.cons_append, chk, if_true, e, Bool.or_eq_true, decide_eq_true_eq] at c
    rcases c with c | c
    · exact absurd c h0
    · exact (rs_iff s W).1 c
  · intro q
    exact List.all_eq_true.1 KR_all s q
theorem bt_ne {s : ByteArray} (h : ALL s) : ∀ c ∈ s.toList, c ≠ 32 := by
  intro c hc e
  rw [ByteArray.toList_eq] at hc
  obtain ⟨i, hi, hg⟩ := List.mem_iff_getElem.1 hc
  have hi' : i < s.size := by simpa using hi
  have := h i (Nat.zero_le _) hi'
  have hb : bt s (i : Int) = 32 := by
    rw [← bt_at s (i : Int) (by simpa using hi')]
    have : s[((i : Int)).toNat]'(by simpa using hi') = c := by
      rw [← hg]; rfl
    rw [this, e]; rfl
  rw [hb] at this
  unfold CH at this
  omega
/-- A name: its letters, its length, and that it is not reserved. -/
def NM (s : ByteArray) : Prop := (ALL s ∧ 1 ≤ s.size ∧ s.size ≤ 30) ∧ s.toList ∉ W
theorem name_spec (s : ByteArray) (hs : s.size ≤ 9223372036854775807) : EvP (fun k => spec_l08Name.f k s) (NM s) := by
  simp only [spec_l08Name.f, spec_l08Shape.f]
  refine EvP.bnd (shape_from s hs s.size 0 (by omega)) fun b hb => EvP.ite (fun z => EvP.bndc (res_f s) ?_) fun z => EvP.no fun q => z (hb.2 q.1)
  refine ⟨_, Ev.some' rfl, ?_⟩
  have := rs_iff s.toList W
  unfold NM
  cases hr : rs W s.toList
  · rw [hr] at this
    simp only [Bool.not_false, true_iff]
    exact ⟨hb.1 z, fun m => by have := this.2 m; cases this⟩
  · rw [hr] at this
    simp only [Bool.not_true, Bool.false_eq_true, false_iff]
    exact fun q => q.2 (this.1 rfl)
theorem nil_size (s : ByteArray) : s.toList = ([] : List UInt8) ↔ s.size = 0 := by
  rw [toList_nil]; omega
set_option maxRecDepth 100000 in
theorem name_impl (s : ByteArray) (hs : s.size ≤ 9223372036854775807) : EvP (fun k => impl_kIsName.f k s) (NM s) := by
  have j : ∀ b : Bool, EvP (fun k => impl_kIsName.j0 k s b) (b = false ∧ ALL s) := by
    intro b
    refine EvP.succ ?_
    simp only [impl_kIsName.j0]
    refine EvP.ite (fun z => EvP.no fun q => ?_) fun z => (isname_from s hs s.size 0 (by omega)).iff ?_
    · rw [z] at q; cases q.1
    · exact ⟨fun q => ⟨by simpa using z, q⟩, fun q => q.2⟩
  simp only [impl_kIsName.f]
  refine EvP.ite (fun z => (j true).iff ?_) fun z => EvP.ite (fun y => (j true).iff ?_) fun y => ?_
  · rw [nil_size] at z
    exact ⟨fun q => (by cases q.1), fun q => by have := q.1.2.1; omega⟩
  · exact ⟨fun q => (by cases q.1), fun q => by have := q.1.2.2; omega⟩
  · have h32 : (⟨#[32]⟩ : ByteArray).size = 1 := rfl
    refine EvP.pos (by omega) (EvP.pos (by rw [ByteArray.size_append, h32]; omega) ?_)
    rw [nil_size] at z
    refine EvP.bndc (b := Go.Lib.contains KR.data.toList (32 :: (s.data.toList ++ [32]))) ?_ ((j _).iff ?_)
    · unfold strings_Contains.f
      rw [if_pos (by decide)]
      congr 1
    · have hl : s.toList = s.data.toList := ByteArray.toList_eq s
      have hne : s.data.toList ≠ [] := fun e => by rw [← hl, nil_size] at e; omega
      constructor
      · rintro ⟨a, b⟩
        refine ⟨⟨b, by omega, by omega⟩, fun m => ?_⟩
        rw [hl] at m
        have hh := bt_ne b
        rw [hl] at hh
        rw [(res_contains _ hne hh).2 m] at a
        cases a
      · rintro ⟨⟨b, _⟩, m⟩
        refine ⟨?_, b⟩
        have hh := bt_ne b
        rw [hl] at hh m
        cases hc : Go.Lib.contains KR.data.toList (32 :: (s.data.toList ++ [32]))
        · rfl
        · exact absurd ((res_contains _ hne hh).1 hc) m
end Go.Proofs.Ytiolnbhcmoafjaa.QTbl
