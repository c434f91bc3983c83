/- The reference's NodeOK and the program's answer alike at every node whose rows are no longer than 2^20. No condition beside. -/
import Derived.Test.YtkfjgloalfpcmaaYx2
import Derived.Test.YtkfjgloalfpcmaaYx5
import Derived.Test.YtkfjgloalfpcmaaUtil
namespace Go.Proofs.Ytkfjgloalfpcmaa.QFnExactNodeOKG
set_option linter.unusedVariables false
set_option linter.unusedSimpArgs false
open Go.RowKit Go.Proofs.Ytkfjgloalfpcmaa.QFnExactNodeOK Go.Proofs.YtkfjgloalfpcmaaW.PrintWords Go.Proofs.YtkfjgloalfpcmaaU
/-- With enough rounds the answer is there, and it is yes just where P holds. -/
def EvP (g : Nat → Option Bool) (P : Prop) : Prop := ∃ v : Bool, Ev g v ∧ (v = true ↔ P)
theorem EvP.ite {c : Prop} [Decidable c] {f g : Nat → Option Bool} {P Q : Prop} (h1 : c → EvP f P) (h2 : ¬ c → EvP g Q) : EvP (fun k => if c then f k else g k) ((c ∧ P) ∨ (¬ c ∧ Q)) := by
  by_cases h : c
  · obtain ⟨v, a, b⟩ := h1 h
    exact ⟨v, Ev.pos h a, by rw [b]; simp [h]⟩
  · obtain ⟨v, a, b⟩ := h2 h
    exact ⟨v, Ev.neg h a, by rw [b]; simp [h]⟩
theorem EvP.no : EvP (fun _ => some false) False := ⟨false, Ev.some' rfl, by simp⟩
theorem EvP.dec {c : Prop} [Decidable c] : EvP (fun _ => some (decide c)) c := ⟨decide c, Ev.some' rfl, by simp⟩
theorem EvP.beq (a b : Int) : EvP (fun _ => some (a == b)) (a = b) := ⟨a == b, Ev.some' rfl, by simp⟩
theorem EvP.iff {g : Nat → Option Bool} {P Q : Prop} (h : EvP g P) (e : P ↔ Q) : EvP g Q := by
  obtain ⟨v, a, b⟩ := h
  exact ⟨v, a, b.trans e⟩
theorem EvP.succ {g : Nat → Option Bool} {P : Prop} (h : EvP (fun k => g (k + 1)) P) : EvP g P := by
  obtain ⟨v, a, b⟩ := h
  exact ⟨v, Ev.succ a, b⟩
theorem EvP.bndc {β : Type} {o : Option β} {f : Nat → β → Option Bool} {b : β} {P : Prop} (h : o = some b) (k : EvP (fun n => f n b) P) : EvP (fun n => o.bind (f n)) P := by
  obtain ⟨v, a, c⟩ := k
  exact ⟨v, Ev.bndc h a, c⟩
theorem EvP.bind {β : Type} {o : Nat → Option β} {f : Nat → β → Option Bool} {b : β} {P : Prop} (h : Ev o b) (k : EvP (fun n => f n b) P) : EvP (fun n => (o n).bind (f n)) P := by
  obtain ⟨v, a, c⟩ := k
  exact ⟨v, Ev.bind h a, c⟩
theorem EvP.both {g g' : Nat → Option Bool} {P : Prop} (h : EvP g P) (h' : EvP g' P) : ∃ v, Ev g v ∧ Ev g' v ∧ (v = true ↔ P) := by
  obtain ⟨v, a, b⟩ := h
  obtain ⟨v', a', b'⟩ := h'
  have : v' = v := by rw [Bool.eq_iff_iff, b, b']
  subst this
  exact ⟨v', a, a', b⟩
theorem EvP.of {g : Nat → Option Bool} {v : Bool} (h : Ev g v) : EvP g (v = true) := ⟨v, h, Iff.rfl⟩
theorem inb_iff (x a b : Int) : impl_NodeOK.inb x a b = true ↔ a ≤ x ∧ x ≤ b := by unfold impl_NodeOK.inb; simp
theorem set_eq (x : Int) : spec_l05Set.f x = some (impl_NodeOK.inb x 0 255) := by
  unfold spec_l05Set.f impl_NodeOK.inb
  by_cases h : x ≥ 0
  · rw [if_pos h, decide_eq_true (show 0 ≤ x from h), Bool.true_and]
    congr 1
    exact decide_eq_decide.mpr ⟨fun h => by omega, fun h => by omega⟩
  · rw [if_neg h, decide_eq_false (show ¬ 0 ≤ x from h), Bool.false_and]
theorem id_eq (x : Int) : spec_l05Id.f x = some (impl_NodeOK.inb x 0 7) := by
  unfold spec_l05Id.f impl_NodeOK.inb
  by_cases h : x ≥ 0
  · rw [if_pos h, decide_eq_true (show 0 ≤ x from h), Bool.true_and]
    congr 1
    exact decide_eq_decide.mpr ⟨fun h => by omega, fun h => by omega⟩
  · rw [if_neg h, decide_eq_false (show ¬ 0 ≤ x from h), Bool.false_and]
/-! ### an entry -/
def EP (a0 a1 : Int) (s : ByteArray) (a3 a4 : Int) : Prop := (1 ≤ a0 ∧ a0 ≤ 1000000) ∧ ((a1 = 1 ∧ (s.size : Int) = 0 ∧ a3 = 0 ∧ a4 = 0) ∨ (a1 = 2 ∧ (s.size : Int) ≤ 4000 ∧ a3 = 0 ∧ a4 = 0) ∨ (a1 = 3 ∧ (s.size : Int) = 0 ∧ 0 ≤ a3 ∧ a3 ≤ 255 ∧ 1 ≤ a4 ∧ a4 ≤ 255))
theorem entry_spec (a0 a1 : Int) (s : ByteArray) (a3 a4 : Int) : EvP (fun k => spec_l05EntryOK.f k a0 a1 s a3 a4) (EP a0 a1 s a3 a4) := by
  have j : ∀ x : Bool, EvP (fun k => spec_l05EntryOK.j0 k x a0 a1 s a3 a4) (x = false ∧ ((a1 = 1 ∧ (s.size : Int) = 0 ∧ a3 = 0 ∧ a4 = 0) ∨ (a1 = 2 ∧ (s.size : Int) ≤ 4000 ∧ a3 = 0 ∧ a4 = 0) ∨ (a1 = 3 ∧ (s.size : Int) = 0 ∧ 0 ≤ a3 ∧ a3 ≤ 255 ∧ 1 ≤ a4 ∧ a4 ≤ 255))) := by
    intro x
    refine EvP.succ ?_
    simp only [spec_l05EntryOK.j0, set_eq, Option.bind_some]
    refine EvP.iff (EvP.ite (fun _ => EvP.no) fun _ => EvP.ite (fun _ => EvP.ite (fun _ => EvP.ite (fun _ => EvP.beq _ _) fun _ => EvP.no) fun _ => EvP.no) fun _ => EvP.ite (fun _ => EvP.ite (fun _ => EvP.ite (fun _ => EvP.beq _ _) fun _ => EvP.no) fun _ => EvP.no) fun _ => EvP.ite (fun _ => EvP.ite (fun _ => EvP.ite (fun _ => EvP.ite (fun _ => EvP.dec) fun _ => EvP.no) fun _ => EvP.no) fun _ => EvP.no) fun _ => EvP.no) ?_
    simp only [inb_iff]
    cases x
    · simp only [Bool.false_eq_true, false_and, and_false, or_false, false_or, not_false_eq_true, true_and]
      omega
    · simp
  simp only [spec_l05EntryOK.f]
  refine EvP.iff (EvP.ite (fun _ => j _) fun _ => j _) ?_
  unfold EP
  simp only [Bool.true_eq_false, false_and, and_false, false_or, decide_eq_false_iff_not]
  omega
theorem entry_impl (a0 a1 : Int) (s : ByteArray) (a3 a4 : Int) : EvP (fun k => impl_entryOK.f k a0 a1 s a3 a4) (EP a0 a1 s a3 a4) := by
  have j : ∀ x : Bool, EvP (fun k => impl_entryOK.j0 k x a0 a1 s a3 a4) (x = false ∧ ((a1 = 1 ∧ (s.size : Int) = 0 ∧ a3 = 0 ∧ a4 = 0) ∨ (a1 = 2 ∧ (s.size : Int) ≤ 4000 ∧ a3 = 0 ∧ a4 = 0) ∨ (a1 = 3 ∧ (s.size : Int) = 0 ∧ 0 ≤ a3 ∧ a3 ≤ 255 ∧ 1 ≤ a4 ∧ a4 ≤ 255))) := by
    intro x
    refine EvP.succ ?_
    simp only [impl_entryOK.j0, toList_nil]
    refine EvP.iff (EvP.ite (fun _ => EvP.no) fun _ => EvP.ite (fun _ => EvP.ite (fun _ => EvP.ite (fun _ => EvP.beq _ _) fun _ => EvP.no) fun _ => EvP.no) fun _ => EvP.ite (fun _ => EvP.ite (fun _ => EvP.ite (fun _ => EvP.beq _ _) fun _ => EvP.no) fun _ => EvP.no) fun _ => EvP.ite (fun _ => EvP.ite (fun _ => EvP.ite (fun _ => EvP.ite (fun _ => EvP.ite (fun _ => EvP.dec) fun _ => EvP.no) fun _ => EvP.no) fun _ => EvP.no) fun _ => EvP.no) fun _ => EvP.no) ?_
    cases x
    · simp only [Bool.false_eq_true, false_and, and_false, or_false, false_or, not_false_eq_true, true_and]
      omega
    · simp
  simp only [impl_entryOK.f]
  refine EvP.iff (EvP.ite (fun _ => j _) fun _ => j _) ?_
  unfold EP
  simp only [Bool.true_eq_false, false_and, and_false, false_or, decide_eq_false_iff_not]
  omega
section
variable (a0 a1 a2 a3 a4 : Int) (l5 : List S54) (a6 a7 a8 a9 a10 a11 a12 a13 : Int) (l14 l15 : List Int)
/-! ### what stands behind the entries -/
theorem l1_both (la : Int) (h14 : (l14.length : Int) = 8) (h15 : (l15.length : Int) = 8) (hla : 0 ≤ la ∧ la ≤ 2000000000) (d : Nat) : ∀ i : Int, 0 ≤ i → 8 - i = d →
    ∃ r : Bool, Ev (fun k => spec_NodeOK.l1 k la i a0 a1 a2 a3 a4 l5 a6 a7 a8 a9 a10 a11 a12 a13 l14 l15) r ∧ Ev (fun k => impl_NodeOK.l1 k l14 l15 la i) r := by
  induction d with
  | zero =>
    intro i h0 hd
    exact ⟨true, Ev.succ (by simp only [spec_NodeOK.l1]; exact Ev.neg (by omega) (Ev.some' rfl)), Ev.succ (by simp only [impl_NodeOK.l1]; exact Ev.neg (by omega) (Ev.some' rfl))⟩
  | succ d ih =>
    intro i h0 hd
    have ew := wrap_in (i + 1) (by omega) (by omega)
    have el := wrap_in (la + 1) (by omega) (by omega)
    obtain ⟨r, r1, r2⟩ := ih (i + 1) (by omega) (by omega)
    by_cases c1 : 0 ≤ rd l15 i ∧ rd l15 i ≤ la
    · have em := wrap_in (rd l15 i + 1) (by omega) (by omega)
      by_cases c2 : rd l15 i + 1 ≤ rd l14 i ∧ rd l14 i ≤ la + 1
      · refine ⟨r, Ev.succ ?_, Ev.succ ?_⟩
        · simp only [spec_NodeOK.l1, ew, el]
          exact Ev.pos (by omega) (Ev.pos h0 (Ev.pos (by omega) (Ev.neg (by omega) (Ev.neg (by omega) (Ev.pos (by omega) (Ev.neg (by omega) (Ev.neg (by omega) r1)))))))
        · simp only [impl_NodeOK.l1, ew, el, em]
          exact Ev.pos (by omega) (Ev.pos h0 (Ev.pos ((inb_iff _ _ _).2 c1) (Ev.pos ((inb_iff _ _ _).2 c2) r2)))
      · refine ⟨false, Ev.succ ?_, Ev.succ ?_⟩
        · simp only [spec_NodeOK.l1, ew, el]
          refine Ev.pos (by omega) (Ev.pos h0 (Ev.pos (by omega) (Ev.neg (by omega) (Ev.neg (by omega) (Ev.pos (by omega) ?_)))))
          by_cases c3 : rd l14 i ≤ rd l15 i
          · exact Ev.pos c3 (Ev.some' rfl)
          · exact Ev.neg c3 (Ev.pos (by omega) (Ev.some' rfl))
        · simp only [impl_NodeOK.l1, ew, el, em]
          exact Ev.pos (by omega) (Ev.pos h0 (Ev.pos ((inb_iff _ _ _).2 c1) (Ev.neg (fun h => c2 ((inb_iff _ _ _).1 h)) (Ev.some' rfl))))
    · refine ⟨false, Ev.succ ?_, Ev.succ ?_⟩
      · simp only [spec_NodeOK.l1]
        refine Ev.pos (by omega) (Ev.pos h0 (Ev.pos (by omega) ?_))
        by_cases c3 : rd l15 i < 0
        · exact Ev.pos c3 (Ev.some' rfl)
        · exact Ev.neg c3 (Ev.pos (by omega) (Ev.some' rfl))
      · simp only [impl_NodeOK.l1]
        exact Ev.pos (by omega) (Ev.pos h0 (Ev.neg (fun h => c1 ((inb_iff _ _ _).1 h)) (Ev.some' rfl)))
/-- What follows the loop over the entries, in the reference's words. -/
theorem rest_both (la : Int) (hla : 0 ≤ la ∧ la ≤ 2000000000) : ∃ r : Bool, Ev (fun k => if a3 = 3 then (if (l14.length : Int) = 8 then (spec_NodeOK.j6 k la ((l15.length : Int) != 8) a0 a1 a2 a3 a4 l5 a6 a7 a8 a9 a10 a11 a12 a13 l14 l15) else (spec_NodeOK.j6 k la true a0 a1 a2 a3 a4 l5 a6 a7 a8 a9 a10 a11 a12 a13 l14 l15)) else (if (l14.length : Int) = 0 then (some ((l15.length : Int) == 0)) else (some false))) r ∧ Ev (fun k => impl_NodeOK.rest k a3 la l14 l15) r := by
  have bad : Ev (fun k => spec_NodeOK.j6 k la true a0 a1 a2 a3 a4 l5 a6 a7 a8 a9 a10 a11 a12 a13 l14 l15) false := Ev.succ (by simp only [spec_NodeOK.j6]; exact Ev.pos (by trivial) (Ev.some' rfl))
  simp only [impl_NodeOK.rest]
  by_cases c3 : a3 = 3
  · by_cases c14 : (l14.length : Int) = 8
    · by_cases c15 : (l15.length : Int) = 8
      · obtain ⟨r, r1, r2⟩ := l1_both a0 a1 a2 a3 a4 l5 a6 a7 a8 a9 a10 a11 a12 a13 l14 l15 la c14 c15 hla 8 0 (by omega) (by omega)
        refine ⟨r, Ev.pos c3 (Ev.pos c14 ?_), Ev.pos c3 (Ev.pos c14 (Ev.pos c15 r2))⟩
        rw [show ((l15.length : Int) != 8) = false from bne_eq_false_iff_eq.mpr c15]
        exact Ev.succ (by simp only [spec_NodeOK.j6]; exact Ev.neg (by simp) r1)
      · refine ⟨false, Ev.pos c3 (Ev.pos c14 ?_), Ev.pos c3 (Ev.pos c14 (Ev.neg c15 (Ev.some' rfl)))⟩
        rw [show ((l15.length : Int) != 8) = true from bne_iff_ne.mpr c15]
        exact bad
    · exact ⟨false, Ev.pos c3 (Ev.neg c14 bad), Ev.pos c3 (Ev.neg c14 (Ev.some' rfl))⟩
  · by_cases c14 : (l14.length : Int) = 0
    · exact ⟨_, Ev.neg c3 (Ev.pos c14 (Ev.some' rfl)), Ev.neg c3 (Ev.some' (by rw [c14]; rfl))⟩
    · exact ⟨false, Ev.neg c3 (Ev.neg c14 (Ev.some' rfl)), Ev.neg c3 (Ev.some' (by rw [show ((l14.length : Int) == 0) = false from beq_eq_false_iff_ne.mpr c14]; rfl))⟩
/-- The term before entry i. -/
def tm (i : Int) : Int := if i = 0 then a7 else (rd_T54 l5 (i - 1)).f0
theorem term_eq (i : Int) (h0 : 0 ≤ i) (h1 : i < l5.length) (hl : (l5.length : Int) ≤ 1048576) (h6 : 0 ≤ a6 ∧ a6 ≤ 1000000) : spec_l05Term.f a0 a1 a2 a3 a4 l5 a6 a7 a8 a9 a10 a11 a12 a13 l14 l15 (wrap64 (a6 + i)) = some (tm l5 a7 i) := by
  rw [wrap_in (a6 + i) (by omega) (by omega)]
  unfold spec_l05Term.f tm
  by_cases c : i = 0
  · rw [if_pos (by omega), if_pos c]
  · rw [if_neg (by omega), if_neg c, wrap_in (a6 + i - a6) (by omega) (by omega), wrap_in (a6 + i - a6 - 1) (by omega) (by omega), show a6 + i - a6 - 1 = i - 1 by omega, if_pos (by omega), if_pos (by omega)]
/-- The loop over the entries: the program's answer b, and the reference's where what follows the loop answers r. -/
theorem l0_both (la : Int) (hl : (l5.length : Int) ≤ 1048576) (h6 : 0 ≤ a6 ∧ a6 ≤ 1000000) (r : Bool)
    (hr : Ev (fun k => if a3 = 3 then (if (l14.length : Int) = 8 then (spec_NodeOK.j6 k la ((l15.length : Int) != 8) a0 a1 a2 a3 a4 l5 a6 a7 a8 a9 a10 a11 a12 a13 l14 l15) else (spec_NodeOK.j6 k la true a0 a1 a2 a3 a4 l5 a6 a7 a8 a9 a10 a11 a12 a13 l14 l15)) else (if (l14.length : Int) = 0 then (some ((l15.length : Int) == 0)) else (some false))) r) (d : Nat) :
    ∀ i : Int, 0 ≤ i → i ≤ l5.length → (l5.length : Int) - i = d → ∃ b : Bool, Ev (fun k => spec_NodeOK.l0 k la i a0 a1 a2 a3 a4 l5 a6 a7 a8 a9 a10 a11 a12 a13 l14 l15) (b && r) ∧ Ev (fun k => impl_NodeOK.l0 k l5 a1 (tm l5 a7 i) i) b := by
  induction d with
  | zero =>
    intro i h0 h1 hd
    exact ⟨true, Ev.succ (by simp only [spec_NodeOK.l0]; exact Ev.neg (by omega) (by simpa using hr)), Ev.succ (by simp only [impl_NodeOK.l0]; exact Ev.neg (by omega) (Ev.some' rfl))⟩
  | succ d ih =>
    intro i h0 h1 hd
    have ew := wrap_in (i + 1) (by omega) (by omega)
    obtain ⟨b, b1, b2⟩ := ih (i + 1) (by omega) (by omega) (by omega)
    have et : tm l5 a7 (i + 1) = (rd_T54 l5 i).f0 := by unfold tm; rw [if_neg (by omega), show i + 1 - 1 = i by omega]
    rw [et] at b2
    have tq := term_eq a0 a1 a2 a3 a4 l5 a6 a7 a8 a9 a10 a11 a12 a13 l14 l15 i h0 (by omega) hl h6
    obtain ⟨e, e1, e2, _⟩ := EvP.both (entry_spec (rd_T54 l5 i).f0 (rd_T54 l5 i).f1 (rd_T54 l5 i).f2 (rd_T54 l5 i).f3 (rd_T54 l5 i).f4) (entry_impl (rd_T54 l5 i).f0 (rd_T54 l5 i).f1 (rd_T54 l5 i).f2 (rd_T54 l5 i).f3 (rd_T54 l5 i).f4)
    cases e with
    | false =>
      refine ⟨false, Ev.succ ?_, Ev.succ ?_⟩
      · simp only [spec_NodeOK.l0]
        exact Ev.pos (by omega) (Ev.pos h0 (Ev.bind e1 (Ev.neg (by simp) (Ev.some' rfl))))
      · simp only [impl_NodeOK.l0]
        exact Ev.pos (by omega) (Ev.pos h0 (Ev.bind e2 (Ev.neg (by simp) (Ev.some' rfl))))
    | true =>
      by_cases c1 : (rd_T54 l5 i).f0 > a1
      · refine ⟨false, Ev.succ ?_, Ev.succ ?_⟩
        · simp only [spec_NodeOK.l0]
          exact Ev.pos (by omega) (Ev.pos h0 (Ev.bind e1 (Ev.pos rfl (Ev.pos c1 (Ev.some' rfl)))))
        · simp only [impl_NodeOK.l0]
          refine Ev.pos (by omega) (Ev.pos h0 (Ev.bind e2 (Ev.pos rfl ?_)))
          by_cases c2 : (rd_T54 l5 i).f0 < tm l5 a7 i
          · exact Ev.pos c2 (Ev.some' rfl)
          · exact Ev.neg c2 (Ev.pos c1 (Ev.some' rfl))
      · by_cases c2 : (rd_T54 l5 i).f0 < tm l5 a7 i
        · refine ⟨false, Ev.succ ?_, Ev.succ ?_⟩
          · simp only [spec_NodeOK.l0]
            exact Ev.pos (by omega) (Ev.pos h0 (Ev.bind e1 (Ev.pos rfl (Ev.neg c1 (Ev.bndc tq (Ev.pos c2 (Ev.some' rfl)))))))
          · simp only [impl_NodeOK.l0]
            exact Ev.pos (by omega) (Ev.pos h0 (Ev.bind e2 (Ev.pos rfl (Ev.pos c2 (Ev.some' rfl)))))
        · refine ⟨b, Ev.succ ?_, Ev.succ ?_⟩
          · simp only [spec_NodeOK.l0, ew]
            exact Ev.pos (by omega) (Ev.pos h0 (Ev.bind e1 (Ev.pos rfl (Ev.neg c1 (Ev.bndc tq (Ev.neg c2 b1))))))
          · simp only [impl_NodeOK.l0, ew]
            exact Ev.pos (by omega) (Ev.pos h0 (Ev.bind e2 (Ev.pos rfl (Ev.neg c2 (Ev.neg c1 b2)))))
/-! ### the tests ahead of the loop -/
def H1 (n : Int) : Prop := (0 ≤ a0 ∧ a0 ≤ 7) ∧ (0 ≤ a1 ∧ a1 ≤ 1000000) ∧ (-1 ≤ a2 ∧ a2 ≤ 7) ∧ (-1 ≤ a4 ∧ a4 ≤ 7) ∧ (1 ≤ a3 ∧ a3 ≤ 3) ∧ n ≤ 200
def H2 : Prop := (0 ≤ a6 ∧ a6 ≤ 1000000) ∧ (0 ≤ a7 ∧ a7 ≤ a1) ∧ (a7 = 0 ↔ a6 = 0) ∧ (0 ≤ a8 ∧ a8 ≤ 255) ∧ (1 ≤ a9 ∧ a9 ≤ 255) ∧ (0 ≤ a10 ∧ a10 ≤ 4294967295)
def H3 (la : Int) : Prop := (a6 ≤ a11 ∧ a11 ≤ la) ∧ (0 ≤ a12 ∧ a12 ≤ 100) ∧ (0 ≤ a13 ∧ a13 ≤ 255) ∧ (a13 = 0 ∨ a3 = 2)
theorem bne_iff (x y : Int) : ((x == 0) != (y == 0)) = true ↔ ¬ (x = 0 ↔ y = 0) := by
  cases hx : (x == 0) <;> cases hy : (y == 0) <;> simp at hx hy <;> simp [hx, hy]
theorem j3_ev (la : Int) (b : Bool) (x : Bool) (hR : x = false → Ev (fun k => spec_NodeOK.j4 k la a0 a1 a2 a3 a4 l5 a6 a7 a8 a9 a10 a11 a12 a13 l14 l15) b) :
    EvP (fun k => spec_NodeOK.j3 k la x a0 a1 a2 a3 a4 l5 a6 a7 a8 a9 a10 a11 a12 a13 l14 l15) (x = false ∧ ((0 ≤ a13 ∧ a13 ≤ 255) ∧ (a13 = 0 ∨ a3 = 2)) ∧ b = true) := by
  refine EvP.succ ?_
  simp only [spec_NodeOK.j3, set_eq, Option.bind_some]
  refine EvP.iff (EvP.ite (fun _ => EvP.no) fun hx => EvP.ite (fun _ => EvP.ite (fun _ => EvP.of (hR (by simpa using hx))) fun _ => EvP.ite (fun _ => EvP.of (hR (by simpa using hx))) fun _ => EvP.no) fun _ => EvP.no) ?_
  simp only [inb_iff]
  cases x <;> cases b <;> simp only [Bool.false_eq_true, Bool.true_eq_false, false_and, and_false, or_false, false_or, not_false_eq_true, true_and, and_true] <;> first | omega | (simp; done) | (simp; omega)
theorem j2_ev (la : Int) (b : Bool) (x : Bool) (hR : x = false → Ev (fun k => spec_NodeOK.j4 k la a0 a1 a2 a3 a4 l5 a6 a7 a8 a9 a10 a11 a12 a13 l14 l15) b) :
    EvP (fun k => spec_NodeOK.j2 k la x a0 a1 a2 a3 a4 l5 a6 a7 a8 a9 a10 a11 a12 a13 l14 l15) (x = false ∧ ((0 ≤ a10 ∧ a10 ≤ 4294967295) ∧ (a6 ≤ a11 ∧ a11 ≤ la) ∧ (0 ≤ a12 ∧ a12 ≤ 100) ∧ (0 ≤ a13 ∧ a13 ≤ 255) ∧ (a13 = 0 ∨ a3 = 2)) ∧ b = true) := by
  refine EvP.succ ?_
  simp only [spec_NodeOK.j2]
  have j := fun (hx : ¬ x = true) (y : Bool) => j3_ev a0 a1 a2 a3 a4 l5 a6 a7 a8 a9 a10 a11 a12 a13 l14 l15 la b y (fun _ => hR (by simpa using hx))
  refine EvP.iff (EvP.ite (fun _ => EvP.no) fun hx => EvP.ite (fun _ => j hx _) fun _ => EvP.ite (fun _ => j hx _) fun _ => EvP.ite (fun _ => j hx _) fun _ => EvP.ite (fun _ => j hx _) fun _ => EvP.ite (fun _ => j hx _) fun _ => j hx _) ?_
  cases x <;> cases b <;> simp only [Bool.false_eq_true, Bool.true_eq_false, decide_eq_false_iff_not, false_and, and_false, or_false, false_or, not_false_eq_true, not_true_eq_false, true_and, and_true] <;> first | omega | (simp; done) | (simp; omega)
theorem j1_ev (la : Int) (b : Bool) (x : Bool) (hR : x = false → Ev (fun k => spec_NodeOK.j4 k la a0 a1 a2 a3 a4 l5 a6 a7 a8 a9 a10 a11 a12 a13 l14 l15) b) :
    EvP (fun k => spec_NodeOK.j1 k la x a0 a1 a2 a3 a4 l5 a6 a7 a8 a9 a10 a11 a12 a13 l14 l15) (x = false ∧ ((0 ≤ a7 ∧ a7 ≤ a1) ∧ (a7 = 0 ↔ a6 = 0) ∧ (0 ≤ a8 ∧ a8 ≤ 255) ∧ (1 ≤ a9 ∧ a9 ≤ 255) ∧ (0 ≤ a10 ∧ a10 ≤ 4294967295) ∧ (a6 ≤ a11 ∧ a11 ≤ la) ∧ (0 ≤ a12 ∧ a12 ≤ 100) ∧ (0 ≤ a13 ∧ a13 ≤ 255) ∧ (a13 = 0 ∨ a3 = 2)) ∧ b = true) := by
  refine EvP.succ ?_
  simp only [spec_NodeOK.j1, set_eq, Option.bind_some]
  have j := fun (hx : ¬ x = true) (y : Bool) => j2_ev a0 a1 a2 a3 a4 l5 a6 a7 a8 a9 a10 a11 a12 a13 l14 l15 la b y (fun _ => hR (by simpa using hx))
  refine EvP.iff (EvP.ite (fun _ => EvP.no) fun hx => EvP.ite (fun _ => j hx _) fun _ => EvP.ite (fun _ => j hx _) fun _ => EvP.ite (fun _ => j hx _) fun _ => EvP.ite (fun _ => EvP.ite (fun _ => j hx _) fun _ => j hx _) fun _ => j hx _) ?_
  simp only [inb_iff, bne_iff]
  cases x <;> cases b <;> simp only [Bool.false_eq_true, Bool.true_eq_false, beq_eq_false_iff_ne, ne_eq, false_and, and_false, or_false, false_or, not_false_eq_true, not_true_eq_false, true_and, and_true] <;> first | omega | (simp; done) | (simp; omega)
theorem j0_ev (la : Int) (b : Bool) (x : Bool) (hR : 0 ≤ a6 ∧ a6 ≤ 1000000 → (l5.length : Int) ≤ 200 → Ev (fun k => spec_NodeOK.j4 k la a0 a1 a2 a3 a4 l5 a6 a7 a8 a9 a10 a11 a12 a13 l14 l15) b) :
    EvP (fun k => spec_NodeOK.j0 k la x a0 a1 a2 a3 a4 l5 a6 a7 a8 a9 a10 a11 a12 a13 l14 l15) (x = false ∧ ((1 ≤ a3 ∧ a3 ≤ 3) ∧ (l5.length : Int) ≤ 200 ∧ H2 a1 a6 a7 a8 a9 a10 ∧ H3 a3 a6 a11 a12 a13 la) ∧ b = true) := by
  refine EvP.succ ?_
  simp only [spec_NodeOK.j0]
  have j := j1_ev a0 a1 a2 a3 a4 l5 a6 a7 a8 a9 a10 a11 a12 a13 l14 l15 la b
  refine EvP.iff (EvP.ite (fun _ => EvP.no) fun hx => EvP.ite (fun _ => j _ (fun h => by cases h)) fun _ => EvP.ite (fun _ => j _ (fun h => by cases h)) fun _ => EvP.ite (fun _ => j _ (fun h => by cases h)) fun h1 => EvP.ite (fun _ => j _ (fun h => by cases h)) fun h2 => j _ (fun h => hR (by have := of_decide_eq_false h; omega) (by omega))) ?_
  unfold H2 H3
  cases x <;> cases b <;> simp only [Bool.false_eq_true, Bool.true_eq_false, decide_eq_false_iff_not, false_and, and_false, or_false, false_or, not_false_eq_true, not_true_eq_false, true_and, and_true] <;> first | omega | (simp; done) | (simp; omega)
theorem nodeok_both (hl : (l5.length : Int) ≤ 1048576) : ∃ v, Ev (fun k => spec_NodeOK.f k a0 a1 a2 a3 a4 l5 a6 a7 a8 a9 a10 a11 a12 a13 l14 l15) v ∧ Ev (fun k => impl_NodeOK.f k a0 a1 a2 a3 a4 l5 a6 a7 a8 a9 a10 a11 a12 a13 l14 l15) v ∧ (v = true → H1 a0 a1 a2 a3 a4 (l5.length : Int) ∧ H2 a1 a6 a7 a8 a9 a10 ∧ H3 a3 a6 a11 a12 a13 (a6 + (l5.length : Int))) := by
  -- what the loops come to, where they are come to
  have hb : ∃ b r : Bool, (0 ≤ a6 ∧ a6 ≤ 1000000 → Ev (fun k => spec_NodeOK.j4 k (wrap64 (a6 + (l5.length : Int))) a0 a1 a2 a3 a4 l5 a6 a7 a8 a9 a10 a11 a12 a13 l14 l15) (b && r)) ∧ (0 ≤ a6 ∧ a6 ≤ 1000000 → Ev (fun k => impl_NodeOK.l0 k l5 a1 a7 0) b) ∧ (0 ≤ a6 ∧ a6 ≤ 1000000 → Ev (fun k => impl_NodeOK.rest k a3 (wrap64 (a6 + (l5.length : Int))) l14 l15) r) := by
    by_cases h6 : 0 ≤ a6 ∧ a6 ≤ 1000000
    · obtain ⟨r, r1, r2⟩ := rest_both a0 a1 a2 a3 a4 l5 a6 a7 a8 a9 a10 a11 a12 a13 l14 l15 (wrap64 (a6 + (l5.length : Int))) (by rw [wrap_in _ (by omega) (by omega)]; omega)
      obtain ⟨b, b1, b2⟩ := l0_both a0 a1 a2 a3 a4 l5 a6 a7 a8 a9 a10 a11 a12 a13 l14 l15 (wrap64 (a6 + (l5.length : Int))) hl h6 r r1 l5.length 0 (by omega) (by omega) (by omega)
      exact ⟨b, r, fun _ => Ev.succ (by simp only [spec_NodeOK.j4]; exact b1), fun _ => by simpa [tm] using b2, fun _ => r2⟩
    · exact ⟨false, false, fun h => absurd h h6, fun h => absurd h h6, fun h => absurd h h6⟩
  obtain ⟨b, r, hs, hi, hr⟩ := hb
  have P : EvP (fun k => spec_NodeOK.f k a0 a1 a2 a3 a4 l5 a6 a7 a8 a9 a10 a11 a12 a13 l14 l15) (H1 a0 a1 a2 a3 a4 (l5.length : Int) ∧ H2 a1 a6 a7 a8 a9 a10 ∧ H3 a3 a6 a11 a12 a13 (wrap64 (a6 + (l5.length : Int))) ∧ (b && r) = true) := by
    simp only [spec_NodeOK.f, spec_l05Last.f, id_eq, Option.bind_some]
    have j := fun y : Bool => j0_ev a0 a1 a2 a3 a4 l5 a6 a7 a8 a9 a10 a11 a12 a13 l14 l15 (wrap64 (a6 + (l5.length : Int))) (b && r) y (fun h _ => hs h)
    refine EvP.iff (EvP.ite (fun _ => EvP.ite (fun _ => j _) fun _ => EvP.ite (fun _ => j _) fun _ => EvP.ite (fun _ => j _) fun _ => EvP.ite (fun _ => j _) fun _ => EvP.ite (fun _ => j _) fun _ => j _) fun _ => j _) ?_
    obtain ⟨z, hz⟩ : ∃ z : Bool, (b && r) = z := ⟨_, rfl⟩
    rw [hz]
    obtain ⟨la, hla⟩ : ∃ la, wrap64 (a6 + (l5.length : Int)) = la := ⟨_, rfl⟩
    rw [hla]
    unfold H1
    simp only [inb_iff]
    by_cases q2 : H2 a1 a6 a7 a8 a9 a10 <;> by_cases q3 : H3 a3 a6 a11 a12 a13 la <;> cases z <;> simp only [q2, q3, Bool.false_eq_true, Bool.true_eq_false, decide_eq_false_iff_not, false_and, and_false, or_false, false_or, not_false_eq_true, not_true_eq_false, true_and, and_true] <;> first | omega | (simp; done) | (simp; omega)
  have Q : EvP (fun k => impl_NodeOK.f k a0 a1 a2 a3 a4 l5 a6 a7 a8 a9 a10 a11 a12 a13 l14 l15) (H1 a0 a1 a2 a3 a4 (l5.length : Int) ∧ H2 a1 a6 a7 a8 a9 a10 ∧ H3 a3 a6 a11 a12 a13 (wrap64 (a6 + (l5.length : Int))) ∧ (b && r) = true) := by
    have q1 : impl_NodeOK.h1 a0 a1 a2 a3 a4 l5.length = true ↔ H1 a0 a1 a2 a3 a4 (l5.length : Int) := by
      unfold impl_NodeOK.h1 H1
      simp only [Bool.and_eq_true, inb_iff, Bool.not_eq_true', decide_eq_false_iff_not]
      omega
    have q2 : impl_NodeOK.h2 a1 a6 a7 a8 a9 a10 = true ↔ H2 a1 a6 a7 a8 a9 a10 := by
      unfold impl_NodeOK.h2 H2
      simp only [Bool.and_eq_true, inb_iff, Bool.not_eq_true']
      rw [← Bool.not_eq_true, bne_iff]
      simp only [Classical.not_not]
    have q3 : ∀ la, impl_NodeOK.h3 a3 a6 a11 a12 a13 la = true ↔ H3 a3 a6 a11 a12 a13 la := by
      intro la
      unfold impl_NodeOK.h3 H3
      simp only [Bool.and_eq_true, inb_iff, Bool.not_eq_true', Bool.and_eq_false_iff, bne_eq_false_iff_eq]
    simp only [impl_NodeOK.f]
    refine EvP.iff (EvP.ite (fun _ => EvP.ite (fun h => EvP.bind (hi (q2.1 h).1) (EvP.ite (fun _ => EvP.ite (fun _ => EvP.of (hr (q2.1 h).1)) fun _ => EvP.no) fun _ => EvP.no)) fun _ => EvP.no) fun _ => EvP.no) ?_
    simp only [q1, q2, q3, Bool.and_eq_true, and_false, or_false]
    constructor
    · rintro ⟨h1, h2, hb, h3, hr⟩
      exact ⟨h1, h2, h3, hb, hr⟩
    · rintro ⟨h1, h2, h3, hb, hr⟩
      exact ⟨h1, h2, hb, h3, hr⟩
  obtain ⟨v, v1, v2, v3⟩ := EvP.both P Q
  refine ⟨v, v1, v2, fun h => ?_⟩
  obtain ⟨w1, w2, w3, _⟩ := v3.1 h
  have e6 := w2.1
  rw [wrap_in _ (by omega) (by omega)] at w3
  exact ⟨w1, w2, w3⟩
end
end Go.Proofs.Ytkfjgloalfpcmaa.QFnExactNodeOKG
