/- What a list of ranges is that the reference's RangesOK takes. No condition. -/
import Derived.Test.YtdgleppagokjhaaQFnExactRangeStepx5
import Derived.Test.YtdgleppagokjhaaUtil
namespace Go.Proofs.Ytdgleppagokjhaa.QFnExactRangeStepH
set_option linter.unusedVariables false
set_option linter.unusedSimpArgs false
open Go.RowKit Go.Proofs.Ytdgleppagokjhaa.QFnExactRangeStep Go.Proofs.YtdgleppagokjhaaW.PrintWords Go.Proofs.YtdgleppagokjhaaU
/-- One range in its bounds. -/
structure One (x : S30) : Prop where
  id : 1 ≤ x.f0 ∧ x.f0 ≤ 1000000
  keys : (x.f1.size : Int) ≤ 4000 ∧ (x.f2.size : Int) ≤ 4000
  members : 1 ≤ x.f3 ∧ x.f3 ≤ 255
  holder : spec_l06Bit.f x.f3 x.f4 = some true
  gen : 1 ≤ x.f5 ∧ x.f5 ≤ 1000000
theorem one_of (x : S30) (h : spec_l06One.f x.f0 x.f1 x.f2 x.f3 x.f4 x.f5 = some true) : One x := by
  unfold spec_l06One.f spec_l06Key.f at h
  simp only [Option.bind_some] at h
  by_cases c1 : x.f0 ≥ 1
  · rw [if_pos c1] at h
    by_cases c2 : x.f0 ≤ 1000000
    · rw [if_pos c2] at h
      by_cases c3 : (x.f1.size : Int) ≤ 4000
      · rw [if_pos (decide_eq_true c3)] at h
        by_cases c4 : (x.f2.size : Int) ≤ 4000
        · rw [if_pos (decide_eq_true c4)] at h
          by_cases c5 : x.f3 ≥ 1
          · rw [if_pos c5] at h
            by_cases c6 : x.f3 ≤ 255
            · rw [if_pos c6] at h
              obtain ⟨b, hb, h⟩ := Option.bind_eq_some_iff.mp h
              cases b with
              | false => simp at h
              | true =>
                rw [if_pos rfl] at h
                by_cases c7 : x.f5 ≥ 1
                · rw [if_pos c7] at h
                  have c8 : x.f5 ≤ 1000000 := of_decide_eq_true (Option.some.inj h)
                  exact ⟨⟨c1, c2⟩, ⟨c3, c4⟩, ⟨c5, c6⟩, hb, ⟨c7, c8⟩⟩
                · rw [if_neg c7] at h; simp at h
            · rw [if_neg c6] at h; simp at h
          · rw [if_neg c5] at h; simp at h
        · rw [if_neg (by simpa using c4)] at h; simp at h
      · rw [if_neg (by simpa using c3)] at h; simp at h
    · rw [if_neg c2] at h; simp at h
  · rw [if_neg c1] at h; simp at h
/-- The range at an index: in its bounds, at its neighbour's end, its number its own. -/
structure At (l : List S30) (i : Int) : Prop where
  one : One (rd_T30 l i)
  touch : 0 < i → (rd_T30 l i).f1.toList = (rd_T30 l (i - 1)).f2.toList ∧ Op.bytesLess (rd_T30 l (i - 1)).f1.toList (rd_T30 l i).f1.toList = true
  ids : ∀ j : Int, 0 ≤ j → j < i → (rd_T30 l j).f0 ≠ (rd_T30 l i).f0
theorem from_ok (l : List S30) (hl : l.length ≤ 64) : ∀ k,
    (∀ i : Int, 0 ≤ i → spec_RangesOK.l0 k l i = some true → ∀ q : Int, i ≤ q → q < l.length → At l q) ∧
    (∀ (i : Int) (x : Bool), 0 ≤ i → i < l.length → spec_RangesOK.j2 k l i x = some true → x = false ∧ (∀ j : Int, 0 ≤ j → j < i → (rd_T30 l j).f0 ≠ (rd_T30 l i).f0) ∧ ∀ q : Int, i + 1 ≤ q → q < l.length → At l q) ∧
    (∀ i p : Int, 0 ≤ i → i < l.length → 0 ≤ p → p ≤ i → spec_RangesOK.l1 k l i p = some true → (∀ j : Int, p ≤ j → j < i → (rd_T30 l j).f0 ≠ (rd_T30 l i).f0) ∧ ∀ q : Int, i + 1 ≤ q → q < l.length → At l q)
  | 0 => ⟨fun _ _ h => by simp [spec_RangesOK.l0] at h, fun _ _ _ _ h => by simp [spec_RangesOK.j2] at h, fun _ _ _ _ _ _ h => by simp [spec_RangesOK.l1] at h⟩
  | k + 1 => by
    obtain ⟨h0, h2, h1⟩ := from_ok l hl k
    refine ⟨?_, ?_, ?_⟩
    · intro i i0 h q q0 q1
      simp only [spec_RangesOK.l0] at h
      rw [if_pos (by omega), if_pos i0] at h
      obtain ⟨b, hb, h⟩ := Option.bind_eq_some_iff.mp h
      have bad : ∀ {P : Prop}, spec_RangesOK.j2 k l i true = some true → P := fun z => by cases (h2 i true i0 (by omega) z).1
      cases b with
      | false => rw [if_neg (by simp)] at h; exact bad h
      | true =>
        rw [if_pos rfl] at h
        have one := one_of _ hb
        by_cases c : i > 0
        · rw [if_pos c, wrap_in (i - 1) (by omega) (by omega), if_pos (by omega), if_pos (by omega)] at h
          by_cases c1 : (rd_T30 l i).f1.toList = (rd_T30 l (i - 1)).f2.toList
          · rw [if_pos c1] at h
            obtain ⟨z, d, r⟩ := h2 i _ i0 (by omega) h
            by_cases e : q = i
            · subst e
              exact ⟨one, fun _ => ⟨c1, by simpa using z⟩, d⟩
            · exact r q (by omega) q1
          · rw [if_neg c1] at h; exact bad h
        · rw [if_neg c] at h
          obtain ⟨z, d, r⟩ := h2 i _ i0 (by omega) h
          by_cases e : q = i
          · subst e
            exact ⟨one, fun p => absurd p c, d⟩
          · exact r q (by omega) q1
    · intro i x i0 i1 h
      simp only [spec_RangesOK.j2] at h
      cases x with
      | true => rw [if_pos rfl] at h; simp at h
      | false =>
        rw [if_neg (by simp)] at h
        exact ⟨rfl, h1 i 0 i0 i1 (Int.le_refl 0) i0 h⟩
    · intro i p i0 i1 p0 p1 h
      simp only [spec_RangesOK.l1] at h
      by_cases c : p < i
      · rw [if_pos c, if_pos p0, if_pos (by omega), if_pos i0, if_pos i1] at h
        by_cases c1 : (rd_T30 l p).f0 = (rd_T30 l i).f0
        · rw [if_pos c1] at h; simp at h
        · rw [if_neg c1, wrap_in (p + 1) (by omega) (by omega)] at h
          obtain ⟨d, r⟩ := h1 i (p + 1) i0 i1 (by omega) (by omega) h
          refine ⟨fun j j0 j1 => ?_, r⟩
          by_cases e : j = p
          · subst e; exact c1
          · exact d j (by omega) j1
      · rw [if_neg c, wrap_in (i + 1) (by omega) (by omega)] at h
        exact ⟨fun j j0 j1 => by omega, h0 (i + 1) (by omega) h⟩
/-- A list of ranges that RangesOK takes. -/
structure Fine (l : List S30) : Prop where
  len : 1 ≤ l.length ∧ l.length ≤ 64
  first : (rd_T30 l 0).f1.toList = []
  last : (rd_T30 l ((l.length : Int) - 1)).f2.toList = []
  at_ : ∀ q : Int, 0 ≤ q → q < l.length → At l q
theorem good_of (l : List S30) (k : Nat) (h : spec_RangesOK.f k l = some true) : Fine l := by
  unfold spec_RangesOK.f at h
  have bad : ∀ {P : Prop}, spec_RangesOK.j0 k l true = some true → P := by
    intro P z
    cases k with
    | zero => simp [spec_RangesOK.j0] at z
    | succ k => simp [spec_RangesOK.j0] at z
  by_cases c0 : (l.length : Int) < 1
  · rw [if_pos c0] at h; exact bad h
  · rw [if_neg c0] at h
    by_cases c1 : (l.length : Int) > 64
    · rw [if_pos c1] at h; exact bad h
    · rw [if_neg c1, if_pos (by omega)] at h
      by_cases c2 : (rd_T30 l 0).f1.toList = ([] : List UInt8)
      · rw [if_pos c2, wrap_in ((l.length : Int) - 1) (by omega) (by omega), if_pos (by omega), if_pos (by omega)] at h
        by_cases c3 : (rd_T30 l ((l.length : Int) - 1)).f2.toList = ([] : List UInt8)
        · rw [show ((rd_T30 l ((l.length : Int) - 1)).f2.toList != ([] : List UInt8)) = false from bne_eq_false_iff_eq.mpr c3] at h
          cases k with
          | zero => simp [spec_RangesOK.j0] at h
          | succ k =>
            simp only [spec_RangesOK.j0] at h
            rw [if_neg (by simp)] at h
            exact ⟨by omega, c2, c3, fun q q0 q1 => (from_ok l (by omega) k).1 0 (Int.le_refl 0) h q q0 q1⟩
        · rw [show ((rd_T30 l ((l.length : Int) - 1)).f2.toList != ([] : List UInt8)) = true from bne_iff_ne.mpr c3] at h
          exact bad h
      · rw [if_neg c2] at h; exact bad h
end Go.Proofs.Ytdgleppagokjhaa.QFnExactRangeStepH
