/- The program's ClockSee and the reference's answer alike at every two times and wall clock. No condition. -/
import Derived.Test.YthakgepdabdoeaaQFnExactClockSeex2
namespace Go.Proofs.Ythakgepdabdoeaa.Pure
set_option linter.unusedVariables false
set_option linter.unusedSimpArgs false
open Go.RowKit Go.Proofs.Ythakgepdabdoeaa.QFnExactClockSee Go.Proofs.YthakgepdabdoeaaW.PrintWords
theorem ok_some (a b : Int) : ∃ t, spec_TimeOK.f a b = some t ∧ impl_TimeOK.f a b = some t := by
  unfold spec_TimeOK.f impl_TimeOK.f
  split
  · split
    · split <;> exact ⟨_, rfl, rfl⟩
    · exact ⟨_, rfl, rfl⟩
  · exact ⟨_, rfl, rfl⟩
theorem cmp_alike (a b c d : Int) : ∃ x y, spec_TimeCompare.f a b c d = some x ∧ impl_TimeCompare.f c d a b = some y ∧ (x < 0 ↔ y > 0) := by
  simp only [spec_TimeCompare.f, impl_TimeCompare.f, spec_l01Sign.f, impl_cmpInt.f]
  rcases Int.lt_trichotomy a c with h1 | h1 | h1
  · rw [if_neg (by omega), if_pos h1, if_neg (by omega), if_pos h1]
    exact ⟨-1, 1, rfl, rfl, by omega⟩
  · subst h1
    simp only [if_true, Int.lt_irrefl, if_false, gt_iff_lt, Option.bind_some]
    rcases Int.lt_trichotomy b d with h2 | h2 | h2
    · rw [if_pos h2, if_neg (by omega), if_pos h2]; exact ⟨-1, 1, rfl, rfl, by omega⟩
    · subst h2; simp only [Int.lt_irrefl, if_false]; exact ⟨0, 0, rfl, rfl, by omega⟩
    · rw [if_neg (by omega), if_pos h2, if_pos h2]; exact ⟨1, -1, rfl, rfl, by omega⟩
  · rw [if_neg (by omega), if_neg (by omega), if_pos h1, if_pos h1]
    exact ⟨1, -1, rfl, rfl, by omega⟩
theorem j_alike (k : Nat) (w : Int) (t : Bool) (a b c d : Int) : ∃ p, spec_ClockSee.j0 (k + 1) w t a b c d = some p ∧ impl_ClockSee.j0 (k + 1) w t a b c d = some p := by
  obtain ⟨x, y, h1, h2, h3⟩ := cmp_alike a b c d
  simp only [spec_ClockSee.j0, impl_ClockSee.j0, h1, h2, Option.bind_some]
  by_cases ht : t = true
  · rw [if_pos ht, if_pos ht]; exact ⟨_, rfl, rfl⟩
  · rw [if_neg ht, if_neg ht]
    by_cases hc : c > wrap64 (w + 500)
    · rw [if_pos hc, if_pos hc]; exact ⟨_, rfl, rfl⟩
    · rw [if_neg hc, if_neg hc]
      by_cases hx : x < 0
      · rw [if_pos hx, if_pos (h3.1 hx)]; exact ⟨_, rfl, rfl⟩
      · rw [if_neg hx, if_neg (fun h => hx (h3.2 h))]; exact ⟨_, rfl, rfl⟩
theorem see_alike (a b w c d : Int) : ∃ p, spec_ClockSee.f 1 a b w c d = some p ∧ impl_ClockSee.f 1 a b w c d = some p := by
  obtain ⟨t, h1, h2⟩ := ok_some a b
  obtain ⟨u, h3, h4⟩ := ok_some c d
  simp only [spec_ClockSee.f, impl_ClockSee.f, h1, h2, h3, h4, Option.bind_some, spec_l02Wall.f]
  cases t with
  | false => simpa using j_alike 0 w true a b c d
  | true =>
    simp only [if_true]
    by_cases w0 : w ≥ 0
    · rw [if_pos w0, if_neg (show ¬ w < 0 by omega)]
      simp only [Option.bind_some]
      by_cases w1 : w ≤ 1000000000000
      · rw [if_pos (decide_eq_true w1), if_neg (show ¬ w > 1000000000000 by omega)]
        exact j_alike 0 w (!u) a b c d
      · rw [if_neg (by simpa using w1), if_pos (show w > 1000000000000 by omega)]
        exact j_alike 0 w true a b c d
    · rw [if_neg w0, if_pos (show w < 0 by omega)]
      simpa using j_alike 0 w true a b c d
theorem FnExactClockSee (a b w c d : Int) (h : (Lit.int .i64 a).wf = true ∧ (Lit.int .i64 b).wf = true) (h' : (Lit.int .i64 w).wf = true) (h'' : (Lit.int .i64 c).wf = true ∧ (Lit.int .i64 d).wf = true) : ∃ k, laws_FnExactClockSee.f k a b w c d = some true := by
  obtain ⟨p, h1, h2⟩ := see_alike a b w c d
  refine ⟨1, ?_⟩
  simp only [laws_FnExactClockSee.f, laws_toTime.f, Option.bind_some, h1, h2, laws_eqTime.f]
  simp
end Go.Proofs.Ythakgepdabdoeaa.Pure
