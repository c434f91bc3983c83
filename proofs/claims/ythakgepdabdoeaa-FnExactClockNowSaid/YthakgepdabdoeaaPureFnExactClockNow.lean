/- The program's ClockNow and the reference's answer alike at every time and wall clock. No condition. -/
import Derived.Test.YthakgepdabdoeaaPFnExactClockNowx2
namespace Go.Proofs.Ythakgepdabdoeaa.Pure
set_option linter.unusedVariables false
set_option linter.unusedSimpArgs false
open Go.RowKit Go.Proofs.Ythakgepdabdoeaa.PFnExactClockNow Go.Proofs.YthakgepdabdoeaaW.PrintWords
theorem ok_true (a b : Int) (h1 : 0 ≤ a) (h2 : a ≤ 1000000000000) (h3 : 0 ≤ b) (h4 : b ≤ 1000000) : spec_TimeOK.f a b = some true := by
  unfold spec_TimeOK.f
  rw [if_pos h1, if_pos h2, if_pos h3, decide_eq_true h4]
theorem ok_false (a b : Int) (h : ¬ (0 ≤ a ∧ a ≤ 1000000000000 ∧ 0 ≤ b ∧ b ≤ 1000000)) : spec_TimeOK.f a b = some false := by
  unfold spec_TimeOK.f
  by_cases h1 : a ≥ 0
  · by_cases h2 : a ≤ 1000000000000
    · by_cases h3 : b ≥ 0
      · rw [if_pos h1, if_pos h2, if_pos h3, decide_eq_false (by omega)]
      · rw [if_pos h1, if_pos h2, if_neg h3]
    · rw [if_pos h1, if_neg h2]
  · rw [if_neg h1]
theorem wrap_in (x : Int) (h0 : -9223372036854775808 ≤ x) (h1 : x ≤ 9223372036854775807) : wrap64 x = x := by
  unfold wrap64
  omega
theorem next_alike (a b : Int) : ∃ p, impl_TimeNext.f a b = some p ∧ spec_TimeNext.f a b = some p := by
  simp only [spec_TimeNext.f, impl_TimeNext.f]
  by_cases c1 : 0 ≤ a ∧ a ≤ 1000000000000 ∧ 0 ≤ b ∧ b ≤ 1000000
  · obtain ⟨h1, h2, h3, h4⟩ := c1
    have e1 : spec_TimeOK.f a b = some true := ok_true a b h1 h2 h3 h4
    have e2 : impl_TimeOK.f a b = some true := ok_true a b h1 h2 h3 h4
    rw [e1, e2, wrap_in (b + 1) (by omega) (by omega), wrap_in (a + 1) (by omega) (by omega)]
    simp only [Option.bind_some, if_true]
    by_cases c2 : b < 1000000
    · have e3 : spec_TimeOK.f a (b + 1) = some true := ok_true _ _ h1 h2 (by omega) (by omega)
      rw [if_neg (show ¬ b + 1 > 1000000 by omega), if_pos c2, e3]
      simp
    · rw [if_pos (show b + 1 > 1000000 by omega), if_neg c2]
      by_cases c3 : a < 1000000000000
      · have e3 : spec_TimeOK.f (a + 1) 0 = some true := ok_true _ _ (by omega) (by omega) (by omega) (by omega)
        rw [if_pos c3, e3]
        simp
      · have e3 : spec_TimeOK.f (a + 1) 0 = some false := ok_false _ _ (by omega)
        rw [if_neg c3, e3]
        simp
  · have e : impl_TimeOK.f a b = spec_TimeOK.f a b := rfl
    have e1 : spec_TimeOK.f a b = some false := ok_false a b c1
    rw [e, e1]
    simp
theorem ok_some (a b : Int) : ∃ t, spec_TimeOK.f a b = some t ∧ impl_TimeOK.f a b = some t := by
  unfold spec_TimeOK.f impl_TimeOK.f
  split
  · split
    · split <;> exact ⟨_, rfl, rfl⟩
    · exact ⟨_, rfl, rfl⟩
  · exact ⟨_, rfl, rfl⟩
theorem FnExactClockNow (a b c : Int) (h : (Lit.int .i64 a).wf = true ∧ (Lit.int .i64 b).wf = true) (h' : (Lit.int .i64 c).wf = true) : ∃ k, laws_FnExactClockNow.f k a b c = some true := by
  refine ⟨2, ?_⟩
  obtain ⟨t, ht1, ht2⟩ := ok_some a b
  obtain ⟨p, hp1, hp2⟩ := next_alike a b
  simp only [laws_FnExactClockNow.f, laws_toTime.f, Option.bind_some, spec_ClockNow.f, impl_ClockNow.f, ht1, ht2, spec_l02Wall.f]
  cases t with
  | false => simp [spec_ClockNow.j0, impl_ClockNow.j0, laws_eqTime.f]
  | true =>
    simp only [if_true]
    by_cases c0 : c ≥ 0
    · rw [if_pos c0, if_neg (show ¬ c < 0 by omega)]
      simp only [Option.bind_some]
      by_cases c1 : c ≤ 1000000000000
      · have c2 : ¬ c > 1000000000000 := by omega
        simp only [c1, c2, decide_true, decide_false, Bool.not_true, spec_ClockNow.j0, impl_ClockNow.j0, hp1, hp2, Option.bind_some]
        by_cases c3 : c > a
        · simp [c3, laws_eqTime.f]
        · by_cases c4 : (p.1 == 0 && p.2 == 0) = true <;> simp [c3, c4, laws_eqTime.f]
      · have c2 : c > 1000000000000 := by omega
        simp [c1, c2, spec_ClockNow.j0, impl_ClockNow.j0, laws_eqTime.f]
    · rw [if_neg c0, if_pos (show c < 0 by omega)]
      simp [spec_ClockNow.j0, impl_ClockNow.j0, laws_eqTime.f]
end Go.Proofs.Ythakgepdabdoeaa.Pure
