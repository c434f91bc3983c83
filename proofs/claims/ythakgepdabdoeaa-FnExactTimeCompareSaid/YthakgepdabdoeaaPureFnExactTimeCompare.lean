/- The program's TimeCompare and the reference's answer alike at every two times. No condition. -/
import Derived.Test.YthakgepdabdoeaaPFnExactTimeComparex1
namespace Go.Proofs.Ythakgepdabdoeaa.Pure
set_option linter.unusedVariables false
set_option linter.unusedSimpArgs false
open Go.RowKit Go.Proofs.Ythakgepdabdoeaa.PFnExactTimeCompare Go.Proofs.YthakgepdabdoeaaW.PrintWords
theorem FnExactTimeCompare (a b c d : Int) (h : (Lit.int .i64 a).wf = true ∧ (Lit.int .i64 b).wf = true) (h' : (Lit.int .i64 c).wf = true ∧ (Lit.int .i64 d).wf = true) : laws_FnExactTimeCompare.f a b c d = some true := by
  have key : ∀ x y, impl_cmpInt.f x y = spec_l01Sign.f x y := fun _ _ => rfl
  simp only [laws_FnExactTimeCompare.f, spec_TimeCompare.f, impl_TimeCompare.f, laws_toTime.f, Option.bind_some, key]
  simp only [spec_l01Sign.f]
  rcases Int.lt_trichotomy a c with h1 | h1 | h1
  · have : ¬ a = c := by omega
    simp [h1, this]
  · subst h1
    rcases Int.lt_trichotomy b d with h2 | h2 | h2
    · simp [h2]
    · subst h2; simp
    · have : ¬ b < d := by omega
      simp [h2, this]
  · have h2 : ¬ a = c := by omega
    have h3 : ¬ a < c := by omega
    simp [h1, h2, h3]
end Go.Proofs.Ythakgepdabdoeaa.Pure
