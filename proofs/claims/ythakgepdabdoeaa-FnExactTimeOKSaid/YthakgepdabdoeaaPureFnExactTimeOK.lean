/- The program's TimeOK and the reference's answer alike at every time. No condition. -/
import Derived.Test.YthakgepdabdoeaaPFnExactTimeOKx1
namespace Go.Proofs.Ythakgepdabdoeaa.Pure
set_option linter.unusedVariables false
open Go.RowKit Go.Proofs.Ythakgepdabdoeaa.PFnExactTimeOK Go.Proofs.YthakgepdabdoeaaW.PrintWords
theorem FnExactTimeOK (a b : Int) (h : (Lit.int .i64 a).wf = true ∧ (Lit.int .i64 b).wf = true) : laws_FnExactTimeOK.f a b = some true := by
  simp only [laws_FnExactTimeOK.f, spec_TimeOK.f, impl_TimeOK.f, laws_toTime.f, Option.bind_some]
  by_cases c1 : a ≥ 0 <;> by_cases c2 : a ≤ 1000000000000 <;> by_cases c3 : b ≥ 0 <;> simp [c1, c2, c3]
end Go.Proofs.Ythakgepdabdoeaa.Pure
