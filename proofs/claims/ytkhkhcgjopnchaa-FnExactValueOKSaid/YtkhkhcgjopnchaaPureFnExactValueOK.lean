/- The program's ValueOK and the reference's answer alike at every value. No condition. -/
import Derived.Test.YtkhkhcgjopnchaaQFnExactValueOKx3
import Derived.Test.YtkhkhcgjopnchaaValValueOK
namespace Go.Proofs.Ytkhkhcgjopnchaa.Pure
set_option linter.unusedVariables false
set_option linter.unusedSimpArgs false
open Go.RowKit Go.Proofs.Ytkhkhcgjopnchaa.QFnExactValueOK Go.Proofs.YtkhkhcgjopnchaaW.PrintWords Go.Proofs.YtkhkhcgjopnchaaU Go.Proofs.Ytkhkhcgjopnchaa.QFnExactValueOKV
theorem FnExactValueOK (K N S : Int) (s : ByteArray) (o : (Lit.int .i64 K).wf = true ∧ (Lit.int .i64 N).wf = true ∧ (Lit.int .i64 S).wf = true ∧ s.size ≤ 9223372036854775807) : ∃ k, laws_FnExactValueOK.f k K N S s = some true := by
  obtain ⟨b, _, h1, h2⟩ := val_alike K N S s o.2.2.2
  refine Ev.rounds ?_
  simp only [laws_FnExactValueOK.f, laws_toValue.f, Option.bind_some, laws_szValue.f]
  by_cases hc : wrap64 (1048576 - (s.size : Int)) < 0
  · simp only [if_pos hc, Option.bind_some]
    exact Ev.pos (by omega) (Ev.some' rfl)
  · simp only [if_neg hc, Option.bind_some]
    exact Ev.bind h1 (Ev.bind h2 (Ev.neg (by simp) (Ev.some' rfl)))
end Go.Proofs.Ytkhkhcgjopnchaa.Pure
