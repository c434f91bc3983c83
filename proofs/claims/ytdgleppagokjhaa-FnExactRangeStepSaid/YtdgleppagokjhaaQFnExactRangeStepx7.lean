/- The functions that the law reaches, each as a plain Lean function with the proof that the Go code comes to its answers: written by a program of this session. No condition. -/
import Derived.Test.YtdgleppagokjhaaQFnExactRangeStepx0
import Derived.Test.YtdgleppagokjhaaQFnExactRangeStepx4
import Derived.Test.YtdgleppagokjhaaQFnExactRangeStepx5
import Derived.Test.YtdgleppagokjhaaQFnExactRangeStepx6
import Derived.Test.YtdgleppagokjhaaQFnExactRangeStepx71
import Derived.Test.YtdgleppagokjhaaQFnExactRangeStepx72
import Derived.Test.YtdgleppagokjhaaQFnExactRangeStepx73
import Derived.Test.YtdgleppagokjhaaQFnExactRangeStepx74
import Derived.Test.YtdgleppagokjhaaQFnExactRangeStepx7r
namespace Go.Proofs.Ytdgleppagokjhaa.QFnExactRangeStep
open Go.RowKit Go.Proofs.YtdgleppagokjhaaW.PrintWords Go.Proofs.YtdgleppagokjhaaW.PrintLast Go.Proofs.YtdgleppagokjhaaW.PrintMore
attribute [local go_sem] max2_int min2_int max_two min_two max_three min_three max_four min_four str_gtr str_leq str_geq pw_at_slice   -- for this text's walks alone
set_option linter.unusedVariables false
set_option linter.unusedSimpArgs false
set_option maxHeartbeats 8000000 in
set_option maxRecDepth 100000 in
theorem spec_RangeStep.calls (k : Nat) (A0 : Option Addr) (c0 : Nat) (l0 : List (S30)) (a1_0 : Int) (a1_1 : Int) (a1_2 : ByteArray) (a1_3 : Int) (a1_4 : Int) (r1 : List (S30)) (r2 : Int) (w : World) (hr0 : Kd.C k30 w A0 l0.length l0) (hc0 : l0.length ≤ c0) (h : spec_RangeStep.f k l0 a1_0 a1_1 a1_2 a1_3 a1_4 = some (r1, r2)) :
  Calls Try.prog 22 #[.slice A0 l0.length c0, .agg #[.int .i64 a1_0, .int .i64 a1_1, .string a1_2, .int .i64 a1_3, .int .i64 a1_4]] w fun e w' => ∃ v0_ : Value, e = .returned (.tuple #[v0_, .int .i64 r2]) ∧ Kd.R k30 30 w' w.heap.size (fun _ => True) v0_ r1 ∧ Below w.heap.size w w' := by
 by_cases k0_ : a1_0 = 1
 · exact spec_RangeStep.calls_1 k A0 c0 l0 a1_0 a1_1 a1_2 a1_3 a1_4 r1 r2 w hr0 hc0 h k0_
 by_cases k1_ : a1_0 = 2
 · exact spec_RangeStep.calls_2 k A0 c0 l0 a1_0 a1_1 a1_2 a1_3 a1_4 r1 r2 w hr0 hc0 h k1_
 by_cases k2_ : a1_0 = 3
 · exact spec_RangeStep.calls_3 k A0 c0 l0 a1_0 a1_1 a1_2 a1_3 a1_4 r1 r2 w hr0 hc0 h k2_
 by_cases k3_ : a1_0 = 4
 · exact spec_RangeStep.calls_4 k A0 c0 l0 a1_0 a1_1 a1_2 a1_3 a1_4 r1 r2 w hr0 hc0 h k3_
 exact spec_RangeStep.calls_r k A0 c0 l0 a1_0 a1_1 a1_2 a1_3 a1_4 r1 r2 w hr0 hc0 h ⟨k0_, k1_, k2_, k3_⟩
end Go.Proofs.Ytdgleppagokjhaa.QFnExactRangeStep
