/- The functions that the law reaches, each as a plain Lean function with the proof that the Go code comes to its answers: written by a program of this session. No condition. -/
import Derived.Test.YtjnhbegppjeafaaProg
import Derived.Below
import Derived.Deep.Draws
import Derived.Deep.AppendLies
import Derived.Maps.AppendAt
import Derived.OwnWalk
import Derived.Laws.BytesArg
import Derived.Laws.MakeOwn
import Derived.Laws.OwnMore
import Derived.Deep.OwnRows
import Derived.Tactics
import Derived.Lib.ConvBytes
import Derived.Laws.Slices
import Derived.WalkKit
import Derived.KernelRfl
import Derived.RowKit3
import Derived.Deep.LoopGhost
import Derived.Deep.QuietTactic
import Derived.BigQuiet
import Derived.WideLaws
import Derived.Deep.DeepCutAuto
import Derived.Deep.CutBlock
import Derived.Deep.RegionHeld3
import Derived.Laws.Rows
import Derived.Lib.AppendStr
import Derived.ArgAppend
import Derived.Laws.IdiomCopy
import Derived.OrdersHeld
import Derived.Laws.BitsLemmas
import Derived.RowKit
import Derived.StillTailTactics
import Derived.Test.YtjnhbegppjeafaaWWords
import Derived.Test.YtjnhbegppjeafaaWLast
import Derived.Test.YtjnhbegppjeafaaWTab
import Derived.Test.YtjnhbegppjeafaaWFour
import Derived.Test.YtjnhbegppjeafaaWQPut
import Derived.Test.YtjnhbegppjeafaaWApart
import Derived.Test.YtjnhbegppjeafaaWArr
import Derived.Test.YtjnhbegppjeafaaWZeros
import Derived.Test.YtjnhbegppjeafaaWFoot
import Derived.Test.YtjnhbegppjeafaaWKept
import Derived.Test.YtjnhbegppjeafaaWShare
import Derived.Test.YtjnhbegppjeafaaWN
import Derived.Test.YtjnhbegppjeafaaWFootNe
import Derived.Test.YtjnhbegppjeafaaWAt
import Derived.Test.YtjnhbegppjeafaaWEqStruct
import Derived.Test.YtjnhbegppjeafaaWRepsOne
import Derived.Test.YtjnhbegppjeafaaWInv
import Derived.Test.YtjnhbegppjeafaaWInvWords
import Derived.Test.YtjnhbegppjeafaaWGuard
import Derived.Test.YtjnhbegppjeafaaWNEv
import Derived.Test.YtjnhbegppjeafaaWMore
namespace Go.Proofs.Ytjnhbegppjeafaa.QFnExactWaitVictim
open Go.RowKit Go.Proofs.YtjnhbegppjeafaaW.PrintWords Go.Proofs.YtjnhbegppjeafaaW.PrintLast Go.Proofs.YtjnhbegppjeafaaW.PrintMore
attribute [local go_sem] max2_int min2_int max_two min_two max_three min_three max_four min_four   -- for this text's walks alone
set_option linter.unusedVariables false
set_option linter.unusedSimpArgs false



def errW : Option Int → Value
  | none => .nilIface
  | some c => .iface 0 (.int .i64 c)
theorem errW_none : errW none = .nilIface := rfl
theorem errW_some (c : Int) : errW (some c) = .iface 0 (.int .i64 c) := rfl

theorem info3 : (Try.prog.info? 3).map (fun i => (i.zero, i.size, i.bytes)) = some (some (.int .i64 0), 1, 8) := by kernel_rfl
-- the values' own types

end Go.Proofs.Ytjnhbegppjeafaa.QFnExactWaitVictim
