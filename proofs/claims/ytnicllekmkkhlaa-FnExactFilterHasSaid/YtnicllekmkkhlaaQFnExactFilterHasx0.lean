/- The functions that the law reaches, each as a plain Lean function with the proof that the Go code comes to its answers: written by a program of this session. No condition. -/
import Derived.Test.YtnicllekmkkhlaaProg
import Derived.Below
import Derived.Deep.Draws
import Derived.Deep.AppendLies
import Derived.Maps.AppendAt
import Derived.OwnWalk
import Derived.Laws.BytesArg
import Derived.Laws.MakeOwn
import Derived.Laws.OwnMore
import Derived.Deep.OwnRows
import Derived.Tactics
import Derived.Lib.ConvBytes
import Derived.Laws.Slices
import Derived.WalkKit
import Derived.KernelRfl
import Derived.RowKit3
import Derived.Deep.LoopGhost
import Derived.Deep.QuietTactic
import Derived.BigQuiet
import Derived.WideLaws
import Derived.Deep.DeepCutAuto
import Derived.Deep.CutBlock
import Derived.Deep.RegionHeld3
import Derived.Laws.Rows
import Derived.Lib.AppendStr
import Derived.ArgAppend
import Derived.Laws.IdiomCopy
import Derived.OrdersHeld
import Derived.Laws.BitsLemmas
import Derived.RowKit
import Derived.StillTailTactics
import Derived.Test.YtnicllekmkkhlaaWWords
import Derived.Test.YtnicllekmkkhlaaWLast
import Derived.Test.YtnicllekmkkhlaaWTab
import Derived.Test.YtnicllekmkkhlaaWFour
import Derived.Test.YtnicllekmkkhlaaWQPut
import Derived.Test.YtnicllekmkkhlaaWApart
import Derived.Test.YtnicllekmkkhlaaWArr
import Derived.Test.YtnicllekmkkhlaaWZeros
import Derived.Test.YtnicllekmkkhlaaWFoot
import Derived.Test.YtnicllekmkkhlaaWKept
import Derived.Test.YtnicllekmkkhlaaWShare
import Derived.Test.YtnicllekmkkhlaaWN
import Derived.Test.YtnicllekmkkhlaaWFootNe
import Derived.Test.YtnicllekmkkhlaaWAt
import Derived.Test.YtnicllekmkkhlaaWEqStruct
import Derived.Test.YtnicllekmkkhlaaWRepsOne
import Derived.Test.YtnicllekmkkhlaaWInv
import Derived.Test.YtnicllekmkkhlaaWInvWords
import Derived.Test.YtnicllekmkkhlaaWGuard
import Derived.Test.YtnicllekmkkhlaaWNEv
import Derived.Test.YtnicllekmkkhlaaWMore
namespace Go.Proofs.Ytnicllekmkkhlaa.QFnExactFilterHas
open Go.RowKit Go.Proofs.YtnicllekmkkhlaaW.PrintWords Go.Proofs.YtnicllekmkkhlaaW.PrintLast Go.Proofs.YtnicllekmkkhlaaW.PrintMore
attribute [local go_sem] max2_int min2_int max_two min_two max_three min_three max_four min_four   -- for this text's walks alone
set_option linter.unusedVariables false
set_option linter.unusedSimpArgs false



def errW : Option Int → Value
  | none => .nilIface
  | some c => .iface 0 (.int .i64 c)
theorem errW_none : errW none = .nilIface := rfl
theorem errW_some (c : Int) : errW (some c) = .iface 0 (.int .i64 c) := rfl

-- the values' own types

end Go.Proofs.Ytnicllekmkkhlaa.QFnExactFilterHas
