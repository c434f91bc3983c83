/- The functions that the law reaches, each as a plain Lean function with the proof that the Go code comes to its answers: written by a program of this session. No condition. -/
import Derived.Test.YthakgepdabdoeaaProg
import Derived.Below
import Derived.Deep.Draws
import Derived.Deep.AppendLies
import Derived.Maps.AppendAt
import Derived.OwnWalk
import Derived.Laws.BytesArg
import Derived.Laws.MakeOwn
import Derived.Laws.OwnMore
import Derived.Deep.OwnRows
import Derived.Tactics
import Derived.Lib.ConvBytes
import Derived.Laws.Slices
import Derived.WalkKit
import Derived.KernelRfl
import Derived.RowKit3
import Derived.Deep.LoopGhost
import Derived.Deep.QuietTactic
import Derived.BigQuiet
import Derived.WideLaws
import Derived.Deep.DeepCutAuto
import Derived.Deep.CutBlock
import Derived.Deep.RegionHeld3
import Derived.Laws.Rows
import Derived.Lib.AppendStr
import Derived.ArgAppend
import Derived.Laws.IdiomCopy
import Derived.OrdersHeld
import Derived.Laws.BitsLemmas
import Derived.RowKit
import Derived.StillTailTactics
import Derived.Test.YthakgepdabdoeaaWWords
import Derived.Test.YthakgepdabdoeaaWLast
import Derived.Test.YthakgepdabdoeaaWTab
import Derived.Test.YthakgepdabdoeaaWFour
import Derived.Test.YthakgepdabdoeaaWQPut
import Derived.Test.YthakgepdabdoeaaWApart
import Derived.Test.YthakgepdabdoeaaWArr
import Derived.Test.YthakgepdabdoeaaWZeros
import Derived.Test.YthakgepdabdoeaaWFoot
import Derived.Test.YthakgepdabdoeaaWKept
import Derived.Test.YthakgepdabdoeaaWShare
import Derived.Test.YthakgepdabdoeaaWN
import Derived.Test.YthakgepdabdoeaaWFootNe
import Derived.Test.YthakgepdabdoeaaWAt
import Derived.Test.YthakgepdabdoeaaWEqStruct
import Derived.Test.YthakgepdabdoeaaWRepsOne
import Derived.Test.YthakgepdabdoeaaWInv
import Derived.Test.YthakgepdabdoeaaWInvWords
import Derived.Test.YthakgepdabdoeaaWGuard
import Derived.Test.YthakgepdabdoeaaWNEv
import Derived.Test.YthakgepdabdoeaaWMore
namespace Go.Proofs.Ythakgepdabdoeaa.QFnExactCrc
open Go.RowKit Go.Proofs.YthakgepdabdoeaaW.PrintWords Go.Proofs.YthakgepdabdoeaaW.PrintLast Go.Proofs.YthakgepdabdoeaaW.PrintMore
attribute [local go_sem] max2_int min2_int max_two min_two max_three min_three max_four min_four   -- for this text's walks alone
set_option linter.unusedVariables false
set_option linter.unusedSimpArgs false



def errW : Option Int → Value
  | none => .nilIface
  | some c => .iface 0 (.int .i64 c)
theorem errW_none : errW none = .nilIface := rfl
theorem errW_some (c : Int) : errW (some c) = .iface 0 (.int .i64 c) := rfl

-- the values' own types

end Go.Proofs.Ythakgepdabdoeaa.QFnExactCrc
