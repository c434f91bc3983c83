/- The law FnExactConstants returns true: the walk of its one body. No condition. -/
import Derived.Test.YthakgepdabdoeaaProg
import Derived.Below
import Derived.Tactics
import Derived.WalkKit
import Derived.KernelRfl
import Derived.RowKit
namespace Go.Proofs.Ythakgepdabdoeaa.PConstants
open Go.RowKit
def laws_FnExactConstants.f : Option Bool := some true
set_option maxHeartbeats 8000000 in
set_option maxRecDepth 100000 in
theorem laws_FnExactConstants.calls (r : Bool) (w : World) (h : laws_FnExactConstants.f = some r) :
    Calls Try.prog 3 #[] w fun e w' => e = .returned (.bool r) ∧ Below w.heap.size w w' := by
  obtain rfl := Option.some.inj h
  clear h
  go_enter Try.func3, Try.ntmps3
  go_wp2
  go_ret
  exact ⟨rfl, Below.refl _ _⟩
end Go.Proofs.Ythakgepdabdoeaa.PConstants
