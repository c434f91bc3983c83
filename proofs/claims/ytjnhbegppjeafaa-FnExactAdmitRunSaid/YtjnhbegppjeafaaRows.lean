/-
  No cell of these rows narrows 'for every input' (looked for: loops, veiled, ifaces, maps, wideKeys, modest, calm, conditions, laid).
  DERIVED. THE GIVEN ROWS OF THIS SEAT. 6 by the template 'for every input the law returns true; each argument reads behind the call as it read before'; 0 by the template 'total and deterministic' (their statements: YtjnhbegppjeafaaTotals.lean).
  GIVEN WITH THE SEED: the statements are not yours to turn. If you find one false, say at which input.
  Laid BY PROGRAM, IN A SANDBOX (cutbox-rows.mjs): the forced cells as the released guide's own fill.sh prints them over the translation b04ca00ab94b2e48… (all of the seat's roots in one cut). By AI agents, Wed Nov 11 2026. No macro, syntax, notation, axiom, sorry.
-/
import Derived.Test.YtjnhbegppjeafaaChecked
import GoSem.Claim
import GoSem.ClaimJoined
import GoSem.ClaimMapViews
import Derived.JoinedTies
import Derived.KernelRfl
namespace Go.Proofs.Ytjnhbegppjeafaa
/- THE CELL 'sum', in the pinned program and in every row, IS THE sha256 OF THE DUMP (.gsa) THAT YtjnhbegppjeafaaProg.lean LOADS. Nothing in Lean hashes anything: it is a label: what it is worth is what the hold of that sum in a sandbox is worth. -/
noncomputable def Try.pinned : Pinned := { name := "ytjnhbegppjeafaa", sum := "b04ca00ab94b2e48fadee69498690ca64808e7685a0c5b6f00dd18731bc2b855", checked := Try.checked }
namespace Rows
def none {H : Type} : Left H := { results := [], args := [] }

/-- 'laws.FnVictims': WHATEVER THE INPUT: true; the input reads as it did. -/
def fnVictimsSpec : ChangeSpec := { name := "fnVictims", fn := fun _ => fun
  | [d] => { results := [.lit (.bool true)], args := [d] }
  | _ => none }
def fnVictimsRow : OpenClaim := { program := "ytjnhbegppjeafaa", sum := "b04ca00ab94b2e48fadee69498690ca64808e7685a0c5b6f00dd18731bc2b855", func := "loop.example/g00015/laws.FnVictims", spec := "fnVictims", apart := false }
def FnVictimsSaid : Prop := fnVictimsRow.holds Try.pinned (OpenSpec.ofChange fnVictimsSpec)

/-- ITS FALSE NEIGHBOUR: 'it returns false'. Refute it at one input. -/
def fnVictimsWrong : ChangeSpec := { name := "fnVictims", fn := fun _ => fun
  | [d] => { results := [.lit (.bool false)], args := [d] }
  | _ => none }
def FnVictimsWrongFalsely : Prop := fnVictimsRow.holds Try.pinned (OpenSpec.ofChange fnVictimsWrong)

/-- 'laws.FnExactWaitVictim': WHATEVER THE INPUT: true; the input reads as it did. -/
def fnExactWaitVictimSpec : ChangeSpec := { name := "fnExactWaitVictim", fn := fun _ => fun
  | [d1, d2] => { results := [.lit (.bool true)], args := [d1, d2] }
  | _ => none }
def fnExactWaitVictimRow : OpenClaim := { program := "ytjnhbegppjeafaa", sum := "b04ca00ab94b2e48fadee69498690ca64808e7685a0c5b6f00dd18731bc2b855", func := "loop.example/g00015/laws.FnExactWaitVictim", spec := "fnExactWaitVictim", apart := false }
def FnExactWaitVictimSaid : Prop := fnExactWaitVictimRow.holds Try.pinned (OpenSpec.ofChange fnExactWaitVictimSpec)

/-- ITS FALSE NEIGHBOUR: 'it returns false'. Refute it at one input. -/
def fnExactWaitVictimWrong : ChangeSpec := { name := "fnExactWaitVictim", fn := fun _ => fun
  | [d1, d2] => { results := [.lit (.bool false)], args := [d1, d2] }
  | _ => none }
def FnExactWaitVictimWrongFalsely : Prop := fnExactWaitVictimRow.holds Try.pinned (OpenSpec.ofChange fnExactWaitVictimWrong)

/-- 'laws.FnLeases': WHATEVER THE INPUT: true; the input reads as it did. -/
def fnLeasesSpec : ChangeSpec := { name := "fnLeases", fn := fun _ => fun
  | [d] => { results := [.lit (.bool true)], args := [d] }
  | _ => none }
def fnLeasesRow : OpenClaim := { program := "ytjnhbegppjeafaa", sum := "b04ca00ab94b2e48fadee69498690ca64808e7685a0c5b6f00dd18731bc2b855", func := "loop.example/g00015/laws.FnLeases", spec := "fnLeases", apart := false }
def FnLeasesSaid : Prop := fnLeasesRow.holds Try.pinned (OpenSpec.ofChange fnLeasesSpec)

/-- ITS FALSE NEIGHBOUR: 'it returns false'. Refute it at one input. -/
def fnLeasesWrong : ChangeSpec := { name := "fnLeases", fn := fun _ => fun
  | [d] => { results := [.lit (.bool false)], args := [d] }
  | _ => none }
def FnLeasesWrongFalsely : Prop := fnLeasesRow.holds Try.pinned (OpenSpec.ofChange fnLeasesWrong)

/-- 'laws.FnExactLeaseRun': WHATEVER THE INPUT: true; the input reads as it did. -/
def fnExactLeaseRunSpec : ChangeSpec := { name := "fnExactLeaseRun", fn := fun _ => fun
  | [d] => { results := [.lit (.bool true)], args := [d] }
  | _ => none }
def fnExactLeaseRunRow : OpenClaim := { program := "ytjnhbegppjeafaa", sum := "b04ca00ab94b2e48fadee69498690ca64808e7685a0c5b6f00dd18731bc2b855", func := "loop.example/g00015/laws.FnExactLeaseRun", spec := "fnExactLeaseRun", apart := false }
def FnExactLeaseRunSaid : Prop := fnExactLeaseRunRow.holds Try.pinned (OpenSpec.ofChange fnExactLeaseRunSpec)

/-- ITS FALSE NEIGHBOUR: 'it returns false'. Refute it at one input. -/
def fnExactLeaseRunWrong : ChangeSpec := { name := "fnExactLeaseRun", fn := fun _ => fun
  | [d] => { results := [.lit (.bool false)], args := [d] }
  | _ => none }
def FnExactLeaseRunWrongFalsely : Prop := fnExactLeaseRunRow.holds Try.pinned (OpenSpec.ofChange fnExactLeaseRunWrong)

/-- 'laws.FnDoor': WHATEVER THE INPUT: true; the input reads as it did. -/
def fnDoorSpec : ChangeSpec := { name := "fnDoor", fn := fun _ => fun
  | [d] => { results := [.lit (.bool true)], args := [d] }
  | _ => none }
def fnDoorRow : OpenClaim := { program := "ytjnhbegppjeafaa", sum := "b04ca00ab94b2e48fadee69498690ca64808e7685a0c5b6f00dd18731bc2b855", func := "loop.example/g00015/laws.FnDoor", spec := "fnDoor", apart := false }
def FnDoorSaid : Prop := fnDoorRow.holds Try.pinned (OpenSpec.ofChange fnDoorSpec)

/-- ITS FALSE NEIGHBOUR: 'it returns false'. Refute it at one input. -/
def fnDoorWrong : ChangeSpec := { name := "fnDoor", fn := fun _ => fun
  | [d] => { results := [.lit (.bool false)], args := [d] }
  | _ => none }
def FnDoorWrongFalsely : Prop := fnDoorRow.holds Try.pinned (OpenSpec.ofChange fnDoorWrong)

/-- 'laws.FnExactAdmitRun': WHATEVER THE INPUT: true; the input reads as it did. -/
def fnExactAdmitRunSpec : ChangeSpec := { name := "fnExactAdmitRun", fn := fun _ => fun
  | [d1, d2, d3] => { results := [.lit (.bool true)], args := [d1, d2, d3] }
  | _ => none }
def fnExactAdmitRunRow : OpenClaim := { program := "ytjnhbegppjeafaa", sum := "b04ca00ab94b2e48fadee69498690ca64808e7685a0c5b6f00dd18731bc2b855", func := "loop.example/g00015/laws.FnExactAdmitRun", spec := "fnExactAdmitRun", apart := false }
def FnExactAdmitRunSaid : Prop := fnExactAdmitRunRow.holds Try.pinned (OpenSpec.ofChange fnExactAdmitRunSpec)

/-- ITS FALSE NEIGHBOUR: 'it returns false'. Refute it at one input. -/
def fnExactAdmitRunWrong : ChangeSpec := { name := "fnExactAdmitRun", fn := fun _ => fun
  | [d1, d2, d3] => { results := [.lit (.bool false)], args := [d1, d2, d3] }
  | _ => none }
def FnExactAdmitRunWrongFalsely : Prop := fnExactAdmitRunRow.holds Try.pinned (OpenSpec.ofChange fnExactAdmitRunWrong)

/- THE SECOND FORM. 'bulk': how many values and letters a reading holds, each counted each time it is reached (what is shared counts as often as it is met; a slice's spare places count too). A statement '..UptoSaid' is the law's where the arguments, and the package variables that the reading takes, are together of bulk at most 1048576: NARROWER than '..Said'. Prove '..Said' where nothing that the law and all that it calls make is longer than what came in: it says more and counts as full. Else prove '..UptoSaid'. A law counts once. -/
mutual
def uptoBulk {H : Type} : DataW H → Nat
  | .lit (.string bytes) => bytes.length + 1
  | .lit _ => 1
  | .nil => 1
  | .ptr d => uptoBulk d + 1
  | .slice elems spare => uptoBulkAll elems + uptoBulkAll spare + 1
  | .agg parts => uptoBulkAll parts + 1
  | .iface _ d => uptoBulk d + 1
  | .map entries => uptoBulkEntries entries + 1
  | .held _ => 1
def uptoBulkAll {H : Type} : List (DataW H) → Nat
  | [] => 0
  | d :: r => uptoBulk d + uptoBulkAll r
def uptoBulkEntries {H : Type} : List (Lit × DataW H) → Nat
  | [] => 0
  | x :: r => uptoBulkEntry x + uptoBulkEntries r
def uptoBulkEntry {H : Type} : Lit × DataW H → Nat
  | (.string bytes, d) => bytes.length + uptoBulk d + 1
  | (_, d) => uptoBulk d + 1
 end
def uptoSmall : (H : Type) → List (DataW H) → Bool := fun _ ds => decide (uptoBulkAll ds ≤ 1048576)
def OpenSpec.upto (s : _root_.Go.ChangeSpec) : _root_.Go.OpenSpec := { _root_.Go.OpenSpec.ofChange s with cond := some uptoSmall }

/-- 'laws.FnVictims', WHERE WHAT IT READS IS OF BULK AT MOST 1048576: true; the input reads as it did. -/
def fnVictimsUptoRow : OpenClaim := { program := "ytjnhbegppjeafaa", sum := "b04ca00ab94b2e48fadee69498690ca64808e7685a0c5b6f00dd18731bc2b855", func := "loop.example/g00015/laws.FnVictims", spec := "fnVictims", apart := false, narrowed := true }
def FnVictimsUptoSaid : Prop := fnVictimsUptoRow.holds Try.pinned (OpenSpec.upto fnVictimsSpec)

/-- 'laws.FnExactWaitVictim', WHERE WHAT IT READS IS OF BULK AT MOST 1048576: true; the input reads as it did. -/
def fnExactWaitVictimUptoRow : OpenClaim := { program := "ytjnhbegppjeafaa", sum := "b04ca00ab94b2e48fadee69498690ca64808e7685a0c5b6f00dd18731bc2b855", func := "loop.example/g00015/laws.FnExactWaitVictim", spec := "fnExactWaitVictim", apart := false, narrowed := true }
def FnExactWaitVictimUptoSaid : Prop := fnExactWaitVictimUptoRow.holds Try.pinned (OpenSpec.upto fnExactWaitVictimSpec)

/-- 'laws.FnLeases', WHERE WHAT IT READS IS OF BULK AT MOST 1048576: true; the input reads as it did. -/
def fnLeasesUptoRow : OpenClaim := { program := "ytjnhbegppjeafaa", sum := "b04ca00ab94b2e48fadee69498690ca64808e7685a0c5b6f00dd18731bc2b855", func := "loop.example/g00015/laws.FnLeases", spec := "fnLeases", apart := false, narrowed := true }
def FnLeasesUptoSaid : Prop := fnLeasesUptoRow.holds Try.pinned (OpenSpec.upto fnLeasesSpec)

/-- 'laws.FnExactLeaseRun', WHERE WHAT IT READS IS OF BULK AT MOST 1048576: true; the input reads as it did. -/
def fnExactLeaseRunUptoRow : OpenClaim := { program := "ytjnhbegppjeafaa", sum := "b04ca00ab94b2e48fadee69498690ca64808e7685a0c5b6f00dd18731bc2b855", func := "loop.example/g00015/laws.FnExactLeaseRun", spec := "fnExactLeaseRun", apart := false, narrowed := true }
def FnExactLeaseRunUptoSaid : Prop := fnExactLeaseRunUptoRow.holds Try.pinned (OpenSpec.upto fnExactLeaseRunSpec)

/-- 'laws.FnDoor', WHERE WHAT IT READS IS OF BULK AT MOST 1048576: true; the input reads as it did. -/
def fnDoorUptoRow : OpenClaim := { program := "ytjnhbegppjeafaa", sum := "b04ca00ab94b2e48fadee69498690ca64808e7685a0c5b6f00dd18731bc2b855", func := "loop.example/g00015/laws.FnDoor", spec := "fnDoor", apart := false, narrowed := true }
def FnDoorUptoSaid : Prop := fnDoorUptoRow.holds Try.pinned (OpenSpec.upto fnDoorSpec)

/-- 'laws.FnExactAdmitRun', WHERE WHAT IT READS IS OF BULK AT MOST 1048576: true; the input reads as it did. -/
def fnExactAdmitRunUptoRow : OpenClaim := { program := "ytjnhbegppjeafaa", sum := "b04ca00ab94b2e48fadee69498690ca64808e7685a0c5b6f00dd18731bc2b855", func := "loop.example/g00015/laws.FnExactAdmitRun", spec := "fnExactAdmitRun", apart := false, narrowed := true }
def FnExactAdmitRunUptoSaid : Prop := fnExactAdmitRunUptoRow.holds Try.pinned (OpenSpec.upto fnExactAdmitRunSpec)

end Rows
end Go.Proofs.Ytjnhbegppjeafaa
