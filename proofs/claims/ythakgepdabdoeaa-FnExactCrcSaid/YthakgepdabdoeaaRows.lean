/-
  No cell of these rows narrows 'for every input' (looked for: loops, veiled, ifaces, maps, wideKeys, modest, calm, conditions, laid).
  DERIVED. THE GIVEN ROWS OF THIS SEAT. 8 by the template 'for every input the law returns true; each argument reads behind the call as it read before'; 0 by the template 'total and deterministic' (their statements: YthakgepdabdoeaaTotals.lean).
  GIVEN WITH THE SEED: the statements are not yours to turn. If you find one false, say at which input.
  Laid BY PROGRAM, IN A SANDBOX (cutbox-rows.mjs): the forced cells as the released guide's own fill.sh prints them over the translation a11bbe4e299432c0… (all of the seat's roots in one cut). By AI agents, Wed Nov 11 2026. No macro, syntax, notation, axiom, sorry.
-/
import Derived.Test.YthakgepdabdoeaaChecked
import GoSem.Claim
import GoSem.ClaimJoined
import GoSem.ClaimMapViews
import Derived.JoinedTies
import Derived.KernelRfl
namespace Go.Proofs.Ythakgepdabdoeaa
/- THE CELL 'sum', in the pinned program and in every row, IS THE sha256 OF THE DUMP (.gsa) THAT YthakgepdabdoeaaProg.lean LOADS. Nothing in Lean hashes anything: it is a label: what it is worth is what the hold of that sum in a sandbox is worth. -/
noncomputable def Try.pinned : Pinned := { name := "ythakgepdabdoeaa", sum := "a11bbe4e299432c0867a2fbe30dfbac00d19e6a6067dee4755de0ac4ff36dab2", checked := Try.checked }
namespace Rows
def none {H : Type} : Left H := { results := [], args := [] }

/-- 'laws.FnExactConstants': WHATEVER THE INPUT: true; the input reads as it did. -/
def fnExactConstantsSpec : ChangeSpec := { name := "fnExactConstants", fn := fun _ => fun
  | [] => { results := [.lit (.bool true)], args := [] }
  | _ => none }
def fnExactConstantsRow : OpenClaim := { program := "ythakgepdabdoeaa", sum := "a11bbe4e299432c0867a2fbe30dfbac00d19e6a6067dee4755de0ac4ff36dab2", func := "loop.example/g00015/laws.FnExactConstants", spec := "fnExactConstants", apart := false }
def FnExactConstantsSaid : Prop := fnExactConstantsRow.holds Try.pinned (OpenSpec.ofChange fnExactConstantsSpec)

/-- ITS FALSE NEIGHBOUR: 'it returns false'. Refute it at one input. -/
def fnExactConstantsWrong : ChangeSpec := { name := "fnExactConstants", fn := fun _ => fun
  | [] => { results := [.lit (.bool false)], args := [] }
  | _ => none }
def FnExactConstantsWrongFalsely : Prop := fnExactConstantsRow.holds Try.pinned (OpenSpec.ofChange fnExactConstantsWrong)

/-- 'laws.FnExactTimeOK': WHATEVER THE INPUT: true; the input reads as it did. -/
def fnExactTimeOKSpec : ChangeSpec := { name := "fnExactTimeOK", fn := fun _ => fun
  | [d] => { results := [.lit (.bool true)], args := [d] }
  | _ => none }
def fnExactTimeOKRow : OpenClaim := { program := "ythakgepdabdoeaa", sum := "a11bbe4e299432c0867a2fbe30dfbac00d19e6a6067dee4755de0ac4ff36dab2", func := "loop.example/g00015/laws.FnExactTimeOK", spec := "fnExactTimeOK", apart := false }
def FnExactTimeOKSaid : Prop := fnExactTimeOKRow.holds Try.pinned (OpenSpec.ofChange fnExactTimeOKSpec)

/-- ITS FALSE NEIGHBOUR: 'it returns false'. Refute it at one input. -/
def fnExactTimeOKWrong : ChangeSpec := { name := "fnExactTimeOK", fn := fun _ => fun
  | [d] => { results := [.lit (.bool false)], args := [d] }
  | _ => none }
def FnExactTimeOKWrongFalsely : Prop := fnExactTimeOKRow.holds Try.pinned (OpenSpec.ofChange fnExactTimeOKWrong)

/-- 'laws.FnExactCrc': WHATEVER THE INPUT: true; the input reads as it did. -/
def fnExactCrcSpec : ChangeSpec := { name := "fnExactCrc", fn := fun _ => fun
  | [d] => { results := [.lit (.bool true)], args := [d] }
  | _ => none }
def fnExactCrcRow : OpenClaim := { program := "ythakgepdabdoeaa", sum := "a11bbe4e299432c0867a2fbe30dfbac00d19e6a6067dee4755de0ac4ff36dab2", func := "loop.example/g00015/laws.FnExactCrc", spec := "fnExactCrc", apart := false }
def FnExactCrcSaid : Prop := fnExactCrcRow.holds Try.pinned (OpenSpec.ofChange fnExactCrcSpec)

/-- ITS FALSE NEIGHBOUR: 'it returns false'. Refute it at one input. -/
def fnExactCrcWrong : ChangeSpec := { name := "fnExactCrc", fn := fun _ => fun
  | [d] => { results := [.lit (.bool false)], args := [d] }
  | _ => none }
def FnExactCrcWrongFalsely : Prop := fnExactCrcRow.holds Try.pinned (OpenSpec.ofChange fnExactCrcWrong)

/-- 'laws.FnExactCollOK': WHATEVER THE INPUT: true; the input reads as it did. -/
def fnExactCollOKSpec : ChangeSpec := { name := "fnExactCollOK", fn := fun _ => fun
  | [d] => { results := [.lit (.bool true)], args := [d] }
  | _ => none }
def fnExactCollOKRow : OpenClaim := { program := "ythakgepdabdoeaa", sum := "a11bbe4e299432c0867a2fbe30dfbac00d19e6a6067dee4755de0ac4ff36dab2", func := "loop.example/g00015/laws.FnExactCollOK", spec := "fnExactCollOK", apart := false }
def FnExactCollOKSaid : Prop := fnExactCollOKRow.holds Try.pinned (OpenSpec.ofChange fnExactCollOKSpec)

/-- ITS FALSE NEIGHBOUR: 'it returns false'. Refute it at one input. -/
def fnExactCollOKWrong : ChangeSpec := { name := "fnExactCollOK", fn := fun _ => fun
  | [d] => { results := [.lit (.bool false)], args := [d] }
  | _ => none }
def FnExactCollOKWrongFalsely : Prop := fnExactCollOKRow.holds Try.pinned (OpenSpec.ofChange fnExactCollOKWrong)

/-- 'laws.FnExactTimeCompare': WHATEVER THE INPUT: true; the input reads as it did. -/
def fnExactTimeCompareSpec : ChangeSpec := { name := "fnExactTimeCompare", fn := fun _ => fun
  | [d1, d2] => { results := [.lit (.bool true)], args := [d1, d2] }
  | _ => none }
def fnExactTimeCompareRow : OpenClaim := { program := "ythakgepdabdoeaa", sum := "a11bbe4e299432c0867a2fbe30dfbac00d19e6a6067dee4755de0ac4ff36dab2", func := "loop.example/g00015/laws.FnExactTimeCompare", spec := "fnExactTimeCompare", apart := false }
def FnExactTimeCompareSaid : Prop := fnExactTimeCompareRow.holds Try.pinned (OpenSpec.ofChange fnExactTimeCompareSpec)

/-- ITS FALSE NEIGHBOUR: 'it returns false'. Refute it at one input. -/
def fnExactTimeCompareWrong : ChangeSpec := { name := "fnExactTimeCompare", fn := fun _ => fun
  | [d1, d2] => { results := [.lit (.bool false)], args := [d1, d2] }
  | _ => none }
def FnExactTimeCompareWrongFalsely : Prop := fnExactTimeCompareRow.holds Try.pinned (OpenSpec.ofChange fnExactTimeCompareWrong)

/-- 'laws.FnExactTimeNext': WHATEVER THE INPUT: true; the input reads as it did. -/
def fnExactTimeNextSpec : ChangeSpec := { name := "fnExactTimeNext", fn := fun _ => fun
  | [d] => { results := [.lit (.bool true)], args := [d] }
  | _ => none }
def fnExactTimeNextRow : OpenClaim := { program := "ythakgepdabdoeaa", sum := "a11bbe4e299432c0867a2fbe30dfbac00d19e6a6067dee4755de0ac4ff36dab2", func := "loop.example/g00015/laws.FnExactTimeNext", spec := "fnExactTimeNext", apart := false }
def FnExactTimeNextSaid : Prop := fnExactTimeNextRow.holds Try.pinned (OpenSpec.ofChange fnExactTimeNextSpec)

/-- ITS FALSE NEIGHBOUR: 'it returns false'. Refute it at one input. -/
def fnExactTimeNextWrong : ChangeSpec := { name := "fnExactTimeNext", fn := fun _ => fun
  | [d] => { results := [.lit (.bool false)], args := [d] }
  | _ => none }
def FnExactTimeNextWrongFalsely : Prop := fnExactTimeNextRow.holds Try.pinned (OpenSpec.ofChange fnExactTimeNextWrong)

/-- 'laws.FnExactClockNow': WHATEVER THE INPUT: true; the input reads as it did. -/
def fnExactClockNowSpec : ChangeSpec := { name := "fnExactClockNow", fn := fun _ => fun
  | [d1, d2] => { results := [.lit (.bool true)], args := [d1, d2] }
  | _ => none }
def fnExactClockNowRow : OpenClaim := { program := "ythakgepdabdoeaa", sum := "a11bbe4e299432c0867a2fbe30dfbac00d19e6a6067dee4755de0ac4ff36dab2", func := "loop.example/g00015/laws.FnExactClockNow", spec := "fnExactClockNow", apart := false }
def FnExactClockNowSaid : Prop := fnExactClockNowRow.holds Try.pinned (OpenSpec.ofChange fnExactClockNowSpec)

/-- ITS FALSE NEIGHBOUR: 'it returns false'. Refute it at one input. -/
def fnExactClockNowWrong : ChangeSpec := { name := "fnExactClockNow", fn := fun _ => fun
  | [d1, d2] => { results := [.lit (.bool false)], args := [d1, d2] }
  | _ => none }
def FnExactClockNowWrongFalsely : Prop := fnExactClockNowRow.holds Try.pinned (OpenSpec.ofChange fnExactClockNowWrong)

/-- 'laws.FnExactClockSee': WHATEVER THE INPUT: true; the input reads as it did. -/
def fnExactClockSeeSpec : ChangeSpec := { name := "fnExactClockSee", fn := fun _ => fun
  | [d1, d2, d3] => { results := [.lit (.bool true)], args := [d1, d2, d3] }
  | _ => none }
def fnExactClockSeeRow : OpenClaim := { program := "ythakgepdabdoeaa", sum := "a11bbe4e299432c0867a2fbe30dfbac00d19e6a6067dee4755de0ac4ff36dab2", func := "loop.example/g00015/laws.FnExactClockSee", spec := "fnExactClockSee", apart := false }
def FnExactClockSeeSaid : Prop := fnExactClockSeeRow.holds Try.pinned (OpenSpec.ofChange fnExactClockSeeSpec)

/-- ITS FALSE NEIGHBOUR: 'it returns false'. Refute it at one input. -/
def fnExactClockSeeWrong : ChangeSpec := { name := "fnExactClockSee", fn := fun _ => fun
  | [d1, d2, d3] => { results := [.lit (.bool false)], args := [d1, d2, d3] }
  | _ => none }
def FnExactClockSeeWrongFalsely : Prop := fnExactClockSeeRow.holds Try.pinned (OpenSpec.ofChange fnExactClockSeeWrong)

/- THE SECOND FORM. 'bulk': how many values and letters a reading holds, each counted each time it is reached (what is shared counts as often as it is met; a slice's spare places count too). A statement '..UptoSaid' is the law's where the arguments, and the package variables that the reading takes, are together of bulk at most 1048576: NARROWER than '..Said'. Prove '..Said' where nothing that the law and all that it calls make is longer than what came in: it says more and counts as full. Else prove '..UptoSaid'. A law counts once. -/
mutual
def uptoBulk {H : Type} : DataW H → Nat
  | .lit (.string bytes) => bytes.length + 1
  | .lit _ => 1
  | .nil => 1
  | .ptr d => uptoBulk d + 1
  | .slice elems spare => uptoBulkAll elems + uptoBulkAll spare + 1
  | .agg parts => uptoBulkAll parts + 1
  | .iface _ d => uptoBulk d + 1
  | .map entries => uptoBulkEntries entries + 1
  | .held _ => 1
def uptoBulkAll {H : Type} : List (DataW H) → Nat
  | [] => 0
  | d :: r => uptoBulk d + uptoBulkAll r
def uptoBulkEntries {H : Type} : List (Lit × DataW H) → Nat
  | [] => 0
  | x :: r => uptoBulkEntry x + uptoBulkEntries r
def uptoBulkEntry {H : Type} : Lit × DataW H → Nat
  | (.string bytes, d) => bytes.length + uptoBulk d + 1
  | (_, d) => uptoBulk d + 1
 end
def uptoSmall : (H : Type) → List (DataW H) → Bool := fun _ ds => decide (uptoBulkAll ds ≤ 1048576)
def OpenSpec.upto (s : _root_.Go.ChangeSpec) : _root_.Go.OpenSpec := { _root_.Go.OpenSpec.ofChange s with cond := some uptoSmall }

/-- 'laws.FnExactConstants', WHERE WHAT IT READS IS OF BULK AT MOST 1048576: true; the input reads as it did. -/
def fnExactConstantsUptoRow : OpenClaim := { program := "ythakgepdabdoeaa", sum := "a11bbe4e299432c0867a2fbe30dfbac00d19e6a6067dee4755de0ac4ff36dab2", func := "loop.example/g00015/laws.FnExactConstants", spec := "fnExactConstants", apart := false, narrowed := true }
def FnExactConstantsUptoSaid : Prop := fnExactConstantsUptoRow.holds Try.pinned (OpenSpec.upto fnExactConstantsSpec)

/-- 'laws.FnExactTimeOK', WHERE WHAT IT READS IS OF BULK AT MOST 1048576: true; the input reads as it did. -/
def fnExactTimeOKUptoRow : OpenClaim := { program := "ythakgepdabdoeaa", sum := "a11bbe4e299432c0867a2fbe30dfbac00d19e6a6067dee4755de0ac4ff36dab2", func := "loop.example/g00015/laws.FnExactTimeOK", spec := "fnExactTimeOK", apart := false, narrowed := true }
def FnExactTimeOKUptoSaid : Prop := fnExactTimeOKUptoRow.holds Try.pinned (OpenSpec.upto fnExactTimeOKSpec)

/-- 'laws.FnExactCrc', WHERE WHAT IT READS IS OF BULK AT MOST 1048576: true; the input reads as it did. -/
def fnExactCrcUptoRow : OpenClaim := { program := "ythakgepdabdoeaa", sum := "a11bbe4e299432c0867a2fbe30dfbac00d19e6a6067dee4755de0ac4ff36dab2", func := "loop.example/g00015/laws.FnExactCrc", spec := "fnExactCrc", apart := false, narrowed := true }
def FnExactCrcUptoSaid : Prop := fnExactCrcUptoRow.holds Try.pinned (OpenSpec.upto fnExactCrcSpec)

/-- 'laws.FnExactCollOK', WHERE WHAT IT READS IS OF BULK AT MOST 1048576: true; the input reads as it did. -/
def fnExactCollOKUptoRow : OpenClaim := { program := "ythakgepdabdoeaa", sum := "a11bbe4e299432c0867a2fbe30dfbac00d19e6a6067dee4755de0ac4ff36dab2", func := "loop.example/g00015/laws.FnExactCollOK", spec := "fnExactCollOK", apart := false, narrowed := true }
def FnExactCollOKUptoSaid : Prop := fnExactCollOKUptoRow.holds Try.pinned (OpenSpec.upto fnExactCollOKSpec)

/-- 'laws.FnExactTimeCompare', WHERE WHAT IT READS IS OF BULK AT MOST 1048576: true; the input reads as it did. -/
def fnExactTimeCompareUptoRow : OpenClaim := { program := "ythakgepdabdoeaa", sum := "a11bbe4e299432c0867a2fbe30dfbac00d19e6a6067dee4755de0ac4ff36dab2", func := "loop.example/g00015/laws.FnExactTimeCompare", spec := "fnExactTimeCompare", apart := false, narrowed := true }
def FnExactTimeCompareUptoSaid : Prop := fnExactTimeCompareUptoRow.holds Try.pinned (OpenSpec.upto fnExactTimeCompareSpec)

/-- 'laws.FnExactTimeNext', WHERE WHAT IT READS IS OF BULK AT MOST 1048576: true; the input reads as it did. -/
def fnExactTimeNextUptoRow : OpenClaim := { program := "ythakgepdabdoeaa", sum := "a11bbe4e299432c0867a2fbe30dfbac00d19e6a6067dee4755de0ac4ff36dab2", func := "loop.example/g00015/laws.FnExactTimeNext", spec := "fnExactTimeNext", apart := false, narrowed := true }
def FnExactTimeNextUptoSaid : Prop := fnExactTimeNextUptoRow.holds Try.pinned (OpenSpec.upto fnExactTimeNextSpec)

/-- 'laws.FnExactClockNow', WHERE WHAT IT READS IS OF BULK AT MOST 1048576: true; the input reads as it did. -/
def fnExactClockNowUptoRow : OpenClaim := { program := "ythakgepdabdoeaa", sum := "a11bbe4e299432c0867a2fbe30dfbac00d19e6a6067dee4755de0ac4ff36dab2", func := "loop.example/g00015/laws.FnExactClockNow", spec := "fnExactClockNow", apart := false, narrowed := true }
def FnExactClockNowUptoSaid : Prop := fnExactClockNowUptoRow.holds Try.pinned (OpenSpec.upto fnExactClockNowSpec)

/-- 'laws.FnExactClockSee', WHERE WHAT IT READS IS OF BULK AT MOST 1048576: true; the input reads as it did. -/
def fnExactClockSeeUptoRow : OpenClaim := { program := "ythakgepdabdoeaa", sum := "a11bbe4e299432c0867a2fbe30dfbac00d19e6a6067dee4755de0ac4ff36dab2", func := "loop.example/g00015/laws.FnExactClockSee", spec := "fnExactClockSee", apart := false, narrowed := true }
def FnExactClockSeeUptoSaid : Prop := fnExactClockSeeUptoRow.holds Try.pinned (OpenSpec.upto fnExactClockSeeSpec)

end Rows
end Go.Proofs.Ythakgepdabdoeaa
