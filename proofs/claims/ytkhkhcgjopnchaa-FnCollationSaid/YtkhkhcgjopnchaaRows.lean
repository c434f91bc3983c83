/-
  No cell of these rows narrows 'for every input' (looked for: loops, veiled, ifaces, maps, wideKeys, modest, calm, conditions, laid).
  DERIVED. THE GIVEN ROWS OF THIS SEAT. 6 by the template 'for every input the law returns true; each argument reads behind the call as it read before'; 0 by the template 'total and deterministic' (their statements: YtkhkhcgjopnchaaTotals.lean).
  GIVEN WITH THE SEED: the statements are not yours to turn. If you find one false, say at which input.
  Laid BY PROGRAM, IN A SANDBOX (cutbox-rows.mjs): the forced cells as the released guide's own fill.sh prints them over the translation 0eaae68c5a280b4c… (all of the seat's roots in one cut). By AI agents, Wed Nov 11 2026. No macro, syntax, notation, axiom, sorry.
-/
import Derived.Test.YtkhkhcgjopnchaaChecked
import GoSem.Claim
import GoSem.ClaimJoined
import GoSem.ClaimMapViews
import Derived.JoinedTies
import Derived.KernelRfl
namespace Go.Proofs.Ytkhkhcgjopnchaa
/- THE CELL 'sum', in the pinned program and in every row, IS THE sha256 OF THE DUMP (.gsa) THAT YtkhkhcgjopnchaaProg.lean LOADS. Nothing in Lean hashes anything: it is a label: what it is worth is what the hold of that sum in a sandbox is worth. -/
noncomputable def Try.pinned : Pinned := { name := "ytkhkhcgjopnchaa", sum := "0eaae68c5a280b4c36b0710b3763d838cb65a76adcf8ba4386756fc971f6647d", checked := Try.checked }
namespace Rows
def none {H : Type} : Left H := { results := [], args := [] }

/-- 'laws.FnExactDayOf': WHATEVER THE INPUT: true; the input reads as it did. -/
def fnExactDayOfSpec : ChangeSpec := { name := "fnExactDayOf", fn := fun _ => fun
  | [d1, d2, d3] => { results := [.lit (.bool true)], args := [d1, d2, d3] }
  | _ => none }
def fnExactDayOfRow : OpenClaim := { program := "ytkhkhcgjopnchaa", sum := "0eaae68c5a280b4c36b0710b3763d838cb65a76adcf8ba4386756fc971f6647d", func := "loop.example/g00015/laws.FnExactDayOf", spec := "fnExactDayOf", apart := false }
def FnExactDayOfSaid : Prop := fnExactDayOfRow.holds Try.pinned (OpenSpec.ofChange fnExactDayOfSpec)

/-- ITS FALSE NEIGHBOUR: 'it returns false'. Refute it at one input. -/
def fnExactDayOfWrong : ChangeSpec := { name := "fnExactDayOf", fn := fun _ => fun
  | [d1, d2, d3] => { results := [.lit (.bool false)], args := [d1, d2, d3] }
  | _ => none }
def FnExactDayOfWrongFalsely : Prop := fnExactDayOfRow.holds Try.pinned (OpenSpec.ofChange fnExactDayOfWrong)

/-- 'laws.FnExactDayParts': WHATEVER THE INPUT: true; the input reads as it did. -/
def fnExactDayPartsSpec : ChangeSpec := { name := "fnExactDayParts", fn := fun _ => fun
  | [d] => { results := [.lit (.bool true)], args := [d] }
  | _ => none }
def fnExactDayPartsRow : OpenClaim := { program := "ytkhkhcgjopnchaa", sum := "0eaae68c5a280b4c36b0710b3763d838cb65a76adcf8ba4386756fc971f6647d", func := "loop.example/g00015/laws.FnExactDayParts", spec := "fnExactDayParts", apart := false }
def FnExactDayPartsSaid : Prop := fnExactDayPartsRow.holds Try.pinned (OpenSpec.ofChange fnExactDayPartsSpec)

/-- ITS FALSE NEIGHBOUR: 'it returns false'. Refute it at one input. -/
def fnExactDayPartsWrong : ChangeSpec := { name := "fnExactDayParts", fn := fun _ => fun
  | [d] => { results := [.lit (.bool false)], args := [d] }
  | _ => none }
def FnExactDayPartsWrongFalsely : Prop := fnExactDayPartsRow.holds Try.pinned (OpenSpec.ofChange fnExactDayPartsWrong)

/-- 'laws.FnExactValueOK': WHATEVER THE INPUT: true; the input reads as it did. -/
def fnExactValueOKSpec : ChangeSpec := { name := "fnExactValueOK", fn := fun _ => fun
  | [d] => { results := [.lit (.bool true)], args := [d] }
  | _ => none }
def fnExactValueOKRow : OpenClaim := { program := "ytkhkhcgjopnchaa", sum := "0eaae68c5a280b4c36b0710b3763d838cb65a76adcf8ba4386756fc971f6647d", func := "loop.example/g00015/laws.FnExactValueOK", spec := "fnExactValueOK", apart := false }
def FnExactValueOKSaid : Prop := fnExactValueOKRow.holds Try.pinned (OpenSpec.ofChange fnExactValueOKSpec)

/-- ITS FALSE NEIGHBOUR: 'it returns false'. Refute it at one input. -/
def fnExactValueOKWrong : ChangeSpec := { name := "fnExactValueOK", fn := fun _ => fun
  | [d] => { results := [.lit (.bool false)], args := [d] }
  | _ => none }
def FnExactValueOKWrongFalsely : Prop := fnExactValueOKRow.holds Try.pinned (OpenSpec.ofChange fnExactValueOKWrong)

/-- 'laws.FnExactLogic': WHATEVER THE INPUT: true; the input reads as it did. -/
def fnExactLogicSpec : ChangeSpec := { name := "fnExactLogic", fn := fun _ => fun
  | [d1, d2, d3] => { results := [.lit (.bool true)], args := [d1, d2, d3] }
  | _ => none }
def fnExactLogicRow : OpenClaim := { program := "ytkhkhcgjopnchaa", sum := "0eaae68c5a280b4c36b0710b3763d838cb65a76adcf8ba4386756fc971f6647d", func := "loop.example/g00015/laws.FnExactLogic", spec := "fnExactLogic", unfollowed := true, recurses := true, apart := false }
def FnExactLogicSaid : Prop := fnExactLogicRow.holds Try.pinned (OpenSpec.ofChange fnExactLogicSpec)

/-- ITS FALSE NEIGHBOUR: 'it returns false'. Refute it at one input. -/
def fnExactLogicWrong : ChangeSpec := { name := "fnExactLogic", fn := fun _ => fun
  | [d1, d2, d3] => { results := [.lit (.bool false)], args := [d1, d2, d3] }
  | _ => none }
def FnExactLogicWrongFalsely : Prop := fnExactLogicRow.holds Try.pinned (OpenSpec.ofChange fnExactLogicWrong)

/-- 'laws.FnExactCompare': WHATEVER THE INPUT: true; the input reads as it did. -/
def fnExactCompareSpec : ChangeSpec := { name := "fnExactCompare", fn := fun _ => fun
  | [d1, d2, d3] => { results := [.lit (.bool true)], args := [d1, d2, d3] }
  | _ => none }
def fnExactCompareRow : OpenClaim := { program := "ytkhkhcgjopnchaa", sum := "0eaae68c5a280b4c36b0710b3763d838cb65a76adcf8ba4386756fc971f6647d", func := "loop.example/g00015/laws.FnExactCompare", spec := "fnExactCompare", inPlace := ["internal/bytealg.abigen_runtime_cmpstring"], apart := false }
def FnExactCompareSaid : Prop := fnExactCompareRow.holds Try.pinned (OpenSpec.ofChange fnExactCompareSpec)

/-- ITS FALSE NEIGHBOUR: 'it returns false'. Refute it at one input. -/
def fnExactCompareWrong : ChangeSpec := { name := "fnExactCompare", fn := fun _ => fun
  | [d1, d2, d3] => { results := [.lit (.bool false)], args := [d1, d2, d3] }
  | _ => none }
def FnExactCompareWrongFalsely : Prop := fnExactCompareRow.holds Try.pinned (OpenSpec.ofChange fnExactCompareWrong)

/-- 'laws.FnCollation': WHATEVER THE INPUT: true; the input reads as it did. -/
def fnCollationSpec : ChangeSpec := { name := "fnCollation", fn := fun _ => fun
  | [d1, d2] => { results := [.lit (.bool true)], args := [d1, d2] }
  | _ => none }
def fnCollationRow : OpenClaim := { program := "ytkhkhcgjopnchaa", sum := "0eaae68c5a280b4c36b0710b3763d838cb65a76adcf8ba4386756fc971f6647d", func := "loop.example/g00015/laws.FnCollation", spec := "fnCollation", inPlace := ["internal/bytealg.abigen_runtime_cmpstring"], apart := false }
def FnCollationSaid : Prop := fnCollationRow.holds Try.pinned (OpenSpec.ofChange fnCollationSpec)

/-- ITS FALSE NEIGHBOUR: 'it returns false'. Refute it at one input. -/
def fnCollationWrong : ChangeSpec := { name := "fnCollation", fn := fun _ => fun
  | [d1, d2] => { results := [.lit (.bool false)], args := [d1, d2] }
  | _ => none }
def FnCollationWrongFalsely : Prop := fnCollationRow.holds Try.pinned (OpenSpec.ofChange fnCollationWrong)

/- THE SECOND FORM. 'bulk': how many values and letters a reading holds, each counted each time it is reached (what is shared counts as often as it is met; a slice's spare places count too). A statement '..UptoSaid' is the law's where the arguments, and the package variables that the reading takes, are together of bulk at most 1048576: NARROWER than '..Said'. Prove '..Said' where nothing that the law and all that it calls make is longer than what came in: it says more and counts as full. Else prove '..UptoSaid'. A law counts once. -/
mutual
def uptoBulk {H : Type} : DataW H → Nat
  | .lit (.string bytes) => bytes.length + 1
  | .lit _ => 1
  | .nil => 1
  | .ptr d => uptoBulk d + 1
  | .slice elems spare => uptoBulkAll elems + uptoBulkAll spare + 1
  | .agg parts => uptoBulkAll parts + 1
  | .iface _ d => uptoBulk d + 1
  | .map entries => uptoBulkEntries entries + 1
  | .held _ => 1
def uptoBulkAll {H : Type} : List (DataW H) → Nat
  | [] => 0
  | d :: r => uptoBulk d + uptoBulkAll r
def uptoBulkEntries {H : Type} : List (Lit × DataW H) → Nat
  | [] => 0
  | x :: r => uptoBulkEntry x + uptoBulkEntries r
def uptoBulkEntry {H : Type} : Lit × DataW H → Nat
  | (.string bytes, d) => bytes.length + uptoBulk d + 1
  | (_, d) => uptoBulk d + 1
 end
def uptoSmall : (H : Type) → List (DataW H) → Bool := fun _ ds => decide (uptoBulkAll ds ≤ 1048576)
def OpenSpec.upto (s : _root_.Go.ChangeSpec) : _root_.Go.OpenSpec := { _root_.Go.OpenSpec.ofChange s with cond := some uptoSmall }

/-- 'laws.FnExactDayOf', WHERE WHAT IT READS IS OF BULK AT MOST 1048576: true; the input reads as it did. -/
def fnExactDayOfUptoRow : OpenClaim := { program := "ytkhkhcgjopnchaa", sum := "0eaae68c5a280b4c36b0710b3763d838cb65a76adcf8ba4386756fc971f6647d", func := "loop.example/g00015/laws.FnExactDayOf", spec := "fnExactDayOf", apart := false, narrowed := true }
def FnExactDayOfUptoSaid : Prop := fnExactDayOfUptoRow.holds Try.pinned (OpenSpec.upto fnExactDayOfSpec)

/-- 'laws.FnExactDayParts', WHERE WHAT IT READS IS OF BULK AT MOST 1048576: true; the input reads as it did. -/
def fnExactDayPartsUptoRow : OpenClaim := { program := "ytkhkhcgjopnchaa", sum := "0eaae68c5a280b4c36b0710b3763d838cb65a76adcf8ba4386756fc971f6647d", func := "loop.example/g00015/laws.FnExactDayParts", spec := "fnExactDayParts", apart := false, narrowed := true }
def FnExactDayPartsUptoSaid : Prop := fnExactDayPartsUptoRow.holds Try.pinned (OpenSpec.upto fnExactDayPartsSpec)

/-- 'laws.FnExactValueOK', WHERE WHAT IT READS IS OF BULK AT MOST 1048576: true; the input reads as it did. -/
def fnExactValueOKUptoRow : OpenClaim := { program := "ytkhkhcgjopnchaa", sum := "0eaae68c5a280b4c36b0710b3763d838cb65a76adcf8ba4386756fc971f6647d", func := "loop.example/g00015/laws.FnExactValueOK", spec := "fnExactValueOK", apart := false, narrowed := true }
def FnExactValueOKUptoSaid : Prop := fnExactValueOKUptoRow.holds Try.pinned (OpenSpec.upto fnExactValueOKSpec)

/-- 'laws.FnExactLogic', WHERE WHAT IT READS IS OF BULK AT MOST 1048576: true; the input reads as it did. -/
def fnExactLogicUptoRow : OpenClaim := { program := "ytkhkhcgjopnchaa", sum := "0eaae68c5a280b4c36b0710b3763d838cb65a76adcf8ba4386756fc971f6647d", func := "loop.example/g00015/laws.FnExactLogic", spec := "fnExactLogic", unfollowed := true, recurses := true, apart := false, narrowed := true }
def FnExactLogicUptoSaid : Prop := fnExactLogicUptoRow.holds Try.pinned (OpenSpec.upto fnExactLogicSpec)

/-- 'laws.FnExactCompare', WHERE WHAT IT READS IS OF BULK AT MOST 1048576: true; the input reads as it did. -/
def fnExactCompareUptoRow : OpenClaim := { program := "ytkhkhcgjopnchaa", sum := "0eaae68c5a280b4c36b0710b3763d838cb65a76adcf8ba4386756fc971f6647d", func := "loop.example/g00015/laws.FnExactCompare", spec := "fnExactCompare", inPlace := ["internal/bytealg.abigen_runtime_cmpstring"], apart := false, narrowed := true }
def FnExactCompareUptoSaid : Prop := fnExactCompareUptoRow.holds Try.pinned (OpenSpec.upto fnExactCompareSpec)

/-- 'laws.FnCollation', WHERE WHAT IT READS IS OF BULK AT MOST 1048576: true; the input reads as it did. -/
def fnCollationUptoRow : OpenClaim := { program := "ytkhkhcgjopnchaa", sum := "0eaae68c5a280b4c36b0710b3763d838cb65a76adcf8ba4386756fc971f6647d", func := "loop.example/g00015/laws.FnCollation", spec := "fnCollation", inPlace := ["internal/bytealg.abigen_runtime_cmpstring"], apart := false, narrowed := true }
def FnCollationUptoSaid : Prop := fnCollationUptoRow.holds Try.pinned (OpenSpec.upto fnCollationSpec)

end Rows
end Go.Proofs.Ytkhkhcgjopnchaa
