/-
  No cell of these rows narrows 'for every input' (looked for: loops, veiled, ifaces, maps, wideKeys, modest, calm, conditions, laid).
  DERIVED. THE GIVEN ROWS OF THIS SEAT. 5 by the template 'for every input the law returns true; each argument reads behind the call as it read before'; 0 by the template 'total and deterministic' (their statements: YtnicllekmkkhlaaTotals.lean).
  GIVEN WITH THE SEED: the statements are not yours to turn. If you find one false, say at which input.
  Laid BY PROGRAM, IN A SANDBOX (cutbox-rows.mjs): the forced cells as the released guide's own fill.sh prints them over the translation 02b4ef686a903b75… (all of the seat's roots in one cut). By AI agents, Wed Nov 11 2026. No macro, syntax, notation, axiom, sorry.
-/
import Derived.Test.YtnicllekmkkhlaaChecked
import GoSem.Claim
import GoSem.ClaimJoined
import GoSem.ClaimMapViews
import Derived.JoinedTies
import Derived.KernelRfl
namespace Go.Proofs.Ytnicllekmkkhlaa
/- THE CELL 'sum', in the pinned program and in every row, IS THE sha256 OF THE DUMP (.gsa) THAT YtnicllekmkkhlaaProg.lean LOADS. Nothing in Lean hashes anything: it is a label: what it is worth is what the hold of that sum in a sandbox is worth. -/
noncomputable def Try.pinned : Pinned := { name := "ytnicllekmkkhlaa", sum := "02b4ef686a903b758679c5ecf8732041a1c2ed93a1cf2da7c19d88ab60c8f67f", checked := Try.checked }
namespace Rows
def none {H : Type} : Left H := { results := [], args := [] }

/-- 'laws.FnExactFilterHas': WHATEVER THE INPUT: true; the input reads as it did. -/
def fnExactFilterHasSpec : ChangeSpec := { name := "fnExactFilterHas", fn := fun _ => fun
  | [d1, d2] => { results := [.lit (.bool true)], args := [d1, d2] }
  | _ => none }
def fnExactFilterHasRow : OpenClaim := { program := "ytnicllekmkkhlaa", sum := "02b4ef686a903b758679c5ecf8732041a1c2ed93a1cf2da7c19d88ab60c8f67f", func := "loop.example/g00015/laws.FnExactFilterHas", spec := "fnExactFilterHas", apart := false }
def FnExactFilterHasSaid : Prop := fnExactFilterHasRow.holds Try.pinned (OpenSpec.ofChange fnExactFilterHasSpec)

/-- ITS FALSE NEIGHBOUR: 'it returns false'. Refute it at one input. -/
def fnExactFilterHasWrong : ChangeSpec := { name := "fnExactFilterHas", fn := fun _ => fun
  | [d1, d2] => { results := [.lit (.bool false)], args := [d1, d2] }
  | _ => none }
def FnExactFilterHasWrongFalsely : Prop := fnExactFilterHasRow.holds Try.pinned (OpenSpec.ofChange fnExactFilterHasWrong)

/-- 'laws.FnExactFilterMake': WHATEVER THE INPUT: true; the input reads as it did. -/
def fnExactFilterMakeSpec : ChangeSpec := { name := "fnExactFilterMake", fn := fun _ => fun
  | [d] => { results := [.lit (.bool true)], args := [d] }
  | _ => none }
def fnExactFilterMakeRow : OpenClaim := { program := "ytnicllekmkkhlaa", sum := "02b4ef686a903b758679c5ecf8732041a1c2ed93a1cf2da7c19d88ab60c8f67f", func := "loop.example/g00015/laws.FnExactFilterMake", spec := "fnExactFilterMake", apart := false }
def FnExactFilterMakeSaid : Prop := fnExactFilterMakeRow.holds Try.pinned (OpenSpec.ofChange fnExactFilterMakeSpec)

/-- ITS FALSE NEIGHBOUR: 'it returns false'. Refute it at one input. -/
def fnExactFilterMakeWrong : ChangeSpec := { name := "fnExactFilterMake", fn := fun _ => fun
  | [d] => { results := [.lit (.bool false)], args := [d] }
  | _ => none }
def FnExactFilterMakeWrongFalsely : Prop := fnExactFilterMakeRow.holds Try.pinned (OpenSpec.ofChange fnExactFilterMakeWrong)

/-- 'laws.FnExactLogPack': WHATEVER THE INPUT: true; the input reads as it did. -/
def fnExactLogPackSpec : ChangeSpec := { name := "fnExactLogPack", fn := fun _ => fun
  | [d1, d2] => { results := [.lit (.bool true)], args := [d1, d2] }
  | _ => none }
def fnExactLogPackRow : OpenClaim := { program := "ytnicllekmkkhlaa", sum := "02b4ef686a903b758679c5ecf8732041a1c2ed93a1cf2da7c19d88ab60c8f67f", func := "loop.example/g00015/laws.FnExactLogPack", spec := "fnExactLogPack", inPlace := ["internal/abi.NoEscape"], apart := false }
def FnExactLogPackSaid : Prop := fnExactLogPackRow.holds Try.pinned (OpenSpec.ofChange fnExactLogPackSpec)

/-- ITS FALSE NEIGHBOUR: 'it returns false'. Refute it at one input. -/
def fnExactLogPackWrong : ChangeSpec := { name := "fnExactLogPack", fn := fun _ => fun
  | [d1, d2] => { results := [.lit (.bool false)], args := [d1, d2] }
  | _ => none }
def FnExactLogPackWrongFalsely : Prop := fnExactLogPackRow.holds Try.pinned (OpenSpec.ofChange fnExactLogPackWrong)

/-- 'laws.FnLogCut': WHATEVER THE INPUT: true; the input reads as it did. -/
def fnLogCutSpec : ChangeSpec := { name := "fnLogCut", fn := fun _ => fun
  | [d1, d2] => { results := [.lit (.bool true)], args := [d1, d2] }
  | _ => none }
def fnLogCutRow : OpenClaim := { program := "ytnicllekmkkhlaa", sum := "02b4ef686a903b758679c5ecf8732041a1c2ed93a1cf2da7c19d88ab60c8f67f", func := "loop.example/g00015/laws.FnLogCut", spec := "fnLogCut", inPlace := ["internal/abi.NoEscape"], apart := false }
def FnLogCutSaid : Prop := fnLogCutRow.holds Try.pinned (OpenSpec.ofChange fnLogCutSpec)

/-- ITS FALSE NEIGHBOUR: 'it returns false'. Refute it at one input. -/
def fnLogCutWrong : ChangeSpec := { name := "fnLogCut", fn := fun _ => fun
  | [d1, d2] => { results := [.lit (.bool false)], args := [d1, d2] }
  | _ => none }
def FnLogCutWrongFalsely : Prop := fnLogCutRow.holds Try.pinned (OpenSpec.ofChange fnLogCutWrong)

/-- 'laws.FnDiskSafe': WHATEVER THE INPUT: true; the input reads as it did. -/
def fnDiskSafeSpec : ChangeSpec := { name := "fnDiskSafe", fn := fun _ => fun
  | [d] => { results := [.lit (.bool true)], args := [d] }
  | _ => none }
def fnDiskSafeRow : OpenClaim := { program := "ytnicllekmkkhlaa", sum := "02b4ef686a903b758679c5ecf8732041a1c2ed93a1cf2da7c19d88ab60c8f67f", func := "loop.example/g00015/laws.FnDiskSafe", spec := "fnDiskSafe", apart := false }
def FnDiskSafeSaid : Prop := fnDiskSafeRow.holds Try.pinned (OpenSpec.ofChange fnDiskSafeSpec)

/-- ITS FALSE NEIGHBOUR: 'it returns false'. Refute it at one input. -/
def fnDiskSafeWrong : ChangeSpec := { name := "fnDiskSafe", fn := fun _ => fun
  | [d] => { results := [.lit (.bool false)], args := [d] }
  | _ => none }
def FnDiskSafeWrongFalsely : Prop := fnDiskSafeRow.holds Try.pinned (OpenSpec.ofChange fnDiskSafeWrong)

/- THE SECOND FORM. 'bulk': how many values and letters a reading holds, each counted each time it is reached (what is shared counts as often as it is met; a slice's spare places count too). A statement '..UptoSaid' is the law's where the arguments, and the package variables that the reading takes, are together of bulk at most 1048576: NARROWER than '..Said'. Prove '..Said' where nothing that the law and all that it calls make is longer than what came in: it says more and counts as full. Else prove '..UptoSaid'. A law counts once. -/
mutual
def uptoBulk {H : Type} : DataW H → Nat
  | .lit (.string bytes) => bytes.length + 1
  | .lit _ => 1
  | .nil => 1
  | .ptr d => uptoBulk d + 1
  | .slice elems spare => uptoBulkAll elems + uptoBulkAll spare + 1
  | .agg parts => uptoBulkAll parts + 1
  | .iface _ d => uptoBulk d + 1
  | .map entries => uptoBulkEntries entries + 1
  | .held _ => 1
def uptoBulkAll {H : Type} : List (DataW H) → Nat
  | [] => 0
  | d :: r => uptoBulk d + uptoBulkAll r
def uptoBulkEntries {H : Type} : List (Lit × DataW H) → Nat
  | [] => 0
  | x :: r => uptoBulkEntry x + uptoBulkEntries r
def uptoBulkEntry {H : Type} : Lit × DataW H → Nat
  | (.string bytes, d) => bytes.length + uptoBulk d + 1
  | (_, d) => uptoBulk d + 1
 end
def uptoSmall : (H : Type) → List (DataW H) → Bool := fun _ ds => decide (uptoBulkAll ds ≤ 1048576)
def OpenSpec.upto (s : _root_.Go.ChangeSpec) : _root_.Go.OpenSpec := { _root_.Go.OpenSpec.ofChange s with cond := some uptoSmall }

/-- 'laws.FnExactFilterHas', WHERE WHAT IT READS IS OF BULK AT MOST 1048576: true; the input reads as it did. -/
def fnExactFilterHasUptoRow : OpenClaim := { program := "ytnicllekmkkhlaa", sum := "02b4ef686a903b758679c5ecf8732041a1c2ed93a1cf2da7c19d88ab60c8f67f", func := "loop.example/g00015/laws.FnExactFilterHas", spec := "fnExactFilterHas", apart := false, narrowed := true }
def FnExactFilterHasUptoSaid : Prop := fnExactFilterHasUptoRow.holds Try.pinned (OpenSpec.upto fnExactFilterHasSpec)

/-- 'laws.FnExactFilterMake', WHERE WHAT IT READS IS OF BULK AT MOST 1048576: true; the input reads as it did. -/
def fnExactFilterMakeUptoRow : OpenClaim := { program := "ytnicllekmkkhlaa", sum := "02b4ef686a903b758679c5ecf8732041a1c2ed93a1cf2da7c19d88ab60c8f67f", func := "loop.example/g00015/laws.FnExactFilterMake", spec := "fnExactFilterMake", apart := false, narrowed := true }
def FnExactFilterMakeUptoSaid : Prop := fnExactFilterMakeUptoRow.holds Try.pinned (OpenSpec.upto fnExactFilterMakeSpec)

/-- 'laws.FnExactLogPack', WHERE WHAT IT READS IS OF BULK AT MOST 1048576: true; the input reads as it did. -/
def fnExactLogPackUptoRow : OpenClaim := { program := "ytnicllekmkkhlaa", sum := "02b4ef686a903b758679c5ecf8732041a1c2ed93a1cf2da7c19d88ab60c8f67f", func := "loop.example/g00015/laws.FnExactLogPack", spec := "fnExactLogPack", inPlace := ["internal/abi.NoEscape"], apart := false, narrowed := true }
def FnExactLogPackUptoSaid : Prop := fnExactLogPackUptoRow.holds Try.pinned (OpenSpec.upto fnExactLogPackSpec)

/-- 'laws.FnLogCut', WHERE WHAT IT READS IS OF BULK AT MOST 1048576: true; the input reads as it did. -/
def fnLogCutUptoRow : OpenClaim := { program := "ytnicllekmkkhlaa", sum := "02b4ef686a903b758679c5ecf8732041a1c2ed93a1cf2da7c19d88ab60c8f67f", func := "loop.example/g00015/laws.FnLogCut", spec := "fnLogCut", inPlace := ["internal/abi.NoEscape"], apart := false, narrowed := true }
def FnLogCutUptoSaid : Prop := fnLogCutUptoRow.holds Try.pinned (OpenSpec.upto fnLogCutSpec)

/-- 'laws.FnDiskSafe', WHERE WHAT IT READS IS OF BULK AT MOST 1048576: true; the input reads as it did. -/
def fnDiskSafeUptoRow : OpenClaim := { program := "ytnicllekmkkhlaa", sum := "02b4ef686a903b758679c5ecf8732041a1c2ed93a1cf2da7c19d88ab60c8f67f", func := "loop.example/g00015/laws.FnDiskSafe", spec := "fnDiskSafe", apart := false, narrowed := true }
def FnDiskSafeUptoSaid : Prop := fnDiskSafeUptoRow.holds Try.pinned (OpenSpec.upto fnDiskSafeSpec)

end Rows
end Go.Proofs.Ytnicllekmkkhlaa
