/-
  No cell of these rows narrows 'for every input' (looked for: loops, veiled, ifaces, maps, wideKeys, modest, calm, conditions, laid).
  DERIVED. THE GIVEN ROWS OF THIS SEAT. 6 by the template 'for every input the law returns true; each argument reads behind the call as it read before'; 0 by the template 'total and deterministic' (their statements: YtdgleppagokjhaaTotals.lean).
  GIVEN WITH THE SEED: the statements are not yours to turn. If you find one false, say at which input.
  Laid BY PROGRAM, IN A SANDBOX (cutbox-rows.mjs): the forced cells as the released guide's own fill.sh prints them over the translation 756f51c39e0ae362… (all of the seat's roots in one cut). By AI agents, Wed Nov 11 2026. No macro, syntax, notation, axiom, sorry.
-/
import Derived.Test.YtdgleppagokjhaaChecked
import GoSem.Claim
import GoSem.ClaimJoined
import GoSem.ClaimMapViews
import Derived.JoinedTies
import Derived.KernelRfl
namespace Go.Proofs.Ytdgleppagokjhaa
/- THE CELL 'sum', in the pinned program and in every row, IS THE sha256 OF THE DUMP (.gsa) THAT YtdgleppagokjhaaProg.lean LOADS. Nothing in Lean hashes anything: it is a label: what it is worth is what the hold of that sum in a sandbox is worth. -/
noncomputable def Try.pinned : Pinned := { name := "ytdgleppagokjhaa", sum := "756f51c39e0ae36281b511f090013e55c035d83fd39ed19a8a8fda0970ec2dc0", checked := Try.checked }
namespace Rows
def none {H : Type} : Left H := { results := [], args := [] }

/-- 'laws.FnExactRangesOK': WHATEVER THE INPUT: true; the input reads as it did. -/
def fnExactRangesOKSpec : ChangeSpec := { name := "fnExactRangesOK", fn := fun _ => fun
  | [d] => { results := [.lit (.bool true)], args := [d] }
  | _ => none }
def fnExactRangesOKRow : OpenClaim := { program := "ytdgleppagokjhaa", sum := "756f51c39e0ae36281b511f090013e55c035d83fd39ed19a8a8fda0970ec2dc0", func := "loop.example/g00015/laws.FnExactRangesOK", spec := "fnExactRangesOK", apart := false }
def FnExactRangesOKSaid : Prop := fnExactRangesOKRow.holds Try.pinned (OpenSpec.ofChange fnExactRangesOKSpec)

/-- ITS FALSE NEIGHBOUR: 'it returns false'. Refute it at one input. -/
def fnExactRangesOKWrong : ChangeSpec := { name := "fnExactRangesOK", fn := fun _ => fun
  | [d] => { results := [.lit (.bool false)], args := [d] }
  | _ => none }
def FnExactRangesOKWrongFalsely : Prop := fnExactRangesOKRow.holds Try.pinned (OpenSpec.ofChange fnExactRangesOKWrong)

/-- 'laws.FnExactRangeFind': WHATEVER THE INPUT: true; the input reads as it did. -/
def fnExactRangeFindSpec : ChangeSpec := { name := "fnExactRangeFind", fn := fun _ => fun
  | [d1, d2] => { results := [.lit (.bool true)], args := [d1, d2] }
  | _ => none }
def fnExactRangeFindRow : OpenClaim := { program := "ytdgleppagokjhaa", sum := "756f51c39e0ae36281b511f090013e55c035d83fd39ed19a8a8fda0970ec2dc0", func := "loop.example/g00015/laws.FnExactRangeFind", spec := "fnExactRangeFind", apart := false }
def FnExactRangeFindSaid : Prop := fnExactRangeFindRow.holds Try.pinned (OpenSpec.ofChange fnExactRangeFindSpec)

/-- ITS FALSE NEIGHBOUR: 'it returns false'. Refute it at one input. -/
def fnExactRangeFindWrong : ChangeSpec := { name := "fnExactRangeFind", fn := fun _ => fun
  | [d1, d2] => { results := [.lit (.bool false)], args := [d1, d2] }
  | _ => none }
def FnExactRangeFindWrongFalsely : Prop := fnExactRangeFindRow.holds Try.pinned (OpenSpec.ofChange fnExactRangeFindWrong)

/-- 'laws.FnExactRangeSpan': WHATEVER THE INPUT: true; the input reads as it did. -/
def fnExactRangeSpanSpec : ChangeSpec := { name := "fnExactRangeSpan", fn := fun _ => fun
  | [d1, d2, d3] => { results := [.lit (.bool true)], args := [d1, d2, d3] }
  | _ => none }
def fnExactRangeSpanRow : OpenClaim := { program := "ytdgleppagokjhaa", sum := "756f51c39e0ae36281b511f090013e55c035d83fd39ed19a8a8fda0970ec2dc0", func := "loop.example/g00015/laws.FnExactRangeSpan", spec := "fnExactRangeSpan", apart := false }
def FnExactRangeSpanSaid : Prop := fnExactRangeSpanRow.holds Try.pinned (OpenSpec.ofChange fnExactRangeSpanSpec)

/-- ITS FALSE NEIGHBOUR: 'it returns false'. Refute it at one input. -/
def fnExactRangeSpanWrong : ChangeSpec := { name := "fnExactRangeSpan", fn := fun _ => fun
  | [d1, d2, d3] => { results := [.lit (.bool false)], args := [d1, d2, d3] }
  | _ => none }
def FnExactRangeSpanWrongFalsely : Prop := fnExactRangeSpanRow.holds Try.pinned (OpenSpec.ofChange fnExactRangeSpanWrong)

/-- 'laws.FnExactRangeStep': WHATEVER THE INPUT: true; the input reads as it did. -/
def fnExactRangeStepSpec : ChangeSpec := { name := "fnExactRangeStep", fn := fun _ => fun
  | [d1, d2] => { results := [.lit (.bool true)], args := [d1, d2] }
  | _ => none }
def fnExactRangeStepRow : OpenClaim := { program := "ytdgleppagokjhaa", sum := "756f51c39e0ae36281b511f090013e55c035d83fd39ed19a8a8fda0970ec2dc0", func := "loop.example/g00015/laws.FnExactRangeStep", spec := "fnExactRangeStep", unfollowed := true, recurses := true, apart := false }
def FnExactRangeStepSaid : Prop := fnExactRangeStepRow.holds Try.pinned (OpenSpec.ofChange fnExactRangeStepSpec)

/-- ITS FALSE NEIGHBOUR: 'it returns false'. Refute it at one input. -/
def fnExactRangeStepWrong : ChangeSpec := { name := "fnExactRangeStep", fn := fun _ => fun
  | [d1, d2] => { results := [.lit (.bool false)], args := [d1, d2] }
  | _ => none }
def FnExactRangeStepWrongFalsely : Prop := fnExactRangeStepRow.holds Try.pinned (OpenSpec.ofChange fnExactRangeStepWrong)

/-- 'laws.FnRangeCover': WHATEVER THE INPUT: true; the input reads as it did. -/
def fnRangeCoverSpec : ChangeSpec := { name := "fnRangeCover", fn := fun _ => fun
  | [d1, d2] => { results := [.lit (.bool true)], args := [d1, d2] }
  | _ => none }
def fnRangeCoverRow : OpenClaim := { program := "ytdgleppagokjhaa", sum := "756f51c39e0ae36281b511f090013e55c035d83fd39ed19a8a8fda0970ec2dc0", func := "loop.example/g00015/laws.FnRangeCover", spec := "fnRangeCover", unfollowed := true, recurses := true, apart := false }
def FnRangeCoverSaid : Prop := fnRangeCoverRow.holds Try.pinned (OpenSpec.ofChange fnRangeCoverSpec)

/-- ITS FALSE NEIGHBOUR: 'it returns false'. Refute it at one input. -/
def fnRangeCoverWrong : ChangeSpec := { name := "fnRangeCover", fn := fun _ => fun
  | [d1, d2] => { results := [.lit (.bool false)], args := [d1, d2] }
  | _ => none }
def FnRangeCoverWrongFalsely : Prop := fnRangeCoverRow.holds Try.pinned (OpenSpec.ofChange fnRangeCoverWrong)

/-- 'laws.FnPlanEven': WHATEVER THE INPUT: true; the input reads as it did. -/
def fnPlanEvenSpec : ChangeSpec := { name := "fnPlanEven", fn := fun _ => fun
  | [d] => { results := [.lit (.bool true)], args := [d] }
  | _ => none }
def fnPlanEvenRow : OpenClaim := { program := "ytdgleppagokjhaa", sum := "756f51c39e0ae36281b511f090013e55c035d83fd39ed19a8a8fda0970ec2dc0", func := "loop.example/g00015/laws.FnPlanEven", spec := "fnPlanEven", unfollowed := true, recurses := true, apart := false }
def FnPlanEvenSaid : Prop := fnPlanEvenRow.holds Try.pinned (OpenSpec.ofChange fnPlanEvenSpec)

/-- ITS FALSE NEIGHBOUR: 'it returns false'. Refute it at one input. -/
def fnPlanEvenWrong : ChangeSpec := { name := "fnPlanEven", fn := fun _ => fun
  | [d] => { results := [.lit (.bool false)], args := [d] }
  | _ => none }
def FnPlanEvenWrongFalsely : Prop := fnPlanEvenRow.holds Try.pinned (OpenSpec.ofChange fnPlanEvenWrong)

/- THE SECOND FORM. 'bulk': how many values and letters a reading holds, each counted each time it is reached (what is shared counts as often as it is met; a slice's spare places count too). A statement '..UptoSaid' is the law's where the arguments, and the package variables that the reading takes, are together of bulk at most 1048576: NARROWER than '..Said'. Prove '..Said' where nothing that the law and all that it calls make is longer than what came in: it says more and counts as full. Else prove '..UptoSaid'. A law counts once. -/
mutual
def uptoBulk {H : Type} : DataW H → Nat
  | .lit (.string bytes) => bytes.length + 1
  | .lit _ => 1
  | .nil => 1
  | .ptr d => uptoBulk d + 1
  | .slice elems spare => uptoBulkAll elems + uptoBulkAll spare + 1
  | .agg parts => uptoBulkAll parts + 1
  | .iface _ d => uptoBulk d + 1
  | .map entries => uptoBulkEntries entries + 1
  | .held _ => 1
def uptoBulkAll {H : Type} : List (DataW H) → Nat
  | [] => 0
  | d :: r => uptoBulk d + uptoBulkAll r
def uptoBulkEntries {H : Type} : List (Lit × DataW H) → Nat
  | [] => 0
  | x :: r => uptoBulkEntry x + uptoBulkEntries r
def uptoBulkEntry {H : Type} : Lit × DataW H → Nat
  | (.string bytes, d) => bytes.length + uptoBulk d + 1
  | (_, d) => uptoBulk d + 1
 end
def uptoSmall : (H : Type) → List (DataW H) → Bool := fun _ ds => decide (uptoBulkAll ds ≤ 1048576)
def OpenSpec.upto (s : _root_.Go.ChangeSpec) : _root_.Go.OpenSpec := { _root_.Go.OpenSpec.ofChange s with cond := some uptoSmall }

/-- 'laws.FnExactRangesOK', WHERE WHAT IT READS IS OF BULK AT MOST 1048576: true; the input reads as it did. -/
def fnExactRangesOKUptoRow : OpenClaim := { program := "ytdgleppagokjhaa", sum := "756f51c39e0ae36281b511f090013e55c035d83fd39ed19a8a8fda0970ec2dc0", func := "loop.example/g00015/laws.FnExactRangesOK", spec := "fnExactRangesOK", apart := false, narrowed := true }
def FnExactRangesOKUptoSaid : Prop := fnExactRangesOKUptoRow.holds Try.pinned (OpenSpec.upto fnExactRangesOKSpec)

/-- 'laws.FnExactRangeFind', WHERE WHAT IT READS IS OF BULK AT MOST 1048576: true; the input reads as it did. -/
def fnExactRangeFindUptoRow : OpenClaim := { program := "ytdgleppagokjhaa", sum := "756f51c39e0ae36281b511f090013e55c035d83fd39ed19a8a8fda0970ec2dc0", func := "loop.example/g00015/laws.FnExactRangeFind", spec := "fnExactRangeFind", apart := false, narrowed := true }
def FnExactRangeFindUptoSaid : Prop := fnExactRangeFindUptoRow.holds Try.pinned (OpenSpec.upto fnExactRangeFindSpec)

/-- 'laws.FnExactRangeSpan', WHERE WHAT IT READS IS OF BULK AT MOST 1048576: true; the input reads as it did. -/
def fnExactRangeSpanUptoRow : OpenClaim := { program := "ytdgleppagokjhaa", sum := "756f51c39e0ae36281b511f090013e55c035d83fd39ed19a8a8fda0970ec2dc0", func := "loop.example/g00015/laws.FnExactRangeSpan", spec := "fnExactRangeSpan", apart := false, narrowed := true }
def FnExactRangeSpanUptoSaid : Prop := fnExactRangeSpanUptoRow.holds Try.pinned (OpenSpec.upto fnExactRangeSpanSpec)

/-- 'laws.FnExactRangeStep', WHERE WHAT IT READS IS OF BULK AT MOST 1048576: true; the input reads as it did. -/
def fnExactRangeStepUptoRow : OpenClaim := { program := "ytdgleppagokjhaa", sum := "756f51c39e0ae36281b511f090013e55c035d83fd39ed19a8a8fda0970ec2dc0", func := "loop.example/g00015/laws.FnExactRangeStep", spec := "fnExactRangeStep", unfollowed := true, recurses := true, apart := false, narrowed := true }
def FnExactRangeStepUptoSaid : Prop := fnExactRangeStepUptoRow.holds Try.pinned (OpenSpec.upto fnExactRangeStepSpec)

/-- 'laws.FnRangeCover', WHERE WHAT IT READS IS OF BULK AT MOST 1048576: true; the input reads as it did. -/
def fnRangeCoverUptoRow : OpenClaim := { program := "ytdgleppagokjhaa", sum := "756f51c39e0ae36281b511f090013e55c035d83fd39ed19a8a8fda0970ec2dc0", func := "loop.example/g00015/laws.FnRangeCover", spec := "fnRangeCover", unfollowed := true, recurses := true, apart := false, narrowed := true }
def FnRangeCoverUptoSaid : Prop := fnRangeCoverUptoRow.holds Try.pinned (OpenSpec.upto fnRangeCoverSpec)

/-- 'laws.FnPlanEven', WHERE WHAT IT READS IS OF BULK AT MOST 1048576: true; the input reads as it did. -/
def fnPlanEvenUptoRow : OpenClaim := { program := "ytdgleppagokjhaa", sum := "756f51c39e0ae36281b511f090013e55c035d83fd39ed19a8a8fda0970ec2dc0", func := "loop.example/g00015/laws.FnPlanEven", spec := "fnPlanEven", unfollowed := true, recurses := true, apart := false, narrowed := true }
def FnPlanEvenUptoSaid : Prop := fnPlanEvenUptoRow.holds Try.pinned (OpenSpec.upto fnPlanEvenSpec)

end Rows
end Go.Proofs.Ytdgleppagokjhaa
