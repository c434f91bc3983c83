/-
  No cell of these rows narrows 'for every input' (looked for: loops, veiled, ifaces, maps, wideKeys, modest, calm, conditions, laid).
  DERIVED. THE GIVEN ROWS OF THIS SEAT. 3 by the template 'for every input the law returns true; each argument reads behind the call as it read before'; 0 by the template 'total and deterministic' (their statements: YtiolnbhcmoafjaaTotals.lean).
  GIVEN WITH THE SEED: the statements are not yours to turn. If you find one false, say at which input.
  Laid BY PROGRAM, IN A SANDBOX (cutbox-rows.mjs): the forced cells as the released guide's own fill.sh prints them over the translation 3066443e70a5749e… (all of the seat's roots in one cut). By AI agents, Wed Nov 11 2026. No macro, syntax, notation, axiom, sorry.
-/
import Derived.Test.YtiolnbhcmoafjaaChecked
import GoSem.Claim
import GoSem.ClaimJoined
import GoSem.ClaimMapViews
import Derived.JoinedTies
import Derived.KernelRfl
namespace Go.Proofs.Ytiolnbhcmoafjaa
/- THE CELL 'sum', in the pinned program and in every row, IS THE sha256 OF THE DUMP (.gsa) THAT YtiolnbhcmoafjaaProg.lean LOADS. Nothing in Lean hashes anything: it is a label: what it is worth is what the hold of that sum in a sandbox is worth. -/
noncomputable def Try.pinned : Pinned := { name := "ytiolnbhcmoafjaa", sum := "3066443e70a5749efd395fb17f9c2a7ff061cdd13ecc0f9cb1b7771318687050", checked := Try.checked }
namespace Rows
def none {H : Type} : Left H := { results := [], args := [] }

/-- 'laws.FnExactClockRun': WHATEVER THE INPUT: true; the input reads as it did. -/
def fnExactClockRunSpec : ChangeSpec := { name := "fnExactClockRun", fn := fun _ => fun
  | [d1, d2] => { results := [.lit (.bool true)], args := [d1, d2] }
  | _ => none }
def fnExactClockRunRow : OpenClaim := { program := "ytiolnbhcmoafjaa", sum := "3066443e70a5749efd395fb17f9c2a7ff061cdd13ecc0f9cb1b7771318687050", func := "loop.example/g00015/laws.FnExactClockRun", spec := "fnExactClockRun", unfollowed := true, recurses := true, apart := false }
def FnExactClockRunSaid : Prop := fnExactClockRunRow.holds Try.pinned (OpenSpec.ofChange fnExactClockRunSpec)

/-- ITS FALSE NEIGHBOUR: 'it returns false'. Refute it at one input. -/
def fnExactClockRunWrong : ChangeSpec := { name := "fnExactClockRun", fn := fun _ => fun
  | [d1, d2] => { results := [.lit (.bool false)], args := [d1, d2] }
  | _ => none }
def FnExactClockRunWrongFalsely : Prop := fnExactClockRunRow.holds Try.pinned (OpenSpec.ofChange fnExactClockRunWrong)

/-- 'laws.FnClocks': WHATEVER THE INPUT: true; the input reads as it did. -/
def fnClocksSpec : ChangeSpec := { name := "fnClocks", fn := fun _ => fun
  | [d] => { results := [.lit (.bool true)], args := [d] }
  | _ => none }
def fnClocksRow : OpenClaim := { program := "ytiolnbhcmoafjaa", sum := "3066443e70a5749efd395fb17f9c2a7ff061cdd13ecc0f9cb1b7771318687050", func := "loop.example/g00015/laws.FnClocks", spec := "fnClocks", unfollowed := true, recurses := true, apart := false }
def FnClocksSaid : Prop := fnClocksRow.holds Try.pinned (OpenSpec.ofChange fnClocksSpec)

/-- ITS FALSE NEIGHBOUR: 'it returns false'. Refute it at one input. -/
def fnClocksWrong : ChangeSpec := { name := "fnClocks", fn := fun _ => fun
  | [d] => { results := [.lit (.bool false)], args := [d] }
  | _ => none }
def FnClocksWrongFalsely : Prop := fnClocksRow.holds Try.pinned (OpenSpec.ofChange fnClocksWrong)

/-- 'laws.FnExactTableOK': WHATEVER THE INPUT: true; the input reads as it did. -/
def fnExactTableOKSpec : ChangeSpec := { name := "fnExactTableOK", fn := fun _ => fun
  | [d] => { results := [.lit (.bool true)], args := [d] }
  | _ => none }
def fnExactTableOKRow : OpenClaim := { program := "ytiolnbhcmoafjaa", sum := "3066443e70a5749efd395fb17f9c2a7ff061cdd13ecc0f9cb1b7771318687050", func := "loop.example/g00015/laws.FnExactTableOK", spec := "fnExactTableOK", inPlace := ["internal/bytealg.IndexByteString", "internal/bytealg.IndexString"], unfollowed := true, recurses := true, named := ["internal/bytealg.MaxLen"], apart := false }
def FnExactTableOKSaid : Prop := fnExactTableOKRow.holds Try.pinned (OpenSpec.ofChange fnExactTableOKSpec)

/-- ITS FALSE NEIGHBOUR: 'it returns false'. Refute it at one input. -/
def fnExactTableOKWrong : ChangeSpec := { name := "fnExactTableOK", fn := fun _ => fun
  | [d] => { results := [.lit (.bool false)], args := [d] }
  | _ => none }
def FnExactTableOKWrongFalsely : Prop := fnExactTableOKRow.holds Try.pinned (OpenSpec.ofChange fnExactTableOKWrong)

/- THE SECOND FORM. 'bulk': how many values and letters a reading holds, each counted each time it is reached (what is shared counts as often as it is met; a slice's spare places count too). A statement '..UptoSaid' is the law's where the arguments, and the package variables that the reading takes, are together of bulk at most 1048576: NARROWER than '..Said'. Prove '..Said' where nothing that the law and all that it calls make is longer than what came in: it says more and counts as full. Else prove '..UptoSaid'. A law counts once. -/
mutual
def uptoBulk {H : Type} : DataW H → Nat
  | .lit (.string bytes) => bytes.length + 1
  | .lit _ => 1
  | .nil => 1
  | .ptr d => uptoBulk d + 1
  | .slice elems spare => uptoBulkAll elems + uptoBulkAll spare + 1
  | .agg parts => uptoBulkAll parts + 1
  | .iface _ d => uptoBulk d + 1
  | .map entries => uptoBulkEntries entries + 1
  | .held _ => 1
def uptoBulkAll {H : Type} : List (DataW H) → Nat
  | [] => 0
  | d :: r => uptoBulk d + uptoBulkAll r
def uptoBulkEntries {H : Type} : List (Lit × DataW H) → Nat
  | [] => 0
  | x :: r => uptoBulkEntry x + uptoBulkEntries r
def uptoBulkEntry {H : Type} : Lit × DataW H → Nat
  | (.string bytes, d) => bytes.length + uptoBulk d + 1
  | (_, d) => uptoBulk d + 1
 end
def uptoSmall : (H : Type) → List (DataW H) → Bool := fun _ ds => decide (uptoBulkAll ds ≤ 1048576)
def OpenSpec.upto (s : _root_.Go.ChangeSpec) : _root_.Go.OpenSpec := { _root_.Go.OpenSpec.ofChange s with cond := some uptoSmall }

/-- 'laws.FnExactClockRun', WHERE WHAT IT READS IS OF BULK AT MOST 1048576: true; the input reads as it did. -/
def fnExactClockRunUptoRow : OpenClaim := { program := "ytiolnbhcmoafjaa", sum := "3066443e70a5749efd395fb17f9c2a7ff061cdd13ecc0f9cb1b7771318687050", func := "loop.example/g00015/laws.FnExactClockRun", spec := "fnExactClockRun", unfollowed := true, recurses := true, apart := false, narrowed := true }
def FnExactClockRunUptoSaid : Prop := fnExactClockRunUptoRow.holds Try.pinned (OpenSpec.upto fnExactClockRunSpec)

/-- 'laws.FnClocks', WHERE WHAT IT READS IS OF BULK AT MOST 1048576: true; the input reads as it did. -/
def fnClocksUptoRow : OpenClaim := { program := "ytiolnbhcmoafjaa", sum := "3066443e70a5749efd395fb17f9c2a7ff061cdd13ecc0f9cb1b7771318687050", func := "loop.example/g00015/laws.FnClocks", spec := "fnClocks", unfollowed := true, recurses := true, apart := false, narrowed := true }
def FnClocksUptoSaid : Prop := fnClocksUptoRow.holds Try.pinned (OpenSpec.upto fnClocksSpec)

/-- 'laws.FnExactTableOK', WHERE WHAT IT READS IS OF BULK AT MOST 1048576: true; the input reads as it did. -/
def fnExactTableOKUptoRow : OpenClaim := { program := "ytiolnbhcmoafjaa", sum := "3066443e70a5749efd395fb17f9c2a7ff061cdd13ecc0f9cb1b7771318687050", func := "loop.example/g00015/laws.FnExactTableOK", spec := "fnExactTableOK", inPlace := ["internal/bytealg.IndexByteString", "internal/bytealg.IndexString"], unfollowed := true, recurses := true, named := ["internal/bytealg.MaxLen"], apart := false, narrowed := true }
def FnExactTableOKUptoSaid : Prop := fnExactTableOKUptoRow.holds Try.pinned (OpenSpec.upto fnExactTableOKSpec)

end Rows
end Go.Proofs.Ytiolnbhcmoafjaa
