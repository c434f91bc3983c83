/-
  No cell of these rows narrows 'for every input' (looked for: loops, veiled, ifaces, maps, wideKeys, modest, calm, conditions, laid).
  DERIVED. THE GIVEN ROWS OF THIS SEAT. 3 by the template 'for every input the law returns true; each argument reads behind the call as it read before'; 0 by the template 'total and deterministic' (their statements: YtjplogeifleojaaTotals.lean).
  GIVEN WITH THE SEED: the statements are not yours to turn. If you find one false, say at which input.
  Laid BY PROGRAM, IN A SANDBOX (cutbox-rows.mjs): the forced cells as the released guide's own fill.sh prints them over the translation 25da938108c9bfdc… (all of the seat's roots in one cut). By AI agents, Wed Nov 11 2026. No macro, syntax, notation, axiom, sorry.
-/
import Derived.Test.YtjplogeifleojaaChecked
import GoSem.Claim
import GoSem.ClaimJoined
import GoSem.ClaimMapViews
import Derived.JoinedTies
import Derived.KernelRfl
namespace Go.Proofs.Ytjplogeifleojaa
/- THE CELL 'sum', in the pinned program and in every row, IS THE sha256 OF THE DUMP (.gsa) THAT YtjplogeifleojaaProg.lean LOADS. Nothing in Lean hashes anything: it is a label: what it is worth is what the hold of that sum in a sandbox is worth. -/
noncomputable def Try.pinned : Pinned := { name := "ytjplogeifleojaa", sum := "25da938108c9bfdcd719528f299ee240a901990b87b8a601d4a2b5327624cced", checked := Try.checked }
namespace Rows
def none {H : Type} : Left H := { results := [], args := [] }

/-- 'laws.FnExactKeyBytes': WHATEVER THE INPUT: true; the input reads as it did. -/
def fnExactKeyBytesSpec : ChangeSpec := { name := "fnExactKeyBytes", fn := fun _ => fun
  | [d] => { results := [.lit (.bool true)], args := [d] }
  | _ => none }
def fnExactKeyBytesRow : OpenClaim := { program := "ytjplogeifleojaa", sum := "25da938108c9bfdcd719528f299ee240a901990b87b8a601d4a2b5327624cced", func := "loop.example/g00015/laws.FnExactKeyBytes", spec := "fnExactKeyBytes", inPlace := ["internal/abi.NoEscape"], apart := false }
def FnExactKeyBytesSaid : Prop := fnExactKeyBytesRow.holds Try.pinned (OpenSpec.ofChange fnExactKeyBytesSpec)

/-- ITS FALSE NEIGHBOUR: 'it returns false'. Refute it at one input. -/
def fnExactKeyBytesWrong : ChangeSpec := { name := "fnExactKeyBytes", fn := fun _ => fun
  | [d] => { results := [.lit (.bool false)], args := [d] }
  | _ => none }
def FnExactKeyBytesWrongFalsely : Prop := fnExactKeyBytesRow.holds Try.pinned (OpenSpec.ofChange fnExactKeyBytesWrong)

/-- 'laws.FnExactKeyValues': WHATEVER THE INPUT: true; the input reads as it did. -/
def fnExactKeyValuesSpec : ChangeSpec := { name := "fnExactKeyValues", fn := fun _ => fun
  | [d] => { results := [.lit (.bool true)], args := [d] }
  | _ => none }
def fnExactKeyValuesRow : OpenClaim := { program := "ytjplogeifleojaa", sum := "25da938108c9bfdcd719528f299ee240a901990b87b8a601d4a2b5327624cced", func := "loop.example/g00015/laws.FnExactKeyValues", spec := "fnExactKeyValues", inPlace := ["internal/bytealg.IndexByteString", "internal/abi.NoEscape"], apart := false }
def FnExactKeyValuesSaid : Prop := fnExactKeyValuesRow.holds Try.pinned (OpenSpec.ofChange fnExactKeyValuesSpec)

/-- ITS FALSE NEIGHBOUR: 'it returns false'. Refute it at one input. -/
def fnExactKeyValuesWrong : ChangeSpec := { name := "fnExactKeyValues", fn := fun _ => fun
  | [d] => { results := [.lit (.bool false)], args := [d] }
  | _ => none }
def FnExactKeyValuesWrongFalsely : Prop := fnExactKeyValuesRow.holds Try.pinned (OpenSpec.ofChange fnExactKeyValuesWrong)

/-- 'laws.FnKeyOrder': WHATEVER THE INPUT: true; the input reads as it did. -/
def fnKeyOrderSpec : ChangeSpec := { name := "fnKeyOrder", fn := fun _ => fun
  | [d1, d2] => { results := [.lit (.bool true)], args := [d1, d2] }
  | _ => none }
def fnKeyOrderRow : OpenClaim := { program := "ytjplogeifleojaa", sum := "25da938108c9bfdcd719528f299ee240a901990b87b8a601d4a2b5327624cced", func := "loop.example/g00015/laws.FnKeyOrder", spec := "fnKeyOrder", inPlace := ["internal/abi.NoEscape", "internal/bytealg.abigen_runtime_cmpstring"], apart := false }
def FnKeyOrderSaid : Prop := fnKeyOrderRow.holds Try.pinned (OpenSpec.ofChange fnKeyOrderSpec)

/-- ITS FALSE NEIGHBOUR: 'it returns false'. Refute it at one input. -/
def fnKeyOrderWrong : ChangeSpec := { name := "fnKeyOrder", fn := fun _ => fun
  | [d1, d2] => { results := [.lit (.bool false)], args := [d1, d2] }
  | _ => none }
def FnKeyOrderWrongFalsely : Prop := fnKeyOrderRow.holds Try.pinned (OpenSpec.ofChange fnKeyOrderWrong)

/- THE SECOND FORM. 'bulk': how many values and letters a reading holds, each counted each time it is reached (what is shared counts as often as it is met; a slice's spare places count too). A statement '..UptoSaid' is the law's where the arguments, and the package variables that the reading takes, are together of bulk at most 1048576: NARROWER than '..Said'. Prove '..Said' where nothing that the law and all that it calls make is longer than what came in: it says more and counts as full. Else prove '..UptoSaid'. A law counts once. -/
mutual
def uptoBulk {H : Type} : DataW H → Nat
  | .lit (.string bytes) => bytes.length + 1
  | .lit _ => 1
  | .nil => 1
  | .ptr d => uptoBulk d + 1
  | .slice elems spare => uptoBulkAll elems + uptoBulkAll spare + 1
  | .agg parts => uptoBulkAll parts + 1
  | .iface _ d => uptoBulk d + 1
  | .map entries => uptoBulkEntries entries + 1
  | .held _ => 1
def uptoBulkAll {H : Type} : List (DataW H) → Nat
  | [] => 0
  | d :: r => uptoBulk d + uptoBulkAll r
def uptoBulkEntries {H : Type} : List (Lit × DataW H) → Nat
  | [] => 0
  | x :: r => uptoBulkEntry x + uptoBulkEntries r
def uptoBulkEntry {H : Type} : Lit × DataW H → Nat
  | (.string bytes, d) => bytes.length + uptoBulk d + 1
  | (_, d) => uptoBulk d + 1
 end
def uptoSmall : (H : Type) → List (DataW H) → Bool := fun _ ds => decide (uptoBulkAll ds ≤ 1048576)
def OpenSpec.upto (s : _root_.Go.ChangeSpec) : _root_.Go.OpenSpec := { _root_.Go.OpenSpec.ofChange s with cond := some uptoSmall }

/-- 'laws.FnExactKeyBytes', WHERE WHAT IT READS IS OF BULK AT MOST 1048576: true; the input reads as it did. -/
def fnExactKeyBytesUptoRow : OpenClaim := { program := "ytjplogeifleojaa", sum := "25da938108c9bfdcd719528f299ee240a901990b87b8a601d4a2b5327624cced", func := "loop.example/g00015/laws.FnExactKeyBytes", spec := "fnExactKeyBytes", inPlace := ["internal/abi.NoEscape"], apart := false, narrowed := true }
def FnExactKeyBytesUptoSaid : Prop := fnExactKeyBytesUptoRow.holds Try.pinned (OpenSpec.upto fnExactKeyBytesSpec)

/-- 'laws.FnExactKeyValues', WHERE WHAT IT READS IS OF BULK AT MOST 1048576: true; the input reads as it did. -/
def fnExactKeyValuesUptoRow : OpenClaim := { program := "ytjplogeifleojaa", sum := "25da938108c9bfdcd719528f299ee240a901990b87b8a601d4a2b5327624cced", func := "loop.example/g00015/laws.FnExactKeyValues", spec := "fnExactKeyValues", inPlace := ["internal/bytealg.IndexByteString", "internal/abi.NoEscape"], apart := false, narrowed := true }
def FnExactKeyValuesUptoSaid : Prop := fnExactKeyValuesUptoRow.holds Try.pinned (OpenSpec.upto fnExactKeyValuesSpec)

/-- 'laws.FnKeyOrder', WHERE WHAT IT READS IS OF BULK AT MOST 1048576: true; the input reads as it did. -/
def fnKeyOrderUptoRow : OpenClaim := { program := "ytjplogeifleojaa", sum := "25da938108c9bfdcd719528f299ee240a901990b87b8a601d4a2b5327624cced", func := "loop.example/g00015/laws.FnKeyOrder", spec := "fnKeyOrder", inPlace := ["internal/abi.NoEscape", "internal/bytealg.abigen_runtime_cmpstring"], apart := false, narrowed := true }
def FnKeyOrderUptoSaid : Prop := fnKeyOrderUptoRow.holds Try.pinned (OpenSpec.upto fnKeyOrderSpec)

end Rows
end Go.Proofs.Ytjplogeifleojaa
