/-
  No cell of these rows narrows 'for every input' (looked for: loops, veiled, ifaces, maps, wideKeys, modest, calm, conditions, laid).
  DERIVED. THE GIVEN ROWS OF THIS SEAT. 6 by the template 'for every input the law returns true; each argument reads behind the call as it read before'; 0 by the template 'total and deterministic' (their statements: YtkfjgloalfpcmaaTotals.lean).
  GIVEN WITH THE SEED: the statements are not yours to turn. If you find one false, say at which input.
  Laid BY PROGRAM, IN A SANDBOX (cutbox-rows.mjs): the forced cells as the released guide's own fill.sh prints them over the translation d5cbe5911c7e226f… (all of the seat's roots in one cut). By AI agents, Wed Nov 11 2026. No macro, syntax, notation, axiom, sorry.
-/
import Derived.Test.YtkfjgloalfpcmaaChecked
import GoSem.Claim
import GoSem.ClaimJoined
import GoSem.ClaimMapViews
import Derived.JoinedTies
import Derived.KernelRfl
namespace Go.Proofs.Ytkfjgloalfpcmaa
/- THE CELL 'sum', in the pinned program and in every row, IS THE sha256 OF THE DUMP (.gsa) THAT YtkfjgloalfpcmaaProg.lean LOADS. Nothing in Lean hashes anything: it is a label: what it is worth is what the hold of that sum in a sandbox is worth. -/
noncomputable def Try.pinned : Pinned := { name := "ytkfjgloalfpcmaa", sum := "d5cbe5911c7e226fd27a7a0f6465e592ad3ef8320fcf675ff0908d46bb476ed1", checked := Try.checked }
namespace Rows
def none {H : Type} : Left H := { results := [], args := [] }

/-- 'laws.FnExactNodeOK': WHATEVER THE INPUT: true; the input reads as it did. -/
def fnExactNodeOKSpec : ChangeSpec := { name := "fnExactNodeOK", fn := fun _ => fun
  | [d] => { results := [.lit (.bool true)], args := [d] }
  | _ => none }
def fnExactNodeOKRow : OpenClaim := { program := "ytkfjgloalfpcmaa", sum := "d5cbe5911c7e226fd27a7a0f6465e592ad3ef8320fcf675ff0908d46bb476ed1", func := "loop.example/g00015/laws.FnExactNodeOK", spec := "fnExactNodeOK", apart := false }
def FnExactNodeOKSaid : Prop := fnExactNodeOKRow.holds Try.pinned (OpenSpec.ofChange fnExactNodeOKSpec)

/-- ITS FALSE NEIGHBOUR: 'it returns false'. Refute it at one input. -/
def fnExactNodeOKWrong : ChangeSpec := { name := "fnExactNodeOK", fn := fun _ => fun
  | [d] => { results := [.lit (.bool false)], args := [d] }
  | _ => none }
def FnExactNodeOKWrongFalsely : Prop := fnExactNodeOKRow.holds Try.pinned (OpenSpec.ofChange fnExactNodeOKWrong)

/-- 'laws.FnExactNodeNew': WHATEVER THE INPUT: true; the input reads as it did. -/
def fnExactNodeNewSpec : ChangeSpec := { name := "fnExactNodeNew", fn := fun _ => fun
  | [d1, d2] => { results := [.lit (.bool true)], args := [d1, d2] }
  | _ => none }
def fnExactNodeNewRow : OpenClaim := { program := "ytkfjgloalfpcmaa", sum := "d5cbe5911c7e226fd27a7a0f6465e592ad3ef8320fcf675ff0908d46bb476ed1", func := "loop.example/g00015/laws.FnExactNodeNew", spec := "fnExactNodeNew", apart := false }
def FnExactNodeNewSaid : Prop := fnExactNodeNewRow.holds Try.pinned (OpenSpec.ofChange fnExactNodeNewSpec)

/-- ITS FALSE NEIGHBOUR: 'it returns false'. Refute it at one input. -/
def fnExactNodeNewWrong : ChangeSpec := { name := "fnExactNodeNew", fn := fun _ => fun
  | [d1, d2] => { results := [.lit (.bool false)], args := [d1, d2] }
  | _ => none }
def FnExactNodeNewWrongFalsely : Prop := fnExactNodeNewRow.holds Try.pinned (OpenSpec.ofChange fnExactNodeNewWrong)

/-- 'laws.FnExactNodeSum': WHATEVER THE INPUT: true; the input reads as it did. -/
def fnExactNodeSumSpec : ChangeSpec := { name := "fnExactNodeSum", fn := fun _ => fun
  | [d] => { results := [.lit (.bool true)], args := [d] }
  | _ => none }
def fnExactNodeSumRow : OpenClaim := { program := "ytkfjgloalfpcmaa", sum := "d5cbe5911c7e226fd27a7a0f6465e592ad3ef8320fcf675ff0908d46bb476ed1", func := "loop.example/g00015/laws.FnExactNodeSum", spec := "fnExactNodeSum", apart := false }
def FnExactNodeSumSaid : Prop := fnExactNodeSumRow.holds Try.pinned (OpenSpec.ofChange fnExactNodeSumSpec)

/-- ITS FALSE NEIGHBOUR: 'it returns false'. Refute it at one input. -/
def fnExactNodeSumWrong : ChangeSpec := { name := "fnExactNodeSum", fn := fun _ => fun
  | [d] => { results := [.lit (.bool false)], args := [d] }
  | _ => none }
def FnExactNodeSumWrongFalsely : Prop := fnExactNodeSumRow.holds Try.pinned (OpenSpec.ofChange fnExactNodeSumWrong)

/-- 'laws.FnExactNodeStart': WHATEVER THE INPUT: true; the input reads as it did. -/
def fnExactNodeStartSpec : ChangeSpec := { name := "fnExactNodeStart", fn := fun _ => fun
  | [d] => { results := [.lit (.bool true)], args := [d] }
  | _ => none }
def fnExactNodeStartRow : OpenClaim := { program := "ytkfjgloalfpcmaa", sum := "d5cbe5911c7e226fd27a7a0f6465e592ad3ef8320fcf675ff0908d46bb476ed1", func := "loop.example/g00015/laws.FnExactNodeStart", spec := "fnExactNodeStart", apart := false }
def FnExactNodeStartSaid : Prop := fnExactNodeStartRow.holds Try.pinned (OpenSpec.ofChange fnExactNodeStartSpec)

/-- ITS FALSE NEIGHBOUR: 'it returns false'. Refute it at one input. -/
def fnExactNodeStartWrong : ChangeSpec := { name := "fnExactNodeStart", fn := fun _ => fun
  | [d] => { results := [.lit (.bool false)], args := [d] }
  | _ => none }
def FnExactNodeStartWrongFalsely : Prop := fnExactNodeStartRow.holds Try.pinned (OpenSpec.ofChange fnExactNodeStartWrong)

/-- 'laws.FnExactNodeCompact': WHATEVER THE INPUT: true; the input reads as it did. -/
def fnExactNodeCompactSpec : ChangeSpec := { name := "fnExactNodeCompact", fn := fun _ => fun
  | [d1, d2] => { results := [.lit (.bool true)], args := [d1, d2] }
  | _ => none }
def fnExactNodeCompactRow : OpenClaim := { program := "ytkfjgloalfpcmaa", sum := "d5cbe5911c7e226fd27a7a0f6465e592ad3ef8320fcf675ff0908d46bb476ed1", func := "loop.example/g00015/laws.FnExactNodeCompact", spec := "fnExactNodeCompact", apart := false }
def FnExactNodeCompactSaid : Prop := fnExactNodeCompactRow.holds Try.pinned (OpenSpec.ofChange fnExactNodeCompactSpec)

/-- ITS FALSE NEIGHBOUR: 'it returns false'. Refute it at one input. -/
def fnExactNodeCompactWrong : ChangeSpec := { name := "fnExactNodeCompact", fn := fun _ => fun
  | [d1, d2] => { results := [.lit (.bool false)], args := [d1, d2] }
  | _ => none }
def FnExactNodeCompactWrongFalsely : Prop := fnExactNodeCompactRow.holds Try.pinned (OpenSpec.ofChange fnExactNodeCompactWrong)

/-- 'laws.FnGroupLive': WHATEVER THE INPUT: true; the input reads as it did. -/
def fnGroupLiveSpec : ChangeSpec := { name := "fnGroupLive", fn := fun _ => fun
  | [d] => { results := [.lit (.bool true)], args := [d] }
  | _ => none }
def fnGroupLiveRow : OpenClaim := { program := "ytkfjgloalfpcmaa", sum := "d5cbe5911c7e226fd27a7a0f6465e592ad3ef8320fcf675ff0908d46bb476ed1", func := "loop.example/g00015/laws.FnGroupLive", spec := "fnGroupLive", unfollowed := true, recurses := true, apart := false }
def FnGroupLiveSaid : Prop := fnGroupLiveRow.holds Try.pinned (OpenSpec.ofChange fnGroupLiveSpec)

/-- ITS FALSE NEIGHBOUR: 'it returns false'. Refute it at one input. -/
def fnGroupLiveWrong : ChangeSpec := { name := "fnGroupLive", fn := fun _ => fun
  | [d] => { results := [.lit (.bool false)], args := [d] }
  | _ => none }
def FnGroupLiveWrongFalsely : Prop := fnGroupLiveRow.holds Try.pinned (OpenSpec.ofChange fnGroupLiveWrong)

/- THE SECOND FORM. 'bulk': how many values and letters a reading holds, each counted each time it is reached (what is shared counts as often as it is met; a slice's spare places count too). A statement '..UptoSaid' is the law's where the arguments, and the package variables that the reading takes, are together of bulk at most 1048576: NARROWER than '..Said'. Prove '..Said' where nothing that the law and all that it calls make is longer than what came in: it says more and counts as full. Else prove '..UptoSaid'. A law counts once. -/
mutual
def uptoBulk {H : Type} : DataW H → Nat
  | .lit (.string bytes) => bytes.length + 1
  | .lit _ => 1
  | .nil => 1
  | .ptr d => uptoBulk d + 1
  | .slice elems spare => uptoBulkAll elems + uptoBulkAll spare + 1
  | .agg parts => uptoBulkAll parts + 1
  | .iface _ d => uptoBulk d + 1
  | .map entries => uptoBulkEntries entries + 1
  | .held _ => 1
def uptoBulkAll {H : Type} : List (DataW H) → Nat
  | [] => 0
  | d :: r => uptoBulk d + uptoBulkAll r
def uptoBulkEntries {H : Type} : List (Lit × DataW H) → Nat
  | [] => 0
  | x :: r => uptoBulkEntry x + uptoBulkEntries r
def uptoBulkEntry {H : Type} : Lit × DataW H → Nat
  | (.string bytes, d) => bytes.length + uptoBulk d + 1
  | (_, d) => uptoBulk d + 1
 end
def uptoSmall : (H : Type) → List (DataW H) → Bool := fun _ ds => decide (uptoBulkAll ds ≤ 1048576)
def OpenSpec.upto (s : _root_.Go.ChangeSpec) : _root_.Go.OpenSpec := { _root_.Go.OpenSpec.ofChange s with cond := some uptoSmall }

/-- 'laws.FnExactNodeOK', WHERE WHAT IT READS IS OF BULK AT MOST 1048576: true; the input reads as it did. -/
def fnExactNodeOKUptoRow : OpenClaim := { program := "ytkfjgloalfpcmaa", sum := "d5cbe5911c7e226fd27a7a0f6465e592ad3ef8320fcf675ff0908d46bb476ed1", func := "loop.example/g00015/laws.FnExactNodeOK", spec := "fnExactNodeOK", apart := false, narrowed := true }
def FnExactNodeOKUptoSaid : Prop := fnExactNodeOKUptoRow.holds Try.pinned (OpenSpec.upto fnExactNodeOKSpec)

/-- 'laws.FnExactNodeNew', WHERE WHAT IT READS IS OF BULK AT MOST 1048576: true; the input reads as it did. -/
def fnExactNodeNewUptoRow : OpenClaim := { program := "ytkfjgloalfpcmaa", sum := "d5cbe5911c7e226fd27a7a0f6465e592ad3ef8320fcf675ff0908d46bb476ed1", func := "loop.example/g00015/laws.FnExactNodeNew", spec := "fnExactNodeNew", apart := false, narrowed := true }
def FnExactNodeNewUptoSaid : Prop := fnExactNodeNewUptoRow.holds Try.pinned (OpenSpec.upto fnExactNodeNewSpec)

/-- 'laws.FnExactNodeSum', WHERE WHAT IT READS IS OF BULK AT MOST 1048576: true; the input reads as it did. -/
def fnExactNodeSumUptoRow : OpenClaim := { program := "ytkfjgloalfpcmaa", sum := "d5cbe5911c7e226fd27a7a0f6465e592ad3ef8320fcf675ff0908d46bb476ed1", func := "loop.example/g00015/laws.FnExactNodeSum", spec := "fnExactNodeSum", apart := false, narrowed := true }
def FnExactNodeSumUptoSaid : Prop := fnExactNodeSumUptoRow.holds Try.pinned (OpenSpec.upto fnExactNodeSumSpec)

/-- 'laws.FnExactNodeStart', WHERE WHAT IT READS IS OF BULK AT MOST 1048576: true; the input reads as it did. -/
def fnExactNodeStartUptoRow : OpenClaim := { program := "ytkfjgloalfpcmaa", sum := "d5cbe5911c7e226fd27a7a0f6465e592ad3ef8320fcf675ff0908d46bb476ed1", func := "loop.example/g00015/laws.FnExactNodeStart", spec := "fnExactNodeStart", apart := false, narrowed := true }
def FnExactNodeStartUptoSaid : Prop := fnExactNodeStartUptoRow.holds Try.pinned (OpenSpec.upto fnExactNodeStartSpec)

/-- 'laws.FnExactNodeCompact', WHERE WHAT IT READS IS OF BULK AT MOST 1048576: true; the input reads as it did. -/
def fnExactNodeCompactUptoRow : OpenClaim := { program := "ytkfjgloalfpcmaa", sum := "d5cbe5911c7e226fd27a7a0f6465e592ad3ef8320fcf675ff0908d46bb476ed1", func := "loop.example/g00015/laws.FnExactNodeCompact", spec := "fnExactNodeCompact", apart := false, narrowed := true }
def FnExactNodeCompactUptoSaid : Prop := fnExactNodeCompactUptoRow.holds Try.pinned (OpenSpec.upto fnExactNodeCompactSpec)

/-- 'laws.FnGroupLive', WHERE WHAT IT READS IS OF BULK AT MOST 1048576: true; the input reads as it did. -/
def fnGroupLiveUptoRow : OpenClaim := { program := "ytkfjgloalfpcmaa", sum := "d5cbe5911c7e226fd27a7a0f6465e592ad3ef8320fcf675ff0908d46bb476ed1", func := "loop.example/g00015/laws.FnGroupLive", spec := "fnGroupLive", unfollowed := true, recurses := true, apart := false, narrowed := true }
def FnGroupLiveUptoSaid : Prop := fnGroupLiveUptoRow.holds Try.pinned (OpenSpec.upto fnGroupLiveSpec)

end Rows
end Go.Proofs.Ytkfjgloalfpcmaa
