/- The law FnExactRangeStep: whatever the input, the call returns true and its arguments read afterwards as before: the frame of the row over the function's contract and the plain law. No condition. -/
import Derived.Test.YtdgleppagokjhaaRows
import Derived.Test.YtdgleppagokjhaaLwS
import Derived.Test.YtdgleppagokjhaaPureFnExactRangeStep
import Derived.Test.YtdgleppagokjhaaOpn
import Derived.WalkKit
import Derived.ProofKit
import Derived.OpenShut
import Derived.ShutString
import Derived.ChangeOld
import Derived.Below
import Derived.SizedLaws
import Derived.Carry
import Derived.KernelRfl
namespace Go.Proofs.Ytdgleppagokjhaa.fnExactRangeStep
open Go.ChangeShapes Go.WideShapes Go.ChangeAt Go.RowKit
open Go.ChangeMaps (open_string shut_string)
open Go.Proofs.YtdgleppagokjhaaO Go.Proofs.YtdgleppagokjhaaW.PrintWords Go.Proofs.Ytdgleppagokjhaa.QFnExactRangeStep
theorem own : ownKnob Try.prog.godebug = none := by kernel_rfl
theorem laidOut : laidOutB Try.prog = true := by kernel_rfl
def fld61_0 : Field := { name := "Id", type := 3, offset := 0, embedded := false, tag := "", pkgPath := "", byteOffset := 0 }
def fld61_1 : Field := { name := "From", type := 9, offset := 1, embedded := false, tag := "", pkgPath := "", byteOffset := 8 }
def fld61_2 : Field := { name := "To", type := 9, offset := 2, embedded := false, tag := "", pkgPath := "", byteOffset := 24 }
def fld61_3 : Field := { name := "Members", type := 3, offset := 3, embedded := false, tag := "", pkgPath := "", byteOffset := 40 }
def fld61_4 : Field := { name := "Holder", type := 3, offset := 4, embedded := false, tag := "", pkgPath := "", byteOffset := 48 }
def fld61_5 : Field := { name := "Gen", type := 3, offset := 5, embedded := false, tag := "", pkgPath := "", byteOffset := 56 }
theorem opn61 : Opn Try.prog k61 61 (fun x => (fun x => (fun n => (Lit.int .i64 n).wf = true) x.1 ∧ (fun x => (fun s => s.size ≤ 9223372036854775807) x.1 ∧ (fun x => (fun s => s.size ≤ 9223372036854775807) x.1 ∧ (fun x => (fun n => (Lit.int .i64 n).wf = true) x.1 ∧ (fun x => (fun n => (Lit.int .i64 n).wf = true) x.1 ∧ (fun n => (Lit.int .i64 n).wf = true) x.2) x.2) x.2) x.2) x.2) ((x.f0, x.f1, x.f2, x.f3, x.f4, x.f5))) := Opn.struct (fs := #[fld61_0, fld61_1, fld61_2, fld61_3, fld61_4, fld61_5]) Try.underlying61 (by kernel_rfl) (OpnF.cons (f := fld61_0) (Opn.int Try.underlying3 (by kernel_rfl)) (OpnF.cons (f := fld61_1) (Opn.string Try.underlying9 (by kernel_rfl)) (OpnF.cons (f := fld61_2) (Opn.string Try.underlying9 (by kernel_rfl)) (OpnF.cons (f := fld61_3) (Opn.int Try.underlying3 (by kernel_rfl)) (OpnF.cons (f := fld61_4) (Opn.int Try.underlying3 (by kernel_rfl)) (OpnF.one (f := fld61_5) (Opn.int Try.underlying3 (by kernel_rfl))) rfl) rfl) rfl) rfl) rfl) (fun a => ⟨a.1, a.2.1, a.2.2.1, a.2.2.2.1, a.2.2.2.2.1, a.2.2.2.2.2⟩) (fun _ => rfl)
def fld40_0 : Field := { name := "Kind", type := 3, offset := 0, embedded := false, tag := "", pkgPath := "", byteOffset := 0 }
def fld40_1 : Field := { name := "Id", type := 3, offset := 1, embedded := false, tag := "", pkgPath := "", byteOffset := 8 }
def fld40_2 : Field := { name := "Key", type := 9, offset := 2, embedded := false, tag := "", pkgPath := "", byteOffset := 16 }
def fld40_3 : Field := { name := "Node", type := 3, offset := 3, embedded := false, tag := "", pkgPath := "", byteOffset := 32 }
def fld40_4 : Field := { name := "To", type := 3, offset := 4, embedded := false, tag := "", pkgPath := "", byteOffset := 40 }
theorem opn40 : Opn Try.prog (Kd.iso (Kd.pair (Kd.int .i64) (Kd.pair (Kd.int .i64) (Kd.pair Kd.string (Kd.pair (Kd.int .i64) (Kd.int .i64))))) id) 40 (fun x => (fun x => (fun n => (Lit.int .i64 n).wf = true) x.1 ∧ (fun x => (fun n => (Lit.int .i64 n).wf = true) x.1 ∧ (fun x => (fun s => s.size ≤ 9223372036854775807) x.1 ∧ (fun x => (fun n => (Lit.int .i64 n).wf = true) x.1 ∧ (fun n => (Lit.int .i64 n).wf = true) x.2) x.2) x.2) x.2) (id x)) := Opn.struct (fs := #[fld40_0, fld40_1, fld40_2, fld40_3, fld40_4]) Try.underlying40 (by kernel_rfl) (OpnF.cons (f := fld40_0) (Opn.int Try.underlying3 (by kernel_rfl)) (OpnF.cons (f := fld40_1) (Opn.int Try.underlying3 (by kernel_rfl)) (OpnF.cons (f := fld40_2) (Opn.string Try.underlying9 (by kernel_rfl)) (OpnF.cons (f := fld40_3) (Opn.int Try.underlying3 (by kernel_rfl)) (OpnF.one (f := fld40_4) (Opn.int Try.underlying3 (by kernel_rfl))) rfl) rfl) rfl) rfl) id (fun _ => rfl)
set_option maxRecDepth 100000 in
theorem lifted (os : Os) (started : os.Started) (H : Type) (enc : TypeId × Value → H) :
    ReturnsInHanded {} Try.checked os 6 .any (Rows.fnExactRangeStepSpec.pre6 enc Try.prog Try.f6 Rows.fnExactRangeStepRow.domain false) (Rows.fnExactRangeStepSpec.post enc Try.prog Try.f6 false true false false) := by
  refine returnsInHanded_of_change_sized (C := Try.checked) own started (by kernel_rfl) Try.func6
    (ChangeSpec.witness6 (enc := enc) (C := Try.checked) false ⟨#[], #[.slice none 0 0, .agg #[.int .i64 0, .int .i64 0, .string ByteArray.empty, .int .i64 0, .int .i64 0]], []⟩ 8 (by kernel_rfl) (by kernel_rfl) (by kernel_rfl) (by kernel_rfl)) ?_
  intro W base args ds gs before hval0 hW hcnd hsz0 _
  have hsz : (DataW.weightsEach Try.prog (Try.f6.params.toList ++ Rows.fnExactRangeStepSpec.plain.varTypes Try.prog) (ds ++ gs)).all (· ≤ reachBytes) = true := hsz0
  have hval : ∀ (j : Nat) t v, Try.f6.params[j]? = some t → args[j]? = some v → Value.okWide Try.prog W .any base t v := hval0
  have hW' := hW
  obtain ⟨p, q, hA0, hV, rfl, hfz, hnd⟩ := hW
  have hA : DataW.TrodAll enc Try.prog W 0 (fun _ => true) true Try.f6.params.toList args.toList ds p := hA0
  rw [Try.params6] at hA hval hsz
  obtain ⟨v0, vs0, d0, ds0, p0, q0, hargs, rfl, rfl, h0, r0⟩ := trodAll_cons hA
  obtain ⟨v1, vs1, d1, ds1, p1, q1, rfl, rfl, rfl, h1, r1⟩ := trodAll_cons r0
  obtain ⟨rfl, rfl, rfl⟩ := trodAll_nil r1
  obtain rfl : args = #[v0, v1] := by cases args; simp_all
  obtain ⟨rfl, rfl⟩ := trodVars_none hV
  obtain ⟨a0, len0, cap0, rfl⟩ := okWide_slice Try.underlying22 (hval 0 22 v0 rfl rfl)
  have k0_ := h0
  have lt0 : ∀ x ∈ p0, x.block < W.heap.size := by obtain ⟨m, hm⟩ := k0_; exact DataW.trod_lt m _ _ _ hm
  obtain ⟨l0, ⟨A0, c0, e0, hc0, hr0⟩, o0⟩ := Opn.arg (Opn.slice Try.underlying22 (by kernel_rfl) opn61) h0
  obtain ⟨rfl, rfl, rfl⟩ := slice_arg e0
  obtain ⟨cs1, rfl, _⟩ := okWide_struct Try.underlying40 (hval 1 40 v1 rfl rfl)
  have k1_ := h1
  have lt1 : ∀ x ∈ p1, x.block < W.heap.size := by obtain ⟨m, hm⟩ := k1_; exact DataW.trod_lt m _ _ _ hm
  obtain ⟨x1, K1, o1⟩ := Opn.arg opn40 h1
  obtain ⟨_, _, e1, rfl, ⟨_, _, rfl, rfl, ⟨_, _, rfl, rfl, ⟨_, _, rfl, rfl, rfl⟩⟩⟩⟩ := K1
  obtain rfl : cs1 = #[.int .i64 x1.1, .int .i64 x1.2.1, .string x1.2.2.1, .int .i64 x1.2.2.2.1, .int .i64 x1.2.2.2.2] := agg_arg e1
  clear hA0 hval0 hsz0 hsz
  obtain ⟨k, hp⟩ := Pure.FnExactRangeStep l0 x1.1 x1.2.1 x1.2.2.1 x1.2.2.2.1 x1.2.2.2.2 o0 o1
  refine (laws_FnExactRangeStep.calls k _ _ l0 x1.1 x1.2.1 x1.2.2.1 x1.2.2.2.1 x1.2.2.2.2 true W hr0 hc0 hp rfl).mono fun e W' ⟨he, bel⟩ => ?_
  subst he
  exact ⟨_, rfl, _, _, _, [], _, [], hW', trodAll_mk1 (shut_bool Try.underlying4 _), (trodAll_cons_mk (Below.trod laidOut (by kernel_rfl) (of_decide_eq_true (by kernel_rfl)) k0_ bel lt0) (trodAll_cons_mk (Below.trod laidOut (by kernel_rfl) (of_decide_eq_true (by kernel_rfl)) k1_ bel lt1) trodAll_mk0)), rfl, bel.frame _, fun h => by cases h⟩
theorem over : Rows.fnExactRangeStepRow.holds Try.pinned (OpenSpec.ofChange Rows.fnExactRangeStepSpec) :=
  OpenClaim.holds_of_wide 6 Try.f6 rfl rfl rfl rfl rfl rfl rfl ⟨rfl, rfl, rfl, rfl, rfl⟩ rfl rfl rfl rfl rfl (by kernel_rfl) Try.func6 (by kernel_rfl)
    (of_decide_eq_true (by kernel_rfl)) (by unfold Func.isWrapper; first | (rw [if_pos (by decide +kernel)]; kernel_rfl) | (rw [if_neg (by decide +kernel)]; exact ⟨rfl, rfl⟩))
    (fun os started H enc _ => lifted os started H enc)
theorem proved : Rows.FnExactRangeStepSaid := over
#print axioms proved
end Go.Proofs.Ytdgleppagokjhaa.fnExactRangeStep
namespace Go.Proofs.Ytdgleppagokjhaa
/-- The row, under a short name, for the claim. -/
theorem fnExactRangeStep_holds : Rows.FnExactRangeStepSaid := fnExactRangeStep.proved
end Go.Proofs.Ytdgleppagokjhaa
