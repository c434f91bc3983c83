/- The law FnExactDayParts: whatever the input, the call returns true and its arguments read afterwards as before: the frame of the row over the function's contract and the plain law. No condition. -/
import Derived.Test.YtkhkhcgjopnchaaRows
import Derived.Test.YtkhkhcgjopnchaaQFnExactDayPartsx4
import Derived.Test.YtkhkhcgjopnchaaPureFnExactDayParts
import Derived.Test.YtkhkhcgjopnchaaOpn
import Derived.WalkKit
import Derived.ProofKit
import Derived.OpenShut
import Derived.ShutString
import Derived.ChangeOld
import Derived.Below
import Derived.SizedLaws
import Derived.Carry
import Derived.KernelRfl
namespace Go.Proofs.Ytkhkhcgjopnchaa.fnExactDayParts
open Go.ChangeShapes Go.WideShapes Go.ChangeAt Go.RowKit
open Go.ChangeMaps (open_string shut_string)
open Go.Proofs.YtkhkhcgjopnchaaO Go.Proofs.YtkhkhcgjopnchaaW.PrintWords Go.Proofs.Ytkhkhcgjopnchaa.QFnExactDayParts
theorem own : ownKnob Try.prog.godebug = none := by kernel_rfl
theorem laidOut : laidOutB Try.prog = true := by kernel_rfl
def fld28_0 : Field := { name := "Kind", type := 3, offset := 0, embedded := false, tag := "", pkgPath := "", byteOffset := 0 }
def fld28_1 : Field := { name := "N", type := 3, offset := 1, embedded := false, tag := "", pkgPath := "", byteOffset := 8 }
def fld28_2 : Field := { name := "Scale", type := 3, offset := 2, embedded := false, tag := "", pkgPath := "", byteOffset := 16 }
def fld28_3 : Field := { name := "S", type := 9, offset := 3, embedded := false, tag := "", pkgPath := "", byteOffset := 24 }
theorem opn28 : Opn Try.prog (Kd.iso (Kd.pair (Kd.int .i64) (Kd.pair (Kd.int .i64) (Kd.pair (Kd.int .i64) Kd.string))) id) 28 (fun x => (fun x => (fun n => (Lit.int .i64 n).wf = true) x.1 ∧ (fun x => (fun n => (Lit.int .i64 n).wf = true) x.1 ∧ (fun x => (fun n => (Lit.int .i64 n).wf = true) x.1 ∧ (fun s => s.size ≤ 9223372036854775807) x.2) x.2) x.2) (id x)) := Opn.struct (fs := #[fld28_0, fld28_1, fld28_2, fld28_3]) Try.underlying28 (by kernel_rfl) (OpnF.cons (f := fld28_0) (Opn.int Try.underlying3 (by kernel_rfl)) (OpnF.cons (f := fld28_1) (Opn.int Try.underlying3 (by kernel_rfl)) (OpnF.cons (f := fld28_2) (Opn.int Try.underlying3 (by kernel_rfl)) (OpnF.one (f := fld28_3) (Opn.string Try.underlying9 (by kernel_rfl))) rfl) rfl) rfl) id (fun _ => rfl)
set_option maxRecDepth 100000 in
theorem lifted (os : Os) (started : os.Started) (H : Type) (enc : TypeId × Value → H) :
    ReturnsInHanded {} Try.checked os 4 .any (Rows.fnExactDayPartsSpec.pre6 enc Try.prog Try.f4 Rows.fnExactDayPartsRow.domain false) (Rows.fnExactDayPartsSpec.post enc Try.prog Try.f4 false true false false) := by
  refine returnsInHanded_of_change_sized (C := Try.checked) own started (by kernel_rfl) Try.func4
    (ChangeSpec.witness6 (enc := enc) (C := Try.checked) false ⟨#[], #[.agg #[.int .i64 0, .int .i64 0, .int .i64 0, .string ByteArray.empty]], []⟩ 8 (by kernel_rfl) (by kernel_rfl) (by kernel_rfl) (by kernel_rfl)) ?_
  intro W base args ds gs before hval0 hW hcnd hsz0 _
  have hsz : (DataW.weightsEach Try.prog (Try.f4.params.toList ++ Rows.fnExactDayPartsSpec.plain.varTypes Try.prog) (ds ++ gs)).all (· ≤ reachBytes) = true := hsz0
  have hval : ∀ (j : Nat) t v, Try.f4.params[j]? = some t → args[j]? = some v → Value.okWide Try.prog W .any base t v := hval0
  have hW' := hW
  obtain ⟨p, q, hA0, hV, rfl, hfz, hnd⟩ := hW
  have hA : DataW.TrodAll enc Try.prog W 0 (fun _ => true) true Try.f4.params.toList args.toList ds p := hA0
  rw [Try.params4] at hA hval hsz
  obtain ⟨v0, vs0, d0, ds0, p0, q0, hargs, rfl, rfl, h0, r0⟩ := trodAll_cons hA
  obtain ⟨rfl, rfl, rfl⟩ := trodAll_nil r0
  obtain rfl : args = #[v0] := by cases args; simp_all
  obtain ⟨rfl, rfl⟩ := trodVars_none hV
  obtain ⟨cs0, rfl, _⟩ := okWide_struct Try.underlying28 (hval 0 28 v0 rfl rfl)
  have k0_ := h0
  have lt0 : ∀ x ∈ p0, x.block < W.heap.size := by obtain ⟨m, hm⟩ := k0_; exact DataW.trod_lt m _ _ _ hm
  obtain ⟨x0, K0, o0⟩ := Opn.arg opn28 h0
  obtain ⟨_, _, e0, rfl, ⟨_, _, rfl, rfl, ⟨_, _, rfl, rfl, rfl⟩⟩⟩ := K0
  obtain rfl : cs0 = #[.int .i64 x0.1, .int .i64 x0.2.1, .int .i64 x0.2.2.1, .string x0.2.2.2] := agg_arg e0
  clear hA0 hval0 hsz0 hsz
  obtain ⟨k, hp⟩ := Pure.FnExactDayParts x0.1 x0.2.1 x0.2.2.1 x0.2.2.2 o0
  refine (laws_FnExactDayParts.calls k x0.1 x0.2.1 x0.2.2.1 x0.2.2.2 true W  hp rfl).mono fun e W' ⟨he, bel⟩ => ?_
  subst he
  exact ⟨_, rfl, _, _, _, [], _, [], hW', trodAll_mk1 (shut_bool Try.underlying4 _), (trodAll_cons_mk (Below.trod laidOut (by kernel_rfl) (of_decide_eq_true (by kernel_rfl)) k0_ bel lt0) trodAll_mk0), rfl, bel.frame _, fun h => by cases h⟩
theorem over : Rows.fnExactDayPartsRow.holds Try.pinned (OpenSpec.ofChange Rows.fnExactDayPartsSpec) :=
  OpenClaim.holds_of_wide 4 Try.f4 rfl rfl rfl rfl rfl rfl rfl ⟨rfl, rfl, rfl, rfl, rfl⟩ rfl rfl rfl rfl rfl (by kernel_rfl) Try.func4 (by kernel_rfl)
    (of_decide_eq_true (by kernel_rfl)) (by unfold Func.isWrapper; first | (rw [if_pos (by decide +kernel)]; kernel_rfl) | (rw [if_neg (by decide +kernel)]; exact ⟨rfl, rfl⟩))
    (fun os started H enc _ => lifted os started H enc)
theorem proved : Rows.FnExactDayPartsSaid := over
#print axioms proved
end Go.Proofs.Ytkhkhcgjopnchaa.fnExactDayParts
namespace Go.Proofs.Ytkhkhcgjopnchaa
/-- The row, under a short name, for the claim. -/
theorem fnExactDayParts_holds : Rows.FnExactDayPartsSaid := fnExactDayParts.proved
end Go.Proofs.Ytkhkhcgjopnchaa
