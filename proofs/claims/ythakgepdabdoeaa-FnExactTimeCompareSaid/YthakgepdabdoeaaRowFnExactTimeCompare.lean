/- The law FnExactTimeCompare: whatever the input, the call returns true and its arguments read afterwards as before: the frame of the row over the function's contract and the plain law. No condition. -/
import Derived.Test.YthakgepdabdoeaaRows
import Derived.Test.YthakgepdabdoeaaPFnExactTimeComparex1
import Derived.Test.YthakgepdabdoeaaPureFnExactTimeCompare
import Derived.Test.YthakgepdabdoeaaOpn
import Derived.WalkKit
import Derived.ProofKit
import Derived.OpenShut
import Derived.ShutString
import Derived.ChangeOld
import Derived.Below
import Derived.SizedLaws
import Derived.Carry
import Derived.KernelRfl
namespace Go.Proofs.Ythakgepdabdoeaa.fnExactTimeCompare
open Go.ChangeShapes Go.WideShapes Go.ChangeAt Go.RowKit
open Go.ChangeMaps (open_string shut_string)
open Go.Proofs.YthakgepdabdoeaaO Go.Proofs.YthakgepdabdoeaaW.PrintWords Go.Proofs.Ythakgepdabdoeaa.PFnExactTimeCompare
theorem own : ownKnob Try.prog.godebug = none := by kernel_rfl
theorem laidOut : laidOutB Try.prog = true := by kernel_rfl
def fld24_0 : Field := { name := "Wall", type := 3, offset := 0, embedded := false, tag := "", pkgPath := "", byteOffset := 0 }
def fld24_1 : Field := { name := "Logic", type := 3, offset := 1, embedded := false, tag := "", pkgPath := "", byteOffset := 8 }
theorem opn24 : Opn Try.prog (Kd.iso (Kd.pair (Kd.int .i64) (Kd.int .i64)) id) 24 (fun x => (fun x => (fun n => (Lit.int .i64 n).wf = true) x.1 ∧ (fun n => (Lit.int .i64 n).wf = true) x.2) (id x)) := Opn.struct (fs := #[fld24_0, fld24_1]) Try.underlying24 (by kernel_rfl) (OpnF.cons (f := fld24_0) (Opn.int Try.underlying3 (by kernel_rfl)) (OpnF.one (f := fld24_1) (Opn.int Try.underlying3 (by kernel_rfl))) rfl) id (fun _ => rfl)
set_option maxRecDepth 100000 in
theorem lifted (os : Os) (started : os.Started) (H : Type) (enc : TypeId × Value → H) :
    ReturnsInHanded {} Try.checked os 7 .any (Rows.fnExactTimeCompareSpec.pre6 enc Try.prog Try.f7 Rows.fnExactTimeCompareRow.domain false) (Rows.fnExactTimeCompareSpec.post enc Try.prog Try.f7 false true false false) := by
  refine returnsInHanded_of_change_sized (C := Try.checked) own started (by kernel_rfl) Try.func7
    (ChangeSpec.witness6 (enc := enc) (C := Try.checked) false ⟨#[], #[.agg #[.int .i64 0, .int .i64 0], .agg #[.int .i64 0, .int .i64 0]], []⟩ 8 (by kernel_rfl) (by kernel_rfl) (by kernel_rfl) (by kernel_rfl)) ?_
  intro W base args ds gs before hval0 hW hcnd hsz0 _
  have hsz : (DataW.weightsEach Try.prog (Try.f7.params.toList ++ Rows.fnExactTimeCompareSpec.plain.varTypes Try.prog) (ds ++ gs)).all (· ≤ reachBytes) = true := hsz0
  have hval : ∀ (j : Nat) t v, Try.f7.params[j]? = some t → args[j]? = some v → Value.okWide Try.prog W .any base t v := hval0
  have hW' := hW
  obtain ⟨p, q, hA0, hV, rfl, hfz, hnd⟩ := hW
  have hA : DataW.TrodAll enc Try.prog W 0 (fun _ => true) true Try.f7.params.toList args.toList ds p := hA0
  rw [Try.params7] at hA hval hsz
  obtain ⟨v0, vs0, d0, ds0, p0, q0, hargs, rfl, rfl, h0, r0⟩ := trodAll_cons hA
  obtain ⟨v1, vs1, d1, ds1, p1, q1, rfl, rfl, rfl, h1, r1⟩ := trodAll_cons r0
  obtain ⟨rfl, rfl, rfl⟩ := trodAll_nil r1
  obtain rfl : args = #[v0, v1] := by cases args; simp_all
  obtain ⟨rfl, rfl⟩ := trodVars_none hV
  obtain ⟨cs0, rfl, _⟩ := okWide_struct Try.underlying24 (hval 0 24 v0 rfl rfl)
  have k0_ := h0
  have lt0 : ∀ x ∈ p0, x.block < W.heap.size := by obtain ⟨m, hm⟩ := k0_; exact DataW.trod_lt m _ _ _ hm
  obtain ⟨x0, K0, o0⟩ := Opn.arg opn24 h0
  obtain ⟨_, _, e0, rfl, rfl⟩ := K0
  obtain rfl : cs0 = #[.int .i64 x0.1, .int .i64 x0.2] := agg_arg e0
  obtain ⟨cs1, rfl, _⟩ := okWide_struct Try.underlying24 (hval 1 24 v1 rfl rfl)
  have k1_ := h1
  have lt1 : ∀ x ∈ p1, x.block < W.heap.size := by obtain ⟨m, hm⟩ := k1_; exact DataW.trod_lt m _ _ _ hm
  obtain ⟨x1, K1, o1⟩ := Opn.arg opn24 h1
  obtain ⟨_, _, e1, rfl, rfl⟩ := K1
  obtain rfl : cs1 = #[.int .i64 x1.1, .int .i64 x1.2] := agg_arg e1
  clear hA0 hval0 hsz0 hsz
  have hp := Pure.FnExactTimeCompare x0.1 x0.2 x1.1 x1.2 o0 o1
  refine (laws_FnExactTimeCompare.calls x0.1 x0.2 x1.1 x1.2 true W  hp).mono fun e W' ⟨he, bel⟩ => ?_
  subst he
  exact ⟨_, rfl, _, _, _, [], _, [], hW', trodAll_mk1 (shut_bool Try.underlying4 _), (trodAll_cons_mk (Below.trod laidOut (by kernel_rfl) (of_decide_eq_true (by kernel_rfl)) k0_ bel lt0) (trodAll_cons_mk (Below.trod laidOut (by kernel_rfl) (of_decide_eq_true (by kernel_rfl)) k1_ bel lt1) trodAll_mk0)), rfl, bel.frame _, fun h => by cases h⟩
theorem over : Rows.fnExactTimeCompareRow.holds Try.pinned (OpenSpec.ofChange Rows.fnExactTimeCompareSpec) :=
  OpenClaim.holds_of_wide 7 Try.f7 rfl rfl rfl rfl rfl rfl rfl ⟨rfl, rfl, rfl, rfl, rfl⟩ rfl rfl rfl rfl rfl (by kernel_rfl) Try.func7 (by kernel_rfl)
    (of_decide_eq_true (by kernel_rfl)) (by unfold Func.isWrapper; first | (rw [if_pos (by decide +kernel)]; kernel_rfl) | (rw [if_neg (by decide +kernel)]; exact ⟨rfl, rfl⟩))
    (fun os started H enc _ => lifted os started H enc)
theorem proved : Rows.FnExactTimeCompareSaid := over
#print axioms proved
end Go.Proofs.Ythakgepdabdoeaa.fnExactTimeCompare
namespace Go.Proofs.Ythakgepdabdoeaa
/-- The row, under a short name, for the claim. -/
theorem fnExactTimeCompare_holds : Rows.FnExactTimeCompareSaid := fnExactTimeCompare.proved
end Go.Proofs.Ythakgepdabdoeaa
