/- The law FnExactClockSee: whatever the input, the call returns true and its arguments read afterwards as before: the frame of the row over the function's contract and the plain law. No condition. -/
import Derived.Test.YthakgepdabdoeaaRows
import Derived.Test.YthakgepdabdoeaaQFnExactClockSeex2
import Derived.Test.YthakgepdabdoeaaPureFnExactClockSee
import Derived.Test.YthakgepdabdoeaaOpn
import Derived.WalkKit
import Derived.ProofKit
import Derived.OpenShut
import Derived.ShutString
import Derived.ChangeOld
import Derived.Below
import Derived.SizedLaws
import Derived.Carry
import Derived.KernelRfl
namespace Go.Proofs.Ythakgepdabdoeaa.fnExactClockSee
open Go.ChangeShapes Go.WideShapes Go.ChangeAt Go.RowKit
open Go.ChangeMaps (open_string shut_string)
open Go.Proofs.YthakgepdabdoeaaO Go.Proofs.YthakgepdabdoeaaW.PrintWords Go.Proofs.Ythakgepdabdoeaa.QFnExactClockSee
theorem own : ownKnob Try.prog.godebug = none := by kernel_rfl
theorem laidOut : laidOutB Try.prog = true := by kernel_rfl
def fld24_0 : Field := { name := "Wall", type := 3, offset := 0, embedded := false, tag := "", pkgPath := "", byteOffset := 0 }
def fld24_1 : Field := { name := "Logic", type := 3, offset := 1, embedded := false, tag := "", pkgPath := "", byteOffset := 8 }
theorem opn24 : Opn Try.prog (Kd.iso (Kd.pair (Kd.int .i64) (Kd.int .i64)) id) 24 (fun x => (fun x => (fun n => (Lit.int .i64 n).wf = true) x.1 ∧ (fun n => (Lit.int .i64 n).wf = true) x.2) (id x)) := Opn.struct (fs := #[fld24_0, fld24_1]) Try.underlying24 (by kernel_rfl) (OpnF.cons (f := fld24_0) (Opn.int Try.underlying3 (by kernel_rfl)) (OpnF.one (f := fld24_1) (Opn.int Try.underlying3 (by kernel_rfl))) rfl) id (fun _ => rfl)
set_option maxRecDepth 100000 in
theorem lifted (os : Os) (started : os.Started) (H : Type) (enc : TypeId × Value → H) :
    ReturnsInHanded {} Try.checked os 10 .any (Rows.fnExactClockSeeSpec.pre6 enc Try.prog Try.f10 Rows.fnExactClockSeeRow.domain false) (Rows.fnExactClockSeeSpec.post enc Try.prog Try.f10 false true false false) := by
  refine returnsInHanded_of_change_sized (C := Try.checked) own started (by kernel_rfl) Try.func10
    (ChangeSpec.witness6 (enc := enc) (C := Try.checked) false ⟨#[], #[.agg #[.int .i64 0, .int .i64 0], .int .i64 0, .agg #[.int .i64 0, .int .i64 0]], []⟩ 8 (by kernel_rfl) (by kernel_rfl) (by kernel_rfl) (by kernel_rfl)) ?_
  intro W base args ds gs before hval0 hW hcnd hsz0 _
  have hsz : (DataW.weightsEach Try.prog (Try.f10.params.toList ++ Rows.fnExactClockSeeSpec.plain.varTypes Try.prog) (ds ++ gs)).all (· ≤ reachBytes) = true := hsz0
  have hval : ∀ (j : Nat) t v, Try.f10.params[j]? = some t → args[j]? = some v → Value.okWide Try.prog W .any base t v := hval0
  have hW' := hW
  obtain ⟨p, q, hA0, hV, rfl, hfz, hnd⟩ := hW
  have hA : DataW.TrodAll enc Try.prog W 0 (fun _ => true) true Try.f10.params.toList args.toList ds p := hA0
  rw [Try.params10] at hA hval hsz
  obtain ⟨v0, vs0, d0, ds0, p0, q0, hargs, rfl, rfl, h0, r0⟩ := trodAll_cons hA
  obtain ⟨v1, vs1, d1, ds1, p1, q1, rfl, rfl, rfl, h1, r1⟩ := trodAll_cons r0
  obtain ⟨v2, vs2, d2, ds2, p2, q2, rfl, rfl, rfl, h2, r2⟩ := trodAll_cons r1
  obtain ⟨rfl, rfl, rfl⟩ := trodAll_nil r2
  obtain rfl : args = #[v0, v1, v2] := by cases args; simp_all
  obtain ⟨rfl, rfl⟩ := trodVars_none hV
  obtain ⟨cs0, rfl, _⟩ := okWide_struct Try.underlying24 (hval 0 24 v0 rfl rfl)
  have k0_ := h0
  have lt0 : ∀ x ∈ p0, x.block < W.heap.size := by obtain ⟨m, hm⟩ := k0_; exact DataW.trod_lt m _ _ _ hm
  obtain ⟨x0, K0, o0⟩ := Opn.arg opn24 h0
  obtain ⟨_, _, e0, rfl, rfl⟩ := K0
  obtain rfl : cs0 = #[.int .i64 x0.1, .int .i64 x0.2] := agg_arg e0
  obtain ⟨a1, rfl, rfl, rfl, w1⟩ := open_int Try.underlying3 (hval 1 3 v1 rfl rfl) h1
  obtain ⟨cs2, rfl, _⟩ := okWide_struct Try.underlying24 (hval 2 24 v2 rfl rfl)
  have k2_ := h2
  have lt2 : ∀ x ∈ p2, x.block < W.heap.size := by obtain ⟨m, hm⟩ := k2_; exact DataW.trod_lt m _ _ _ hm
  obtain ⟨x2, K2, o2⟩ := Opn.arg opn24 h2
  obtain ⟨_, _, e2, rfl, rfl⟩ := K2
  obtain rfl : cs2 = #[.int .i64 x2.1, .int .i64 x2.2] := agg_arg e2
  clear hA0 hval0 hsz0 hsz
  obtain ⟨k, hp⟩ := Pure.FnExactClockSee x0.1 x0.2 a1 x2.1 x2.2 o0 w1 o2
  refine (laws_FnExactClockSee.calls k x0.1 x0.2 a1 x2.1 x2.2 true W  hp rfl).mono fun e W' ⟨he, bel⟩ => ?_
  subst he
  exact ⟨_, rfl, _, _, _, [], _, [], hW', trodAll_mk1 (shut_bool Try.underlying4 _), (trodAll_cons_mk (Below.trod laidOut (by kernel_rfl) (of_decide_eq_true (by kernel_rfl)) k0_ bel lt0) (trodAll_cons_mk (shut_int Try.underlying3 w1) (trodAll_cons_mk (Below.trod laidOut (by kernel_rfl) (of_decide_eq_true (by kernel_rfl)) k2_ bel lt2) trodAll_mk0))), rfl, bel.frame _, fun h => by cases h⟩
theorem over : Rows.fnExactClockSeeRow.holds Try.pinned (OpenSpec.ofChange Rows.fnExactClockSeeSpec) :=
  OpenClaim.holds_of_wide 10 Try.f10 rfl rfl rfl rfl rfl rfl rfl ⟨rfl, rfl, rfl, rfl, rfl⟩ rfl rfl rfl rfl rfl (by kernel_rfl) Try.func10 (by kernel_rfl)
    (of_decide_eq_true (by kernel_rfl)) (by unfold Func.isWrapper; first | (rw [if_pos (by decide +kernel)]; kernel_rfl) | (rw [if_neg (by decide +kernel)]; exact ⟨rfl, rfl⟩))
    (fun os started H enc _ => lifted os started H enc)
theorem proved : Rows.FnExactClockSeeSaid := over
#print axioms proved
end Go.Proofs.Ythakgepdabdoeaa.fnExactClockSee
namespace Go.Proofs.Ythakgepdabdoeaa
/-- The row, under a short name, for the claim. -/
theorem fnExactClockSee_holds : Rows.FnExactClockSeeSaid := fnExactClockSee.proved
end Go.Proofs.Ythakgepdabdoeaa
