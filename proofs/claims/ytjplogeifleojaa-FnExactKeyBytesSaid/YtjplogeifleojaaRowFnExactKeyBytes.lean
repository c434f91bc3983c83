/- The law FnExactKeyBytes: whatever the input, the call returns true and its arguments read afterwards as before: the frame of the row over the function's contract and the plain law. No condition. -/
import Derived.Test.YtjplogeifleojaaRows
import Derived.Test.YtjplogeifleojaaQFnExactKeyBytesx7
import Derived.Test.YtjplogeifleojaaPureFnExactKeyBytes
import Derived.Test.YtjplogeifleojaaOpn
import Derived.WalkKit
import Derived.ProofKit
import Derived.OpenShut
import Derived.ShutString
import Derived.ChangeOld
import Derived.Below
import Derived.SizedLaws
import Derived.Carry
import Derived.KernelRfl
namespace Go.Proofs.Ytjplogeifleojaa.fnExactKeyBytes
open Go.ChangeShapes Go.WideShapes Go.ChangeAt Go.RowKit
open Go.ChangeMaps (open_string shut_string)
open Go.Proofs.YtjplogeifleojaaO Go.Proofs.YtjplogeifleojaaW.PrintWords Go.Proofs.Ytjplogeifleojaa.QFnExactKeyBytes
theorem own : ownKnob Try.prog.godebug = none := by kernel_rfl
theorem laidOut : laidOutB Try.prog = true := by kernel_rfl
def fld45_0 : Field := { name := "Kind", type := 3, offset := 0, embedded := false, tag := "", pkgPath := "", byteOffset := 0 }
def fld45_1 : Field := { name := "N", type := 3, offset := 1, embedded := false, tag := "", pkgPath := "", byteOffset := 8 }
def fld45_2 : Field := { name := "Scale", type := 3, offset := 2, embedded := false, tag := "", pkgPath := "", byteOffset := 16 }
def fld45_3 : Field := { name := "S", type := 9, offset := 3, embedded := false, tag := "", pkgPath := "", byteOffset := 24 }
theorem opn45 : Opn Try.prog k45 45 (fun x => (fun x => (fun n => (Lit.int .i64 n).wf = true) x.1 ∧ (fun x => (fun n => (Lit.int .i64 n).wf = true) x.1 ∧ (fun x => (fun n => (Lit.int .i64 n).wf = true) x.1 ∧ (fun s => s.size ≤ 9223372036854775807) x.2) x.2) x.2) ((x.f0, x.f1, x.f2, x.f3))) := Opn.struct (fs := #[fld45_0, fld45_1, fld45_2, fld45_3]) Try.underlying45 (by kernel_rfl) (OpnF.cons (f := fld45_0) (Opn.int Try.underlying3 (by kernel_rfl)) (OpnF.cons (f := fld45_1) (Opn.int Try.underlying3 (by kernel_rfl)) (OpnF.cons (f := fld45_2) (Opn.int Try.underlying3 (by kernel_rfl)) (OpnF.one (f := fld45_3) (Opn.string Try.underlying9 (by kernel_rfl))) rfl) rfl) rfl) (fun a => ⟨a.1, a.2.1, a.2.2.1, a.2.2.2⟩) (fun _ => rfl)
set_option maxRecDepth 100000 in
theorem lifted (os : Os) (started : os.Started) (H : Type) (enc : TypeId × Value → H) :
    ReturnsInHanded {} Try.checked os 3 .any (Rows.fnExactKeyBytesSpec.pre6 enc Try.prog Try.f3 Rows.fnExactKeyBytesRow.domain false) (Rows.fnExactKeyBytesSpec.post enc Try.prog Try.f3 false true false false) := by
  refine returnsInHanded_of_change_sized (C := Try.checked) own started (by kernel_rfl) Try.func3
    (ChangeSpec.witness6 (enc := enc) (C := Try.checked) false ⟨#[], #[.slice none 0 0], []⟩ 8 (by kernel_rfl) (by kernel_rfl) (by kernel_rfl) (by kernel_rfl)) ?_
  intro W base args ds gs before hval0 hW hcnd hsz0 _
  have hsz : (DataW.weightsEach Try.prog (Try.f3.params.toList ++ Rows.fnExactKeyBytesSpec.plain.varTypes Try.prog) (ds ++ gs)).all (· ≤ reachBytes) = true := hsz0
  have hval : ∀ (j : Nat) t v, Try.f3.params[j]? = some t → args[j]? = some v → Value.okWide Try.prog W .any base t v := hval0
  have hW' := hW
  obtain ⟨p, q, hA0, hV, rfl, hfz, hnd⟩ := hW
  have hA : DataW.TrodAll enc Try.prog W 0 (fun _ => true) true Try.f3.params.toList args.toList ds p := hA0
  rw [Try.params3] at hA hval hsz
  obtain ⟨v0, vs0, d0, ds0, p0, q0, hargs, rfl, rfl, h0, r0⟩ := trodAll_cons hA
  obtain ⟨rfl, rfl, rfl⟩ := trodAll_nil r0
  obtain rfl : args = #[v0] := by cases args; simp_all
  obtain ⟨rfl, rfl⟩ := trodVars_none hV
  obtain ⟨a0, len0, cap0, rfl⟩ := okWide_slice Try.underlying22 (hval 0 22 v0 rfl rfl)
  have k0_ := h0
  have lt0 : ∀ x ∈ p0, x.block < W.heap.size := by obtain ⟨m, hm⟩ := k0_; exact DataW.trod_lt m _ _ _ hm
  obtain ⟨l0, ⟨A0, c0, e0, hc0, hr0⟩, o0⟩ := Opn.arg (Opn.slice Try.underlying22 (by kernel_rfl) opn45) h0
  obtain ⟨rfl, rfl, rfl⟩ := slice_arg e0
  clear hA0 hval0 hsz0 hsz
  obtain ⟨k, hp⟩ := Pure.FnExactKeyBytes l0 o0
  refine (laws_FnExactKeyBytes.calls k _ _ l0 true W hr0 hc0 hp rfl).mono fun e W' ⟨he, bel⟩ => ?_
  subst he
  exact ⟨_, rfl, _, _, _, [], _, [], hW', trodAll_mk1 (shut_bool Try.underlying4 _), (trodAll_cons_mk (Below.trod laidOut (by kernel_rfl) (of_decide_eq_true (by kernel_rfl)) k0_ bel lt0) trodAll_mk0), rfl, bel.frame _, fun h => by cases h⟩
theorem over : Rows.fnExactKeyBytesRow.holds Try.pinned (OpenSpec.ofChange Rows.fnExactKeyBytesSpec) :=
  OpenClaim.holds_of_wide 3 Try.f3 rfl rfl rfl rfl rfl rfl rfl ⟨rfl, rfl, rfl, rfl, rfl⟩ rfl rfl rfl rfl rfl (by kernel_rfl) Try.func3 (by kernel_rfl)
    (of_decide_eq_true (by kernel_rfl)) (by unfold Func.isWrapper; first | (rw [if_pos (by decide +kernel)]; kernel_rfl) | (rw [if_neg (by decide +kernel)]; exact ⟨rfl, rfl⟩))
    (fun os started H enc _ => lifted os started H enc)
theorem proved : Rows.FnExactKeyBytesSaid := over
#print axioms proved
end Go.Proofs.Ytjplogeifleojaa.fnExactKeyBytes
namespace Go.Proofs.Ytjplogeifleojaa
/-- The row, under a short name, for the claim. -/
theorem fnExactKeyBytes_holds : Rows.FnExactKeyBytesSaid := fnExactKeyBytes.proved
end Go.Proofs.Ytjplogeifleojaa
