/- The law FnExactTableOK: whatever the input, the call returns true and its arguments read afterwards as before: the frame of the row over the function's contract and the plain law. No condition. -/
import Derived.Test.YtiolnbhcmoafjaaRows
import Derived.Test.YtiolnbhcmoafjaaQFnExactTableOKx11
import Derived.Test.YtiolnbhcmoafjaaPureFnExactTableOK
import Derived.Test.YtiolnbhcmoafjaaOpn
import Derived.WalkKit
import Derived.ProofKit
import Derived.OpenShut
import Derived.ShutString
import Derived.ChangeOld
import Derived.Below
import Derived.SizedLaws
import Derived.HandedShaped
import Derived.Carry
import Derived.KernelRfl
namespace Go.Proofs.Ytiolnbhcmoafjaa.fnExactTableOK
open Go.ChangeShapes Go.WideShapes Go.ChangeAt Go.RowKit
open Go.ChangeMaps (open_string shut_string)
open Go.Proofs.YtiolnbhcmoafjaaO Go.Proofs.YtiolnbhcmoafjaaW.PrintWords Go.Proofs.Ytiolnbhcmoafjaa.QFnExactTableOK
theorem own : ownKnob Try.prog.godebug = none := by kernel_rfl
theorem laidOut : laidOutB Try.prog = true := by kernel_rfl
def fld101_0 : Field := { name := "Id", type := 3, offset := 0, embedded := false, tag := "", pkgPath := "", byteOffset := 0 }
def fld101_1 : Field := { name := "Name", type := 9, offset := 1, embedded := false, tag := "", pkgPath := "", byteOffset := 8 }
def fld101_2 : Field := { name := "Kind", type := 3, offset := 2, embedded := false, tag := "", pkgPath := "", byteOffset := 24 }
def fld101_3 : Field := { name := "Need", type := 4, offset := 3, embedded := false, tag := "", pkgPath := "", byteOffset := 32 }
theorem opn101 : Opn Try.prog k101 101 (fun x => (fun x => (fun n => (Lit.int .i64 n).wf = true) x.1 ∧ (fun x => (fun s => s.size ≤ 9223372036854775807) x.1 ∧ (fun x => (fun n => (Lit.int .i64 n).wf = true) x.1 ∧ (fun _ => True) x.2) x.2) x.2) ((x.f0, x.f1, x.f2, x.f3))) := Opn.struct (fs := #[fld101_0, fld101_1, fld101_2, fld101_3]) Try.underlying101 (by kernel_rfl) (OpnF.cons (f := fld101_0) (Opn.int Try.underlying3 (by kernel_rfl)) (OpnF.cons (f := fld101_1) (Opn.string Try.underlying9 (by kernel_rfl)) (OpnF.cons (f := fld101_2) (Opn.int Try.underlying3 (by kernel_rfl)) (OpnF.one (f := fld101_3) (Opn.bool Try.underlying4 (by kernel_rfl))) rfl) rfl) rfl) (fun a => ⟨a.1, a.2.1, a.2.2.1, a.2.2.2⟩) (fun _ => rfl)
def fld103_0 : Field := { name := "Id", type := 3, offset := 0, embedded := false, tag := "", pkgPath := "", byteOffset := 0 }
def fld103_1 : Field := { name := "Name", type := 9, offset := 1, embedded := false, tag := "", pkgPath := "", byteOffset := 8 }
def fld103_2 : Field := { name := "Cols", type := 47, offset := 2, embedded := false, tag := "", pkgPath := "", byteOffset := 24 }
def fld103_3 : Field := { name := "Unique", type := 4, offset := 3, embedded := false, tag := "", pkgPath := "", byteOffset := 48 }
def fld103_4 : Field := { name := "Stage", type := 3, offset := 4, embedded := false, tag := "", pkgPath := "", byteOffset := 56 }
def fld103_5 : Field := { name := "Going", type := 4, offset := 5, embedded := false, tag := "", pkgPath := "", byteOffset := 64 }
theorem opn103 : Opn Try.prog k103 103 (fun x => (fun x => (fun n => (Lit.int .i64 n).wf = true) x.1 ∧ (fun x => (fun s => s.size ≤ 9223372036854775807) x.1 ∧ (fun x => (fun l => l.length ≤ 9223372036854775807 ∧ ∀ x ∈ l, (fun n => (Lit.int .i64 n).wf = true) x) x.1 ∧ (fun x => (fun _ => True) x.1 ∧ (fun x => (fun n => (Lit.int .i64 n).wf = true) x.1 ∧ (fun _ => True) x.2) x.2) x.2) x.2) x.2) ((x.f0, x.f1, x.f2, x.f3, x.f4, x.f5))) := Opn.struct (fs := #[fld103_0, fld103_1, fld103_2, fld103_3, fld103_4, fld103_5]) Try.underlying103 (by kernel_rfl) (OpnF.cons (f := fld103_0) (Opn.int Try.underlying3 (by kernel_rfl)) (OpnF.cons (f := fld103_1) (Opn.string Try.underlying9 (by kernel_rfl)) (OpnF.cons (f := fld103_2) (Opn.slice Try.underlying47 (by kernel_rfl) (Opn.int Try.underlying3 (by kernel_rfl))) (OpnF.cons (f := fld103_3) (Opn.bool Try.underlying4 (by kernel_rfl)) (OpnF.cons (f := fld103_4) (Opn.int Try.underlying3 (by kernel_rfl)) (OpnF.one (f := fld103_5) (Opn.bool Try.underlying4 (by kernel_rfl))) rfl) rfl) rfl) rfl) rfl) (fun a => ⟨a.1, a.2.1, a.2.2.1, a.2.2.2.1, a.2.2.2.2.1, a.2.2.2.2.2⟩) (fun _ => rfl)
def fld50_0 : Field := { name := "Id", type := 3, offset := 0, embedded := false, tag := "", pkgPath := "", byteOffset := 0 }
def fld50_1 : Field := { name := "Name", type := 9, offset := 1, embedded := false, tag := "", pkgPath := "", byteOffset := 8 }
def fld50_2 : Field := { name := "Ver", type := 3, offset := 2, embedded := false, tag := "", pkgPath := "", byteOffset := 24 }
def fld50_3 : Field := { name := "Cols", type := 46, offset := 3, embedded := false, tag := "", pkgPath := "", byteOffset := 32 }
def fld50_4 : Field := { name := "Key", type := 47, offset := 4, embedded := false, tag := "", pkgPath := "", byteOffset := 56 }
def fld50_5 : Field := { name := "Indexes", type := 48, offset := 5, embedded := false, tag := "", pkgPath := "", byteOffset := 80 }
theorem opn50 : Opn Try.prog (Kd.iso (Kd.pair (Kd.int .i64) (Kd.pair Kd.string (Kd.pair (Kd.int .i64) (Kd.pair (Kd.slice 101 k101) (Kd.pair (Kd.slice 3 (Kd.int .i64)) (Kd.slice 103 k103)))))) id) 50 (fun x => (fun x => (fun n => (Lit.int .i64 n).wf = true) x.1 ∧ (fun x => (fun s => s.size ≤ 9223372036854775807) x.1 ∧ (fun x => (fun n => (Lit.int .i64 n).wf = true) x.1 ∧ (fun x => (fun l => l.length ≤ 9223372036854775807 ∧ ∀ x ∈ l, (fun x : S101 => (fun x => (fun n => (Lit.int .i64 n).wf = true) x.1 ∧ (fun x => (fun s => s.size ≤ 9223372036854775807) x.1 ∧ (fun x => (fun n => (Lit.int .i64 n).wf = true) x.1 ∧ (fun _ => True) x.2) x.2) x.2) ((x.f0, x.f1, x.f2, x.f3))) x) x.1 ∧ (fun x => (fun l => l.length ≤ 9223372036854775807 ∧ ∀ x ∈ l, (fun n => (Lit.int .i64 n).wf = true) x) x.1 ∧ (fun l => l.length ≤ 9223372036854775807 ∧ ∀ x ∈ l, (fun x : S103 => (fun x => (fun n => (Lit.int .i64 n).wf = true) x.1 ∧ (fun x => (fun s => s.size ≤ 9223372036854775807) x.1 ∧ (fun x => (fun l => l.length ≤ 9223372036854775807 ∧ ∀ x ∈ l, (fun n => (Lit.int .i64 n).wf = true) x) x.1 ∧ (fun x => (fun _ => True) x.1 ∧ (fun x => (fun n => (Lit.int .i64 n).wf = true) x.1 ∧ (fun _ => True) x.2) x.2) x.2) x.2) x.2) ((x.f0, x.f1, x.f2, x.f3, x.f4, x.f5))) x) x.2) x.2) x.2) x.2) x.2) (id x)) := Opn.struct (fs := #[fld50_0, fld50_1, fld50_2, fld50_3, fld50_4, fld50_5]) Try.underlying50 (by kernel_rfl) (OpnF.cons (f := fld50_0) (Opn.int Try.underlying3 (by kernel_rfl)) (OpnF.cons (f := fld50_1) (Opn.string Try.underlying9 (by kernel_rfl)) (OpnF.cons (f := fld50_2) (Opn.int Try.underlying3 (by kernel_rfl)) (OpnF.cons (f := fld50_3) (Opn.slice Try.underlying46 (by kernel_rfl) opn101) (OpnF.cons (f := fld50_4) (Opn.slice Try.underlying47 (by kernel_rfl) (Opn.int Try.underlying3 (by kernel_rfl))) (OpnF.one (f := fld50_5) (Opn.slice Try.underlying48 (by kernel_rfl) opn103)) rfl) rfl) rfl) rfl) rfl) id (fun _ => rfl)
set_option maxRecDepth 100000 in
theorem lifted (os : Os) (started : os.Started) (H : Type) (enc : TypeId × Value → H) :
    ReturnsInHanded {} Try.checked os 5 .any (Rows.fnExactTableOKSpec.pre6 enc Try.prog Try.f5 Rows.fnExactTableOKRow.domain false) (Rows.fnExactTableOKSpec.post enc Try.prog Try.f5 false true false false) := by
  refine returnsInHanded_of_change_shaped (C := Try.checked) own started (by kernel_rfl) Try.func5
    (ChangeSpec.witness6 (enc := enc) (C := Try.checked) false ⟨#[], #[.agg #[.int .i64 0, .string ByteArray.empty, .int .i64 0, .slice none 0 0, .slice none 0 0, .slice none 0 0]], []⟩ 8 (by kernel_rfl) (by kernel_rfl) (by kernel_rfl) (by kernel_rfl)) ?_
  intro W base args ds gs before hval0 hW hcnd hsz0 hsh _
  have hsz : (DataW.weightsEach Try.prog (Try.f5.params.toList ++ Rows.fnExactTableOKSpec.plain.varTypes Try.prog) (ds ++ gs)).all (· ≤ reachBytes) = true := hsz0
  have hval : ∀ (j : Nat) t v, Try.f5.params[j]? = some t → args[j]? = some v → Value.okWide Try.prog W .any base t v := hval0
  have hW' := hW
  obtain ⟨p, q, hA0, hV, rfl, hfz, hnd⟩ := hW
  have hA : DataW.TrodAll enc Try.prog W 0 (fun _ => true) true Try.f5.params.toList args.toList ds p := hA0
  rw [Try.params5] at hA hval hsz
  obtain ⟨v0, vs0, d0, ds0, p0, q0, hargs, rfl, rfl, h0, r0⟩ := trodAll_cons hA
  obtain ⟨rfl, rfl, rfl⟩ := trodAll_nil r0
  obtain rfl : args = #[v0] := by cases args; simp_all
  obtain ⟨rfl, rfl⟩ := trodVars_none hV
  obtain ⟨cs0, rfl, _⟩ := okWide_struct Try.underlying50 (hval 0 50 v0 rfl rfl)
  have k0_ := h0
  have lt0 : ∀ x ∈ p0, x.block < W.heap.size := by obtain ⟨m, hm⟩ := k0_; exact DataW.trod_lt m _ _ _ hm
  obtain ⟨x0, K0, o0⟩ := Opn.arg opn50 h0
  obtain ⟨_, _, e0, rfl, ⟨_, _, rfl, rfl, ⟨_, _, rfl, rfl, ⟨_, _, rfl, ⟨A0_3, c0_3, rfl, hc0_3, hr0_3⟩, ⟨_, _, rfl, ⟨A0_4, c0_4, rfl, hc0_4, hr0_4⟩, ⟨A0_5, c0_5, rfl, hc0_5, hr0_5⟩⟩⟩⟩⟩⟩ := K0
  obtain rfl : cs0 = #[.int .i64 x0.1, .string x0.2.1, .int .i64 x0.2.2.1, .slice A0_3 x0.2.2.2.1.length c0_3, .slice A0_4 x0.2.2.2.2.1.length c0_4, .slice A0_5 x0.2.2.2.2.2.length c0_5] := agg_arg e0
  clear hA0 hval0 hsz0 hsz
  obtain ⟨k, hp⟩ := Pure.FnExactTableOK x0.1 x0.2.1 x0.2.2.1 x0.2.2.2.1 x0.2.2.2.2.1 x0.2.2.2.2.2 o0
  refine (laws_FnExactTableOK.calls k x0.1 x0.2.1 x0.2.2.1 _ _ x0.2.2.2.1 _ _ x0.2.2.2.2.1 _ _ x0.2.2.2.2.2 true W hr0_3 hc0_3 hr0_4 hc0_4 hr0_5 hc0_5 hp rfl (Try.laysM219.s1_3 W hsh)).mono fun e W' ⟨he, bel⟩ => ?_
  subst he
  exact ⟨_, rfl, _, _, _, [], _, [], hW', trodAll_mk1 (shut_bool Try.underlying4 _), (trodAll_cons_mk (Below.trod laidOut (by kernel_rfl) (of_decide_eq_true (by kernel_rfl)) k0_ bel lt0) trodAll_mk0), rfl, bel.frame _, fun h => by cases h⟩
theorem over : Rows.fnExactTableOKRow.holds Try.pinned (OpenSpec.ofChange Rows.fnExactTableOKSpec) :=
  OpenClaim.holds_of_wide 5 Try.f5 rfl rfl rfl rfl rfl rfl rfl ⟨rfl, rfl, rfl, rfl, rfl⟩ rfl rfl rfl rfl rfl (by kernel_rfl) Try.func5 (by kernel_rfl)
    (of_decide_eq_true (by kernel_rfl)) (by unfold Func.isWrapper; first | (rw [if_pos (by decide +kernel)]; kernel_rfl) | (rw [if_neg (by decide +kernel)]; exact ⟨rfl, rfl⟩))
    (fun os started H enc _ => lifted os started H enc)
theorem proved : Rows.FnExactTableOKSaid := over
#print axioms proved
end Go.Proofs.Ytiolnbhcmoafjaa.fnExactTableOK
namespace Go.Proofs.Ytiolnbhcmoafjaa
/-- The row, under a short name, for the claim. -/
theorem fnExactTableOK_holds : Rows.FnExactTableOKSaid := fnExactTableOK.proved
end Go.Proofs.Ytiolnbhcmoafjaa
