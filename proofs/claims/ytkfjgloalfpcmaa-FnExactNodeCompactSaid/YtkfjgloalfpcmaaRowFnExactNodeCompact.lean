/- The law FnExactNodeCompact: whatever the input, the call returns true and its arguments read afterwards as before: the frame of the row over the function's contract and the plain law. No condition. -/
import Derived.Test.YtkfjgloalfpcmaaRows
import Derived.Test.YtkfjgloalfpcmaaCompL
import Derived.Test.YtkfjgloalfpcmaaPureFnExactNodeCompact
import Derived.Test.YtkfjgloalfpcmaaOpn
import Derived.WalkKit
import Derived.ProofKit
import Derived.OpenShut
import Derived.ShutString
import Derived.ChangeOld
import Derived.Below
import Derived.SizedLaws
import Derived.Carry
import Derived.KernelRfl
namespace Go.Proofs.Ytkfjgloalfpcmaa.fnExactNodeCompact
open Go.ChangeShapes Go.WideShapes Go.ChangeAt Go.RowKit
open Go.ChangeMaps (open_string shut_string)
open Go.Proofs.YtkfjgloalfpcmaaO Go.Proofs.YtkfjgloalfpcmaaW.PrintWords Go.Proofs.Ytkfjgloalfpcmaa.QFnExactNodeOK
theorem own : ownKnob Try.prog.godebug = none := by kernel_rfl
theorem laidOut : laidOutB Try.prog = true := by kernel_rfl
def fld88_0 : Field := { name := "Term", type := 3, offset := 0, embedded := false, tag := "", pkgPath := "", byteOffset := 0 }
def fld88_1 : Field := { name := "Kind", type := 3, offset := 1, embedded := false, tag := "", pkgPath := "", byteOffset := 8 }
def fld88_2 : Field := { name := "Data", type := 9, offset := 2, embedded := false, tag := "", pkgPath := "", byteOffset := 16 }
def fld88_3 : Field := { name := "Old", type := 3, offset := 3, embedded := false, tag := "", pkgPath := "", byteOffset := 32 }
def fld88_4 : Field := { name := "New", type := 3, offset := 4, embedded := false, tag := "", pkgPath := "", byteOffset := 40 }
theorem opn88 : Opn Try.prog k88 88 (fun x => (fun x => (fun n => (Lit.int .i64 n).wf = true) x.1 ∧ (fun x => (fun n => (Lit.int .i64 n).wf = true) x.1 ∧ (fun x => (fun s => s.size ≤ 9223372036854775807) x.1 ∧ (fun x => (fun n => (Lit.int .i64 n).wf = true) x.1 ∧ (fun n => (Lit.int .i64 n).wf = true) x.2) x.2) x.2) x.2) ((x.f0, x.f1, x.f2, x.f3, x.f4))) := Opn.struct (fs := #[fld88_0, fld88_1, fld88_2, fld88_3, fld88_4]) Try.underlying88 (by kernel_rfl) (OpnF.cons (f := fld88_0) (Opn.int Try.underlying3 (by kernel_rfl)) (OpnF.cons (f := fld88_1) (Opn.int Try.underlying3 (by kernel_rfl)) (OpnF.cons (f := fld88_2) (Opn.string Try.underlying9 (by kernel_rfl)) (OpnF.cons (f := fld88_3) (Opn.int Try.underlying3 (by kernel_rfl)) (OpnF.one (f := fld88_4) (Opn.int Try.underlying3 (by kernel_rfl))) rfl) rfl) rfl) rfl) (fun a => ⟨a.1, a.2.1, a.2.2.1, a.2.2.2.1, a.2.2.2.2⟩) (fun _ => rfl)
def fld25_0 : Field := { name := "Id", type := 3, offset := 0, embedded := false, tag := "", pkgPath := "", byteOffset := 0 }
def fld25_1 : Field := { name := "Term", type := 3, offset := 1, embedded := false, tag := "", pkgPath := "", byteOffset := 8 }
def fld25_2 : Field := { name := "Vote", type := 3, offset := 2, embedded := false, tag := "", pkgPath := "", byteOffset := 16 }
def fld25_3 : Field := { name := "Role", type := 3, offset := 3, embedded := false, tag := "", pkgPath := "", byteOffset := 24 }
def fld25_4 : Field := { name := "Lead", type := 3, offset := 4, embedded := false, tag := "", pkgPath := "", byteOffset := 32 }
def fld25_5 : Field := { name := "Log", type := 22, offset := 5, embedded := false, tag := "", pkgPath := "", byteOffset := 40 }
def fld25_6 : Field := { name := "Base", type := 3, offset := 6, embedded := false, tag := "", pkgPath := "", byteOffset := 64 }
def fld25_7 : Field := { name := "BaseTerm", type := 3, offset := 7, embedded := false, tag := "", pkgPath := "", byteOffset := 72 }
def fld25_8 : Field := { name := "BaseOld", type := 3, offset := 8, embedded := false, tag := "", pkgPath := "", byteOffset := 80 }
def fld25_9 : Field := { name := "BaseNew", type := 3, offset := 9, embedded := false, tag := "", pkgPath := "", byteOffset := 88 }
def fld25_10 : Field := { name := "BaseSum", type := 3, offset := 10, embedded := false, tag := "", pkgPath := "", byteOffset := 96 }
def fld25_11 : Field := { name := "Commit", type := 3, offset := 11, embedded := false, tag := "", pkgPath := "", byteOffset := 104 }
def fld25_12 : Field := { name := "Wait", type := 3, offset := 12, embedded := false, tag := "", pkgPath := "", byteOffset := 112 }
def fld25_13 : Field := { name := "Votes", type := 3, offset := 13, embedded := false, tag := "", pkgPath := "", byteOffset := 120 }
def fld25_14 : Field := { name := "Next", type := 23, offset := 14, embedded := false, tag := "", pkgPath := "", byteOffset := 128 }
def fld25_15 : Field := { name := "Match", type := 23, offset := 15, embedded := false, tag := "", pkgPath := "", byteOffset := 152 }
theorem opn25 : Opn Try.prog (Kd.iso (Kd.pair (Kd.int .i64) (Kd.pair (Kd.int .i64) (Kd.pair (Kd.int .i64) (Kd.pair (Kd.int .i64) (Kd.pair (Kd.int .i64) (Kd.pair (Kd.slice 88 k88) (Kd.pair (Kd.int .i64) (Kd.pair (Kd.int .i64) (Kd.pair (Kd.int .i64) (Kd.pair (Kd.int .i64) (Kd.pair (Kd.int .i64) (Kd.pair (Kd.int .i64) (Kd.pair (Kd.int .i64) (Kd.pair (Kd.int .i64) (Kd.pair (Kd.slice 3 (Kd.int .i64)) (Kd.slice 3 (Kd.int .i64))))))))))))))))) id) 25 (fun x => (fun x => (fun n => (Lit.int .i64 n).wf = true) x.1 ∧ (fun x => (fun n => (Lit.int .i64 n).wf = true) x.1 ∧ (fun x => (fun n => (Lit.int .i64 n).wf = true) x.1 ∧ (fun x => (fun n => (Lit.int .i64 n).wf = true) x.1 ∧ (fun x => (fun n => (Lit.int .i64 n).wf = true) x.1 ∧ (fun x => (fun l => l.length ≤ 9223372036854775807 ∧ ∀ x ∈ l, (fun x : S88 => (fun x => (fun n => (Lit.int .i64 n).wf = true) x.1 ∧ (fun x => (fun n => (Lit.int .i64 n).wf = true) x.1 ∧ (fun x => (fun s => s.size ≤ 9223372036854775807) x.1 ∧ (fun x => (fun n => (Lit.int .i64 n).wf = true) x.1 ∧ (fun n => (Lit.int .i64 n).wf = true) x.2) x.2) x.2) x.2) ((x.f0, x.f1, x.f2, x.f3, x.f4))) x) x.1 ∧ (fun x => (fun n => (Lit.int .i64 n).wf = true) x.1 ∧ (fun x => (fun n => (Lit.int .i64 n).wf = true) x.1 ∧ (fun x => (fun n => (Lit.int .i64 n).wf = true) x.1 ∧ (fun x => (fun n => (Lit.int .i64 n).wf = true) x.1 ∧ (fun x => (fun n => (Lit.int .i64 n).wf = true) x.1 ∧ (fun x => (fun n => (Lit.int .i64 n).wf = true) x.1 ∧ (fun x => (fun n => (Lit.int .i64 n).wf = true) x.1 ∧ (fun x => (fun n => (Lit.int .i64 n).wf = true) x.1 ∧ (fun x => (fun l => l.length ≤ 9223372036854775807 ∧ ∀ x ∈ l, (fun n => (Lit.int .i64 n).wf = true) x) x.1 ∧ (fun l => l.length ≤ 9223372036854775807 ∧ ∀ x ∈ l, (fun n => (Lit.int .i64 n).wf = true) x) x.2) x.2) x.2) x.2) x.2) x.2) x.2) x.2) x.2) x.2) x.2) x.2) x.2) x.2) x.2) (id x)) := Opn.struct (fs := #[fld25_0, fld25_1, fld25_2, fld25_3, fld25_4, fld25_5, fld25_6, fld25_7, fld25_8, fld25_9, fld25_10, fld25_11, fld25_12, fld25_13, fld25_14, fld25_15]) Try.underlying25 (by kernel_rfl) (OpnF.cons (f := fld25_0) (Opn.int Try.underlying3 (by kernel_rfl)) (OpnF.cons (f := fld25_1) (Opn.int Try.underlying3 (by kernel_rfl)) (OpnF.cons (f := fld25_2) (Opn.int Try.underlying3 (by kernel_rfl)) (OpnF.cons (f := fld25_3) (Opn.int Try.underlying3 (by kernel_rfl)) (OpnF.cons (f := fld25_4) (Opn.int Try.underlying3 (by kernel_rfl)) (OpnF.cons (f := fld25_5) (Opn.slice Try.underlying22 (by kernel_rfl) opn88) (OpnF.cons (f := fld25_6) (Opn.int Try.underlying3 (by kernel_rfl)) (OpnF.cons (f := fld25_7) (Opn.int Try.underlying3 (by kernel_rfl)) (OpnF.cons (f := fld25_8) (Opn.int Try.underlying3 (by kernel_rfl)) (OpnF.cons (f := fld25_9) (Opn.int Try.underlying3 (by kernel_rfl)) (OpnF.cons (f := fld25_10) (Opn.int Try.underlying3 (by kernel_rfl)) (OpnF.cons (f := fld25_11) (Opn.int Try.underlying3 (by kernel_rfl)) (OpnF.cons (f := fld25_12) (Opn.int Try.underlying3 (by kernel_rfl)) (OpnF.cons (f := fld25_13) (Opn.int Try.underlying3 (by kernel_rfl)) (OpnF.cons (f := fld25_14) (Opn.slice Try.underlying23 (by kernel_rfl) (Opn.int Try.underlying3 (by kernel_rfl))) (OpnF.one (f := fld25_15) (Opn.slice Try.underlying23 (by kernel_rfl) (Opn.int Try.underlying3 (by kernel_rfl)))) rfl) rfl) rfl) rfl) rfl) rfl) rfl) rfl) rfl) rfl) rfl) rfl) rfl) rfl) rfl) id (fun _ => rfl)
set_option maxRecDepth 100000 in
theorem lifted (os : Os) (started : os.Started) (H : Type) (enc : TypeId × Value → H) :
    ReturnsInHanded {} Try.checked os 7 .any (Rows.fnExactNodeCompactSpec.pre6 enc Try.prog Try.f7 Rows.fnExactNodeCompactRow.domain false) (Rows.fnExactNodeCompactSpec.post enc Try.prog Try.f7 false true false false) := by
  refine returnsInHanded_of_change_sized (C := Try.checked) own started (by kernel_rfl) Try.func7
    (ChangeSpec.witness6 (enc := enc) (C := Try.checked) false ⟨#[], #[.agg #[.int .i64 0, .int .i64 0, .int .i64 0, .int .i64 0, .int .i64 0, .slice none 0 0, .int .i64 0, .int .i64 0, .int .i64 0, .int .i64 0, .int .i64 0, .int .i64 0, .int .i64 0, .int .i64 0, .slice none 0 0, .slice none 0 0], .int .i64 0], []⟩ 8 (by kernel_rfl) (by kernel_rfl) (by kernel_rfl) (by kernel_rfl)) ?_
  intro W base args ds gs before hval0 hW hcnd hsz0 _
  have hsz : (DataW.weightsEach Try.prog (Try.f7.params.toList ++ Rows.fnExactNodeCompactSpec.plain.varTypes Try.prog) (ds ++ gs)).all (· ≤ reachBytes) = true := hsz0
  have hval : ∀ (j : Nat) t v, Try.f7.params[j]? = some t → args[j]? = some v → Value.okWide Try.prog W .any base t v := hval0
  have hW' := hW
  obtain ⟨p, q, hA0, hV, rfl, hfz, hnd⟩ := hW
  have hA : DataW.TrodAll enc Try.prog W 0 (fun _ => true) true Try.f7.params.toList args.toList ds p := hA0
  rw [Try.params7] at hA hval hsz
  obtain ⟨v0, vs0, d0, ds0, p0, q0, hargs, rfl, rfl, h0, r0⟩ := trodAll_cons hA
  obtain ⟨v1, vs1, d1, ds1, p1, q1, rfl, rfl, rfl, h1, r1⟩ := trodAll_cons r0
  obtain ⟨rfl, rfl, rfl⟩ := trodAll_nil r1
  obtain rfl : args = #[v0, v1] := by cases args; simp_all
  obtain ⟨rfl, rfl⟩ := trodVars_none hV
  obtain ⟨cs0, rfl, _⟩ := okWide_struct Try.underlying25 (hval 0 25 v0 rfl rfl)
  have k0_ := h0
  have lt0 : ∀ x ∈ p0, x.block < W.heap.size := by obtain ⟨m, hm⟩ := k0_; exact DataW.trod_lt m _ _ _ hm
  obtain ⟨x0, K0, o0⟩ := Opn.arg opn25 h0
  obtain ⟨_, _, e0, rfl, ⟨_, _, rfl, rfl, ⟨_, _, rfl, rfl, ⟨_, _, rfl, rfl, ⟨_, _, rfl, rfl, ⟨_, _, rfl, ⟨A0_5, c0_5, rfl, hc0_5, hr0_5⟩, ⟨_, _, rfl, rfl, ⟨_, _, rfl, rfl, ⟨_, _, rfl, rfl, ⟨_, _, rfl, rfl, ⟨_, _, rfl, rfl, ⟨_, _, rfl, rfl, ⟨_, _, rfl, rfl, ⟨_, _, rfl, rfl, ⟨_, _, rfl, ⟨A0_14, c0_14, rfl, hc0_14, hr0_14⟩, ⟨A0_15, c0_15, rfl, hc0_15, hr0_15⟩⟩⟩⟩⟩⟩⟩⟩⟩⟩⟩⟩⟩⟩⟩⟩ := K0
  obtain rfl : cs0 = #[.int .i64 x0.1, .int .i64 x0.2.1, .int .i64 x0.2.2.1, .int .i64 x0.2.2.2.1, .int .i64 x0.2.2.2.2.1, .slice A0_5 x0.2.2.2.2.2.1.length c0_5, .int .i64 x0.2.2.2.2.2.2.1, .int .i64 x0.2.2.2.2.2.2.2.1, .int .i64 x0.2.2.2.2.2.2.2.2.1, .int .i64 x0.2.2.2.2.2.2.2.2.2.1, .int .i64 x0.2.2.2.2.2.2.2.2.2.2.1, .int .i64 x0.2.2.2.2.2.2.2.2.2.2.2.1, .int .i64 x0.2.2.2.2.2.2.2.2.2.2.2.2.1, .int .i64 x0.2.2.2.2.2.2.2.2.2.2.2.2.2.1, .slice A0_14 x0.2.2.2.2.2.2.2.2.2.2.2.2.2.2.1.length c0_14, .slice A0_15 x0.2.2.2.2.2.2.2.2.2.2.2.2.2.2.2.length c0_15] := agg_arg e0
  obtain ⟨a1, rfl, rfl, rfl, w1⟩ := open_int Try.underlying3 (hval 1 3 v1 rfl rfl) h1
  clear hA0 hval0 hsz0 hsz
  obtain ⟨k, hp⟩ := Pure.FnExactNodeCompact x0.1 x0.2.1 x0.2.2.1 x0.2.2.2.1 x0.2.2.2.2.1 x0.2.2.2.2.2.1 x0.2.2.2.2.2.2.1 x0.2.2.2.2.2.2.2.1 x0.2.2.2.2.2.2.2.2.1 x0.2.2.2.2.2.2.2.2.2.1 x0.2.2.2.2.2.2.2.2.2.2.1 x0.2.2.2.2.2.2.2.2.2.2.2.1 x0.2.2.2.2.2.2.2.2.2.2.2.2.1 x0.2.2.2.2.2.2.2.2.2.2.2.2.2.1 x0.2.2.2.2.2.2.2.2.2.2.2.2.2.2.1 x0.2.2.2.2.2.2.2.2.2.2.2.2.2.2.2 a1 o0 w1
  refine (laws_FnExactNodeCompact.calls k x0.1 x0.2.1 x0.2.2.1 x0.2.2.2.1 x0.2.2.2.2.1 _ _ x0.2.2.2.2.2.1 x0.2.2.2.2.2.2.1 x0.2.2.2.2.2.2.2.1 x0.2.2.2.2.2.2.2.2.1 x0.2.2.2.2.2.2.2.2.2.1 x0.2.2.2.2.2.2.2.2.2.2.1 x0.2.2.2.2.2.2.2.2.2.2.2.1 x0.2.2.2.2.2.2.2.2.2.2.2.2.1 x0.2.2.2.2.2.2.2.2.2.2.2.2.2.1 _ _ x0.2.2.2.2.2.2.2.2.2.2.2.2.2.2.1 _ _ x0.2.2.2.2.2.2.2.2.2.2.2.2.2.2.2 a1 true W hr0_5 hc0_5 hr0_14 hc0_14 hr0_15 hc0_15 hp rfl).mono fun e W' ⟨he, bel⟩ => ?_
  subst he
  exact ⟨_, rfl, _, _, _, [], _, [], hW', trodAll_mk1 (shut_bool Try.underlying4 _), (trodAll_cons_mk (Below.trod laidOut (by kernel_rfl) (of_decide_eq_true (by kernel_rfl)) k0_ bel lt0) (trodAll_cons_mk (shut_int Try.underlying3 w1) trodAll_mk0)), rfl, bel.frame _, fun h => by cases h⟩
theorem over : Rows.fnExactNodeCompactRow.holds Try.pinned (OpenSpec.ofChange Rows.fnExactNodeCompactSpec) :=
  OpenClaim.holds_of_wide 7 Try.f7 rfl rfl rfl rfl rfl rfl rfl ⟨rfl, rfl, rfl, rfl, rfl⟩ rfl rfl rfl rfl rfl (by kernel_rfl) Try.func7 (by kernel_rfl)
    (of_decide_eq_true (by kernel_rfl)) (by unfold Func.isWrapper; first | (rw [if_pos (by decide +kernel)]; kernel_rfl) | (rw [if_neg (by decide +kernel)]; exact ⟨rfl, rfl⟩))
    (fun os started H enc _ => lifted os started H enc)
theorem proved : Rows.FnExactNodeCompactSaid := over
#print axioms proved
end Go.Proofs.Ytkfjgloalfpcmaa.fnExactNodeCompact
namespace Go.Proofs.Ytkfjgloalfpcmaa
/-- The row, under a short name, for the claim. -/
theorem fnExactNodeCompact_holds : Rows.FnExactNodeCompactSaid := fnExactNodeCompact.proved
end Go.Proofs.Ytkfjgloalfpcmaa
