/- The functions that the law reaches, each as a plain Lean function with the proof that the Go code comes to its answers: written by a program of this session. No condition. -/
import Derived.Test.YtdgleppagokjhaaQFnExactRangeStepx0
import Derived.Test.YtdgleppagokjhaaQFnExactRangeStepx4
import Derived.Test.YtdgleppagokjhaaQFnExactRangeStepx5
import Derived.Test.YtdgleppagokjhaaQFnExactRangeStepx6
import Derived.Test.YtdgleppagokjhaaQFnExactRangeStepx7d
namespace Go.Proofs.Ytdgleppagokjhaa.QFnExactRangeStep
open Go.RowKit Go.Proofs.YtdgleppagokjhaaW.PrintWords Go.Proofs.YtdgleppagokjhaaW.PrintLast Go.Proofs.YtdgleppagokjhaaW.PrintMore
attribute [local go_sem] max2_int min2_int max_two min_two max_three min_three max_four min_four str_gtr str_leq str_geq pw_at_slice   -- for this text's walks alone
set_option linter.unusedVariables false
set_option linter.unusedSimpArgs false
theorem q7vrz0 {P : Prop} (h : P := by repeat (first | (with_reducible first | exact HB.out | apply below_alloc | apply pw_below_drewN | apply below_drew1 | refine below_set ?_ GE658.out | refine below_set ?_ GE665.out) | exact HB.out)) : P := h
theorem q7vrz1 {P : Prop} (h : P := by repeat (first | (with_reducible first | exact HB.out | apply below_alloc | apply pw_below_drewN | apply below_drew1 | refine below_set ?_ GE658.out) | exact HB.out)) : P := h
theorem q7vrz4 {P : Prop} (h : P := by first | (with_reducible assumption) | assumption) : P := h
theorem q7vrz6 {P : Prop} (h : P := by repeat (first | exact (Kd.C_below HR0.out HB.out) | (with_reducible refine Kd.C_alloc ?_ _) | (with_reducible refine Kd.C_drewN ?_ _) | (with_reducible refine Kd.C_drew ?_))) : P := h
theorem q7vrz20 {P : Prop} (h : P := by first | rfl | (simp; done) | (simp [*]; done)) : P := h
set_option maxHeartbeats 8000000 in
set_option maxRecDepth 100000 in
theorem spec_RangeStep.calls_r (k : Nat) (A0 : Option Addr) (c0 : Nat) (l0 : List (S30)) (a1_0 : Int) (a1_1 : Int) (a1_2 : ByteArray) (a1_3 : Int) (a1_4 : Int) (r1 : List (S30)) (r2 : Int) (w : World) (hr0 : Kd.C k30 w A0 l0.length l0) (hc0 : l0.length ≤ c0) (h : spec_RangeStep.f k l0 a1_0 a1_1 a1_2 a1_3 a1_4 = some (r1, r2)) (hkn : ¬ a1_0 = 1 ∧ ¬ a1_0 = 2 ∧ ¬ a1_0 = 3 ∧ ¬ a1_0 = 4) :
  Calls Try.prog 22 #[.slice A0 l0.length c0, .agg #[.int .i64 a1_0, .int .i64 a1_1, .string a1_2, .int .i64 a1_3, .int .i64 a1_4]] w fun e w' => ∃ v0_ : Value, e = .returned (.tuple #[v0_, .int .i64 r2]) ∧ Kd.R k30 30 w' w.heap.size (fun _ => True) v0_ r1 ∧ Below w.heap.size w w' := by
 have HKN := Aside0.mk hkn; clear hkn
 have hu43 := Try.underlying43; have hu30 := Try.underlying30; have HR0 := Aside0.mk hr0; have HC0 := Aside0.mk hc0; clear hr0 hc0; have HB := Aside0.mk (Below.refl w.heap.size w); have H : ((some (([] : List (S30)) : List (S30))).bind fun y659 => ((spec_RangesOK.f k l0).bind fun t662 => (if t662 = true then (if a1_0 < 1 then (spec_RangeStep.j0 k l0 y659 true a1_0 a1_1 a1_2 a1_3 a1_4) else (spec_RangeStep.j0 k l0 y659 (decide (a1_0 > 4)) a1_0 a1_1 a1_2 a1_3 a1_4)) else (spec_RangeStep.j0 k l0 y659 true a1_0 a1_1 a1_2 a1_3 a1_4)))) = some (r1, r2) := h; clear h; obtain ⟨y659, hy659⟩ : ∃ y_ : List (S30), y_ = (([] : List (S30))) := ⟨_, rfl⟩
 replace H : ((spec_RangesOK.f k l0).bind fun t662 => (if t662 = true then (if a1_0 < 1 then (spec_RangeStep.j0 k l0 y659 true a1_0 a1_1 a1_2 a1_3 a1_4) else (spec_RangeStep.j0 k l0 y659 (decide (a1_0 > 4)) a1_0 a1_1 a1_2 a1_3 a1_4)) else (spec_RangeStep.j0 k l0 y659 true a1_0 a1_1 a1_2 a1_3 a1_4))) = some (r1, r2) := by first | (rw [hy659]; with_reducible exact H) | (have H2_ := (Option.bind_some _ _).symm.trans H; rw [hy659]; with_reducible exact H2_) | (have H2_ := (Option.bind_some _ _).symm.trans H; with_reducible exact H2_) | with_reducible exact H | (rw [hy659]; exact H) | exact H
 have Ny659 := Aside0.mk hy659; clear hy659; have HC3 := Aside0.mk H; clear H
 go_enter Try.func22, Try.ntmps22
 go_upto_region 2 with (first | ((with_reducible refine gate_dst (N := 3) rfl ?_); refine box_event ?hg (N := 3) ?hd (cs := #[.int .i64 a1_0, .int .i64 a1_1, .string a1_2, .int .i64 a1_3, .int .i64 a1_4]) (t := 43) ?hr ?_; (case hd => rfl); (case hg => rfl); (case hr => first | (go_simp; done) | (go_simp; rfl)); intro gb658 hg w4 hbox hb; have n0_ := Aside0.mk (below_step zb hb); have n1_ := Aside0.mk (hbox); have n2_ := Aside0.mk ((by rw [hg]; exact (below_size zb) : w.heap.size ≤ gb658)); have n3_ := Aside0.mk ((by rw [hg]; exact (below_size zb) : w.heap.size ≤ gb658)); clear HB; have HB := n0_; have BK658 := n1_; have GW658 := n2_; have GE658 := n3_; clear n0_ n1_ n2_ n3_; clear hb hbox hg) | ((with_reducible refine gate_dst (N := 14) rfl ?_); refine Kd.R_lit k30 _ 30 ?hg (N := 14) ?hd (xs := ([] : List (S30))) (inner := []) (ok := fun _ => True) (okp := fun _ => True) ?hr ?hp (fun _ hk => hk) trivial (Below.refl _ _) (Nat.le_refl _) (by simp) ?_; (case hd => rfl); (case hg => rfl); (case hr => first | (go_simp; done) | (go_simp; rfl)); (case hp => exact (Reps.none _ _)); intro v660 w5 ho6 hb hg_ hnew_; clear hg_ hnew_; (first | rw [← Ny659.out] at ho6 | (simp only [Int.reduceToNat] at ho6; rw [← Ny659.out] at ho6)); have n0_ := Aside0.mk (Kd.R_lower ho6 (below_size q7vrz1)); have n1_ := Aside0.mk (blk_below (zk BK658.out) hb); have n2_ := Aside0.mk (below_step q7vrz1 hb); clear BK658; clear HB; have HO661 := n0_; have BK658 := n1_; have HB := n2_; clear n0_ n1_ n2_; clear hb ho6))
 (try simp only [Act.put, List.setIfInBounds_toArray, List.set_cons_zero, List.set_cons_succ])
 go_cut [27] (fun v27 wc => ∃ (kq : Nat) (x27_2 : Bool), v27 = .bool x27_2 ∧ Aside0 (spec_RangeStep.j0 kq l0 y659 x27_2 a1_0 a1_1 a1_2 a1_3 a1_4 = some (r1, r2)) ∧ Aside0 (kq ≤ k ∧ x27_2 = true) ∧ Aside0 (Kd.R k30 30 wc w.heap.size (fun _ => True) v660 y659) ∧ Aside0 (wc.heap[gb658]? = some (.cells #[.int .i64 a1_0, .int .i64 a1_1, .string a1_2, .int .i64 a1_3, .int .i64 a1_4] 43 (0, 0))) ∧ Aside0 (Below w.heap.size w wc))
 case first =>
  have H := HC3.out; clear HC3; replace H := Option.bind_eq_some_iff.mp H; obtain ⟨t662, A70, H⟩ := H; replace H : (if t662 = true then (if a1_0 < 1 then (spec_RangeStep.j0 k l0 y659 true a1_0 a1_1 a1_2 a1_3 a1_4) else (spec_RangeStep.j0 k l0 y659 (decide (a1_0 > 4)) a1_0 a1_1 a1_2 a1_3 a1_4)) else (spec_RangeStep.j0 k l0 y659 true a1_0 a1_1 a1_2 a1_3 a1_4)) = some (r1, r2) := H; have A7 := Aside0.mk A70; clear A70
  by_cases c8 : t662 = true
  ·subst c8
   have H1 : (if a1_0 < 1 then (spec_RangeStep.j0 k l0 y659 true a1_0 a1_1 a1_2 a1_3 a1_4) else (spec_RangeStep.j0 k l0 y659 (decide (a1_0 > 4)) a1_0 a1_1 a1_2 a1_3 a1_4)) = some (r1, r2) := by rw [if_pos rfl] at H; exact H
   clear H; have H := H1; clear H1
   by_cases c9 : a1_0 < 1
   ·rw [if_pos c9] at H
    have c9b0 : decide (a1_0 < 1) = true := decide_eq_true c9; clear c9; (first | rw [c9b0] | (simp only [i64_w, i32_w]; rw [c9b0]) | skip); have H' := Aside0.mk H; clear H
    go_wp2_with (first | ((with_reducible refine gate_callee (f := 10) rfl ?_); refine goesL_ (some 16) rfl rfl Try.func10 (by kernel_rfl) rfl #[.slice A0 l0.length c0] rfl zm ?_; (with_reducible refine (spec_RangesOK.calls k _ _ l0 true _ ?side1 ?side2 A7.out).mono ?_); (case side1 => exact q7vrz6); (case side2 => exact HC0.out); rintro e w10 ⟨rfl, hb⟩; refine ⟨_, rfl, ?_⟩; have n0_ := Aside0.mk (Kd.R_below (zr HO661.out) hb); have n1_ := Aside0.mk (blk_below (zk BK658.out) hb); have n2_ := Aside0.mk (below_step q7vrz1 hb); clear HO661; clear BK658; clear HB; have HO661 := n0_; have BK658 := n1_; have HB := n2_; clear n0_ n1_ n2_; (try clear hb); (try clear hb2); (try clear hk); (try clear hi); obtain ⟨y11_0, y11_1, y11_2, y11_3, y11_4⟩ := cl5R BK658.out; obtain ⟨z11_0, z11_1, z11_2, z11_3, z11_4⟩ := fz5R BK658.out))
    go_meet
    case rel => exact ⟨_, (true), q7vrz20, H', ⟨⟨by first | omega | exact Nat.le_refl _, rfl⟩⟩, ⟨zr HO661.out⟩, ⟨by (with_reducible repeat (first | refine blk_drewN ?_ _ | refine blk_drew ?_ | refine blk_alloc ?_ _)); exact BK658.out⟩, ⟨by repeat (first | (with_reducible first | exact HB.out | apply below_alloc | apply pw_below_drewN | apply below_drew1 | refine below_set ?_ GE658.out) | exact HB.out)⟩⟩
   ·rw [if_neg c9] at H
    have c9b0 : decide (a1_0 < 1) = false := decide_eq_false c9; clear c9; (first | rw [c9b0] | (simp only [i64_w, i32_w]; rw [c9b0]) | skip); have H' := Aside0.mk H; clear H
    go_wp2_with (first | ((with_reducible refine gate_callee (f := 10) rfl ?_); refine goesL_ (some 16) rfl rfl Try.func10 (by kernel_rfl) rfl #[.slice A0 l0.length c0] rfl zm ?_; (with_reducible refine (spec_RangesOK.calls k _ _ l0 true _ ?side1 ?side2 A7.out).mono ?_); (case side1 => exact q7vrz6); (case side2 => exact HC0.out); rintro e w12 ⟨rfl, hb⟩; refine ⟨_, rfl, ?_⟩; have n0_ := Aside0.mk (Kd.R_below (zr HO661.out) hb); have n1_ := Aside0.mk (blk_below (zk BK658.out) hb); have n2_ := Aside0.mk (below_step q7vrz1 hb); clear HO661; clear BK658; clear HB; have HO661 := n0_; have BK658 := n1_; have HB := n2_; clear n0_ n1_ n2_; (try clear hb); (try clear hb2); (try clear hk); (try clear hi); obtain ⟨y13_0, y13_1, y13_2, y13_3, y13_4⟩ := cl5R BK658.out; obtain ⟨z13_0, z13_1, z13_2, z13_3, z13_4⟩ := fz5R BK658.out))
    go_meet
    case rel => exact ⟨_, (decide (a1_0 > 4)), q7vrz20, H', ⟨⟨by first | omega | exact Nat.le_refl _, decide_eq_true (by have q1_ := HKN.out; have q2_ := of_decide_eq_false c9b0; omega)⟩⟩, ⟨zr HO661.out⟩, ⟨by (with_reducible repeat (first | refine blk_drewN ?_ _ | refine blk_drew ?_ | refine blk_alloc ?_ _)); exact BK658.out⟩, ⟨by repeat (first | (with_reducible first | exact HB.out | apply below_alloc | apply pw_below_drewN | apply below_drew1 | refine below_set ?_ GE658.out) | exact HB.out)⟩⟩
  ·replace c8 := Bool.eq_false_iff.mpr c8
   subst c8
   have H1 : (spec_RangeStep.j0 k l0 y659 true a1_0 a1_1 a1_2 a1_3 a1_4) = some (r1, r2) := by rw [if_neg (show ¬ (false = true) by decide)] at H; exact H
   clear H; have H := H1; clear H1; have H' := Aside0.mk H; clear H
   go_wp2_with (first | ((with_reducible refine gate_callee (f := 10) rfl ?_); refine goesL_ (some 16) rfl rfl Try.func10 (by kernel_rfl) rfl #[.slice A0 l0.length c0] rfl zm ?_; (with_reducible refine (spec_RangesOK.calls k _ _ l0 false _ ?side1 ?side2 A7.out).mono ?_); (case side1 => exact q7vrz6); (case side2 => exact HC0.out); rintro e w14 ⟨rfl, hb⟩; refine ⟨_, rfl, ?_⟩; have n0_ := Aside0.mk (Kd.R_below (zr HO661.out) hb); have n1_ := Aside0.mk (blk_below (zk BK658.out) hb); have n2_ := Aside0.mk (below_step q7vrz1 hb); clear HO661; clear BK658; clear HB; have HO661 := n0_; have BK658 := n1_; have HB := n2_; clear n0_ n1_ n2_; (try clear hb); (try clear hb2); (try clear hk); (try clear hi)))
   go_meet
   case rel => exact ⟨_, (true), q7vrz20, H', ⟨⟨by first | omega | exact Nat.le_refl _, rfl⟩⟩, ⟨zr HO661.out⟩, ⟨by (with_reducible repeat (first | refine blk_drewN ?_ _ | refine blk_drew ?_ | refine blk_alloc ?_ _)); exact BK658.out⟩, ⟨by repeat (first | (with_reducible first | exact HB.out | apply below_alloc | apply pw_below_drewN | apply below_drew1 | refine below_set ?_ GE658.out) | exact HB.out)⟩⟩
 case rest =>
  clear HC3; obtain ⟨kq, x27_2, rfl, HA, HJ2, HO_6, BK658, HB⟩ := hcut
  cases kq with
  | zero => exact absurd HA.out (by simp [spec_RangeStep.j0])
  | succ kj2 =>
   have H := HA.out; clear HA; simp only [spec_RangeStep.j0] at H
   by_cases c15 : x27_2 = true
   ·subst c15
    have H1 : (some (y659, 1)) = some (r1, r2) := by rw [if_pos rfl] at H; exact H
    clear H; have H := H1; clear H1; simp only [Option.some.injEq, Prod.mk.injEq] at H; obtain ⟨rfl, rfl⟩ := H
    go_wp2
    go_ret2
    exact ⟨_, by first | rfl | (simp [errW_none, errW_some] <;> rfl) | (simp [*, errW_none, errW_some] <;> rfl), by (with_reducible repeat (first | apply Kd.R_alloc | apply Kd.R_drewN | apply Kd.R_drew)); exact HO_6.out, by repeat (first | (with_reducible first | exact HB.out | apply below_alloc | apply pw_below_drewN | apply below_drew1 | refine below_set ?_ GE658.out) | exact HB.out)⟩
   ·exact absurd HJ2.out.2 c15

end Go.Proofs.Ytdgleppagokjhaa.QFnExactRangeStep
