/- The functions that the law reaches, each as a plain Lean function with the proof that the Go code comes to its answers: written by a program of this session. No condition. -/
import Derived.Test.YtdgleppagokjhaaRsD
namespace Go.Proofs.Ytdgleppagokjhaa.QFnExactRangeStep
open Go.RowKit Go.Proofs.YtdgleppagokjhaaW.PrintWords Go.Proofs.YtdgleppagokjhaaW.PrintLast Go.Proofs.YtdgleppagokjhaaW.PrintMore
attribute [local go_sem] max2_int min2_int max_two min_two max_three min_three max_four min_four str_gtr str_leq str_geq pw_at_slice   -- for this text's walks alone
set_option linter.unusedVariables false
set_option linter.unusedSimpArgs false
set_option maxHeartbeats 8000000 in
set_option maxRecDepth 100000 in
theorem impl_RangeStep.calls_1 (k : Nat) (A0 : Option Addr) (c0 : Nat) (l0 : List (S30)) (a1_0 : Int) (a1_1 : Int) (a1_2 : ByteArray) (a1_3 : Int) (a1_4 : Int) (r1 : List (S30)) (r2 : Int) (w : World) (hr0 : Kd.C k30 w A0 l0.length l0) (hc0 : l0.length ≤ c0) (hln : l0.length ≤ 64) (h : impl_RangeStep.f k l0 a1_0 a1_1 a1_2 a1_3 a1_4 = some (r1, r2)) (hkn : a1_0 = 1 ∧ ¬ a1_2.toList = ([] : List UInt8) ∧ ¬ (4000 : Int) < a1_2.size ∧ ¬ a1_3 < 1 ∧ ¬ a1_3 > 1000000) :
  Calls Try.prog 24 #[.slice A0 l0.length c0, .agg #[.int .i64 a1_0, .int .i64 a1_1, .string a1_2, .int .i64 a1_3, .int .i64 a1_4]] w fun e w' => ∃ v0_ : Value, e = .returned (.tuple #[v0_, .int .i64 r2]) ∧ Kd.R k30 30 w' w.heap.size (fun _ => True) v0_ r1 ∧ Below w.heap.size w w' := by
 have HKN := Aside0.mk hkn
 clear hkn
 have hu43 := Try.underlying43
 have hu30 := Try.underlying30
 have HR0 := Aside0.mk hr0
 have HC0 := Aside0.mk hc0
 clear hr0 hc0
 have HB := Aside0.mk (Below.refl w.heap.size w)
 have H : ((impl_RangesOK.f k l0).bind fun t820 => (if t820 = true then (if a1_0 < 1 then (impl_RangeStep.j0 k l0 true a1_0 a1_1 a1_2 a1_3 a1_4) else (impl_RangeStep.j0 k l0 (decide (a1_0 > 4)) a1_0 a1_1 a1_2 a1_3 a1_4)) else (impl_RangeStep.j0 k l0 true a1_0 a1_1 a1_2 a1_3 a1_4))) = some (r1, r2) := h
 clear h
 have HC3 := Aside0.mk H
 clear H
 go_enter Try.func24, Try.ntmps24
 go_upto_region 1 with (first | ((with_reducible refine gate_dst (N := 3) rfl ?_); refine box_event ?hg (N := 3) ?hd (cs := #[.int .i64 a1_0, .int .i64 a1_1, .string a1_2, .int .i64 a1_3, .int .i64 a1_4]) (t := 43) ?hr ?_; (case hd => rfl); (case hg => rfl); (case hr => first | (go_simp; done) | (go_simp; rfl)); intro gb819 hg w4 hbox hb; have n0_ := Aside0.mk (below_step (by repeat (first | (with_reducible first | exact HB.out | apply below_alloc | apply pw_below_drewN | apply below_drew1) | exact HB.out)) hb); have n1_ := Aside0.mk (hbox); have n2_ := Aside0.mk ((by rw [hg]; exact (below_size (by repeat (first | (with_reducible first | exact HB.out | apply below_alloc | apply pw_below_drewN | apply below_drew1) | exact HB.out))) : w.heap.size ≤ gb819)); have n3_ := Aside0.mk ((by rw [hg]; exact (below_size (by repeat (first | (with_reducible first | exact HB.out | apply below_alloc | apply pw_below_drewN | apply below_drew1) | exact HB.out))) : w.heap.size ≤ gb819)); clear HB; have HB := n0_; have BK819 := n1_; have GW819 := n2_; have GE819 := n3_; clear n0_ n1_ n2_ n3_; clear hb hbox hg))
 (try simp only [Act.put, List.setIfInBounds_toArray, List.set_cons_zero, List.set_cons_succ])
 go_cut [27] (fun v27 wc => ∃ (kq : Nat) (x27_2 : Bool), v27 = .bool x27_2 ∧ Aside0 (impl_RangeStep.j0 kq l0 x27_2 a1_0 a1_1 a1_2 a1_3 a1_4 = some (r1, r2)) ∧ Aside0 (kq ≤ k) ∧ Aside0 (wc.heap[gb819]? = some (.cells #[.int .i64 a1_0, .int .i64 a1_1, .string a1_2, .int .i64 a1_3, .int .i64 a1_4] 43 (0, 0))) ∧ Aside0 (Below w.heap.size w wc))
 case first =>
  have H := HC3.out
  clear HC3
  replace H := Option.bind_eq_some_iff.mp H
  obtain ⟨t820, A50, H⟩ := H
  replace H : (if t820 = true then (if a1_0 < 1 then (impl_RangeStep.j0 k l0 true a1_0 a1_1 a1_2 a1_3 a1_4) else (impl_RangeStep.j0 k l0 (decide (a1_0 > 4)) a1_0 a1_1 a1_2 a1_3 a1_4)) else (impl_RangeStep.j0 k l0 true a1_0 a1_1 a1_2 a1_3 a1_4)) = some (r1, r2) := H
  have A5 := Aside0.mk A50
  clear A50
  by_cases c6 : t820 = true
  ·subst c6
   have H1 : (if a1_0 < 1 then (impl_RangeStep.j0 k l0 true a1_0 a1_1 a1_2 a1_3 a1_4) else (impl_RangeStep.j0 k l0 (decide (a1_0 > 4)) a1_0 a1_1 a1_2 a1_3 a1_4)) = some (r1, r2) := by rw [if_pos rfl] at H; exact H
   clear H
   have H := H1
   clear H1
   by_cases c7 : a1_0 < 1
   ·rw [if_pos c7] at H
    have c7b0 : decide (a1_0 < 1) = true := decide_eq_true c7
    clear c7
    (first | rw [c7b0] | (simp only [i64_w, i32_w]; rw [c7b0]) | skip)
    have H' := Aside0.mk H
    clear H
    go_wp2_with (first | ((with_reducible refine gate_callee (f := 12) rfl ?_); refine goesL_ (some 16) rfl rfl Try.func12 (by kernel_rfl) rfl #[.slice A0 l0.length c0] rfl (by (try simp only [List.map_toArray, List.map_cons, List.map_nil]); first | done | rfl | (simp only [List.length_drop, List.length_take]; rfl)) ?_; (with_reducible refine (impl_RangesOK.calls k _ _ l0 true _ ?side1 ?side2 A5.out).mono ?_); (case side1 => repeat (first | exact (Kd.C_below HR0.out HB.out) | (with_reducible refine Kd.C_alloc ?_ _) | (with_reducible refine Kd.C_drewN ?_ _) | (with_reducible refine Kd.C_drew ?_))); (case side2 => exact HC0.out); rintro e w8 ⟨rfl, hb⟩; refine ⟨_, rfl, ?_⟩; have n0_ := Aside0.mk (blk_below (g := gb819) (o := .cells #[.int .i64 a1_0, .int .i64 a1_1, .string a1_2, .int .i64 a1_3, .int .i64 a1_4] 43 (0, 0)) (by (with_reducible repeat (first | refine blk_drewN ?_ _ | refine blk_drew ?_ | refine blk_alloc ?_ _)); exact BK819.out) hb); have n1_ := Aside0.mk (below_step (by repeat (first | (with_reducible first | exact HB.out | apply below_alloc | apply pw_below_drewN | apply below_drew1 | refine below_set ?_ GE819.out) | exact HB.out)) hb); clear BK819; clear HB; have BK819 := n0_; have HB := n1_; clear n0_ n1_; (try clear hb); (try clear hb2); (try clear hk); (try clear hi); have hcz9_0 : w8.cell? ⟨gb819, 0, none⟩ = some (.int .i64 a1_0) := (blk_cell BK819.out 0).trans rfl; have hcz9_1 : w8.cell? ⟨gb819, 1, none⟩ = some (.int .i64 a1_1) := (blk_cell BK819.out 1).trans rfl; have hcz9_2 : w8.cell? ⟨gb819, 2, none⟩ = some (.string a1_2) := (blk_cell BK819.out 2).trans rfl; have hcz9_3 : w8.cell? ⟨gb819, 3, none⟩ = some (.int .i64 a1_3) := (blk_cell BK819.out 3).trans rfl; have hcz9_4 : w8.cell? ⟨gb819, 4, none⟩ = some (.int .i64 a1_4) := (blk_cell BK819.out 4).trans rfl; have hfz9_0 := blk_frozen BK819.out 0; have hfz9_1 := blk_frozen BK819.out 1; have hfz9_2 := blk_frozen BK819.out 2; have hfz9_3 := blk_frozen BK819.out 3; have hfz9_4 := blk_frozen BK819.out 4))
    go_meet
    case rel => exact ⟨_, (true), (by first | rfl | (simp; done) | (simp [*]; done)), H', ⟨by first | omega | exact Nat.le_refl _⟩, ⟨by (with_reducible repeat (first | refine blk_drewN ?_ _ | refine blk_drew ?_ | refine blk_alloc ?_ _)); exact BK819.out⟩, ⟨by repeat (first | (with_reducible first | exact HB.out | apply below_alloc | apply pw_below_drewN | apply below_drew1 | refine below_set ?_ GE819.out) | exact HB.out)⟩⟩
   ·rw [if_neg c7] at H
    have c7b0 : decide (a1_0 < 1) = false := decide_eq_false c7
    clear c7
    (first | rw [c7b0] | (simp only [i64_w, i32_w]; rw [c7b0]) | skip)
    have H' := Aside0.mk H
    clear H
    go_wp2_with (first | ((with_reducible refine gate_callee (f := 12) rfl ?_); refine goesL_ (some 16) rfl rfl Try.func12 (by kernel_rfl) rfl #[.slice A0 l0.length c0] rfl (by (try simp only [List.map_toArray, List.map_cons, List.map_nil]); first | done | rfl | (simp only [List.length_drop, List.length_take]; rfl)) ?_; (with_reducible refine (impl_RangesOK.calls k _ _ l0 true _ ?side1 ?side2 A5.out).mono ?_); (case side1 => repeat (first | exact (Kd.C_below HR0.out HB.out) | (with_reducible refine Kd.C_alloc ?_ _) | (with_reducible refine Kd.C_drewN ?_ _) | (with_reducible refine Kd.C_drew ?_))); (case side2 => exact HC0.out); rintro e w10 ⟨rfl, hb⟩; refine ⟨_, rfl, ?_⟩; have n0_ := Aside0.mk (blk_below (g := gb819) (o := .cells #[.int .i64 a1_0, .int .i64 a1_1, .string a1_2, .int .i64 a1_3, .int .i64 a1_4] 43 (0, 0)) (by (with_reducible repeat (first | refine blk_drewN ?_ _ | refine blk_drew ?_ | refine blk_alloc ?_ _)); exact BK819.out) hb); have n1_ := Aside0.mk (below_step (by repeat (first | (with_reducible first | exact HB.out | apply below_alloc | apply pw_below_drewN | apply below_drew1 | refine below_set ?_ GE819.out) | exact HB.out)) hb); clear BK819; clear HB; have BK819 := n0_; have HB := n1_; clear n0_ n1_; (try clear hb); (try clear hb2); (try clear hk); (try clear hi); have hcz11_0 : w10.cell? ⟨gb819, 0, none⟩ = some (.int .i64 a1_0) := (blk_cell BK819.out 0).trans rfl; have hcz11_1 : w10.cell? ⟨gb819, 1, none⟩ = some (.int .i64 a1_1) := (blk_cell BK819.out 1).trans rfl; have hcz11_2 : w10.cell? ⟨gb819, 2, none⟩ = some (.string a1_2) := (blk_cell BK819.out 2).trans rfl; have hcz11_3 : w10.cell? ⟨gb819, 3, none⟩ = some (.int .i64 a1_3) := (blk_cell BK819.out 3).trans rfl; have hcz11_4 : w10.cell? ⟨gb819, 4, none⟩ = some (.int .i64 a1_4) := (blk_cell BK819.out 4).trans rfl; have hfz11_0 := blk_frozen BK819.out 0; have hfz11_1 := blk_frozen BK819.out 1; have hfz11_2 := blk_frozen BK819.out 2; have hfz11_3 := blk_frozen BK819.out 3; have hfz11_4 := blk_frozen BK819.out 4))
    go_meet
    case rel => exact ⟨_, (decide (a1_0 > 4)), (by first | rfl | (simp; done) | (simp [*]; done)), H', ⟨by first | omega | exact Nat.le_refl _⟩, ⟨by (with_reducible repeat (first | refine blk_drewN ?_ _ | refine blk_drew ?_ | refine blk_alloc ?_ _)); exact BK819.out⟩, ⟨by repeat (first | (with_reducible first | exact HB.out | apply below_alloc | apply pw_below_drewN | apply below_drew1 | refine below_set ?_ GE819.out) | exact HB.out)⟩⟩
  ·replace c6 := Bool.eq_false_iff.mpr c6
   subst c6
   have H1 : (impl_RangeStep.j0 k l0 true a1_0 a1_1 a1_2 a1_3 a1_4) = some (r1, r2) := by rw [if_neg (show ¬ (false = true) by decide)] at H; exact H
   clear H
   have H := H1
   clear H1
   have H' := Aside0.mk H
   clear H
   go_wp2_with (first | ((with_reducible refine gate_callee (f := 12) rfl ?_); refine goesL_ (some 16) rfl rfl Try.func12 (by kernel_rfl) rfl #[.slice A0 l0.length c0] rfl (by (try simp only [List.map_toArray, List.map_cons, List.map_nil]); first | done | rfl | (simp only [List.length_drop, List.length_take]; rfl)) ?_; (with_reducible refine (impl_RangesOK.calls k _ _ l0 false _ ?side1 ?side2 A5.out).mono ?_); (case side1 => repeat (first | exact (Kd.C_below HR0.out HB.out) | (with_reducible refine Kd.C_alloc ?_ _) | (with_reducible refine Kd.C_drewN ?_ _) | (with_reducible refine Kd.C_drew ?_))); (case side2 => exact HC0.out); rintro e w12 ⟨rfl, hb⟩; refine ⟨_, rfl, ?_⟩; have n0_ := Aside0.mk (blk_below (g := gb819) (o := .cells #[.int .i64 a1_0, .int .i64 a1_1, .string a1_2, .int .i64 a1_3, .int .i64 a1_4] 43 (0, 0)) (by (with_reducible repeat (first | refine blk_drewN ?_ _ | refine blk_drew ?_ | refine blk_alloc ?_ _)); exact BK819.out) hb); have n1_ := Aside0.mk (below_step (by repeat (first | (with_reducible first | exact HB.out | apply below_alloc | apply pw_below_drewN | apply below_drew1 | refine below_set ?_ GE819.out) | exact HB.out)) hb); clear BK819; clear HB; have BK819 := n0_; have HB := n1_; clear n0_ n1_; (try clear hb); (try clear hb2); (try clear hk); (try clear hi)))
   go_meet
   case rel => exact ⟨_, (true), (by first | rfl | (simp; done) | (simp [*]; done)), H', ⟨by first | omega | exact Nat.le_refl _⟩, ⟨by (with_reducible repeat (first | refine blk_drewN ?_ _ | refine blk_drew ?_ | refine blk_alloc ?_ _)); exact BK819.out⟩, ⟨by repeat (first | (with_reducible first | exact HB.out | apply below_alloc | apply pw_below_drewN | apply below_drew1 | refine below_set ?_ GE819.out) | exact HB.out)⟩⟩
 case rest =>
  clear HC3
  try clear c1
  try clear c2
  try clear p2
  try clear c6
  try clear c7
  try clear c7b0
  try clear c12
  try clear hcz11_0
  try clear hcz11_1
  try clear hcz11_2
  try clear hcz11_3
  try clear hcz11_4
  try clear hcz9_0
  try clear hcz9_1
  try clear hcz9_2
  try clear hcz9_3
  try clear hcz9_4
  try clear hfz11_0
  try clear hfz11_1
  try clear hfz11_2
  try clear hfz11_3
  try clear hfz11_4
  try clear hfz9_0
  try clear hfz9_1
  try clear hfz9_2
  try clear hfz9_3
  try clear hfz9_4
  obtain ⟨kq, x27_2, rfl, HA, HJ2, BK819, HB⟩ := hcut
  cases kq with
  | zero => exact absurd HA.out (by simp [impl_RangeStep.j0])
  | succ kj2 =>
   have H := HA.out
   clear HA
   simp only [impl_RangeStep.j0] at H
   by_cases c13 : x27_2 = true
   ·subst c13
    have H1 : (some (([] : List (S30)), 1)) = some (r1, r2) := by rw [if_pos rfl] at H; exact H
    clear H
    have H := H1
    clear H1
    simp only [Option.some.injEq, Prod.mk.injEq] at H
    obtain ⟨rfl, rfl⟩ := H
    go_wp2
    go_ret2
    exact ⟨_, by first | rfl | (simp [errW_none, errW_some] <;> rfl) | (simp [*, errW_none, errW_some] <;> rfl), by first | exact Kd.R_nil _ _ _ _ _ | exact Kd.N_nil _ _ _ _ _ | exact Kd.V_nil _ _ _ _ _ | exact Kd.Q_nil _ _ _ _ _ | exact Kd.S_nil _ _ _ _ _, by repeat (first | (with_reducible first | exact HB.out | apply below_alloc | apply pw_below_drewN | apply below_drew1 | refine below_set ?_ GE819.out) | exact HB.out)⟩
   ·replace c13 := Bool.eq_false_iff.mpr c13
    subst c13
    have H1 : (impl_RangeStep.l0 kj2 (-1) false l0 (l0.length : Int) 0 a1_0 a1_1 a1_2 a1_3 a1_4) = some (r1, r2) := by rw [if_neg (show ¬ (false = true) by decide)] at H; exact H
    clear H
    have H := H1
    clear H1
    have H' := Aside0.mk H
    clear H
    go_wp2
    go_loopg [6, 7, 30] kj2 (fun kq v6 v7 v30 w' => ∃ (x6_2 : Int) (x7_2 : Bool) (x30_2 : Int), v6 = .int .i64 x6_2 ∧ v7 = .bool x7_2 ∧ v30 = .int .i64 x30_2 ∧ Aside0 (impl_RangeStep.l0 kq x6_2 x7_2 l0 (l0.length : Int) x30_2 a1_0 a1_1 a1_2 a1_3 a1_4 = some (r1, r2)) ∧ Aside0 (kq ≤ kj2) ∧ Aside0 (w'.heap[gb819]? = some (.cells #[.int .i64 a1_0, .int .i64 a1_1, .string a1_2, .int .i64 a1_3, .int .i64 a1_4] 43 (0, 0))) ∧ Aside0 (Below w.heap.size w w'))
    case atStart => exact ⟨((-1)), (false), (0), (by first | rfl | (simp; done) | (simp [*]; done)), (by first | rfl | (simp; done) | (simp [*]; done)), (by first | rfl | (simp; done) | (simp [*]; done)), H', ⟨Nat.le_refl _⟩, ⟨by (with_reducible repeat (first | refine blk_drewN ?_ _ | refine blk_drew ?_ | refine blk_alloc ?_ _)); exact BK819.out⟩, ⟨by repeat (first | (with_reducible first | exact HB.out | apply below_alloc | apply pw_below_drewN | apply below_drew1 | refine below_set ?_ GE819.out) | exact HB.out)⟩⟩
    case round =>
     clear H'
     try clear c1
     try clear c2
     try clear p2
     try clear c6
     try clear c7
     try clear c7b0
     try clear c12
     try clear c13
     try clear hcz11_0
     try clear hcz11_1
     try clear hcz11_2
     try clear hcz11_3
     try clear hcz11_4
     try clear hcz9_0
     try clear hcz9_1
     try clear hcz9_2
     try clear hcz9_3
     try clear hcz9_4
     try clear hfz11_0
     try clear hfz11_1
     try clear hfz11_2
     try clear hfz11_3
     try clear hfz11_4
     try clear hfz9_0
     try clear hfz9_1
     try clear hfz9_2
     try clear hfz9_3
     try clear hfz9_4
     try clear p2
     obtain ⟨x6_2, x7_2, x30_2, rfl, rfl, rfl, HA, HK2, BK819, HB⟩ := hrel
     cases gk with
     | zero => exact absurd HA.out (by simp [impl_RangeStep.l0])
     | succ k2 =>
      have H := HA.out
      clear HA
      simp only [impl_RangeStep.l0] at H
      by_cases c14 : x30_2 < (l0.length : Int)
      ·rw [if_pos c14] at H
       have c14b0 : decide (x30_2 < (l0.length : Int)) = true := decide_eq_true c14
       clear c14
       by_cases c15 : 0 ≤ x30_2
       ·rw [if_pos c15] at H
        have c15b0 : decide (0 ≤ x30_2) = true := decide_eq_true c15
        clear c15
        by_cases c16 : x30_2 < (l0.length : Int)
        ·rw [if_pos c16] at H
         have c16b0 : decide (x30_2 < (l0.length : Int)) = true := decide_eq_true c16
         clear c16
         by_cases c17 : ((rd_T30 l0 x30_2).f0) = a1_1
         ·rw [if_pos c17] at H
          have c17b0 : (((rd_T30 l0 x30_2).f0) == a1_1) = true := beq_iff_eq.mpr c17
          have c17b1 : (((rd_T30 l0 x30_2).f0) != a1_1) = false := bne_eq_false_iff_eq.mpr c17
          clear c17
          by_cases c18 : x7_2 = true
          ·subst c18
           have H1 : (impl_RangeStep.l0 k2 x30_2 true l0 (l0.length : Int) (wrap64 (x30_2 + 1)) a1_0 a1_1 a1_2 a1_3 a1_4) = some (r1, r2) := by rw [if_pos rfl] at H; exact H
           clear H
           have H := H1
           clear H1
           have H' := Aside0.mk H
           clear H
           have p821 : 0 ≤ (x30_2 : Int) := of_decide_eq_true (by first | (with_reducible assumption) | assumption)
           have q821 : x30_2 < (l0.length : Int) := of_decide_eq_true (by first | (with_reducible assumption) | assumption)
           obtain ⟨ad821, e821, hx821_0, hx821_1, hx821_2, hx821_3, hx821_4, hx821_5⟩ := at_T30 HR0.out x30_2 p821 q821
           cases e821
           replace hx821_0 := (HB.out.cell (World.block_lt_of_cell? w _ hx821_0)).trans hx821_0
           replace hx821_1 := (HB.out.cell (World.block_lt_of_cell? w _ hx821_1)).trans hx821_1
           replace hx821_2 := (HB.out.cell (World.block_lt_of_cell? w _ hx821_2)).trans hx821_2
           replace hx821_3 := (HB.out.cell (World.block_lt_of_cell? w _ hx821_3)).trans hx821_3
           replace hx821_4 := (HB.out.cell (World.block_lt_of_cell? w _ hx821_4)).trans hx821_4
           replace hx821_5 := (HB.out.cell (World.block_lt_of_cell? w _ hx821_5)).trans hx821_5
           replace p821 := eq_true p821
           replace q821 := eq_true q821
           go_wp2_with (first | ((with_reducible refine gate_dst (N := 9) rfl ?_); refine box_event ?hg (N := 9) ?hd (cs := #[.int .i64 0, .string (⟨#[]⟩ : ByteArray), .string (⟨#[]⟩ : ByteArray), .int .i64 0, .int .i64 0, .int .i64 0]) (t := 30) ?hr ?_; (case hd => rfl); (case hg => rfl); (case hr => first | (go_simp; done) | (go_simp; rfl)); intro gb822 hg w19 hbox hb; have n0_ := Aside0.mk (blk_below (g := gb819) (o := .cells #[.int .i64 a1_0, .int .i64 a1_1, .string a1_2, .int .i64 a1_3, .int .i64 a1_4] 43 (0, 0)) (by (with_reducible repeat (first | refine blk_drewN ?_ _ | refine blk_drew ?_ | refine blk_alloc ?_ _)); exact BK819.out) hb); have n1_ := Aside0.mk (below_step (by repeat (first | (with_reducible first | exact HB.out | apply below_alloc | apply pw_below_drewN | apply below_drew1 | refine below_set ?_ GE819.out) | exact HB.out)) hb); have n2_ := Aside0.mk (hbox); have n3_ := Aside0.mk ((by rw [hg]; exact (below_size (by repeat (first | (with_reducible first | exact HB.out | apply below_alloc | apply pw_below_drewN | apply below_drew1 | refine below_set ?_ GE819.out) | exact HB.out))) : w.heap.size ≤ gb822)); have n4_ := Aside0.mk ((by rw [hg]; exact (below_size (by repeat (first | (with_reducible first | exact HB.out | apply below_alloc | apply pw_below_drewN | apply below_drew1 | refine below_set ?_ GE819.out) | exact HB.out))) : w.heap.size ≤ gb822)); have n5_ := Aside0.mk ((by rw [hg]; exact Nat.ne_of_lt (blk_lt (g := gb819) (o := .cells #[.int .i64 a1_0, .int .i64 a1_1, .string a1_2, .int .i64 a1_3, .int .i64 a1_4] 43 (0, 0)) (by (with_reducible repeat (first | refine blk_drewN ?_ _ | refine blk_drew ?_ | refine blk_alloc ?_ _)); exact BK819.out)) : gb819 ≠ gb822)); have n6_ := Aside0.mk ((by rw [hg]; exact Nat.ne_of_gt (blk_lt (g := gb819) (o := .cells #[.int .i64 a1_0, .int .i64 a1_1, .string a1_2, .int .i64 a1_3, .int .i64 a1_4] 43 (0, 0)) (by (with_reducible repeat (first | refine blk_drewN ?_ _ | refine blk_drew ?_ | refine blk_alloc ?_ _)); exact BK819.out)) : gb822 ≠ gb819)); clear BK819; clear HB; have BK819 := n0_; have HB := n1_; have BK822 := n2_; have GW822 := n3_; have GE822 := n4_; have NB819_822 := n5_; have NB822_819 := n6_; clear n0_ n1_ n2_ n3_ n4_ n5_ n6_; clear hb hbox hg; have hnb20 := NB822_819.out; have hnc20 := NB819_822.out; have hcz21_0 : w19.cell? ⟨gb822, 0, none⟩ = some (.int .i64 0) := (blk_cell BK822.out 0).trans rfl; have hcz21_1 : w19.cell? ⟨gb822, 1, none⟩ = some (.string (⟨#[]⟩ : ByteArray)) := (blk_cell BK822.out 1).trans rfl; have hcz21_2 : w19.cell? ⟨gb822, 2, none⟩ = some (.string (⟨#[]⟩ : ByteArray)) := (blk_cell BK822.out 2).trans rfl; have hcz21_3 : w19.cell? ⟨gb822, 3, none⟩ = some (.int .i64 0) := (blk_cell BK822.out 3).trans rfl; have hcz21_4 : w19.cell? ⟨gb822, 4, none⟩ = some (.int .i64 0) := (blk_cell BK822.out 4).trans rfl; have hcz21_5 : w19.cell? ⟨gb822, 5, none⟩ = some (.int .i64 0) := (blk_cell BK822.out 5).trans rfl; have hfz21_0 := blk_frozen BK822.out 0; have hfz21_1 := blk_frozen BK822.out 1; have hfz21_2 := blk_frozen BK822.out 2; have hfz21_3 := blk_frozen BK822.out 3; have hfz21_4 := blk_frozen BK822.out 4; have hfz21_5 := blk_frozen BK822.out 5; have hcz22_0 : w19.cell? ⟨gb819, 0, none⟩ = some (.int .i64 a1_0) := (blk_cell BK819.out 0).trans rfl; have hcz22_1 : w19.cell? ⟨gb819, 1, none⟩ = some (.int .i64 a1_1) := (blk_cell BK819.out 1).trans rfl; have hcz22_2 : w19.cell? ⟨gb819, 2, none⟩ = some (.string a1_2) := (blk_cell BK819.out 2).trans rfl; have hcz22_3 : w19.cell? ⟨gb819, 3, none⟩ = some (.int .i64 a1_3) := (blk_cell BK819.out 3).trans rfl; have hcz22_4 : w19.cell? ⟨gb819, 4, none⟩ = some (.int .i64 a1_4) := (blk_cell BK819.out 4).trans rfl; have hfz22_0 := blk_frozen BK819.out 0; have hfz22_1 := blk_frozen BK819.out 1; have hfz22_2 := blk_frozen BK819.out 2; have hfz22_3 := blk_frozen BK819.out 3; have hfz22_4 := blk_frozen BK819.out 4))
           go_roundg k2
           case measure => have := HJ2.out; have := HK2.out; omega
           case rel => exact ⟨(x30_2), (true), (wrap64 (x30_2 + 1)), (by first | rfl | (simp; done) | (simp [*]; done)), (by first | rfl | (simp; done) | (simp [*]; done)), (by first | rfl | (simp; done) | (simp [*]; done)), H', ⟨by have := HJ2.out; have := HK2.out; omega⟩, ⟨by (with_reducible repeat (first | refine blk_drewN ?_ _ | refine blk_drew ?_ | refine blk_alloc ?_ _)); refine blk_far ?_ NB819_822.out _; (with_reducible repeat (first | refine blk_drewN ?_ _ | refine blk_drew ?_ | refine blk_alloc ?_ _)); refine blk_far ?_ NB819_822.out _; (with_reducible repeat (first | refine blk_drewN ?_ _ | refine blk_drew ?_ | refine blk_alloc ?_ _)); refine blk_far ?_ NB819_822.out _; (with_reducible repeat (first | refine blk_drewN ?_ _ | refine blk_drew ?_ | refine blk_alloc ?_ _)); refine blk_far ?_ NB819_822.out _; (with_reducible repeat (first | refine blk_drewN ?_ _ | refine blk_drew ?_ | refine blk_alloc ?_ _)); refine blk_far ?_ NB819_822.out _; (with_reducible repeat (first | refine blk_drewN ?_ _ | refine blk_drew ?_ | refine blk_alloc ?_ _)); refine blk_far ?_ NB819_822.out _; (with_reducible repeat (first | refine blk_drewN ?_ _ | refine blk_drew ?_ | refine blk_alloc ?_ _)); exact BK819.out⟩, ⟨by repeat (first | (with_reducible first | exact HB.out | apply below_alloc | apply pw_below_drewN | apply below_drew1 | refine below_set ?_ GE819.out | refine below_set ?_ GE822.out) | exact HB.out)⟩⟩
          ·replace c18 := Bool.eq_false_iff.mpr c18
           subst c18
           have H1 : (impl_RangeStep.l0 k2 x30_2 (((rd_T30 l0 x30_2).f0) == a1_3) l0 (l0.length : Int) (wrap64 (x30_2 + 1)) a1_0 a1_1 a1_2 a1_3 a1_4) = some (r1, r2) := by rw [if_neg (show ¬ (false = true) by decide)] at H; exact H
           clear H
           have H := H1
           clear H1
           have H' := Aside0.mk H
           clear H
           have p821 : 0 ≤ (x30_2 : Int) := of_decide_eq_true (by first | (with_reducible assumption) | assumption)
           have q821 : x30_2 < (l0.length : Int) := of_decide_eq_true (by first | (with_reducible assumption) | assumption)
           obtain ⟨ad821, e821, hx821_0, hx821_1, hx821_2, hx821_3, hx821_4, hx821_5⟩ := at_T30 HR0.out x30_2 p821 q821
           cases e821
           replace hx821_0 := (HB.out.cell (World.block_lt_of_cell? w _ hx821_0)).trans hx821_0
           replace hx821_1 := (HB.out.cell (World.block_lt_of_cell? w _ hx821_1)).trans hx821_1
           replace hx821_2 := (HB.out.cell (World.block_lt_of_cell? w _ hx821_2)).trans hx821_2
           replace hx821_3 := (HB.out.cell (World.block_lt_of_cell? w _ hx821_3)).trans hx821_3
           replace hx821_4 := (HB.out.cell (World.block_lt_of_cell? w _ hx821_4)).trans hx821_4
           replace hx821_5 := (HB.out.cell (World.block_lt_of_cell? w _ hx821_5)).trans hx821_5
           replace p821 := eq_true p821
           replace q821 := eq_true q821
           go_wp2_with (first | ((with_reducible refine gate_dst (N := 9) rfl ?_); refine box_event ?hg (N := 9) ?hd (cs := #[.int .i64 0, .string (⟨#[]⟩ : ByteArray), .string (⟨#[]⟩ : ByteArray), .int .i64 0, .int .i64 0, .int .i64 0]) (t := 30) ?hr ?_; (case hd => rfl); (case hg => rfl); (case hr => first | (go_simp; done) | (go_simp; rfl)); intro gb822 hg w23 hbox hb; have n0_ := Aside0.mk (blk_below (g := gb819) (o := .cells #[.int .i64 a1_0, .int .i64 a1_1, .string a1_2, .int .i64 a1_3, .int .i64 a1_4] 43 (0, 0)) (by (with_reducible repeat (first | refine blk_drewN ?_ _ | refine blk_drew ?_ | refine blk_alloc ?_ _)); exact BK819.out) hb); have n1_ := Aside0.mk (below_step (by repeat (first | (with_reducible first | exact HB.out | apply below_alloc | apply pw_below_drewN | apply below_drew1 | refine below_set ?_ GE819.out) | exact HB.out)) hb); have n2_ := Aside0.mk (hbox); have n3_ := Aside0.mk ((by rw [hg]; exact (below_size (by repeat (first | (with_reducible first | exact HB.out | apply below_alloc | apply pw_below_drewN | apply below_drew1 | refine below_set ?_ GE819.out) | exact HB.out))) : w.heap.size ≤ gb822)); have n4_ := Aside0.mk ((by rw [hg]; exact (below_size (by repeat (first | (with_reducible first | exact HB.out | apply below_alloc | apply pw_below_drewN | apply below_drew1 | refine below_set ?_ GE819.out) | exact HB.out))) : w.heap.size ≤ gb822)); have n5_ := Aside0.mk ((by rw [hg]; exact Nat.ne_of_lt (blk_lt (g := gb819) (o := .cells #[.int .i64 a1_0, .int .i64 a1_1, .string a1_2, .int .i64 a1_3, .int .i64 a1_4] 43 (0, 0)) (by (with_reducible repeat (first | refine blk_drewN ?_ _ | refine blk_drew ?_ | refine blk_alloc ?_ _)); exact BK819.out)) : gb819 ≠ gb822)); have n6_ := Aside0.mk ((by rw [hg]; exact Nat.ne_of_gt (blk_lt (g := gb819) (o := .cells #[.int .i64 a1_0, .int .i64 a1_1, .string a1_2, .int .i64 a1_3, .int .i64 a1_4] 43 (0, 0)) (by (with_reducible repeat (first | refine blk_drewN ?_ _ | refine blk_drew ?_ | refine blk_alloc ?_ _)); exact BK819.out)) : gb822 ≠ gb819)); clear BK819; clear HB; have BK819 := n0_; have HB := n1_; have BK822 := n2_; have GW822 := n3_; have GE822 := n4_; have NB819_822 := n5_; have NB822_819 := n6_; clear n0_ n1_ n2_ n3_ n4_ n5_ n6_; clear hb hbox hg; have hnb24 := NB822_819.out; have hnc24 := NB819_822.out; have hcz25_0 : w23.cell? ⟨gb822, 0, none⟩ = some (.int .i64 0) := (blk_cell BK822.out 0).trans rfl; have hcz25_1 : w23.cell? ⟨gb822, 1, none⟩ = some (.string (⟨#[]⟩ : ByteArray)) := (blk_cell BK822.out 1).trans rfl; have hcz25_2 : w23.cell? ⟨gb822, 2, none⟩ = some (.string (⟨#[]⟩ : ByteArray)) := (blk_cell BK822.out 2).trans rfl; have hcz25_3 : w23.cell? ⟨gb822, 3, none⟩ = some (.int .i64 0) := (blk_cell BK822.out 3).trans rfl; have hcz25_4 : w23.cell? ⟨gb822, 4, none⟩ = some (.int .i64 0) := (blk_cell BK822.out 4).trans rfl; have hcz25_5 : w23.cell? ⟨gb822, 5, none⟩ = some (.int .i64 0) := (blk_cell BK822.out 5).trans rfl; have hfz25_0 := blk_frozen BK822.out 0; have hfz25_1 := blk_frozen BK822.out 1; have hfz25_2 := blk_frozen BK822.out 2; have hfz25_3 := blk_frozen BK822.out 3; have hfz25_4 := blk_frozen BK822.out 4; have hfz25_5 := blk_frozen BK822.out 5; have hcz26_0 : w23.cell? ⟨gb819, 0, none⟩ = some (.int .i64 a1_0) := (blk_cell BK819.out 0).trans rfl; have hcz26_1 : w23.cell? ⟨gb819, 1, none⟩ = some (.int .i64 a1_1) := (blk_cell BK819.out 1).trans rfl; have hcz26_2 : w23.cell? ⟨gb819, 2, none⟩ = some (.string a1_2) := (blk_cell BK819.out 2).trans rfl; have hcz26_3 : w23.cell? ⟨gb819, 3, none⟩ = some (.int .i64 a1_3) := (blk_cell BK819.out 3).trans rfl; have hcz26_4 : w23.cell? ⟨gb819, 4, none⟩ = some (.int .i64 a1_4) := (blk_cell BK819.out 4).trans rfl; have hfz26_0 := blk_frozen BK819.out 0; have hfz26_1 := blk_frozen BK819.out 1; have hfz26_2 := blk_frozen BK819.out 2; have hfz26_3 := blk_frozen BK819.out 3; have hfz26_4 := blk_frozen BK819.out 4))
           go_roundg k2
           case measure => have := HJ2.out; have := HK2.out; omega
           case rel => exact ⟨(x30_2), ((((rd_T30 l0 x30_2).f0) == a1_3)), (wrap64 (x30_2 + 1)), (by first | rfl | (simp; done) | (simp [*]; done)), (by first | rfl | (simp; done) | (simp [*]; done)), (by first | rfl | (simp; done) | (simp [*]; done)), H', ⟨by have := HJ2.out; have := HK2.out; omega⟩, ⟨by (with_reducible repeat (first | refine blk_drewN ?_ _ | refine blk_drew ?_ | refine blk_alloc ?_ _)); refine blk_far ?_ NB819_822.out _; (with_reducible repeat (first | refine blk_drewN ?_ _ | refine blk_drew ?_ | refine blk_alloc ?_ _)); refine blk_far ?_ NB819_822.out _; (with_reducible repeat (first | refine blk_drewN ?_ _ | refine blk_drew ?_ | refine blk_alloc ?_ _)); refine blk_far ?_ NB819_822.out _; (with_reducible repeat (first | refine blk_drewN ?_ _ | refine blk_drew ?_ | refine blk_alloc ?_ _)); refine blk_far ?_ NB819_822.out _; (with_reducible repeat (first | refine blk_drewN ?_ _ | refine blk_drew ?_ | refine blk_alloc ?_ _)); refine blk_far ?_ NB819_822.out _; (with_reducible repeat (first | refine blk_drewN ?_ _ | refine blk_drew ?_ | refine blk_alloc ?_ _)); refine blk_far ?_ NB819_822.out _; (with_reducible repeat (first | refine blk_drewN ?_ _ | refine blk_drew ?_ | refine blk_alloc ?_ _)); exact BK819.out⟩, ⟨by repeat (first | (with_reducible first | exact HB.out | apply below_alloc | apply pw_below_drewN | apply below_drew1 | refine below_set ?_ GE819.out | refine below_set ?_ GE822.out) | exact HB.out)⟩⟩
         ·rw [if_neg c17] at H
          have c17b0 : (((rd_T30 l0 x30_2).f0) == a1_1) = false := beq_eq_false_iff_ne.mpr c17
          have c17b1 : (((rd_T30 l0 x30_2).f0) != a1_1) = true := bne_iff_ne.mpr c17
          by_cases c27 : x7_2 = true
          ·subst c27
           have H1 : (impl_RangeStep.l0 k2 x6_2 true l0 (l0.length : Int) (wrap64 (x30_2 + 1)) a1_0 a1_1 a1_2 a1_3 a1_4) = some (r1, r2) := by rw [if_pos rfl] at H; exact H
           clear H
           have H := H1
           clear H1
           have H' := Aside0.mk H
           clear H
           have p821 : 0 ≤ (x30_2 : Int) := of_decide_eq_true (by first | (with_reducible assumption) | assumption)
           have q821 : x30_2 < (l0.length : Int) := of_decide_eq_true (by first | (with_reducible assumption) | assumption)
           obtain ⟨ad821, e821, hx821_0, hx821_1, hx821_2, hx821_3, hx821_4, hx821_5⟩ := at_T30 HR0.out x30_2 p821 q821
           cases e821
           replace hx821_0 := (HB.out.cell (World.block_lt_of_cell? w _ hx821_0)).trans hx821_0
           replace hx821_1 := (HB.out.cell (World.block_lt_of_cell? w _ hx821_1)).trans hx821_1
           replace hx821_2 := (HB.out.cell (World.block_lt_of_cell? w _ hx821_2)).trans hx821_2
           replace hx821_3 := (HB.out.cell (World.block_lt_of_cell? w _ hx821_3)).trans hx821_3
           replace hx821_4 := (HB.out.cell (World.block_lt_of_cell? w _ hx821_4)).trans hx821_4
           replace hx821_5 := (HB.out.cell (World.block_lt_of_cell? w _ hx821_5)).trans hx821_5
           replace p821 := eq_true p821
           replace q821 := eq_true q821
           go_wp2_with (first | ((with_reducible refine gate_dst (N := 9) rfl ?_); refine box_event ?hg (N := 9) ?hd (cs := #[.int .i64 0, .string (⟨#[]⟩ : ByteArray), .string (⟨#[]⟩ : ByteArray), .int .i64 0, .int .i64 0, .int .i64 0]) (t := 30) ?hr ?_; (case hd => rfl); (case hg => rfl); (case hr => first | (go_simp; done) | (go_simp; rfl)); intro gb822 hg w28 hbox hb; have n0_ := Aside0.mk (blk_below (g := gb819) (o := .cells #[.int .i64 a1_0, .int .i64 a1_1, .string a1_2, .int .i64 a1_3, .int .i64 a1_4] 43 (0, 0)) (by (with_reducible repeat (first | refine blk_drewN ?_ _ | refine blk_drew ?_ | refine blk_alloc ?_ _)); exact BK819.out) hb); have n1_ := Aside0.mk (below_step (by repeat (first | (with_reducible first | exact HB.out | apply below_alloc | apply pw_below_drewN | apply below_drew1 | refine below_set ?_ GE819.out) | exact HB.out)) hb); have n2_ := Aside0.mk (hbox); have n3_ := Aside0.mk ((by rw [hg]; exact (below_size (by repeat (first | (with_reducible first | exact HB.out | apply below_alloc | apply pw_below_drewN | apply below_drew1 | refine below_set ?_ GE819.out) | exact HB.out))) : w.heap.size ≤ gb822)); have n4_ := Aside0.mk ((by rw [hg]; exact (below_size (by repeat (first | (with_reducible first | exact HB.out | apply below_alloc | apply pw_below_drewN | apply below_drew1 | refine below_set ?_ GE819.out) | exact HB.out))) : w.heap.size ≤ gb822)); have n5_ := Aside0.mk ((by rw [hg]; exact Nat.ne_of_lt (blk_lt (g := gb819) (o := .cells #[.int .i64 a1_0, .int .i64 a1_1, .string a1_2, .int .i64 a1_3, .int .i64 a1_4] 43 (0, 0)) (by (with_reducible repeat (first | refine blk_drewN ?_ _ | refine blk_drew ?_ | refine blk_alloc ?_ _)); exact BK819.out)) : gb819 ≠ gb822)); have n6_ := Aside0.mk ((by rw [hg]; exact Nat.ne_of_gt (blk_lt (g := gb819) (o := .cells #[.int .i64 a1_0, .int .i64 a1_1, .string a1_2, .int .i64 a1_3, .int .i64 a1_4] 43 (0, 0)) (by (with_reducible repeat (first | refine blk_drewN ?_ _ | refine blk_drew ?_ | refine blk_alloc ?_ _)); exact BK819.out)) : gb822 ≠ gb819)); clear BK819; clear HB; have BK819 := n0_; have HB := n1_; have BK822 := n2_; have GW822 := n3_; have GE822 := n4_; have NB819_822 := n5_; have NB822_819 := n6_; clear n0_ n1_ n2_ n3_ n4_ n5_ n6_; clear hb hbox hg; have hnb29 := NB822_819.out; have hnc29 := NB819_822.out; have hcz30_0 : w28.cell? ⟨gb822, 0, none⟩ = some (.int .i64 0) := (blk_cell BK822.out 0).trans rfl; have hcz30_1 : w28.cell? ⟨gb822, 1, none⟩ = some (.string (⟨#[]⟩ : ByteArray)) := (blk_cell BK822.out 1).trans rfl; have hcz30_2 : w28.cell? ⟨gb822, 2, none⟩ = some (.string (⟨#[]⟩ : ByteArray)) := (blk_cell BK822.out 2).trans rfl; have hcz30_3 : w28.cell? ⟨gb822, 3, none⟩ = some (.int .i64 0) := (blk_cell BK822.out 3).trans rfl; have hcz30_4 : w28.cell? ⟨gb822, 4, none⟩ = some (.int .i64 0) := (blk_cell BK822.out 4).trans rfl; have hcz30_5 : w28.cell? ⟨gb822, 5, none⟩ = some (.int .i64 0) := (blk_cell BK822.out 5).trans rfl; have hfz30_0 := blk_frozen BK822.out 0; have hfz30_1 := blk_frozen BK822.out 1; have hfz30_2 := blk_frozen BK822.out 2; have hfz30_3 := blk_frozen BK822.out 3; have hfz30_4 := blk_frozen BK822.out 4; have hfz30_5 := blk_frozen BK822.out 5; have hcz31_0 : w28.cell? ⟨gb819, 0, none⟩ = some (.int .i64 a1_0) := (blk_cell BK819.out 0).trans rfl; have hcz31_1 : w28.cell? ⟨gb819, 1, none⟩ = some (.int .i64 a1_1) := (blk_cell BK819.out 1).trans rfl; have hcz31_2 : w28.cell? ⟨gb819, 2, none⟩ = some (.string a1_2) := (blk_cell BK819.out 2).trans rfl; have hcz31_3 : w28.cell? ⟨gb819, 3, none⟩ = some (.int .i64 a1_3) := (blk_cell BK819.out 3).trans rfl; have hcz31_4 : w28.cell? ⟨gb819, 4, none⟩ = some (.int .i64 a1_4) := (blk_cell BK819.out 4).trans rfl; have hfz31_0 := blk_frozen BK819.out 0; have hfz31_1 := blk_frozen BK819.out 1; have hfz31_2 := blk_frozen BK819.out 2; have hfz31_3 := blk_frozen BK819.out 3; have hfz31_4 := blk_frozen BK819.out 4))
           go_roundg k2
           case measure => have := HJ2.out; have := HK2.out; omega
           case rel => exact ⟨(x6_2), (true), (wrap64 (x30_2 + 1)), (by first | rfl | (simp; done) | (simp [*]; done)), (by first | rfl | (simp; done) | (simp [*]; done)), (by first | rfl | (simp; done) | (simp [*]; done)), H', ⟨by have := HJ2.out; have := HK2.out; omega⟩, ⟨by (with_reducible repeat (first | refine blk_drewN ?_ _ | refine blk_drew ?_ | refine blk_alloc ?_ _)); refine blk_far ?_ NB819_822.out _; (with_reducible repeat (first | refine blk_drewN ?_ _ | refine blk_drew ?_ | refine blk_alloc ?_ _)); refine blk_far ?_ NB819_822.out _; (with_reducible repeat (first | refine blk_drewN ?_ _ | refine blk_drew ?_ | refine blk_alloc ?_ _)); refine blk_far ?_ NB819_822.out _; (with_reducible repeat (first | refine blk_drewN ?_ _ | refine blk_drew ?_ | refine blk_alloc ?_ _)); refine blk_far ?_ NB819_822.out _; (with_reducible repeat (first | refine blk_drewN ?_ _ | refine blk_drew ?_ | refine blk_alloc ?_ _)); refine blk_far ?_ NB819_822.out _; (with_reducible repeat (first | refine blk_drewN ?_ _ | refine blk_drew ?_ | refine blk_alloc ?_ _)); refine blk_far ?_ NB819_822.out _; (with_reducible repeat (first | refine blk_drewN ?_ _ | refine blk_drew ?_ | refine blk_alloc ?_ _)); exact BK819.out⟩, ⟨by repeat (first | (with_reducible first | exact HB.out | apply below_alloc | apply pw_below_drewN | apply below_drew1 | refine below_set ?_ GE819.out | refine below_set ?_ GE822.out) | exact HB.out)⟩⟩
          ·replace c27 := Bool.eq_false_iff.mpr c27
           subst c27
           have H1 : (impl_RangeStep.l0 k2 x6_2 (((rd_T30 l0 x30_2).f0) == a1_3) l0 (l0.length : Int) (wrap64 (x30_2 + 1)) a1_0 a1_1 a1_2 a1_3 a1_4) = some (r1, r2) := by rw [if_neg (show ¬ (false = true) by decide)] at H; exact H
           clear H
           have H := H1
           clear H1
           have H' := Aside0.mk H
           clear H
           have p821 : 0 ≤ (x30_2 : Int) := of_decide_eq_true (by first | (with_reducible assumption) | assumption)
           have q821 : x30_2 < (l0.length : Int) := of_decide_eq_true (by first | (with_reducible assumption) | assumption)
           obtain ⟨ad821, e821, hx821_0, hx821_1, hx821_2, hx821_3, hx821_4, hx821_5⟩ := at_T30 HR0.out x30_2 p821 q821
           cases e821
           replace hx821_0 := (HB.out.cell (World.block_lt_of_cell? w _ hx821_0)).trans hx821_0
           replace hx821_1 := (HB.out.cell (World.block_lt_of_cell? w _ hx821_1)).trans hx821_1
           replace hx821_2 := (HB.out.cell (World.block_lt_of_cell? w _ hx821_2)).trans hx821_2
           replace hx821_3 := (HB.out.cell (World.block_lt_of_cell? w _ hx821_3)).trans hx821_3
           replace hx821_4 := (HB.out.cell (World.block_lt_of_cell? w _ hx821_4)).trans hx821_4
           replace hx821_5 := (HB.out.cell (World.block_lt_of_cell? w _ hx821_5)).trans hx821_5
           replace p821 := eq_true p821
           replace q821 := eq_true q821
           go_wp2_with (first | ((with_reducible refine gate_dst (N := 9) rfl ?_); refine box_event ?hg (N := 9) ?hd (cs := #[.int .i64 0, .string (⟨#[]⟩ : ByteArray), .string (⟨#[]⟩ : ByteArray), .int .i64 0, .int .i64 0, .int .i64 0]) (t := 30) ?hr ?_; (case hd => rfl); (case hg => rfl); (case hr => first | (go_simp; done) | (go_simp; rfl)); intro gb822 hg w32 hbox hb; have n0_ := Aside0.mk (blk_below (g := gb819) (o := .cells #[.int .i64 a1_0, .int .i64 a1_1, .string a1_2, .int .i64 a1_3, .int .i64 a1_4] 43 (0, 0)) (by (with_reducible repeat (first | refine blk_drewN ?_ _ | refine blk_drew ?_ | refine blk_alloc ?_ _)); exact BK819.out) hb); have n1_ := Aside0.mk (below_step (by repeat (first | (with_reducible first | exact HB.out | apply below_alloc | apply pw_below_drewN | apply below_drew1 | refine below_set ?_ GE819.out) | exact HB.out)) hb); have n2_ := Aside0.mk (hbox); have n3_ := Aside0.mk ((by rw [hg]; exact (below_size (by repeat (first | (with_reducible first | exact HB.out | apply below_alloc | apply pw_below_drewN | apply below_drew1 | refine below_set ?_ GE819.out) | exact HB.out))) : w.heap.size ≤ gb822)); have n4_ := Aside0.mk ((by rw [hg]; exact (below_size (by repeat (first | (with_reducible first | exact HB.out | apply below_alloc | apply pw_below_drewN | apply below_drew1 | refine below_set ?_ GE819.out) | exact HB.out))) : w.heap.size ≤ gb822)); have n5_ := Aside0.mk ((by rw [hg]; exact Nat.ne_of_lt (blk_lt (g := gb819) (o := .cells #[.int .i64 a1_0, .int .i64 a1_1, .string a1_2, .int .i64 a1_3, .int .i64 a1_4] 43 (0, 0)) (by (with_reducible repeat (first | refine blk_drewN ?_ _ | refine blk_drew ?_ | refine blk_alloc ?_ _)); exact BK819.out)) : gb819 ≠ gb822)); have n6_ := Aside0.mk ((by rw [hg]; exact Nat.ne_of_gt (blk_lt (g := gb819) (o := .cells #[.int .i64 a1_0, .int .i64 a1_1, .string a1_2, .int .i64 a1_3, .int .i64 a1_4] 43 (0, 0)) (by (with_reducible repeat (first | refine blk_drewN ?_ _ | refine blk_drew ?_ | refine blk_alloc ?_ _)); exact BK819.out)) : gb822 ≠ gb819)); clear BK819; clear HB; have BK819 := n0_; have HB := n1_; have BK822 := n2_; have GW822 := n3_; have GE822 := n4_; have NB819_822 := n5_; have NB822_819 := n6_; clear n0_ n1_ n2_ n3_ n4_ n5_ n6_; clear hb hbox hg; have hnb33 := NB822_819.out; have hnc33 := NB819_822.out; have hcz34_0 : w32.cell? ⟨gb822, 0, none⟩ = some (.int .i64 0) := (blk_cell BK822.out 0).trans rfl; have hcz34_1 : w32.cell? ⟨gb822, 1, none⟩ = some (.string (⟨#[]⟩ : ByteArray)) := (blk_cell BK822.out 1).trans rfl; have hcz34_2 : w32.cell? ⟨gb822, 2, none⟩ = some (.string (⟨#[]⟩ : ByteArray)) := (blk_cell BK822.out 2).trans rfl; have hcz34_3 : w32.cell? ⟨gb822, 3, none⟩ = some (.int .i64 0) := (blk_cell BK822.out 3).trans rfl; have hcz34_4 : w32.cell? ⟨gb822, 4, none⟩ = some (.int .i64 0) := (blk_cell BK822.out 4).trans rfl; have hcz34_5 : w32.cell? ⟨gb822, 5, none⟩ = some (.int .i64 0) := (blk_cell BK822.out 5).trans rfl; have hfz34_0 := blk_frozen BK822.out 0; have hfz34_1 := blk_frozen BK822.out 1; have hfz34_2 := blk_frozen BK822.out 2; have hfz34_3 := blk_frozen BK822.out 3; have hfz34_4 := blk_frozen BK822.out 4; have hfz34_5 := blk_frozen BK822.out 5; have hcz35_0 : w32.cell? ⟨gb819, 0, none⟩ = some (.int .i64 a1_0) := (blk_cell BK819.out 0).trans rfl; have hcz35_1 : w32.cell? ⟨gb819, 1, none⟩ = some (.int .i64 a1_1) := (blk_cell BK819.out 1).trans rfl; have hcz35_2 : w32.cell? ⟨gb819, 2, none⟩ = some (.string a1_2) := (blk_cell BK819.out 2).trans rfl; have hcz35_3 : w32.cell? ⟨gb819, 3, none⟩ = some (.int .i64 a1_3) := (blk_cell BK819.out 3).trans rfl; have hcz35_4 : w32.cell? ⟨gb819, 4, none⟩ = some (.int .i64 a1_4) := (blk_cell BK819.out 4).trans rfl; have hfz35_0 := blk_frozen BK819.out 0; have hfz35_1 := blk_frozen BK819.out 1; have hfz35_2 := blk_frozen BK819.out 2; have hfz35_3 := blk_frozen BK819.out 3; have hfz35_4 := blk_frozen BK819.out 4))
           go_roundg k2
           case measure => have := HJ2.out; have := HK2.out; omega
           case rel => exact ⟨(x6_2), ((((rd_T30 l0 x30_2).f0) == a1_3)), (wrap64 (x30_2 + 1)), (by first | rfl | (simp; done) | (simp [*]; done)), (by first | rfl | (simp; done) | (simp [*]; done)), (by first | rfl | (simp; done) | (simp [*]; done)), H', ⟨by have := HJ2.out; have := HK2.out; omega⟩, ⟨by (with_reducible repeat (first | refine blk_drewN ?_ _ | refine blk_drew ?_ | refine blk_alloc ?_ _)); refine blk_far ?_ NB819_822.out _; (with_reducible repeat (first | refine blk_drewN ?_ _ | refine blk_drew ?_ | refine blk_alloc ?_ _)); refine blk_far ?_ NB819_822.out _; (with_reducible repeat (first | refine blk_drewN ?_ _ | refine blk_drew ?_ | refine blk_alloc ?_ _)); refine blk_far ?_ NB819_822.out _; (with_reducible repeat (first | refine blk_drewN ?_ _ | refine blk_drew ?_ | refine blk_alloc ?_ _)); refine blk_far ?_ NB819_822.out _; (with_reducible repeat (first | refine blk_drewN ?_ _ | refine blk_drew ?_ | refine blk_alloc ?_ _)); refine blk_far ?_ NB819_822.out _; (with_reducible repeat (first | refine blk_drewN ?_ _ | refine blk_drew ?_ | refine blk_alloc ?_ _)); refine blk_far ?_ NB819_822.out _; (with_reducible repeat (first | refine blk_drewN ?_ _ | refine blk_drew ?_ | refine blk_alloc ?_ _)); exact BK819.out⟩, ⟨by repeat (first | (with_reducible first | exact HB.out | apply below_alloc | apply pw_below_drewN | apply below_drew1 | refine below_set ?_ GE819.out | refine below_set ?_ GE822.out) | exact HB.out)⟩⟩
        ·rw [if_neg c16] at H
         exact absurd H (by simp)
       ·rw [if_neg c15] at H
        exact absurd H (by simp)
      ·rw [if_neg c14] at H
       have c14b0 : decide (x30_2 < (l0.length : Int)) = false := decide_eq_false c14
       clear c14
       by_cases c36 : x6_2 < 0
       ·rw [if_pos c36] at H
        have c36b0 : decide (x6_2 < 0) = true := decide_eq_true c36
        clear c36
        simp only [Option.some.injEq, Prod.mk.injEq] at H
        obtain ⟨rfl, rfl⟩ := H
        go_wp2
        go_ret2
        exact ⟨_, by first | rfl | (simp [errW_none, errW_some] <;> rfl) | (simp [*, errW_none, errW_some] <;> rfl), by first | exact Kd.R_nil _ _ _ _ _ | exact Kd.N_nil _ _ _ _ _ | exact Kd.V_nil _ _ _ _ _ | exact Kd.Q_nil _ _ _ _ _ | exact Kd.S_nil _ _ _ _ _, by repeat (first | (with_reducible first | exact HB.out | apply below_alloc | apply pw_below_drewN | apply below_drew1 | refine below_set ?_ GE819.out) | exact HB.out)⟩
       ·rw [if_neg c36] at H
        have c36b0 : decide (x6_2 < 0) = false := decide_eq_false c36
        have c36p := Int.not_lt.mp c36
        clear c36
        by_cases c37 : x6_2 < (l0.length : Int)
        rotate_left
        ·rw [if_neg c37] at H; cases H
        rw [if_pos c37] at H
        have H' := Aside0.mk H
        clear H
        have C36 := Aside0.mk c36p
        have C37 := Aside0.mk c37
        clear c36p c37
        have HLn := Aside0.mk hln
        clear hln
        go_upto_region 15 with ((with_reducible refine gate_builtin (b := .append) (xs := #[.const (.slice none 0 0), .tmp 52]) rfl ?_); at_builtin; refine Kd.R_append_rows k30 (w0 := w) w.heap.size rfl (.const (.slice none 0 0)) (.tmp 52) 25 30 (.agg #[(.int .i64 0), (.string ⟨#[]⟩), (.string ⟨#[]⟩), (.int .i64 0), (.int .i64 0), (.int .i64 0)]) 64 rfl Try.underlying25 info30 rfl (by decide) (by omega) (.slice none 0 0) ([] : List S30) l0 _ _ _ (fun _ => True) (fun _ => False) rfl rfl ?aO ?aR (fun _ _ h => h) (fun _ h => h.elim) (fun _ _ => trivial) ?aB ?aS ?aL ?_; (case aR => repeat (first | exact (Kd.C_below HR0.out HB.out) | (with_reducible refine Kd.C_alloc ?_ _) | (with_reducible refine Kd.C_drewN ?_ _) | (with_reducible refine Kd.C_drew ?_))); (case aB => repeat (first | (with_reducible first | exact HB.out | apply below_alloc | apply pw_below_drewN | apply below_drew1) | exact HB.out)); (case aO => exact Kd.R_nil _ _ _ _ _); (case aS => exact (below_size (by repeat (first | (with_reducible first | exact HB.out | apply below_alloc | apply pw_below_drewN | apply below_drew1) | exact HB.out)))); (case aL => have := HLn.out; simp only [List.length_nil]; omega); intro v10 w1 ho hb hg hat; have HO := Aside0.mk (show Kd.R k30 30 w1 w.heap.size (fun _ => True) v10 l0 from ho); have n1_ := Aside0.mk hb; have n2_ := Aside0.mk (blk_grown BK819.out hg (fun h => nomatch h)); clear HB BK819; have HB := n1_; have BK819 := n2_; clear n1_; clear n2_; clear ho; clear hb; clear hg; clear hat)
        obtain ⟨go, co, eo, gb, gl, cl, HG⟩ := Kd.R_form HO.out (by have := C36.out; have := C37.out; omega)
        subst eo
        have GB := Aside0.mk gb
        clear gb gl HG
        have p6 : (0 ≤ x6_2) = True := eq_true C36.out
        have q6 : (x6_2 < (l0.length : Int)) = True := eq_true C37.out
        have p6b : decide (0 ≤ x6_2) = true := decide_eq_true C36.out
        have q6b : decide (x6_2 < (l0.length : Int)) = true := decide_eq_true C37.out
        go_upto_region 16 with ((with_reducible refine gate_dst (N := 11) rfl ?_); refine boxst_event ?hg (N := 11) ?hd ?hg2 ?hn2 ?ho2 (cs := #[.pointer (some ⟨go, x6_2.toNat * 6, none⟩)]) (zs := #[.pointer none]) (t := 69) ?hr ?hr2 ?_; (case hd => rfl); (case hg => rfl); (case hg2 => rfl); (case hn2 => rfl); (case ho2 => exact ⟨_, rfl⟩); (case hr => first | (go_simp; done) | (go_simp; rfl)); (case hr2 => first | (go_simp; done) | (go_simp; rfl)); intro gb11 hg w2 hbox hb; have n1_ := Aside0.mk (below_step HB.out hb); have n2_ := Aside0.mk (blk_below BK819.out hb); have n3_ := Aside0.mk (Kd.R_below (Kd.R_elderB HO.out gb11 (Nat.le_of_eq hg.symm)) hb); have n4_ := Aside0.mk hbox; clear HB; clear BK819; clear HO; have HB := n1_; have BK819 := n2_; have HO := n3_; have BK11 := n4_; clear n1_; clear n2_; clear n3_; clear n4_; clear hbox; clear hb; clear hg)
        clear p6 q6 p6b q6b
        have hcz_0 : w2.cell? ⟨gb819, 0, none⟩ = some (.int .i64 a1_0) := (blk_cell BK819.out 0).trans rfl
        go_upto_block 2 with (fail)
        have p6 : (0 ≤ x6_2) = True := eq_true C36.out
        have q6 : (x6_2 < (l0.length : Int)) = True := eq_true C37.out
        obtain ⟨ce_, hcl_, hM_, hcc_, hfr_⟩ := Kd.R_elem HO.out z30 x6_2 C36.out C37.out
        obtain rfl := k30_openM hM_
        have hx_0 : w2.cell? ⟨go, x6_2.toNat * 6, none⟩ = some (.int .i64 (rd_T30 l0 x6_2).f0) := hcc_ 0 _ rfl
        have hx_5 : w2.cell? ⟨go, x6_2.toNat * 6 + 5, none⟩ = some (.int .i64 (rd_T30 l0 x6_2).f5) := hcc_ 5 _ rfl
        clear hcl_ hM_ hcc_ hfr_
        have H := H'.out
        have NG11 := Aside0.mk (show gb11 ≠ go from fun h => (HO.out.1 go rfl).2 h.symm)
        have NG819 := Aside0.mk (show gb819 ≠ go from fun h => Kd.R_ne HO.out BK819.out (by decide) (by rw [h]; rfl))
        have HKZ := HKN.out.1
        have k1 := HKZ
        clear HKZ
        simp only [impl_tl, if_pos k1] at H
        have k1b : (a1_0 == 1) = true := beq_iff_eq.mpr k1
        clear k1 H'
        have hza_2 : w2.cell? ⟨gb819, 2, none⟩ = some (.string a1_2) := (blk_cell BK819.out 2).trans rfl
        have hza_3 : w2.cell? ⟨gb819, 3, none⟩ = some (.int .i64 a1_3) := (blk_cell BK819.out 3).trans rfl
        have hqa : w2.cell? ⟨gb11, 0, none⟩ = some (.pointer (some ⟨go, x6_2.toNat * 6, none⟩)) := (blk_cell BK11.out 0).trans rfl
        obtain ⟨ce_, hcl_, hM_, hcc_, hfr_⟩ := Kd.R_elem HO.out z30 x6_2 C36.out C37.out
        obtain rfl := k30_openM hM_
        have hxa_1 : w2.cell? ⟨go, x6_2.toNat * 6 + 1, none⟩ = some (.string ((rd_T30 l0 x6_2).f1)) := hcc_ 1 _ rfl
        have hxa_2 : w2.cell? ⟨go, x6_2.toNat * 6 + 2, none⟩ = some (.string ((rd_T30 l0 x6_2).f2)) := hcc_ 2 _ rfl
        clear hcl_ hcc_ hfr_ hM_
        (try clear hx_0); (try clear hx_5)
        go_upto_region 19 with (fail)
        (try simp only [Act.put, List.setIfInBounds_toArray, List.set_cons_zero, List.set_cons_succ])
        go_cut [108] (fun v108 wc => ∃ x_ : Bool, v108 = .bool x_ ∧ Aside0 (x_ = true ↔ (a1_2.toList = ([] : List UInt8) ∨ (4000 : Int) < a1_2.size ∨ Op.bytesLess (rd_T30 l0 x6_2).f1.toList a1_2.toList = false ∨ ((rd_T30 l0 x6_2).f2.toList ≠ ([] : List UInt8) ∧ Op.bytesLess a1_2.toList (rd_T30 l0 x6_2).f2.toList = false) ∨ a1_3 < 1 ∨ a1_3 > 1000000 ∨ x7_2 = true)) ∧ Aside0 (Kd.R k30 30 wc w.heap.size (fun k_ => (True ∧ k_ ≠ gb11)) (.slice (some ⟨go, 0, none⟩) l0.length co) l0) ∧ Aside0 (Below w.heap.size w wc) ∧ Aside0 (wc.heap[gb819]? = some (.cells #[.int .i64 a1_0, .int .i64 a1_1, .string a1_2, .int .i64 a1_3, .int .i64 a1_4] 43 (0, 0))) ∧ Aside0 (wc.heap[gb11]? = some (.cells #[.pointer (some ⟨go, x6_2.toNat * 6, none⟩)] 69 (0, 0))))
        case first =>
         have d1 := HKN.out.2.1
         have d2 : ¬ (4000 : Int) < a1_2.size := by have q_ := HKN.out.2.2.1; omega
         have d6 : ¬ a1_3 < 1 := by have q_ := HKN.out.2.2.2.1; omega
         have d7 : ¬ a1_3 > 1000000 := by have q_ := HKN.out.2.2.2.2; omega
         have D1 := Aside0.mk d1
         have d1b : (a1_2.toList == ([] : List UInt8)) = false := beq_eq_false_iff_ne.mpr d1
         have d1c : (a1_2.toList != ([] : List UInt8)) = true := bne_iff_ne.mpr d1
         have D2 := Aside0.mk d2
         have d2b : decide ((4000 : Int) < a1_2.size) = false := decide_eq_false d2
         have d2c : decide (4000 < a1_2.size) = false := decide_eq_false (by omega)
         have D6 := Aside0.mk d6
         have d6b : decide (a1_3 < 1) = false := decide_eq_false d6
         have D7 := Aside0.mk d7
         have d7b : decide (1000000 < a1_3) = false := decide_eq_false d7
         by_cases d3 : Op.bytesLess (rd_T30 l0 x6_2).f1.toList a1_2.toList = false
         ·have D3 := Aside0.mk d3
          have d3b := d3
          as_aux_lemma =>
          go_quiet (fail)
          go_wp2
          go_meet
          case rel => exact ⟨true, by first | rfl | (simp; done) | (simp [*]; done), ⟨⟨fun _ => .inr (.inr (.inl D3.out)), fun _ => rfl⟩⟩, ⟨zr HO.out⟩, ⟨zb⟩, ⟨zk BK819.out⟩, ⟨zk BK11.out⟩⟩
         ·have D3 := Aside0.mk d3
          have d3b : Op.bytesLess (rd_T30 l0 x6_2).f1.toList a1_2.toList = true := by simpa using d3
          by_cases d4 : (rd_T30 l0 x6_2).f2.toList = ([] : List UInt8)
          ·have D4 := Aside0.mk d4
           have d4b : ((rd_T30 l0 x6_2).f2.toList == ([] : List UInt8)) = true := beq_iff_eq.mpr d4
           have d4c : ((rd_T30 l0 x6_2).f2.toList != ([] : List UInt8)) = false := bne_eq_false_iff_eq.mpr d4
           by_cases d8 : x7_2 = true
           ·subst d8
            as_aux_lemma =>
            go_quiet (fail)
            go_wp2
            go_meet
            case rel => exact ⟨true, by first | rfl | (simp; done) | (simp [*]; done), ⟨⟨fun _ => .inr (.inr (.inr (.inr (.inr (.inr rfl))))), fun _ => rfl⟩⟩, ⟨zr HO.out⟩, ⟨zb⟩, ⟨zk BK819.out⟩, ⟨zk BK11.out⟩⟩
           ·replace d8 := Bool.eq_false_iff.mpr d8
            subst d8
            as_aux_lemma =>
            go_quiet (fail)
            go_wp2
            go_meet
            case rel => exact ⟨false, by first | rfl | (simp; done) | (simp [*]; done), ⟨⟨fun z => (by cases z), by rintro (z | z | z | z | z | z | z); exact absurd z D1.out; (first | exact absurd z D2.out | exact absurd z (Int.not_lt.mpr D2.out)); exact absurd z D3.out; exact absurd D4.out z.1; (first | exact absurd z D6.out | exact absurd z (Int.not_lt.mpr D6.out)); (first | exact absurd z D7.out | exact absurd z (Int.not_lt.mpr D7.out)); cases z⟩⟩, ⟨zr HO.out⟩, ⟨zb⟩, ⟨zk BK819.out⟩, ⟨zk BK11.out⟩⟩
          ·have D4 := Aside0.mk d4
           have d4b : ((rd_T30 l0 x6_2).f2.toList == ([] : List UInt8)) = false := beq_eq_false_iff_ne.mpr d4
           have d4c : ((rd_T30 l0 x6_2).f2.toList != ([] : List UInt8)) = true := bne_iff_ne.mpr d4
           by_cases d5 : Op.bytesLess a1_2.toList (rd_T30 l0 x6_2).f2.toList = false
           ·have D5 := Aside0.mk d5
            have d5b := d5
            as_aux_lemma =>
            go_quiet (fail)
            go_wp2
            go_meet
            case rel => exact ⟨true, by first | rfl | (simp; done) | (simp [*]; done), ⟨⟨fun _ => .inr (.inr (.inr (.inl ⟨D4.out, D5.out⟩))), fun _ => rfl⟩⟩, ⟨zr HO.out⟩, ⟨zb⟩, ⟨zk BK819.out⟩, ⟨zk BK11.out⟩⟩
           ·have D5 := Aside0.mk d5
            have d5b : Op.bytesLess a1_2.toList (rd_T30 l0 x6_2).f2.toList = true := by simpa using d5
            by_cases d8 : x7_2 = true
            ·subst d8
             as_aux_lemma =>
             go_quiet (fail)
             go_wp2
             go_meet
             case rel => exact ⟨true, by first | rfl | (simp; done) | (simp [*]; done), ⟨⟨fun _ => .inr (.inr (.inr (.inr (.inr (.inr rfl))))), fun _ => rfl⟩⟩, ⟨zr HO.out⟩, ⟨zb⟩, ⟨zk BK819.out⟩, ⟨zk BK11.out⟩⟩
            ·replace d8 := Bool.eq_false_iff.mpr d8
             subst d8
             as_aux_lemma =>
             go_quiet (fail)
             go_wp2
             go_meet
             case rel => exact ⟨false, by first | rfl | (simp; done) | (simp [*]; done), ⟨⟨fun z => (by cases z), by rintro (z | z | z | z | z | z | z); exact absurd z D1.out; (first | exact absurd z D2.out | exact absurd z (Int.not_lt.mpr D2.out)); exact absurd z D3.out; exact absurd z.2 D5.out; (first | exact absurd z D6.out | exact absurd z (Int.not_lt.mpr D6.out)); (first | exact absurd z D7.out | exact absurd z (Int.not_lt.mpr D7.out)); cases z⟩⟩, ⟨zr HO.out⟩, ⟨zb⟩, ⟨zk BK819.out⟩, ⟨zk BK11.out⟩⟩
        case rest =>
         clear HO HB BK819 BK11
         (try clear hza_0); (try clear hza_1); (try clear hza_2); (try clear hza_3); (try clear hza_4); (try clear hqa); (try clear hxa_0); (try clear hxa_1); (try clear hxa_2); (try clear hxa_3); (try clear hxa_4); (try clear hxa_5); (try clear hfa_0); (try clear hfa_1); (try clear hfa_2); (try clear hfa_3); (try clear hfa_4); (try clear hfa_5)
         obtain ⟨x_, rfl, HX, HO, HB, BK819, BK11⟩ := hcut
         by_cases e1 : x_ = true
         ·subst e1
          rw [if_pos (HX.out.mp rfl)] at H
          simp only [Option.some.injEq, Prod.mk.injEq] at H
          obtain ⟨rfl, rfl⟩ := H
          go_wp2
          go_ret2
          exact ⟨_, by first | rfl | (simp; done), Kd.R_nil _ _ _ _ _, zb⟩
         replace e1 := Bool.eq_false_iff.mpr e1
         subst e1
         rw [if_neg (fun z => absurd (HX.out.mpr z) (by decide))] at H
         clear HX
         by_cases c2 : (l0.length : Int) ≥ 64
         ·rw [if_pos c2] at H
          have c2b : decide (64 ≤ (l0.length : Int)) = true := decide_eq_true c2
          have c2c : decide (64 ≤ l0.length) = true := decide_eq_true (by omega)
          clear c2
          simp only [Option.some.injEq, Prod.mk.injEq] at H
          obtain ⟨rfl, rfl⟩ := H
          go_wp2
          go_ret2
          exact ⟨_, by first | rfl | (simp; done), Kd.R_nil _ _ _ _ _, zb⟩
         rw [if_neg c2] at H
         have c2b : decide (64 ≤ (l0.length : Int)) = false := decide_eq_false c2
         have c2c : decide (64 ≤ l0.length) = false := decide_eq_false (by omega)
         clear c2
         have HW := Aside0.mk H
         clear H
         have hqb : wc.cell? ⟨gb11, 0, none⟩ = some (.pointer (some ⟨go, x6_2.toNat * 6, none⟩)) := (blk_cell BK11.out 0).trans rfl
         obtain ⟨ce_, hcl_, hM_, hcc_, hfr_⟩ := Kd.R_elem HO.out z30 x6_2 C36.out C37.out
         obtain rfl := k30_openM hM_
         have hxb_5 : wc.cell? ⟨go, x6_2.toNat * 6 + 5, none⟩ = some (.int .i64 ((rd_T30 l0 x6_2).f5)) := hcc_ 5 _ rfl
         have hfb_5 : wc.frozen? ⟨go, x6_2.toNat * 6 + 5, none⟩ = false := hfr_ 5
         have HPp := Kd.R_seg HO.out x6_2 C36.out C37.out (seg := [.int .i64 (wrap64 ((rd_T30 l0 x6_2).f5 + 1))]) (j := 5) hcl_ hcc_ (show 6 ≤ 6 from by decide) (x' := (⟨(rd_T30 l0 x6_2).f0, (rd_T30 l0 x6_2).f1, (rd_T30 l0 x6_2).f2, (rd_T30 l0 x6_2).f3, (rd_T30 l0 x6_2).f4, wrap64 ((rd_T30 l0 x6_2).f5 + 1)⟩ : S30)) (k30_mkM _ _ _ (⟨(rd_T30 l0 x6_2).f0, (rd_T30 l0 x6_2).f1, (rd_T30 l0 x6_2).f2, (rd_T30 l0 x6_2).f3, (rd_T30 l0 x6_2).f4, wrap64 ((rd_T30 l0 x6_2).f5 + 1)⟩ : S30)) (fun _ hk => hk)
         clear hcl_ hcc_ hfr_ hM_
         go_wp2_with (first | ((with_reducible refine gate_store (t := 3) (p := 118) rfl ?_); refine store_event (t := 3) (p := 118) (v := ?vop) (w1 := (wc.setCell ⟨go, x6_2.toNat * 6 + 5, none⟩ (.int .i64 (wrap64 ((rd_T30 l0 x6_2).f5 + 1))))) ?hg ?ho ?hn ?hr ?_; (case ho => rfl); (case hg => rfl); (case hn => rfl); (case hr => first | (go_simp; done) | (go_simp; rfl) | (go_simp; simp only [i64_w]; done)); intro w4 hw; have n0_ : Aside0 (Kd.R k30 30 w4 w.heap.size (fun k_ => (True ∧ k_ ≠ gb11)) (.slice (some ⟨go, 0, none⟩) l0.length co) (l0.set x6_2.toNat (⟨(rd_T30 l0 x6_2).f0, (rd_T30 l0 x6_2).f1, (rd_T30 l0 x6_2).f2, (rd_T30 l0 x6_2).f3, (rd_T30 l0 x6_2).f4, wrap64 ((rd_T30 l0 x6_2).f5 + 1)⟩ : S30))) := ⟨by rw [hw]; exact HPp.1⟩; have n1_ : Aside0 (Below w.heap.size w w4) := ⟨by rw [hw]; exact below_set HB.out GB.out⟩; have n2_ := Aside0.mk (blk_far (p := ⟨go, x6_2.toNat * 6 + 5, none⟩) BK819.out NG819.out (.int .i64 (wrap64 ((rd_T30 l0 x6_2).f5 + 1)))); rw [← hw] at n2_; have n3_ := Aside0.mk (blk_far (p := ⟨go, x6_2.toNat * 6 + 5, none⟩) BK11.out NG11.out (.int .i64 (wrap64 ((rd_T30 l0 x6_2).f5 + 1)))); rw [← hw] at n3_; clear HPp; clear HO HB BK819 BK11; have HO := n0_; have HB := n1_; have BK819 := n2_; have BK11 := n3_; clear n0_ n1_ n2_ n3_; clear hw; have hqc : w4.cell? ⟨gb11, 0, none⟩ = some (.pointer (some ⟨go, x6_2.toNat * 6, none⟩)) := (blk_cell BK11.out 0).trans rfl; obtain ⟨ce_, hcl_, hM_, hcc_, hfr_⟩ := Kd.R_elem HO.out z30 x6_2 C36.out C37.out; rw [show ((l0.set x6_2.toNat (⟨(rd_T30 l0 x6_2).f0, (rd_T30 l0 x6_2).f1, (rd_T30 l0 x6_2).f2, (rd_T30 l0 x6_2).f3, (rd_T30 l0 x6_2).f4, wrap64 ((rd_T30 l0 x6_2).f5 + 1)⟩ : S30))).getD x6_2.toNat z30 = (⟨(rd_T30 l0 x6_2).f0, (rd_T30 l0 x6_2).f1, (rd_T30 l0 x6_2).f2, (rd_T30 l0 x6_2).f3, (rd_T30 l0 x6_2).f4, wrap64 ((rd_T30 l0 x6_2).f5 + 1)⟩ : S30) from by rw [List.getD_eq_getElem?_getD, List.getElem?_set_self (by have := C36.out; have := C37.out; omega)]; rfl] at hM_; obtain rfl := k30_openM hM_; have hxc_0 : w4.cell? ⟨go, x6_2.toNat * 6, none⟩ = some (.int .i64 ((rd_T30 l0 x6_2).f0)) := hcc_ 0 _ rfl; have hxc_1 : w4.cell? ⟨go, x6_2.toNat * 6 + 1, none⟩ = some (.string ((rd_T30 l0 x6_2).f1)) := hcc_ 1 _ rfl; have hxc_2 : w4.cell? ⟨go, x6_2.toNat * 6 + 2, none⟩ = some (.string ((rd_T30 l0 x6_2).f2)) := hcc_ 2 _ rfl; have hxc_3 : w4.cell? ⟨go, x6_2.toNat * 6 + 3, none⟩ = some (.int .i64 ((rd_T30 l0 x6_2).f3)) := hcc_ 3 _ rfl; have hxc_4 : w4.cell? ⟨go, x6_2.toNat * 6 + 4, none⟩ = some (.int .i64 ((rd_T30 l0 x6_2).f4)) := hcc_ 4 _ rfl; have hxc_5 : w4.cell? ⟨go, x6_2.toNat * 6 + 5, none⟩ = some (.int .i64 (wrap64 ((rd_T30 l0 x6_2).f5 + 1))) := hcc_ 5 _ rfl; clear hcl_ hcc_ hfr_ hM_; (try clear hzb_0); (try clear hzb_1); (try clear hzb_2); (try clear hzb_3); (try clear hzb_4); (try clear hqb); (try clear hxb_0); (try clear hxb_1); (try clear hxb_2); (try clear hxb_3); (try clear hxb_4); (try clear hxb_5); (try clear hfb_0); (try clear hfb_1); (try clear hfb_2); (try clear hfb_3); (try clear hfb_4); (try clear hfb_5)) | ((with_reducible refine gate_dst (N := 13) rfl ?_); refine boxst_event ?hg (N := 13) ?hd ?hg2 ?hn2 ?ho2 (cs := #[.int .i64 ((rd_T30 l0 x6_2).f0), .string ((rd_T30 l0 x6_2).f1), .string ((rd_T30 l0 x6_2).f2), .int .i64 ((rd_T30 l0 x6_2).f3), .int .i64 ((rd_T30 l0 x6_2).f4), .int .i64 (wrap64 ((rd_T30 l0 x6_2).f5 + 1))]) (zs := #[.int .i64 0, .string (⟨#[]⟩ : ByteArray), .string (⟨#[]⟩ : ByteArray), .int .i64 0, .int .i64 0, .int .i64 0]) (t := 30) ?hr ?hr2 ?_; (case hd => rfl); (case hg => rfl); (case hg2 => rfl); (case hn2 => rfl); (case ho2 => exact ⟨_, rfl⟩); (case hr => first | (go_simp; done) | (go_simp; rfl)); (case hr2 => first | (go_simp; done) | (go_simp; rfl)); intro gb13 hg w5 hbox hb; have NGA := Aside0.mk (show gb819 ≠ gb13 by rw [hg]; exact Nat.ne_of_lt (blk_lt (zk BK819.out))); have NGB := Aside0.mk (show gb11 ≠ gb13 by rw [hg]; exact Nat.ne_of_lt (blk_lt (zk BK11.out))); have GE13 := Aside0.mk (show w.heap.size ≤ gb13 by rw [hg]; exact below_size zb); have n0_ := Aside0.mk (below_step zb hb); have n1_ := Aside0.mk (Kd.R_below (Kd.R_elderB (zr HO.out) gb13 (Nat.le_of_eq hg.symm)) hb); have n2_ := Aside0.mk (blk_below (zk BK819.out) hb); have n3_ := Aside0.mk (blk_below (zk BK11.out) hb); clear HB HO BK819 BK11; have HB := n0_; have HO := n1_; have BK819 := n2_; have BK11 := n3_; clear n0_ n1_ n2_ n3_; have BK13 := Aside0.mk hbox; clear hbox hb hg; have NG13 := Aside0.mk (show gb13 ≠ go from fun h => (HO.out.1 go rfl).2 h.symm); (try clear hzc_0); (try clear hzc_1); (try clear hzc_2); (try clear hzc_3); (try clear hzc_4); (try clear hqc); (try clear hxc_0); (try clear hxc_1); (try clear hxc_2); (try clear hxc_3); (try clear hxc_4); (try clear hxc_5); (try clear hfc_0); (try clear hfc_1); (try clear hfc_2); (try clear hfc_3); (try clear hfc_4); (try clear hfc_5)))
         have n0_ := Aside0.mk (Kd.R_drew HO.out); have n1_ := Aside0.mk (below_drew1 HB.out); have n2_ := Aside0.mk (blk_drew BK819.out); have n3_ := Aside0.mk (blk_drew BK11.out); have n4_ := Aside0.mk (blk_drew BK13.out); clear HO HB BK819 BK11 BK13; have HO := n0_; have HB := n1_; have BK819 := n2_; have BK11 := n3_; have BK13 := n4_; clear n0_ n1_ n2_ n3_ n4_
         refine start_ (n := 8) (S := fun w' => w'.cell? ⟨gb819, 2, none⟩ = some (.string a1_2) ∧ w'.cell? ⟨gb819, 3, none⟩ = some (.int .i64 a1_3)) (ds := []) #[false, false, false, false, false, false, false, false] (by kernel_rfl) rfl rfl ⟨(blk_cell BK819.out 2).trans rfl, (blk_cell BK819.out 3).trans rfl⟩ (fun hHeld => ?_)
         refine with_tabW impl_RangeStep.tab25 impl_RangeStep.bits25 (fun HT_ HW_ => ?_)
         generalize World.drew w5 = w6 at HO HB BK819 BK11 BK13 hHeld ⊢
         refine zp 0 122 ?_
         refine zt 1 123 ?_ (hr := by rintro w' ⟨s0, s1⟩; go_simp; with_reducible rfl)
         refine zp 2 124 ?_
         refine zt 3 125 ?_ (hr := by rintro w' ⟨s0, s1⟩; go_simp; with_reducible rfl)
         refine zp 4 126 ?_
         have hc_ : w6.cell? ⟨gb13, 0, none⟩ = some (.int .i64 ((rd_T30 l0 x6_2).f0)) := (blk_cell BK13.out 0).trans rfl
         have hf_ := blk_frozen BK13.out 0
         refine one_ (i := 5) (N := none) #[true, true, true, true, true, true, false, false] rfl rfl (one_of HT_.out (by kernel_rfl)) (by decide) (fun K hK => ?_)
         refine store_step (w1 := (w6.setCell ⟨gb13, 0, none⟩ (.int .i64 (a1_3)))) (by rfl) rfl ?hr ?_
         (case hr => first | (go_simp; done) | (go_simp; rfl))
         intro w7 hw
         have n0_ := Aside0.mk (Kd.R_far (p := ⟨gb13, 0, none⟩) HO.out (fun _ hk => hk.2) (.int .i64 (a1_3))); have n1_ : Aside0 (Below w.heap.size w w7) := ⟨by rw [hw]; exact below_set HB.out GE13.out⟩; have n2_ := Aside0.mk (blk_far (p := ⟨gb13, 0, none⟩) BK819.out NGA.out (.int .i64 (a1_3))); have n3_ := Aside0.mk (blk_far (p := ⟨gb13, 0, none⟩) BK11.out NGB.out (.int .i64 (a1_3))); have n4_ := Aside0.mk (blk_put (cs' := #[.int .i64 (a1_3), .string ((rd_T30 l0 x6_2).f1), .string ((rd_T30 l0 x6_2).f2), .int .i64 ((rd_T30 l0 x6_2).f3), .int .i64 ((rd_T30 l0 x6_2).f4), .int .i64 (wrap64 ((rd_T30 l0 x6_2).f5 + 1))]) BK13.out 0 (.int .i64 (a1_3)) rfl); rw [← hw] at n0_ n2_ n3_ n4_; clear HO HB BK819 BK11 BK13; have HO := n0_; have HB := n1_; have BK819 := n2_; have BK11 := n3_; have BK13 := n4_; clear n0_ n1_ n2_ n3_ n4_; clear hw hc_ hf_ hHeld
         refine hK.out _ _ ⟨(blk_cell BK819.out 2).trans rfl, (blk_cell BK819.out 3).trans rfl⟩ (fun hHeld => ?_)
         clear hK K
         refine zp 6 127 ?_
         have hc_ : w7.cell? ⟨gb13, 1, none⟩ = some (.string ((rd_T30 l0 x6_2).f1)) := (blk_cell BK13.out 1).trans rfl
         have hf_ := blk_frozen BK13.out 1
         refine one_ (i := 7) (N := none) #[true, true, true, true, true, true, true, true] rfl rfl (one_of HT_.out (by kernel_rfl)) (by decide) (fun K hK => ?_)
         refine store_step (w1 := (w7.setCell ⟨gb13, 1, none⟩ (.string (a1_2)))) (by rfl) rfl ?hr ?_
         (case hr => first | (go_simp; done) | (go_simp; rfl))
         intro w8 hw
         have n0_ := Aside0.mk (Kd.R_far (p := ⟨gb13, 1, none⟩) HO.out (fun _ hk => hk.2) (.string (a1_2))); have n1_ : Aside0 (Below w.heap.size w w8) := ⟨by rw [hw]; exact below_set HB.out GE13.out⟩; have n2_ := Aside0.mk (blk_far (p := ⟨gb13, 1, none⟩) BK819.out NGA.out (.string (a1_2))); have n3_ := Aside0.mk (blk_far (p := ⟨gb13, 1, none⟩) BK11.out NGB.out (.string (a1_2))); have n4_ := Aside0.mk (blk_put (cs' := #[.int .i64 (a1_3), .string (a1_2), .string ((rd_T30 l0 x6_2).f2), .int .i64 ((rd_T30 l0 x6_2).f3), .int .i64 ((rd_T30 l0 x6_2).f4), .int .i64 (wrap64 ((rd_T30 l0 x6_2).f5 + 1))]) BK13.out 1 (.string (a1_2)) rfl); rw [← hw] at n0_ n2_ n3_ n4_; clear HO HB BK819 BK11 BK13; have HO := n0_; have HB := n1_; have BK819 := n2_; have BK11 := n3_; have BK13 := n4_; clear n0_ n1_ n2_ n3_ n4_; clear hw hc_ hf_ hHeld
         refine hK.out _ _ ⟨(blk_cell BK819.out 2).trans rfl, (blk_cell BK819.out 3).trans rfl⟩ (fun hHeld => ?_)
         clear hK K
         refine done_ (done_of HT_.out (by kernel_rfl)) ?_
         clear hHeld
         have hze_2 : w8.cell? ⟨gb819, 2, none⟩ = some (.string a1_2) := (blk_cell BK819.out 2).trans rfl
         have hqe : w8.cell? ⟨gb11, 0, none⟩ = some (.pointer (some ⟨go, x6_2.toNat * 6, none⟩)) := (blk_cell BK11.out 0).trans rfl
         obtain ⟨ce_, hcl_, hM_, hcc_, hfr_⟩ := Kd.R_elem HO.out z30 x6_2 C36.out C37.out
         rw [show ((l0.set x6_2.toNat (⟨(rd_T30 l0 x6_2).f0, (rd_T30 l0 x6_2).f1, (rd_T30 l0 x6_2).f2, (rd_T30 l0 x6_2).f3, (rd_T30 l0 x6_2).f4, wrap64 ((rd_T30 l0 x6_2).f5 + 1)⟩ : S30))).getD x6_2.toNat z30 = (⟨(rd_T30 l0 x6_2).f0, (rd_T30 l0 x6_2).f1, (rd_T30 l0 x6_2).f2, (rd_T30 l0 x6_2).f3, (rd_T30 l0 x6_2).f4, wrap64 ((rd_T30 l0 x6_2).f5 + 1)⟩ : S30) from by rw [List.getD_eq_getElem?_getD, List.getElem?_set_self (by have := C36.out; have := C37.out; omega)]; rfl] at hM_
         obtain rfl := k30_openM hM_
         have hxe_2 : w8.cell? ⟨go, x6_2.toNat * 6 + 2, none⟩ = some (.string ((rd_T30 l0 x6_2).f2)) := hcc_ 2 _ rfl
         have hfe_2 : w8.frozen? ⟨go, x6_2.toNat * 6 + 2, none⟩ = false := hfr_ 2
         have HPq := Kd.R_seg HO.out x6_2 C36.out C37.out (seg := [.string (a1_2)]) (j := 2) hcl_ hcc_ (show 3 ≤ 6 from by decide) (x' := (⟨(rd_T30 l0 x6_2).f0, (rd_T30 l0 x6_2).f1, a1_2, (rd_T30 l0 x6_2).f3, (rd_T30 l0 x6_2).f4, wrap64 ((rd_T30 l0 x6_2).f5 + 1)⟩ : S30)) (k30_mkM _ _ _ (⟨(rd_T30 l0 x6_2).f0, (rd_T30 l0 x6_2).f1, a1_2, (rd_T30 l0 x6_2).f3, (rd_T30 l0 x6_2).f4, wrap64 ((rd_T30 l0 x6_2).f5 + 1)⟩ : S30)) (fun _ hk => hk)
         rw [List.set_set] at HPq
         clear hcl_ hcc_ hfr_ hM_
         go_wp2_with (((with_reducible refine gate_store (t := 9) (p := 132) rfl ?_); refine store_event (t := 9) (p := 132) (v := ?voq) (w1 := (w8.setCell ⟨go, x6_2.toNat * 6 + 2, none⟩ (.string (a1_2)))) ?hg ?ho ?hn ?hr ?_; (case ho => rfl); (case hg => rfl); (case hn => rfl); (case hr => first | (go_simp; done) | (go_simp; rfl) | (go_simp; simp only [i64_w]; done)); intro w9 hw; have n0_ : Aside0 (Kd.R k30 30 w9 w.heap.size (fun k_ => ((True ∧ k_ ≠ gb11) ∧ k_ ≠ gb13)) (.slice (some ⟨go, 0, none⟩) l0.length co) (l0.set x6_2.toNat (⟨(rd_T30 l0 x6_2).f0, (rd_T30 l0 x6_2).f1, a1_2, (rd_T30 l0 x6_2).f3, (rd_T30 l0 x6_2).f4, wrap64 ((rd_T30 l0 x6_2).f5 + 1)⟩ : S30))) := ⟨by rw [hw]; exact HPq.1⟩; have n1_ : Aside0 (Below w.heap.size w w9) := ⟨by rw [hw]; exact below_set HB.out GB.out⟩; have n2_ := Aside0.mk (blk_far (p := ⟨go, x6_2.toNat * 6 + 2, none⟩) BK819.out NG819.out (.string (a1_2))); rw [← hw] at n2_; have n3_ := Aside0.mk (blk_far (p := ⟨go, x6_2.toNat * 6 + 2, none⟩) BK11.out NG11.out (.string (a1_2))); rw [← hw] at n3_; have n4_ := Aside0.mk (blk_far (p := ⟨go, x6_2.toNat * 6 + 2, none⟩) BK13.out NG13.out (.string (a1_2))); rw [← hw] at n4_; clear HPq; clear HO HB BK819 BK11 BK13; have HO := n0_; have HB := n1_; have BK819 := n2_; have BK11 := n3_; have BK13 := n4_; clear n0_ n1_ n2_ n3_ n4_; clear hw; (try clear hze_0); (try clear hze_1); (try clear hze_2); (try clear hze_3); (try clear hze_4); (try clear hqe); (try clear hxe_0); (try clear hxe_1); (try clear hxe_2); (try clear hxe_3); (try clear hxe_4); (try clear hxe_5); (try clear hfe_0); (try clear hfe_1); (try clear hfe_2); (try clear hfe_3); (try clear hfe_4); (try clear hfe_5)))
         obtain ⟨yl, hyl⟩ : ∃ y_ : List S30, y_ = (l0.set x6_2.toNat (⟨(rd_T30 l0 x6_2).f0, (rd_T30 l0 x6_2).f1, a1_2, (rd_T30 l0 x6_2).f3, (rd_T30 l0 x6_2).f4, wrap64 ((rd_T30 l0 x6_2).f5 + 1)⟩ : S30)) := ⟨_, rfl⟩
         have hyn : yl.length = l0.length := by rw [hyl, List.length_set]
         have HO1 : Aside0 (Kd.R k30 30 w9 w.heap.size (fun _ => True) (.slice (some ⟨go, 0, none⟩) l0.length co) yl) := ⟨by rw [hyl]; exact Kd.R_mono HO.out (fun _ _ => trivial)⟩
         clear HO BK819 BK11
         have hj0 : IntKind.i64.wrap (x6_2 + 1) = x6_2 + 1 := IntWalk.i64_in _ (by have := C36.out; have := C37.out; have := HLn.out; omega)
         obtain ⟨jn, hjn⟩ : ∃ j_ : Int, x6_2 + 1 = j_ := ⟨_, rfl⟩
         have hjw := hj0.trans hjn
         have hjv : wrap64 (x6_2 + 1) = jn := (i64_w _).symm.trans hjw
         clear hj0
         have e2_ : jn ≤ (l0.length : Int) := by have := C37.out; omega
         have e0_ : 0 ≤ jn := by have := C36.out; omega
         have YD : Aside0 ((([] ++ yl.take jn.toNat) ++ [(⟨a1_3, a1_2, (rd_T30 l0 x6_2).f2, (rd_T30 l0 x6_2).f3, (rd_T30 l0 x6_2).f4, wrap64 ((rd_T30 l0 x6_2).f5 + 1)⟩ : S30)]) ++ yl.drop jn.toNat = (l0.take x6_2.toNat ++ [(⟨(rd_T30 l0 x6_2).f0, (rd_T30 l0 x6_2).f1, a1_2, (rd_T30 l0 x6_2).f3, (rd_T30 l0 x6_2).f4, wrap64 ((rd_T30 l0 x6_2).f5 + 1)⟩ : S30)]) ++ ([(⟨a1_3, a1_2, (rd_T30 l0 x6_2).f2, (rd_T30 l0 x6_2).f3, (rd_T30 l0 x6_2).f4, wrap64 ((rd_T30 l0 x6_2).f5 + 1)⟩ : S30)] ++ l0.drop (x6_2 + 1).toNat)) := ⟨by have a0_ := C36.out; have a1_ := C37.out; rw [List.nil_append, hyl, show jn.toNat = x6_2.toNat + 1 by omega, set_take _ _ (by omega), show x6_2.toNat + 1 = x6_2.toNat + 1 + 0 by omega, set_drop _ _ (by omega), show (x6_2 + 1).toNat = x6_2.toNat + 1 + 0 by omega, List.append_assoc]⟩
         obtain ⟨i0_, hi0_, _, hsz_, _⟩ := info_parts info30
         have hroom := (Kd.R_reads' HO1.out).2.1
         have hc1 := cut_to (P := Try.prog) 25 30 .i64 Try.underlying25 hi0_ (some ⟨go, 0, none⟩) l0.length co jn e0_ e2_ hroom
         have hc2 := cut_from (P := Try.prog) 25 30 .i64 Try.underlying25 hi0_ 6 hsz_ (some ⟨go, 0, none⟩) l0.length co jn e0_ e2_
         have hl1 : (yl.take jn.toNat).length = jn.toNat := by rw [List.length_take]; omega
         have hl2 : (yl.drop jn.toNat).length = l0.length - jn.toNat := by rw [List.length_drop, hyn]
         obtain ⟨A2, hA2⟩ : ∃ A_ : Option Addr, A_ = (if co = jn.toNat then (some ⟨go, 0, none⟩) else ((some ⟨go, 0, none⟩) : Option Addr).map (·.add (jn.toNat * 6))) := ⟨_, rfl⟩
         obtain ⟨c2_, hc2_⟩ : ∃ c_ : Nat, c_ = co - jn.toNat := ⟨_, rfl⟩
         obtain ⟨y1, hy1⟩ : ∃ y_ : List S30, y_ = yl.take jn.toNat := ⟨_, rfl⟩
         obtain ⟨y2, hy2⟩ : ∃ y_ : List S30, y_ = yl.drop jn.toNat := ⟨_, rfl⟩
         rw [← hy1] at hl1 YD
         rw [← hy2] at hl2 YD
         rw [← hl1] at hc1
         rw [← hl2, ← hA2, ← hc2_] at hc2
         have LE1 := Aside0.mk (show y1.length ≤ 64 by have := HLn.out; omega)
         have LE2 := Aside0.mk (show y2.length ≤ 64 by have := HLn.out; omega)
         have HL1 := Aside0.mk hl1
         have HY1 := Aside0.mk hy1; have HY2 := Aside0.mk hy2; have HA2 := Aside0.mk hA2; have HYN := Aside0.mk hyn; have HRO := Aside0.mk hroom; have E2_ := Aside0.mk e2_; have E0_ := Aside0.mk e0_
         clear hy1 hy2 hA2 hc2_ hl1 hl2 hi0_ hsz_ hroom hjn e2_ e0_ hyl hyn
         have n0_ := Aside0.mk (Kd.R_drew HO1.out); have n1_ := Aside0.mk (below_drew1 HB.out); have n2_ := Aside0.mk (blk_drew BK13.out); clear HO1 HB BK13; have HO1 := n0_; have HB := n1_; have BK13 := n2_; clear n0_ n1_ n2_
         refine start_ (n := 14) (S := fun w' => w'.cell? ⟨gb13, 0, none⟩ = some (.int .i64 (a1_3)) ∧ w'.cell? ⟨gb13, 1, none⟩ = some (.string (a1_2)) ∧ w'.cell? ⟨gb13, 2, none⟩ = some (.string ((rd_T30 l0 x6_2).f2)) ∧ w'.cell? ⟨gb13, 3, none⟩ = some (.int .i64 ((rd_T30 l0 x6_2).f3)) ∧ w'.cell? ⟨gb13, 4, none⟩ = some (.int .i64 ((rd_T30 l0 x6_2).f4)) ∧ w'.cell? ⟨gb13, 5, none⟩ = some (.int .i64 (wrap64 ((rd_T30 l0 x6_2).f5 + 1)))) (ds := []) #[false, false, false, false, false, false, false, false, false, false, false, false, false, false] (by kernel_rfl) rfl rfl ⟨(blk_cell BK13.out 0).trans rfl, (blk_cell BK13.out 1).trans rfl, (blk_cell BK13.out 2).trans rfl, (blk_cell BK13.out 3).trans rfl, (blk_cell BK13.out 4).trans rfl, (blk_cell BK13.out 5).trans rfl⟩ (fun hHeld => ?_)
         refine with_tabW impl_RangeStep.tab27 impl_RangeStep.bits27 (fun HT_ HW_ => ?_)
         generalize World.drew w9 = w10 at HO1 HB BK13 hHeld ⊢
         refine zp 0 133 ?_
         refine zp 1 134 ?_
         refine zp 2 135 ?_
         refine zp 3 136 ?_
         refine zt 5 138 ?_ (hr := by rintro w' ⟨s0, s1, s2, s3, s4, s5⟩; go_simp; with_reducible rfl)
         refine zp 8 141 ?_
         refine zp 9 142 ?_
         refine zp 10 143 ?_
         refine zp 11 144 ?_
         refine join_ (σ := Value × Value) 3 #[true, true, true, true, true, true, true, false, true, true, true, true, false, false] (fun s_ => [(137, s_.1), (139, s_.2)]) (fun s_ w' => (w'.cell? ⟨gb13, 0, none⟩ = some (.int .i64 (a1_3)) ∧ w'.cell? ⟨gb13, 1, none⟩ = some (.string (a1_2)) ∧ w'.cell? ⟨gb13, 2, none⟩ = some (.string ((rd_T30 l0 x6_2).f2)) ∧ w'.cell? ⟨gb13, 3, none⟩ = some (.int .i64 ((rd_T30 l0 x6_2).f3)) ∧ w'.cell? ⟨gb13, 4, none⟩ = some (.int .i64 ((rd_T30 l0 x6_2).f4)) ∧ w'.cell? ⟨gb13, 5, none⟩ = some (.int .i64 (wrap64 ((rd_T30 l0 x6_2).f5 + 1)))) ∧ (Kd.R k30 30 w' w.heap.size (fun k_ => True ∧ some k_ ≠ (s_.1 : Value).ownBlock) (.slice (some ⟨go, 0, none⟩) l0.length co) yl) ∧ (Kd.R k30 30 w' w.heap.size (fun k_ => some k_ ≠ (.slice (some ⟨go, 0, none⟩) l0.length co : Value).ownBlock ∧ k_ ≠ gb13) s_.1 ([] ++ y1)) ∧ (Kd.R k30 30 w' w.heap.size (fun _ => True) s_.2 ([(⟨a1_3, a1_2, (rd_T30 l0 x6_2).f2, (rd_T30 l0 x6_2).f3, (rd_T30 l0 x6_2).f4, wrap64 ((rd_T30 l0 x6_2).f5 + 1)⟩ : S30)] : List S30)) ∧ (Below w.heap.size w w') ∧ (w'.heap[gb13]? = some (.cells #[.int .i64 (a1_3), .string (a1_2), .string ((rd_T30 l0 x6_2).f2), .int .i64 ((rd_T30 l0 x6_2).f3), .int .i64 ((rd_T30 l0 x6_2).f4), .int .i64 (wrap64 ((rd_T30 l0 x6_2).f5 + 1))] 30 (0, 0)))) ?_ ?_
         rotate_left
         ·intro hCont
          refine two_ (i := 4) (j := 6) (Ni := some 137) (Nj := some 139) #[true, true, true, true, true, true, false, false, true, true, true, true, false, false] #[true, true, true, true, false, true, true, false, true, true, true, true, false, false] rfl rfl rfl rfl (two_of HT_.out (by kernel_rfl)) (by decide) (by decide) (fun K hK => ?_) (fun K hK => ?_)
          ·skip
           refine Kd.R_append_rows_step k30 (w0 := w) w.heap.size (by rfl) (.const (.slice none 0 0)) (.tmp 136) 25 30 (.agg #[(.int .i64 0), (.string ⟨#[]⟩), (.string ⟨#[]⟩), (.int .i64 0), (.int .i64 0), (.int .i64 0)]) 64 rfl Try.underlying25 info30 rfl (by decide) (by omega) (.slice none 0 0) ([] : List S30) y1 _ _ _ (fun k_ => some k_ ≠ (.slice (some ⟨go, 0, none⟩) l0.length co : Value).ownBlock ∧ k_ ≠ gb13) (fun _ => False) rfl rfl ?aO ?aR (fun _ _ h => h) (fun _ h => h.elim) ?aF ?aB ?aS ?aL ?_
           (case aO => exact Kd.R_nil _ _ _ _ _)
           (case aR => exact (by have q_ := Kd.C_take (m := jn.toNat) (Kd.R_reads' HO1.out).2.2 (by have := HYN.out; have := E2_.out; omega); rw [← HY1.out] at q_; exact q_))
           (case aF => exact (fun k_ hk => ⟨Kd.fresh' (Kd.R_lt HO1.out) k_ hk, Kd.freshB BK13.out k_ hk⟩))
           (case aB => exact HB.out)
           (case aS => exact below_size HB.out)
           (case aL => have := HLn.out; have := LE1.out; have := LE2.out; (try simp only [List.length_nil, List.length_append, List.length_singleton]); omega)
           intro v11 w11 ho hb hg hat
           have n0_ := Aside0.mk (Kd.R_after (v := .slice none 0 0) (ok := fun _ => True) (Kd.R_mono HO1.out (fun _ _ => ⟨trivial, fun h => nomatch h⟩)) hg hat); have n1_ := Aside0.mk ho; have n2_ := Aside0.mk hb; have n3_ := Aside0.mk (blk_grown BK13.out hg (fun h => nomatch h))
           clear HO1 HB BK13 ho hb hg hat; have HO1 := n0_; have HO2 := n1_; have HB := n2_; have BK13 := n3_; clear n0_ n1_ n2_ n3_
           refine hK.out _ _ ⟨(blk_cell BK13.out 0).trans rfl, (blk_cell BK13.out 1).trans rfl, (blk_cell BK13.out 2).trans rfl, (blk_cell BK13.out 3).trans rfl, (blk_cell BK13.out 4).trans rfl, (blk_cell BK13.out 5).trans rfl⟩ (fun hHeld => ?_)
           clear hK K; refine norm_ (a' := ?_) ?_ ?_; rotate_left
           ·show Act.put _ (some 137) _ = _
            simp only [Act.put, List.setIfInBounds_toArray, List.set_cons_zero, List.set_cons_succ, i64_w, i32_w]; rfl
           refine one_ (i := 6) (N := some 139) #[true, true, true, true, true, true, true, false, true, true, true, true, false, false] rfl rfl (one_of HT_.out (by kernel_rfl)) (by decide) (fun K hK => ?_)
           refine Kd.R_lit_step k30 _ 30 ?hg (N := 139) ?hd (xs := ([(⟨a1_3, a1_2, (rd_T30 l0 x6_2).f2, (rd_T30 l0 x6_2).f3, (rd_T30 l0 x6_2).f4, wrap64 ((rd_T30 l0 x6_2).f5 + 1)⟩ : S30)] : List S30)) (inner := #[.int .i64 (a1_3), .string (a1_2), .string ((rd_T30 l0 x6_2).f2), .int .i64 ((rd_T30 l0 x6_2).f3), .int .i64 ((rd_T30 l0 x6_2).f4), .int .i64 (wrap64 ((rd_T30 l0 x6_2).f5 + 1))].toList) (ok := fun _ => True) (okp := fun _ => True) ?hr ?hp (fun _ hk => hk) trivial (Below.refl _ _) (Nat.le_refl _) (by simp) ?_
           (case hd => rfl)
           (case hg => rfl)
           (case hr => first | (go_simp; done) | (go_simp; rfl))
           (case hp => exact (Reps.c6 (show Kd.M k30 _ _ _ (⟨a1_3, a1_2, (rd_T30 l0 x6_2).f2, (rd_T30 l0 x6_2).f3, (rd_T30 l0 x6_2).f4, wrap64 ((rd_T30 l0 x6_2).f5 + 1)⟩ : S30) [.int .i64 (a1_3), .string (a1_2), .string ((rd_T30 l0 x6_2).f2), .int .i64 ((rd_T30 l0 x6_2).f3), .int .i64 ((rd_T30 l0 x6_2).f4), .int .i64 (wrap64 ((rd_T30 l0 x6_2).f5 + 1))] from (k30_mkM _ _ _ (⟨a1_3, a1_2, (rd_T30 l0 x6_2).f2, (rd_T30 l0 x6_2).f3, (rd_T30 l0 x6_2).f4, wrap64 ((rd_T30 l0 x6_2).f5 + 1)⟩ : S30))) (Reps.none _ _)))
           intro v139 w12 ho hb hg_ hnew_
           clear hg_ hnew_
           have n0_ := Aside0.mk (Kd.R_below HO1.out hb); have n1_ := Aside0.mk (Kd.R_below HO2.out hb); have n2_ := Aside0.mk (Kd.R_lower ho (below_size HB.out)); have n3_ := Aside0.mk (below_step HB.out hb); have n4_ := Aside0.mk (blk_below BK13.out hb); clear HO1 HO2 HB BK13 ho hb; have HO1 := n0_; have HO2 := n1_; have HO3 := n2_; have HB := n3_; have BK13 := n4_; clear n0_ n1_ n2_ n3_ n4_
           refine hK.out _ _ ⟨(blk_cell BK13.out 0).trans rfl, (blk_cell BK13.out 1).trans rfl, (blk_cell BK13.out 2).trans rfl, (blk_cell BK13.out 3).trans rfl, (blk_cell BK13.out 4).trans rfl, (blk_cell BK13.out 5).trans rfl⟩ (fun hHeld => ?_)
           clear hK K; refine norm_ (a' := ?_) ?_ ?_; rotate_left
           ·show Act.put _ (some 139) _ = _
            simp only [Act.put, List.setIfInBounds_toArray, List.set_cons_zero, List.set_cons_succ, i64_w, i32_w]; rfl
           exact norm_ (by simp only [putAll, Act.put, List.setIfInBounds_toArray, List.set_cons_zero, List.set_cons_succ]) (hCont (v11, v139) _ ⟨hHeld, HO1.out, HO2.out, HO3.out, HB.out, BK13.out⟩)
          ·skip
           refine Kd.R_lit_step k30 _ 30 ?hg (N := 139) ?hd (xs := ([(⟨a1_3, a1_2, (rd_T30 l0 x6_2).f2, (rd_T30 l0 x6_2).f3, (rd_T30 l0 x6_2).f4, wrap64 ((rd_T30 l0 x6_2).f5 + 1)⟩ : S30)] : List S30)) (inner := #[.int .i64 (a1_3), .string (a1_2), .string ((rd_T30 l0 x6_2).f2), .int .i64 ((rd_T30 l0 x6_2).f3), .int .i64 ((rd_T30 l0 x6_2).f4), .int .i64 (wrap64 ((rd_T30 l0 x6_2).f5 + 1))].toList) (ok := fun _ => True) (okp := fun _ => True) ?hr ?hp (fun _ hk => hk) trivial (Below.refl _ _) (Nat.le_refl _) (by simp) ?_
           (case hd => rfl)
           (case hg => rfl)
           (case hr => first | (go_simp; done) | (go_simp; rfl))
           (case hp => exact (Reps.c6 (show Kd.M k30 _ _ _ (⟨a1_3, a1_2, (rd_T30 l0 x6_2).f2, (rd_T30 l0 x6_2).f3, (rd_T30 l0 x6_2).f4, wrap64 ((rd_T30 l0 x6_2).f5 + 1)⟩ : S30) [.int .i64 (a1_3), .string (a1_2), .string ((rd_T30 l0 x6_2).f2), .int .i64 ((rd_T30 l0 x6_2).f3), .int .i64 ((rd_T30 l0 x6_2).f4), .int .i64 (wrap64 ((rd_T30 l0 x6_2).f5 + 1))] from (k30_mkM _ _ _ (⟨a1_3, a1_2, (rd_T30 l0 x6_2).f2, (rd_T30 l0 x6_2).f3, (rd_T30 l0 x6_2).f4, wrap64 ((rd_T30 l0 x6_2).f5 + 1)⟩ : S30))) (Reps.none _ _)))
           intro v139 w11 ho hb hg_ hnew_
           clear hg_ hnew_
           have n0_ := Aside0.mk (Kd.R_below HO1.out hb); have n2_ := Aside0.mk (Kd.R_lower ho (below_size HB.out)); have n3_ := Aside0.mk (below_step HB.out hb); have n4_ := Aside0.mk (blk_below BK13.out hb); clear HO1 HB BK13 ho hb; have HO1 := n0_; have HO3 := n2_; have HB := n3_; have BK13 := n4_; clear n0_ n2_ n3_ n4_
           refine hK.out _ _ ⟨(blk_cell BK13.out 0).trans rfl, (blk_cell BK13.out 1).trans rfl, (blk_cell BK13.out 2).trans rfl, (blk_cell BK13.out 3).trans rfl, (blk_cell BK13.out 4).trans rfl, (blk_cell BK13.out 5).trans rfl⟩ (fun hHeld => ?_)
           clear hK K; refine norm_ (a' := ?_) ?_ ?_; rotate_left
           ·show Act.put _ (some 139) _ = _
            simp only [Act.put, List.setIfInBounds_toArray, List.set_cons_zero, List.set_cons_succ, i64_w, i32_w]; rfl
           refine one_ (i := 4) (N := some 137) #[true, true, true, true, true, true, true, false, true, true, true, true, false, false] rfl rfl (one_of HT_.out (by kernel_rfl)) (by decide) (fun K hK => ?_)
           refine Kd.R_append_rows_step k30 (w0 := w) w.heap.size (by rfl) (.const (.slice none 0 0)) (.tmp 136) 25 30 (.agg #[(.int .i64 0), (.string ⟨#[]⟩), (.string ⟨#[]⟩), (.int .i64 0), (.int .i64 0), (.int .i64 0)]) 64 rfl Try.underlying25 info30 rfl (by decide) (by omega) (.slice none 0 0) ([] : List S30) y1 _ _ _ (fun k_ => some k_ ≠ (.slice (some ⟨go, 0, none⟩) l0.length co : Value).ownBlock ∧ k_ ≠ gb13) (fun _ => False) rfl rfl ?aO ?aR (fun _ _ h => h) (fun _ h => h.elim) ?aF ?aB ?aS ?aL ?_
           (case aO => exact Kd.R_nil _ _ _ _ _)
           (case aR => exact (by have q_ := Kd.C_take (m := jn.toNat) (Kd.R_reads' HO1.out).2.2 (by have := HYN.out; have := E2_.out; omega); rw [← HY1.out] at q_; exact q_))
           (case aF => exact (fun k_ hk => ⟨Kd.fresh' (Kd.R_lt HO1.out) k_ hk, Kd.freshB BK13.out k_ hk⟩))
           (case aB => exact HB.out)
           (case aS => exact below_size HB.out)
           (case aL => have := HLn.out; have := LE1.out; have := LE2.out; (try simp only [List.length_nil, List.length_append, List.length_singleton]); omega)
           intro v12 w12 ho hb hg hat
           have n0_ := Aside0.mk (Kd.R_after (v := .slice none 0 0) (ok := fun _ => True) (Kd.R_mono HO1.out (fun _ _ => ⟨trivial, fun h => nomatch h⟩)) hg hat); have n1_ := Aside0.mk ho; have n2_ := Aside0.mk hb; have n3_ := Aside0.mk (blk_grown BK13.out hg (fun h => nomatch h))
           have n4_ := Aside0.mk (Kd.R_grown HO3.out hg (fun _ _ h => nomatch h)); clear HO1 HO3 HB BK13 ho hb hg hat; have HO1 := n0_; have HO2 := n1_; have HB := n2_; have BK13 := n3_; have HO3 := n4_; clear n0_ n1_ n2_ n3_ n4_
           refine hK.out _ _ ⟨(blk_cell BK13.out 0).trans rfl, (blk_cell BK13.out 1).trans rfl, (blk_cell BK13.out 2).trans rfl, (blk_cell BK13.out 3).trans rfl, (blk_cell BK13.out 4).trans rfl, (blk_cell BK13.out 5).trans rfl⟩ (fun hHeld => ?_)
           clear hK K; refine norm_ (a' := ?_) ?_ ?_; rotate_left
           ·show Act.put _ (some 137) _ = _
            simp only [Act.put, List.setIfInBounds_toArray, List.set_cons_zero, List.set_cons_succ, i64_w, i32_w]; rfl
           exact norm_ (by simp only [putAll, Act.put, List.setIfInBounds_toArray, List.set_cons_zero, List.set_cons_succ]) (hCont (v12, v139) _ ⟨hHeld, HO1.out, HO2.out, HO3.out, HB.out, BK13.out⟩)
         rintro ⟨v137, v139⟩ w13 ⟨hS_, h0_, h1_, h2_, h3_, h4_⟩
         have n0_ : Aside0 (Kd.R k30 30 w13 w.heap.size (fun k_ => True ∧ some k_ ≠ (v137 : Value).ownBlock) (.slice (some ⟨go, 0, none⟩) l0.length co) yl) := ⟨h0_⟩; have n1_ : Aside0 (Kd.R k30 30 w13 w.heap.size (fun k_ => some k_ ≠ (.slice (some ⟨go, 0, none⟩) l0.length co : Value).ownBlock ∧ k_ ≠ gb13) v137 ([] ++ y1)) := ⟨h1_⟩; have n2_ : Aside0 (Kd.R k30 30 w13 w.heap.size (fun _ => True) v139 ([(⟨a1_3, a1_2, (rd_T30 l0 x6_2).f2, (rd_T30 l0 x6_2).f3, (rd_T30 l0 x6_2).f4, wrap64 ((rd_T30 l0 x6_2).f5 + 1)⟩ : S30)] : List S30)) := ⟨h2_⟩; have n3_ : Aside0 (Below w.heap.size w w13) := ⟨h3_⟩; have n4_ := Aside0.mk h4_; clear h0_ h1_ h2_ h3_ h4_ HO1 HB BK13 hHeld; have HO1 := n0_; have HO2 := n1_; have HO3 := n2_; have HB := n3_; have BK13 := n4_; clear n0_ n1_ n2_ n3_ n4_
         have hHeld := hS_
         clear hS_
         obtain ⟨A9, c9, e9⟩ := Kd.R_slice HO3.out
         subst e9
         refine norm_ (a' := ?_) ?_ ?_; rotate_left
         ·simp only [putAll, Act.put, List.setIfInBounds_toArray, List.set_cons_zero, List.set_cons_succ]
          rfl
         refine one_ (i := 7) (N := some 140) #[true, true, true, true, true, true, true, true, true, true, true, true, false, false] rfl rfl (one_of HT_.out (by kernel_rfl)) (by decide) (fun K hK => ?_)
         refine Kd.R_append_rows_step k30 (w0 := w) w.heap.size (by rfl) (.tmp 137) (.tmp 139) 25 30 (.agg #[(.int .i64 0), (.string ⟨#[]⟩), (.string ⟨#[]⟩), (.int .i64 0), (.int .i64 0), (.int .i64 0)]) 64 rfl Try.underlying25 info30 rfl (by decide) (by omega) v137 ([] ++ y1) ([(⟨a1_3, a1_2, (rd_T30 l0 x6_2).f2, (rd_T30 l0 x6_2).f3, (rd_T30 l0 x6_2).f4, wrap64 ((rd_T30 l0 x6_2).f5 + 1)⟩ : S30)] : List S30) _ _ _ (fun k_ => some k_ ≠ (.slice (some ⟨go, 0, none⟩) l0.length co : Value).ownBlock ∧ k_ ≠ gb13) (fun _ => False) rfl rfl ?aO ?aR (fun _ _ h => h) (fun _ h => h.elim) ?aF ?aB ?aS ?aL ?_
         (case aO => exact HO2.out)
         (case aR => exact (Kd.R_reads' HO3.out).2.2)
         (case aF => exact (fun k_ hk => ⟨Kd.fresh' (Kd.R_lt HO1.out) k_ hk, Kd.freshB BK13.out k_ hk⟩))
         (case aB => exact HB.out)
         (case aS => exact below_size HB.out)
         (case aL => have := HLn.out; have := LE1.out; have := LE2.out; (try simp only [List.length_nil, List.length_append, List.length_singleton]); omega)
         intro v14 w14 ho hb hg hat
         have n0_ := Aside0.mk (Kd.R_after (ok := fun _ => True) HO1.out hg hat); have n1_ := Aside0.mk ho; have n2_ := Aside0.mk hb; have n3_ := Aside0.mk (blk_grown BK13.out hg (Kd.R_away HO2.out (fun _ hk => hk.2))); clear HO1 HO2 HO3 HB BK13 ho hb hg hat; have HO1 := n0_; have HO2 := n1_; have HB := n2_; have BK13 := n3_; clear n0_ n1_ n2_ n3_
         refine hK.out _ _ ⟨(blk_cell BK13.out 0).trans rfl, (blk_cell BK13.out 1).trans rfl, (blk_cell BK13.out 2).trans rfl, (blk_cell BK13.out 3).trans rfl, (blk_cell BK13.out 4).trans rfl, (blk_cell BK13.out 5).trans rfl⟩ (fun hHeld => ?_)
         clear hK K; refine norm_ (a' := ?_) ?_ ?_; rotate_left
         ·show Act.put _ (some 140) _ = _
          simp only [Act.put, List.setIfInBounds_toArray, List.set_cons_zero, List.set_cons_succ, i64_w, i32_w]; rfl
         refine one_ (i := 12) (N := some 145) #[true, true, true, true, true, true, true, true, true, true, true, true, true, false] rfl rfl (one_of HT_.out (by kernel_rfl)) (by decide) (fun K hK => ?_)
         refine Kd.R_append_rows_step k30 (w0 := w) w.heap.size (by rfl) (.tmp 140) (.tmp 144) 25 30 (.agg #[(.int .i64 0), (.string ⟨#[]⟩), (.string ⟨#[]⟩), (.int .i64 0), (.int .i64 0), (.int .i64 0)]) 64 rfl Try.underlying25 info30 rfl (by decide) (by omega) v14 (([] ++ y1) ++ ([(⟨a1_3, a1_2, (rd_T30 l0 x6_2).f2, (rd_T30 l0 x6_2).f3, (rd_T30 l0 x6_2).f4, wrap64 ((rd_T30 l0 x6_2).f5 + 1)⟩ : S30)] : List S30)) y2 _ _ _ (fun _ => True) (fun _ => False) rfl rfl ?aO ?aR (fun _ _ h => h) (fun _ h => h.elim) ?aF ?aB ?aS ?aL ?_
         (case aO => exact Kd.R_mono HO2.out (fun _ _ => trivial))
         (case aR => exact (by have q_ := Kd.C_drop (m := jn.toNat) (c := co) (Kd.R_reads' HO1.out).2.2 (by have := HYN.out; have := E2_.out; omega) (by have := HYN.out; have := HRO.out; omega); rw [← HY2.out] at q_; rw [HA2.out]; exact q_))
         (case aF => exact (fun _ _ => trivial))
         (case aB => exact HB.out)
         (case aS => exact below_size HB.out)
         (case aL => have := HLn.out; have := LE1.out; have := LE2.out; (try simp only [List.length_nil, List.length_append, List.length_singleton]); omega)
         intro v15 w15 ho hb hg hat
         have HOn := Aside0.mk ho; have n2_ := Aside0.mk hb; have n3_ := Aside0.mk (blk_grown BK13.out hg (Kd.R_away HO2.out (fun _ hk => hk.2))); clear HO1 HO2 HB BK13 ho hb hg hat; have HB := n2_; have BK13 := n3_; clear n2_ n3_
         refine hK.out _ _ ⟨(blk_cell BK13.out 0).trans rfl, (blk_cell BK13.out 1).trans rfl, (blk_cell BK13.out 2).trans rfl, (blk_cell BK13.out 3).trans rfl, (blk_cell BK13.out 4).trans rfl, (blk_cell BK13.out 5).trans rfl⟩ (fun hHeld => ?_)
         clear hK K; refine norm_ (a' := ?_) ?_ ?_; rotate_left
         ·show Act.put _ (some 145) _ = _
          simp only [Act.put, List.setIfInBounds_toArray, List.set_cons_zero, List.set_cons_succ, i64_w, i32_w]; rfl
         refine zp 13 10 ?_
         refine done_ (done_of HT_.out (by kernel_rfl)) ?_
         obtain ⟨ys, hys⟩ : ∃ y_ : List S30, y_ = (([] ++ y1) ++ ([(⟨a1_3, a1_2, (rd_T30 l0 x6_2).f2, (rd_T30 l0 x6_2).f3, (rd_T30 l0 x6_2).f4, wrap64 ((rd_T30 l0 x6_2).f5 + 1)⟩ : S30)] : List S30)) ++ y2 := ⟨_, rfl⟩
         rw [← hys] at HOn
         have hyg : ys.getD x6_2.toNat z30 = (⟨(rd_T30 l0 x6_2).f0, (rd_T30 l0 x6_2).f1, a1_2, (rd_T30 l0 x6_2).f3, (rd_T30 l0 x6_2).f4, wrap64 ((rd_T30 l0 x6_2).f5 + 1)⟩ : S30) := by have := C36.out; rw [hys, YD.out]; exact mid_get' _ _ _ _ _ (by rw [List.length_take]; have := C37.out; omega)
         have hyp : x6_2 < (ys.length : Int) := by have := C36.out; have := C37.out; rw [hys, YD.out]; simp only [List.length_append, List.length_take, List.length_cons, List.length_nil]; omega
         obtain ⟨g2, co2, eo2, gb2, gl2, cl2, HG2⟩ := Kd.R_form HOn.out (by have := C36.out; omega)
         subst eo2
         clear gb2 gl2 HG2
         have p8 : (0 ≤ x6_2) = True := eq_true C36.out
         have q8 : (x6_2 < (ys.length : Int)) = True := eq_true hyp
         have p8b : decide (0 ≤ x6_2) = true := decide_eq_true C36.out
         have q8b : decide (x6_2 < (ys.length : Int)) = true := decide_eq_true hyp
         obtain ⟨ce_, hcl_, hM_, hcc_, hfr_⟩ := Kd.R_elem HOn.out z30 x6_2 C36.out hyp
         rw [hyg] at hM_
         obtain rfl := k30_openM hM_
         have hxz_5 : w15.cell? ⟨g2, x6_2.toNat * 6 + 5, none⟩ = some (.int .i64 (wrap64 ((rd_T30 l0 x6_2).f5 + 1))) := hcc_ 5 _ rfl
         clear hcl_ hcc_ hfr_ hM_
         have Ny := Aside0.mk (show l0.take x6_2.toNat ++ [(⟨(rd_T30 l0 x6_2).f0, (rd_T30 l0 x6_2).f1, a1_2, (rd_T30 l0 x6_2).f3, (rd_T30 l0 x6_2).f4, wrap64 ((rd_T30 l0 x6_2).f5 + 1)⟩ : S30), (⟨a1_3, a1_2, (rd_T30 l0 x6_2).f2, (rd_T30 l0 x6_2).f3, (rd_T30 l0 x6_2).f4, wrap64 ((rd_T30 l0 x6_2).f5 + 1)⟩ : S30)] ++ l0.drop (x6_2 + 1).toNat = ys by rw [hys, YD.out]; simp)
         clear hys hyg hyp
         have H := HW.out
         clear HW
         by_cases g9 : wrap64 ((rd_T30 l0 x6_2).f5 + 1) > 1000000
         ·rw [if_pos g9] at H
          have g9b : decide (1000000 < wrap64 ((rd_T30 l0 x6_2).f5 + 1)) = true := decide_eq_true g9
          clear g9
          simp only [Option.some.injEq, Prod.mk.injEq] at H
          obtain ⟨rfl, rfl⟩ := H
          go_wp2
          go_ret2
          exact ⟨_, by first | rfl | (simp; done), Kd.R_nil _ _ _ _ _, zb⟩
         ·rw [if_neg g9] at H
          have g9b : decide (1000000 < wrap64 ((rd_T30 l0 x6_2).f5 + 1)) = false := decide_eq_false g9
          clear g9
          simp only [impl_new] at H
          simp only [Option.some.injEq, Prod.mk.injEq] at H
          obtain ⟨rfl, rfl⟩ := H
          go_wp2
          go_ret2
          exact ⟨_, by first | rfl | (simp; done), by rw [Ny.out]; exact Kd.R_mono (zr HOn.out) (fun _ _ => trivial), zb⟩
end Go.Proofs.Ytdgleppagokjhaa.QFnExactRangeStep
