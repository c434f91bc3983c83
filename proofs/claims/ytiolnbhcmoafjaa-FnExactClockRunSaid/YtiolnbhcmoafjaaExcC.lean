/- The functions that the law reaches, each as a plain Lean function with the proof that the Go code comes to its answers: written by a program of this session. No condition. -/
import Derived.Test.YtiolnbhcmoafjaaQFnClocksx0
import Derived.Test.YtiolnbhcmoafjaaExcA
namespace Go.Proofs.Ytiolnbhcmoafjaa.QFnClocks
open Go.RowKit Go.Proofs.YtiolnbhcmoafjaaW.PrintWords Go.Proofs.YtiolnbhcmoafjaaW.PrintLast Go.Proofs.YtiolnbhcmoafjaaW.PrintMore
attribute [local go_sem] max2_int min2_int max_two min_two max_three min_three max_four min_four str_gtr str_leq str_geq pw_at_slice   -- for this text's walks alone
set_option linter.unusedVariables false
set_option linter.unusedSimpArgs false

/-! ### laws_eqTime: function 60 -/
def laws_eqTime.f (a0_0 : Int) (a0_1 : Int) (a1_0 : Int) (a1_1 : Int) : Option (Bool) := if a0_0 = a1_0 then (if a0_1 = a1_1 then (some true) else (some false)) else (some false)
set_option maxHeartbeats 8000000 in
set_option maxRecDepth 100000 in
theorem laws_eqTime.calls (a0_0 : Int) (a0_1 : Int) (a1_0 : Int) (a1_1 : Int) (r : Bool) (w : World) (h : laws_eqTime.f a0_0 a0_1 a1_0 a1_1 = some r) :
  Calls Try.prog 60 #[.agg #[.int .i64 a0_0, .int .i64 a0_1], .agg #[.int .i64 a1_0, .int .i64 a1_1]] w fun e w' => e = .returned (.bool r) ∧ Below w.heap.size w w' := by
 have hu40 := Try.underlying40
 have HB := Aside0.mk (Below.refl w.heap.size w)
 have H : (if a0_0 = a1_0 then (if a0_1 = a1_1 then (some true) else (some false)) else (some false)) = some r := h
 clear h
 by_cases c3 : a0_0 = a1_0
 ·rw [if_pos c3] at H
  have c3b0 : (a0_0 == a1_0) = true := beq_iff_eq.mpr c3
  have c3b1 : (a0_0 != a1_0) = false := bne_eq_false_iff_eq.mpr c3
  clear c3
  by_cases c4 : a0_1 = a1_1
  ·rw [if_pos c4] at H
   have c4b0 : (a0_1 == a1_1) = true := beq_iff_eq.mpr c4
   have c4b1 : (a0_1 != a1_1) = false := bne_eq_false_iff_eq.mpr c4
   clear c4
   obtain rfl := Option.some.inj H
   go_enter Try.func60, Try.ntmps60
   go_wp2_with (first | ((with_reducible refine gate_dst (N := 2) rfl ?_); refine box_event ?hg (N := 2) ?hd (cs := #[.int .i64 a0_0, .int .i64 a0_1]) (t := 40) ?hr ?_; (case hd => rfl); (case hg => rfl); (case hr => first | (go_simp; done) | (go_simp; rfl)); intro gb757 hg w5 hbox hb; have n0_ := Aside0.mk (below_step zb hb); have n1_ := Aside0.mk (hbox); have n2_ := Aside0.mk ((by rw [hg]; exact (below_size zb) : w.heap.size ≤ gb757)); have n3_ := Aside0.mk ((by rw [hg]; exact (below_size zb) : w.heap.size ≤ gb757)); clear HB; have HB := n0_; have BK757 := n1_; have GW757 := n2_; have GE757 := n3_; clear n0_ n1_ n2_ n3_; clear hb hbox hg) | ((with_reducible refine gate_dst (N := 3) rfl ?_); refine box_event ?hg (N := 3) ?hd (cs := #[.int .i64 a1_0, .int .i64 a1_1]) (t := 40) ?hr ?_; (case hd => rfl); (case hg => rfl); (case hr => first | (go_simp; done) | (go_simp; rfl)); intro gb758 hg w6 hbox hb; have n0_ := Aside0.mk (blk_below (zk BK757.out) hb); have n1_ := Aside0.mk (below_step (by repeat (first | (with_reducible first | exact HB.out | apply below_alloc | apply pw_below_drewN | apply below_drew1 | refine below_set ?_ GE757.out) | exact HB.out)) hb); have n2_ := Aside0.mk (hbox); have n3_ := Aside0.mk ((by rw [hg]; exact (below_size (by repeat (first | (with_reducible first | exact HB.out | apply below_alloc | apply pw_below_drewN | apply below_drew1 | refine below_set ?_ GE757.out) | exact HB.out))) : w.heap.size ≤ gb758)); have n4_ := Aside0.mk ((by rw [hg]; exact (below_size (by repeat (first | (with_reducible first | exact HB.out | apply below_alloc | apply pw_below_drewN | apply below_drew1 | refine below_set ?_ GE757.out) | exact HB.out))) : w.heap.size ≤ gb758)); have n5_ := Aside0.mk ((by rw [hg]; exact Nat.ne_of_lt (blk_lt (g := gb757) (o := .cells #[.int .i64 a0_0, .int .i64 a0_1] 40 (0, 0)) (zk BK757.out)) : gb757 ≠ gb758)); have n6_ := Aside0.mk ((by rw [hg]; exact Nat.ne_of_gt (blk_lt (g := gb757) (o := .cells #[.int .i64 a0_0, .int .i64 a0_1] 40 (0, 0)) (zk BK757.out)) : gb758 ≠ gb757)); clear BK757; clear HB; have BK757 := n0_; have HB := n1_; have BK758 := n2_; have GW758 := n3_; have GE758 := n4_; have NB757_758 := n5_; have NB758_757 := n6_; clear n0_ n1_ n2_ n3_ n4_ n5_ n6_; clear hb hbox hg; have hnb7 := NB757_758.out; have hnc7 := NB758_757.out; have hcz8_0 : w6.cell? ⟨gb757, 0, none⟩ = some (.int .i64 a0_0) := (blk_cell BK757.out 0).trans rfl; have hcz8_1 : w6.cell? ⟨gb757, 1, none⟩ = some (.int .i64 a0_1) := (blk_cell BK757.out 1).trans rfl; have hfz8_0 := blk_frozen BK757.out 0; have hfz8_1 := blk_frozen BK757.out 1; have hcz9_0 : w6.cell? ⟨gb758, 0, none⟩ = some (.int .i64 a1_0) := (blk_cell BK758.out 0).trans rfl; have hcz9_1 : w6.cell? ⟨gb758, 1, none⟩ = some (.int .i64 a1_1) := (blk_cell BK758.out 1).trans rfl; have hfz9_0 := blk_frozen BK758.out 0; have hfz9_1 := blk_frozen BK758.out 1))
   go_ret
   exact ⟨by first | rfl | (simp [errW_none, errW_some] <;> rfl) | (simp [*, errW_none, errW_some] <;> rfl), by repeat (first | (with_reducible first | exact HB.out | apply below_alloc | apply pw_below_drewN | apply below_drew1 | refine below_set ?_ GE757.out | refine below_set ?_ GE758.out) | exact HB.out)⟩
  ·rw [if_neg c4] at H
   have c4b0 : (a0_1 == a1_1) = false := beq_eq_false_iff_ne.mpr c4
   have c4b1 : (a0_1 != a1_1) = true := bne_iff_ne.mpr c4
   obtain rfl := Option.some.inj H
   go_enter Try.func60, Try.ntmps60
   go_wp2_with (first | ((with_reducible refine gate_dst (N := 2) rfl ?_); refine box_event ?hg (N := 2) ?hd (cs := #[.int .i64 a0_0, .int .i64 a0_1]) (t := 40) ?hr ?_; (case hd => rfl); (case hg => rfl); (case hr => first | (go_simp; done) | (go_simp; rfl)); intro gb757 hg w10 hbox hb; have n0_ := Aside0.mk (below_step zb hb); have n1_ := Aside0.mk (hbox); have n2_ := Aside0.mk ((by rw [hg]; exact (below_size zb) : w.heap.size ≤ gb757)); have n3_ := Aside0.mk ((by rw [hg]; exact (below_size zb) : w.heap.size ≤ gb757)); clear HB; have HB := n0_; have BK757 := n1_; have GW757 := n2_; have GE757 := n3_; clear n0_ n1_ n2_ n3_; clear hb hbox hg) | ((with_reducible refine gate_dst (N := 3) rfl ?_); refine box_event ?hg (N := 3) ?hd (cs := #[.int .i64 a1_0, .int .i64 a1_1]) (t := 40) ?hr ?_; (case hd => rfl); (case hg => rfl); (case hr => first | (go_simp; done) | (go_simp; rfl)); intro gb758 hg w11 hbox hb; have n0_ := Aside0.mk (blk_below (zk BK757.out) hb); have n1_ := Aside0.mk (below_step (by repeat (first | (with_reducible first | exact HB.out | apply below_alloc | apply pw_below_drewN | apply below_drew1 | refine below_set ?_ GE757.out) | exact HB.out)) hb); have n2_ := Aside0.mk (hbox); have n3_ := Aside0.mk ((by rw [hg]; exact (below_size (by repeat (first | (with_reducible first | exact HB.out | apply below_alloc | apply pw_below_drewN | apply below_drew1 | refine below_set ?_ GE757.out) | exact HB.out))) : w.heap.size ≤ gb758)); have n4_ := Aside0.mk ((by rw [hg]; exact (below_size (by repeat (first | (with_reducible first | exact HB.out | apply below_alloc | apply pw_below_drewN | apply below_drew1 | refine below_set ?_ GE757.out) | exact HB.out))) : w.heap.size ≤ gb758)); have n5_ := Aside0.mk ((by rw [hg]; exact Nat.ne_of_lt (blk_lt (g := gb757) (o := .cells #[.int .i64 a0_0, .int .i64 a0_1] 40 (0, 0)) (zk BK757.out)) : gb757 ≠ gb758)); have n6_ := Aside0.mk ((by rw [hg]; exact Nat.ne_of_gt (blk_lt (g := gb757) (o := .cells #[.int .i64 a0_0, .int .i64 a0_1] 40 (0, 0)) (zk BK757.out)) : gb758 ≠ gb757)); clear BK757; clear HB; have BK757 := n0_; have HB := n1_; have BK758 := n2_; have GW758 := n3_; have GE758 := n4_; have NB757_758 := n5_; have NB758_757 := n6_; clear n0_ n1_ n2_ n3_ n4_ n5_ n6_; clear hb hbox hg; have hnb12 := NB757_758.out; have hnc12 := NB758_757.out; have hcz13_0 : w11.cell? ⟨gb757, 0, none⟩ = some (.int .i64 a0_0) := (blk_cell BK757.out 0).trans rfl; have hcz13_1 : w11.cell? ⟨gb757, 1, none⟩ = some (.int .i64 a0_1) := (blk_cell BK757.out 1).trans rfl; have hfz13_0 := blk_frozen BK757.out 0; have hfz13_1 := blk_frozen BK757.out 1; have hcz14_0 : w11.cell? ⟨gb758, 0, none⟩ = some (.int .i64 a1_0) := (blk_cell BK758.out 0).trans rfl; have hcz14_1 : w11.cell? ⟨gb758, 1, none⟩ = some (.int .i64 a1_1) := (blk_cell BK758.out 1).trans rfl; have hfz14_0 := blk_frozen BK758.out 0; have hfz14_1 := blk_frozen BK758.out 1))
   go_ret
   exact ⟨by first | rfl | (simp [errW_none, errW_some] <;> rfl) | (simp [*, errW_none, errW_some] <;> rfl), by repeat (first | (with_reducible first | exact HB.out | apply below_alloc | apply pw_below_drewN | apply below_drew1 | refine below_set ?_ GE757.out | refine below_set ?_ GE758.out) | exact HB.out)⟩
 ·rw [if_neg c3] at H
  have c3b0 : (a0_0 == a1_0) = false := beq_eq_false_iff_ne.mpr c3
  have c3b1 : (a0_0 != a1_0) = true := bne_iff_ne.mpr c3
  obtain rfl := Option.some.inj H
  go_enter Try.func60, Try.ntmps60
  go_wp2_with (first | ((with_reducible refine gate_dst (N := 2) rfl ?_); refine box_event ?hg (N := 2) ?hd (cs := #[.int .i64 a0_0, .int .i64 a0_1]) (t := 40) ?hr ?_; (case hd => rfl); (case hg => rfl); (case hr => first | (go_simp; done) | (go_simp; rfl)); intro gb757 hg w15 hbox hb; have n0_ := Aside0.mk (below_step zb hb); have n1_ := Aside0.mk (hbox); have n2_ := Aside0.mk ((by rw [hg]; exact (below_size zb) : w.heap.size ≤ gb757)); have n3_ := Aside0.mk ((by rw [hg]; exact (below_size zb) : w.heap.size ≤ gb757)); clear HB; have HB := n0_; have BK757 := n1_; have GW757 := n2_; have GE757 := n3_; clear n0_ n1_ n2_ n3_; clear hb hbox hg) | ((with_reducible refine gate_dst (N := 3) rfl ?_); refine box_event ?hg (N := 3) ?hd (cs := #[.int .i64 a1_0, .int .i64 a1_1]) (t := 40) ?hr ?_; (case hd => rfl); (case hg => rfl); (case hr => first | (go_simp; done) | (go_simp; rfl)); intro gb758 hg w16 hbox hb; have n0_ := Aside0.mk (blk_below (zk BK757.out) hb); have n1_ := Aside0.mk (below_step (by repeat (first | (with_reducible first | exact HB.out | apply below_alloc | apply pw_below_drewN | apply below_drew1 | refine below_set ?_ GE757.out) | exact HB.out)) hb); have n2_ := Aside0.mk (hbox); have n3_ := Aside0.mk ((by rw [hg]; exact (below_size (by repeat (first | (with_reducible first | exact HB.out | apply below_alloc | apply pw_below_drewN | apply below_drew1 | refine below_set ?_ GE757.out) | exact HB.out))) : w.heap.size ≤ gb758)); have n4_ := Aside0.mk ((by rw [hg]; exact (below_size (by repeat (first | (with_reducible first | exact HB.out | apply below_alloc | apply pw_below_drewN | apply below_drew1 | refine below_set ?_ GE757.out) | exact HB.out))) : w.heap.size ≤ gb758)); have n5_ := Aside0.mk ((by rw [hg]; exact Nat.ne_of_lt (blk_lt (g := gb757) (o := .cells #[.int .i64 a0_0, .int .i64 a0_1] 40 (0, 0)) (zk BK757.out)) : gb757 ≠ gb758)); have n6_ := Aside0.mk ((by rw [hg]; exact Nat.ne_of_gt (blk_lt (g := gb757) (o := .cells #[.int .i64 a0_0, .int .i64 a0_1] 40 (0, 0)) (zk BK757.out)) : gb758 ≠ gb757)); clear BK757; clear HB; have BK757 := n0_; have HB := n1_; have BK758 := n2_; have GW758 := n3_; have GE758 := n4_; have NB757_758 := n5_; have NB758_757 := n6_; clear n0_ n1_ n2_ n3_ n4_ n5_ n6_; clear hb hbox hg; have hnb17 := NB757_758.out; have hnc17 := NB758_757.out; have hcz18_0 : w16.cell? ⟨gb757, 0, none⟩ = some (.int .i64 a0_0) := (blk_cell BK757.out 0).trans rfl; have hcz18_1 : w16.cell? ⟨gb757, 1, none⟩ = some (.int .i64 a0_1) := (blk_cell BK757.out 1).trans rfl; have hfz18_0 := blk_frozen BK757.out 0; have hfz18_1 := blk_frozen BK757.out 1; have hcz19_0 : w16.cell? ⟨gb758, 0, none⟩ = some (.int .i64 a1_0) := (blk_cell BK758.out 0).trans rfl; have hcz19_1 : w16.cell? ⟨gb758, 1, none⟩ = some (.int .i64 a1_1) := (blk_cell BK758.out 1).trans rfl; have hfz19_0 := blk_frozen BK758.out 0; have hfz19_1 := blk_frozen BK758.out 1))
  go_ret
  exact ⟨by first | rfl | (simp [errW_none, errW_some] <;> rfl) | (simp [*, errW_none, errW_some] <;> rfl), by repeat (first | (with_reducible first | exact HB.out | apply below_alloc | apply pw_below_drewN | apply below_drew1 | refine below_set ?_ GE757.out | refine below_set ?_ GE758.out) | exact HB.out)⟩

/-! ### laws_eqClockObs: function 30 -/
def laws_eqClockObs.f (a0_0 : Int) (a0_1 : Int) (a0_2 : Int) (a1_0 : Int) (a1_1 : Int) (a1_2 : Int) : Option (Bool) := if a0_0 = a1_0 then ((laws_eqTime.f a0_1 a0_2 a1_1 a1_2).bind fun t761 => (if t761 = true then (some true) else (some false))) else (some false)
set_option maxHeartbeats 8000000 in
set_option maxRecDepth 100000 in
theorem laws_eqClockObs.calls (a0_0 : Int) (a0_1 : Int) (a0_2 : Int) (a1_0 : Int) (a1_1 : Int) (a1_2 : Int) (r : Bool) (w : World) (h : laws_eqClockObs.f a0_0 a0_1 a0_2 a1_0 a1_1 a1_2 = some r) :
  Calls Try.prog 30 #[.agg #[.int .i64 a0_0, .int .i64 a0_1, .int .i64 a0_2], .agg #[.int .i64 a1_0, .int .i64 a1_1, .int .i64 a1_2]] w fun e w' => e = .returned (.bool r) ∧ Below w.heap.size w w' := by
 have hu42 := Try.underlying42
 have hu40 := Try.underlying40
 have HB := Aside0.mk (Below.refl w.heap.size w)
 have H : (if a0_0 = a1_0 then ((laws_eqTime.f a0_1 a0_2 a1_1 a1_2).bind fun t761 => (if t761 = true then (some true) else (some false))) else (some false)) = some r := h
 clear h
 by_cases c3 : a0_0 = a1_0
 ·rw [if_pos c3] at H
  have c3b0 : (a0_0 == a1_0) = true := beq_iff_eq.mpr c3
  have c3b1 : (a0_0 != a1_0) = false := bne_eq_false_iff_eq.mpr c3
  clear c3
  replace H := Option.bind_eq_some_iff.mp H
  obtain ⟨t761, A40, H⟩ := H
  replace H : (if t761 = true then (some true) else (some false)) = some r := H
  have A4 := Aside0.mk A40
  clear A40
  by_cases c5 : t761 = true
  ·subst c5
   have H1 : (some true) = some r := by rw [if_pos rfl] at H; exact H
   clear H
   have H := H1
   clear H1
   obtain rfl := Option.some.inj H
   go_enter Try.func30, Try.ntmps30
   go_wp2_with (first | ((with_reducible refine gate_dst (N := 2) rfl ?_); refine box_event ?hg (N := 2) ?hd (cs := #[.int .i64 a0_0, .int .i64 a0_1, .int .i64 a0_2]) (t := 42) ?hr ?_; (case hd => rfl); (case hg => rfl); (case hr => first | (go_simp; done) | (go_simp; rfl)); intro gb759 hg w6 hbox hb; have n0_ := Aside0.mk (below_step zb hb); have n1_ := Aside0.mk (hbox); have n2_ := Aside0.mk ((by rw [hg]; exact (below_size zb) : w.heap.size ≤ gb759)); have n3_ := Aside0.mk ((by rw [hg]; exact (below_size zb) : w.heap.size ≤ gb759)); clear HB; have HB := n0_; have BK759 := n1_; have GW759 := n2_; have GE759 := n3_; clear n0_ n1_ n2_ n3_; clear hb hbox hg) | ((with_reducible refine gate_dst (N := 3) rfl ?_); refine box_event ?hg (N := 3) ?hd (cs := #[.int .i64 a1_0, .int .i64 a1_1, .int .i64 a1_2]) (t := 42) ?hr ?_; (case hd => rfl); (case hg => rfl); (case hr => first | (go_simp; done) | (go_simp; rfl)); intro gb760 hg w7 hbox hb; have n0_ := Aside0.mk (blk_below (zk BK759.out) hb); have n1_ := Aside0.mk (below_step (by repeat (first | (with_reducible first | exact HB.out | apply below_alloc | apply pw_below_drewN | apply below_drew1 | refine below_set ?_ GE759.out) | exact HB.out)) hb); have n2_ := Aside0.mk (hbox); have n3_ := Aside0.mk ((by rw [hg]; exact (below_size (by repeat (first | (with_reducible first | exact HB.out | apply below_alloc | apply pw_below_drewN | apply below_drew1 | refine below_set ?_ GE759.out) | exact HB.out))) : w.heap.size ≤ gb760)); have n4_ := Aside0.mk ((by rw [hg]; exact (below_size (by repeat (first | (with_reducible first | exact HB.out | apply below_alloc | apply pw_below_drewN | apply below_drew1 | refine below_set ?_ GE759.out) | exact HB.out))) : w.heap.size ≤ gb760)); have n5_ := Aside0.mk ((by rw [hg]; exact Nat.ne_of_lt (blk_lt (g := gb759) (o := .cells #[.int .i64 a0_0, .int .i64 a0_1, .int .i64 a0_2] 42 (0, 0)) (zk BK759.out)) : gb759 ≠ gb760)); have n6_ := Aside0.mk ((by rw [hg]; exact Nat.ne_of_gt (blk_lt (g := gb759) (o := .cells #[.int .i64 a0_0, .int .i64 a0_1, .int .i64 a0_2] 42 (0, 0)) (zk BK759.out)) : gb760 ≠ gb759)); clear BK759; clear HB; have BK759 := n0_; have HB := n1_; have BK760 := n2_; have GW760 := n3_; have GE760 := n4_; have NB759_760 := n5_; have NB760_759 := n6_; clear n0_ n1_ n2_ n3_ n4_ n5_ n6_; clear hb hbox hg; have hnb8 := NB759_760.out; have hnc8 := NB760_759.out; have hcz9_0 : w7.cell? ⟨gb759, 0, none⟩ = some (.int .i64 a0_0) := (blk_cell BK759.out 0).trans rfl; have hcz9_1 : w7.cell? ⟨gb759, 1, none⟩ = some (.int .i64 a0_1) := (blk_cell BK759.out 1).trans rfl; have hcz9_2 : w7.cell? ⟨gb759, 2, none⟩ = some (.int .i64 a0_2) := (blk_cell BK759.out 2).trans rfl; have hfz9_0 := blk_frozen BK759.out 0; have hfz9_1 := blk_frozen BK759.out 1; have hfz9_2 := blk_frozen BK759.out 2; have hcz10_0 : w7.cell? ⟨gb760, 0, none⟩ = some (.int .i64 a1_0) := (blk_cell BK760.out 0).trans rfl; have hcz10_1 : w7.cell? ⟨gb760, 1, none⟩ = some (.int .i64 a1_1) := (blk_cell BK760.out 1).trans rfl; have hcz10_2 : w7.cell? ⟨gb760, 2, none⟩ = some (.int .i64 a1_2) := (blk_cell BK760.out 2).trans rfl; have hfz10_0 := blk_frozen BK760.out 0; have hfz10_1 := blk_frozen BK760.out 1; have hfz10_2 := blk_frozen BK760.out 2) | ((with_reducible refine gate_callee (f := 60) rfl ?_); refine goesL_ (some 14) rfl rfl Try.func60 (by kernel_rfl) rfl #[.agg #[.int .i64 a0_1, .int .i64 a0_2], .agg #[.int .i64 a1_1, .int .i64 a1_2]] rfl zm ?_; (with_reducible refine (laws_eqTime.calls a0_1 a0_2 a1_1 a1_2 true _ A4.out).mono ?_); rintro e w11 ⟨rfl, hb⟩; refine ⟨_, rfl, ?_⟩; have n0_ := Aside0.mk (blk_below (zk BK759.out) hb); have n1_ := Aside0.mk (blk_below (zk BK760.out) hb); have n2_ := Aside0.mk (below_step (by repeat (first | (with_reducible first | exact HB.out | apply below_alloc | apply pw_below_drewN | apply below_drew1 | refine below_set ?_ GE759.out | refine below_set ?_ GE760.out) | exact HB.out)) hb); clear BK759; clear BK760; clear HB; have BK759 := n0_; have BK760 := n1_; have HB := n2_; clear n0_ n1_ n2_; (try clear hb); (try clear hb2); (try clear hk); (try clear hi)))
   go_ret
   exact ⟨by first | rfl | (simp [errW_none, errW_some] <;> rfl) | (simp [*, errW_none, errW_some] <;> rfl), by repeat (first | (with_reducible first | exact HB.out | apply below_alloc | apply pw_below_drewN | apply below_drew1 | refine below_set ?_ GE759.out | refine below_set ?_ GE760.out) | exact HB.out)⟩
  ·replace c5 := Bool.eq_false_iff.mpr c5
   subst c5
   have H1 : (some false) = some r := by rw [if_neg (show ¬ (false = true) by decide)] at H; exact H
   clear H
   have H := H1
   clear H1
   obtain rfl := Option.some.inj H
   go_enter Try.func30, Try.ntmps30
   go_wp2_with (first | ((with_reducible refine gate_dst (N := 2) rfl ?_); refine box_event ?hg (N := 2) ?hd (cs := #[.int .i64 a0_0, .int .i64 a0_1, .int .i64 a0_2]) (t := 42) ?hr ?_; (case hd => rfl); (case hg => rfl); (case hr => first | (go_simp; done) | (go_simp; rfl)); intro gb759 hg w12 hbox hb; have n0_ := Aside0.mk (below_step zb hb); have n1_ := Aside0.mk (hbox); have n2_ := Aside0.mk ((by rw [hg]; exact (below_size zb) : w.heap.size ≤ gb759)); have n3_ := Aside0.mk ((by rw [hg]; exact (below_size zb) : w.heap.size ≤ gb759)); clear HB; have HB := n0_; have BK759 := n1_; have GW759 := n2_; have GE759 := n3_; clear n0_ n1_ n2_ n3_; clear hb hbox hg) | ((with_reducible refine gate_dst (N := 3) rfl ?_); refine box_event ?hg (N := 3) ?hd (cs := #[.int .i64 a1_0, .int .i64 a1_1, .int .i64 a1_2]) (t := 42) ?hr ?_; (case hd => rfl); (case hg => rfl); (case hr => first | (go_simp; done) | (go_simp; rfl)); intro gb760 hg w13 hbox hb; have n0_ := Aside0.mk (blk_below (zk BK759.out) hb); have n1_ := Aside0.mk (below_step (by repeat (first | (with_reducible first | exact HB.out | apply below_alloc | apply pw_below_drewN | apply below_drew1 | refine below_set ?_ GE759.out) | exact HB.out)) hb); have n2_ := Aside0.mk (hbox); have n3_ := Aside0.mk ((by rw [hg]; exact (below_size (by repeat (first | (with_reducible first | exact HB.out | apply below_alloc | apply pw_below_drewN | apply below_drew1 | refine below_set ?_ GE759.out) | exact HB.out))) : w.heap.size ≤ gb760)); have n4_ := Aside0.mk ((by rw [hg]; exact (below_size (by repeat (first | (with_reducible first | exact HB.out | apply below_alloc | apply pw_below_drewN | apply below_drew1 | refine below_set ?_ GE759.out) | exact HB.out))) : w.heap.size ≤ gb760)); have n5_ := Aside0.mk ((by rw [hg]; exact Nat.ne_of_lt (blk_lt (g := gb759) (o := .cells #[.int .i64 a0_0, .int .i64 a0_1, .int .i64 a0_2] 42 (0, 0)) (zk BK759.out)) : gb759 ≠ gb760)); have n6_ := Aside0.mk ((by rw [hg]; exact Nat.ne_of_gt (blk_lt (g := gb759) (o := .cells #[.int .i64 a0_0, .int .i64 a0_1, .int .i64 a0_2] 42 (0, 0)) (zk BK759.out)) : gb760 ≠ gb759)); clear BK759; clear HB; have BK759 := n0_; have HB := n1_; have BK760 := n2_; have GW760 := n3_; have GE760 := n4_; have NB759_760 := n5_; have NB760_759 := n6_; clear n0_ n1_ n2_ n3_ n4_ n5_ n6_; clear hb hbox hg; have hnb14 := NB759_760.out; have hnc14 := NB760_759.out; have hcz15_0 : w13.cell? ⟨gb759, 0, none⟩ = some (.int .i64 a0_0) := (blk_cell BK759.out 0).trans rfl; have hcz15_1 : w13.cell? ⟨gb759, 1, none⟩ = some (.int .i64 a0_1) := (blk_cell BK759.out 1).trans rfl; have hcz15_2 : w13.cell? ⟨gb759, 2, none⟩ = some (.int .i64 a0_2) := (blk_cell BK759.out 2).trans rfl; have hfz15_0 := blk_frozen BK759.out 0; have hfz15_1 := blk_frozen BK759.out 1; have hfz15_2 := blk_frozen BK759.out 2; have hcz16_0 : w13.cell? ⟨gb760, 0, none⟩ = some (.int .i64 a1_0) := (blk_cell BK760.out 0).trans rfl; have hcz16_1 : w13.cell? ⟨gb760, 1, none⟩ = some (.int .i64 a1_1) := (blk_cell BK760.out 1).trans rfl; have hcz16_2 : w13.cell? ⟨gb760, 2, none⟩ = some (.int .i64 a1_2) := (blk_cell BK760.out 2).trans rfl; have hfz16_0 := blk_frozen BK760.out 0; have hfz16_1 := blk_frozen BK760.out 1; have hfz16_2 := blk_frozen BK760.out 2) | ((with_reducible refine gate_callee (f := 60) rfl ?_); refine goesL_ (some 14) rfl rfl Try.func60 (by kernel_rfl) rfl #[.agg #[.int .i64 a0_1, .int .i64 a0_2], .agg #[.int .i64 a1_1, .int .i64 a1_2]] rfl zm ?_; (with_reducible refine (laws_eqTime.calls a0_1 a0_2 a1_1 a1_2 false _ A4.out).mono ?_); rintro e w17 ⟨rfl, hb⟩; refine ⟨_, rfl, ?_⟩; have n0_ := Aside0.mk (blk_below (zk BK759.out) hb); have n1_ := Aside0.mk (blk_below (zk BK760.out) hb); have n2_ := Aside0.mk (below_step (by repeat (first | (with_reducible first | exact HB.out | apply below_alloc | apply pw_below_drewN | apply below_drew1 | refine below_set ?_ GE759.out | refine below_set ?_ GE760.out) | exact HB.out)) hb); clear BK759; clear BK760; clear HB; have BK759 := n0_; have BK760 := n1_; have HB := n2_; clear n0_ n1_ n2_; (try clear hb); (try clear hb2); (try clear hk); (try clear hi)))
   go_ret
   exact ⟨by first | rfl | (simp [errW_none, errW_some] <;> rfl) | (simp [*, errW_none, errW_some] <;> rfl), by repeat (first | (with_reducible first | exact HB.out | apply below_alloc | apply pw_below_drewN | apply below_drew1 | refine below_set ?_ GE759.out | refine below_set ?_ GE760.out) | exact HB.out)⟩
 ·rw [if_neg c3] at H
  have c3b0 : (a0_0 == a1_0) = false := beq_eq_false_iff_ne.mpr c3
  have c3b1 : (a0_0 != a1_0) = true := bne_iff_ne.mpr c3
  obtain rfl := Option.some.inj H
  go_enter Try.func30, Try.ntmps30
  go_wp2_with (first | ((with_reducible refine gate_dst (N := 2) rfl ?_); refine box_event ?hg (N := 2) ?hd (cs := #[.int .i64 a0_0, .int .i64 a0_1, .int .i64 a0_2]) (t := 42) ?hr ?_; (case hd => rfl); (case hg => rfl); (case hr => first | (go_simp; done) | (go_simp; rfl)); intro gb759 hg w18 hbox hb; have n0_ := Aside0.mk (below_step zb hb); have n1_ := Aside0.mk (hbox); have n2_ := Aside0.mk ((by rw [hg]; exact (below_size zb) : w.heap.size ≤ gb759)); have n3_ := Aside0.mk ((by rw [hg]; exact (below_size zb) : w.heap.size ≤ gb759)); clear HB; have HB := n0_; have BK759 := n1_; have GW759 := n2_; have GE759 := n3_; clear n0_ n1_ n2_ n3_; clear hb hbox hg) | ((with_reducible refine gate_dst (N := 3) rfl ?_); refine box_event ?hg (N := 3) ?hd (cs := #[.int .i64 a1_0, .int .i64 a1_1, .int .i64 a1_2]) (t := 42) ?hr ?_; (case hd => rfl); (case hg => rfl); (case hr => first | (go_simp; done) | (go_simp; rfl)); intro gb760 hg w19 hbox hb; have n0_ := Aside0.mk (blk_below (zk BK759.out) hb); have n1_ := Aside0.mk (below_step (by repeat (first | (with_reducible first | exact HB.out | apply below_alloc | apply pw_below_drewN | apply below_drew1 | refine below_set ?_ GE759.out) | exact HB.out)) hb); have n2_ := Aside0.mk (hbox); have n3_ := Aside0.mk ((by rw [hg]; exact (below_size (by repeat (first | (with_reducible first | exact HB.out | apply below_alloc | apply pw_below_drewN | apply below_drew1 | refine below_set ?_ GE759.out) | exact HB.out))) : w.heap.size ≤ gb760)); have n4_ := Aside0.mk ((by rw [hg]; exact (below_size (by repeat (first | (with_reducible first | exact HB.out | apply below_alloc | apply pw_below_drewN | apply below_drew1 | refine below_set ?_ GE759.out) | exact HB.out))) : w.heap.size ≤ gb760)); have n5_ := Aside0.mk ((by rw [hg]; exact Nat.ne_of_lt (blk_lt (g := gb759) (o := .cells #[.int .i64 a0_0, .int .i64 a0_1, .int .i64 a0_2] 42 (0, 0)) (zk BK759.out)) : gb759 ≠ gb760)); have n6_ := Aside0.mk ((by rw [hg]; exact Nat.ne_of_gt (blk_lt (g := gb759) (o := .cells #[.int .i64 a0_0, .int .i64 a0_1, .int .i64 a0_2] 42 (0, 0)) (zk BK759.out)) : gb760 ≠ gb759)); clear BK759; clear HB; have BK759 := n0_; have HB := n1_; have BK760 := n2_; have GW760 := n3_; have GE760 := n4_; have NB759_760 := n5_; have NB760_759 := n6_; clear n0_ n1_ n2_ n3_ n4_ n5_ n6_; clear hb hbox hg; have hnb20 := NB759_760.out; have hnc20 := NB760_759.out; have hcz21_0 : w19.cell? ⟨gb759, 0, none⟩ = some (.int .i64 a0_0) := (blk_cell BK759.out 0).trans rfl; have hcz21_1 : w19.cell? ⟨gb759, 1, none⟩ = some (.int .i64 a0_1) := (blk_cell BK759.out 1).trans rfl; have hcz21_2 : w19.cell? ⟨gb759, 2, none⟩ = some (.int .i64 a0_2) := (blk_cell BK759.out 2).trans rfl; have hfz21_0 := blk_frozen BK759.out 0; have hfz21_1 := blk_frozen BK759.out 1; have hfz21_2 := blk_frozen BK759.out 2; have hcz22_0 : w19.cell? ⟨gb760, 0, none⟩ = some (.int .i64 a1_0) := (blk_cell BK760.out 0).trans rfl; have hcz22_1 : w19.cell? ⟨gb760, 1, none⟩ = some (.int .i64 a1_1) := (blk_cell BK760.out 1).trans rfl; have hcz22_2 : w19.cell? ⟨gb760, 2, none⟩ = some (.int .i64 a1_2) := (blk_cell BK760.out 2).trans rfl; have hfz22_0 := blk_frozen BK760.out 0; have hfz22_1 := blk_frozen BK760.out 1; have hfz22_2 := blk_frozen BK760.out 2))
  go_ret
  exact ⟨by first | rfl | (simp [errW_none, errW_some] <;> rfl) | (simp [*, errW_none, errW_some] <;> rfl), by repeat (first | (with_reducible first | exact HB.out | apply below_alloc | apply pw_below_drewN | apply below_drew1 | refine below_set ?_ GE759.out | refine below_set ?_ GE760.out) | exact HB.out)⟩

/-! ### laws_eqClockObsS: function 10 -/
set_option maxRecDepth 100000 in
def laws_eqClockObsS.l0 : Nat → List (S42) → List (S42) → Int → Option (Bool)
 | 0, _, _, _ => none
 | k + 1, x0, x1, x5 => if x5 < (x0.length : Int) then (if 0 ≤ x5 then (if x5 < (x1.length : Int) then ((laws_eqClockObs.f ((rd_T42 x0 x5).f0) ((rd_T42 x0 x5).f1.f0) ((rd_T42 x0 x5).f1.f1) ((rd_T42 x1 x5).f0) ((rd_T42 x1 x5).f1.f0) ((rd_T42 x1 x5).f1.f1)).bind fun t764 => (if t764 = true then (laws_eqClockObsS.l0 k x0 x1 (wrap64 (x5 + 1))) else (some false))) else (none)) else (none)) else (some true)
def laws_eqClockObsS.f (k : Nat) (l0 : List (S42)) (l1 : List (S42)) : Option (Bool) := if (l0.length : Int) = (l1.length : Int) then (laws_eqClockObsS.l0 k l0 l1 0) else (some false)
def laws_eqClockObsS.T6 : Bool × List (List Nat × List Nat) := (true, [([], []), ([], []), ([0, 1], [0, 1]), ([2], [2]), ([], []), ([], []), ([4, 5], [4, 5]), ([6], [6]), ([3, 7], [3, 7]), ([8], [8])])
def laws_eqClockObsS.B6 : List Nat := [0, 0, 3, 7, 0, 0, 48, 112, 255, 511]
theorem laws_eqClockObsS.tab6 : rtab .any (opsOf Try.f10 6) = laws_eqClockObsS.T6 := by kernel_rfl
theorem laws_eqClockObsS.bits6 : waitsOk laws_eqClockObsS.T6.2 laws_eqClockObsS.B6 = true := by kernel_rfl
set_option maxHeartbeats 8000000 in
set_option maxRecDepth 100000 in
theorem laws_eqClockObsS.calls (k : Nat) (A0 : Option Addr) (c0 : Nat) (l0 : List (S42)) (A1 : Option Addr) (c1 : Nat) (l1 : List (S42)) (r : Bool) (w : World) (hr0 : Kd.C k42 w A0 l0.length l0) (hc0 : l0.length ≤ c0) (hr1 : Kd.C k42 w A1 l1.length l1) (hc1 : l1.length ≤ c1) (h : laws_eqClockObsS.f k l0 l1 = some r) :
  Calls Try.prog 10 #[.slice A0 l0.length c0, .slice A1 l1.length c1] w fun e w' => e = .returned (.bool r) ∧ Below w.heap.size w w' := by
 have hu42 := Try.underlying42
 have HR0 := Aside0.mk hr0
 have HC0 := Aside0.mk hc0
 clear hr0 hc0
 have HR1 := Aside0.mk hr1
 have HC1 := Aside0.mk hc1
 clear hr1 hc1
 have HB := Aside0.mk (Below.refl w.heap.size w)
 have H : (if (l0.length : Int) = (l1.length : Int) then (laws_eqClockObsS.l0 k l0 l1 0) else (some false)) = some r := h
 clear h
 by_cases c3 : (l0.length : Int) = (l1.length : Int)
 ·rw [if_pos c3] at H
  have c3b0 : ((l0.length : Int) == (l1.length : Int)) = true := beq_iff_eq.mpr c3
  have c3b1 : ((l0.length : Int) != (l1.length : Int)) = false := bne_eq_false_iff_eq.mpr c3
  have c3b2 : (l0.length == l1.length) = true := by first | simpa using c3 | (simp at c3 ⊢; omega)
  clear c3
  have H' := Aside0.mk H
  clear H
  go_enter Try.func10, Try.ntmps10
  go_wp2
  go_loopg [5] k (fun kq v5 w' => ∃ (x5_1 : Int), v5 = .int .i64 x5_1 ∧ Aside0 (laws_eqClockObsS.l0 kq l0 l1 x5_1 = some r) ∧ Aside0 (kq ≤ k) ∧ Aside0 (Below w.heap.size w w'))
  case atStart => exact ⟨(0), (by first | rfl | (simp; done) | (simp [*]; done)), H', ⟨Nat.le_refl _⟩, ⟨zb⟩⟩
  case round =>
   clear H'
   try clear c1
   try clear c3
   try clear c3b0
   try clear c3b1
   try clear c3b2
   obtain ⟨x5_1, rfl, HA, HK1, HB⟩ := hrel
   cases gk with
   | zero => exact absurd HA.out (by simp [laws_eqClockObsS.l0])
   | succ k1 =>
    have H := HA.out
    clear HA
    simp only [laws_eqClockObsS.l0] at H
    by_cases c4 : x5_1 < (l0.length : Int)
    ·rw [if_pos c4] at H
     have c4b0 : decide (x5_1 < (l0.length : Int)) = true := decide_eq_true c4
     clear c4
     by_cases c5 : 0 ≤ x5_1
     ·rw [if_pos c5] at H
      have c5b0 : decide (0 ≤ x5_1) = true := decide_eq_true c5
      clear c5
      by_cases c6 : x5_1 < (l1.length : Int)
      ·rw [if_pos c6] at H
       have c6b0 : decide (x5_1 < (l1.length : Int)) = true := decide_eq_true c6
       clear c6
       replace H := Option.bind_eq_some_iff.mp H
       obtain ⟨t764, A70, H⟩ := H
       replace H : (if t764 = true then (laws_eqClockObsS.l0 k1 l0 l1 (wrap64 (x5_1 + 1))) else (some false)) = some r := H
       have A7 := Aside0.mk A70
       clear A70
       by_cases c8 : t764 = true
       ·subst c8
        have H1 : (laws_eqClockObsS.l0 k1 l0 l1 (wrap64 (x5_1 + 1))) = some r := by rw [if_pos rfl] at H; exact H
        clear H
        have H := H1
        clear H1
        have H' := Aside0.mk H
        clear H
        try go_wp2
        have n0_ := Aside0.mk (below_drew1 HB.out)
        clear HB
        have HB := n0_
        clear n0_
        have p762 : 0 ≤ (x5_1 : Int) := of_decide_eq_true (by first | (with_reducible assumption) | assumption)
        have q762 : x5_1 < (l0.length : Int) := of_decide_eq_true (by first | (with_reducible assumption) | assumption)
        obtain ⟨ad762, e762, hx762_0, hx762_1, hx762_2⟩ := at_T42 HR0.out x5_1 p762 q762
        have hw762_2 := hx762_2
        have hw762_1 := hx762_1
        have hw762_0 := hx762_0
        cases e762
        replace hx762_0 := (HB.out.cell (World.block_lt_of_cell? w _ hx762_0)).trans hx762_0
        replace hx762_1 := (HB.out.cell (World.block_lt_of_cell? w _ hx762_1)).trans hx762_1
        replace hx762_2 := (HB.out.cell (World.block_lt_of_cell? w _ hx762_2)).trans hx762_2
        replace p762 := eq_true p762
        replace q762 := eq_true q762
        have p763 : 0 ≤ (x5_1 : Int) := of_decide_eq_true (by first | (with_reducible assumption) | assumption)
        have q763 : x5_1 < (l1.length : Int) := of_decide_eq_true (by first | (with_reducible assumption) | assumption)
        obtain ⟨ad763, e763, hx763_0, hx763_1, hx763_2⟩ := at_T42 HR1.out x5_1 p763 q763
        have hw763_2 := hx763_2
        have hw763_1 := hx763_1
        have hw763_0 := hx763_0
        cases e763
        replace hx763_0 := (HB.out.cell (World.block_lt_of_cell? w _ hx763_0)).trans hx763_0
        replace hx763_1 := (HB.out.cell (World.block_lt_of_cell? w _ hx763_1)).trans hx763_1
        replace hx763_2 := (HB.out.cell (World.block_lt_of_cell? w _ hx763_2)).trans hx763_2
        replace p763 := eq_true p763
        replace q763 := eq_true q763
        refine start_ (n := 10) (S := fun w' => w'.cell? (ad762.add ((x5_1).toNat * 3)) = some (.int .i64 ((rd_T42 l0 x5_1).f0)) ∧ w'.cell? ⟨(ad762.add ((x5_1).toNat * 3)).block, (ad762.add ((x5_1).toNat * 3)).off + 1, none⟩ = some (.int .i64 ((rd_T42 l0 x5_1).f1.f0)) ∧ w'.cell? ⟨(ad762.add ((x5_1).toNat * 3)).block, (ad762.add ((x5_1).toNat * 3)).off + 2, none⟩ = some (.int .i64 ((rd_T42 l0 x5_1).f1.f1)) ∧ w'.cell? (ad763.add ((x5_1).toNat * 3)) = some (.int .i64 ((rd_T42 l1 x5_1).f0)) ∧ w'.cell? ⟨(ad763.add ((x5_1).toNat * 3)).block, (ad763.add ((x5_1).toNat * 3)).off + 1, none⟩ = some (.int .i64 ((rd_T42 l1 x5_1).f1.f0)) ∧ w'.cell? ⟨(ad763.add ((x5_1).toNat * 3)).block, (ad763.add ((x5_1).toNat * 3)).off + 2, none⟩ = some (.int .i64 ((rd_T42 l1 x5_1).f1.f1))) (ds := []) #[false, false, false, false, false, false, false, false, false, false] (by kernel_rfl) rfl rfl ⟨((HB.out.cell (World.block_lt_of_cell? w _ hw762_0)).trans hw762_0), ((HB.out.cell (World.block_lt_of_cell? w _ hw762_1)).trans hw762_1), ((HB.out.cell (World.block_lt_of_cell? w _ hw762_2)).trans hw762_2), ((HB.out.cell (World.block_lt_of_cell? w _ hw763_0)).trans hw763_0), ((HB.out.cell (World.block_lt_of_cell? w _ hw763_1)).trans hw763_1), ((HB.out.cell (World.block_lt_of_cell? w _ hw763_2)).trans hw763_2)⟩ (fun hHeld => ?_); refine with_tabW laws_eqClockObsS.tab6 laws_eqClockObsS.bits6 (fun HT_ HW_ => ?_)
        generalize wr.drew = w9 at HB hx762_0 hx762_1 hx762_2 hx763_0 hx763_1 hx763_2 hHeld ⊢
        refine zp 0 17 ?_
        refine zp 1 18 ?_
        refine zp 2 19 ?_
        refine zp 4 21 ?_
        refine zp 5 22 ?_
        refine zp 6 23 ?_
        refine zt 3 20 ?_ (hr := by rintro w' ⟨s0, s1, s2, s3, s4, s5⟩; go_simp; with_reducible rfl)
        refine zt 7 24 ?_ (hr := by rintro w' ⟨s0, s1, s2, s3, s4, s5⟩; go_simp; with_reducible rfl)
        refine one_ (i := 8) (N := some 25) #[true, true, true, true, true, true, true, true, true, false] rfl rfl (one_of HT_.out (by kernel_rfl)) (by decide) (fun K hK => ?_)
        refine goes_ Try.func30 (by kernel_rfl) rfl #[.agg #[.int .i64 ((rd_T42 l0 x5_1).f0), .int .i64 ((rd_T42 l0 x5_1).f1.f0), .int .i64 ((rd_T42 l0 x5_1).f1.f1)], .agg #[.int .i64 ((rd_T42 l1 x5_1).f0), .int .i64 ((rd_T42 l1 x5_1).f1.f0), .int .i64 ((rd_T42 l1 x5_1).f1.f1)]] (by rfl) rfl rfl zm ?_
        with_reducible refine (laws_eqClockObs.calls ((rd_T42 l0 x5_1).f0) ((rd_T42 l0 x5_1).f1.f0) ((rd_T42 l0 x5_1).f1.f1) ((rd_T42 l1 x5_1).f0) ((rd_T42 l1 x5_1).f1.f0) ((rd_T42 l1 x5_1).f1.f1) true _ A7.out).mono ?_
        rintro e w10 ⟨rfl, hb⟩
        refine ⟨_, rfl, ?_⟩
        have n0_ := Aside0.mk (below_step zb hb)
        clear HB
        have HB := n0_
        clear n0_
        (try clear hb)
        (try clear hb2)
        (try clear hk)
        (try clear hi)
        refine hK.out _ _ ⟨((HB.out.cell (World.block_lt_of_cell? w _ hw762_0)).trans hw762_0), ((HB.out.cell (World.block_lt_of_cell? w _ hw762_1)).trans hw762_1), ((HB.out.cell (World.block_lt_of_cell? w _ hw762_2)).trans hw762_2), ((HB.out.cell (World.block_lt_of_cell? w _ hw763_0)).trans hw763_0), ((HB.out.cell (World.block_lt_of_cell? w _ hw763_1)).trans hw763_1), ((HB.out.cell (World.block_lt_of_cell? w _ hw763_2)).trans hw763_2)⟩ (fun hHeld => ?_)
        clear hK K
        refine norm_ (a' := ?_) ?_ ?_
        rotate_left
        ·show Act.put _ (some 25) _ = _
         simp only [Act.put, List.setIfInBounds_toArray, List.set_cons_zero, List.set_cons_succ, i64_w, i32_w]
         rfl
        refine zp 9 26 ?_
        refine done_ (done_of HT_.out (by kernel_rfl)) ?_
        try go_wp2
        go_roundg k1
        case measure => have := HK1.out; omega
        case rel => exact ⟨(wrap64 (x5_1 + 1)), (by first | rfl | (simp; done) | (simp [*]; done)), H', ⟨by have := HK1.out; omega⟩, ⟨zb⟩⟩
       ·replace c8 := Bool.eq_false_iff.mpr c8
        subst c8
        have H1 : (some false) = some r := by rw [if_neg (show ¬ (false = true) by decide)] at H; exact H
        clear H
        have H := H1
        clear H1
        obtain rfl := Option.some.inj H
        try go_wp2
        have n0_ := Aside0.mk (below_drew1 HB.out)
        clear HB
        have HB := n0_
        clear n0_
        have p762 : 0 ≤ (x5_1 : Int) := of_decide_eq_true (by first | (with_reducible assumption) | assumption)
        have q762 : x5_1 < (l0.length : Int) := of_decide_eq_true (by first | (with_reducible assumption) | assumption)
        obtain ⟨ad762, e762, hx762_0, hx762_1, hx762_2⟩ := at_T42 HR0.out x5_1 p762 q762
        have hw762_2 := hx762_2
        have hw762_1 := hx762_1
        have hw762_0 := hx762_0
        cases e762
        replace hx762_0 := (HB.out.cell (World.block_lt_of_cell? w _ hx762_0)).trans hx762_0
        replace hx762_1 := (HB.out.cell (World.block_lt_of_cell? w _ hx762_1)).trans hx762_1
        replace hx762_2 := (HB.out.cell (World.block_lt_of_cell? w _ hx762_2)).trans hx762_2
        replace p762 := eq_true p762
        replace q762 := eq_true q762
        have p763 : 0 ≤ (x5_1 : Int) := of_decide_eq_true (by first | (with_reducible assumption) | assumption)
        have q763 : x5_1 < (l1.length : Int) := of_decide_eq_true (by first | (with_reducible assumption) | assumption)
        obtain ⟨ad763, e763, hx763_0, hx763_1, hx763_2⟩ := at_T42 HR1.out x5_1 p763 q763
        have hw763_2 := hx763_2
        have hw763_1 := hx763_1
        have hw763_0 := hx763_0
        cases e763
        replace hx763_0 := (HB.out.cell (World.block_lt_of_cell? w _ hx763_0)).trans hx763_0
        replace hx763_1 := (HB.out.cell (World.block_lt_of_cell? w _ hx763_1)).trans hx763_1
        replace hx763_2 := (HB.out.cell (World.block_lt_of_cell? w _ hx763_2)).trans hx763_2
        replace p763 := eq_true p763
        replace q763 := eq_true q763
        refine start_ (n := 10) (S := fun w' => w'.cell? (ad762.add ((x5_1).toNat * 3)) = some (.int .i64 ((rd_T42 l0 x5_1).f0)) ∧ w'.cell? ⟨(ad762.add ((x5_1).toNat * 3)).block, (ad762.add ((x5_1).toNat * 3)).off + 1, none⟩ = some (.int .i64 ((rd_T42 l0 x5_1).f1.f0)) ∧ w'.cell? ⟨(ad762.add ((x5_1).toNat * 3)).block, (ad762.add ((x5_1).toNat * 3)).off + 2, none⟩ = some (.int .i64 ((rd_T42 l0 x5_1).f1.f1)) ∧ w'.cell? (ad763.add ((x5_1).toNat * 3)) = some (.int .i64 ((rd_T42 l1 x5_1).f0)) ∧ w'.cell? ⟨(ad763.add ((x5_1).toNat * 3)).block, (ad763.add ((x5_1).toNat * 3)).off + 1, none⟩ = some (.int .i64 ((rd_T42 l1 x5_1).f1.f0)) ∧ w'.cell? ⟨(ad763.add ((x5_1).toNat * 3)).block, (ad763.add ((x5_1).toNat * 3)).off + 2, none⟩ = some (.int .i64 ((rd_T42 l1 x5_1).f1.f1))) (ds := []) #[false, false, false, false, false, false, false, false, false, false] (by kernel_rfl) rfl rfl ⟨((HB.out.cell (World.block_lt_of_cell? w _ hw762_0)).trans hw762_0), ((HB.out.cell (World.block_lt_of_cell? w _ hw762_1)).trans hw762_1), ((HB.out.cell (World.block_lt_of_cell? w _ hw762_2)).trans hw762_2), ((HB.out.cell (World.block_lt_of_cell? w _ hw763_0)).trans hw763_0), ((HB.out.cell (World.block_lt_of_cell? w _ hw763_1)).trans hw763_1), ((HB.out.cell (World.block_lt_of_cell? w _ hw763_2)).trans hw763_2)⟩ (fun hHeld => ?_); refine with_tabW laws_eqClockObsS.tab6 laws_eqClockObsS.bits6 (fun HT_ HW_ => ?_)
        generalize wr.drew = w11 at HB hx762_0 hx762_1 hx762_2 hx763_0 hx763_1 hx763_2 hHeld ⊢
        refine zp 0 17 ?_
        refine zp 1 18 ?_
        refine zp 2 19 ?_
        refine zp 4 21 ?_
        refine zp 5 22 ?_
        refine zp 6 23 ?_
        refine zt 3 20 ?_ (hr := by rintro w' ⟨s0, s1, s2, s3, s4, s5⟩; go_simp; with_reducible rfl)
        refine zt 7 24 ?_ (hr := by rintro w' ⟨s0, s1, s2, s3, s4, s5⟩; go_simp; with_reducible rfl)
        refine one_ (i := 8) (N := some 25) #[true, true, true, true, true, true, true, true, true, false] rfl rfl (one_of HT_.out (by kernel_rfl)) (by decide) (fun K hK => ?_)
        refine goes_ Try.func30 (by kernel_rfl) rfl #[.agg #[.int .i64 ((rd_T42 l0 x5_1).f0), .int .i64 ((rd_T42 l0 x5_1).f1.f0), .int .i64 ((rd_T42 l0 x5_1).f1.f1)], .agg #[.int .i64 ((rd_T42 l1 x5_1).f0), .int .i64 ((rd_T42 l1 x5_1).f1.f0), .int .i64 ((rd_T42 l1 x5_1).f1.f1)]] (by rfl) rfl rfl zm ?_
        with_reducible refine (laws_eqClockObs.calls ((rd_T42 l0 x5_1).f0) ((rd_T42 l0 x5_1).f1.f0) ((rd_T42 l0 x5_1).f1.f1) ((rd_T42 l1 x5_1).f0) ((rd_T42 l1 x5_1).f1.f0) ((rd_T42 l1 x5_1).f1.f1) false _ A7.out).mono ?_
        rintro e w12 ⟨rfl, hb⟩
        refine ⟨_, rfl, ?_⟩
        have n0_ := Aside0.mk (below_step zb hb)
        clear HB
        have HB := n0_
        clear n0_
        (try clear hb)
        (try clear hb2)
        (try clear hk)
        (try clear hi)
        refine hK.out _ _ ⟨((HB.out.cell (World.block_lt_of_cell? w _ hw762_0)).trans hw762_0), ((HB.out.cell (World.block_lt_of_cell? w _ hw762_1)).trans hw762_1), ((HB.out.cell (World.block_lt_of_cell? w _ hw762_2)).trans hw762_2), ((HB.out.cell (World.block_lt_of_cell? w _ hw763_0)).trans hw763_0), ((HB.out.cell (World.block_lt_of_cell? w _ hw763_1)).trans hw763_1), ((HB.out.cell (World.block_lt_of_cell? w _ hw763_2)).trans hw763_2)⟩ (fun hHeld => ?_)
        clear hK K
        refine norm_ (a' := ?_) ?_ ?_
        rotate_left
        ·show Act.put _ (some 25) _ = _
         simp only [Act.put, List.setIfInBounds_toArray, List.set_cons_zero, List.set_cons_succ, i64_w, i32_w]
         rfl
        refine zp 9 26 ?_
        refine done_ (done_of HT_.out (by kernel_rfl)) ?_
        try go_wp2
        go_ret
        exact ⟨by first | rfl | (simp [errW_none, errW_some] <;> rfl) | (simp [*, errW_none, errW_some] <;> rfl), zb⟩
      ·rw [if_neg c6] at H
       cases H
     ·rw [if_neg c5] at H
      cases H
    ·rw [if_neg c4] at H
     have c4b0 : decide (x5_1 < (l0.length : Int)) = false := decide_eq_false c4
     clear c4
     obtain rfl := Option.some.inj H
     go_wp2
     go_ret
     exact ⟨by first | rfl | (simp [errW_none, errW_some] <;> rfl) | (simp [*, errW_none, errW_some] <;> rfl), zb⟩
 ·rw [if_neg c3] at H
  have c3b0 : ((l0.length : Int) == (l1.length : Int)) = false := beq_eq_false_iff_ne.mpr c3
  have c3b1 : ((l0.length : Int) != (l1.length : Int)) = true := bne_iff_ne.mpr c3
  have c3b2 : (l0.length == l1.length) = false := by first | simpa using c3 | (simp at c3 ⊢; omega)
  obtain rfl := Option.some.inj H
  go_enter Try.func10, Try.ntmps10
  go_wp2
  go_ret
  exact ⟨by first | rfl | (simp [errW_none, errW_some] <;> rfl) | (simp [*, errW_none, errW_some] <;> rfl), zb⟩

/-! ### laws_eqClockOp: function 31 -/
def laws_eqClockOp.f (a0_0 : Int) (a0_1 : Int) (a0_2 : Int) (a0_3 : Int) (a1_0 : Int) (a1_1 : Int) (a1_2 : Int) (a1_3 : Int) : Option (Bool) := if a0_0 = a1_0 then (if a0_1 = a1_1 then (if a0_2 = a1_2 then (if a0_3 = a1_3 then (some true) else (some false)) else (some false)) else (some false)) else (some false)
set_option maxHeartbeats 8000000 in
set_option maxRecDepth 100000 in
theorem laws_eqClockOp.calls (a0_0 : Int) (a0_1 : Int) (a0_2 : Int) (a0_3 : Int) (a1_0 : Int) (a1_1 : Int) (a1_2 : Int) (a1_3 : Int) (r : Bool) (w : World) (h : laws_eqClockOp.f a0_0 a0_1 a0_2 a0_3 a1_0 a1_1 a1_2 a1_3 = some r) :
  Calls Try.prog 31 #[.agg #[.int .i64 a0_0, .int .i64 a0_1, .int .i64 a0_2, .int .i64 a0_3], .agg #[.int .i64 a1_0, .int .i64 a1_1, .int .i64 a1_2, .int .i64 a1_3]] w fun e w' => e = .returned (.bool r) ∧ Below w.heap.size w w' := by
 have hu44 := Try.underlying44
 have HB := Aside0.mk (Below.refl w.heap.size w)
 have H : (if a0_0 = a1_0 then (if a0_1 = a1_1 then (if a0_2 = a1_2 then (if a0_3 = a1_3 then (some true) else (some false)) else (some false)) else (some false)) else (some false)) = some r := h
 clear h
 by_cases c3 : a0_0 = a1_0
 ·rw [if_pos c3] at H
  have c3b0 : (a0_0 == a1_0) = true := beq_iff_eq.mpr c3
  have c3b1 : (a0_0 != a1_0) = false := bne_eq_false_iff_eq.mpr c3
  clear c3
  by_cases c4 : a0_1 = a1_1
  ·rw [if_pos c4] at H
   have c4b0 : (a0_1 == a1_1) = true := beq_iff_eq.mpr c4
   have c4b1 : (a0_1 != a1_1) = false := bne_eq_false_iff_eq.mpr c4
   clear c4
   by_cases c5 : a0_2 = a1_2
   ·rw [if_pos c5] at H
    have c5b0 : (a0_2 == a1_2) = true := beq_iff_eq.mpr c5
    have c5b1 : (a0_2 != a1_2) = false := bne_eq_false_iff_eq.mpr c5
    clear c5
    by_cases c6 : a0_3 = a1_3
    ·rw [if_pos c6] at H
     have c6b0 : (a0_3 == a1_3) = true := beq_iff_eq.mpr c6
     have c6b1 : (a0_3 != a1_3) = false := bne_eq_false_iff_eq.mpr c6
     clear c6
     obtain rfl := Option.some.inj H
     go_enter Try.func31, Try.ntmps31
     go_wp2_with (first | ((with_reducible refine gate_dst (N := 2) rfl ?_); refine box_event ?hg (N := 2) ?hd (cs := #[.int .i64 a0_0, .int .i64 a0_1, .int .i64 a0_2, .int .i64 a0_3]) (t := 44) ?hr ?_; (case hd => rfl); (case hg => rfl); (case hr => first | (go_simp; done) | (go_simp; rfl)); intro gb765 hg w7 hbox hb; have n0_ := Aside0.mk (below_step zb hb); have n1_ := Aside0.mk (hbox); have n2_ := Aside0.mk ((by rw [hg]; exact (below_size zb) : w.heap.size ≤ gb765)); have n3_ := Aside0.mk ((by rw [hg]; exact (below_size zb) : w.heap.size ≤ gb765)); clear HB; have HB := n0_; have BK765 := n1_; have GW765 := n2_; have GE765 := n3_; clear n0_ n1_ n2_ n3_; clear hb hbox hg) | ((with_reducible refine gate_dst (N := 3) rfl ?_); refine box_event ?hg (N := 3) ?hd (cs := #[.int .i64 a1_0, .int .i64 a1_1, .int .i64 a1_2, .int .i64 a1_3]) (t := 44) ?hr ?_; (case hd => rfl); (case hg => rfl); (case hr => first | (go_simp; done) | (go_simp; rfl)); intro gb766 hg w8 hbox hb; have n0_ := Aside0.mk (blk_below (zk BK765.out) hb); have n1_ := Aside0.mk (below_step (by repeat (first | (with_reducible first | exact HB.out | apply below_alloc | apply pw_below_drewN | apply below_drew1 | refine below_set ?_ GE765.out) | exact HB.out)) hb); have n2_ := Aside0.mk (hbox); have n3_ := Aside0.mk ((by rw [hg]; exact (below_size (by repeat (first | (with_reducible first | exact HB.out | apply below_alloc | apply pw_below_drewN | apply below_drew1 | refine below_set ?_ GE765.out) | exact HB.out))) : w.heap.size ≤ gb766)); have n4_ := Aside0.mk ((by rw [hg]; exact (below_size (by repeat (first | (with_reducible first | exact HB.out | apply below_alloc | apply pw_below_drewN | apply below_drew1 | refine below_set ?_ GE765.out) | exact HB.out))) : w.heap.size ≤ gb766)); have n5_ := Aside0.mk ((by rw [hg]; exact Nat.ne_of_lt (blk_lt (g := gb765) (o := .cells #[.int .i64 a0_0, .int .i64 a0_1, .int .i64 a0_2, .int .i64 a0_3] 44 (0, 0)) (zk BK765.out)) : gb765 ≠ gb766)); have n6_ := Aside0.mk ((by rw [hg]; exact Nat.ne_of_gt (blk_lt (g := gb765) (o := .cells #[.int .i64 a0_0, .int .i64 a0_1, .int .i64 a0_2, .int .i64 a0_3] 44 (0, 0)) (zk BK765.out)) : gb766 ≠ gb765)); clear BK765; clear HB; have BK765 := n0_; have HB := n1_; have BK766 := n2_; have GW766 := n3_; have GE766 := n4_; have NB765_766 := n5_; have NB766_765 := n6_; clear n0_ n1_ n2_ n3_ n4_ n5_ n6_; clear hb hbox hg; have hnb9 := NB765_766.out; have hnc9 := NB766_765.out; have hcz10_0 : w8.cell? ⟨gb765, 0, none⟩ = some (.int .i64 a0_0) := (blk_cell BK765.out 0).trans rfl; have hcz10_1 : w8.cell? ⟨gb765, 1, none⟩ = some (.int .i64 a0_1) := (blk_cell BK765.out 1).trans rfl; have hcz10_2 : w8.cell? ⟨gb765, 2, none⟩ = some (.int .i64 a0_2) := (blk_cell BK765.out 2).trans rfl; have hcz10_3 : w8.cell? ⟨gb765, 3, none⟩ = some (.int .i64 a0_3) := (blk_cell BK765.out 3).trans rfl; have hfz10_0 := blk_frozen BK765.out 0; have hfz10_1 := blk_frozen BK765.out 1; have hfz10_2 := blk_frozen BK765.out 2; have hfz10_3 := blk_frozen BK765.out 3; have hcz11_0 : w8.cell? ⟨gb766, 0, none⟩ = some (.int .i64 a1_0) := (blk_cell BK766.out 0).trans rfl; have hcz11_1 : w8.cell? ⟨gb766, 1, none⟩ = some (.int .i64 a1_1) := (blk_cell BK766.out 1).trans rfl; have hcz11_2 : w8.cell? ⟨gb766, 2, none⟩ = some (.int .i64 a1_2) := (blk_cell BK766.out 2).trans rfl; have hcz11_3 : w8.cell? ⟨gb766, 3, none⟩ = some (.int .i64 a1_3) := (blk_cell BK766.out 3).trans rfl; have hfz11_0 := blk_frozen BK766.out 0; have hfz11_1 := blk_frozen BK766.out 1; have hfz11_2 := blk_frozen BK766.out 2; have hfz11_3 := blk_frozen BK766.out 3))
     go_ret
     exact ⟨by first | rfl | (simp [errW_none, errW_some] <;> rfl) | (simp [*, errW_none, errW_some] <;> rfl), by repeat (first | (with_reducible first | exact HB.out | apply below_alloc | apply pw_below_drewN | apply below_drew1 | refine below_set ?_ GE765.out | refine below_set ?_ GE766.out) | exact HB.out)⟩
    ·rw [if_neg c6] at H
     have c6b0 : (a0_3 == a1_3) = false := beq_eq_false_iff_ne.mpr c6
     have c6b1 : (a0_3 != a1_3) = true := bne_iff_ne.mpr c6
     obtain rfl := Option.some.inj H
     go_enter Try.func31, Try.ntmps31
     go_wp2_with (first | ((with_reducible refine gate_dst (N := 2) rfl ?_); refine box_event ?hg (N := 2) ?hd (cs := #[.int .i64 a0_0, .int .i64 a0_1, .int .i64 a0_2, .int .i64 a0_3]) (t := 44) ?hr ?_; (case hd => rfl); (case hg => rfl); (case hr => first | (go_simp; done) | (go_simp; rfl)); intro gb765 hg w12 hbox hb; have n0_ := Aside0.mk (below_step zb hb); have n1_ := Aside0.mk (hbox); have n2_ := Aside0.mk ((by rw [hg]; exact (below_size zb) : w.heap.size ≤ gb765)); have n3_ := Aside0.mk ((by rw [hg]; exact (below_size zb) : w.heap.size ≤ gb765)); clear HB; have HB := n0_; have BK765 := n1_; have GW765 := n2_; have GE765 := n3_; clear n0_ n1_ n2_ n3_; clear hb hbox hg) | ((with_reducible refine gate_dst (N := 3) rfl ?_); refine box_event ?hg (N := 3) ?hd (cs := #[.int .i64 a1_0, .int .i64 a1_1, .int .i64 a1_2, .int .i64 a1_3]) (t := 44) ?hr ?_; (case hd => rfl); (case hg => rfl); (case hr => first | (go_simp; done) | (go_simp; rfl)); intro gb766 hg w13 hbox hb; have n0_ := Aside0.mk (blk_below (zk BK765.out) hb); have n1_ := Aside0.mk (below_step (by repeat (first | (with_reducible first | exact HB.out | apply below_alloc | apply pw_below_drewN | apply below_drew1 | refine below_set ?_ GE765.out) | exact HB.out)) hb); have n2_ := Aside0.mk (hbox); have n3_ := Aside0.mk ((by rw [hg]; exact (below_size (by repeat (first | (with_reducible first | exact HB.out | apply below_alloc | apply pw_below_drewN | apply below_drew1 | refine below_set ?_ GE765.out) | exact HB.out))) : w.heap.size ≤ gb766)); have n4_ := Aside0.mk ((by rw [hg]; exact (below_size (by repeat (first | (with_reducible first | exact HB.out | apply below_alloc | apply pw_below_drewN | apply below_drew1 | refine below_set ?_ GE765.out) | exact HB.out))) : w.heap.size ≤ gb766)); have n5_ := Aside0.mk ((by rw [hg]; exact Nat.ne_of_lt (blk_lt (g := gb765) (o := .cells #[.int .i64 a0_0, .int .i64 a0_1, .int .i64 a0_2, .int .i64 a0_3] 44 (0, 0)) (zk BK765.out)) : gb765 ≠ gb766)); have n6_ := Aside0.mk ((by rw [hg]; exact Nat.ne_of_gt (blk_lt (g := gb765) (o := .cells #[.int .i64 a0_0, .int .i64 a0_1, .int .i64 a0_2, .int .i64 a0_3] 44 (0, 0)) (zk BK765.out)) : gb766 ≠ gb765)); clear BK765; clear HB; have BK765 := n0_; have HB := n1_; have BK766 := n2_; have GW766 := n3_; have GE766 := n4_; have NB765_766 := n5_; have NB766_765 := n6_; clear n0_ n1_ n2_ n3_ n4_ n5_ n6_; clear hb hbox hg; have hnb14 := NB765_766.out; have hnc14 := NB766_765.out; have hcz15_0 : w13.cell? ⟨gb765, 0, none⟩ = some (.int .i64 a0_0) := (blk_cell BK765.out 0).trans rfl; have hcz15_1 : w13.cell? ⟨gb765, 1, none⟩ = some (.int .i64 a0_1) := (blk_cell BK765.out 1).trans rfl; have hcz15_2 : w13.cell? ⟨gb765, 2, none⟩ = some (.int .i64 a0_2) := (blk_cell BK765.out 2).trans rfl; have hcz15_3 : w13.cell? ⟨gb765, 3, none⟩ = some (.int .i64 a0_3) := (blk_cell BK765.out 3).trans rfl; have hfz15_0 := blk_frozen BK765.out 0; have hfz15_1 := blk_frozen BK765.out 1; have hfz15_2 := blk_frozen BK765.out 2; have hfz15_3 := blk_frozen BK765.out 3; have hcz16_0 : w13.cell? ⟨gb766, 0, none⟩ = some (.int .i64 a1_0) := (blk_cell BK766.out 0).trans rfl; have hcz16_1 : w13.cell? ⟨gb766, 1, none⟩ = some (.int .i64 a1_1) := (blk_cell BK766.out 1).trans rfl; have hcz16_2 : w13.cell? ⟨gb766, 2, none⟩ = some (.int .i64 a1_2) := (blk_cell BK766.out 2).trans rfl; have hcz16_3 : w13.cell? ⟨gb766, 3, none⟩ = some (.int .i64 a1_3) := (blk_cell BK766.out 3).trans rfl; have hfz16_0 := blk_frozen BK766.out 0; have hfz16_1 := blk_frozen BK766.out 1; have hfz16_2 := blk_frozen BK766.out 2; have hfz16_3 := blk_frozen BK766.out 3))
     go_ret
     exact ⟨by first | rfl | (simp [errW_none, errW_some] <;> rfl) | (simp [*, errW_none, errW_some] <;> rfl), by repeat (first | (with_reducible first | exact HB.out | apply below_alloc | apply pw_below_drewN | apply below_drew1 | refine below_set ?_ GE765.out | refine below_set ?_ GE766.out) | exact HB.out)⟩
   ·rw [if_neg c5] at H
    have c5b0 : (a0_2 == a1_2) = false := beq_eq_false_iff_ne.mpr c5
    have c5b1 : (a0_2 != a1_2) = true := bne_iff_ne.mpr c5
    obtain rfl := Option.some.inj H
    go_enter Try.func31, Try.ntmps31
    go_wp2_with (first | ((with_reducible refine gate_dst (N := 2) rfl ?_); refine box_event ?hg (N := 2) ?hd (cs := #[.int .i64 a0_0, .int .i64 a0_1, .int .i64 a0_2, .int .i64 a0_3]) (t := 44) ?hr ?_; (case hd => rfl); (case hg => rfl); (case hr => first | (go_simp; done) | (go_simp; rfl)); intro gb765 hg w17 hbox hb; have n0_ := Aside0.mk (below_step zb hb); have n1_ := Aside0.mk (hbox); have n2_ := Aside0.mk ((by rw [hg]; exact (below_size zb) : w.heap.size ≤ gb765)); have n3_ := Aside0.mk ((by rw [hg]; exact (below_size zb) : w.heap.size ≤ gb765)); clear HB; have HB := n0_; have BK765 := n1_; have GW765 := n2_; have GE765 := n3_; clear n0_ n1_ n2_ n3_; clear hb hbox hg) | ((with_reducible refine gate_dst (N := 3) rfl ?_); refine box_event ?hg (N := 3) ?hd (cs := #[.int .i64 a1_0, .int .i64 a1_1, .int .i64 a1_2, .int .i64 a1_3]) (t := 44) ?hr ?_; (case hd => rfl); (case hg => rfl); (case hr => first | (go_simp; done) | (go_simp; rfl)); intro gb766 hg w18 hbox hb; have n0_ := Aside0.mk (blk_below (zk BK765.out) hb); have n1_ := Aside0.mk (below_step (by repeat (first | (with_reducible first | exact HB.out | apply below_alloc | apply pw_below_drewN | apply below_drew1 | refine below_set ?_ GE765.out) | exact HB.out)) hb); have n2_ := Aside0.mk (hbox); have n3_ := Aside0.mk ((by rw [hg]; exact (below_size (by repeat (first | (with_reducible first | exact HB.out | apply below_alloc | apply pw_below_drewN | apply below_drew1 | refine below_set ?_ GE765.out) | exact HB.out))) : w.heap.size ≤ gb766)); have n4_ := Aside0.mk ((by rw [hg]; exact (below_size (by repeat (first | (with_reducible first | exact HB.out | apply below_alloc | apply pw_below_drewN | apply below_drew1 | refine below_set ?_ GE765.out) | exact HB.out))) : w.heap.size ≤ gb766)); have n5_ := Aside0.mk ((by rw [hg]; exact Nat.ne_of_lt (blk_lt (g := gb765) (o := .cells #[.int .i64 a0_0, .int .i64 a0_1, .int .i64 a0_2, .int .i64 a0_3] 44 (0, 0)) (zk BK765.out)) : gb765 ≠ gb766)); have n6_ := Aside0.mk ((by rw [hg]; exact Nat.ne_of_gt (blk_lt (g := gb765) (o := .cells #[.int .i64 a0_0, .int .i64 a0_1, .int .i64 a0_2, .int .i64 a0_3] 44 (0, 0)) (zk BK765.out)) : gb766 ≠ gb765)); clear BK765; clear HB; have BK765 := n0_; have HB := n1_; have BK766 := n2_; have GW766 := n3_; have GE766 := n4_; have NB765_766 := n5_; have NB766_765 := n6_; clear n0_ n1_ n2_ n3_ n4_ n5_ n6_; clear hb hbox hg; have hnb19 := NB765_766.out; have hnc19 := NB766_765.out; have hcz20_0 : w18.cell? ⟨gb765, 0, none⟩ = some (.int .i64 a0_0) := (blk_cell BK765.out 0).trans rfl; have hcz20_1 : w18.cell? ⟨gb765, 1, none⟩ = some (.int .i64 a0_1) := (blk_cell BK765.out 1).trans rfl; have hcz20_2 : w18.cell? ⟨gb765, 2, none⟩ = some (.int .i64 a0_2) := (blk_cell BK765.out 2).trans rfl; have hcz20_3 : w18.cell? ⟨gb765, 3, none⟩ = some (.int .i64 a0_3) := (blk_cell BK765.out 3).trans rfl; have hfz20_0 := blk_frozen BK765.out 0; have hfz20_1 := blk_frozen BK765.out 1; have hfz20_2 := blk_frozen BK765.out 2; have hfz20_3 := blk_frozen BK765.out 3; have hcz21_0 : w18.cell? ⟨gb766, 0, none⟩ = some (.int .i64 a1_0) := (blk_cell BK766.out 0).trans rfl; have hcz21_1 : w18.cell? ⟨gb766, 1, none⟩ = some (.int .i64 a1_1) := (blk_cell BK766.out 1).trans rfl; have hcz21_2 : w18.cell? ⟨gb766, 2, none⟩ = some (.int .i64 a1_2) := (blk_cell BK766.out 2).trans rfl; have hcz21_3 : w18.cell? ⟨gb766, 3, none⟩ = some (.int .i64 a1_3) := (blk_cell BK766.out 3).trans rfl; have hfz21_0 := blk_frozen BK766.out 0; have hfz21_1 := blk_frozen BK766.out 1; have hfz21_2 := blk_frozen BK766.out 2; have hfz21_3 := blk_frozen BK766.out 3))
    go_ret
    exact ⟨by first | rfl | (simp [errW_none, errW_some] <;> rfl) | (simp [*, errW_none, errW_some] <;> rfl), by repeat (first | (with_reducible first | exact HB.out | apply below_alloc | apply pw_below_drewN | apply below_drew1 | refine below_set ?_ GE765.out | refine below_set ?_ GE766.out) | exact HB.out)⟩
  ·rw [if_neg c4] at H
   have c4b0 : (a0_1 == a1_1) = false := beq_eq_false_iff_ne.mpr c4
   have c4b1 : (a0_1 != a1_1) = true := bne_iff_ne.mpr c4
   obtain rfl := Option.some.inj H
   go_enter Try.func31, Try.ntmps31
   go_wp2_with (first | ((with_reducible refine gate_dst (N := 2) rfl ?_); refine box_event ?hg (N := 2) ?hd (cs := #[.int .i64 a0_0, .int .i64 a0_1, .int .i64 a0_2, .int .i64 a0_3]) (t := 44) ?hr ?_; (case hd => rfl); (case hg => rfl); (case hr => first | (go_simp; done) | (go_simp; rfl)); intro gb765 hg w22 hbox hb; have n0_ := Aside0.mk (below_step zb hb); have n1_ := Aside0.mk (hbox); have n2_ := Aside0.mk ((by rw [hg]; exact (below_size zb) : w.heap.size ≤ gb765)); have n3_ := Aside0.mk ((by rw [hg]; exact (below_size zb) : w.heap.size ≤ gb765)); clear HB; have HB := n0_; have BK765 := n1_; have GW765 := n2_; have GE765 := n3_; clear n0_ n1_ n2_ n3_; clear hb hbox hg) | ((with_reducible refine gate_dst (N := 3) rfl ?_); refine box_event ?hg (N := 3) ?hd (cs := #[.int .i64 a1_0, .int .i64 a1_1, .int .i64 a1_2, .int .i64 a1_3]) (t := 44) ?hr ?_; (case hd => rfl); (case hg => rfl); (case hr => first | (go_simp; done) | (go_simp; rfl)); intro gb766 hg w23 hbox hb; have n0_ := Aside0.mk (blk_below (zk BK765.out) hb); have n1_ := Aside0.mk (below_step (by repeat (first | (with_reducible first | exact HB.out | apply below_alloc | apply pw_below_drewN | apply below_drew1 | refine below_set ?_ GE765.out) | exact HB.out)) hb); have n2_ := Aside0.mk (hbox); have n3_ := Aside0.mk ((by rw [hg]; exact (below_size (by repeat (first | (with_reducible first | exact HB.out | apply below_alloc | apply pw_below_drewN | apply below_drew1 | refine below_set ?_ GE765.out) | exact HB.out))) : w.heap.size ≤ gb766)); have n4_ := Aside0.mk ((by rw [hg]; exact (below_size (by repeat (first | (with_reducible first | exact HB.out | apply below_alloc | apply pw_below_drewN | apply below_drew1 | refine below_set ?_ GE765.out) | exact HB.out))) : w.heap.size ≤ gb766)); have n5_ := Aside0.mk ((by rw [hg]; exact Nat.ne_of_lt (blk_lt (g := gb765) (o := .cells #[.int .i64 a0_0, .int .i64 a0_1, .int .i64 a0_2, .int .i64 a0_3] 44 (0, 0)) (zk BK765.out)) : gb765 ≠ gb766)); have n6_ := Aside0.mk ((by rw [hg]; exact Nat.ne_of_gt (blk_lt (g := gb765) (o := .cells #[.int .i64 a0_0, .int .i64 a0_1, .int .i64 a0_2, .int .i64 a0_3] 44 (0, 0)) (zk BK765.out)) : gb766 ≠ gb765)); clear BK765; clear HB; have BK765 := n0_; have HB := n1_; have BK766 := n2_; have GW766 := n3_; have GE766 := n4_; have NB765_766 := n5_; have NB766_765 := n6_; clear n0_ n1_ n2_ n3_ n4_ n5_ n6_; clear hb hbox hg; have hnb24 := NB765_766.out; have hnc24 := NB766_765.out; have hcz25_0 : w23.cell? ⟨gb765, 0, none⟩ = some (.int .i64 a0_0) := (blk_cell BK765.out 0).trans rfl; have hcz25_1 : w23.cell? ⟨gb765, 1, none⟩ = some (.int .i64 a0_1) := (blk_cell BK765.out 1).trans rfl; have hcz25_2 : w23.cell? ⟨gb765, 2, none⟩ = some (.int .i64 a0_2) := (blk_cell BK765.out 2).trans rfl; have hcz25_3 : w23.cell? ⟨gb765, 3, none⟩ = some (.int .i64 a0_3) := (blk_cell BK765.out 3).trans rfl; have hfz25_0 := blk_frozen BK765.out 0; have hfz25_1 := blk_frozen BK765.out 1; have hfz25_2 := blk_frozen BK765.out 2; have hfz25_3 := blk_frozen BK765.out 3; have hcz26_0 : w23.cell? ⟨gb766, 0, none⟩ = some (.int .i64 a1_0) := (blk_cell BK766.out 0).trans rfl; have hcz26_1 : w23.cell? ⟨gb766, 1, none⟩ = some (.int .i64 a1_1) := (blk_cell BK766.out 1).trans rfl; have hcz26_2 : w23.cell? ⟨gb766, 2, none⟩ = some (.int .i64 a1_2) := (blk_cell BK766.out 2).trans rfl; have hcz26_3 : w23.cell? ⟨gb766, 3, none⟩ = some (.int .i64 a1_3) := (blk_cell BK766.out 3).trans rfl; have hfz26_0 := blk_frozen BK766.out 0; have hfz26_1 := blk_frozen BK766.out 1; have hfz26_2 := blk_frozen BK766.out 2; have hfz26_3 := blk_frozen BK766.out 3))
   go_ret
   exact ⟨by first | rfl | (simp [errW_none, errW_some] <;> rfl) | (simp [*, errW_none, errW_some] <;> rfl), by repeat (first | (with_reducible first | exact HB.out | apply below_alloc | apply pw_below_drewN | apply below_drew1 | refine below_set ?_ GE765.out | refine below_set ?_ GE766.out) | exact HB.out)⟩
 ·rw [if_neg c3] at H
  have c3b0 : (a0_0 == a1_0) = false := beq_eq_false_iff_ne.mpr c3
  have c3b1 : (a0_0 != a1_0) = true := bne_iff_ne.mpr c3
  obtain rfl := Option.some.inj H
  go_enter Try.func31, Try.ntmps31
  go_wp2_with (first | ((with_reducible refine gate_dst (N := 2) rfl ?_); refine box_event ?hg (N := 2) ?hd (cs := #[.int .i64 a0_0, .int .i64 a0_1, .int .i64 a0_2, .int .i64 a0_3]) (t := 44) ?hr ?_; (case hd => rfl); (case hg => rfl); (case hr => first | (go_simp; done) | (go_simp; rfl)); intro gb765 hg w27 hbox hb; have n0_ := Aside0.mk (below_step zb hb); have n1_ := Aside0.mk (hbox); have n2_ := Aside0.mk ((by rw [hg]; exact (below_size zb) : w.heap.size ≤ gb765)); have n3_ := Aside0.mk ((by rw [hg]; exact (below_size zb) : w.heap.size ≤ gb765)); clear HB; have HB := n0_; have BK765 := n1_; have GW765 := n2_; have GE765 := n3_; clear n0_ n1_ n2_ n3_; clear hb hbox hg) | ((with_reducible refine gate_dst (N := 3) rfl ?_); refine box_event ?hg (N := 3) ?hd (cs := #[.int .i64 a1_0, .int .i64 a1_1, .int .i64 a1_2, .int .i64 a1_3]) (t := 44) ?hr ?_; (case hd => rfl); (case hg => rfl); (case hr => first | (go_simp; done) | (go_simp; rfl)); intro gb766 hg w28 hbox hb; have n0_ := Aside0.mk (blk_below (zk BK765.out) hb); have n1_ := Aside0.mk (below_step (by repeat (first | (with_reducible first | exact HB.out | apply below_alloc | apply pw_below_drewN | apply below_drew1 | refine below_set ?_ GE765.out) | exact HB.out)) hb); have n2_ := Aside0.mk (hbox); have n3_ := Aside0.mk ((by rw [hg]; exact (below_size (by repeat (first | (with_reducible first | exact HB.out | apply below_alloc | apply pw_below_drewN | apply below_drew1 | refine below_set ?_ GE765.out) | exact HB.out))) : w.heap.size ≤ gb766)); have n4_ := Aside0.mk ((by rw [hg]; exact (below_size (by repeat (first | (with_reducible first | exact HB.out | apply below_alloc | apply pw_below_drewN | apply below_drew1 | refine below_set ?_ GE765.out) | exact HB.out))) : w.heap.size ≤ gb766)); have n5_ := Aside0.mk ((by rw [hg]; exact Nat.ne_of_lt (blk_lt (g := gb765) (o := .cells #[.int .i64 a0_0, .int .i64 a0_1, .int .i64 a0_2, .int .i64 a0_3] 44 (0, 0)) (zk BK765.out)) : gb765 ≠ gb766)); have n6_ := Aside0.mk ((by rw [hg]; exact Nat.ne_of_gt (blk_lt (g := gb765) (o := .cells #[.int .i64 a0_0, .int .i64 a0_1, .int .i64 a0_2, .int .i64 a0_3] 44 (0, 0)) (zk BK765.out)) : gb766 ≠ gb765)); clear BK765; clear HB; have BK765 := n0_; have HB := n1_; have BK766 := n2_; have GW766 := n3_; have GE766 := n4_; have NB765_766 := n5_; have NB766_765 := n6_; clear n0_ n1_ n2_ n3_ n4_ n5_ n6_; clear hb hbox hg; have hnb29 := NB765_766.out; have hnc29 := NB766_765.out; have hcz30_0 : w28.cell? ⟨gb765, 0, none⟩ = some (.int .i64 a0_0) := (blk_cell BK765.out 0).trans rfl; have hcz30_1 : w28.cell? ⟨gb765, 1, none⟩ = some (.int .i64 a0_1) := (blk_cell BK765.out 1).trans rfl; have hcz30_2 : w28.cell? ⟨gb765, 2, none⟩ = some (.int .i64 a0_2) := (blk_cell BK765.out 2).trans rfl; have hcz30_3 : w28.cell? ⟨gb765, 3, none⟩ = some (.int .i64 a0_3) := (blk_cell BK765.out 3).trans rfl; have hfz30_0 := blk_frozen BK765.out 0; have hfz30_1 := blk_frozen BK765.out 1; have hfz30_2 := blk_frozen BK765.out 2; have hfz30_3 := blk_frozen BK765.out 3; have hcz31_0 : w28.cell? ⟨gb766, 0, none⟩ = some (.int .i64 a1_0) := (blk_cell BK766.out 0).trans rfl; have hcz31_1 : w28.cell? ⟨gb766, 1, none⟩ = some (.int .i64 a1_1) := (blk_cell BK766.out 1).trans rfl; have hcz31_2 : w28.cell? ⟨gb766, 2, none⟩ = some (.int .i64 a1_2) := (blk_cell BK766.out 2).trans rfl; have hcz31_3 : w28.cell? ⟨gb766, 3, none⟩ = some (.int .i64 a1_3) := (blk_cell BK766.out 3).trans rfl; have hfz31_0 := blk_frozen BK766.out 0; have hfz31_1 := blk_frozen BK766.out 1; have hfz31_2 := blk_frozen BK766.out 2; have hfz31_3 := blk_frozen BK766.out 3))
  go_ret
  exact ⟨by first | rfl | (simp [errW_none, errW_some] <;> rfl) | (simp [*, errW_none, errW_some] <;> rfl), by repeat (first | (with_reducible first | exact HB.out | apply below_alloc | apply pw_below_drewN | apply below_drew1 | refine below_set ?_ GE765.out | refine below_set ?_ GE766.out) | exact HB.out)⟩

end Go.Proofs.Ytiolnbhcmoafjaa.QFnClocks
