/- The functions that the law reaches, each as a plain Lean function with the proof that the Go code comes to its answers: written by a program of this session. No condition. -/
import Derived.Test.YtiolnbhcmoafjaaQFnExactTableOKx0
import Derived.Test.YtiolnbhcmoafjaaQFnExactTableOKx1
import Derived.Test.YtiolnbhcmoafjaaQFnExactTableOKx2
namespace Go.Proofs.Ytiolnbhcmoafjaa.QFnExactTableOK
open Go.RowKit Go.Proofs.YtiolnbhcmoafjaaW.PrintWords Go.Proofs.YtiolnbhcmoafjaaW.PrintLast Go.Proofs.YtiolnbhcmoafjaaW.PrintMore
attribute [local go_sem] max2_int min2_int max_two min_two max_three min_three max_four min_four str_gtr str_leq str_geq pw_at_slice   -- for this text's walks alone
set_option linter.unusedVariables false
set_option linter.unusedSimpArgs false

/-! ### spec_l08Name: function 40 -/
def spec_l08Name.f (k : Nat) (a0 : ByteArray) : Option (Bool) := (spec_l08Shape.f k a0).bind fun t614 => (if t614 = true then ((spec_l08Reserved.f a0).bind fun t615 => (some (!t615))) else (some false))
set_option maxHeartbeats 8000000 in
set_option maxRecDepth 100000 in
theorem spec_l08Name.calls (k : Nat) (a0 : ByteArray) (r : Bool) (w : World) (h : spec_l08Name.f k a0 = some r) :
  Calls Try.prog 40 #[.string a0] w fun e w' => e = .returned (.bool r) ∧ Drawn0 w w' := by
 have H : ((spec_l08Shape.f k a0).bind fun t614 => (if t614 = true then ((spec_l08Reserved.f a0).bind fun t615 => (some (!t615))) else (some false))) = some r := h
 clear h
 replace H := Option.bind_eq_some_iff.mp H
 obtain ⟨t614, A20, H⟩ := H
 replace H : (if t614 = true then ((spec_l08Reserved.f a0).bind fun t615 => (some (!t615))) else (some false)) = some r := H
 have A2 := Aside0.mk A20
 clear A20
 by_cases c3 : t614 = true
 ·subst c3
  have H1 : ((spec_l08Reserved.f a0).bind fun t615 => (some (!t615))) = some r := by rw [if_pos rfl] at H; exact H
  clear H
  have H := H1
  clear H1
  replace H := Option.bind_eq_some_iff.mp H
  obtain ⟨t615, A40, H⟩ := H
  replace H : (some (!t615)) = some r := H
  have A4 := Aside0.mk A40
  clear A40
  obtain rfl := Option.some.inj H
  go_enter Try.func40, Try.ntmps40
  go_wp2_with (first | ((with_reducible refine gate_callee (f := 64) rfl ?_); refine goesL_ (some 4) rfl rfl Try.func64 (by kernel_rfl) rfl #[.string a0] rfl zm ?_; (with_reducible refine (spec_l08Shape.calls k a0 true _ A2.out).mono ?_); rintro e w' ⟨rfl, ⟨nd, rfl⟩⟩; refine ⟨_, rfl, ?_⟩) | (go_at_call 65; (with_reducible refine (spec_l08Reserved.calls a0 t615 _ A4.out).mono ?_); rintro e w' ⟨rfl, ⟨nd, rfl⟩⟩))
  go_ret
  exact ⟨by first | rfl | (simp; done) | (simp [*]; done), by repeat (first | exact Drawn0.refl _ | apply Drawn0.step)⟩
 ·replace c3 := Bool.eq_false_iff.mpr c3
  subst c3
  have H1 : (some false) = some r := by rw [if_neg (show ¬ (false = true) by decide)] at H; exact H
  clear H
  have H := H1
  clear H1
  obtain rfl := Option.some.inj H
  go_enter Try.func40, Try.ntmps40
  go_wp2_with (first | ((with_reducible refine gate_callee (f := 64) rfl ?_); refine goesL_ (some 4) rfl rfl Try.func64 (by kernel_rfl) rfl #[.string a0] rfl zm ?_; (with_reducible refine (spec_l08Shape.calls k a0 false _ A2.out).mono ?_); rintro e w' ⟨rfl, ⟨nd, rfl⟩⟩; refine ⟨_, rfl, ?_⟩))
  go_ret
  exact ⟨by first | rfl | (simp; done) | (simp [*]; done), by repeat (first | exact Drawn0.refl _ | apply Drawn0.step)⟩

/-! ### spec_l09Col: function 41 -/
set_option maxRecDepth 100000 in
def spec_l09Col.l0 : Nat → Int → Int → Int → ByteArray → Int → List (S78) → List Int → List (S83) → Option (Int)
 | 0, _, _, _, _, _, _, _, _ => none
 | k + 1, x1, x5, x617000, x617001, x617002, x617003, x617004, x617005 => if x5 < (x617003.length : Int) then (if 0 ≤ x5 then (if ((rd_T78 x617003 x5).f0) = x1 then (some x5) else (spec_l09Col.l0 k x1 (wrap64 (x5 + 1)) x617000 x617001 x617002 x617003 x617004 x617005)) else (none)) else (some (-1))
def spec_l09Col.f (k : Nat) (a0_0 : Int) (a0_1 : ByteArray) (a0_2 : Int) (l0_3 : List (S78)) (l0_4 : List Int) (l0_5 : List (S83)) (a1 : Int) : Option (Int) := spec_l09Col.l0 k a1 0 a0_0 a0_1 a0_2 l0_3 l0_4 l0_5
set_option maxHeartbeats 8000000 in
set_option maxRecDepth 100000 in
theorem spec_l09Col.calls (k : Nat) (a0_0 : Int) (a0_1 : ByteArray) (a0_2 : Int) (A0_3 : Option Addr) (c0_3 : Nat) (l0_3 : List (S78)) (A0_4 : Option Addr) (c0_4 : Nat) (l0_4 : List Int) (A0_5 : Option Addr) (c0_5 : Nat) (l0_5 : List (S83)) (a1 : Int) (r : Int) (w : World) (hr0_3 : Kd.C k78 w A0_3 l0_3.length l0_3) (hc0_3 : l0_3.length ≤ c0_3) (hr0_4 : Kd.C (Kd.int .i64) w A0_4 l0_4.length l0_4) (hc0_4 : l0_4.length ≤ c0_4) (hr0_5 : Kd.C k83 w A0_5 l0_5.length l0_5) (hc0_5 : l0_5.length ≤ c0_5) (h : spec_l09Col.f k a0_0 a0_1 a0_2 l0_3 l0_4 l0_5 a1 = some r) :
  Calls Try.prog 41 #[.agg #[.int .i64 a0_0, .string a0_1, .int .i64 a0_2, .slice A0_3 l0_3.length c0_3, .slice A0_4 l0_4.length c0_4, .slice A0_5 l0_5.length c0_5], .int .i64 a1] w fun e w' => e = .returned (.int .i64 r) ∧ Below w.heap.size w w' := by
 have hu56 := Try.underlying56
 have HR0_3 := Aside0.mk hr0_3
 have HC0_3 := Aside0.mk hc0_3
 clear hr0_3 hc0_3
 have HR0_4 := Aside0.mk hr0_4
 have HC0_4 := Aside0.mk hc0_4
 clear hr0_4 hc0_4
 have HR0_5 := Aside0.mk hr0_5
 have HC0_5 := Aside0.mk hc0_5
 clear hr0_5 hc0_5
 have HB := Aside0.mk (Below.refl w.heap.size w)
 have H : (spec_l09Col.l0 k a1 0 a0_0 a0_1 a0_2 l0_3 l0_4 l0_5) = some r := h
 clear h
 have H' := Aside0.mk H
 clear H
 go_enter Try.func41, Try.ntmps41
 go_wp2_with (first | ((with_reducible refine gate_dst (N := 2) rfl ?_); refine box_event ?hg (N := 2) ?hd (cs := #[.int .i64 a0_0, .string a0_1, .int .i64 a0_2, .slice A0_3 l0_3.length c0_3, .slice A0_4 l0_4.length c0_4, .slice A0_5 l0_5.length c0_5]) (t := 56) ?hr ?_; (case hd => rfl); (case hg => rfl); (case hr => first | (go_simp; done) | (go_simp; rfl)); intro gb616 hg w3 hbox hb; have n0_ := Aside0.mk (below_step zb hb); have n1_ := Aside0.mk (hbox); have n2_ := Aside0.mk ((by rw [hg]; exact (below_size zb) : w.heap.size ≤ gb616)); have n3_ := Aside0.mk ((by rw [hg]; exact (below_size zb) : w.heap.size ≤ gb616)); clear HB; have HB := n0_; have BK616 := n1_; have GW616 := n2_; have GE616 := n3_; clear n0_ n1_ n2_ n3_; clear hb hbox hg))
 go_loopg [5] k (fun kq v5 w' => ∃ (x5_1 : Int), v5 = .int .i64 x5_1 ∧ Aside0 (spec_l09Col.l0 kq a1 x5_1 a0_0 a0_1 a0_2 l0_3 l0_4 l0_5 = some r) ∧ Aside0 (kq ≤ k) ∧ Aside0 (w'.heap[gb616]? = some (.cells #[.int .i64 a0_0, .string a0_1, .int .i64 a0_2, (.slice A0_3 l0_3.length c0_3), (.slice A0_4 l0_4.length c0_4), (.slice A0_5 l0_5.length c0_5)] 56 (0, 0))) ∧ Aside0 (Below w.heap.size w w'))
 case atStart => exact ⟨(0), (by first | rfl | (simp; done) | (simp [*]; done)), H', ⟨Nat.le_refl _⟩, ⟨by (with_reducible repeat (first | refine blk_drewN ?_ _ | refine blk_drew ?_ | refine blk_alloc ?_ _)); exact BK616.out⟩, ⟨by repeat (first | (with_reducible first | exact HB.out | apply below_alloc | apply pw_below_drewN | apply below_drew1 | refine below_set ?_ GE616.out) | exact HB.out)⟩⟩
 case round =>
  clear H'
  obtain ⟨x5_1, rfl, HA, HK1, BK616, HB⟩ := hrel
  cases gk with
  | zero => exact absurd HA.out (by simp [spec_l09Col.l0])
  | succ k1 =>
   have H := HA.out
   clear HA
   simp only [spec_l09Col.l0] at H
   by_cases c4 : x5_1 < (l0_3.length : Int)
   ·rw [if_pos c4] at H
    have c4b0 : decide (x5_1 < (l0_3.length : Int)) = true := decide_eq_true c4
    clear c4
    by_cases c5 : 0 ≤ x5_1
    ·rw [if_pos c5] at H
     have c5b0 : decide (0 ≤ x5_1) = true := decide_eq_true c5
     clear c5
     by_cases c6 : ((rd_T78 l0_3 x5_1).f0) = a1
     ·rw [if_pos c6] at H
      have c6b0 : (((rd_T78 l0_3 x5_1).f0) == a1) = true := beq_iff_eq.mpr c6
      have c6b1 : (((rd_T78 l0_3 x5_1).f0) != a1) = false := bne_eq_false_iff_eq.mpr c6
      clear c6
      obtain rfl := Option.some.inj H
      have hcz7_0 : wr.cell? ⟨gb616, 0, none⟩ = some (.int .i64 a0_0) := (blk_cell BK616.out 0).trans rfl
      have hcz7_1 : wr.cell? ⟨gb616, 1, none⟩ = some (.string a0_1) := (blk_cell BK616.out 1).trans rfl
      have hcz7_2 : wr.cell? ⟨gb616, 2, none⟩ = some (.int .i64 a0_2) := (blk_cell BK616.out 2).trans rfl
      have hcz7_3 : wr.cell? ⟨gb616, 3, none⟩ = some (.slice A0_3 l0_3.length c0_3) := (blk_cell BK616.out 3).trans rfl
      have hcz7_4 : wr.cell? ⟨gb616, 4, none⟩ = some (.slice A0_4 l0_4.length c0_4) := (blk_cell BK616.out 4).trans rfl
      have hcz7_5 : wr.cell? ⟨gb616, 5, none⟩ = some (.slice A0_5 l0_5.length c0_5) := (blk_cell BK616.out 5).trans rfl
      have hfz7_0 := blk_frozen BK616.out 0
      have hfz7_1 := blk_frozen BK616.out 1
      have hfz7_2 := blk_frozen BK616.out 2
      have hfz7_3 := blk_frozen BK616.out 3
      have hfz7_4 := blk_frozen BK616.out 4
      have hfz7_5 := blk_frozen BK616.out 5
      have p617 : 0 ≤ (x5_1 : Int) := of_decide_eq_true (by first | (with_reducible assumption) | assumption)
      have q617 : x5_1 < (l0_3.length : Int) := of_decide_eq_true (by first | (with_reducible assumption) | assumption)
      obtain ⟨ad617, e617, hx617_0, hx617_1, hx617_2, hx617_3⟩ := at_T78 HR0_3.out x5_1 p617 q617
      cases e617
      replace hx617_0 := (HB.out.cell (World.block_lt_of_cell? w _ hx617_0)).trans hx617_0
      replace hx617_1 := (HB.out.cell (World.block_lt_of_cell? w _ hx617_1)).trans hx617_1
      replace hx617_2 := (HB.out.cell (World.block_lt_of_cell? w _ hx617_2)).trans hx617_2
      replace hx617_3 := (HB.out.cell (World.block_lt_of_cell? w _ hx617_3)).trans hx617_3
      replace p617 := eq_true p617
      replace q617 := eq_true q617
      go_wp2
      go_ret
      exact ⟨by first | rfl | (simp [errW_none, errW_some] <;> rfl) | (simp [*, errW_none, errW_some] <;> rfl), by repeat (first | (with_reducible first | exact HB.out | apply below_alloc | apply pw_below_drewN | apply below_drew1 | refine below_set ?_ GE616.out) | exact HB.out)⟩
     ·rw [if_neg c6] at H
      have c6b0 : (((rd_T78 l0_3 x5_1).f0) == a1) = false := beq_eq_false_iff_ne.mpr c6
      have c6b1 : (((rd_T78 l0_3 x5_1).f0) != a1) = true := bne_iff_ne.mpr c6
      have H' := Aside0.mk H
      clear H
      have hcz8_0 : wr.cell? ⟨gb616, 0, none⟩ = some (.int .i64 a0_0) := (blk_cell BK616.out 0).trans rfl
      have hcz8_1 : wr.cell? ⟨gb616, 1, none⟩ = some (.string a0_1) := (blk_cell BK616.out 1).trans rfl
      have hcz8_2 : wr.cell? ⟨gb616, 2, none⟩ = some (.int .i64 a0_2) := (blk_cell BK616.out 2).trans rfl
      have hcz8_3 : wr.cell? ⟨gb616, 3, none⟩ = some (.slice A0_3 l0_3.length c0_3) := (blk_cell BK616.out 3).trans rfl
      have hcz8_4 : wr.cell? ⟨gb616, 4, none⟩ = some (.slice A0_4 l0_4.length c0_4) := (blk_cell BK616.out 4).trans rfl
      have hcz8_5 : wr.cell? ⟨gb616, 5, none⟩ = some (.slice A0_5 l0_5.length c0_5) := (blk_cell BK616.out 5).trans rfl
      have hfz8_0 := blk_frozen BK616.out 0
      have hfz8_1 := blk_frozen BK616.out 1
      have hfz8_2 := blk_frozen BK616.out 2
      have hfz8_3 := blk_frozen BK616.out 3
      have hfz8_4 := blk_frozen BK616.out 4
      have hfz8_5 := blk_frozen BK616.out 5
      have p617 : 0 ≤ (x5_1 : Int) := of_decide_eq_true (by first | (with_reducible assumption) | assumption)
      have q617 : x5_1 < (l0_3.length : Int) := of_decide_eq_true (by first | (with_reducible assumption) | assumption)
      obtain ⟨ad617, e617, hx617_0, hx617_1, hx617_2, hx617_3⟩ := at_T78 HR0_3.out x5_1 p617 q617
      cases e617
      replace hx617_0 := (HB.out.cell (World.block_lt_of_cell? w _ hx617_0)).trans hx617_0
      replace hx617_1 := (HB.out.cell (World.block_lt_of_cell? w _ hx617_1)).trans hx617_1
      replace hx617_2 := (HB.out.cell (World.block_lt_of_cell? w _ hx617_2)).trans hx617_2
      replace hx617_3 := (HB.out.cell (World.block_lt_of_cell? w _ hx617_3)).trans hx617_3
      replace p617 := eq_true p617
      replace q617 := eq_true q617
      go_wp2
      go_roundg k1
      case measure => have := HK1.out; omega
      case rel => exact ⟨(wrap64 (x5_1 + 1)), (by first | rfl | (simp; done) | (simp [*]; done)), H', ⟨by have := HK1.out; omega⟩, ⟨by (with_reducible repeat (first | refine blk_drewN ?_ _ | refine blk_drew ?_ | refine blk_alloc ?_ _)); exact BK616.out⟩, ⟨by repeat (first | (with_reducible first | exact HB.out | apply below_alloc | apply pw_below_drewN | apply below_drew1 | refine below_set ?_ GE616.out) | exact HB.out)⟩⟩
    ·rw [if_neg c5] at H
     cases H
   ·rw [if_neg c4] at H
    have c4b0 : decide (x5_1 < (l0_3.length : Int)) = false := decide_eq_false c4
    clear c4
    obtain rfl := Option.some.inj H
    have hcz9_0 : wr.cell? ⟨gb616, 0, none⟩ = some (.int .i64 a0_0) := (blk_cell BK616.out 0).trans rfl
    have hcz9_1 : wr.cell? ⟨gb616, 1, none⟩ = some (.string a0_1) := (blk_cell BK616.out 1).trans rfl
    have hcz9_2 : wr.cell? ⟨gb616, 2, none⟩ = some (.int .i64 a0_2) := (blk_cell BK616.out 2).trans rfl
    have hcz9_3 : wr.cell? ⟨gb616, 3, none⟩ = some (.slice A0_3 l0_3.length c0_3) := (blk_cell BK616.out 3).trans rfl
    have hcz9_4 : wr.cell? ⟨gb616, 4, none⟩ = some (.slice A0_4 l0_4.length c0_4) := (blk_cell BK616.out 4).trans rfl
    have hcz9_5 : wr.cell? ⟨gb616, 5, none⟩ = some (.slice A0_5 l0_5.length c0_5) := (blk_cell BK616.out 5).trans rfl
    have hfz9_0 := blk_frozen BK616.out 0
    have hfz9_1 := blk_frozen BK616.out 1
    have hfz9_2 := blk_frozen BK616.out 2
    have hfz9_3 := blk_frozen BK616.out 3
    have hfz9_4 := blk_frozen BK616.out 4
    have hfz9_5 := blk_frozen BK616.out 5
    go_wp2
    go_ret
    exact ⟨by first | rfl | (simp [errW_none, errW_some] <;> rfl) | (simp [*, errW_none, errW_some] <;> rfl), by repeat (first | (with_reducible first | exact HB.out | apply below_alloc | apply pw_below_drewN | apply below_drew1 | refine below_set ?_ GE616.out) | exact HB.out)⟩

/-! ### spec_l09Named: function 42 -/
set_option maxRecDepth 100000 in
def spec_l09Named.l0 : Nat → ByteArray → Int → Int → ByteArray → Int → List (S78) → List Int → List (S83) → Option (Int)
 | 0, _, _, _, _, _, _, _, _ => none
 | k + 1, x1, x5, x619000, x619001, x619002, x619003, x619004, x619005 => if x5 < (x619003.length : Int) then (if 0 ≤ x5 then (if ((rd_T78 x619003 x5).f1).toList = x1.toList then (some x5) else (spec_l09Named.l0 k x1 (wrap64 (x5 + 1)) x619000 x619001 x619002 x619003 x619004 x619005)) else (none)) else (some (-1))
def spec_l09Named.f (k : Nat) (a0_0 : Int) (a0_1 : ByteArray) (a0_2 : Int) (l0_3 : List (S78)) (l0_4 : List Int) (l0_5 : List (S83)) (a1 : ByteArray) : Option (Int) := spec_l09Named.l0 k a1 0 a0_0 a0_1 a0_2 l0_3 l0_4 l0_5
set_option maxHeartbeats 8000000 in
set_option maxRecDepth 100000 in
theorem spec_l09Named.calls (k : Nat) (a0_0 : Int) (a0_1 : ByteArray) (a0_2 : Int) (A0_3 : Option Addr) (c0_3 : Nat) (l0_3 : List (S78)) (A0_4 : Option Addr) (c0_4 : Nat) (l0_4 : List Int) (A0_5 : Option Addr) (c0_5 : Nat) (l0_5 : List (S83)) (a1 : ByteArray) (r : Int) (w : World) (hr0_3 : Kd.C k78 w A0_3 l0_3.length l0_3) (hc0_3 : l0_3.length ≤ c0_3) (hr0_4 : Kd.C (Kd.int .i64) w A0_4 l0_4.length l0_4) (hc0_4 : l0_4.length ≤ c0_4) (hr0_5 : Kd.C k83 w A0_5 l0_5.length l0_5) (hc0_5 : l0_5.length ≤ c0_5) (h : spec_l09Named.f k a0_0 a0_1 a0_2 l0_3 l0_4 l0_5 a1 = some r) :
  Calls Try.prog 42 #[.agg #[.int .i64 a0_0, .string a0_1, .int .i64 a0_2, .slice A0_3 l0_3.length c0_3, .slice A0_4 l0_4.length c0_4, .slice A0_5 l0_5.length c0_5], .string a1] w fun e w' => e = .returned (.int .i64 r) ∧ Below w.heap.size w w' := by
 have hu56 := Try.underlying56
 have HR0_3 := Aside0.mk hr0_3
 have HC0_3 := Aside0.mk hc0_3
 clear hr0_3 hc0_3
 have HR0_4 := Aside0.mk hr0_4
 have HC0_4 := Aside0.mk hc0_4
 clear hr0_4 hc0_4
 have HR0_5 := Aside0.mk hr0_5
 have HC0_5 := Aside0.mk hc0_5
 clear hr0_5 hc0_5
 have HB := Aside0.mk (Below.refl w.heap.size w)
 have H : (spec_l09Named.l0 k a1 0 a0_0 a0_1 a0_2 l0_3 l0_4 l0_5) = some r := h
 clear h
 have H' := Aside0.mk H
 clear H
 go_enter Try.func42, Try.ntmps42
 go_wp2_with (first | ((with_reducible refine gate_dst (N := 2) rfl ?_); refine box_event ?hg (N := 2) ?hd (cs := #[.int .i64 a0_0, .string a0_1, .int .i64 a0_2, .slice A0_3 l0_3.length c0_3, .slice A0_4 l0_4.length c0_4, .slice A0_5 l0_5.length c0_5]) (t := 56) ?hr ?_; (case hd => rfl); (case hg => rfl); (case hr => first | (go_simp; done) | (go_simp; rfl)); intro gb618 hg w3 hbox hb; have n0_ := Aside0.mk (below_step zb hb); have n1_ := Aside0.mk (hbox); have n2_ := Aside0.mk ((by rw [hg]; exact (below_size zb) : w.heap.size ≤ gb618)); have n3_ := Aside0.mk ((by rw [hg]; exact (below_size zb) : w.heap.size ≤ gb618)); clear HB; have HB := n0_; have BK618 := n1_; have GW618 := n2_; have GE618 := n3_; clear n0_ n1_ n2_ n3_; clear hb hbox hg))
 go_loopg [5] k (fun kq v5 w' => ∃ (x5_1 : Int), v5 = .int .i64 x5_1 ∧ Aside0 (spec_l09Named.l0 kq a1 x5_1 a0_0 a0_1 a0_2 l0_3 l0_4 l0_5 = some r) ∧ Aside0 (kq ≤ k) ∧ Aside0 (w'.heap[gb618]? = some (.cells #[.int .i64 a0_0, .string a0_1, .int .i64 a0_2, (.slice A0_3 l0_3.length c0_3), (.slice A0_4 l0_4.length c0_4), (.slice A0_5 l0_5.length c0_5)] 56 (0, 0))) ∧ Aside0 (Below w.heap.size w w'))
 case atStart => exact ⟨(0), (by first | rfl | (simp; done) | (simp [*]; done)), H', ⟨Nat.le_refl _⟩, ⟨by (with_reducible repeat (first | refine blk_drewN ?_ _ | refine blk_drew ?_ | refine blk_alloc ?_ _)); exact BK618.out⟩, ⟨by repeat (first | (with_reducible first | exact HB.out | apply below_alloc | apply pw_below_drewN | apply below_drew1 | refine below_set ?_ GE618.out) | exact HB.out)⟩⟩
 case round =>
  clear H'
  obtain ⟨x5_1, rfl, HA, HK1, BK618, HB⟩ := hrel
  cases gk with
  | zero => exact absurd HA.out (by simp [spec_l09Named.l0])
  | succ k1 =>
   have H := HA.out
   clear HA
   simp only [spec_l09Named.l0] at H
   by_cases c4 : x5_1 < (l0_3.length : Int)
   ·rw [if_pos c4] at H
    have c4b0 : decide (x5_1 < (l0_3.length : Int)) = true := decide_eq_true c4
    clear c4
    by_cases c5 : 0 ≤ x5_1
    ·rw [if_pos c5] at H
     have c5b0 : decide (0 ≤ x5_1) = true := decide_eq_true c5
     clear c5
     by_cases c6 : ((rd_T78 l0_3 x5_1).f1).toList = a1.toList
     ·rw [if_pos c6] at H
      have c6b0 : (((rd_T78 l0_3 x5_1).f1).toList == a1.toList) = true := beq_iff_eq.mpr c6
      have c6b1 : (((rd_T78 l0_3 x5_1).f1).toList != a1.toList) = false := bne_eq_false_iff_eq.mpr c6
      clear c6
      obtain rfl := Option.some.inj H
      have hcz7_0 : wr.cell? ⟨gb618, 0, none⟩ = some (.int .i64 a0_0) := (blk_cell BK618.out 0).trans rfl
      have hcz7_1 : wr.cell? ⟨gb618, 1, none⟩ = some (.string a0_1) := (blk_cell BK618.out 1).trans rfl
      have hcz7_2 : wr.cell? ⟨gb618, 2, none⟩ = some (.int .i64 a0_2) := (blk_cell BK618.out 2).trans rfl
      have hcz7_3 : wr.cell? ⟨gb618, 3, none⟩ = some (.slice A0_3 l0_3.length c0_3) := (blk_cell BK618.out 3).trans rfl
      have hcz7_4 : wr.cell? ⟨gb618, 4, none⟩ = some (.slice A0_4 l0_4.length c0_4) := (blk_cell BK618.out 4).trans rfl
      have hcz7_5 : wr.cell? ⟨gb618, 5, none⟩ = some (.slice A0_5 l0_5.length c0_5) := (blk_cell BK618.out 5).trans rfl
      have hfz7_0 := blk_frozen BK618.out 0
      have hfz7_1 := blk_frozen BK618.out 1
      have hfz7_2 := blk_frozen BK618.out 2
      have hfz7_3 := blk_frozen BK618.out 3
      have hfz7_4 := blk_frozen BK618.out 4
      have hfz7_5 := blk_frozen BK618.out 5
      have p619 : 0 ≤ (x5_1 : Int) := of_decide_eq_true (by first | (with_reducible assumption) | assumption)
      have q619 : x5_1 < (l0_3.length : Int) := of_decide_eq_true (by first | (with_reducible assumption) | assumption)
      obtain ⟨ad619, e619, hx619_0, hx619_1, hx619_2, hx619_3⟩ := at_T78 HR0_3.out x5_1 p619 q619
      cases e619
      replace hx619_0 := (HB.out.cell (World.block_lt_of_cell? w _ hx619_0)).trans hx619_0
      replace hx619_1 := (HB.out.cell (World.block_lt_of_cell? w _ hx619_1)).trans hx619_1
      replace hx619_2 := (HB.out.cell (World.block_lt_of_cell? w _ hx619_2)).trans hx619_2
      replace hx619_3 := (HB.out.cell (World.block_lt_of_cell? w _ hx619_3)).trans hx619_3
      replace p619 := eq_true p619
      replace q619 := eq_true q619
      go_wp2
      go_ret
      exact ⟨by first | rfl | (simp [errW_none, errW_some] <;> rfl) | (simp [*, errW_none, errW_some] <;> rfl), by repeat (first | (with_reducible first | exact HB.out | apply below_alloc | apply pw_below_drewN | apply below_drew1 | refine below_set ?_ GE618.out) | exact HB.out)⟩
     ·rw [if_neg c6] at H
      have c6b0 : (((rd_T78 l0_3 x5_1).f1).toList == a1.toList) = false := beq_eq_false_iff_ne.mpr c6
      have c6b1 : (((rd_T78 l0_3 x5_1).f1).toList != a1.toList) = true := bne_iff_ne.mpr c6
      have H' := Aside0.mk H
      clear H
      have hcz8_0 : wr.cell? ⟨gb618, 0, none⟩ = some (.int .i64 a0_0) := (blk_cell BK618.out 0).trans rfl
      have hcz8_1 : wr.cell? ⟨gb618, 1, none⟩ = some (.string a0_1) := (blk_cell BK618.out 1).trans rfl
      have hcz8_2 : wr.cell? ⟨gb618, 2, none⟩ = some (.int .i64 a0_2) := (blk_cell BK618.out 2).trans rfl
      have hcz8_3 : wr.cell? ⟨gb618, 3, none⟩ = some (.slice A0_3 l0_3.length c0_3) := (blk_cell BK618.out 3).trans rfl
      have hcz8_4 : wr.cell? ⟨gb618, 4, none⟩ = some (.slice A0_4 l0_4.length c0_4) := (blk_cell BK618.out 4).trans rfl
      have hcz8_5 : wr.cell? ⟨gb618, 5, none⟩ = some (.slice A0_5 l0_5.length c0_5) := (blk_cell BK618.out 5).trans rfl
      have hfz8_0 := blk_frozen BK618.out 0
      have hfz8_1 := blk_frozen BK618.out 1
      have hfz8_2 := blk_frozen BK618.out 2
      have hfz8_3 := blk_frozen BK618.out 3
      have hfz8_4 := blk_frozen BK618.out 4
      have hfz8_5 := blk_frozen BK618.out 5
      have p619 : 0 ≤ (x5_1 : Int) := of_decide_eq_true (by first | (with_reducible assumption) | assumption)
      have q619 : x5_1 < (l0_3.length : Int) := of_decide_eq_true (by first | (with_reducible assumption) | assumption)
      obtain ⟨ad619, e619, hx619_0, hx619_1, hx619_2, hx619_3⟩ := at_T78 HR0_3.out x5_1 p619 q619
      cases e619
      replace hx619_0 := (HB.out.cell (World.block_lt_of_cell? w _ hx619_0)).trans hx619_0
      replace hx619_1 := (HB.out.cell (World.block_lt_of_cell? w _ hx619_1)).trans hx619_1
      replace hx619_2 := (HB.out.cell (World.block_lt_of_cell? w _ hx619_2)).trans hx619_2
      replace hx619_3 := (HB.out.cell (World.block_lt_of_cell? w _ hx619_3)).trans hx619_3
      replace p619 := eq_true p619
      replace q619 := eq_true q619
      go_wp2
      go_roundg k1
      case measure => have := HK1.out; omega
      case rel => exact ⟨(wrap64 (x5_1 + 1)), (by first | rfl | (simp; done) | (simp [*]; done)), H', ⟨by have := HK1.out; omega⟩, ⟨by (with_reducible repeat (first | refine blk_drewN ?_ _ | refine blk_drew ?_ | refine blk_alloc ?_ _)); exact BK618.out⟩, ⟨by repeat (first | (with_reducible first | exact HB.out | apply below_alloc | apply pw_below_drewN | apply below_drew1 | refine below_set ?_ GE618.out) | exact HB.out)⟩⟩
    ·rw [if_neg c5] at H
     cases H
   ·rw [if_neg c4] at H
    have c4b0 : decide (x5_1 < (l0_3.length : Int)) = false := decide_eq_false c4
    clear c4
    obtain rfl := Option.some.inj H
    have hcz9_0 : wr.cell? ⟨gb618, 0, none⟩ = some (.int .i64 a0_0) := (blk_cell BK618.out 0).trans rfl
    have hcz9_1 : wr.cell? ⟨gb618, 1, none⟩ = some (.string a0_1) := (blk_cell BK618.out 1).trans rfl
    have hcz9_2 : wr.cell? ⟨gb618, 2, none⟩ = some (.int .i64 a0_2) := (blk_cell BK618.out 2).trans rfl
    have hcz9_3 : wr.cell? ⟨gb618, 3, none⟩ = some (.slice A0_3 l0_3.length c0_3) := (blk_cell BK618.out 3).trans rfl
    have hcz9_4 : wr.cell? ⟨gb618, 4, none⟩ = some (.slice A0_4 l0_4.length c0_4) := (blk_cell BK618.out 4).trans rfl
    have hcz9_5 : wr.cell? ⟨gb618, 5, none⟩ = some (.slice A0_5 l0_5.length c0_5) := (blk_cell BK618.out 5).trans rfl
    have hfz9_0 := blk_frozen BK618.out 0
    have hfz9_1 := blk_frozen BK618.out 1
    have hfz9_2 := blk_frozen BK618.out 2
    have hfz9_3 := blk_frozen BK618.out 3
    have hfz9_4 := blk_frozen BK618.out 4
    have hfz9_5 := blk_frozen BK618.out 5
    go_wp2
    go_ret
    exact ⟨by first | rfl | (simp [errW_none, errW_some] <;> rfl) | (simp [*, errW_none, errW_some] <;> rfl), by repeat (first | (with_reducible first | exact HB.out | apply below_alloc | apply pw_below_drewN | apply below_drew1 | refine below_set ?_ GE618.out) | exact HB.out)⟩

/-! ### spec_l09Has: function 79 -/
set_option maxRecDepth 100000 in
def spec_l09Has.l0 : Nat → List Int → Int → Int → Option (Bool)
 | 0, _, _, _ => none
 | k + 1, x0, x1, x5 => if x5 < (x0.length : Int) then (if 0 ≤ x5 then (if (rd x0 x5) = x1 then (some true) else (spec_l09Has.l0 k x0 x1 (wrap64 (x5 + 1)))) else (none)) else (some false)
def spec_l09Has.f (k : Nat) (l0 : List Int) (a1 : Int) : Option (Bool) := spec_l09Has.l0 k l0 a1 0
set_option maxHeartbeats 8000000 in
set_option maxRecDepth 100000 in
theorem spec_l09Has.calls (k : Nat) (A0 : Option Addr) (c0 : Nat) (l0 : List Int) (a1 : Int) (r : Bool) (w : World) (hr0 : Kd.C (Kd.int .i64) w A0 l0.length l0) (hc0 : l0.length ≤ c0) (h : spec_l09Has.f k l0 a1 = some r) :
  Calls Try.prog 79 #[.slice A0 l0.length c0, .int .i64 a1] w fun e w' => e = .returned (.bool r) ∧ Drawn0 w w' := by
 have HR0 := Aside0.mk hr0
 have HC0 := Aside0.mk hc0
 clear hr0 hc0
 have H : (spec_l09Has.l0 k l0 a1 0) = some r := h
 clear h
 have H' := Aside0.mk H
 clear H
 go_enter Try.func79, Try.ntmps79
 go_wp2
 go_loopg [5] k (fun kq v5 w' => ∃ (x5_1 : Int), v5 = .int .i64 x5_1 ∧ Aside0 (spec_l09Has.l0 kq l0 a1 x5_1 = some r) ∧ Aside0 (kq ≤ k) ∧ Drawn0 w w')
 case atStart => exact ⟨(0), (by first | rfl | (simp; done) | (simp [*]; done)), H', ⟨Nat.le_refl _⟩, by repeat (first | exact Drawn0.refl _ | apply Drawn0.step)⟩
 case round =>
  clear H'
  obtain ⟨x5_1, rfl, HA, HK1, ⟨m1, rfl⟩⟩ := hrel
  cases gk with
  | zero => exact absurd HA.out (by simp [spec_l09Has.l0])
  | succ k1 =>
   have H := HA.out
   clear HA
   simp only [spec_l09Has.l0] at H
   by_cases c3 : x5_1 < (l0.length : Int)
   ·rw [if_pos c3] at H
    have c3b0 : decide (x5_1 < (l0.length : Int)) = true := decide_eq_true c3
    clear c3
    by_cases c4 : 0 ≤ x5_1
    ·rw [if_pos c4] at H
     have c4b0 : decide (0 ≤ x5_1) = true := decide_eq_true c4
     clear c4
     by_cases c5 : (rd l0 x5_1) = a1
     ·rw [if_pos c5] at H
      have c5b0 : ((rd l0 x5_1) == a1) = true := beq_iff_eq.mpr c5
      have c5b1 : ((rd l0 x5_1) != a1) = false := bne_eq_false_iff_eq.mpr c5
      clear c5
      obtain rfl := Option.some.inj H
      have p620 : 0 ≤ (x5_1 : Int) := of_decide_eq_true (by first | (with_reducible assumption) | assumption)
      have q620 : x5_1 < (l0.length : Int) := of_decide_eq_true (by first | (with_reducible assumption) | assumption)
      obtain ⟨ad620, e620, hx620_0⟩ := Kd.at_int HR0.out x5_1 p620 q620
      cases e620
      replace p620 := eq_true p620
      replace q620 := eq_true q620
      go_wp2
      go_ret
      exact ⟨by first | rfl | (simp; done) | (simp [*]; done), by repeat (first | exact Drawn0.refl _ | apply Drawn0.step)⟩
     ·rw [if_neg c5] at H
      have c5b0 : ((rd l0 x5_1) == a1) = false := beq_eq_false_iff_ne.mpr c5
      have c5b1 : ((rd l0 x5_1) != a1) = true := bne_iff_ne.mpr c5
      have H' := Aside0.mk H
      clear H
      have p620 : 0 ≤ (x5_1 : Int) := of_decide_eq_true (by first | (with_reducible assumption) | assumption)
      have q620 : x5_1 < (l0.length : Int) := of_decide_eq_true (by first | (with_reducible assumption) | assumption)
      obtain ⟨ad620, e620, hx620_0⟩ := Kd.at_int HR0.out x5_1 p620 q620
      cases e620
      replace p620 := eq_true p620
      replace q620 := eq_true q620
      go_wp2
      go_roundg k1
      case measure => have := HK1.out; omega
      case rel => exact ⟨(wrap64 (x5_1 + 1)), (by first | rfl | (simp; done) | (simp [*]; done)), H', ⟨by have := HK1.out; omega⟩, by repeat (first | exact Drawn0.refl _ | apply Drawn0.step)⟩
    ·rw [if_neg c4] at H
     cases H
   ·rw [if_neg c3] at H
    have c3b0 : decide (x5_1 < (l0.length : Int)) = false := decide_eq_false c3
    clear c3
    obtain rfl := Option.some.inj H
    go_wp2
    go_ret
    exact ⟨by first | rfl | (simp; done) | (simp [*]; done), by repeat (first | exact Drawn0.refl _ | apply Drawn0.step)⟩

theorem spec_l09Has.calls_len (k : Nat) (A0 : Option Addr) (c0 : Nat) (l0 : List Int) (a1 : Int) (r : Bool) (w : World) (hr0 : Kd.C (Kd.int .i64) w A0 l0.length l0) (hc0 : l0.length ≤ c0) (h : spec_l09Has.f k l0 a1 = some r) {n_ : Nat} (hn_ : n_ = l0.length) :
    Calls Try.prog 79 #[.slice A0 n_ c0, .int .i64 a1] w fun e w' => e = .returned (.bool r) ∧ Drawn0 w w' := by
  subst hn_
  exact spec_l09Has.calls k A0 c0 l0 a1 r w hr0 hc0 h
/-! ### spec_l09Once: function 66 -/
set_option maxRecDepth 100000 in
def spec_l09Once.l0 : Nat → List Int → Int → Option (Bool)
 | 0, _, _ => none
 | k + 1, x0, x3 => if x3 < (x0.length : Int) then (if 0 ≤ x3 then (if x3 ≤ (x0.length : Int) then ((spec_l09Has.f k (x0.take (x3 : Int).toNat) (rd x0 x3)).bind fun t623 => (if t623 = true then (some false) else (spec_l09Once.l0 k x0 (wrap64 (x3 + 1))))) else (none)) else (none)) else (some true)
def spec_l09Once.f (k : Nat) (l0 : List Int) : Option (Bool) := spec_l09Once.l0 k l0 0
set_option maxHeartbeats 8000000 in
set_option maxRecDepth 100000 in
theorem spec_l09Once.calls (k : Nat) (A0 : Option Addr) (c0 : Nat) (l0 : List Int) (r : Bool) (w : World) (hr0 : Kd.C (Kd.int .i64) w A0 l0.length l0) (hc0 : l0.length ≤ c0) (h : spec_l09Once.f k l0 = some r) :
  Calls Try.prog 66 #[.slice A0 l0.length c0] w fun e w' => e = .returned (.bool r) ∧ Drawn0 w w' := by
 have HR0 := Aside0.mk hr0
 have HC0 := Aside0.mk hc0
 clear hr0 hc0
 have H : (spec_l09Once.l0 k l0 0) = some r := h
 clear h
 have H' := Aside0.mk H
 clear H
 go_enter Try.func66, Try.ntmps66
 go_wp2
 repeat (go_quiet (fail); try go_wp2)
 go_loopg [3] k (fun kq v3 w' => ∃ (x3_1 : Int), v3 = .int .i64 x3_1 ∧ Aside0 (spec_l09Once.l0 kq l0 x3_1 = some r) ∧ Aside0 (kq ≤ k) ∧ Drawn0 w w')
 case atStart => exact ⟨(0), (by first | rfl | (simp; done) | (simp [*]; done)), H', ⟨Nat.le_refl _⟩, by repeat (first | exact Drawn0.refl _ | apply Drawn0.step)⟩
 case round =>
  clear H'
  obtain ⟨x3_1, rfl, HA, HK1, ⟨m1, rfl⟩⟩ := hrel
  cases gk with
  | zero => exact absurd HA.out (by simp [spec_l09Once.l0])
  | succ k1 =>
   have H := HA.out
   clear HA
   simp only [spec_l09Once.l0] at H
   by_cases c2 : x3_1 < (l0.length : Int)
   ·rw [if_pos c2] at H
    have c2b0 : decide (x3_1 < (l0.length : Int)) = true := decide_eq_true c2
    clear c2
    by_cases c3 : 0 ≤ x3_1
    ·rw [if_pos c3] at H
     have c3b0 := eq_true c3
     have c3b1 : decide (0 ≤ x3_1) = true := decide_eq_true c3
     clear c3
     by_cases c4 : x3_1 ≤ (l0.length : Int)
     ·rw [if_pos c4] at H
      have c4b0 := eq_true c4
      have c4b1 : decide (x3_1 ≤ (l0.length : Int)) = true := decide_eq_true c4
      clear c4
      replace H := Option.bind_eq_some_iff.mp H
      obtain ⟨t623, A50, H⟩ := H
      replace H : (if t623 = true then (some false) else (spec_l09Once.l0 k1 l0 (wrap64 (x3_1 + 1)))) = some r := H
      have A5 := Aside0.mk A50
      clear A50
      by_cases c6 : t623 = true
      ·subst c6
       have H1 : (some false) = some r := by rw [if_pos rfl] at H; exact H
       clear H
       have H := H1
       clear H1
       obtain rfl := Option.some.inj H
       obtain ⟨i07, hi07, _, hsz7, _⟩ := info_parts info3
       obtain ⟨hcut7, hA7, hC7⟩ := print_take_of (P := Try.prog) (Value.int .i64) 0 47 3 .i64 Try.underlying47 hi07 hsz7 A0 c0 l0 x3_1 (of_decide_eq_true (by first | (with_reducible assumption) | assumption)) (of_decide_eq_true (by first | (with_reducible assumption) | assumption)) HC0.out
       have HR621 := Aside0.mk (Kd.C_of_reads (h1 := fun _ => rfl) (hA7 _ (Kd.reads_of_C HR0.out)))
       have HC621 := Aside0.mk hC7
       clear hA7 hC7 hi07 hsz7
       have p622 : 0 ≤ (x3_1 : Int) := of_decide_eq_true (by first | (with_reducible assumption) | assumption)
       have q622 : x3_1 < (l0.length : Int) := of_decide_eq_true (by first | (with_reducible assumption) | assumption)
       obtain ⟨ad622, e622, hx622_0⟩ := Kd.at_int HR0.out x3_1 p622 q622
       cases e622
       have hL_ : Aside0 ((x3_1 : Int).toNat = (l0.take (x3_1 : Int).toNat).length) := ⟨by rw [List.length_take]; omega⟩
       replace p622 := eq_true p622
       replace q622 := eq_true q622
       go_wp2_with (first | (go_at_call 79; (with_reducible refine (spec_l09Has.calls_len k1 _ _ (l0.take (x3_1 : Int).toNat) (rd l0 x3_1) true _ ?side1 ?side2 A5.out hL_.out).mono ?_); (case side1 => repeat (first | exact HR621.out | (with_reducible refine Kd.C_alloc ?_ _) | (with_reducible refine Kd.C_drewN ?_ _) | (with_reducible refine Kd.C_drew ?_))); (case side2 => exact HC621.out); rintro e w' ⟨rfl, ⟨nd, rfl⟩⟩; (try first | exact ⟨rfl, _, World.drewN_drewN _ _ _⟩ | exact ⟨rfl, _, Eq.trans (World.drewN_drewN _ _ _) (congrArg (World.drewN _) (Nat.add_assoc _ _ _))⟩)))
       repeat (go_quiet (first | (go_at_call 79; (try simp only [i64_w]); (with_reducible refine (spec_l09Has.calls_len k1 _ _ (l0.take (x3_1 : Int).toNat) (rd l0 x3_1) true _ ?side1 ?side2 A5.out hL_.out).mono ?_); (case side1 => repeat (first | exact HR621.out | (with_reducible refine Kd.C_alloc ?_ _) | (with_reducible refine Kd.C_drewN ?_ _) | (with_reducible refine Kd.C_drew ?_))); (case side2 => exact HC621.out); rintro e w' ⟨rfl, ⟨nd, rfl⟩⟩; (try first | exact ⟨rfl, _, World.drewN_drewN _ _ _⟩ | exact ⟨rfl, _, Eq.trans (World.drewN_drewN _ _ _) (congrArg (World.drewN _) (Nat.add_assoc _ _ _))⟩))); try go_wp2_with (first | (go_at_call 79; (try simp only [i64_w]); (with_reducible refine (spec_l09Has.calls_len k1 _ _ (l0.take (x3_1 : Int).toNat) (rd l0 x3_1) true _ ?side1 ?side2 A5.out hL_.out).mono ?_); (case side1 => repeat (first | exact HR621.out | (with_reducible refine Kd.C_alloc ?_ _) | (with_reducible refine Kd.C_drewN ?_ _) | (with_reducible refine Kd.C_drew ?_))); (case side2 => exact HC621.out); rintro e w' ⟨rfl, ⟨nd, rfl⟩⟩; (try first | exact ⟨rfl, _, World.drewN_drewN _ _ _⟩ | exact ⟨rfl, _, Eq.trans (World.drewN_drewN _ _ _) (congrArg (World.drewN _) (Nat.add_assoc _ _ _))⟩))))
       go_ret
       exact ⟨by first | rfl | (simp; done) | (simp [*]; done), by repeat (first | exact Drawn0.refl _ | apply Drawn0.step)⟩
      ·replace c6 := Bool.eq_false_iff.mpr c6
       subst c6
       have H1 : (spec_l09Once.l0 k1 l0 (wrap64 (x3_1 + 1))) = some r := by rw [if_neg (show ¬ (false = true) by decide)] at H; exact H
       clear H
       have H := H1
       clear H1
       have H' := Aside0.mk H
       clear H
       obtain ⟨i08, hi08, _, hsz8, _⟩ := info_parts info3
       obtain ⟨hcut8, hA8, hC8⟩ := print_take_of (P := Try.prog) (Value.int .i64) 0 47 3 .i64 Try.underlying47 hi08 hsz8 A0 c0 l0 x3_1 (of_decide_eq_true (by first | (with_reducible assumption) | assumption)) (of_decide_eq_true (by first | (with_reducible assumption) | assumption)) HC0.out
       have HR621 := Aside0.mk (Kd.C_of_reads (h1 := fun _ => rfl) (hA8 _ (Kd.reads_of_C HR0.out)))
       have HC621 := Aside0.mk hC8
       clear hA8 hC8 hi08 hsz8
       have p622 : 0 ≤ (x3_1 : Int) := of_decide_eq_true (by first | (with_reducible assumption) | assumption)
       have q622 : x3_1 < (l0.length : Int) := of_decide_eq_true (by first | (with_reducible assumption) | assumption)
       obtain ⟨ad622, e622, hx622_0⟩ := Kd.at_int HR0.out x3_1 p622 q622
       cases e622
       have hL_ : Aside0 ((x3_1 : Int).toNat = (l0.take (x3_1 : Int).toNat).length) := ⟨by rw [List.length_take]; omega⟩
       replace p622 := eq_true p622
       replace q622 := eq_true q622
       go_wp2_with (first | (go_at_call 79; (with_reducible refine (spec_l09Has.calls_len k1 _ _ (l0.take (x3_1 : Int).toNat) (rd l0 x3_1) false _ ?side1 ?side2 A5.out hL_.out).mono ?_); (case side1 => repeat (first | exact HR621.out | (with_reducible refine Kd.C_alloc ?_ _) | (with_reducible refine Kd.C_drewN ?_ _) | (with_reducible refine Kd.C_drew ?_))); (case side2 => exact HC621.out); rintro e w' ⟨rfl, ⟨nd, rfl⟩⟩; (try first | exact ⟨rfl, _, World.drewN_drewN _ _ _⟩ | exact ⟨rfl, _, Eq.trans (World.drewN_drewN _ _ _) (congrArg (World.drewN _) (Nat.add_assoc _ _ _))⟩)))
       repeat (go_quiet (first | (go_at_call 79; (try simp only [i64_w]); (with_reducible refine (spec_l09Has.calls_len k1 _ _ (l0.take (x3_1 : Int).toNat) (rd l0 x3_1) false _ ?side1 ?side2 A5.out hL_.out).mono ?_); (case side1 => repeat (first | exact HR621.out | (with_reducible refine Kd.C_alloc ?_ _) | (with_reducible refine Kd.C_drewN ?_ _) | (with_reducible refine Kd.C_drew ?_))); (case side2 => exact HC621.out); rintro e w' ⟨rfl, ⟨nd, rfl⟩⟩; (try first | exact ⟨rfl, _, World.drewN_drewN _ _ _⟩ | exact ⟨rfl, _, Eq.trans (World.drewN_drewN _ _ _) (congrArg (World.drewN _) (Nat.add_assoc _ _ _))⟩))); try go_wp2_with (first | (go_at_call 79; (try simp only [i64_w]); (with_reducible refine (spec_l09Has.calls_len k1 _ _ (l0.take (x3_1 : Int).toNat) (rd l0 x3_1) false _ ?side1 ?side2 A5.out hL_.out).mono ?_); (case side1 => repeat (first | exact HR621.out | (with_reducible refine Kd.C_alloc ?_ _) | (with_reducible refine Kd.C_drewN ?_ _) | (with_reducible refine Kd.C_drew ?_))); (case side2 => exact HC621.out); rintro e w' ⟨rfl, ⟨nd, rfl⟩⟩; (try first | exact ⟨rfl, _, World.drewN_drewN _ _ _⟩ | exact ⟨rfl, _, Eq.trans (World.drewN_drewN _ _ _) (congrArg (World.drewN _) (Nat.add_assoc _ _ _))⟩))))
       go_roundg k1
       case measure => have := HK1.out; omega
       case rel => exact ⟨(wrap64 (x3_1 + 1)), (by first | rfl | (simp; done) | (simp [*]; done)), H', ⟨by have := HK1.out; omega⟩, by repeat (first | exact Drawn0.refl _ | apply Drawn0.step)⟩
     ·rw [if_neg c4] at H
      cases H
    ·rw [if_neg c3] at H
     cases H
   ·rw [if_neg c2] at H
    have c2b0 : decide (x3_1 < (l0.length : Int)) = false := decide_eq_false c2
    clear c2
    obtain rfl := Option.some.inj H
    go_wp2
    repeat (go_quiet (fail); try go_wp2)
    go_ret
    exact ⟨by first | rfl | (simp; done) | (simp [*]; done), by repeat (first | exact Drawn0.refl _ | apply Drawn0.step)⟩

end Go.Proofs.Ytiolnbhcmoafjaa.QFnExactTableOK
