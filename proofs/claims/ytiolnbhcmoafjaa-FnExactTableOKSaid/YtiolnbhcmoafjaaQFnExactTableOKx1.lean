/- The functions that the law reaches, each as a plain Lean function with the proof that the Go code comes to its answers: written by a program of this session. No condition. -/
import Derived.Test.YtiolnbhcmoafjaaQFnExactTableOKx0
namespace Go.Proofs.Ytiolnbhcmoafjaa.QFnExactTableOK
open Go.RowKit Go.Proofs.YtiolnbhcmoafjaaW.PrintWords Go.Proofs.YtiolnbhcmoafjaaW.PrintLast Go.Proofs.YtiolnbhcmoafjaaW.PrintMore
attribute [local go_sem] max2_int min2_int max_two min_two max_three min_three max_four min_four str_gtr str_leq str_geq pw_at_slice   -- for this text's walks alone
set_option linter.unusedVariables false
set_option linter.unusedSimpArgs false

theorem q1z0 {P : Prop} (h : P := by repeat (first | (with_reducible first | exact HB.out | apply below_alloc | apply pw_below_drewN | apply below_drew1 | refine below_set ?_ GE608.out) | exact HB.out)) : P := h
theorem q1z1 {P : Prop} (h : P := by first | (with_reducible assumption) | assumption) : P := h
/-! ### laws_szColumn: function 62 -/
def laws_szColumn.f (a0_0 : Int) (a0_1 : ByteArray) (a0_2 : Int) (a0_3 : Bool) (a1 : Int) : Option (Int) := if (wrap64 (a1 - (a0_1.size : Int))) < 0 then (some (-1)) else (some (wrap64 (a1 - (a0_1.size : Int))))
set_option maxHeartbeats 8000000 in
set_option maxRecDepth 100000 in
theorem laws_szColumn.calls (a0_0 : Int) (a0_1 : ByteArray) (a0_2 : Int) (a0_3 : Bool) (a1 : Int) (r : Int) (w : World) (h : laws_szColumn.f a0_0 a0_1 a0_2 a0_3 a1 = some r) :
  Calls Try.prog 62 #[.agg #[.int .i64 a0_0, .string a0_1, .int .i64 a0_2, .bool a0_3], .int .i64 a1] w fun e w' => e = .returned (.int .i64 r) ∧ Below w.heap.size w w' := by
 have hu101 := Try.underlying101; have HB := Aside0.mk (Below.refl w.heap.size w); have H : (if (wrap64 (a1 - (a0_1.size : Int))) < 0 then (some (-1)) else (some (wrap64 (a1 - (a0_1.size : Int))))) = some r := h; clear h
 by_cases c3 : (wrap64 (a1 - (a0_1.size : Int))) < 0
 ·rw [if_pos c3] at H
  have c3b0 : decide ((wrap64 (a1 - (a0_1.size : Int))) < 0) = true := decide_eq_true c3; clear c3; obtain rfl := Option.some.inj H
  go_enter Try.func62, Try.ntmps62
  go_wp2_with (first | ((with_reducible refine gate_dst (N := 2) rfl ?_); refine box_event ?hg (N := 2) ?hd (cs := #[.int .i64 a0_0, .string a0_1, .int .i64 a0_2, .bool a0_3]) (t := 101) ?hr ?_; (case hd => rfl); (case hg => rfl); (case hr => first | (go_simp; done) | (go_simp; rfl)); intro gb601 hg w4 hbox hb; have n0_ := Aside0.mk (below_step zb hb); have n1_ := Aside0.mk (hbox); have n2_ := Aside0.mk ((by rw [hg]; exact (below_size zb) : w.heap.size ≤ gb601)); have n3_ := Aside0.mk ((by rw [hg]; exact (below_size zb) : w.heap.size ≤ gb601)); clear HB; have HB := n0_; have BK601 := n1_; have GW601 := n2_; have GE601 := n3_; clear n0_ n1_ n2_ n3_; clear hb hbox hg; have hcz5_0 : w4.cell? ⟨gb601, 0, none⟩ = some (.int .i64 a0_0) := (blk_cell BK601.out 0).trans rfl; have hcz5_1 : w4.cell? ⟨gb601, 1, none⟩ = some (.string a0_1) := (blk_cell BK601.out 1).trans rfl; have hcz5_2 : w4.cell? ⟨gb601, 2, none⟩ = some (.int .i64 a0_2) := (blk_cell BK601.out 2).trans rfl; have hcz5_3 : w4.cell? ⟨gb601, 3, none⟩ = some (.bool a0_3) := (blk_cell BK601.out 3).trans rfl; have hfz5_0 := blk_frozen BK601.out 0; have hfz5_1 := blk_frozen BK601.out 1; have hfz5_2 := blk_frozen BK601.out 2; have hfz5_3 := blk_frozen BK601.out 3))
  go_ret
  exact ⟨by first | rfl | (simp [errW_none, errW_some] <;> rfl) | (simp [*, errW_none, errW_some] <;> rfl), by repeat (first | (with_reducible first | exact HB.out | apply below_alloc | apply pw_below_drewN | apply below_drew1 | refine below_set ?_ GE601.out) | exact HB.out)⟩
 ·rw [if_neg c3] at H
  have c3b0 : decide ((wrap64 (a1 - (a0_1.size : Int))) < 0) = false := decide_eq_false c3; clear c3; obtain rfl := Option.some.inj H
  go_enter Try.func62, Try.ntmps62
  go_wp2_with (first | ((with_reducible refine gate_dst (N := 2) rfl ?_); refine box_event ?hg (N := 2) ?hd (cs := #[.int .i64 a0_0, .string a0_1, .int .i64 a0_2, .bool a0_3]) (t := 101) ?hr ?_; (case hd => rfl); (case hg => rfl); (case hr => first | (go_simp; done) | (go_simp; rfl)); intro gb601 hg w6 hbox hb; have n0_ := Aside0.mk (below_step zb hb); have n1_ := Aside0.mk (hbox); have n2_ := Aside0.mk ((by rw [hg]; exact (below_size zb) : w.heap.size ≤ gb601)); have n3_ := Aside0.mk ((by rw [hg]; exact (below_size zb) : w.heap.size ≤ gb601)); clear HB; have HB := n0_; have BK601 := n1_; have GW601 := n2_; have GE601 := n3_; clear n0_ n1_ n2_ n3_; clear hb hbox hg; have hcz7_0 : w6.cell? ⟨gb601, 0, none⟩ = some (.int .i64 a0_0) := (blk_cell BK601.out 0).trans rfl; have hcz7_1 : w6.cell? ⟨gb601, 1, none⟩ = some (.string a0_1) := (blk_cell BK601.out 1).trans rfl; have hcz7_2 : w6.cell? ⟨gb601, 2, none⟩ = some (.int .i64 a0_2) := (blk_cell BK601.out 2).trans rfl; have hcz7_3 : w6.cell? ⟨gb601, 3, none⟩ = some (.bool a0_3) := (blk_cell BK601.out 3).trans rfl; have hfz7_0 := blk_frozen BK601.out 0; have hfz7_1 := blk_frozen BK601.out 1; have hfz7_2 := blk_frozen BK601.out 2; have hfz7_3 := blk_frozen BK601.out 3))
  go_ret
  exact ⟨by first | rfl | (simp [errW_none, errW_some] <;> rfl) | (simp [*, errW_none, errW_some] <;> rfl), by repeat (first | (with_reducible first | exact HB.out | apply below_alloc | apply pw_below_drewN | apply below_drew1 | refine below_set ?_ GE601.out) | exact HB.out)⟩

/-! ### laws_szColumnS: function 37 -/
set_option maxRecDepth 100000 in
def laws_szColumnS.l0 : Nat → List (S101) → Int → Int → Option (Int)
 | 0, _, _, _ => none
 | k + 1, x0, x1, x5 => if x5 < (x0.length : Int) then (if 0 ≤ x5 then ((laws_szColumn.f ((rd_T101 x0 x5).f0) ((rd_T101 x0 x5).f1) ((rd_T101 x0 x5).f2) ((rd_T101 x0 x5).f3) x1).bind fun t603 => (if t603 < 0 then (some (-1)) else (laws_szColumnS.l0 k x0 t603 (wrap64 (x5 + 1))))) else (none)) else (some x1)
def laws_szColumnS.f (k : Nat) (l0 : List (S101)) (a1 : Int) : Option (Int) := if (wrap64 (a1 - (l0.length : Int))) < 0 then (some (-1)) else (laws_szColumnS.l0 k l0 (wrap64 (a1 - (l0.length : Int))) 0)
set_option maxHeartbeats 8000000 in
set_option maxRecDepth 100000 in
theorem laws_szColumnS.calls (k : Nat) (A0 : Option Addr) (c0 : Nat) (l0 : List (S101)) (a1 : Int) (r : Int) (w : World) (hr0 : Kd.C k101 w A0 l0.length l0) (hc0 : l0.length ≤ c0) (h : laws_szColumnS.f k l0 a1 = some r) :
  Calls Try.prog 37 #[.slice A0 l0.length c0, .int .i64 a1] w fun e w' => e = .returned (.int .i64 r) ∧ Below w.heap.size w w' := by
 have hu101 := Try.underlying101; have HR0 := Aside0.mk hr0; have HC0 := Aside0.mk hc0; clear hr0 hc0; have HB := Aside0.mk (Below.refl w.heap.size w); have H : (if (wrap64 (a1 - (l0.length : Int))) < 0 then (some (-1)) else (laws_szColumnS.l0 k l0 (wrap64 (a1 - (l0.length : Int))) 0)) = some r := h; clear h
 by_cases c3 : (wrap64 (a1 - (l0.length : Int))) < 0
 ·rw [if_pos c3] at H
  have c3b0 : decide ((wrap64 (a1 - (l0.length : Int))) < 0) = true := decide_eq_true c3; clear c3; obtain rfl := Option.some.inj H
  go_enter Try.func37, Try.ntmps37
  go_wp2
  go_ret
  exact ⟨by first | rfl | (simp [errW_none, errW_some] <;> rfl) | (simp [*, errW_none, errW_some] <;> rfl), zb⟩
 ·rw [if_neg c3] at H
  have c3b0 : decide ((wrap64 (a1 - (l0.length : Int))) < 0) = false := decide_eq_false c3; clear c3; have H' := Aside0.mk H; clear H
  go_enter Try.func37, Try.ntmps37
  go_wp2
  go_loopg [1, 5] k (fun kq v1 v5 w' => ∃ (x1_1 : Int) (x5_1 : Int), v1 = .int .i64 x1_1 ∧ v5 = .int .i64 x5_1 ∧ Aside0 (laws_szColumnS.l0 kq l0 x1_1 x5_1 = some r) ∧ Aside0 (kq ≤ k) ∧ Aside0 (Below w.heap.size w w'))
  case atStart => exact ⟨(wrap64 (a1 - (l0.length : Int))), (0), (by first | rfl | (simp; done) | (simp [*]; done)), (by first | rfl | (simp; done) | (simp [*]; done)), H', ⟨Nat.le_refl _⟩, ⟨zb⟩⟩
  case round =>
   clear H'; (try clear c3); (try clear c3b0); obtain ⟨x1_1, x5_1, rfl, rfl, HA, HK1, HB⟩ := hrel
   cases gk with
   | zero => exact absurd HA.out (by simp [laws_szColumnS.l0])
   | succ k1 =>
    have H := HA.out; clear HA; simp only [laws_szColumnS.l0] at H
    by_cases c4 : x5_1 < (l0.length : Int)
    ·rw [if_pos c4] at H
     have c4b0 : decide (x5_1 < (l0.length : Int)) = true := decide_eq_true c4; clear c4
     by_cases c5 : 0 ≤ x5_1
     ·rw [if_pos c5] at H
      have c5b0 : decide (0 ≤ x5_1) = true := decide_eq_true c5; clear c5; replace H := Option.bind_eq_some_iff.mp H; obtain ⟨t603, A60, H⟩ := H; replace H : (if t603 < 0 then (some (-1)) else (laws_szColumnS.l0 k1 l0 t603 (wrap64 (x5_1 + 1)))) = some r := H; have A6 := Aside0.mk A60; clear A60
      by_cases c7 : t603 < 0
      ·rw [if_pos c7] at H
       have c7b0 : decide (t603 < 0) = true := decide_eq_true c7; clear c7; obtain rfl := Option.some.inj H; have p602 : 0 ≤ (x5_1 : Int) := of_decide_eq_true q1z1; have q602 : x5_1 < (l0.length : Int) := of_decide_eq_true q1z1; obtain ⟨ad602, e602, hx602_0, hx602_1, hx602_2, hx602_3⟩ := at_T101 HR0.out x5_1 p602 q602; cases e602; replace hx602_0 := (HB.out.cell (World.block_lt_of_cell? w _ hx602_0)).trans hx602_0; replace hx602_1 := (HB.out.cell (World.block_lt_of_cell? w _ hx602_1)).trans hx602_1; replace hx602_2 := (HB.out.cell (World.block_lt_of_cell? w _ hx602_2)).trans hx602_2; replace hx602_3 := (HB.out.cell (World.block_lt_of_cell? w _ hx602_3)).trans hx602_3; replace p602 := eq_true p602; replace q602 := eq_true q602
       go_wp2_with (first | ((with_reducible refine gate_callee (f := 62) rfl ?_); refine goesL_ (some 23) rfl rfl Try.func62 (by kernel_rfl) rfl #[.agg #[.int .i64 ((rd_T101 l0 x5_1).f0), .string ((rd_T101 l0 x5_1).f1), .int .i64 ((rd_T101 l0 x5_1).f2), .bool ((rd_T101 l0 x5_1).f3)], .int .i64 x1_1] rfl zm ?_; (with_reducible refine (laws_szColumn.calls ((rd_T101 l0 x5_1).f0) ((rd_T101 l0 x5_1).f1) ((rd_T101 l0 x5_1).f2) ((rd_T101 l0 x5_1).f3) x1_1 t603 _ A6.out).mono ?_); rintro e w8 ⟨rfl, hb⟩; refine ⟨_, rfl, ?_⟩; have n0_ := Aside0.mk (below_step zb hb); clear HB; have HB := n0_; clear n0_; (try clear hb); (try clear hb2); (try clear hk); (try clear hi)))
       go_ret
       exact ⟨by first | rfl | (simp [errW_none, errW_some] <;> rfl) | (simp [*, errW_none, errW_some] <;> rfl), zb⟩
      ·rw [if_neg c7] at H
       have c7b0 : decide (t603 < 0) = false := decide_eq_false c7; clear c7; have H' := Aside0.mk H; clear H; have p602 : 0 ≤ (x5_1 : Int) := of_decide_eq_true q1z1; have q602 : x5_1 < (l0.length : Int) := of_decide_eq_true q1z1; obtain ⟨ad602, e602, hx602_0, hx602_1, hx602_2, hx602_3⟩ := at_T101 HR0.out x5_1 p602 q602; cases e602; replace hx602_0 := (HB.out.cell (World.block_lt_of_cell? w _ hx602_0)).trans hx602_0; replace hx602_1 := (HB.out.cell (World.block_lt_of_cell? w _ hx602_1)).trans hx602_1; replace hx602_2 := (HB.out.cell (World.block_lt_of_cell? w _ hx602_2)).trans hx602_2; replace hx602_3 := (HB.out.cell (World.block_lt_of_cell? w _ hx602_3)).trans hx602_3; replace p602 := eq_true p602; replace q602 := eq_true q602
       go_wp2_with (first | ((with_reducible refine gate_callee (f := 62) rfl ?_); refine goesL_ (some 23) rfl rfl Try.func62 (by kernel_rfl) rfl #[.agg #[.int .i64 ((rd_T101 l0 x5_1).f0), .string ((rd_T101 l0 x5_1).f1), .int .i64 ((rd_T101 l0 x5_1).f2), .bool ((rd_T101 l0 x5_1).f3)], .int .i64 x1_1] rfl zm ?_; (with_reducible refine (laws_szColumn.calls ((rd_T101 l0 x5_1).f0) ((rd_T101 l0 x5_1).f1) ((rd_T101 l0 x5_1).f2) ((rd_T101 l0 x5_1).f3) x1_1 t603 _ A6.out).mono ?_); rintro e w9 ⟨rfl, hb⟩; refine ⟨_, rfl, ?_⟩; have n0_ := Aside0.mk (below_step zb hb); clear HB; have HB := n0_; clear n0_; (try clear hb); (try clear hb2); (try clear hk); (try clear hi)))
       go_roundg k1
       case measure => have := HK1.out; omega
       case rel => exact ⟨(t603), (wrap64 (x5_1 + 1)), (by first | rfl | (simp; done) | (simp [*]; done)), (by first | rfl | (simp; done) | (simp [*]; done)), H', ⟨by have := HK1.out; omega⟩, ⟨zb⟩⟩
     ·rw [if_neg c5] at H
      cases H
    ·rw [if_neg c4] at H
     have c4b0 : decide (x5_1 < (l0.length : Int)) = false := decide_eq_false c4; clear c4; obtain rfl := Option.some.inj H
     go_wp2
     go_ret
     exact ⟨by first | rfl | (simp [errW_none, errW_some] <;> rfl) | (simp [*, errW_none, errW_some] <;> rfl), zb⟩

/-! ### laws_szIntS: function 38 -/
def laws_szIntS.f (l0 : List Int) (a1 : Int) : Option (Int) := if (wrap64 (a1 - (l0.length : Int))) < 0 then (some (-1)) else (some (wrap64 (a1 - (l0.length : Int))))
set_option maxHeartbeats 8000000 in
set_option maxRecDepth 100000 in
theorem laws_szIntS.calls (A0 : Option Addr) (c0 : Nat) (l0 : List Int) (a1 : Int) (r : Int) (w : World) (hr0 : Kd.C (Kd.int .i64) w A0 l0.length l0) (hc0 : l0.length ≤ c0) (h : laws_szIntS.f l0 a1 = some r) :
  Calls Try.prog 38 #[.slice A0 l0.length c0, .int .i64 a1] w fun e w' => e = .returned (.int .i64 r) ∧ Drawn0 w w' := by
 have HR0 := Aside0.mk hr0; have HC0 := Aside0.mk hc0; clear hr0 hc0; have H : (if (wrap64 (a1 - (l0.length : Int))) < 0 then (some (-1)) else (some (wrap64 (a1 - (l0.length : Int))))) = some r := h; clear h
 by_cases c3 : (wrap64 (a1 - (l0.length : Int))) < 0
 ·rw [if_pos c3] at H
  have c3b0 : decide ((wrap64 (a1 - (l0.length : Int))) < 0) = true := decide_eq_true c3; clear c3; obtain rfl := Option.some.inj H
  go_enter Try.func38, Try.ntmps38
  go_wp2
  go_ret
  exact ⟨by first | rfl | (simp; done) | (simp [*]; done), by repeat (first | exact Drawn0.refl _ | apply Drawn0.step)⟩
 ·rw [if_neg c3] at H
  have c3b0 : decide ((wrap64 (a1 - (l0.length : Int))) < 0) = false := decide_eq_false c3; clear c3; obtain rfl := Option.some.inj H
  go_enter Try.func38, Try.ntmps38
  go_wp2
  go_ret
  exact ⟨by first | rfl | (simp; done) | (simp [*]; done), by repeat (first | exact Drawn0.refl _ | apply Drawn0.step)⟩

/-! ### laws_szIndex: function 63 -/
def laws_szIndex.f (a0_0 : Int) (a0_1 : ByteArray) (l0_2 : List Int) (a0_3 : Bool) (a0_4 : Int) (a0_5 : Bool) (a1 : Int) : Option (Int) := if (wrap64 (a1 - (a0_1.size : Int))) < 0 then (some (-1)) else ((laws_szIntS.f l0_2 (wrap64 (a1 - (a0_1.size : Int)))).bind fun t605 => (if t605 < 0 then (some (-1)) else (some t605)))
set_option maxHeartbeats 8000000 in
set_option maxRecDepth 100000 in
theorem laws_szIndex.calls (a0_0 : Int) (a0_1 : ByteArray) (A0_2 : Option Addr) (c0_2 : Nat) (l0_2 : List Int) (a0_3 : Bool) (a0_4 : Int) (a0_5 : Bool) (a1 : Int) (r : Int) (w : World) (hr0_2 : Kd.C (Kd.int .i64) w A0_2 l0_2.length l0_2) (hc0_2 : l0_2.length ≤ c0_2) (h : laws_szIndex.f a0_0 a0_1 l0_2 a0_3 a0_4 a0_5 a1 = some r) :
  Calls Try.prog 63 #[.agg #[.int .i64 a0_0, .string a0_1, .slice A0_2 l0_2.length c0_2, .bool a0_3, .int .i64 a0_4, .bool a0_5], .int .i64 a1] w fun e w' => e = .returned (.int .i64 r) ∧ Below w.heap.size w w' := by
 have hu103 := Try.underlying103; have HR0_2 := Aside0.mk hr0_2; have HC0_2 := Aside0.mk hc0_2; clear hr0_2 hc0_2; have HB := Aside0.mk (Below.refl w.heap.size w); have H : (if (wrap64 (a1 - (a0_1.size : Int))) < 0 then (some (-1)) else ((laws_szIntS.f l0_2 (wrap64 (a1 - (a0_1.size : Int)))).bind fun t605 => (if t605 < 0 then (some (-1)) else (some t605)))) = some r := h; clear h
 by_cases c3 : (wrap64 (a1 - (a0_1.size : Int))) < 0
 ·rw [if_pos c3] at H
  have c3b0 : decide ((wrap64 (a1 - (a0_1.size : Int))) < 0) = true := decide_eq_true c3; clear c3; obtain rfl := Option.some.inj H
  go_enter Try.func63, Try.ntmps63
  go_wp2_with (first | ((with_reducible refine gate_dst (N := 2) rfl ?_); refine box_event ?hg (N := 2) ?hd (cs := #[.int .i64 a0_0, .string a0_1, .slice A0_2 l0_2.length c0_2, .bool a0_3, .int .i64 a0_4, .bool a0_5]) (t := 103) ?hr ?_; (case hd => rfl); (case hg => rfl); (case hr => first | (go_simp; done) | (go_simp; rfl)); intro gb604 hg w4 hbox hb; have n0_ := Aside0.mk (below_step zb hb); have n1_ := Aside0.mk (hbox); have n2_ := Aside0.mk ((by rw [hg]; exact (below_size zb) : w.heap.size ≤ gb604)); have n3_ := Aside0.mk ((by rw [hg]; exact (below_size zb) : w.heap.size ≤ gb604)); clear HB; have HB := n0_; have BK604 := n1_; have GW604 := n2_; have GE604 := n3_; clear n0_ n1_ n2_ n3_; clear hb hbox hg; have hcz5_0 : w4.cell? ⟨gb604, 0, none⟩ = some (.int .i64 a0_0) := (blk_cell BK604.out 0).trans rfl; have hcz5_1 : w4.cell? ⟨gb604, 1, none⟩ = some (.string a0_1) := (blk_cell BK604.out 1).trans rfl; have hcz5_2 : w4.cell? ⟨gb604, 2, none⟩ = some (.slice A0_2 l0_2.length c0_2) := (blk_cell BK604.out 2).trans rfl; have hcz5_3 : w4.cell? ⟨gb604, 3, none⟩ = some (.bool a0_3) := (blk_cell BK604.out 3).trans rfl; have hcz5_4 : w4.cell? ⟨gb604, 4, none⟩ = some (.int .i64 a0_4) := (blk_cell BK604.out 4).trans rfl; have hcz5_5 : w4.cell? ⟨gb604, 5, none⟩ = some (.bool a0_5) := (blk_cell BK604.out 5).trans rfl; have hfz5_0 := blk_frozen BK604.out 0; have hfz5_1 := blk_frozen BK604.out 1; have hfz5_2 := blk_frozen BK604.out 2; have hfz5_3 := blk_frozen BK604.out 3; have hfz5_4 := blk_frozen BK604.out 4; have hfz5_5 := blk_frozen BK604.out 5))
  go_ret
  exact ⟨by first | rfl | (simp [errW_none, errW_some] <;> rfl) | (simp [*, errW_none, errW_some] <;> rfl), by repeat (first | (with_reducible first | exact HB.out | apply below_alloc | apply pw_below_drewN | apply below_drew1 | refine below_set ?_ GE604.out) | exact HB.out)⟩
 ·rw [if_neg c3] at H
  have c3b0 : decide ((wrap64 (a1 - (a0_1.size : Int))) < 0) = false := decide_eq_false c3; clear c3; replace H := Option.bind_eq_some_iff.mp H; obtain ⟨t605, A60, H⟩ := H; replace H : (if t605 < 0 then (some (-1)) else (some t605)) = some r := H; have A6 := Aside0.mk A60; clear A60
  by_cases c7 : t605 < 0
  ·rw [if_pos c7] at H
   have c7b0 : decide (t605 < 0) = true := decide_eq_true c7; clear c7; obtain rfl := Option.some.inj H
   go_enter Try.func63, Try.ntmps63
   go_wp2_with (first | ((with_reducible refine gate_dst (N := 2) rfl ?_); refine box_event ?hg (N := 2) ?hd (cs := #[.int .i64 a0_0, .string a0_1, .slice A0_2 l0_2.length c0_2, .bool a0_3, .int .i64 a0_4, .bool a0_5]) (t := 103) ?hr ?_; (case hd => rfl); (case hg => rfl); (case hr => first | (go_simp; done) | (go_simp; rfl)); intro gb604 hg w8 hbox hb; have n0_ := Aside0.mk (below_step zb hb); have n1_ := Aside0.mk (hbox); have n2_ := Aside0.mk ((by rw [hg]; exact (below_size zb) : w.heap.size ≤ gb604)); have n3_ := Aside0.mk ((by rw [hg]; exact (below_size zb) : w.heap.size ≤ gb604)); clear HB; have HB := n0_; have BK604 := n1_; have GW604 := n2_; have GE604 := n3_; clear n0_ n1_ n2_ n3_; clear hb hbox hg; have hcz9_0 : w8.cell? ⟨gb604, 0, none⟩ = some (.int .i64 a0_0) := (blk_cell BK604.out 0).trans rfl; have hcz9_1 : w8.cell? ⟨gb604, 1, none⟩ = some (.string a0_1) := (blk_cell BK604.out 1).trans rfl; have hcz9_2 : w8.cell? ⟨gb604, 2, none⟩ = some (.slice A0_2 l0_2.length c0_2) := (blk_cell BK604.out 2).trans rfl; have hcz9_3 : w8.cell? ⟨gb604, 3, none⟩ = some (.bool a0_3) := (blk_cell BK604.out 3).trans rfl; have hcz9_4 : w8.cell? ⟨gb604, 4, none⟩ = some (.int .i64 a0_4) := (blk_cell BK604.out 4).trans rfl; have hcz9_5 : w8.cell? ⟨gb604, 5, none⟩ = some (.bool a0_5) := (blk_cell BK604.out 5).trans rfl; have hfz9_0 := blk_frozen BK604.out 0; have hfz9_1 := blk_frozen BK604.out 1; have hfz9_2 := blk_frozen BK604.out 2; have hfz9_3 := blk_frozen BK604.out 3; have hfz9_4 := blk_frozen BK604.out 4; have hfz9_5 := blk_frozen BK604.out 5) | ((with_reducible refine gate_callee (f := 38) rfl ?_); refine goesL_ (some 15) rfl rfl Try.func38 (by kernel_rfl) rfl #[.slice A0_2 l0_2.length c0_2, .int .i64 (wrap64 (a1 - (a0_1.size : Int)))] rfl zm ?_; (with_reducible refine (laws_szIntS.calls _ _ l0_2 (wrap64 (a1 - (a0_1.size : Int))) t605 _ ?side1 ?side2 A6.out).mono ?_); (case side1 => exact (by repeat (first | exact (Kd.C_below HR0_2.out HB.out) | (with_reducible refine Kd.C_alloc ?_ _) | (with_reducible refine Kd.C_drewN ?_ _) | (with_reducible refine Kd.C_drew ?_)))); (case side2 => exact HC0_2.out); rintro e w' ⟨rfl, ⟨nd, rfl⟩⟩; refine ⟨_, rfl, ?_⟩))
   go_ret
   exact ⟨by first | rfl | (simp [errW_none, errW_some] <;> rfl) | (simp [*, errW_none, errW_some] <;> rfl), by repeat (first | (with_reducible first | exact HB.out | apply below_alloc | apply pw_below_drewN | apply below_drew1 | refine below_set ?_ GE604.out) | exact HB.out)⟩
  ·rw [if_neg c7] at H
   have c7b0 : decide (t605 < 0) = false := decide_eq_false c7; clear c7; obtain rfl := Option.some.inj H
   go_enter Try.func63, Try.ntmps63
   go_wp2_with (first | ((with_reducible refine gate_dst (N := 2) rfl ?_); refine box_event ?hg (N := 2) ?hd (cs := #[.int .i64 a0_0, .string a0_1, .slice A0_2 l0_2.length c0_2, .bool a0_3, .int .i64 a0_4, .bool a0_5]) (t := 103) ?hr ?_; (case hd => rfl); (case hg => rfl); (case hr => first | (go_simp; done) | (go_simp; rfl)); intro gb604 hg w10 hbox hb; have n0_ := Aside0.mk (below_step zb hb); have n1_ := Aside0.mk (hbox); have n2_ := Aside0.mk ((by rw [hg]; exact (below_size zb) : w.heap.size ≤ gb604)); have n3_ := Aside0.mk ((by rw [hg]; exact (below_size zb) : w.heap.size ≤ gb604)); clear HB; have HB := n0_; have BK604 := n1_; have GW604 := n2_; have GE604 := n3_; clear n0_ n1_ n2_ n3_; clear hb hbox hg; have hcz11_0 : w10.cell? ⟨gb604, 0, none⟩ = some (.int .i64 a0_0) := (blk_cell BK604.out 0).trans rfl; have hcz11_1 : w10.cell? ⟨gb604, 1, none⟩ = some (.string a0_1) := (blk_cell BK604.out 1).trans rfl; have hcz11_2 : w10.cell? ⟨gb604, 2, none⟩ = some (.slice A0_2 l0_2.length c0_2) := (blk_cell BK604.out 2).trans rfl; have hcz11_3 : w10.cell? ⟨gb604, 3, none⟩ = some (.bool a0_3) := (blk_cell BK604.out 3).trans rfl; have hcz11_4 : w10.cell? ⟨gb604, 4, none⟩ = some (.int .i64 a0_4) := (blk_cell BK604.out 4).trans rfl; have hcz11_5 : w10.cell? ⟨gb604, 5, none⟩ = some (.bool a0_5) := (blk_cell BK604.out 5).trans rfl; have hfz11_0 := blk_frozen BK604.out 0; have hfz11_1 := blk_frozen BK604.out 1; have hfz11_2 := blk_frozen BK604.out 2; have hfz11_3 := blk_frozen BK604.out 3; have hfz11_4 := blk_frozen BK604.out 4; have hfz11_5 := blk_frozen BK604.out 5) | ((with_reducible refine gate_callee (f := 38) rfl ?_); refine goesL_ (some 15) rfl rfl Try.func38 (by kernel_rfl) rfl #[.slice A0_2 l0_2.length c0_2, .int .i64 (wrap64 (a1 - (a0_1.size : Int)))] rfl zm ?_; (with_reducible refine (laws_szIntS.calls _ _ l0_2 (wrap64 (a1 - (a0_1.size : Int))) t605 _ ?side1 ?side2 A6.out).mono ?_); (case side1 => exact (by repeat (first | exact (Kd.C_below HR0_2.out HB.out) | (with_reducible refine Kd.C_alloc ?_ _) | (with_reducible refine Kd.C_drewN ?_ _) | (with_reducible refine Kd.C_drew ?_)))); (case side2 => exact HC0_2.out); rintro e w' ⟨rfl, ⟨nd, rfl⟩⟩; refine ⟨_, rfl, ?_⟩))
   go_ret
   exact ⟨by first | rfl | (simp [errW_none, errW_some] <;> rfl) | (simp [*, errW_none, errW_some] <;> rfl), by repeat (first | (with_reducible first | exact HB.out | apply below_alloc | apply pw_below_drewN | apply below_drew1 | refine below_set ?_ GE604.out) | exact HB.out)⟩

/-! ### laws_szIndexS: function 39 -/
set_option maxRecDepth 100000 in
def laws_szIndexS.l0 : Nat → List (S103) → Int → Int → Option (Int)
 | 0, _, _, _ => none
 | k + 1, x0, x1, x5 => if x5 < (x0.length : Int) then (if 0 ≤ x5 then ((laws_szIndex.f ((rd_T103 x0 x5).f0) ((rd_T103 x0 x5).f1) ((rd_T103 x0 x5).f2) ((rd_T103 x0 x5).f3) ((rd_T103 x0 x5).f4) ((rd_T103 x0 x5).f5) x1).bind fun t607 => (if t607 < 0 then (some (-1)) else (laws_szIndexS.l0 k x0 t607 (wrap64 (x5 + 1))))) else (none)) else (some x1)
def laws_szIndexS.f (k : Nat) (l0 : List (S103)) (a1 : Int) : Option (Int) := if (wrap64 (a1 - (l0.length : Int))) < 0 then (some (-1)) else (laws_szIndexS.l0 k l0 (wrap64 (a1 - (l0.length : Int))) 0)
set_option maxHeartbeats 8000000 in
set_option maxRecDepth 100000 in
theorem laws_szIndexS.calls (k : Nat) (A0 : Option Addr) (c0 : Nat) (l0 : List (S103)) (a1 : Int) (r : Int) (w : World) (hr0 : Kd.C k103 w A0 l0.length l0) (hc0 : l0.length ≤ c0) (h : laws_szIndexS.f k l0 a1 = some r) :
  Calls Try.prog 39 #[.slice A0 l0.length c0, .int .i64 a1] w fun e w' => e = .returned (.int .i64 r) ∧ Below w.heap.size w w' := by
 have hu103 := Try.underlying103; have HR0 := Aside0.mk hr0; have HC0 := Aside0.mk hc0; clear hr0 hc0; have HB := Aside0.mk (Below.refl w.heap.size w); have H : (if (wrap64 (a1 - (l0.length : Int))) < 0 then (some (-1)) else (laws_szIndexS.l0 k l0 (wrap64 (a1 - (l0.length : Int))) 0)) = some r := h; clear h
 by_cases c3 : (wrap64 (a1 - (l0.length : Int))) < 0
 ·rw [if_pos c3] at H
  have c3b0 : decide ((wrap64 (a1 - (l0.length : Int))) < 0) = true := decide_eq_true c3; clear c3; obtain rfl := Option.some.inj H
  go_enter Try.func39, Try.ntmps39
  go_wp2
  go_ret
  exact ⟨by first | rfl | (simp [errW_none, errW_some] <;> rfl) | (simp [*, errW_none, errW_some] <;> rfl), zb⟩
 ·rw [if_neg c3] at H
  have c3b0 : decide ((wrap64 (a1 - (l0.length : Int))) < 0) = false := decide_eq_false c3; clear c3; have H' := Aside0.mk H; clear H
  go_enter Try.func39, Try.ntmps39
  go_wp2
  go_loopg [1, 5] k (fun kq v1 v5 w' => ∃ (x1_1 : Int) (x5_1 : Int), v1 = .int .i64 x1_1 ∧ v5 = .int .i64 x5_1 ∧ Aside0 (laws_szIndexS.l0 kq l0 x1_1 x5_1 = some r) ∧ Aside0 (kq ≤ k) ∧ Aside0 (Below w.heap.size w w'))
  case atStart => exact ⟨(wrap64 (a1 - (l0.length : Int))), (0), (by first | rfl | (simp; done) | (simp [*]; done)), (by first | rfl | (simp; done) | (simp [*]; done)), H', ⟨Nat.le_refl _⟩, ⟨zb⟩⟩
  case round =>
   clear H'; (try clear c3); (try clear c3b0); obtain ⟨x1_1, x5_1, rfl, rfl, HA, HK1, HB⟩ := hrel
   cases gk with
   | zero => exact absurd HA.out (by simp [laws_szIndexS.l0])
   | succ k1 =>
    have H := HA.out; clear HA; simp only [laws_szIndexS.l0] at H
    by_cases c4 : x5_1 < (l0.length : Int)
    ·rw [if_pos c4] at H
     have c4b0 : decide (x5_1 < (l0.length : Int)) = true := decide_eq_true c4; clear c4
     by_cases c5 : 0 ≤ x5_1
     ·rw [if_pos c5] at H
      have c5b0 : decide (0 ≤ x5_1) = true := decide_eq_true c5; clear c5; replace H := Option.bind_eq_some_iff.mp H; obtain ⟨t607, A60, H⟩ := H; replace H : (if t607 < 0 then (some (-1)) else (laws_szIndexS.l0 k1 l0 t607 (wrap64 (x5_1 + 1)))) = some r := H; have A6 := Aside0.mk A60; clear A60
      by_cases c7 : t607 < 0
      ·rw [if_pos c7] at H
       have c7b0 : decide (t607 < 0) = true := decide_eq_true c7; clear c7; obtain rfl := Option.some.inj H; have p606 : 0 ≤ (x5_1 : Int) := of_decide_eq_true q1z1; have q606 : x5_1 < (l0.length : Int) := of_decide_eq_true q1z1; obtain ⟨ad606, A606_2, c606_2, e606, hx606_0, hx606_1, hx606_2, hx606_3, hx606_4, hx606_5, hl606_2, hi606_2⟩ := at_T103 HR0.out x5_1 p606 q606; cases e606; replace hx606_0 := (HB.out.cell (World.block_lt_of_cell? w _ hx606_0)).trans hx606_0; replace hx606_1 := (HB.out.cell (World.block_lt_of_cell? w _ hx606_1)).trans hx606_1; replace hx606_2 := (HB.out.cell (World.block_lt_of_cell? w _ hx606_2)).trans hx606_2; replace hx606_3 := (HB.out.cell (World.block_lt_of_cell? w _ hx606_3)).trans hx606_3; replace hx606_4 := (HB.out.cell (World.block_lt_of_cell? w _ hx606_4)).trans hx606_4; replace hx606_5 := (HB.out.cell (World.block_lt_of_cell? w _ hx606_5)).trans hx606_5; have HR606_2 := Aside0.mk hi606_2; have HC606_2 := Aside0.mk hl606_2; clear hi606_2 hl606_2; replace p606 := eq_true p606; replace q606 := eq_true q606
       go_wp2_with (first | ((with_reducible refine gate_callee (f := 63) rfl ?_); refine goesL_ (some 23) rfl rfl Try.func63 (by kernel_rfl) rfl #[.agg #[.int .i64 ((rd_T103 l0 x5_1).f0), .string ((rd_T103 l0 x5_1).f1), .slice A606_2 ((rd_T103 l0 x5_1).f2).length c606_2, .bool ((rd_T103 l0 x5_1).f3), .int .i64 ((rd_T103 l0 x5_1).f4), .bool ((rd_T103 l0 x5_1).f5)], .int .i64 x1_1] rfl zm ?_; (with_reducible refine (laws_szIndex.calls ((rd_T103 l0 x5_1).f0) ((rd_T103 l0 x5_1).f1) _ _ ((rd_T103 l0 x5_1).f2) ((rd_T103 l0 x5_1).f3) ((rd_T103 l0 x5_1).f4) ((rd_T103 l0 x5_1).f5) x1_1 t607 _ ?side1 ?side2 A6.out).mono ?_); (case side1 => exact (by repeat (first | exact (Kd.C_below HR606_2.out HB.out) | (with_reducible refine Kd.C_alloc ?_ _) | (with_reducible refine Kd.C_drewN ?_ _) | (with_reducible refine Kd.C_drew ?_)))); (case side2 => exact HC606_2.out); rintro e w8 ⟨rfl, hb⟩; refine ⟨_, rfl, ?_⟩; have n0_ := Aside0.mk (below_step zb hb); clear HB; have HB := n0_; clear n0_; (try clear hb); (try clear hb2); (try clear hk); (try clear hi)))
       go_ret
       exact ⟨by first | rfl | (simp [errW_none, errW_some] <;> rfl) | (simp [*, errW_none, errW_some] <;> rfl), zb⟩
      ·rw [if_neg c7] at H
       have c7b0 : decide (t607 < 0) = false := decide_eq_false c7; clear c7; have H' := Aside0.mk H; clear H; have p606 : 0 ≤ (x5_1 : Int) := of_decide_eq_true q1z1; have q606 : x5_1 < (l0.length : Int) := of_decide_eq_true q1z1; obtain ⟨ad606, A606_2, c606_2, e606, hx606_0, hx606_1, hx606_2, hx606_3, hx606_4, hx606_5, hl606_2, hi606_2⟩ := at_T103 HR0.out x5_1 p606 q606; cases e606; replace hx606_0 := (HB.out.cell (World.block_lt_of_cell? w _ hx606_0)).trans hx606_0; replace hx606_1 := (HB.out.cell (World.block_lt_of_cell? w _ hx606_1)).trans hx606_1; replace hx606_2 := (HB.out.cell (World.block_lt_of_cell? w _ hx606_2)).trans hx606_2; replace hx606_3 := (HB.out.cell (World.block_lt_of_cell? w _ hx606_3)).trans hx606_3; replace hx606_4 := (HB.out.cell (World.block_lt_of_cell? w _ hx606_4)).trans hx606_4; replace hx606_5 := (HB.out.cell (World.block_lt_of_cell? w _ hx606_5)).trans hx606_5; have HR606_2 := Aside0.mk hi606_2; have HC606_2 := Aside0.mk hl606_2; clear hi606_2 hl606_2; replace p606 := eq_true p606; replace q606 := eq_true q606
       go_wp2_with (first | ((with_reducible refine gate_callee (f := 63) rfl ?_); refine goesL_ (some 23) rfl rfl Try.func63 (by kernel_rfl) rfl #[.agg #[.int .i64 ((rd_T103 l0 x5_1).f0), .string ((rd_T103 l0 x5_1).f1), .slice A606_2 ((rd_T103 l0 x5_1).f2).length c606_2, .bool ((rd_T103 l0 x5_1).f3), .int .i64 ((rd_T103 l0 x5_1).f4), .bool ((rd_T103 l0 x5_1).f5)], .int .i64 x1_1] rfl zm ?_; (with_reducible refine (laws_szIndex.calls ((rd_T103 l0 x5_1).f0) ((rd_T103 l0 x5_1).f1) _ _ ((rd_T103 l0 x5_1).f2) ((rd_T103 l0 x5_1).f3) ((rd_T103 l0 x5_1).f4) ((rd_T103 l0 x5_1).f5) x1_1 t607 _ ?side1 ?side2 A6.out).mono ?_); (case side1 => exact (by repeat (first | exact (Kd.C_below HR606_2.out HB.out) | (with_reducible refine Kd.C_alloc ?_ _) | (with_reducible refine Kd.C_drewN ?_ _) | (with_reducible refine Kd.C_drew ?_)))); (case side2 => exact HC606_2.out); rintro e w9 ⟨rfl, hb⟩; refine ⟨_, rfl, ?_⟩; have n0_ := Aside0.mk (below_step zb hb); clear HB; have HB := n0_; clear n0_; (try clear hb); (try clear hb2); (try clear hk); (try clear hi)))
       go_roundg k1
       case measure => have := HK1.out; omega
       case rel => exact ⟨(t607), (wrap64 (x5_1 + 1)), (by first | rfl | (simp; done) | (simp [*]; done)), (by first | rfl | (simp; done) | (simp [*]; done)), H', ⟨by have := HK1.out; omega⟩, ⟨zb⟩⟩
     ·rw [if_neg c5] at H
      cases H
    ·rw [if_neg c4] at H
     have c4b0 : decide (x5_1 < (l0.length : Int)) = false := decide_eq_false c4; clear c4; obtain rfl := Option.some.inj H
     go_wp2
     go_ret
     exact ⟨by first | rfl | (simp [errW_none, errW_some] <;> rfl) | (simp [*, errW_none, errW_some] <;> rfl), zb⟩

/-! ### laws_szTable: function 18 -/
def laws_szTable.f (k : Nat) (a0_0 : Int) (a0_1 : ByteArray) (a0_2 : Int) (l0_3 : List (S101)) (l0_4 : List Int) (l0_5 : List (S103)) (a1 : Int) : Option (Int) := if (wrap64 (a1 - (a0_1.size : Int))) < 0 then (some (-1)) else ((laws_szColumnS.f k l0_3 (wrap64 (a1 - (a0_1.size : Int)))).bind fun t609 => (if t609 < 0 then (some (-1)) else ((laws_szIntS.f l0_4 t609).bind fun t610 => (if t610 < 0 then (some (-1)) else ((laws_szIndexS.f k l0_5 t610).bind fun t611 => (if t611 < 0 then (some (-1)) else (some t611)))))))
set_option maxHeartbeats 8000000 in
set_option maxRecDepth 100000 in
theorem laws_szTable.calls (k : Nat) (a0_0 : Int) (a0_1 : ByteArray) (a0_2 : Int) (A0_3 : Option Addr) (c0_3 : Nat) (l0_3 : List (S101)) (A0_4 : Option Addr) (c0_4 : Nat) (l0_4 : List Int) (A0_5 : Option Addr) (c0_5 : Nat) (l0_5 : List (S103)) (a1 : Int) (r : Int) (w : World) (hr0_3 : Kd.C k101 w A0_3 l0_3.length l0_3) (hc0_3 : l0_3.length ≤ c0_3) (hr0_4 : Kd.C (Kd.int .i64) w A0_4 l0_4.length l0_4) (hc0_4 : l0_4.length ≤ c0_4) (hr0_5 : Kd.C k103 w A0_5 l0_5.length l0_5) (hc0_5 : l0_5.length ≤ c0_5) (h : laws_szTable.f k a0_0 a0_1 a0_2 l0_3 l0_4 l0_5 a1 = some r) :
  Calls Try.prog 18 #[.agg #[.int .i64 a0_0, .string a0_1, .int .i64 a0_2, .slice A0_3 l0_3.length c0_3, .slice A0_4 l0_4.length c0_4, .slice A0_5 l0_5.length c0_5], .int .i64 a1] w fun e w' => e = .returned (.int .i64 r) ∧ Below w.heap.size w w' := by
 have hu50 := Try.underlying50; have HR0_3 := Aside0.mk hr0_3; have HC0_3 := Aside0.mk hc0_3; clear hr0_3 hc0_3; have HR0_4 := Aside0.mk hr0_4; have HC0_4 := Aside0.mk hc0_4; clear hr0_4 hc0_4; have HR0_5 := Aside0.mk hr0_5; have HC0_5 := Aside0.mk hc0_5; clear hr0_5 hc0_5; have HB := Aside0.mk (Below.refl w.heap.size w); have H : (if (wrap64 (a1 - (a0_1.size : Int))) < 0 then (some (-1)) else ((laws_szColumnS.f k l0_3 (wrap64 (a1 - (a0_1.size : Int)))).bind fun t609 => (if t609 < 0 then (some (-1)) else ((laws_szIntS.f l0_4 t609).bind fun t610 => (if t610 < 0 then (some (-1)) else ((laws_szIndexS.f k l0_5 t610).bind fun t611 => (if t611 < 0 then (some (-1)) else (some t611)))))))) = some r := h; clear h
 by_cases c3 : (wrap64 (a1 - (a0_1.size : Int))) < 0
 ·rw [if_pos c3] at H
  have c3b0 : decide ((wrap64 (a1 - (a0_1.size : Int))) < 0) = true := decide_eq_true c3; clear c3; obtain rfl := Option.some.inj H
  go_enter Try.func18, Try.ntmps18
  go_wp2_with (first | ((with_reducible refine gate_dst (N := 2) rfl ?_); refine box_event ?hg (N := 2) ?hd (cs := #[.int .i64 a0_0, .string a0_1, .int .i64 a0_2, .slice A0_3 l0_3.length c0_3, .slice A0_4 l0_4.length c0_4, .slice A0_5 l0_5.length c0_5]) (t := 50) ?hr ?_; (case hd => rfl); (case hg => rfl); (case hr => first | (go_simp; done) | (go_simp; rfl)); intro gb608 hg w4 hbox hb; have n0_ := Aside0.mk (below_step zb hb); have n1_ := Aside0.mk (hbox); have n2_ := Aside0.mk ((by rw [hg]; exact (below_size zb) : w.heap.size ≤ gb608)); have n3_ := Aside0.mk ((by rw [hg]; exact (below_size zb) : w.heap.size ≤ gb608)); clear HB; have HB := n0_; have BK608 := n1_; have GW608 := n2_; have GE608 := n3_; clear n0_ n1_ n2_ n3_; clear hb hbox hg; have hcz5_0 : w4.cell? ⟨gb608, 0, none⟩ = some (.int .i64 a0_0) := (blk_cell BK608.out 0).trans rfl; have hcz5_1 : w4.cell? ⟨gb608, 1, none⟩ = some (.string a0_1) := (blk_cell BK608.out 1).trans rfl; have hcz5_2 : w4.cell? ⟨gb608, 2, none⟩ = some (.int .i64 a0_2) := (blk_cell BK608.out 2).trans rfl; have hcz5_3 : w4.cell? ⟨gb608, 3, none⟩ = some (.slice A0_3 l0_3.length c0_3) := (blk_cell BK608.out 3).trans rfl; have hcz5_4 : w4.cell? ⟨gb608, 4, none⟩ = some (.slice A0_4 l0_4.length c0_4) := (blk_cell BK608.out 4).trans rfl; have hcz5_5 : w4.cell? ⟨gb608, 5, none⟩ = some (.slice A0_5 l0_5.length c0_5) := (blk_cell BK608.out 5).trans rfl; have hfz5_0 := blk_frozen BK608.out 0; have hfz5_1 := blk_frozen BK608.out 1; have hfz5_2 := blk_frozen BK608.out 2; have hfz5_3 := blk_frozen BK608.out 3; have hfz5_4 := blk_frozen BK608.out 4; have hfz5_5 := blk_frozen BK608.out 5))
  go_ret
  exact ⟨by first | rfl | (simp [errW_none, errW_some] <;> rfl) | (simp [*, errW_none, errW_some] <;> rfl), by repeat (first | (with_reducible first | exact HB.out | apply below_alloc | apply pw_below_drewN | apply below_drew1 | refine below_set ?_ GE608.out) | exact HB.out)⟩
 ·rw [if_neg c3] at H
  have c3b0 : decide ((wrap64 (a1 - (a0_1.size : Int))) < 0) = false := decide_eq_false c3; clear c3; replace H := Option.bind_eq_some_iff.mp H; obtain ⟨t609, A60, H⟩ := H; replace H : (if t609 < 0 then (some (-1)) else ((laws_szIntS.f l0_4 t609).bind fun t610 => (if t610 < 0 then (some (-1)) else ((laws_szIndexS.f k l0_5 t610).bind fun t611 => (if t611 < 0 then (some (-1)) else (some t611)))))) = some r := H; have A6 := Aside0.mk A60; clear A60
  by_cases c7 : t609 < 0
  ·rw [if_pos c7] at H
   have c7b0 : decide (t609 < 0) = true := decide_eq_true c7; clear c7; obtain rfl := Option.some.inj H
   go_enter Try.func18, Try.ntmps18
   go_wp2_with (first | ((with_reducible refine gate_dst (N := 2) rfl ?_); refine box_event ?hg (N := 2) ?hd (cs := #[.int .i64 a0_0, .string a0_1, .int .i64 a0_2, .slice A0_3 l0_3.length c0_3, .slice A0_4 l0_4.length c0_4, .slice A0_5 l0_5.length c0_5]) (t := 50) ?hr ?_; (case hd => rfl); (case hg => rfl); (case hr => first | (go_simp; done) | (go_simp; rfl)); intro gb608 hg w8 hbox hb; have n0_ := Aside0.mk (below_step zb hb); have n1_ := Aside0.mk (hbox); have n2_ := Aside0.mk ((by rw [hg]; exact (below_size zb) : w.heap.size ≤ gb608)); have n3_ := Aside0.mk ((by rw [hg]; exact (below_size zb) : w.heap.size ≤ gb608)); clear HB; have HB := n0_; have BK608 := n1_; have GW608 := n2_; have GE608 := n3_; clear n0_ n1_ n2_ n3_; clear hb hbox hg; have hcz9_0 : w8.cell? ⟨gb608, 0, none⟩ = some (.int .i64 a0_0) := (blk_cell BK608.out 0).trans rfl; have hcz9_1 : w8.cell? ⟨gb608, 1, none⟩ = some (.string a0_1) := (blk_cell BK608.out 1).trans rfl; have hcz9_2 : w8.cell? ⟨gb608, 2, none⟩ = some (.int .i64 a0_2) := (blk_cell BK608.out 2).trans rfl; have hcz9_3 : w8.cell? ⟨gb608, 3, none⟩ = some (.slice A0_3 l0_3.length c0_3) := (blk_cell BK608.out 3).trans rfl; have hcz9_4 : w8.cell? ⟨gb608, 4, none⟩ = some (.slice A0_4 l0_4.length c0_4) := (blk_cell BK608.out 4).trans rfl; have hcz9_5 : w8.cell? ⟨gb608, 5, none⟩ = some (.slice A0_5 l0_5.length c0_5) := (blk_cell BK608.out 5).trans rfl; have hfz9_0 := blk_frozen BK608.out 0; have hfz9_1 := blk_frozen BK608.out 1; have hfz9_2 := blk_frozen BK608.out 2; have hfz9_3 := blk_frozen BK608.out 3; have hfz9_4 := blk_frozen BK608.out 4; have hfz9_5 := blk_frozen BK608.out 5) | ((with_reducible refine gate_callee (f := 37) rfl ?_); refine goesL_ (some 15) rfl rfl Try.func37 (by kernel_rfl) rfl #[.slice A0_3 l0_3.length c0_3, .int .i64 (wrap64 (a1 - (a0_1.size : Int)))] rfl zm ?_; (with_reducible refine (laws_szColumnS.calls k _ _ l0_3 (wrap64 (a1 - (a0_1.size : Int))) t609 _ ?side1 ?side2 A6.out).mono ?_); (case side1 => exact (by repeat (first | exact (Kd.C_below HR0_3.out HB.out) | (with_reducible refine Kd.C_alloc ?_ _) | (with_reducible refine Kd.C_drewN ?_ _) | (with_reducible refine Kd.C_drew ?_)))); (case side2 => exact HC0_3.out); rintro e w10 ⟨rfl, hb⟩; refine ⟨_, rfl, ?_⟩; have n0_ := Aside0.mk (blk_below (zk BK608.out) hb); have n1_ := Aside0.mk (below_step q1z0 hb); clear BK608; clear HB; have BK608 := n0_; have HB := n1_; clear n0_ n1_; (try clear hb); (try clear hb2); (try clear hk); (try clear hi)))
   go_ret
   exact ⟨by first | rfl | (simp [errW_none, errW_some] <;> rfl) | (simp [*, errW_none, errW_some] <;> rfl), by repeat (first | (with_reducible first | exact HB.out | apply below_alloc | apply pw_below_drewN | apply below_drew1 | refine below_set ?_ GE608.out) | exact HB.out)⟩
  ·rw [if_neg c7] at H
   have c7b0 : decide (t609 < 0) = false := decide_eq_false c7; clear c7; replace H := Option.bind_eq_some_iff.mp H; obtain ⟨t610, A110, H⟩ := H; replace H : (if t610 < 0 then (some (-1)) else ((laws_szIndexS.f k l0_5 t610).bind fun t611 => (if t611 < 0 then (some (-1)) else (some t611)))) = some r := H; have A11 := Aside0.mk A110; clear A110
   by_cases c12 : t610 < 0
   ·rw [if_pos c12] at H
    have c12b0 : decide (t610 < 0) = true := decide_eq_true c12; clear c12; obtain rfl := Option.some.inj H
    go_enter Try.func18, Try.ntmps18
    go_wp2_with (first | ((with_reducible refine gate_dst (N := 2) rfl ?_); refine box_event ?hg (N := 2) ?hd (cs := #[.int .i64 a0_0, .string a0_1, .int .i64 a0_2, .slice A0_3 l0_3.length c0_3, .slice A0_4 l0_4.length c0_4, .slice A0_5 l0_5.length c0_5]) (t := 50) ?hr ?_; (case hd => rfl); (case hg => rfl); (case hr => first | (go_simp; done) | (go_simp; rfl)); intro gb608 hg w13 hbox hb; have n0_ := Aside0.mk (below_step zb hb); have n1_ := Aside0.mk (hbox); have n2_ := Aside0.mk ((by rw [hg]; exact (below_size zb) : w.heap.size ≤ gb608)); have n3_ := Aside0.mk ((by rw [hg]; exact (below_size zb) : w.heap.size ≤ gb608)); clear HB; have HB := n0_; have BK608 := n1_; have GW608 := n2_; have GE608 := n3_; clear n0_ n1_ n2_ n3_; clear hb hbox hg; have hcz14_0 : w13.cell? ⟨gb608, 0, none⟩ = some (.int .i64 a0_0) := (blk_cell BK608.out 0).trans rfl; have hcz14_1 : w13.cell? ⟨gb608, 1, none⟩ = some (.string a0_1) := (blk_cell BK608.out 1).trans rfl; have hcz14_2 : w13.cell? ⟨gb608, 2, none⟩ = some (.int .i64 a0_2) := (blk_cell BK608.out 2).trans rfl; have hcz14_3 : w13.cell? ⟨gb608, 3, none⟩ = some (.slice A0_3 l0_3.length c0_3) := (blk_cell BK608.out 3).trans rfl; have hcz14_4 : w13.cell? ⟨gb608, 4, none⟩ = some (.slice A0_4 l0_4.length c0_4) := (blk_cell BK608.out 4).trans rfl; have hcz14_5 : w13.cell? ⟨gb608, 5, none⟩ = some (.slice A0_5 l0_5.length c0_5) := (blk_cell BK608.out 5).trans rfl; have hfz14_0 := blk_frozen BK608.out 0; have hfz14_1 := blk_frozen BK608.out 1; have hfz14_2 := blk_frozen BK608.out 2; have hfz14_3 := blk_frozen BK608.out 3; have hfz14_4 := blk_frozen BK608.out 4; have hfz14_5 := blk_frozen BK608.out 5) | ((with_reducible refine gate_callee (f := 37) rfl ?_); refine goesL_ (some 15) rfl rfl Try.func37 (by kernel_rfl) rfl #[.slice A0_3 l0_3.length c0_3, .int .i64 (wrap64 (a1 - (a0_1.size : Int)))] rfl zm ?_; (with_reducible refine (laws_szColumnS.calls k _ _ l0_3 (wrap64 (a1 - (a0_1.size : Int))) t609 _ ?side1 ?side2 A6.out).mono ?_); (case side1 => exact (by repeat (first | exact (Kd.C_below HR0_3.out HB.out) | (with_reducible refine Kd.C_alloc ?_ _) | (with_reducible refine Kd.C_drewN ?_ _) | (with_reducible refine Kd.C_drew ?_)))); (case side2 => exact HC0_3.out); rintro e w15 ⟨rfl, hb⟩; refine ⟨_, rfl, ?_⟩; have n0_ := Aside0.mk (blk_below (zk BK608.out) hb); have n1_ := Aside0.mk (below_step q1z0 hb); clear BK608; clear HB; have BK608 := n0_; have HB := n1_; clear n0_ n1_; (try clear hb); (try clear hb2); (try clear hk); (try clear hi); have hcz16_0 : w15.cell? ⟨gb608, 0, none⟩ = some (.int .i64 a0_0) := (blk_cell BK608.out 0).trans rfl; have hcz16_1 : w15.cell? ⟨gb608, 1, none⟩ = some (.string a0_1) := (blk_cell BK608.out 1).trans rfl; have hcz16_2 : w15.cell? ⟨gb608, 2, none⟩ = some (.int .i64 a0_2) := (blk_cell BK608.out 2).trans rfl; have hcz16_3 : w15.cell? ⟨gb608, 3, none⟩ = some (.slice A0_3 l0_3.length c0_3) := (blk_cell BK608.out 3).trans rfl; have hcz16_4 : w15.cell? ⟨gb608, 4, none⟩ = some (.slice A0_4 l0_4.length c0_4) := (blk_cell BK608.out 4).trans rfl; have hcz16_5 : w15.cell? ⟨gb608, 5, none⟩ = some (.slice A0_5 l0_5.length c0_5) := (blk_cell BK608.out 5).trans rfl; have hfz16_0 := blk_frozen BK608.out 0; have hfz16_1 := blk_frozen BK608.out 1; have hfz16_2 := blk_frozen BK608.out 2; have hfz16_3 := blk_frozen BK608.out 3; have hfz16_4 := blk_frozen BK608.out 4; have hfz16_5 := blk_frozen BK608.out 5) | ((with_reducible refine gate_callee (f := 38) rfl ?_); refine goesL_ (some 21) rfl rfl Try.func38 (by kernel_rfl) rfl #[.slice A0_4 l0_4.length c0_4, .int .i64 t609] rfl zm ?_; (with_reducible refine (laws_szIntS.calls _ _ l0_4 t609 t610 _ ?side1 ?side2 A11.out).mono ?_); (case side1 => exact (by repeat (first | exact (Kd.C_below HR0_4.out HB.out) | (with_reducible refine Kd.C_alloc ?_ _) | (with_reducible refine Kd.C_drewN ?_ _) | (with_reducible refine Kd.C_drew ?_)))); (case side2 => exact HC0_4.out); rintro e w' ⟨rfl, ⟨nd, rfl⟩⟩; refine ⟨_, rfl, ?_⟩))
    go_ret
    exact ⟨by first | rfl | (simp [errW_none, errW_some] <;> rfl) | (simp [*, errW_none, errW_some] <;> rfl), by repeat (first | (with_reducible first | exact HB.out | apply below_alloc | apply pw_below_drewN | apply below_drew1 | refine below_set ?_ GE608.out) | exact HB.out)⟩
   ·rw [if_neg c12] at H
    have c12b0 : decide (t610 < 0) = false := decide_eq_false c12; clear c12; replace H := Option.bind_eq_some_iff.mp H; obtain ⟨t611, A170, H⟩ := H; replace H : (if t611 < 0 then (some (-1)) else (some t611)) = some r := H; have A17 := Aside0.mk A170; clear A170
    by_cases c18 : t611 < 0
    ·rw [if_pos c18] at H
     have c18b0 : decide (t611 < 0) = true := decide_eq_true c18; clear c18; obtain rfl := Option.some.inj H
     go_enter Try.func18, Try.ntmps18
     go_wp2_with (first | ((with_reducible refine gate_dst (N := 2) rfl ?_); refine box_event ?hg (N := 2) ?hd (cs := #[.int .i64 a0_0, .string a0_1, .int .i64 a0_2, .slice A0_3 l0_3.length c0_3, .slice A0_4 l0_4.length c0_4, .slice A0_5 l0_5.length c0_5]) (t := 50) ?hr ?_; (case hd => rfl); (case hg => rfl); (case hr => first | (go_simp; done) | (go_simp; rfl)); intro gb608 hg w19 hbox hb; have n0_ := Aside0.mk (below_step zb hb); have n1_ := Aside0.mk (hbox); have n2_ := Aside0.mk ((by rw [hg]; exact (below_size zb) : w.heap.size ≤ gb608)); have n3_ := Aside0.mk ((by rw [hg]; exact (below_size zb) : w.heap.size ≤ gb608)); clear HB; have HB := n0_; have BK608 := n1_; have GW608 := n2_; have GE608 := n3_; clear n0_ n1_ n2_ n3_; clear hb hbox hg; have hcz20_0 : w19.cell? ⟨gb608, 0, none⟩ = some (.int .i64 a0_0) := (blk_cell BK608.out 0).trans rfl; have hcz20_1 : w19.cell? ⟨gb608, 1, none⟩ = some (.string a0_1) := (blk_cell BK608.out 1).trans rfl; have hcz20_2 : w19.cell? ⟨gb608, 2, none⟩ = some (.int .i64 a0_2) := (blk_cell BK608.out 2).trans rfl; have hcz20_3 : w19.cell? ⟨gb608, 3, none⟩ = some (.slice A0_3 l0_3.length c0_3) := (blk_cell BK608.out 3).trans rfl; have hcz20_4 : w19.cell? ⟨gb608, 4, none⟩ = some (.slice A0_4 l0_4.length c0_4) := (blk_cell BK608.out 4).trans rfl; have hcz20_5 : w19.cell? ⟨gb608, 5, none⟩ = some (.slice A0_5 l0_5.length c0_5) := (blk_cell BK608.out 5).trans rfl; have hfz20_0 := blk_frozen BK608.out 0; have hfz20_1 := blk_frozen BK608.out 1; have hfz20_2 := blk_frozen BK608.out 2; have hfz20_3 := blk_frozen BK608.out 3; have hfz20_4 := blk_frozen BK608.out 4; have hfz20_5 := blk_frozen BK608.out 5) | ((with_reducible refine gate_callee (f := 37) rfl ?_); refine goesL_ (some 15) rfl rfl Try.func37 (by kernel_rfl) rfl #[.slice A0_3 l0_3.length c0_3, .int .i64 (wrap64 (a1 - (a0_1.size : Int)))] rfl zm ?_; (with_reducible refine (laws_szColumnS.calls k _ _ l0_3 (wrap64 (a1 - (a0_1.size : Int))) t609 _ ?side1 ?side2 A6.out).mono ?_); (case side1 => exact (by repeat (first | exact (Kd.C_below HR0_3.out HB.out) | (with_reducible refine Kd.C_alloc ?_ _) | (with_reducible refine Kd.C_drewN ?_ _) | (with_reducible refine Kd.C_drew ?_)))); (case side2 => exact HC0_3.out); rintro e w21 ⟨rfl, hb⟩; refine ⟨_, rfl, ?_⟩; have n0_ := Aside0.mk (blk_below (zk BK608.out) hb); have n1_ := Aside0.mk (below_step q1z0 hb); clear BK608; clear HB; have BK608 := n0_; have HB := n1_; clear n0_ n1_; (try clear hb); (try clear hb2); (try clear hk); (try clear hi); have hcz22_0 : w21.cell? ⟨gb608, 0, none⟩ = some (.int .i64 a0_0) := (blk_cell BK608.out 0).trans rfl; have hcz22_1 : w21.cell? ⟨gb608, 1, none⟩ = some (.string a0_1) := (blk_cell BK608.out 1).trans rfl; have hcz22_2 : w21.cell? ⟨gb608, 2, none⟩ = some (.int .i64 a0_2) := (blk_cell BK608.out 2).trans rfl; have hcz22_3 : w21.cell? ⟨gb608, 3, none⟩ = some (.slice A0_3 l0_3.length c0_3) := (blk_cell BK608.out 3).trans rfl; have hcz22_4 : w21.cell? ⟨gb608, 4, none⟩ = some (.slice A0_4 l0_4.length c0_4) := (blk_cell BK608.out 4).trans rfl; have hcz22_5 : w21.cell? ⟨gb608, 5, none⟩ = some (.slice A0_5 l0_5.length c0_5) := (blk_cell BK608.out 5).trans rfl; have hfz22_0 := blk_frozen BK608.out 0; have hfz22_1 := blk_frozen BK608.out 1; have hfz22_2 := blk_frozen BK608.out 2; have hfz22_3 := blk_frozen BK608.out 3; have hfz22_4 := blk_frozen BK608.out 4; have hfz22_5 := blk_frozen BK608.out 5) | ((with_reducible refine gate_callee (f := 38) rfl ?_); refine goesL_ (some 21) rfl rfl Try.func38 (by kernel_rfl) rfl #[.slice A0_4 l0_4.length c0_4, .int .i64 t609] rfl zm ?_; (with_reducible refine (laws_szIntS.calls _ _ l0_4 t609 t610 _ ?side1 ?side2 A11.out).mono ?_); (case side1 => exact (by repeat (first | exact (Kd.C_below HR0_4.out HB.out) | (with_reducible refine Kd.C_alloc ?_ _) | (with_reducible refine Kd.C_drewN ?_ _) | (with_reducible refine Kd.C_drew ?_)))); (case side2 => exact HC0_4.out); rintro e w' ⟨rfl, ⟨nd, rfl⟩⟩; refine ⟨_, rfl, ?_⟩) | ((with_reducible refine gate_callee (f := 39) rfl ?_); refine goesL_ (some 27) rfl rfl Try.func39 (by kernel_rfl) rfl #[.slice A0_5 l0_5.length c0_5, .int .i64 t610] rfl zm ?_; (with_reducible refine (laws_szIndexS.calls k _ _ l0_5 t610 t611 _ ?side1 ?side2 A17.out).mono ?_); (case side1 => exact (by repeat (first | exact (Kd.C_below HR0_5.out q1z0) | (with_reducible refine Kd.C_alloc ?_ _) | (with_reducible refine Kd.C_drewN ?_ _) | (with_reducible refine Kd.C_drew ?_)))); (case side2 => exact HC0_5.out); rintro e w23 ⟨rfl, hb⟩; refine ⟨_, rfl, ?_⟩; have n0_ := Aside0.mk (blk_below (zk BK608.out) hb); have n1_ := Aside0.mk (below_step q1z0 hb); clear BK608; clear HB; have BK608 := n0_; have HB := n1_; clear n0_ n1_; (try clear hb); (try clear hb2); (try clear hk); (try clear hi)))
     go_ret
     exact ⟨by first | rfl | (simp [errW_none, errW_some] <;> rfl) | (simp [*, errW_none, errW_some] <;> rfl), by repeat (first | (with_reducible first | exact HB.out | apply below_alloc | apply pw_below_drewN | apply below_drew1 | refine below_set ?_ GE608.out) | exact HB.out)⟩
    ·rw [if_neg c18] at H
     have c18b0 : decide (t611 < 0) = false := decide_eq_false c18; clear c18; obtain rfl := Option.some.inj H
     go_enter Try.func18, Try.ntmps18
     go_wp2_with (first | ((with_reducible refine gate_dst (N := 2) rfl ?_); refine box_event ?hg (N := 2) ?hd (cs := #[.int .i64 a0_0, .string a0_1, .int .i64 a0_2, .slice A0_3 l0_3.length c0_3, .slice A0_4 l0_4.length c0_4, .slice A0_5 l0_5.length c0_5]) (t := 50) ?hr ?_; (case hd => rfl); (case hg => rfl); (case hr => first | (go_simp; done) | (go_simp; rfl)); intro gb608 hg w24 hbox hb; have n0_ := Aside0.mk (below_step zb hb); have n1_ := Aside0.mk (hbox); have n2_ := Aside0.mk ((by rw [hg]; exact (below_size zb) : w.heap.size ≤ gb608)); have n3_ := Aside0.mk ((by rw [hg]; exact (below_size zb) : w.heap.size ≤ gb608)); clear HB; have HB := n0_; have BK608 := n1_; have GW608 := n2_; have GE608 := n3_; clear n0_ n1_ n2_ n3_; clear hb hbox hg; have hcz25_0 : w24.cell? ⟨gb608, 0, none⟩ = some (.int .i64 a0_0) := (blk_cell BK608.out 0).trans rfl; have hcz25_1 : w24.cell? ⟨gb608, 1, none⟩ = some (.string a0_1) := (blk_cell BK608.out 1).trans rfl; have hcz25_2 : w24.cell? ⟨gb608, 2, none⟩ = some (.int .i64 a0_2) := (blk_cell BK608.out 2).trans rfl; have hcz25_3 : w24.cell? ⟨gb608, 3, none⟩ = some (.slice A0_3 l0_3.length c0_3) := (blk_cell BK608.out 3).trans rfl; have hcz25_4 : w24.cell? ⟨gb608, 4, none⟩ = some (.slice A0_4 l0_4.length c0_4) := (blk_cell BK608.out 4).trans rfl; have hcz25_5 : w24.cell? ⟨gb608, 5, none⟩ = some (.slice A0_5 l0_5.length c0_5) := (blk_cell BK608.out 5).trans rfl; have hfz25_0 := blk_frozen BK608.out 0; have hfz25_1 := blk_frozen BK608.out 1; have hfz25_2 := blk_frozen BK608.out 2; have hfz25_3 := blk_frozen BK608.out 3; have hfz25_4 := blk_frozen BK608.out 4; have hfz25_5 := blk_frozen BK608.out 5) | ((with_reducible refine gate_callee (f := 37) rfl ?_); refine goesL_ (some 15) rfl rfl Try.func37 (by kernel_rfl) rfl #[.slice A0_3 l0_3.length c0_3, .int .i64 (wrap64 (a1 - (a0_1.size : Int)))] rfl zm ?_; (with_reducible refine (laws_szColumnS.calls k _ _ l0_3 (wrap64 (a1 - (a0_1.size : Int))) t609 _ ?side1 ?side2 A6.out).mono ?_); (case side1 => exact (by repeat (first | exact (Kd.C_below HR0_3.out HB.out) | (with_reducible refine Kd.C_alloc ?_ _) | (with_reducible refine Kd.C_drewN ?_ _) | (with_reducible refine Kd.C_drew ?_)))); (case side2 => exact HC0_3.out); rintro e w26 ⟨rfl, hb⟩; refine ⟨_, rfl, ?_⟩; have n0_ := Aside0.mk (blk_below (zk BK608.out) hb); have n1_ := Aside0.mk (below_step q1z0 hb); clear BK608; clear HB; have BK608 := n0_; have HB := n1_; clear n0_ n1_; (try clear hb); (try clear hb2); (try clear hk); (try clear hi); have hcz27_0 : w26.cell? ⟨gb608, 0, none⟩ = some (.int .i64 a0_0) := (blk_cell BK608.out 0).trans rfl; have hcz27_1 : w26.cell? ⟨gb608, 1, none⟩ = some (.string a0_1) := (blk_cell BK608.out 1).trans rfl; have hcz27_2 : w26.cell? ⟨gb608, 2, none⟩ = some (.int .i64 a0_2) := (blk_cell BK608.out 2).trans rfl; have hcz27_3 : w26.cell? ⟨gb608, 3, none⟩ = some (.slice A0_3 l0_3.length c0_3) := (blk_cell BK608.out 3).trans rfl; have hcz27_4 : w26.cell? ⟨gb608, 4, none⟩ = some (.slice A0_4 l0_4.length c0_4) := (blk_cell BK608.out 4).trans rfl; have hcz27_5 : w26.cell? ⟨gb608, 5, none⟩ = some (.slice A0_5 l0_5.length c0_5) := (blk_cell BK608.out 5).trans rfl; have hfz27_0 := blk_frozen BK608.out 0; have hfz27_1 := blk_frozen BK608.out 1; have hfz27_2 := blk_frozen BK608.out 2; have hfz27_3 := blk_frozen BK608.out 3; have hfz27_4 := blk_frozen BK608.out 4; have hfz27_5 := blk_frozen BK608.out 5) | ((with_reducible refine gate_callee (f := 38) rfl ?_); refine goesL_ (some 21) rfl rfl Try.func38 (by kernel_rfl) rfl #[.slice A0_4 l0_4.length c0_4, .int .i64 t609] rfl zm ?_; (with_reducible refine (laws_szIntS.calls _ _ l0_4 t609 t610 _ ?side1 ?side2 A11.out).mono ?_); (case side1 => exact (by repeat (first | exact (Kd.C_below HR0_4.out HB.out) | (with_reducible refine Kd.C_alloc ?_ _) | (with_reducible refine Kd.C_drewN ?_ _) | (with_reducible refine Kd.C_drew ?_)))); (case side2 => exact HC0_4.out); rintro e w' ⟨rfl, ⟨nd, rfl⟩⟩; refine ⟨_, rfl, ?_⟩) | ((with_reducible refine gate_callee (f := 39) rfl ?_); refine goesL_ (some 27) rfl rfl Try.func39 (by kernel_rfl) rfl #[.slice A0_5 l0_5.length c0_5, .int .i64 t610] rfl zm ?_; (with_reducible refine (laws_szIndexS.calls k _ _ l0_5 t610 t611 _ ?side1 ?side2 A17.out).mono ?_); (case side1 => exact (by repeat (first | exact (Kd.C_below HR0_5.out q1z0) | (with_reducible refine Kd.C_alloc ?_ _) | (with_reducible refine Kd.C_drewN ?_ _) | (with_reducible refine Kd.C_drew ?_)))); (case side2 => exact HC0_5.out); rintro e w28 ⟨rfl, hb⟩; refine ⟨_, rfl, ?_⟩; have n0_ := Aside0.mk (blk_below (zk BK608.out) hb); have n1_ := Aside0.mk (below_step q1z0 hb); clear BK608; clear HB; have BK608 := n0_; have HB := n1_; clear n0_ n1_; (try clear hb); (try clear hb2); (try clear hk); (try clear hi)))
     go_ret
     exact ⟨by first | rfl | (simp [errW_none, errW_some] <;> rfl) | (simp [*, errW_none, errW_some] <;> rfl), by repeat (first | (with_reducible first | exact HB.out | apply below_alloc | apply pw_below_drewN | apply below_drew1 | refine below_set ?_ GE608.out) | exact HB.out)⟩

/-! ### spec_l08Letter: function 77 -/
def spec_l08Letter.f (a0 : Int) : Option (Bool) := if a0 ≥ 97 then (if a0 ≤ 122 then (some true) else (some (a0 == 95))) else (some (a0 == 95))
set_option maxHeartbeats 8000000 in
set_option maxRecDepth 100000 in
theorem spec_l08Letter.calls (a0 : Int) (r : Bool) (w : World) (h : spec_l08Letter.f a0 = some r) :
  Calls Try.prog 77 #[.int .u8 a0] w fun e w' => e = .returned (.bool r) ∧ Drawn0 w w' := by
 have H : (if a0 ≥ 97 then (if a0 ≤ 122 then (some true) else (some (a0 == 95))) else (some (a0 == 95))) = some r := h; clear h
 by_cases c2 : a0 ≥ 97
 ·rw [if_pos c2] at H
  have c2b0 : decide (97 ≤ a0) = true := decide_eq_true c2; clear c2
  by_cases c3 : a0 ≤ 122
  ·rw [if_pos c3] at H
   have c3b0 : decide (a0 ≤ 122) = true := decide_eq_true c3; clear c3; obtain rfl := Option.some.inj H
   go_enter Try.func77, Try.ntmps77
   go_wp2
   go_ret
   exact ⟨by first | rfl | (simp; done) | (simp [*]; done), by repeat (first | exact Drawn0.refl _ | apply Drawn0.step)⟩
  ·rw [if_neg c3] at H
   have c3b0 : decide (a0 ≤ 122) = false := decide_eq_false c3; clear c3; obtain rfl := Option.some.inj H
   go_enter Try.func77, Try.ntmps77
   go_wp2
   go_ret
   exact ⟨by first | rfl | (simp; done) | (simp [*]; done), by repeat (first | exact Drawn0.refl _ | apply Drawn0.step)⟩
 ·rw [if_neg c2] at H
  have c2b0 : decide (97 ≤ a0) = false := decide_eq_false c2; clear c2; obtain rfl := Option.some.inj H
  go_enter Try.func77, Try.ntmps77
  go_wp2
  go_ret
  exact ⟨by first | rfl | (simp; done) | (simp [*]; done), by repeat (first | exact Drawn0.refl _ | apply Drawn0.step)⟩

/-! ### spec_l01Digit: function 78 -/
def spec_l01Digit.f (a0 : Int) : Option (Bool) := if a0 ≥ 48 then (some (decide (a0 ≤ 57))) else (some false)
set_option maxHeartbeats 8000000 in
set_option maxRecDepth 100000 in
theorem spec_l01Digit.calls (a0 : Int) (r : Bool) (w : World) (h : spec_l01Digit.f a0 = some r) :
  Calls Try.prog 78 #[.int .u8 a0] w fun e w' => e = .returned (.bool r) ∧ Drawn0 w w' := by
 have H : (if a0 ≥ 48 then (some (decide (a0 ≤ 57))) else (some false)) = some r := h; clear h
 by_cases c2 : a0 ≥ 48
 ·rw [if_pos c2] at H
  have c2b0 : decide (48 ≤ a0) = true := decide_eq_true c2; clear c2; obtain rfl := Option.some.inj H
  go_enter Try.func78, Try.ntmps78
  go_wp2
  go_ret
  exact ⟨by first | rfl | (simp; done) | (simp [*]; done), by repeat (first | exact Drawn0.refl _ | apply Drawn0.step)⟩
 ·rw [if_neg c2] at H
  have c2b0 : decide (48 ≤ a0) = false := decide_eq_false c2; clear c2; obtain rfl := Option.some.inj H
  go_enter Try.func78, Try.ntmps78
  go_wp2
  go_ret
  exact ⟨by first | rfl | (simp; done) | (simp [*]; done), by repeat (first | exact Drawn0.refl _ | apply Drawn0.step)⟩

/-! ### spec_l08Shape: function 64 -/
set_option maxRecDepth 100000 in
def spec_l08Shape.l0 : Nat → ByteArray → Int → Option (Bool)
 | 0, _, _ => none
 | k + 1, x0, x3 => if x3 < (x0.size : Int) then (if 0 ≤ x3 then ((spec_l08Letter.f (bt x0 x3)).bind fun t612 => (if t612 = true then (spec_l08Shape.l0 k x0 (wrap64 (x3 + 1))) else (if x3 > 0 then ((spec_l01Digit.f (bt x0 x3)).bind fun t613 => (if t613 = true then (spec_l08Shape.l0 k x0 (wrap64 (x3 + 1))) else (some false))) else (some false)))) else (none)) else (if (x0.size : Int) > 0 then (some (decide ((x0.size : Int) ≤ 30))) else (some false))
def spec_l08Shape.f (k : Nat) (a0 : ByteArray) : Option (Bool) := spec_l08Shape.l0 k a0 0
set_option maxHeartbeats 8000000 in
set_option maxRecDepth 100000 in
theorem spec_l08Shape.calls (k : Nat) (a0 : ByteArray) (r : Bool) (w : World) (h : spec_l08Shape.f k a0 = some r) :
  Calls Try.prog 64 #[.string a0] w fun e w' => e = .returned (.bool r) ∧ Drawn0 w w' := by
 have H : (spec_l08Shape.l0 k a0 0) = some r := h; clear h; have H' := Aside0.mk H; clear H
 go_enter Try.func64, Try.ntmps64
 go_wp2
 go_loopg [3] k (fun kq v3 w' => ∃ (x3_1 : Int), v3 = .int .i64 x3_1 ∧ Aside0 (spec_l08Shape.l0 kq a0 x3_1 = some r) ∧ Aside0 (kq ≤ k) ∧ Drawn0 w w')
 case atStart => exact ⟨(0), (by first | rfl | (simp; done) | (simp [*]; done)), H', ⟨Nat.le_refl _⟩, by repeat (first | exact Drawn0.refl _ | apply Drawn0.step)⟩
 case round =>
  clear H'; obtain ⟨x3_1, rfl, HA, HK1, ⟨m1, rfl⟩⟩ := hrel
  cases gk with
  | zero => exact absurd HA.out (by simp [spec_l08Shape.l0])
  | succ k1 =>
   have H := HA.out; clear HA; simp only [spec_l08Shape.l0] at H
   by_cases c2 : x3_1 < (a0.size : Int)
   ·rw [if_pos c2] at H
    have c2b0 : decide (x3_1 < (a0.size : Int)) = true := decide_eq_true c2; clear c2
    by_cases c3 : 0 ≤ x3_1
    ·rw [if_pos c3] at H
     have c3b0 : decide (0 ≤ x3_1) = true := decide_eq_true c3; clear c3; replace H := Option.bind_eq_some_iff.mp H; obtain ⟨t612, A50, H⟩ := H; replace H : (if t612 = true then (spec_l08Shape.l0 k1 a0 (wrap64 (x3_1 + 1))) else (if x3_1 > 0 then ((spec_l01Digit.f (bt a0 x3_1)).bind fun t613 => (if t613 = true then (spec_l08Shape.l0 k1 a0 (wrap64 (x3_1 + 1))) else (some false))) else (some false))) = some r := H; have A5 := Aside0.mk A50; clear A50
     by_cases c6 : t612 = true
     ·subst c6
      have H1 : (spec_l08Shape.l0 k1 a0 (wrap64 (x3_1 + 1))) = some r := by rw [if_pos rfl] at H; exact H
      clear H; have H := H1; clear H1; have H' := Aside0.mk H; clear H; have p4 : 0 ≤ (x3_1 : Int) := of_decide_eq_true q1z1; have q4 : x3_1 < (a0.size : Int) := of_decide_eq_true q1z1; have hx4 := bt_at a0 x3_1; replace p4 := eq_true p4; replace q4 := eq_true q4
      go_wp2_with (first | ((with_reducible refine gate_callee (f := 77) rfl ?_); refine goesL_ (some 13) rfl rfl Try.func77 (by kernel_rfl) rfl #[.int .u8 (bt a0 x3_1)] rfl zm ?_; (with_reducible refine (spec_l08Letter.calls (bt a0 x3_1) true _ A5.out).mono ?_); rintro e w' ⟨rfl, ⟨nd, rfl⟩⟩; refine ⟨_, rfl, ?_⟩))
      go_roundg k1
      case measure => have := HK1.out; omega
      case rel => exact ⟨(wrap64 (x3_1 + 1)), (by first | rfl | (simp; done) | (simp [*]; done)), H', ⟨by have := HK1.out; omega⟩, by repeat (first | exact Drawn0.refl _ | apply Drawn0.step)⟩
     ·replace c6 := Bool.eq_false_iff.mpr c6
      subst c6
      have H1 : (if x3_1 > 0 then ((spec_l01Digit.f (bt a0 x3_1)).bind fun t613 => (if t613 = true then (spec_l08Shape.l0 k1 a0 (wrap64 (x3_1 + 1))) else (some false))) else (some false)) = some r := by rw [if_neg (show ¬ (false = true) by decide)] at H; exact H
      clear H; have H := H1; clear H1
      by_cases c7 : x3_1 > 0
      ·rw [if_pos c7] at H
       have c7b0 : decide (0 < x3_1) = true := decide_eq_true c7; clear c7; replace H := Option.bind_eq_some_iff.mp H; obtain ⟨t613, A90, H⟩ := H; replace H : (if t613 = true then (spec_l08Shape.l0 k1 a0 (wrap64 (x3_1 + 1))) else (some false)) = some r := H; have A9 := Aside0.mk A90; clear A90
       by_cases c10 : t613 = true
       ·subst c10
        have H1 : (spec_l08Shape.l0 k1 a0 (wrap64 (x3_1 + 1))) = some r := by rw [if_pos rfl] at H; exact H
        clear H; have H := H1; clear H1; have H' := Aside0.mk H; clear H; have p4 : 0 ≤ (x3_1 : Int) := of_decide_eq_true q1z1; have q4 : x3_1 < (a0.size : Int) := of_decide_eq_true q1z1; have hx4 := bt_at a0 x3_1; replace p4 := eq_true p4; replace q4 := eq_true q4
        go_wp2_with (first | ((with_reducible refine gate_callee (f := 77) rfl ?_); refine goesL_ (some 13) rfl rfl Try.func77 (by kernel_rfl) rfl #[.int .u8 (bt a0 x3_1)] rfl zm ?_; (with_reducible refine (spec_l08Letter.calls (bt a0 x3_1) false _ A5.out).mono ?_); rintro e w' ⟨rfl, ⟨nd, rfl⟩⟩; refine ⟨_, rfl, ?_⟩; have p8 : 0 ≤ (x3_1 : Int) := of_decide_eq_true q1z1; have q8 : x3_1 < (a0.size : Int) := of_decide_eq_true q1z1; have hx8 := bt_at a0 x3_1; replace p8 := eq_true p8; replace q8 := eq_true q8) | (go_at_call 78; (with_reducible refine (spec_l01Digit.calls (bt a0 x3_1) true _ A9.out).mono ?_); rintro e w' ⟨rfl, ⟨nd, rfl⟩⟩))
        go_roundg k1
        case measure => have := HK1.out; omega
        case rel => exact ⟨(wrap64 (x3_1 + 1)), (by first | rfl | (simp; done) | (simp [*]; done)), H', ⟨by have := HK1.out; omega⟩, by repeat (first | exact Drawn0.refl _ | apply Drawn0.step)⟩
       ·replace c10 := Bool.eq_false_iff.mpr c10
        subst c10
        have H1 : (some false) = some r := by rw [if_neg (show ¬ (false = true) by decide)] at H; exact H
        clear H; have H := H1; clear H1; obtain rfl := Option.some.inj H; have p4 : 0 ≤ (x3_1 : Int) := of_decide_eq_true q1z1; have q4 : x3_1 < (a0.size : Int) := of_decide_eq_true q1z1; have hx4 := bt_at a0 x3_1; replace p4 := eq_true p4; replace q4 := eq_true q4
        go_wp2_with (first | ((with_reducible refine gate_callee (f := 77) rfl ?_); refine goesL_ (some 13) rfl rfl Try.func77 (by kernel_rfl) rfl #[.int .u8 (bt a0 x3_1)] rfl zm ?_; (with_reducible refine (spec_l08Letter.calls (bt a0 x3_1) false _ A5.out).mono ?_); rintro e w' ⟨rfl, ⟨nd, rfl⟩⟩; refine ⟨_, rfl, ?_⟩; have p8 : 0 ≤ (x3_1 : Int) := of_decide_eq_true q1z1; have q8 : x3_1 < (a0.size : Int) := of_decide_eq_true q1z1; have hx8 := bt_at a0 x3_1; replace p8 := eq_true p8; replace q8 := eq_true q8) | (go_at_call 78; (with_reducible refine (spec_l01Digit.calls (bt a0 x3_1) false _ A9.out).mono ?_); rintro e w' ⟨rfl, ⟨nd, rfl⟩⟩))
        go_ret
        exact ⟨by first | rfl | (simp; done) | (simp [*]; done), by repeat (first | exact Drawn0.refl _ | apply Drawn0.step)⟩
      ·rw [if_neg c7] at H
       have c7b0 : decide (0 < x3_1) = false := decide_eq_false c7; clear c7; obtain rfl := Option.some.inj H; have p4 : 0 ≤ (x3_1 : Int) := of_decide_eq_true q1z1; have q4 : x3_1 < (a0.size : Int) := of_decide_eq_true q1z1; have hx4 := bt_at a0 x3_1; replace p4 := eq_true p4; replace q4 := eq_true q4
       go_wp2_with (first | ((with_reducible refine gate_callee (f := 77) rfl ?_); refine goesL_ (some 13) rfl rfl Try.func77 (by kernel_rfl) rfl #[.int .u8 (bt a0 x3_1)] rfl zm ?_; (with_reducible refine (spec_l08Letter.calls (bt a0 x3_1) false _ A5.out).mono ?_); rintro e w' ⟨rfl, ⟨nd, rfl⟩⟩; refine ⟨_, rfl, ?_⟩))
       go_ret
       exact ⟨by first | rfl | (simp; done) | (simp [*]; done), by repeat (first | exact Drawn0.refl _ | apply Drawn0.step)⟩
    ·rw [if_neg c3] at H
     cases H
   ·rw [if_neg c2] at H
    have c2b0 : decide (x3_1 < (a0.size : Int)) = false := decide_eq_false c2; clear c2
    by_cases c11 : (a0.size : Int) > 0
    ·rw [if_pos c11] at H
     have c11b0 : decide (0 < (a0.size : Int)) = true := decide_eq_true c11; have c11b1 : decide (0 < a0.size) = true := decide_eq_true (by omega); clear c11; obtain rfl := Option.some.inj H
     go_wp2
     go_ret
     exact ⟨by first | rfl | (simp; done) | (simp [*]; done), by repeat (first | exact Drawn0.refl _ | apply Drawn0.step)⟩
    ·rw [if_neg c11] at H
     have c11b0 : decide (0 < (a0.size : Int)) = false := decide_eq_false c11; have c11b1 : decide (0 < a0.size) = false := decide_eq_false (by omega); clear c11; obtain rfl := Option.some.inj H
     go_wp2
     go_ret
     exact ⟨by first | rfl | (simp; done) | (simp [*]; done), by repeat (first | exact Drawn0.refl _ | apply Drawn0.step)⟩

end Go.Proofs.Ytiolnbhcmoafjaa.QFnExactTableOK
