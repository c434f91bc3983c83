/- The functions that the law reaches, each as a plain Lean function with the proof that the Go code comes to its answers: written by a program of this session. No condition. -/
import Derived.Test.YtjplogeifleojaaQFnKeyOrderx0
namespace Go.Proofs.Ytjplogeifleojaa.QFnKeyOrder
open Go.RowKit Go.Proofs.YtjplogeifleojaaW.PrintWords Go.Proofs.YtjplogeifleojaaW.PrintLast Go.Proofs.YtjplogeifleojaaW.PrintMore
attribute [local go_sem] max2_int min2_int max_two min_two max_three min_three max_four min_four str_gtr str_leq str_geq pw_at_slice   -- for this text's walks alone
set_option linter.unusedVariables false
set_option linter.unusedSimpArgs false

theorem q2z0 {P : Prop} (h : P := by repeat (first | (with_reducible first | exact HB.out | apply below_alloc | apply pw_below_drewN | apply below_drew1) | exact HB.out)) : P := h
/-! ### spec_l01Printable: function 46 -/
set_option maxRecDepth 100000 in
def spec_l01Printable.l0 : Nat → ByteArray → Int → Option (Bool)
  | 0, _, _ => none
  | k + 1, x0, x3 => if x3 < (x0.size : Int) then (if 0 ≤ x3 then (if (bt x0 x3) < 32 then (some false) else (if (bt x0 x3) > 126 then (some false) else (spec_l01Printable.l0 k x0 (wrap64 (x3 + 1))))) else (none)) else (some true)
def spec_l01Printable.f (k : Nat) (a0 : ByteArray) : Option (Bool) := spec_l01Printable.l0 k a0 0
set_option maxHeartbeats 8000000 in
set_option maxRecDepth 100000 in
theorem spec_l01Printable.calls (k : Nat) (a0 : ByteArray) (r : Bool) (w : World) (h : spec_l01Printable.f k a0 = some r) :
    Calls Try.prog 46 #[.string a0] w fun e w' => e = .returned (.bool r) ∧ Drawn0 w w' := by
  have H : (spec_l01Printable.l0 k a0 0) = some r := h; clear h; have H' := Aside0.mk H; clear H
  go_enter Try.func46, Try.ntmps46
  go_wp2
  go_loopg [3] k (fun kq v3 w' => ∃ (x3_1 : Int), v3 = .int .i64 x3_1 ∧ Aside0 (spec_l01Printable.l0 kq a0 x3_1 = some r) ∧ Aside0 (kq ≤ k) ∧ Drawn0 w w')
  case atStart => exact ⟨(0), (by first | rfl | (simp; done) | (simp [*]; done)), H', ⟨Nat.le_refl _⟩, by repeat (first | exact Drawn0.refl _ | apply Drawn0.step)⟩
  case round =>
    clear H'; obtain ⟨x3_1, rfl, HA, HK1, ⟨m1, rfl⟩⟩ := hrel
    cases gk with
    | zero => exact absurd HA.out (by simp [spec_l01Printable.l0])
    | succ k1 =>
      have H := HA.out; clear HA; simp only [spec_l01Printable.l0] at H
      by_cases c2 : x3_1 < (a0.size : Int)
      · rw [if_pos c2] at H
        have c2b0 : decide (x3_1 < (a0.size : Int)) = true := decide_eq_true c2; clear c2
        by_cases c3 : 0 ≤ x3_1
        · rw [if_pos c3] at H
          have c3b0 : decide (0 ≤ x3_1) = true := decide_eq_true c3; clear c3
          by_cases c5 : (bt a0 x3_1) < 32
          · rw [if_pos c5] at H
            have c5b0 : decide ((bt a0 x3_1) < 32) = true := decide_eq_true c5; clear c5; obtain rfl := Option.some.inj H; have p4 : 0 ≤ (x3_1 : Int) := of_decide_eq_true (by first | (with_reducible assumption) | assumption); have q4 : x3_1 < (a0.size : Int) := of_decide_eq_true (by first | (with_reducible assumption) | assumption); have hx4 := bt_at a0 x3_1; replace p4 := eq_true p4; replace q4 := eq_true q4
            go_wp2
            go_ret
            exact ⟨by first | rfl | (simp; done) | (simp [*]; done), by repeat (first | exact Drawn0.refl _ | apply Drawn0.step)⟩
          · rw [if_neg c5] at H
            have c5b0 : decide ((bt a0 x3_1) < 32) = false := decide_eq_false c5; clear c5
            by_cases c7 : (bt a0 x3_1) > 126
            · rw [if_pos c7] at H
              have c7b0 : decide (126 < (bt a0 x3_1)) = true := decide_eq_true c7; clear c7; obtain rfl := Option.some.inj H; have p4 : 0 ≤ (x3_1 : Int) := of_decide_eq_true (by first | (with_reducible assumption) | assumption); have q4 : x3_1 < (a0.size : Int) := of_decide_eq_true (by first | (with_reducible assumption) | assumption); have hx4 := bt_at a0 x3_1; replace p4 := eq_true p4; replace q4 := eq_true q4; have p6 : 0 ≤ (x3_1 : Int) := of_decide_eq_true (by first | (with_reducible assumption) | assumption); have q6 : x3_1 < (a0.size : Int) := of_decide_eq_true (by first | (with_reducible assumption) | assumption); have hx6 := bt_at a0 x3_1; replace p6 := eq_true p6; replace q6 := eq_true q6
              go_wp2
              go_ret
              exact ⟨by first | rfl | (simp; done) | (simp [*]; done), by repeat (first | exact Drawn0.refl _ | apply Drawn0.step)⟩
            · rw [if_neg c7] at H
              have c7b0 : decide (126 < (bt a0 x3_1)) = false := decide_eq_false c7; clear c7; have H' := Aside0.mk H; clear H; have p4 : 0 ≤ (x3_1 : Int) := of_decide_eq_true (by first | (with_reducible assumption) | assumption); have q4 : x3_1 < (a0.size : Int) := of_decide_eq_true (by first | (with_reducible assumption) | assumption); have hx4 := bt_at a0 x3_1; replace p4 := eq_true p4; replace q4 := eq_true q4; have p6 : 0 ≤ (x3_1 : Int) := of_decide_eq_true (by first | (with_reducible assumption) | assumption); have q6 : x3_1 < (a0.size : Int) := of_decide_eq_true (by first | (with_reducible assumption) | assumption); have hx6 := bt_at a0 x3_1; replace p6 := eq_true p6; replace q6 := eq_true q6
              go_wp2
              go_roundg k1
              case measure => have := HK1.out; omega
              case rel => exact ⟨(wrap64 (x3_1 + 1)), (by first | rfl | (simp; done) | (simp [*]; done)), H', ⟨by have := HK1.out; omega⟩, by repeat (first | exact Drawn0.refl _ | apply Drawn0.step)⟩
        · rw [if_neg c3] at H
          exact absurd H (by simp)
      · rw [if_neg c2] at H
        have c2b0 : decide (x3_1 < (a0.size : Int)) = false := decide_eq_false c2; clear c2; obtain rfl := Option.some.inj H
        go_wp2
        go_ret
        exact ⟨by first | rfl | (simp; done) | (simp [*]; done), by repeat (first | exact Drawn0.refl _ | apply Drawn0.step)⟩

/-! ### spec_ValueOK: function 20 -/
set_option maxRecDepth 100000 in
def spec_ValueOK.j0 : Nat → Bool → Int → Int → Int → ByteArray → Option (Bool)
  | 0, _, _, _, _, _ => none
  | k + 1, x21, x602000, x602001, x602002, x602003 => if x21 = true then (some false) else (if x602000 = 0 then (some (x602001 == 0)) else (if x602000 = 1 then (if x602001 = 0 then (some true) else (some (x602001 == 1))) else (if x602000 = 2 then (if x602001 ≥ (-1000000000000000) then (some (decide (x602001 ≤ 1000000000000000))) else (some false)) else (if x602000 = 3 then (if x602001 ≥ (-1000000000) then (if x602001 ≤ 1000000000 then (if x602002 ≥ 0 then (if x602002 ≤ 6 then (if x602002 = 0 then (some true) else (some ((Int.tmod x602001 10) != 0))) else (some false)) else (some false)) else (some false)) else (some false)) else (if x602000 = 5 then (if x602001 ≥ 0 then (some (decide (x602001 ≤ 3652058))) else (some false)) else (if x602000 = 4 then (if x602001 = 0 then ((spec_l01Printable.f k x602003).bind fun t602 => (if t602 = true then (some (decide ((x602003.size : Int) ≤ 200))) else (some false))) else (some false)) else (some false)))))))
def spec_ValueOK.f (k : Nat) (a0_0 : Int) (a0_1 : Int) (a0_2 : Int) (a0_3 : ByteArray) : Option (Bool) := if a0_0 = 4 then (if a0_0 = 3 then (spec_ValueOK.j0 k false a0_0 a0_1 a0_2 a0_3) else (spec_ValueOK.j0 k (a0_2 != 0) a0_0 a0_1 a0_2 a0_3)) else (if (a0_3.size : Int) > 0 then (spec_ValueOK.j0 k true a0_0 a0_1 a0_2 a0_3) else (if a0_0 = 3 then (spec_ValueOK.j0 k false a0_0 a0_1 a0_2 a0_3) else (spec_ValueOK.j0 k (a0_2 != 0) a0_0 a0_1 a0_2 a0_3)))
set_option maxHeartbeats 8000000 in
set_option maxRecDepth 100000 in
theorem spec_ValueOK.calls (k : Nat) (a0_0 : Int) (a0_1 : Int) (a0_2 : Int) (a0_3 : ByteArray) (r : Bool) (w : World) (h : spec_ValueOK.f k a0_0 a0_1 a0_2 a0_3 = some r) :
    Calls Try.prog 20 #[.agg #[.int .i64 a0_0, .int .i64 a0_1, .int .i64 a0_2, .string a0_3]] w fun e w' => e = .returned (.bool r) ∧ Below w.heap.size w w' := by
  have hu42 := Try.underlying42; have HB := Aside0.mk (Below.refl w.heap.size w); have H : (if a0_0 = 4 then (if a0_0 = 3 then (spec_ValueOK.j0 k false a0_0 a0_1 a0_2 a0_3) else (spec_ValueOK.j0 k (a0_2 != 0) a0_0 a0_1 a0_2 a0_3)) else (if (a0_3.size : Int) > 0 then (spec_ValueOK.j0 k true a0_0 a0_1 a0_2 a0_3) else (if a0_0 = 3 then (spec_ValueOK.j0 k false a0_0 a0_1 a0_2 a0_3) else (spec_ValueOK.j0 k (a0_2 != 0) a0_0 a0_1 a0_2 a0_3)))) = some r := h; clear h; have HC2 := Aside0.mk H; clear H
  go_enter Try.func20, Try.ntmps20
  go_upto_region 1 with (first | ((with_reducible refine gate_dst (N := 1) rfl ?_); (try (refine gate_guard (by rfl) ?_; dsimp only)); refine box_event ?hg (N := 1) ?hd (cs := #[.int .i64 a0_0, .int .i64 a0_1, .int .i64 a0_2, .string a0_3]) (t := 42) ?hr ?_; (case hd => rfl); (case hg => rfl); (case hr => first | (go_simp; done) | (go_simp; rfl)); intro gb601 hg w3 hbox hb; have n0_ := Aside0.mk (below_step q2z0 hb); have n1_ := Aside0.mk (hbox); have n2_ := Aside0.mk ((by rw [hg]; exact (below_size q2z0) : w.heap.size ≤ gb601)); have n3_ := Aside0.mk ((by rw [hg]; exact (below_size q2z0) : w.heap.size ≤ gb601)); clear HB; have HB := n0_; have BK601 := n1_; have GW601 := n2_; have GE601 := n3_; clear n0_ n1_ n2_ n3_; clear hb hbox hg))
  (try simp only [Act.put, List.setIfInBounds_toArray, List.set_cons_zero, List.set_cons_succ])
  go_cut [21] (fun v21 wc => ∃ (kq : Nat) (x21_1 : Bool), v21 = .bool x21_1 ∧ Aside0 (spec_ValueOK.j0 kq x21_1 a0_0 a0_1 a0_2 a0_3 = some r) ∧ Aside0 (kq ≤ k) ∧ Aside0 (wc.heap[gb601]? = some (.cells #[.int .i64 a0_0, .int .i64 a0_1, .int .i64 a0_2, .string a0_3] 42 (0, 0))) ∧ Aside0 (Below w.heap.size w wc))
  case first =>
    have H := HC2.out; clear HC2
    by_cases c4 : a0_0 = 4
    · rw [if_pos c4] at H
      have c4b0 : (a0_0 == 4) = true := beq_iff_eq.mpr c4; have c4b1 : (a0_0 != 4) = false := bne_eq_false_iff_eq.mpr c4; clear c4; (first | rw [c4b0] | (simp only [i64_w, i32_w]; rw [c4b0]) | skip)
      by_cases c5 : a0_0 = 3
      · rw [if_pos c5] at H
        have c5b0 : (a0_0 == 3) = true := beq_iff_eq.mpr c5; have c5b1 : (a0_0 != 3) = false := bne_eq_false_iff_eq.mpr c5; clear c5; have H' := Aside0.mk H; clear H; have hcz6_0 : w3.cell? ⟨gb601, 0, none⟩ = some (.int .i64 a0_0) := (blk_cell BK601.out 0).trans rfl; have hcz6_1 : w3.cell? ⟨gb601, 1, none⟩ = some (.int .i64 a0_1) := (blk_cell BK601.out 1).trans rfl; have hcz6_2 : w3.cell? ⟨gb601, 2, none⟩ = some (.int .i64 a0_2) := (blk_cell BK601.out 2).trans rfl; have hcz6_3 : w3.cell? ⟨gb601, 3, none⟩ = some (.string a0_3) := (blk_cell BK601.out 3).trans rfl; have hfz6_0 := blk_frozen BK601.out 0; have hfz6_1 := blk_frozen BK601.out 1; have hfz6_2 := blk_frozen BK601.out 2; have hfz6_3 := blk_frozen BK601.out 3
        go_wp2
        go_meet
        case rel => exact ⟨_, (false), (by first | rfl | (simp; done) | (simp [*]; done)), H', ⟨by first | omega | exact Nat.le_refl _⟩, ⟨by (with_reducible repeat (first | refine blk_drewN ?_ _ | refine blk_drew ?_ | refine blk_alloc ?_ _)); exact BK601.out⟩, ⟨by repeat (first | (with_reducible first | exact HB.out | apply below_alloc | apply pw_below_drewN | apply below_drew1 | refine below_set ?_ GE601.out) | exact HB.out)⟩⟩
      · rw [if_neg c5] at H
        have c5b0 : (a0_0 == 3) = false := beq_eq_false_iff_ne.mpr c5; have c5b1 : (a0_0 != 3) = true := bne_iff_ne.mpr c5; have H' := Aside0.mk H; clear H; have hcz7_0 : w3.cell? ⟨gb601, 0, none⟩ = some (.int .i64 a0_0) := (blk_cell BK601.out 0).trans rfl; have hcz7_1 : w3.cell? ⟨gb601, 1, none⟩ = some (.int .i64 a0_1) := (blk_cell BK601.out 1).trans rfl; have hcz7_2 : w3.cell? ⟨gb601, 2, none⟩ = some (.int .i64 a0_2) := (blk_cell BK601.out 2).trans rfl; have hcz7_3 : w3.cell? ⟨gb601, 3, none⟩ = some (.string a0_3) := (blk_cell BK601.out 3).trans rfl; have hfz7_0 := blk_frozen BK601.out 0; have hfz7_1 := blk_frozen BK601.out 1; have hfz7_2 := blk_frozen BK601.out 2; have hfz7_3 := blk_frozen BK601.out 3
        go_wp2
        go_meet
        case rel => exact ⟨_, ((a0_2 != 0)), (by first | rfl | (simp; done) | (simp [*]; done)), H', ⟨by first | omega | exact Nat.le_refl _⟩, ⟨by (with_reducible repeat (first | refine blk_drewN ?_ _ | refine blk_drew ?_ | refine blk_alloc ?_ _)); exact BK601.out⟩, ⟨by repeat (first | (with_reducible first | exact HB.out | apply below_alloc | apply pw_below_drewN | apply below_drew1 | refine below_set ?_ GE601.out) | exact HB.out)⟩⟩
    · rw [if_neg c4] at H
      have c4b0 : (a0_0 == 4) = false := beq_eq_false_iff_ne.mpr c4; have c4b1 : (a0_0 != 4) = true := bne_iff_ne.mpr c4; (first | rw [c4b0] | (simp only [i64_w, i32_w]; rw [c4b0]) | skip)
      by_cases c8 : (a0_3.size : Int) > 0
      · rw [if_pos c8] at H
        have c8b0 : decide (0 < (a0_3.size : Int)) = true := decide_eq_true c8; have c8b1 : decide (0 < a0_3.size) = true := decide_eq_true (by omega); clear c8; have H' := Aside0.mk H; clear H; have hcz9_0 : w3.cell? ⟨gb601, 0, none⟩ = some (.int .i64 a0_0) := (blk_cell BK601.out 0).trans rfl; have hcz9_1 : w3.cell? ⟨gb601, 1, none⟩ = some (.int .i64 a0_1) := (blk_cell BK601.out 1).trans rfl; have hcz9_2 : w3.cell? ⟨gb601, 2, none⟩ = some (.int .i64 a0_2) := (blk_cell BK601.out 2).trans rfl; have hcz9_3 : w3.cell? ⟨gb601, 3, none⟩ = some (.string a0_3) := (blk_cell BK601.out 3).trans rfl; have hfz9_0 := blk_frozen BK601.out 0; have hfz9_1 := blk_frozen BK601.out 1; have hfz9_2 := blk_frozen BK601.out 2; have hfz9_3 := blk_frozen BK601.out 3
        go_wp2
        go_meet
        case rel => exact ⟨_, (true), (by first | rfl | (simp; done) | (simp [*]; done)), H', ⟨by first | omega | exact Nat.le_refl _⟩, ⟨by (with_reducible repeat (first | refine blk_drewN ?_ _ | refine blk_drew ?_ | refine blk_alloc ?_ _)); exact BK601.out⟩, ⟨by repeat (first | (with_reducible first | exact HB.out | apply below_alloc | apply pw_below_drewN | apply below_drew1 | refine below_set ?_ GE601.out) | exact HB.out)⟩⟩
      · rw [if_neg c8] at H
        have c8b0 : decide (0 < (a0_3.size : Int)) = false := decide_eq_false c8; have c8b1 : decide (0 < a0_3.size) = false := decide_eq_false (by omega); clear c8
        by_cases c10 : a0_0 = 3
        · rw [if_pos c10] at H
          have c10b0 : (a0_0 == 3) = true := beq_iff_eq.mpr c10; have c10b1 : (a0_0 != 3) = false := bne_eq_false_iff_eq.mpr c10; clear c10; have H' := Aside0.mk H; clear H; have hcz11_0 : w3.cell? ⟨gb601, 0, none⟩ = some (.int .i64 a0_0) := (blk_cell BK601.out 0).trans rfl; have hcz11_1 : w3.cell? ⟨gb601, 1, none⟩ = some (.int .i64 a0_1) := (blk_cell BK601.out 1).trans rfl; have hcz11_2 : w3.cell? ⟨gb601, 2, none⟩ = some (.int .i64 a0_2) := (blk_cell BK601.out 2).trans rfl; have hcz11_3 : w3.cell? ⟨gb601, 3, none⟩ = some (.string a0_3) := (blk_cell BK601.out 3).trans rfl; have hfz11_0 := blk_frozen BK601.out 0; have hfz11_1 := blk_frozen BK601.out 1; have hfz11_2 := blk_frozen BK601.out 2; have hfz11_3 := blk_frozen BK601.out 3
          go_wp2
          go_meet
          case rel => exact ⟨_, (false), (by first | rfl | (simp; done) | (simp [*]; done)), H', ⟨by first | omega | exact Nat.le_refl _⟩, ⟨by (with_reducible repeat (first | refine blk_drewN ?_ _ | refine blk_drew ?_ | refine blk_alloc ?_ _)); exact BK601.out⟩, ⟨by repeat (first | (with_reducible first | exact HB.out | apply below_alloc | apply pw_below_drewN | apply below_drew1 | refine below_set ?_ GE601.out) | exact HB.out)⟩⟩
        · rw [if_neg c10] at H
          have c10b0 : (a0_0 == 3) = false := beq_eq_false_iff_ne.mpr c10; have c10b1 : (a0_0 != 3) = true := bne_iff_ne.mpr c10; have H' := Aside0.mk H; clear H; have hcz12_0 : w3.cell? ⟨gb601, 0, none⟩ = some (.int .i64 a0_0) := (blk_cell BK601.out 0).trans rfl; have hcz12_1 : w3.cell? ⟨gb601, 1, none⟩ = some (.int .i64 a0_1) := (blk_cell BK601.out 1).trans rfl; have hcz12_2 : w3.cell? ⟨gb601, 2, none⟩ = some (.int .i64 a0_2) := (blk_cell BK601.out 2).trans rfl; have hcz12_3 : w3.cell? ⟨gb601, 3, none⟩ = some (.string a0_3) := (blk_cell BK601.out 3).trans rfl; have hfz12_0 := blk_frozen BK601.out 0; have hfz12_1 := blk_frozen BK601.out 1; have hfz12_2 := blk_frozen BK601.out 2; have hfz12_3 := blk_frozen BK601.out 3
          go_wp2
          go_meet
          case rel => exact ⟨_, ((a0_2 != 0)), (by first | rfl | (simp; done) | (simp [*]; done)), H', ⟨by first | omega | exact Nat.le_refl _⟩, ⟨by (with_reducible repeat (first | refine blk_drewN ?_ _ | refine blk_drew ?_ | refine blk_alloc ?_ _)); exact BK601.out⟩, ⟨by repeat (first | (with_reducible first | exact HB.out | apply below_alloc | apply pw_below_drewN | apply below_drew1 | refine below_set ?_ GE601.out) | exact HB.out)⟩⟩
  case rest =>
    clear HC2; (try clear c1); (try clear c2); (try clear p2); (try clear c4); (try clear c4b0); (try clear c4b1); (try clear c5); (try clear c5b0); (try clear c5b1); (try clear c8); (try clear c8b0); (try clear c8b1); (try clear c10); (try clear c10b0); (try clear c10b1); (try clear hcz11_0); (try clear hcz11_1); (try clear hcz11_2); (try clear hcz11_3); (try clear hcz12_0); (try clear hcz12_1); (try clear hcz12_2); (try clear hcz12_3); (try clear hcz6_0); (try clear hcz6_1); (try clear hcz6_2); (try clear hcz6_3); (try clear hcz7_0); (try clear hcz7_1); (try clear hcz7_2); (try clear hcz7_3); (try clear hcz9_0); (try clear hcz9_1); (try clear hcz9_2); (try clear hcz9_3); (try clear hfz11_0); (try clear hfz11_1); (try clear hfz11_2); (try clear hfz11_3); (try clear hfz12_0); (try clear hfz12_1); (try clear hfz12_2); (try clear hfz12_3); (try clear hfz6_0); (try clear hfz6_1); (try clear hfz6_2); (try clear hfz6_3); (try clear hfz7_0); (try clear hfz7_1); (try clear hfz7_2); (try clear hfz7_3); (try clear hfz9_0); (try clear hfz9_1); (try clear hfz9_2); (try clear hfz9_3); obtain ⟨kq, x21_1, rfl, HA, HJ1, BK601, HB⟩ := hcut
    cases kq with
    | zero => exact absurd HA.out (by simp [spec_ValueOK.j0])
    | succ kj1 =>
      have H := HA.out; clear HA; simp only [spec_ValueOK.j0] at H
      by_cases c13 : x21_1 = true
      · subst c13
        have H1 : (some false) = some r := by rw [if_pos rfl] at H; exact H
        clear H; have H := H1; clear H1; obtain rfl := Option.some.inj H
        go_wp2
        go_ret
        exact ⟨by first | rfl | (simp [errW_none, errW_some] <;> rfl) | (simp [*, errW_none, errW_some] <;> rfl), by repeat (first | (with_reducible first | exact HB.out | apply below_alloc | apply pw_below_drewN | apply below_drew1 | refine below_set ?_ GE601.out) | exact HB.out)⟩
      · replace c13 := Bool.eq_false_iff.mpr c13
        subst c13
        have H1 : (if a0_0 = 0 then (some (a0_1 == 0)) else (if a0_0 = 1 then (if a0_1 = 0 then (some true) else (some (a0_1 == 1))) else (if a0_0 = 2 then (if a0_1 ≥ (-1000000000000000) then (some (decide (a0_1 ≤ 1000000000000000))) else (some false)) else (if a0_0 = 3 then (if a0_1 ≥ (-1000000000) then (if a0_1 ≤ 1000000000 then (if a0_2 ≥ 0 then (if a0_2 ≤ 6 then (if a0_2 = 0 then (some true) else (some ((Int.tmod a0_1 10) != 0))) else (some false)) else (some false)) else (some false)) else (some false)) else (if a0_0 = 5 then (if a0_1 ≥ 0 then (some (decide (a0_1 ≤ 3652058))) else (some false)) else (if a0_0 = 4 then (if a0_1 = 0 then ((spec_l01Printable.f kj1 a0_3).bind fun t602 => (if t602 = true then (some (decide ((a0_3.size : Int) ≤ 200))) else (some false))) else (some false)) else (some false))))))) = some r := by rw [if_neg (show ¬ (false = true) by decide)] at H; exact H
        clear H; have H := H1; clear H1
        by_cases c14 : a0_0 = 0
        · rw [if_pos c14] at H
          have c14b0 : (a0_0 == 0) = true := beq_iff_eq.mpr c14; have c14b1 : (a0_0 != 0) = false := bne_eq_false_iff_eq.mpr c14; clear c14; obtain rfl := Option.some.inj H; have hcz15_0 : wc.cell? ⟨gb601, 0, none⟩ = some (.int .i64 a0_0) := (blk_cell BK601.out 0).trans rfl; have hcz15_1 : wc.cell? ⟨gb601, 1, none⟩ = some (.int .i64 a0_1) := (blk_cell BK601.out 1).trans rfl; have hcz15_2 : wc.cell? ⟨gb601, 2, none⟩ = some (.int .i64 a0_2) := (blk_cell BK601.out 2).trans rfl; have hcz15_3 : wc.cell? ⟨gb601, 3, none⟩ = some (.string a0_3) := (blk_cell BK601.out 3).trans rfl; have hfz15_0 := blk_frozen BK601.out 0; have hfz15_1 := blk_frozen BK601.out 1; have hfz15_2 := blk_frozen BK601.out 2; have hfz15_3 := blk_frozen BK601.out 3
          go_wp2
          go_ret
          exact ⟨by first | rfl | (simp [errW_none, errW_some] <;> rfl) | (simp [*, errW_none, errW_some] <;> rfl), by repeat (first | (with_reducible first | exact HB.out | apply below_alloc | apply pw_below_drewN | apply below_drew1 | refine below_set ?_ GE601.out) | exact HB.out)⟩
        · rw [if_neg c14] at H
          have c14b0 : (a0_0 == 0) = false := beq_eq_false_iff_ne.mpr c14; have c14b1 : (a0_0 != 0) = true := bne_iff_ne.mpr c14
          by_cases c16 : a0_0 = 1
          · rw [if_pos c16] at H
            have c16b0 : (a0_0 == 1) = true := beq_iff_eq.mpr c16; have c16b1 : (a0_0 != 1) = false := bne_eq_false_iff_eq.mpr c16; clear c16
            by_cases c17 : a0_1 = 0
            · rw [if_pos c17] at H
              have c17b0 : (a0_1 == 0) = true := beq_iff_eq.mpr c17; have c17b1 : (a0_1 != 0) = false := bne_eq_false_iff_eq.mpr c17; clear c17; obtain rfl := Option.some.inj H; have hcz18_0 : wc.cell? ⟨gb601, 0, none⟩ = some (.int .i64 a0_0) := (blk_cell BK601.out 0).trans rfl; have hcz18_1 : wc.cell? ⟨gb601, 1, none⟩ = some (.int .i64 a0_1) := (blk_cell BK601.out 1).trans rfl; have hcz18_2 : wc.cell? ⟨gb601, 2, none⟩ = some (.int .i64 a0_2) := (blk_cell BK601.out 2).trans rfl; have hcz18_3 : wc.cell? ⟨gb601, 3, none⟩ = some (.string a0_3) := (blk_cell BK601.out 3).trans rfl; have hfz18_0 := blk_frozen BK601.out 0; have hfz18_1 := blk_frozen BK601.out 1; have hfz18_2 := blk_frozen BK601.out 2; have hfz18_3 := blk_frozen BK601.out 3
              go_wp2
              go_ret
              exact ⟨by first | rfl | (simp [errW_none, errW_some] <;> rfl) | (simp [*, errW_none, errW_some] <;> rfl), by repeat (first | (with_reducible first | exact HB.out | apply below_alloc | apply pw_below_drewN | apply below_drew1 | refine below_set ?_ GE601.out) | exact HB.out)⟩
            · rw [if_neg c17] at H
              have c17b0 : (a0_1 == 0) = false := beq_eq_false_iff_ne.mpr c17; have c17b1 : (a0_1 != 0) = true := bne_iff_ne.mpr c17; obtain rfl := Option.some.inj H; have hcz19_0 : wc.cell? ⟨gb601, 0, none⟩ = some (.int .i64 a0_0) := (blk_cell BK601.out 0).trans rfl; have hcz19_1 : wc.cell? ⟨gb601, 1, none⟩ = some (.int .i64 a0_1) := (blk_cell BK601.out 1).trans rfl; have hcz19_2 : wc.cell? ⟨gb601, 2, none⟩ = some (.int .i64 a0_2) := (blk_cell BK601.out 2).trans rfl; have hcz19_3 : wc.cell? ⟨gb601, 3, none⟩ = some (.string a0_3) := (blk_cell BK601.out 3).trans rfl; have hfz19_0 := blk_frozen BK601.out 0; have hfz19_1 := blk_frozen BK601.out 1; have hfz19_2 := blk_frozen BK601.out 2; have hfz19_3 := blk_frozen BK601.out 3
              go_wp2
              go_ret
              exact ⟨by first | rfl | (simp [errW_none, errW_some] <;> rfl) | (simp [*, errW_none, errW_some] <;> rfl), by repeat (first | (with_reducible first | exact HB.out | apply below_alloc | apply pw_below_drewN | apply below_drew1 | refine below_set ?_ GE601.out) | exact HB.out)⟩
          · rw [if_neg c16] at H
            have c16b0 : (a0_0 == 1) = false := beq_eq_false_iff_ne.mpr c16; have c16b1 : (a0_0 != 1) = true := bne_iff_ne.mpr c16
            by_cases c20 : a0_0 = 2
            · rw [if_pos c20] at H
              have c20b0 : (a0_0 == 2) = true := beq_iff_eq.mpr c20; have c20b1 : (a0_0 != 2) = false := bne_eq_false_iff_eq.mpr c20; clear c20
              by_cases c21 : a0_1 ≥ (-1000000000000000)
              · rw [if_pos c21] at H
                have c21b0 : decide ((-1000000000000000) ≤ a0_1) = true := decide_eq_true c21; clear c21; obtain rfl := Option.some.inj H; have hcz22_0 : wc.cell? ⟨gb601, 0, none⟩ = some (.int .i64 a0_0) := (blk_cell BK601.out 0).trans rfl; have hcz22_1 : wc.cell? ⟨gb601, 1, none⟩ = some (.int .i64 a0_1) := (blk_cell BK601.out 1).trans rfl; have hcz22_2 : wc.cell? ⟨gb601, 2, none⟩ = some (.int .i64 a0_2) := (blk_cell BK601.out 2).trans rfl; have hcz22_3 : wc.cell? ⟨gb601, 3, none⟩ = some (.string a0_3) := (blk_cell BK601.out 3).trans rfl; have hfz22_0 := blk_frozen BK601.out 0; have hfz22_1 := blk_frozen BK601.out 1; have hfz22_2 := blk_frozen BK601.out 2; have hfz22_3 := blk_frozen BK601.out 3
                go_wp2
                go_ret
                exact ⟨by first | rfl | (simp [errW_none, errW_some] <;> rfl) | (simp [*, errW_none, errW_some] <;> rfl), by repeat (first | (with_reducible first | exact HB.out | apply below_alloc | apply pw_below_drewN | apply below_drew1 | refine below_set ?_ GE601.out) | exact HB.out)⟩
              · rw [if_neg c21] at H
                have c21b0 : decide ((-1000000000000000) ≤ a0_1) = false := decide_eq_false c21; clear c21; obtain rfl := Option.some.inj H; have hcz23_0 : wc.cell? ⟨gb601, 0, none⟩ = some (.int .i64 a0_0) := (blk_cell BK601.out 0).trans rfl; have hcz23_1 : wc.cell? ⟨gb601, 1, none⟩ = some (.int .i64 a0_1) := (blk_cell BK601.out 1).trans rfl; have hcz23_2 : wc.cell? ⟨gb601, 2, none⟩ = some (.int .i64 a0_2) := (blk_cell BK601.out 2).trans rfl; have hcz23_3 : wc.cell? ⟨gb601, 3, none⟩ = some (.string a0_3) := (blk_cell BK601.out 3).trans rfl; have hfz23_0 := blk_frozen BK601.out 0; have hfz23_1 := blk_frozen BK601.out 1; have hfz23_2 := blk_frozen BK601.out 2; have hfz23_3 := blk_frozen BK601.out 3
                go_wp2
                go_ret
                exact ⟨by first | rfl | (simp [errW_none, errW_some] <;> rfl) | (simp [*, errW_none, errW_some] <;> rfl), by repeat (first | (with_reducible first | exact HB.out | apply below_alloc | apply pw_below_drewN | apply below_drew1 | refine below_set ?_ GE601.out) | exact HB.out)⟩
            · rw [if_neg c20] at H
              have c20b0 : (a0_0 == 2) = false := beq_eq_false_iff_ne.mpr c20; have c20b1 : (a0_0 != 2) = true := bne_iff_ne.mpr c20
              by_cases c24 : a0_0 = 3
              · rw [if_pos c24] at H
                have c24b0 : (a0_0 == 3) = true := beq_iff_eq.mpr c24; have c24b1 : (a0_0 != 3) = false := bne_eq_false_iff_eq.mpr c24; clear c24
                by_cases c25 : a0_1 ≥ (-1000000000)
                · rw [if_pos c25] at H
                  have c25b0 : decide ((-1000000000) ≤ a0_1) = true := decide_eq_true c25; clear c25
                  by_cases c26 : a0_1 ≤ 1000000000
                  · rw [if_pos c26] at H
                    have c26b0 : decide (a0_1 ≤ 1000000000) = true := decide_eq_true c26; clear c26
                    by_cases c27 : a0_2 ≥ 0
                    · rw [if_pos c27] at H
                      have c27b0 : decide (0 ≤ a0_2) = true := decide_eq_true c27; clear c27
                      by_cases c28 : a0_2 ≤ 6
                      · rw [if_pos c28] at H
                        have c28b0 : decide (a0_2 ≤ 6) = true := decide_eq_true c28; clear c28
                        by_cases c29 : a0_2 = 0
                        · rw [if_pos c29] at H
                          have c29b0 : (a0_2 == 0) = true := beq_iff_eq.mpr c29; have c29b1 : (a0_2 != 0) = false := bne_eq_false_iff_eq.mpr c29; clear c29; obtain rfl := Option.some.inj H; have hcz30_0 : wc.cell? ⟨gb601, 0, none⟩ = some (.int .i64 a0_0) := (blk_cell BK601.out 0).trans rfl; have hcz30_1 : wc.cell? ⟨gb601, 1, none⟩ = some (.int .i64 a0_1) := (blk_cell BK601.out 1).trans rfl; have hcz30_2 : wc.cell? ⟨gb601, 2, none⟩ = some (.int .i64 a0_2) := (blk_cell BK601.out 2).trans rfl; have hcz30_3 : wc.cell? ⟨gb601, 3, none⟩ = some (.string a0_3) := (blk_cell BK601.out 3).trans rfl; have hfz30_0 := blk_frozen BK601.out 0; have hfz30_1 := blk_frozen BK601.out 1; have hfz30_2 := blk_frozen BK601.out 2; have hfz30_3 := blk_frozen BK601.out 3
                          go_wp2
                          go_ret
                          exact ⟨by first | rfl | (simp [errW_none, errW_some] <;> rfl) | (simp [*, errW_none, errW_some] <;> rfl), by repeat (first | (with_reducible first | exact HB.out | apply below_alloc | apply pw_below_drewN | apply below_drew1 | refine below_set ?_ GE601.out) | exact HB.out)⟩
                        · rw [if_neg c29] at H
                          have c29b0 : (a0_2 == 0) = false := beq_eq_false_iff_ne.mpr c29; have c29b1 : (a0_2 != 0) = true := bne_iff_ne.mpr c29; obtain rfl := Option.some.inj H; have hcz31_0 : wc.cell? ⟨gb601, 0, none⟩ = some (.int .i64 a0_0) := (blk_cell BK601.out 0).trans rfl; have hcz31_1 : wc.cell? ⟨gb601, 1, none⟩ = some (.int .i64 a0_1) := (blk_cell BK601.out 1).trans rfl; have hcz31_2 : wc.cell? ⟨gb601, 2, none⟩ = some (.int .i64 a0_2) := (blk_cell BK601.out 2).trans rfl; have hcz31_3 : wc.cell? ⟨gb601, 3, none⟩ = some (.string a0_3) := (blk_cell BK601.out 3).trans rfl; have hfz31_0 := blk_frozen BK601.out 0; have hfz31_1 := blk_frozen BK601.out 1; have hfz31_2 := blk_frozen BK601.out 2; have hfz31_3 := blk_frozen BK601.out 3
                          go_wp2
                          go_ret
                          exact ⟨by first | rfl | (simp [errW_none, errW_some] <;> rfl) | (simp [*, errW_none, errW_some] <;> rfl), by repeat (first | (with_reducible first | exact HB.out | apply below_alloc | apply pw_below_drewN | apply below_drew1 | refine below_set ?_ GE601.out) | exact HB.out)⟩
                      · rw [if_neg c28] at H
                        have c28b0 : decide (a0_2 ≤ 6) = false := decide_eq_false c28; clear c28; obtain rfl := Option.some.inj H; have hcz32_0 : wc.cell? ⟨gb601, 0, none⟩ = some (.int .i64 a0_0) := (blk_cell BK601.out 0).trans rfl; have hcz32_1 : wc.cell? ⟨gb601, 1, none⟩ = some (.int .i64 a0_1) := (blk_cell BK601.out 1).trans rfl; have hcz32_2 : wc.cell? ⟨gb601, 2, none⟩ = some (.int .i64 a0_2) := (blk_cell BK601.out 2).trans rfl; have hcz32_3 : wc.cell? ⟨gb601, 3, none⟩ = some (.string a0_3) := (blk_cell BK601.out 3).trans rfl; have hfz32_0 := blk_frozen BK601.out 0; have hfz32_1 := blk_frozen BK601.out 1; have hfz32_2 := blk_frozen BK601.out 2; have hfz32_3 := blk_frozen BK601.out 3
                        go_wp2
                        go_ret
                        exact ⟨by first | rfl | (simp [errW_none, errW_some] <;> rfl) | (simp [*, errW_none, errW_some] <;> rfl), by repeat (first | (with_reducible first | exact HB.out | apply below_alloc | apply pw_below_drewN | apply below_drew1 | refine below_set ?_ GE601.out) | exact HB.out)⟩
                    · rw [if_neg c27] at H
                      have c27b0 : decide (0 ≤ a0_2) = false := decide_eq_false c27; clear c27; obtain rfl := Option.some.inj H; have hcz33_0 : wc.cell? ⟨gb601, 0, none⟩ = some (.int .i64 a0_0) := (blk_cell BK601.out 0).trans rfl; have hcz33_1 : wc.cell? ⟨gb601, 1, none⟩ = some (.int .i64 a0_1) := (blk_cell BK601.out 1).trans rfl; have hcz33_2 : wc.cell? ⟨gb601, 2, none⟩ = some (.int .i64 a0_2) := (blk_cell BK601.out 2).trans rfl; have hcz33_3 : wc.cell? ⟨gb601, 3, none⟩ = some (.string a0_3) := (blk_cell BK601.out 3).trans rfl; have hfz33_0 := blk_frozen BK601.out 0; have hfz33_1 := blk_frozen BK601.out 1; have hfz33_2 := blk_frozen BK601.out 2; have hfz33_3 := blk_frozen BK601.out 3
                      go_wp2
                      go_ret
                      exact ⟨by first | rfl | (simp [errW_none, errW_some] <;> rfl) | (simp [*, errW_none, errW_some] <;> rfl), by repeat (first | (with_reducible first | exact HB.out | apply below_alloc | apply pw_below_drewN | apply below_drew1 | refine below_set ?_ GE601.out) | exact HB.out)⟩
                  · rw [if_neg c26] at H
                    have c26b0 : decide (a0_1 ≤ 1000000000) = false := decide_eq_false c26; clear c26; obtain rfl := Option.some.inj H; have hcz34_0 : wc.cell? ⟨gb601, 0, none⟩ = some (.int .i64 a0_0) := (blk_cell BK601.out 0).trans rfl; have hcz34_1 : wc.cell? ⟨gb601, 1, none⟩ = some (.int .i64 a0_1) := (blk_cell BK601.out 1).trans rfl; have hcz34_2 : wc.cell? ⟨gb601, 2, none⟩ = some (.int .i64 a0_2) := (blk_cell BK601.out 2).trans rfl; have hcz34_3 : wc.cell? ⟨gb601, 3, none⟩ = some (.string a0_3) := (blk_cell BK601.out 3).trans rfl; have hfz34_0 := blk_frozen BK601.out 0; have hfz34_1 := blk_frozen BK601.out 1; have hfz34_2 := blk_frozen BK601.out 2; have hfz34_3 := blk_frozen BK601.out 3
                    go_wp2
                    go_ret
                    exact ⟨by first | rfl | (simp [errW_none, errW_some] <;> rfl) | (simp [*, errW_none, errW_some] <;> rfl), by repeat (first | (with_reducible first | exact HB.out | apply below_alloc | apply pw_below_drewN | apply below_drew1 | refine below_set ?_ GE601.out) | exact HB.out)⟩
                · rw [if_neg c25] at H
                  have c25b0 : decide ((-1000000000) ≤ a0_1) = false := decide_eq_false c25; clear c25; obtain rfl := Option.some.inj H; have hcz35_0 : wc.cell? ⟨gb601, 0, none⟩ = some (.int .i64 a0_0) := (blk_cell BK601.out 0).trans rfl; have hcz35_1 : wc.cell? ⟨gb601, 1, none⟩ = some (.int .i64 a0_1) := (blk_cell BK601.out 1).trans rfl; have hcz35_2 : wc.cell? ⟨gb601, 2, none⟩ = some (.int .i64 a0_2) := (blk_cell BK601.out 2).trans rfl; have hcz35_3 : wc.cell? ⟨gb601, 3, none⟩ = some (.string a0_3) := (blk_cell BK601.out 3).trans rfl; have hfz35_0 := blk_frozen BK601.out 0; have hfz35_1 := blk_frozen BK601.out 1; have hfz35_2 := blk_frozen BK601.out 2; have hfz35_3 := blk_frozen BK601.out 3
                  go_wp2
                  go_ret
                  exact ⟨by first | rfl | (simp [errW_none, errW_some] <;> rfl) | (simp [*, errW_none, errW_some] <;> rfl), by repeat (first | (with_reducible first | exact HB.out | apply below_alloc | apply pw_below_drewN | apply below_drew1 | refine below_set ?_ GE601.out) | exact HB.out)⟩
              · rw [if_neg c24] at H
                have c24b0 : (a0_0 == 3) = false := beq_eq_false_iff_ne.mpr c24; have c24b1 : (a0_0 != 3) = true := bne_iff_ne.mpr c24
                by_cases c36 : a0_0 = 5
                · rw [if_pos c36] at H
                  have c36b0 : (a0_0 == 5) = true := beq_iff_eq.mpr c36; have c36b1 : (a0_0 != 5) = false := bne_eq_false_iff_eq.mpr c36; clear c36
                  by_cases c37 : a0_1 ≥ 0
                  · rw [if_pos c37] at H
                    have c37b0 : decide (0 ≤ a0_1) = true := decide_eq_true c37; clear c37; obtain rfl := Option.some.inj H; have hcz38_0 : wc.cell? ⟨gb601, 0, none⟩ = some (.int .i64 a0_0) := (blk_cell BK601.out 0).trans rfl; have hcz38_1 : wc.cell? ⟨gb601, 1, none⟩ = some (.int .i64 a0_1) := (blk_cell BK601.out 1).trans rfl; have hcz38_2 : wc.cell? ⟨gb601, 2, none⟩ = some (.int .i64 a0_2) := (blk_cell BK601.out 2).trans rfl; have hcz38_3 : wc.cell? ⟨gb601, 3, none⟩ = some (.string a0_3) := (blk_cell BK601.out 3).trans rfl; have hfz38_0 := blk_frozen BK601.out 0; have hfz38_1 := blk_frozen BK601.out 1; have hfz38_2 := blk_frozen BK601.out 2; have hfz38_3 := blk_frozen BK601.out 3
                    go_wp2
                    go_ret
                    exact ⟨by first | rfl | (simp [errW_none, errW_some] <;> rfl) | (simp [*, errW_none, errW_some] <;> rfl), by repeat (first | (with_reducible first | exact HB.out | apply below_alloc | apply pw_below_drewN | apply below_drew1 | refine below_set ?_ GE601.out) | exact HB.out)⟩
                  · rw [if_neg c37] at H
                    have c37b0 : decide (0 ≤ a0_1) = false := decide_eq_false c37; clear c37; obtain rfl := Option.some.inj H; have hcz39_0 : wc.cell? ⟨gb601, 0, none⟩ = some (.int .i64 a0_0) := (blk_cell BK601.out 0).trans rfl; have hcz39_1 : wc.cell? ⟨gb601, 1, none⟩ = some (.int .i64 a0_1) := (blk_cell BK601.out 1).trans rfl; have hcz39_2 : wc.cell? ⟨gb601, 2, none⟩ = some (.int .i64 a0_2) := (blk_cell BK601.out 2).trans rfl; have hcz39_3 : wc.cell? ⟨gb601, 3, none⟩ = some (.string a0_3) := (blk_cell BK601.out 3).trans rfl; have hfz39_0 := blk_frozen BK601.out 0; have hfz39_1 := blk_frozen BK601.out 1; have hfz39_2 := blk_frozen BK601.out 2; have hfz39_3 := blk_frozen BK601.out 3
                    go_wp2
                    go_ret
                    exact ⟨by first | rfl | (simp [errW_none, errW_some] <;> rfl) | (simp [*, errW_none, errW_some] <;> rfl), by repeat (first | (with_reducible first | exact HB.out | apply below_alloc | apply pw_below_drewN | apply below_drew1 | refine below_set ?_ GE601.out) | exact HB.out)⟩
                · rw [if_neg c36] at H
                  have c36b0 : (a0_0 == 5) = false := beq_eq_false_iff_ne.mpr c36; have c36b1 : (a0_0 != 5) = true := bne_iff_ne.mpr c36
                  by_cases c40 : a0_0 = 4
                  · rw [if_pos c40] at H
                    have c40b0 : (a0_0 == 4) = true := beq_iff_eq.mpr c40; have c40b1 : (a0_0 != 4) = false := bne_eq_false_iff_eq.mpr c40; clear c40
                    by_cases c41 : a0_1 = 0
                    · rw [if_pos c41] at H
                      have c41b0 : (a0_1 == 0) = true := beq_iff_eq.mpr c41; have c41b1 : (a0_1 != 0) = false := bne_eq_false_iff_eq.mpr c41; clear c41; replace H := Option.bind_eq_some_iff.mp H; obtain ⟨t602, A420, H⟩ := H; replace H : (if t602 = true then (some (decide ((a0_3.size : Int) ≤ 200))) else (some false)) = some r := H; have A42 := Aside0.mk A420; clear A420
                      by_cases c43 : t602 = true
                      · subst c43
                        have H1 : (some (decide ((a0_3.size : Int) ≤ 200))) = some r := by rw [if_pos rfl] at H; exact H
                        clear H; have H := H1; clear H1; obtain rfl := Option.some.inj H; have hcz44_0 : wc.cell? ⟨gb601, 0, none⟩ = some (.int .i64 a0_0) := (blk_cell BK601.out 0).trans rfl; have hcz44_1 : wc.cell? ⟨gb601, 1, none⟩ = some (.int .i64 a0_1) := (blk_cell BK601.out 1).trans rfl; have hcz44_2 : wc.cell? ⟨gb601, 2, none⟩ = some (.int .i64 a0_2) := (blk_cell BK601.out 2).trans rfl; have hcz44_3 : wc.cell? ⟨gb601, 3, none⟩ = some (.string a0_3) := (blk_cell BK601.out 3).trans rfl; have hfz44_0 := blk_frozen BK601.out 0; have hfz44_1 := blk_frozen BK601.out 1; have hfz44_2 := blk_frozen BK601.out 2; have hfz44_3 := blk_frozen BK601.out 3
                        go_wp2_with (first | (go_at_call 46; (with_reducible refine (spec_l01Printable.calls kj1 a0_3 true _ A42.out).mono ?_); rintro e w' ⟨rfl, ⟨nd, rfl⟩⟩))
                        go_ret
                        exact ⟨by first | rfl | (simp [errW_none, errW_some] <;> rfl) | (simp [*, errW_none, errW_some] <;> rfl), by repeat (first | (with_reducible first | exact HB.out | apply below_alloc | apply pw_below_drewN | apply below_drew1 | refine below_set ?_ GE601.out) | exact HB.out)⟩
                      · replace c43 := Bool.eq_false_iff.mpr c43
                        subst c43
                        have H1 : (some false) = some r := by rw [if_neg (show ¬ (false = true) by decide)] at H; exact H
                        clear H; have H := H1; clear H1; obtain rfl := Option.some.inj H; have hcz45_0 : wc.cell? ⟨gb601, 0, none⟩ = some (.int .i64 a0_0) := (blk_cell BK601.out 0).trans rfl; have hcz45_1 : wc.cell? ⟨gb601, 1, none⟩ = some (.int .i64 a0_1) := (blk_cell BK601.out 1).trans rfl; have hcz45_2 : wc.cell? ⟨gb601, 2, none⟩ = some (.int .i64 a0_2) := (blk_cell BK601.out 2).trans rfl; have hcz45_3 : wc.cell? ⟨gb601, 3, none⟩ = some (.string a0_3) := (blk_cell BK601.out 3).trans rfl; have hfz45_0 := blk_frozen BK601.out 0; have hfz45_1 := blk_frozen BK601.out 1; have hfz45_2 := blk_frozen BK601.out 2; have hfz45_3 := blk_frozen BK601.out 3
                        go_wp2_with (first | (go_at_call 46; (with_reducible refine (spec_l01Printable.calls kj1 a0_3 false _ A42.out).mono ?_); rintro e w' ⟨rfl, ⟨nd, rfl⟩⟩))
                        go_ret
                        exact ⟨by first | rfl | (simp [errW_none, errW_some] <;> rfl) | (simp [*, errW_none, errW_some] <;> rfl), by repeat (first | (with_reducible first | exact HB.out | apply below_alloc | apply pw_below_drewN | apply below_drew1 | refine below_set ?_ GE601.out) | exact HB.out)⟩
                    · rw [if_neg c41] at H
                      have c41b0 : (a0_1 == 0) = false := beq_eq_false_iff_ne.mpr c41; have c41b1 : (a0_1 != 0) = true := bne_iff_ne.mpr c41; obtain rfl := Option.some.inj H; have hcz46_0 : wc.cell? ⟨gb601, 0, none⟩ = some (.int .i64 a0_0) := (blk_cell BK601.out 0).trans rfl; have hcz46_1 : wc.cell? ⟨gb601, 1, none⟩ = some (.int .i64 a0_1) := (blk_cell BK601.out 1).trans rfl; have hcz46_2 : wc.cell? ⟨gb601, 2, none⟩ = some (.int .i64 a0_2) := (blk_cell BK601.out 2).trans rfl; have hcz46_3 : wc.cell? ⟨gb601, 3, none⟩ = some (.string a0_3) := (blk_cell BK601.out 3).trans rfl; have hfz46_0 := blk_frozen BK601.out 0; have hfz46_1 := blk_frozen BK601.out 1; have hfz46_2 := blk_frozen BK601.out 2; have hfz46_3 := blk_frozen BK601.out 3
                      go_wp2
                      go_ret
                      exact ⟨by first | rfl | (simp [errW_none, errW_some] <;> rfl) | (simp [*, errW_none, errW_some] <;> rfl), by repeat (first | (with_reducible first | exact HB.out | apply below_alloc | apply pw_below_drewN | apply below_drew1 | refine below_set ?_ GE601.out) | exact HB.out)⟩
                  · rw [if_neg c40] at H
                    have c40b0 : (a0_0 == 4) = false := beq_eq_false_iff_ne.mpr c40; have c40b1 : (a0_0 != 4) = true := bne_iff_ne.mpr c40; obtain rfl := Option.some.inj H; have hcz47_0 : wc.cell? ⟨gb601, 0, none⟩ = some (.int .i64 a0_0) := (blk_cell BK601.out 0).trans rfl; have hcz47_1 : wc.cell? ⟨gb601, 1, none⟩ = some (.int .i64 a0_1) := (blk_cell BK601.out 1).trans rfl; have hcz47_2 : wc.cell? ⟨gb601, 2, none⟩ = some (.int .i64 a0_2) := (blk_cell BK601.out 2).trans rfl; have hcz47_3 : wc.cell? ⟨gb601, 3, none⟩ = some (.string a0_3) := (blk_cell BK601.out 3).trans rfl; have hfz47_0 := blk_frozen BK601.out 0; have hfz47_1 := blk_frozen BK601.out 1; have hfz47_2 := blk_frozen BK601.out 2; have hfz47_3 := blk_frozen BK601.out 3
                    go_wp2
                    go_ret
                    exact ⟨by first | rfl | (simp [errW_none, errW_some] <;> rfl) | (simp [*, errW_none, errW_some] <;> rfl), by repeat (first | (with_reducible first | exact HB.out | apply below_alloc | apply pw_below_drewN | apply below_drew1 | refine below_set ?_ GE601.out) | exact HB.out)⟩

/-! ### spec_l01Power: function 47 -/
set_option maxRecDepth 100000 in
def spec_l01Power.l0 : Nat → Int → Int → Int → Option (Int)
  | 0, _, _, _ => none
  | k + 1, x0, x3, x4 => if x4 < x0 then (spec_l01Power.l0 k x0 (wrap64 (x3 * 10)) (wrap64 (x4 + 1))) else (some x3)
def spec_l01Power.f (k : Nat) (a0 : Int) : Option (Int) := spec_l01Power.l0 k a0 1 0
set_option maxHeartbeats 8000000 in
set_option maxRecDepth 100000 in
theorem spec_l01Power.calls (k : Nat) (a0 : Int) (r : Int) (w : World) (h : spec_l01Power.f k a0 = some r) :
    Calls Try.prog 47 #[.int .i64 a0] w fun e w' => e = .returned (.int .i64 r) ∧ Drawn0 w w' := by
  have H : (spec_l01Power.l0 k a0 1 0) = some r := h; clear h; have H' := Aside0.mk H; clear H
  go_enter Try.func47, Try.ntmps47
  go_wp2
  go_loopg [3, 4] k (fun kq v3 v4 w' => ∃ (x3_1 : Int) (x4_1 : Int), v3 = .int .i64 x3_1 ∧ v4 = .int .i64 x4_1 ∧ Aside0 (spec_l01Power.l0 kq a0 x3_1 x4_1 = some r) ∧ Aside0 (kq ≤ k) ∧ Drawn0 w w')
  case atStart => exact ⟨(1), (0), (by first | rfl | (simp; done) | (simp [*]; done)), (by first | rfl | (simp; done) | (simp [*]; done)), H', ⟨Nat.le_refl _⟩, by repeat (first | exact Drawn0.refl _ | apply Drawn0.step)⟩
  case round =>
    clear H'; obtain ⟨x3_1, x4_1, rfl, rfl, HA, HK1, ⟨m1, rfl⟩⟩ := hrel
    cases gk with
    | zero => exact absurd HA.out (by simp [spec_l01Power.l0])
    | succ k1 =>
      have H := HA.out; clear HA; simp only [spec_l01Power.l0] at H
      by_cases c2 : x4_1 < a0
      · rw [if_pos c2] at H
        have c2b0 : decide (x4_1 < a0) = true := decide_eq_true c2; clear c2; have H' := Aside0.mk H; clear H
        go_wp2
        go_roundg k1
        case measure => have := HK1.out; omega
        case rel => exact ⟨(wrap64 (x3_1 * 10)), (wrap64 (x4_1 + 1)), (by first | rfl | (simp; done) | (simp [*]; done)), (by first | rfl | (simp; done) | (simp [*]; done)), H', ⟨by have := HK1.out; omega⟩, by repeat (first | exact Drawn0.refl _ | apply Drawn0.step)⟩
      · rw [if_neg c2] at H
        have c2b0 : decide (x4_1 < a0) = false := decide_eq_false c2; clear c2; obtain rfl := Option.some.inj H
        go_wp2
        go_ret
        exact ⟨by first | rfl | (simp; done) | (simp [*]; done), by repeat (first | exact Drawn0.refl _ | apply Drawn0.step)⟩

/-! ### spec_l01Split: function 21 -/
def spec_l01Split.f (k : Nat) (a0_0 : Int) (a0_1 : Int) (a0_2 : Int) (a0_3 : ByteArray) : Option (Int × Int) := if a0_0 = 2 then (some (a0_1, 0)) else ((spec_l01Power.f k a0_2).bind fun t604 => (if t604 = 0 then (none) else (if (Int.tmod a0_1 t604) < 0 then ((spec_l01Power.f k (wrap64 (6 - a0_2))).bind fun t605 => (some (wrap64 ((wrap64 (Int.tdiv a0_1 t604)) - 1), wrap64 ((wrap64 ((Int.tmod a0_1 t604) + t604)) * t605)))) else ((spec_l01Power.f k (wrap64 (6 - a0_2))).bind fun t606 => (some (wrap64 (Int.tdiv a0_1 t604), wrap64 ((Int.tmod a0_1 t604) * t606)))))))
set_option maxHeartbeats 8000000 in
set_option maxRecDepth 100000 in
theorem spec_l01Split.calls (k : Nat) (a0_0 : Int) (a0_1 : Int) (a0_2 : Int) (a0_3 : ByteArray) (r1 : Int) (r2 : Int) (w : World) (h : spec_l01Split.f k a0_0 a0_1 a0_2 a0_3 = some (r1, r2)) :
    Calls Try.prog 21 #[.agg #[.int .i64 a0_0, .int .i64 a0_1, .int .i64 a0_2, .string a0_3]] w fun e w' => e = .returned (.tuple #[.int .i64 r1, .int .i64 r2]) ∧ Below w.heap.size w w' := by
  have hu42 := Try.underlying42; have HB := Aside0.mk (Below.refl w.heap.size w); have H : (if a0_0 = 2 then (some (a0_1, 0)) else ((spec_l01Power.f k a0_2).bind fun t604 => (if t604 = 0 then (none) else (if (Int.tmod a0_1 t604) < 0 then ((spec_l01Power.f k (wrap64 (6 - a0_2))).bind fun t605 => (some (wrap64 ((wrap64 (Int.tdiv a0_1 t604)) - 1), wrap64 ((wrap64 ((Int.tmod a0_1 t604) + t604)) * t605)))) else ((spec_l01Power.f k (wrap64 (6 - a0_2))).bind fun t606 => (some (wrap64 (Int.tdiv a0_1 t604), wrap64 ((Int.tmod a0_1 t604) * t606)))))))) = some (r1, r2) := h; clear h
  by_cases c2 : a0_0 = 2
  · rw [if_pos c2] at H
    have c2b0 : (a0_0 == 2) = true := beq_iff_eq.mpr c2; have c2b1 : (a0_0 != 2) = false := bne_eq_false_iff_eq.mpr c2; clear c2; simp only [Option.some.injEq, Prod.mk.injEq] at H; obtain ⟨rfl, rfl⟩ := H
    go_enter Try.func21, Try.ntmps21
    go_wp2_with (first | ((with_reducible refine gate_dst (N := 1) rfl ?_); refine box_event ?hg (N := 1) ?hd (cs := #[.int .i64 a0_0, .int .i64 a0_1, .int .i64 a0_2, .string a0_3]) (t := 42) ?hr ?_; (case hd => rfl); (case hg => rfl); (case hr => first | (go_simp; done) | (go_simp; rfl)); intro gb603 hg w3 hbox hb; have n0_ := Aside0.mk (below_step q2z0 hb); have n1_ := Aside0.mk (hbox); have n2_ := Aside0.mk ((by rw [hg]; exact (below_size q2z0) : w.heap.size ≤ gb603)); have n3_ := Aside0.mk ((by rw [hg]; exact (below_size q2z0) : w.heap.size ≤ gb603)); clear HB; have HB := n0_; have BK603 := n1_; have GW603 := n2_; have GE603 := n3_; clear n0_ n1_ n2_ n3_; clear hb hbox hg; have hcz4_0 : w3.cell? ⟨gb603, 0, none⟩ = some (.int .i64 a0_0) := (blk_cell BK603.out 0).trans rfl; have hcz4_1 : w3.cell? ⟨gb603, 1, none⟩ = some (.int .i64 a0_1) := (blk_cell BK603.out 1).trans rfl; have hcz4_2 : w3.cell? ⟨gb603, 2, none⟩ = some (.int .i64 a0_2) := (blk_cell BK603.out 2).trans rfl; have hcz4_3 : w3.cell? ⟨gb603, 3, none⟩ = some (.string a0_3) := (blk_cell BK603.out 3).trans rfl; have hfz4_0 := blk_frozen BK603.out 0; have hfz4_1 := blk_frozen BK603.out 1; have hfz4_2 := blk_frozen BK603.out 2; have hfz4_3 := blk_frozen BK603.out 3))
    go_ret2
    exact ⟨by first | rfl | (simp [errW_none, errW_some] <;> rfl) | (simp [*, errW_none, errW_some] <;> rfl), by repeat (first | (with_reducible first | exact HB.out | apply below_alloc | apply pw_below_drewN | apply below_drew1 | refine below_set ?_ GE603.out) | exact HB.out)⟩
  · rw [if_neg c2] at H
    have c2b0 : (a0_0 == 2) = false := beq_eq_false_iff_ne.mpr c2; have c2b1 : (a0_0 != 2) = true := bne_iff_ne.mpr c2; replace H := Option.bind_eq_some_iff.mp H; obtain ⟨t604, A50, H⟩ := H; replace H : (if t604 = 0 then (none) else (if (Int.tmod a0_1 t604) < 0 then ((spec_l01Power.f k (wrap64 (6 - a0_2))).bind fun t605 => (some (wrap64 ((wrap64 (Int.tdiv a0_1 t604)) - 1), wrap64 ((wrap64 ((Int.tmod a0_1 t604) + t604)) * t605)))) else ((spec_l01Power.f k (wrap64 (6 - a0_2))).bind fun t606 => (some (wrap64 (Int.tdiv a0_1 t604), wrap64 ((Int.tmod a0_1 t604) * t606)))))) = some (r1, r2) := H; have A5 := Aside0.mk A50; clear A50
    by_cases c6 : t604 = 0
    · rw [if_pos c6] at H
      exact absurd H (by simp)
    · rw [if_neg c6] at H
      have c6b0 : (t604 == 0) = false := beq_eq_false_iff_ne.mpr c6; have c6b1 : (t604 != 0) = true := bne_iff_ne.mpr c6
      by_cases c7 : (Int.tmod a0_1 t604) < 0
      · rw [if_pos c7] at H
        have c7b0 : decide ((Int.tmod a0_1 t604) < 0) = true := decide_eq_true c7; clear c7; replace H := Option.bind_eq_some_iff.mp H; obtain ⟨t605, A80, H⟩ := H; replace H : (some (wrap64 ((wrap64 (Int.tdiv a0_1 t604)) - 1), wrap64 ((wrap64 ((Int.tmod a0_1 t604) + t604)) * t605))) = some (r1, r2) := H; have A8 := Aside0.mk A80; clear A80; simp only [Option.some.injEq, Prod.mk.injEq] at H; obtain ⟨rfl, rfl⟩ := H
        go_enter Try.func21, Try.ntmps21
        go_wp2_with (first | ((with_reducible refine gate_dst (N := 1) rfl ?_); refine box_event ?hg (N := 1) ?hd (cs := #[.int .i64 a0_0, .int .i64 a0_1, .int .i64 a0_2, .string a0_3]) (t := 42) ?hr ?_; (case hd => rfl); (case hg => rfl); (case hr => first | (go_simp; done) | (go_simp; rfl)); intro gb603 hg w9 hbox hb; have n0_ := Aside0.mk (below_step q2z0 hb); have n1_ := Aside0.mk (hbox); have n2_ := Aside0.mk ((by rw [hg]; exact (below_size q2z0) : w.heap.size ≤ gb603)); have n3_ := Aside0.mk ((by rw [hg]; exact (below_size q2z0) : w.heap.size ≤ gb603)); clear HB; have HB := n0_; have BK603 := n1_; have GW603 := n2_; have GE603 := n3_; clear n0_ n1_ n2_ n3_; clear hb hbox hg; have hcz10_0 : w9.cell? ⟨gb603, 0, none⟩ = some (.int .i64 a0_0) := (blk_cell BK603.out 0).trans rfl; have hcz10_1 : w9.cell? ⟨gb603, 1, none⟩ = some (.int .i64 a0_1) := (blk_cell BK603.out 1).trans rfl; have hcz10_2 : w9.cell? ⟨gb603, 2, none⟩ = some (.int .i64 a0_2) := (blk_cell BK603.out 2).trans rfl; have hcz10_3 : w9.cell? ⟨gb603, 3, none⟩ = some (.string a0_3) := (blk_cell BK603.out 3).trans rfl; have hfz10_0 := blk_frozen BK603.out 0; have hfz10_1 := blk_frozen BK603.out 1; have hfz10_2 := blk_frozen BK603.out 2; have hfz10_3 := blk_frozen BK603.out 3) | ((with_reducible refine gate_callee (f := 47) rfl ?_); refine goesL_ (some 14) rfl rfl Try.func47 (by kernel_rfl) rfl #[.int .i64 a0_2] rfl (by (try simp only [List.map_toArray, List.map_cons, List.map_nil]); first | done | rfl | (simp only [List.length_drop, List.length_take]; rfl)) ?_; (with_reducible refine (spec_l01Power.calls k a0_2 t604 _ A5.out).mono ?_); rintro e w' ⟨rfl, ⟨nd, rfl⟩⟩; refine ⟨_, rfl, ?_⟩) | ((with_reducible refine gate_callee (f := 47) rfl ?_); refine goesL_ (some 35) rfl rfl Try.func47 (by kernel_rfl) rfl #[.int .i64 (wrap64 (6 - a0_2))] rfl (by (try simp only [List.map_toArray, List.map_cons, List.map_nil]); first | done | rfl | (simp only [List.length_drop, List.length_take]; rfl)) ?_; (with_reducible refine (spec_l01Power.calls k (wrap64 (6 - a0_2)) t605 _ A8.out).mono ?_); rintro e w' ⟨rfl, ⟨nd, rfl⟩⟩; refine ⟨_, rfl, ?_⟩))
        go_ret2
        exact ⟨by first | rfl | (simp [errW_none, errW_some] <;> rfl) | (simp [*, errW_none, errW_some] <;> rfl), by repeat (first | (with_reducible first | exact HB.out | apply below_alloc | apply pw_below_drewN | apply below_drew1 | refine below_set ?_ GE603.out) | exact HB.out)⟩
      · rw [if_neg c7] at H
        have c7b0 : decide ((Int.tmod a0_1 t604) < 0) = false := decide_eq_false c7; clear c7; replace H := Option.bind_eq_some_iff.mp H; obtain ⟨t606, A110, H⟩ := H; replace H : (some (wrap64 (Int.tdiv a0_1 t604), wrap64 ((Int.tmod a0_1 t604) * t606))) = some (r1, r2) := H; have A11 := Aside0.mk A110; clear A110; simp only [Option.some.injEq, Prod.mk.injEq] at H; obtain ⟨rfl, rfl⟩ := H
        go_enter Try.func21, Try.ntmps21
        go_wp2_with (first | ((with_reducible refine gate_dst (N := 1) rfl ?_); refine box_event ?hg (N := 1) ?hd (cs := #[.int .i64 a0_0, .int .i64 a0_1, .int .i64 a0_2, .string a0_3]) (t := 42) ?hr ?_; (case hd => rfl); (case hg => rfl); (case hr => first | (go_simp; done) | (go_simp; rfl)); intro gb603 hg w12 hbox hb; have n0_ := Aside0.mk (below_step q2z0 hb); have n1_ := Aside0.mk (hbox); have n2_ := Aside0.mk ((by rw [hg]; exact (below_size q2z0) : w.heap.size ≤ gb603)); have n3_ := Aside0.mk ((by rw [hg]; exact (below_size q2z0) : w.heap.size ≤ gb603)); clear HB; have HB := n0_; have BK603 := n1_; have GW603 := n2_; have GE603 := n3_; clear n0_ n1_ n2_ n3_; clear hb hbox hg; have hcz13_0 : w12.cell? ⟨gb603, 0, none⟩ = some (.int .i64 a0_0) := (blk_cell BK603.out 0).trans rfl; have hcz13_1 : w12.cell? ⟨gb603, 1, none⟩ = some (.int .i64 a0_1) := (blk_cell BK603.out 1).trans rfl; have hcz13_2 : w12.cell? ⟨gb603, 2, none⟩ = some (.int .i64 a0_2) := (blk_cell BK603.out 2).trans rfl; have hcz13_3 : w12.cell? ⟨gb603, 3, none⟩ = some (.string a0_3) := (blk_cell BK603.out 3).trans rfl; have hfz13_0 := blk_frozen BK603.out 0; have hfz13_1 := blk_frozen BK603.out 1; have hfz13_2 := blk_frozen BK603.out 2; have hfz13_3 := blk_frozen BK603.out 3) | ((with_reducible refine gate_callee (f := 47) rfl ?_); refine goesL_ (some 14) rfl rfl Try.func47 (by kernel_rfl) rfl #[.int .i64 a0_2] rfl (by (try simp only [List.map_toArray, List.map_cons, List.map_nil]); first | done | rfl | (simp only [List.length_drop, List.length_take]; rfl)) ?_; (with_reducible refine (spec_l01Power.calls k a0_2 t604 _ A5.out).mono ?_); rintro e w' ⟨rfl, ⟨nd, rfl⟩⟩; refine ⟨_, rfl, ?_⟩) | ((with_reducible refine gate_callee (f := 47) rfl ?_); refine goesL_ (some 35) rfl rfl Try.func47 (by kernel_rfl) rfl #[.int .i64 (wrap64 (6 - a0_2))] rfl (by (try simp only [List.map_toArray, List.map_cons, List.map_nil]); first | done | rfl | (simp only [List.length_drop, List.length_take]; rfl)) ?_; (with_reducible refine (spec_l01Power.calls k (wrap64 (6 - a0_2)) t606 _ A11.out).mono ?_); rintro e w' ⟨rfl, ⟨nd, rfl⟩⟩; refine ⟨_, rfl, ?_⟩))
        go_ret2
        exact ⟨by first | rfl | (simp [errW_none, errW_some] <;> rfl) | (simp [*, errW_none, errW_some] <;> rfl), by repeat (first | (with_reducible first | exact HB.out | apply below_alloc | apply pw_below_drewN | apply below_drew1 | refine below_set ?_ GE603.out) | exact HB.out)⟩

end Go.Proofs.Ytjplogeifleojaa.QFnKeyOrder
