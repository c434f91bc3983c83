/- The functions that the law reaches, each as a plain Lean function with the proof that the Go code comes to its answers: written by a program of this session. No condition. -/
import Derived.Test.YtjplogeifleojaaQFnExactKeyValuesx0
import Derived.Test.YtjplogeifleojaaQFnExactKeyValuesx3
namespace Go.Proofs.Ytjplogeifleojaa.QFnExactKeyValues
open Go.RowKit Go.Proofs.YtjplogeifleojaaW.PrintWords Go.Proofs.YtjplogeifleojaaW.PrintLast Go.Proofs.YtjplogeifleojaaW.PrintMore
attribute [local go_sem] max2_int min2_int max_two min_two max_three min_three max_four min_four str_gtr str_leq str_geq pw_at_slice   -- for this text's walks alone
set_option linter.unusedVariables false
set_option linter.unusedSimpArgs false

theorem q4z0 {P : Prop} (h : P := by (with_reducible repeat (first | refine blk_drewN ?_ _ | refine blk_drew ?_ | refine blk_alloc ?_ _)); refine blk_put (cs := #[.int .i64 0, .int .i64 0, .int .i64 0, .string (⟨#[]⟩ : ByteArray)]) ?_ 3 _ rfl; (with_reducible repeat (first | refine blk_drewN ?_ _ | refine blk_drew ?_ | refine blk_alloc ?_ _)); refine blk_put (cs := #[.int .i64 0, .int .i64 0, .int .i64 0, .string (⟨#[]⟩ : ByteArray)]) ?_ 2 _ rfl; (with_reducible repeat (first | refine blk_drewN ?_ _ | refine blk_drew ?_ | refine blk_alloc ?_ _)); refine blk_put (cs := #[.int .i64 0, .int .i64 0, .int .i64 0, .string (⟨#[]⟩ : ByteArray)]) ?_ 1 _ rfl; (with_reducible repeat (first | refine blk_drewN ?_ _ | refine blk_drew ?_ | refine blk_alloc ?_ _)); refine blk_put (cs := #[.int .i64 0, .int .i64 0, .int .i64 0, .string (⟨#[]⟩ : ByteArray)]) ?_ 0 _ rfl; (with_reducible repeat (first | refine blk_drewN ?_ _ | refine blk_drew ?_ | refine blk_alloc ?_ _)); exact BK610.out) : P := h
theorem q4z1 {P : Prop} (h : P := by (with_reducible repeat (first | refine blk_drewN ?_ _ | refine blk_drew ?_ | refine blk_alloc ?_ _)); refine blk_put (cs := #[.int .i64 3, .int .i64 x0_2, .int .i64 x1_2, .string (⟨#[]⟩ : ByteArray)]) ?_ 3 _ rfl; (with_reducible repeat (first | refine blk_drewN ?_ _ | refine blk_drew ?_ | refine blk_alloc ?_ _)); refine blk_put (cs := #[.int .i64 3, .int .i64 x0_2, .int .i64 0, .string (⟨#[]⟩ : ByteArray)]) ?_ 2 _ rfl; (with_reducible repeat (first | refine blk_drewN ?_ _ | refine blk_drew ?_ | refine blk_alloc ?_ _)); refine blk_put (cs := #[.int .i64 3, .int .i64 0, .int .i64 0, .string (⟨#[]⟩ : ByteArray)]) ?_ 1 _ rfl; (with_reducible repeat (first | refine blk_drewN ?_ _ | refine blk_drew ?_ | refine blk_alloc ?_ _)); refine blk_put (cs := #[.int .i64 0, .int .i64 0, .int .i64 0, .string (⟨#[]⟩ : ByteArray)]) ?_ 0 _ rfl; (with_reducible repeat (first | refine blk_drewN ?_ _ | refine blk_drew ?_ | refine blk_alloc ?_ _)); exact BK610.out) : P := h
theorem q4z2 {P : Prop} (h : P := by repeat (first | (with_reducible first | exact HB.out | apply below_alloc | apply pw_below_drewN | apply below_drew1) | exact HB.out)) : P := h
/-! ### spec_l01Half: function 60 -/
set_option maxRecDepth 100000 in
mutual
def spec_l01Half.j0 : Nat → Int → Int → Bool → Option (Int)
  | 0, _, _, _ => none
  | k + 1, x0, x1, x5 => if x1 = 0 then (none) else (if (wrap64 (2 * (Int.tmod x0 x1))) > x1 then (spec_l01Half.j1 k x5 (wrap64 (Int.tdiv x0 x1)) true) else (if (wrap64 (2 * (Int.tmod x0 x1))) = x1 then (spec_l01Half.j1 k x5 (wrap64 (Int.tdiv x0 x1)) ((Int.tmod (wrap64 (Int.tdiv x0 x1)) 2) == 1)) else (spec_l01Half.j1 k x5 (wrap64 (Int.tdiv x0 x1)) false)))
def spec_l01Half.j1 : Nat → Bool → Int → Bool → Option (Int)
  | 0, _, _, _ => none
  | k + 1, x5, x6, x33 => if x33 = true then (if x5 = true then (some (wrap64 (-(wrap64 (x6 + 1))))) else (some (wrap64 (x6 + 1)))) else (if x5 = true then (some (wrap64 (-x6))) else (some x6))
end
def spec_l01Half.f (k : Nat) (a0 : Int) (a1 : Int) : Option (Int) := if a0 < 0 then (spec_l01Half.j0 k (wrap64 (-a0)) a1 (decide (a0 < 0))) else (spec_l01Half.j0 k a0 a1 (decide (a0 < 0)))
set_option maxHeartbeats 8000000 in
set_option maxRecDepth 100000 in
theorem spec_l01Half.calls (k : Nat) (a0 : Int) (a1 : Int) (r : Int) (w : World) (h : spec_l01Half.f k a0 a1 = some r) :
    Calls Try.prog 60 #[.int .i64 a0, .int .i64 a1] w fun e w' => e = .returned (.int .i64 r) ∧ Drawn0 w w' := by
  have H : (if a0 < 0 then (spec_l01Half.j0 k (wrap64 (-a0)) a1 (decide (a0 < 0))) else (spec_l01Half.j0 k a0 a1 (decide (a0 < 0)))) = some r := h; clear h; have HC3 := Aside0.mk H; clear H
  go_enter Try.func60, Try.ntmps60
  go_upto_if 10 with (fail)
  go_cut [0] (fun v0 wc => ∃ (kq : Nat) (x0_2 : Int), v0 = .int .i64 x0_2 ∧ Aside0 (spec_l01Half.j0 kq x0_2 a1 (decide (a0 < 0)) = some r) ∧ Aside0 (kq ≤ k) ∧ Drawn0 w wc)
  case first =>
    have H := HC3.out; clear HC3
    by_cases c4 : a0 < 0
    · rw [if_pos c4] at H
      have c4b0 : decide (a0 < 0) = true := decide_eq_true c4; clear c4; (first | rw [c4b0] | (simp only [i64_w, i32_w]; rw [c4b0]) | skip); have H' := Aside0.mk H; clear H
      go_wp2
      rw [show Value.bool true = Value.bool (decide (a0 < 0)) from by rw [c4b0]]
      go_meet
      case rel => exact ⟨_, (wrap64 (-a0)), (by first | rfl | (simp; done) | (simp [*]; done)), H', ⟨by first | omega | exact Nat.le_refl _⟩, by repeat (first | exact Drawn0.refl _ | apply Drawn0.step)⟩
    · rw [if_neg c4] at H
      have c4b0 : decide (a0 < 0) = false := decide_eq_false c4; clear c4; (first | rw [c4b0] | (simp only [i64_w, i32_w]; rw [c4b0]) | skip); have H' := Aside0.mk H; clear H
      go_wp2
      rw [show Value.bool false = Value.bool (decide (a0 < 0)) from by rw [c4b0]]
      go_meet
      case rel => exact ⟨_, (a0), (by first | rfl | (simp; done) | (simp [*]; done)), H', ⟨by first | omega | exact Nat.le_refl _⟩, by repeat (first | exact Drawn0.refl _ | apply Drawn0.step)⟩
  case rest =>
    clear HC3; (try clear p2); (try clear c4); (try clear c4b0); obtain ⟨kq, x0_2, rfl, HA, HJ2, ⟨mc2, rfl⟩⟩ := hcut
    cases kq with
    | zero => exact absurd HA.out (by simp [spec_l01Half.j0])
    | succ kj2 =>
      have H := HA.out; clear HA; simp only [spec_l01Half.j0] at H
      by_cases c5 : a1 = 0
      · rw [if_pos c5] at H
        exact absurd H (by simp)
      · rw [if_neg c5] at H
        have c5b0 : (a1 == 0) = false := beq_eq_false_iff_ne.mpr c5; have c5b1 : (a1 != 0) = true := bne_iff_ne.mpr c5; have HC6 := Aside0.mk H; clear H
        go_upto_region 6 with (fail)
        go_cut [33] (fun v33 wc => ∃ (kq : Nat) (x33_5 : Bool), v33 = .bool x33_5 ∧ Aside0 (spec_l01Half.j1 kq (decide (a0 < 0)) (wrap64 (Int.tdiv x0_2 a1)) x33_5 = some r) ∧ Aside0 (kq ≤ kj2) ∧ Drawn0 w wc)
        case first =>
          have H := HC6.out; clear HC6
          by_cases c7 : (wrap64 (2 * (Int.tmod x0_2 a1))) > a1
          · rw [if_pos c7] at H
            have c7b0 : decide (a1 < (wrap64 (2 * (Int.tmod x0_2 a1)))) = true := decide_eq_true c7; clear c7; (first | rw [c7b0] | (simp only [i64_w, i32_w]; rw [c7b0]) | skip); have H' := Aside0.mk H; clear H
            go_wp2
            go_meet
            case rel => exact ⟨_, (true), (by first | rfl | (simp; done) | (simp [*]; done)), H', ⟨by have := HJ2.out; first | omega | exact Nat.le_refl _⟩, by repeat (first | exact Drawn0.refl _ | apply Drawn0.step)⟩
          · rw [if_neg c7] at H
            have c7b0 : decide (a1 < (wrap64 (2 * (Int.tmod x0_2 a1)))) = false := decide_eq_false c7; clear c7; (first | rw [c7b0] | (simp only [i64_w, i32_w]; rw [c7b0]) | skip)
            by_cases c8 : (wrap64 (2 * (Int.tmod x0_2 a1))) = a1
            · rw [if_pos c8] at H
              have c8b0 : ((wrap64 (2 * (Int.tmod x0_2 a1))) == a1) = true := beq_iff_eq.mpr c8; have c8b1 : ((wrap64 (2 * (Int.tmod x0_2 a1))) != a1) = false := bne_eq_false_iff_eq.mpr c8; clear c8; have H' := Aside0.mk H; clear H
              go_wp2
              go_meet
              case rel => exact ⟨_, (((Int.tmod (wrap64 (Int.tdiv x0_2 a1)) 2) == 1)), (by first | rfl | (simp; done) | (simp [*]; done)), H', ⟨by have := HJ2.out; first | omega | exact Nat.le_refl _⟩, by repeat (first | exact Drawn0.refl _ | apply Drawn0.step)⟩
            · rw [if_neg c8] at H
              have c8b0 : ((wrap64 (2 * (Int.tmod x0_2 a1))) == a1) = false := beq_eq_false_iff_ne.mpr c8; have c8b1 : ((wrap64 (2 * (Int.tmod x0_2 a1))) != a1) = true := bne_iff_ne.mpr c8; have H' := Aside0.mk H; clear H
              go_wp2
              go_meet
              case rel => exact ⟨_, (false), (by first | rfl | (simp; done) | (simp [*]; done)), H', ⟨by have := HJ2.out; first | omega | exact Nat.le_refl _⟩, by repeat (first | exact Drawn0.refl _ | apply Drawn0.step)⟩
        case rest =>
          clear HC6; (try clear c2); (try clear p2); (try clear c4); (try clear c4b0); (try clear c5); (try clear c5b0); (try clear c5b1); (try clear c6); (try clear p6); (try clear c7); (try clear c7b0); (try clear c8); (try clear c8b0); (try clear c8b1); (try clear p2); obtain ⟨kq, x33_5, rfl, HA, HJ5, ⟨mc5, rfl⟩⟩ := hcut
          cases kq with
          | zero => exact absurd HA.out (by simp [spec_l01Half.j1])
          | succ kj5 =>
            have H := HA.out; clear HA; simp only [spec_l01Half.j1] at H
            by_cases c9 : x33_5 = true
            · subst c9
              have H1 : (if (decide (a0 < 0)) = true then (some (wrap64 (-(wrap64 ((wrap64 (Int.tdiv x0_2 a1)) + 1))))) else (some (wrap64 ((wrap64 (Int.tdiv x0_2 a1)) + 1)))) = some r := by rw [if_pos rfl] at H; exact H
              clear H; have H := H1; clear H1
              by_cases c10 : (decide (a0 < 0)) = true
              · rw [if_pos c10] at H
                have c10b0 : (decide (a0 < 0)) = true := c10; clear c10; obtain rfl := Option.some.inj H; (first | rw [c10b0] | skip)
                go_wp2
                go_ret
                exact ⟨by first | rfl | (simp; done) | (simp [*]; done), by repeat (first | exact Drawn0.refl _ | apply Drawn0.step)⟩
              · rw [if_neg c10] at H
                have c10b0 : (decide (a0 < 0)) = false := by simpa using c10
                clear c10; obtain rfl := Option.some.inj H; (first | rw [c10b0] | skip)
                go_wp2
                go_ret
                exact ⟨by first | rfl | (simp; done) | (simp [*]; done), by repeat (first | exact Drawn0.refl _ | apply Drawn0.step)⟩
            · replace c9 := Bool.eq_false_iff.mpr c9
              subst c9
              have H1 : (if (decide (a0 < 0)) = true then (some (wrap64 (-(wrap64 (Int.tdiv x0_2 a1))))) else (some (wrap64 (Int.tdiv x0_2 a1)))) = some r := by rw [if_neg (show ¬ (false = true) by decide)] at H; exact H
              clear H; have H := H1; clear H1
              by_cases c11 : (decide (a0 < 0)) = true
              · rw [if_pos c11] at H
                have c11b0 : (decide (a0 < 0)) = true := c11; clear c11; obtain rfl := Option.some.inj H; (first | rw [c11b0] | skip)
                go_wp2
                go_ret
                exact ⟨by first | rfl | (simp; done) | (simp [*]; done), by repeat (first | exact Drawn0.refl _ | apply Drawn0.step)⟩
              · rw [if_neg c11] at H
                have c11b0 : (decide (a0 < 0)) = false := by simpa using c11
                clear c11; obtain rfl := Option.some.inj H; (first | rw [c11b0] | skip)
                go_wp2
                go_ret
                exact ⟨by first | rfl | (simp; done) | (simp [*]; done), by repeat (first | exact Drawn0.refl _ | apply Drawn0.step)⟩

/-! ### spec_l01Decimal: function 53 -/
set_option maxRecDepth 100000 in
mutual
def spec_l01Decimal.l0 : Nat → Int → Int → Option (Int × Int × Int × ByteArray × Int)
  | 0, _, _ => none
  | k + 1, x0, x1 => if x1 > 6 then ((spec_l01Power.f k (wrap64 (x1 - 6))).bind fun t611 => ((spec_l01Half.f k x0 t611).bind fun t612 => (spec_l01Decimal.l0 k t612 6))) else (spec_l01Decimal.l1 k x0 x1)
def spec_l01Decimal.l1 : Nat → Int → Int → Option (Int × Int × Int × ByteArray × Int)
  | 0, _, _ => none
  | k + 1, x0, x1 => if x1 > 0 then (if (Int.tmod x0 10) = 0 then (spec_l01Decimal.l1 k (wrap64 (Int.tdiv x0 10)) (wrap64 (x1 - 1))) else (if x0 > 1000000000 then (some (0, 0, 0, (⟨#[]⟩ : ByteArray), 3)) else (if x0 < (-1000000000) then (some (0, 0, 0, (⟨#[]⟩ : ByteArray), 3)) else (some (3, x0, x1, (⟨#[]⟩ : ByteArray), 0))))) else (if x0 > 1000000000 then (some (0, 0, 0, (⟨#[]⟩ : ByteArray), 3)) else (if x0 < (-1000000000) then (some (0, 0, 0, (⟨#[]⟩ : ByteArray), 3)) else (some (3, x0, x1, (⟨#[]⟩ : ByteArray), 0))))
end
def spec_l01Decimal.f (k : Nat) (a0 : Int) (a1 : Int) : Option (Int × Int × Int × ByteArray × Int) := spec_l01Decimal.l0 k a0 a1
set_option maxHeartbeats 8000000 in
set_option maxRecDepth 100000 in
theorem spec_l01Decimal.calls (k : Nat) (a0 : Int) (a1 : Int) (r1 : Int) (r2 : Int) (r3 : Int) (r4 : ByteArray) (r5 : Int) (w : World) (h : spec_l01Decimal.f k a0 a1 = some (r1, r2, r3, r4, r5)) :
    Calls Try.prog 53 #[.int .i64 a0, .int .i64 a1] w fun e w' => e = .returned (.tuple #[.agg #[.int .i64 r1, .int .i64 r2, .int .i64 r3, .string r4], .int .i64 r5]) ∧ Below w.heap.size w w' := by
  have hu42 := Try.underlying42; have HB := Aside0.mk (Below.refl w.heap.size w); have H : (spec_l01Decimal.l0 k a0 a1) = some (r1, r2, r3, r4, r5) := h; clear h; have H' := Aside0.mk H; clear H
  go_enter Try.func53, Try.ntmps53
  go_wp2_with (first | ((with_reducible refine gate_dst (N := 4) rfl ?_); refine box_event ?hg (N := 4) ?hd (cs := #[.int .i64 0, .int .i64 0, .int .i64 0, .string (⟨#[]⟩ : ByteArray)]) (t := 42) ?hr ?_; (case hd => rfl); (case hg => rfl); (case hr => first | (go_simp; done) | (go_simp; rfl)); intro gb610 hg w3 hbox hb; have n0_ := Aside0.mk (below_step q4z2 hb); have n1_ := Aside0.mk (hbox); have n2_ := Aside0.mk ((by rw [hg]; exact (below_size q4z2) : w.heap.size ≤ gb610)); have n3_ := Aside0.mk ((by rw [hg]; exact (below_size q4z2) : w.heap.size ≤ gb610)); clear HB; have HB := n0_; have BK610 := n1_; have GW610 := n2_; have GE610 := n3_; clear n0_ n1_ n2_ n3_; clear hb hbox hg))
  go_loopg [0, 1] k (fun kq v0 v1 w' => ∃ (x0_1 : Int) (x1_1 : Int), v0 = .int .i64 x0_1 ∧ v1 = .int .i64 x1_1 ∧ Aside0 (spec_l01Decimal.l0 kq x0_1 x1_1 = some (r1, r2, r3, r4, r5)) ∧ Aside0 (kq ≤ k) ∧ Aside0 (w'.heap[gb610]? = some (.cells #[.int .i64 0, .int .i64 0, .int .i64 0, .string (⟨#[]⟩ : ByteArray)] 42 (0, 0))) ∧ Aside0 (Below w.heap.size w w'))
  case atStart => exact ⟨(a0), (a1), (by first | rfl | (simp; done) | (simp [*]; done)), (by first | rfl | (simp; done) | (simp [*]; done)), H', ⟨Nat.le_refl _⟩, ⟨by (with_reducible repeat (first | refine blk_drewN ?_ _ | refine blk_drew ?_ | refine blk_alloc ?_ _)); exact BK610.out⟩, ⟨by repeat (first | (with_reducible first | exact HB.out | apply below_alloc | apply pw_below_drewN | apply below_drew1 | refine below_set ?_ GE610.out) | exact HB.out)⟩⟩
  case round =>
    clear H'; (try clear p2); obtain ⟨x0_1, x1_1, rfl, rfl, HA, HK1, BK610, HB⟩ := hrel
    cases gk with
    | zero => exact absurd HA.out (by simp [spec_l01Decimal.l0])
    | succ k1 =>
      have H := HA.out; clear HA; simp only [spec_l01Decimal.l0] at H
      by_cases c4 : x1_1 > 6
      · rw [if_pos c4] at H
        have c4b0 : decide (6 < x1_1) = true := decide_eq_true c4; clear c4; replace H := Option.bind_eq_some_iff.mp H; obtain ⟨t611, A50, H⟩ := H; replace H : ((spec_l01Half.f k1 x0_1 t611).bind fun t612 => (spec_l01Decimal.l0 k1 t612 6)) = some (r1, r2, r3, r4, r5) := H; have A5 := Aside0.mk A50; clear A50; replace H := Option.bind_eq_some_iff.mp H; obtain ⟨t612, A60, H⟩ := H; replace H : (spec_l01Decimal.l0 k1 t612 6) = some (r1, r2, r3, r4, r5) := H; have A6 := Aside0.mk A60; clear A60; have H' := Aside0.mk H; clear H
        go_wp2_with (first | ((with_reducible refine gate_callee (f := 47) rfl ?_); refine goesL_ (some 11) rfl rfl Try.func47 (by kernel_rfl) rfl #[.int .i64 (wrap64 (x1_1 - 6))] rfl (by (try simp only [List.map_toArray, List.map_cons, List.map_nil]); first | done | rfl | (simp only [List.length_drop, List.length_take]; rfl)) ?_; (with_reducible refine (spec_l01Power.calls k1 (wrap64 (x1_1 - 6)) t611 _ A5.out).mono ?_); rintro e w' ⟨rfl, ⟨nd, rfl⟩⟩; refine ⟨_, rfl, ?_⟩) | ((with_reducible refine gate_callee (f := 60) rfl ?_); refine goesL_ (some 14) rfl rfl Try.func60 (by kernel_rfl) rfl #[.int .i64 x0_1, .int .i64 t611] rfl (by (try simp only [List.map_toArray, List.map_cons, List.map_nil]); first | done | rfl | (simp only [List.length_drop, List.length_take]; rfl)) ?_; (with_reducible refine (spec_l01Half.calls k1 x0_1 t611 t612 _ A6.out).mono ?_); rintro e w' ⟨rfl, ⟨nd, rfl⟩⟩; refine ⟨_, rfl, ?_⟩))
        go_roundg k1
        case measure => have := HK1.out; omega
        case rel => exact ⟨(t612), (6), (by first | rfl | (simp; done) | (simp [*]; done)), (by first | rfl | (simp; done) | (simp [*]; done)), H', ⟨by have := HK1.out; omega⟩, ⟨by (with_reducible repeat (first | refine blk_drewN ?_ _ | refine blk_drew ?_ | refine blk_alloc ?_ _)); exact BK610.out⟩, ⟨by repeat (first | (with_reducible first | exact HB.out | apply below_alloc | apply pw_below_drewN | apply below_drew1 | refine below_set ?_ GE610.out) | exact HB.out)⟩⟩
      · rw [if_neg c4] at H
        have c4b0 : decide (6 < x1_1) = false := decide_eq_false c4; clear c4; have H' := Aside0.mk H; clear H
        go_wp2
        go_loopg [0, 1] k1 (fun kq v0 v1 w' => ∃ (x0_2 : Int) (x1_2 : Int), v0 = .int .i64 x0_2 ∧ v1 = .int .i64 x1_2 ∧ Aside0 (spec_l01Decimal.l1 kq x0_2 x1_2 = some (r1, r2, r3, r4, r5)) ∧ Aside0 (kq ≤ k1) ∧ Aside0 (w'.heap[gb610]? = some (.cells #[.int .i64 0, .int .i64 0, .int .i64 0, .string (⟨#[]⟩ : ByteArray)] 42 (0, 0))) ∧ Aside0 (Below w.heap.size w w'))
        case atStart => exact ⟨(x0_1), (x1_1), (by first | rfl | (simp; done) | (simp [*]; done)), (by first | rfl | (simp; done) | (simp [*]; done)), H', ⟨Nat.le_refl _⟩, ⟨by (with_reducible repeat (first | refine blk_drewN ?_ _ | refine blk_drew ?_ | refine blk_alloc ?_ _)); exact BK610.out⟩, ⟨by repeat (first | (with_reducible first | exact HB.out | apply below_alloc | apply pw_below_drewN | apply below_drew1 | refine below_set ?_ GE610.out) | exact HB.out)⟩⟩
        case round =>
          clear H'; (try clear p2); (try clear c4); (try clear c4b0); (try clear c5); (try clear c6); (try clear p6); (try clear p2); obtain ⟨x0_2, x1_2, rfl, rfl, HA, HK2, BK610, HB⟩ := hrel
          cases gk with
          | zero => exact absurd HA.out (by simp [spec_l01Decimal.l1])
          | succ k2 =>
            have H := HA.out; clear HA; simp only [spec_l01Decimal.l1] at H
            by_cases c7 : x1_2 > 0
            · rw [if_pos c7] at H
              have c7b0 : decide (0 < x1_2) = true := decide_eq_true c7; clear c7
              by_cases c8 : (Int.tmod x0_2 10) = 0
              · rw [if_pos c8] at H
                have c8b0 : ((Int.tmod x0_2 10) == 0) = true := beq_iff_eq.mpr c8; have c8b1 : ((Int.tmod x0_2 10) != 0) = false := bne_eq_false_iff_eq.mpr c8; clear c8; have H' := Aside0.mk H; clear H
                go_wp2
                go_roundg k2
                case measure => have := HK1.out; have := HK2.out; omega
                case rel => exact ⟨(wrap64 (Int.tdiv x0_2 10)), (wrap64 (x1_2 - 1)), (by first | rfl | (simp; done) | (simp [*]; done)), (by first | rfl | (simp; done) | (simp [*]; done)), H', ⟨by have := HK1.out; have := HK2.out; omega⟩, ⟨by (with_reducible repeat (first | refine blk_drewN ?_ _ | refine blk_drew ?_ | refine blk_alloc ?_ _)); exact BK610.out⟩, ⟨by repeat (first | (with_reducible first | exact HB.out | apply below_alloc | apply pw_below_drewN | apply below_drew1 | refine below_set ?_ GE610.out) | exact HB.out)⟩⟩
              · rw [if_neg c8] at H
                have c8b0 : ((Int.tmod x0_2 10) == 0) = false := beq_eq_false_iff_ne.mpr c8; have c8b1 : ((Int.tmod x0_2 10) != 0) = true := bne_iff_ne.mpr c8
                by_cases c9 : x0_2 > 1000000000
                · rw [if_pos c9] at H
                  have c9b0 : decide (1000000000 < x0_2) = true := decide_eq_true c9; clear c9; simp only [Option.some.injEq, Prod.mk.injEq] at H; obtain ⟨rfl, rfl, rfl, rfl, rfl⟩ := H; have hcz10_0 : wr.cell? ⟨gb610, 0, none⟩ = some (.int .i64 0) := (blk_cell BK610.out 0).trans rfl; have hcz10_1 : wr.cell? ⟨gb610, 1, none⟩ = some (.int .i64 0) := (blk_cell BK610.out 1).trans rfl; have hcz10_2 : wr.cell? ⟨gb610, 2, none⟩ = some (.int .i64 0) := (blk_cell BK610.out 2).trans rfl; have hcz10_3 : wr.cell? ⟨gb610, 3, none⟩ = some (.string (⟨#[]⟩ : ByteArray)) := (blk_cell BK610.out 3).trans rfl; have hfz10_0 := blk_frozen BK610.out 0; have hfz10_1 := blk_frozen BK610.out 1; have hfz10_2 := blk_frozen BK610.out 2; have hfz10_3 := blk_frozen BK610.out 3
                  go_wp2
                  refine bodyPost_ret (results_ct rfl _ _ gb610 42 #[.int .i64 0, .int .i64 0, .int .i64 0, .string (⟨#[]⟩ : ByteArray)] (0, 0) _ rfl q4z0 Try.underlying42 rfl (by kernel_rfl)) rfl ?_; exact ⟨by first | rfl | (simp [errW_none, errW_some] <;> rfl) | (simp [*, errW_none, errW_some] <;> rfl), by repeat (first | (with_reducible first | exact HB.out | apply below_alloc | apply pw_below_drewN | apply below_drew1 | refine below_set ?_ GE610.out) | exact HB.out)⟩
                · rw [if_neg c9] at H
                  have c9b0 : decide (1000000000 < x0_2) = false := decide_eq_false c9; clear c9
                  by_cases c11 : x0_2 < (-1000000000)
                  · rw [if_pos c11] at H
                    have c11b0 : decide (x0_2 < (-1000000000)) = true := decide_eq_true c11; clear c11; simp only [Option.some.injEq, Prod.mk.injEq] at H; obtain ⟨rfl, rfl, rfl, rfl, rfl⟩ := H; have hcz12_0 : wr.cell? ⟨gb610, 0, none⟩ = some (.int .i64 0) := (blk_cell BK610.out 0).trans rfl; have hcz12_1 : wr.cell? ⟨gb610, 1, none⟩ = some (.int .i64 0) := (blk_cell BK610.out 1).trans rfl; have hcz12_2 : wr.cell? ⟨gb610, 2, none⟩ = some (.int .i64 0) := (blk_cell BK610.out 2).trans rfl; have hcz12_3 : wr.cell? ⟨gb610, 3, none⟩ = some (.string (⟨#[]⟩ : ByteArray)) := (blk_cell BK610.out 3).trans rfl; have hfz12_0 := blk_frozen BK610.out 0; have hfz12_1 := blk_frozen BK610.out 1; have hfz12_2 := blk_frozen BK610.out 2; have hfz12_3 := blk_frozen BK610.out 3
                    go_wp2
                    refine bodyPost_ret (results_ct rfl _ _ gb610 42 #[.int .i64 0, .int .i64 0, .int .i64 0, .string (⟨#[]⟩ : ByteArray)] (0, 0) _ rfl q4z0 Try.underlying42 rfl (by kernel_rfl)) rfl ?_; exact ⟨by first | rfl | (simp [errW_none, errW_some] <;> rfl) | (simp [*, errW_none, errW_some] <;> rfl), by repeat (first | (with_reducible first | exact HB.out | apply below_alloc | apply pw_below_drewN | apply below_drew1 | refine below_set ?_ GE610.out) | exact HB.out)⟩
                  · rw [if_neg c11] at H
                    have c11b0 : decide (x0_2 < (-1000000000)) = false := decide_eq_false c11; clear c11; simp only [Option.some.injEq, Prod.mk.injEq] at H; obtain ⟨rfl, rfl, rfl, rfl, rfl⟩ := H; have hcz13_0 : wr.cell? ⟨gb610, 0, none⟩ = some (.int .i64 0) := (blk_cell BK610.out 0).trans rfl; have hcz13_1 : wr.cell? ⟨gb610, 1, none⟩ = some (.int .i64 0) := (blk_cell BK610.out 1).trans rfl; have hcz13_2 : wr.cell? ⟨gb610, 2, none⟩ = some (.int .i64 0) := (blk_cell BK610.out 2).trans rfl; have hcz13_3 : wr.cell? ⟨gb610, 3, none⟩ = some (.string (⟨#[]⟩ : ByteArray)) := (blk_cell BK610.out 3).trans rfl; have hfz13_0 := blk_frozen BK610.out 0; have hfz13_1 := blk_frozen BK610.out 1; have hfz13_2 := blk_frozen BK610.out 2; have hfz13_3 := blk_frozen BK610.out 3
                    go_wp2
                    refine bodyPost_ret (results_ct rfl _ _ gb610 42 #[.int .i64 3, .int .i64 x0_2, .int .i64 x1_2, .string (⟨#[]⟩ : ByteArray)] (0, 0) _ rfl q4z1 Try.underlying42 rfl (by kernel_rfl)) rfl ?_; exact ⟨by first | rfl | (simp [errW_none, errW_some] <;> rfl) | (simp [*, errW_none, errW_some] <;> rfl), by repeat (first | (with_reducible first | exact HB.out | apply below_alloc | apply pw_below_drewN | apply below_drew1 | refine below_set ?_ GE610.out) | exact HB.out)⟩
            · rw [if_neg c7] at H
              have c7b0 : decide (0 < x1_2) = false := decide_eq_false c7; clear c7
              by_cases c14 : x0_2 > 1000000000
              · rw [if_pos c14] at H
                have c14b0 : decide (1000000000 < x0_2) = true := decide_eq_true c14; clear c14; simp only [Option.some.injEq, Prod.mk.injEq] at H; obtain ⟨rfl, rfl, rfl, rfl, rfl⟩ := H; have hcz15_0 : wr.cell? ⟨gb610, 0, none⟩ = some (.int .i64 0) := (blk_cell BK610.out 0).trans rfl; have hcz15_1 : wr.cell? ⟨gb610, 1, none⟩ = some (.int .i64 0) := (blk_cell BK610.out 1).trans rfl; have hcz15_2 : wr.cell? ⟨gb610, 2, none⟩ = some (.int .i64 0) := (blk_cell BK610.out 2).trans rfl; have hcz15_3 : wr.cell? ⟨gb610, 3, none⟩ = some (.string (⟨#[]⟩ : ByteArray)) := (blk_cell BK610.out 3).trans rfl; have hfz15_0 := blk_frozen BK610.out 0; have hfz15_1 := blk_frozen BK610.out 1; have hfz15_2 := blk_frozen BK610.out 2; have hfz15_3 := blk_frozen BK610.out 3
                go_wp2
                refine bodyPost_ret (results_ct rfl _ _ gb610 42 #[.int .i64 0, .int .i64 0, .int .i64 0, .string (⟨#[]⟩ : ByteArray)] (0, 0) _ rfl q4z0 Try.underlying42 rfl (by kernel_rfl)) rfl ?_; exact ⟨by first | rfl | (simp [errW_none, errW_some] <;> rfl) | (simp [*, errW_none, errW_some] <;> rfl), by repeat (first | (with_reducible first | exact HB.out | apply below_alloc | apply pw_below_drewN | apply below_drew1 | refine below_set ?_ GE610.out) | exact HB.out)⟩
              · rw [if_neg c14] at H
                have c14b0 : decide (1000000000 < x0_2) = false := decide_eq_false c14; clear c14
                by_cases c16 : x0_2 < (-1000000000)
                · rw [if_pos c16] at H
                  have c16b0 : decide (x0_2 < (-1000000000)) = true := decide_eq_true c16; clear c16; simp only [Option.some.injEq, Prod.mk.injEq] at H; obtain ⟨rfl, rfl, rfl, rfl, rfl⟩ := H; have hcz17_0 : wr.cell? ⟨gb610, 0, none⟩ = some (.int .i64 0) := (blk_cell BK610.out 0).trans rfl; have hcz17_1 : wr.cell? ⟨gb610, 1, none⟩ = some (.int .i64 0) := (blk_cell BK610.out 1).trans rfl; have hcz17_2 : wr.cell? ⟨gb610, 2, none⟩ = some (.int .i64 0) := (blk_cell BK610.out 2).trans rfl; have hcz17_3 : wr.cell? ⟨gb610, 3, none⟩ = some (.string (⟨#[]⟩ : ByteArray)) := (blk_cell BK610.out 3).trans rfl; have hfz17_0 := blk_frozen BK610.out 0; have hfz17_1 := blk_frozen BK610.out 1; have hfz17_2 := blk_frozen BK610.out 2; have hfz17_3 := blk_frozen BK610.out 3
                  go_wp2
                  refine bodyPost_ret (results_ct rfl _ _ gb610 42 #[.int .i64 0, .int .i64 0, .int .i64 0, .string (⟨#[]⟩ : ByteArray)] (0, 0) _ rfl q4z0 Try.underlying42 rfl (by kernel_rfl)) rfl ?_; exact ⟨by first | rfl | (simp [errW_none, errW_some] <;> rfl) | (simp [*, errW_none, errW_some] <;> rfl), by repeat (first | (with_reducible first | exact HB.out | apply below_alloc | apply pw_below_drewN | apply below_drew1 | refine below_set ?_ GE610.out) | exact HB.out)⟩
                · rw [if_neg c16] at H
                  have c16b0 : decide (x0_2 < (-1000000000)) = false := decide_eq_false c16; clear c16; simp only [Option.some.injEq, Prod.mk.injEq] at H; obtain ⟨rfl, rfl, rfl, rfl, rfl⟩ := H; have hcz18_0 : wr.cell? ⟨gb610, 0, none⟩ = some (.int .i64 0) := (blk_cell BK610.out 0).trans rfl; have hcz18_1 : wr.cell? ⟨gb610, 1, none⟩ = some (.int .i64 0) := (blk_cell BK610.out 1).trans rfl; have hcz18_2 : wr.cell? ⟨gb610, 2, none⟩ = some (.int .i64 0) := (blk_cell BK610.out 2).trans rfl; have hcz18_3 : wr.cell? ⟨gb610, 3, none⟩ = some (.string (⟨#[]⟩ : ByteArray)) := (blk_cell BK610.out 3).trans rfl; have hfz18_0 := blk_frozen BK610.out 0; have hfz18_1 := blk_frozen BK610.out 1; have hfz18_2 := blk_frozen BK610.out 2; have hfz18_3 := blk_frozen BK610.out 3
                  go_wp2
                  refine bodyPost_ret (results_ct rfl _ _ gb610 42 #[.int .i64 3, .int .i64 x0_2, .int .i64 x1_2, .string (⟨#[]⟩ : ByteArray)] (0, 0) _ rfl q4z1 Try.underlying42 rfl (by kernel_rfl)) rfl ?_; exact ⟨by first | rfl | (simp [errW_none, errW_some] <;> rfl) | (simp [*, errW_none, errW_some] <;> rfl), by repeat (first | (with_reducible first | exact HB.out | apply below_alloc | apply pw_below_drewN | apply below_drew1 | refine below_set ?_ GE610.out) | exact HB.out)⟩

/-! ### spec_l01Str: function 54 -/
def spec_l01Str.f (a0 : ByteArray) : Option (Int × Int × Int × ByteArray) := some (4, 0, 0, a0)
set_option maxHeartbeats 8000000 in
set_option maxRecDepth 100000 in
theorem spec_l01Str.calls (a0 : ByteArray) (r1 : Int) (r2 : Int) (r3 : Int) (r4 : ByteArray) (w : World) (h : spec_l01Str.f a0 = some (r1, r2, r3, r4)) :
    Calls Try.prog 54 #[.string a0] w fun e w' => e = .returned (.agg #[.int .i64 r1, .int .i64 r2, .int .i64 r3, .string r4]) ∧ Below w.heap.size w w' := by
  have hu42 := Try.underlying42; have HB := Aside0.mk (Below.refl w.heap.size w); have H : (some (4, 0, 0, a0)) = some (r1, r2, r3, r4) := h; clear h; simp only [Option.some.injEq, Prod.mk.injEq] at H; obtain ⟨rfl, rfl, rfl, rfl⟩ := H
  go_enter Try.func54, Try.ntmps54
  go_wp2_with (first | ((with_reducible refine gate_dst (N := 2) rfl ?_); refine box_event ?hg (N := 2) ?hd (cs := #[.int .i64 0, .int .i64 0, .int .i64 0, .string (⟨#[]⟩ : ByteArray)]) (t := 42) ?hr ?_; (case hd => rfl); (case hg => rfl); (case hr => first | (go_simp; done) | (go_simp; rfl)); intro gb613 hg w2 hbox hb; have n0_ := Aside0.mk (below_step q4z2 hb); have n1_ := Aside0.mk (hbox); have n2_ := Aside0.mk ((by rw [hg]; exact (below_size q4z2) : w.heap.size ≤ gb613)); have n3_ := Aside0.mk ((by rw [hg]; exact (below_size q4z2) : w.heap.size ≤ gb613)); clear HB; have HB := n0_; have BK613 := n1_; have GW613 := n2_; have GE613 := n3_; clear n0_ n1_ n2_ n3_; clear hb hbox hg; have hcz3_0 : w2.cell? ⟨gb613, 0, none⟩ = some (.int .i64 0) := (blk_cell BK613.out 0).trans rfl; have hcz3_1 : w2.cell? ⟨gb613, 1, none⟩ = some (.int .i64 0) := (blk_cell BK613.out 1).trans rfl; have hcz3_2 : w2.cell? ⟨gb613, 2, none⟩ = some (.int .i64 0) := (blk_cell BK613.out 2).trans rfl; have hcz3_3 : w2.cell? ⟨gb613, 3, none⟩ = some (.string (⟨#[]⟩ : ByteArray)) := (blk_cell BK613.out 3).trans rfl; have hfz3_0 := blk_frozen BK613.out 0; have hfz3_1 := blk_frozen BK613.out 1; have hfz3_2 := blk_frozen BK613.out 2; have hfz3_3 := blk_frozen BK613.out 3))
  refine bodyPost_ret (results_cell_row rfl _ _ gb613 42 #[.int .i64 4, .int .i64 0, .int .i64 0, .string a0] (0, 0) _ rfl (by (with_reducible repeat (first | refine blk_drewN ?_ _ | refine blk_drew ?_ | refine blk_alloc ?_ _)); refine blk_put (cs := #[.int .i64 4, .int .i64 0, .int .i64 0, .string (⟨#[]⟩ : ByteArray)]) ?_ 3 _ rfl; (with_reducible repeat (first | refine blk_drewN ?_ _ | refine blk_drew ?_ | refine blk_alloc ?_ _)); refine blk_put (cs := #[.int .i64 4, .int .i64 0, .int .i64 0, .string (⟨#[]⟩ : ByteArray)]) ?_ 2 _ rfl; (with_reducible repeat (first | refine blk_drewN ?_ _ | refine blk_drew ?_ | refine blk_alloc ?_ _)); refine blk_put (cs := #[.int .i64 4, .int .i64 0, .int .i64 0, .string (⟨#[]⟩ : ByteArray)]) ?_ 1 _ rfl; (with_reducible repeat (first | refine blk_drewN ?_ _ | refine blk_drew ?_ | refine blk_alloc ?_ _)); refine blk_put (cs := #[.int .i64 0, .int .i64 0, .int .i64 0, .string (⟨#[]⟩ : ByteArray)]) ?_ 0 _ rfl; (with_reducible repeat (first | refine blk_drewN ?_ _ | refine blk_drew ?_ | refine blk_alloc ?_ _)); exact BK613.out) Try.underlying42 rfl (by kernel_rfl)) rfl ?_; exact ⟨by first | rfl | (simp [errW_none, errW_some] <;> rfl) | (simp [*, errW_none, errW_some] <;> rfl), by repeat (first | (with_reducible first | exact HB.out | apply below_alloc | apply pw_below_drewN | apply below_drew1 | refine below_set ?_ GE613.out) | exact HB.out)⟩

end Go.Proofs.Ytjplogeifleojaa.QFnExactKeyValues
