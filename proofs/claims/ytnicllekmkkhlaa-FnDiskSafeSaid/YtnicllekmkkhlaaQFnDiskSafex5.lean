/- The functions that the law reaches, each as a plain Lean function with the proof that the Go code comes to its answers: written by a program of this session. No condition. -/
import Derived.Test.YtnicllekmkkhlaaQFnDiskSafex0
import Derived.Test.YtnicllekmkkhlaaQFnDiskSafex3
import Derived.Test.YtnicllekmkkhlaaQFnDiskSafex4
namespace Go.Proofs.Ytnicllekmkkhlaa.QFnDiskSafe
open Go.RowKit Go.Proofs.YtnicllekmkkhlaaW.PrintWords Go.Proofs.YtnicllekmkkhlaaW.PrintLast Go.Proofs.YtnicllekmkkhlaaW.PrintMore
attribute [local go_sem] max2_int min2_int max_two min_two max_three min_three max_four min_four str_gtr str_leq str_geq pw_at_slice   -- for this text's walks alone
set_option linter.unusedVariables false
set_option linter.unusedSimpArgs false

/-! ### spec_l04Next: function 54 -/
set_option maxRecDepth 100000 in
mutual
def spec_l04Next.j0 : Nat → ByteArray → Int → Bool → Option (Int × ByteArray × Int)
 | 0, _, _, _ => none
 | k + 1, x0, x1, x17 => if x17 = true then (some (0, (⟨#[]⟩ : ByteArray), 0)) else (if 4 ≤ 8 then (if 8 ≤ (x0.size : Int) then ((spec_l01Read.f k (x0.extract 4 8)).bind fun t715 => (if t715 > 2000 then (spec_l04Next.j1 k x0 x1 t715 true) else (spec_l04Next.j1 k x0 x1 t715 (decide ((x0.size : Int) < (wrap64 (t715 + 13))))))) else (none)) else (none))
def spec_l04Next.j1 : Nat → ByteArray → Int → Int → Bool → Option (Int × ByteArray × Int)
 | 0, _, _, _, _ => none
 | k + 1, x0, x1, x6, x30 => if x30 = true then (some (0, (⟨#[]⟩ : ByteArray), 0)) else (if 8 < (x0.size : Int) then (if 9 ≤ (wrap64 (9 + x6)) then (if (wrap64 (9 + x6)) ≤ (x0.size : Int) then ((spec_l04RecOK.f (wrap64 (bt x0 8)) (x0.extract 9 ((wrap64 (9 + x6)) : Int).toNat)).bind fun t717 => (if t717 = true then (if 0 ≤ (wrap64 (x6 + 13)) then (if (wrap64 (x6 + 13)) ≤ (x0.size : Int) then ((spec_l04Frame.f k x1 (wrap64 (bt x0 8)) (x0.extract 9 ((wrap64 (9 + x6)) : Int).toNat)).bind fun t718 => (if (x0.extract 0 ((wrap64 (x6 + 13)) : Int).toNat).toList = t718.toList then (some (wrap64 (bt x0 8), x0.extract 9 ((wrap64 (9 + x6)) : Int).toNat, wrap64 (x6 + 13))) else (some (0, (⟨#[]⟩ : ByteArray), 0)))) else (none)) else (none)) else (some (0, (⟨#[]⟩ : ByteArray), 0)))) else (none)) else (none)) else (none))
end
def spec_l04Next.f (k : Nat) (a0 : ByteArray) (a1 : Int) : Option (Int × ByteArray × Int) := if (a0.size : Int) < 13 then (spec_l04Next.j0 k a0 a1 true) else (if 0 ≤ 4 then (if 4 ≤ (a0.size : Int) then ((spec_l01Read.f k (a0.extract 0 4)).bind fun t714 => (spec_l04Next.j0 k a0 a1 (t714 != a1))) else (none)) else (none))
def spec_l04Next.T6 : Bool × List (List Nat × List Nat) := (true, [([], []), ([0], [0]), ([1], [1]), ([], []), ([], []), ([4], [4]), ([3, 5], [3, 5]), ([2, 6], [2, 6]), ([], []), ([8, 7, 0, 1, 2, 3, 4, 5, 6, 7, 8], [7, 8])])
def spec_l04Next.B6 : List Nat := [0, 1, 3, 0, 0, 16, 56, 127, 0, 511]
theorem spec_l04Next.tab6 : rtab .any (opsOf Try.f54 6) = spec_l04Next.T6 := by kernel_rfl
theorem spec_l04Next.bits6 : waitsOk spec_l04Next.T6.2 spec_l04Next.B6 = true := by kernel_rfl
def spec_l04Next.T7 : Bool × List (List Nat × List Nat) := (true, [([], []), ([0], [0]), ([1], [1]), ([2, 1], [2]), ([3], [3]), ([3], [3]), ([5, 3], [3, 5]), ([4, 6, 3], [3, 4, 6]), ([3], [3]), ([3], [3]), ([8, 9, 3, 3], [3, 8, 9]), ([7, 10, 3], [3, 7, 10]), ([3, 11], [3, 11])])
def spec_l04Next.B7 : List Nat := [0, 1, 3, 7, 15, 15, 47, 127, 15, 15, 783, 2047, 4095]
theorem spec_l04Next.tab7 : rtab .any (opsOf Try.f54 7) = spec_l04Next.T7 := by kernel_rfl
theorem spec_l04Next.bits7 : waitsOk spec_l04Next.T7.2 spec_l04Next.B7 = true := by kernel_rfl
set_option maxHeartbeats 8000000 in
set_option maxRecDepth 100000 in
theorem spec_l04Next.calls (k : Nat) (a0 : ByteArray) (a1 : Int) (r1 : Int) (r2 : ByteArray) (r3 : Int) (w : World) (h : spec_l04Next.f k a0 a1 = some (r1, r2, r3)) :
  Calls Try.prog 54 #[.string a0, .int .i64 a1] w fun e w' => e = .returned (.tuple #[.agg #[.int .i64 r1, .string r2], .int .i64 r3]) ∧ Below w.heap.size w w' := by
 have hu45 := Try.underlying45
 have HB := Aside0.mk (Below.refl w.heap.size w)
 have H : (if (a0.size : Int) < 13 then (spec_l04Next.j0 k a0 a1 true) else (if 0 ≤ 4 then (if 4 ≤ (a0.size : Int) then ((spec_l01Read.f k (a0.extract 0 4)).bind fun t714 => (spec_l04Next.j0 k a0 a1 (t714 != a1))) else (none)) else (none))) = some (r1, r2, r3) := h
 clear h
 have HC3 := Aside0.mk H
 clear H
 go_enter Try.func54, Try.ntmps54
 go_upto_region 1 with (first | ((with_reducible refine gate_dst (N := 4) rfl ?_); (try (refine gate_guard (by rfl) ?_; dsimp only)); refine box_event ?hg (N := 4) ?hd (cs := #[.int .i64 0, .string (⟨#[]⟩ : ByteArray)]) (t := 45) ?hr ?_; (case hd => rfl); (case hg => rfl); (case hr => first | (go_simp; done) | (go_simp; rfl)); intro gb713 hg w4 hbox hb; have n0_ := Aside0.mk (below_step zb hb); have n1_ := Aside0.mk (hbox); have n2_ := Aside0.mk ((by rw [hg]; exact (below_size zb) : w.heap.size ≤ gb713)); have n3_ := Aside0.mk ((by rw [hg]; exact (below_size zb) : w.heap.size ≤ gb713)); clear HB; have HB := n0_; have BK713 := n1_; have GW713 := n2_; have GE713 := n3_; clear n0_ n1_ n2_ n3_; clear hb hbox hg))
 (try simp only [Act.put, List.setIfInBounds_toArray, List.set_cons_zero, List.set_cons_succ])
 go_cut [17] (fun v17 wc => ∃ (kq : Nat) (x17_2 : Bool), v17 = .bool x17_2 ∧ Aside0 (spec_l04Next.j0 kq a0 a1 x17_2 = some (r1, r2, r3)) ∧ Aside0 (kq ≤ k) ∧ Aside0 (wc.heap[gb713]? = some (.cells #[.int .i64 0, .string (⟨#[]⟩ : ByteArray)] 45 (0, 0))) ∧ Aside0 (Below w.heap.size w wc))
 case first =>
  have H := HC3.out
  clear HC3
  by_cases c5 : (a0.size : Int) < 13
  ·rw [if_pos c5] at H
   have c5b0 : decide ((a0.size : Int) < 13) = true := decide_eq_true c5
   have c5b1 : decide (a0.size < 13) = true := decide_eq_true (by omega)
   clear c5
   (first | rw [c5b0] | (simp only [i64_w, i32_w]; rw [c5b0]) | skip)
   have H' := Aside0.mk H
   clear H
   go_wp2
   go_meet
   case rel => exact ⟨_, (true), (by first | rfl | (simp; done) | (simp [*]; done)), H', ⟨by first | omega | exact Nat.le_refl _⟩, ⟨by (with_reducible repeat (first | refine blk_drewN ?_ _ | refine blk_drew ?_ | refine blk_alloc ?_ _)); exact BK713.out⟩, ⟨by repeat (first | (with_reducible first | exact HB.out | apply below_alloc | apply pw_below_drewN | apply below_drew1 | refine below_set ?_ GE713.out) | exact HB.out)⟩⟩
  ·rw [if_neg c5] at H
   have c5b0 : decide ((a0.size : Int) < 13) = false := decide_eq_false c5
   have c5b1 : decide (a0.size < 13) = false := decide_eq_false (by omega)
   clear c5
   (first | rw [c5b0] | (simp only [i64_w, i32_w]; rw [c5b0]) | skip)
   by_cases c6 : 0 ≤ 4
   ·rw [if_pos c6] at H
    have c6b0 := eq_true c6
    have c6b1 : decide (0 ≤ 4) = true := decide_eq_true c6
    clear c6
    by_cases c7 : 4 ≤ (a0.size : Int)
    ·rw [if_pos c7] at H
     have c7b0 := eq_true c7
     have c7b1 : decide (4 ≤ (a0.size : Int)) = true := decide_eq_true c7
     clear c7
     replace H := Option.bind_eq_some_iff.mp H
     obtain ⟨t714, A80, H⟩ := H
     replace H : (spec_l04Next.j0 k a0 a1 (t714 != a1)) = some (r1, r2, r3) := H
     have A8 := Aside0.mk A80
     clear A80
     have H' := Aside0.mk H
     clear H
     go_wp2_with (first | (go_at_call 56; (with_reducible refine (spec_l01Read.calls k (a0.extract 0 4) t714 _ A8.out).mono ?_); rintro e w' ⟨rfl, ⟨nd, rfl⟩⟩))
     go_meet
     case rel => exact ⟨_, ((t714 != a1)), (by first | rfl | (simp; done) | (simp [*]; done)), H', ⟨by first | omega | exact Nat.le_refl _⟩, ⟨by (with_reducible repeat (first | refine blk_drewN ?_ _ | refine blk_drew ?_ | refine blk_alloc ?_ _)); exact BK713.out⟩, ⟨by repeat (first | (with_reducible first | exact HB.out | apply below_alloc | apply pw_below_drewN | apply below_drew1 | refine below_set ?_ GE713.out) | exact HB.out)⟩⟩
    ·rw [if_neg c7] at H
     cases H
   ·rw [if_neg c6] at H
    cases H
 case rest =>
  clear HC3
  obtain ⟨kq, x17_2, rfl, HA, HJ2, BK713, HB⟩ := hcut
  cases kq with
  | zero => exact absurd HA.out (by simp [spec_l04Next.j0])
  | succ kj2 =>
   have H := HA.out
   clear HA
   simp only [spec_l04Next.j0] at H
   by_cases c9 : x17_2 = true
   ·subst c9
    have H1 : (some (0, (⟨#[]⟩ : ByteArray), 0)) = some (r1, r2, r3) := by rw [if_pos rfl] at H; exact H
    clear H
    have H := H1
    clear H1
    simp only [Option.some.injEq, Prod.mk.injEq] at H
    obtain ⟨rfl, rfl, rfl⟩ := H
    have hcz10_0 : wc.cell? ⟨gb713, 0, none⟩ = some (.int .i64 0) := (blk_cell BK713.out 0).trans rfl
    have hcz10_1 : wc.cell? ⟨gb713, 1, none⟩ = some (.string (⟨#[]⟩ : ByteArray)) := (blk_cell BK713.out 1).trans rfl
    have hfz10_0 := blk_frozen BK713.out 0
    have hfz10_1 := blk_frozen BK713.out 1
    go_wp2
    refine bodyPost_ret (results_ct rfl _ _ gb713 45 #[.int .i64 0, .string (⟨#[]⟩ : ByteArray)] (0, 0) _ rfl (by (with_reducible repeat (first | refine blk_drewN ?_ _ | refine blk_drew ?_ | refine blk_alloc ?_ _)); refine blk_put (cs := #[.int .i64 0, .string (⟨#[]⟩ : ByteArray)]) ?_ 1 _ rfl; (with_reducible repeat (first | refine blk_drewN ?_ _ | refine blk_drew ?_ | refine blk_alloc ?_ _)); refine blk_put (cs := #[.int .i64 0, .string (⟨#[]⟩ : ByteArray)]) ?_ 0 _ rfl; (with_reducible repeat (first | refine blk_drewN ?_ _ | refine blk_drew ?_ | refine blk_alloc ?_ _)); exact BK713.out) Try.underlying45 rfl (by kernel_rfl)) rfl ?_
    exact ⟨by first | rfl | (simp [errW_none, errW_some] <;> rfl) | (simp [*, errW_none, errW_some] <;> rfl), by repeat (first | (with_reducible first | exact HB.out | apply below_alloc | apply pw_below_drewN | apply below_drew1 | refine below_set ?_ GE713.out) | exact HB.out)⟩
   ·replace c9 := Bool.eq_false_iff.mpr c9
    subst c9
    have H1 : (if 4 ≤ 8 then (if 8 ≤ (a0.size : Int) then ((spec_l01Read.f kj2 (a0.extract 4 8)).bind fun t715 => (if t715 > 2000 then (spec_l04Next.j1 kj2 a0 a1 t715 true) else (spec_l04Next.j1 kj2 a0 a1 t715 (decide ((a0.size : Int) < (wrap64 (t715 + 13))))))) else (none)) else (none)) = some (r1, r2, r3) := by rw [if_neg (show ¬ (false = true) by decide)] at H; exact H
    clear H
    have H := H1
    clear H1
    by_cases c11 : 4 ≤ 8
    ·rw [if_pos c11] at H
     have c11b0 := eq_true c11
     have c11b1 : decide (4 ≤ 8) = true := decide_eq_true c11
     clear c11
     by_cases c12 : 8 ≤ (a0.size : Int)
     ·rw [if_pos c12] at H
      have c12b0 := eq_true c12
      have c12b1 : decide (8 ≤ (a0.size : Int)) = true := decide_eq_true c12
      clear c12
      replace H := Option.bind_eq_some_iff.mp H
      obtain ⟨t715, A130, H⟩ := H
      replace H : (if t715 > 2000 then (spec_l04Next.j1 kj2 a0 a1 t715 true) else (spec_l04Next.j1 kj2 a0 a1 t715 (decide ((a0.size : Int) < (wrap64 (t715 + 13)))))) = some (r1, r2, r3) := H
      have A13 := Aside0.mk A130
      clear A130
      have HC14 := Aside0.mk H
      clear H
      go_upto_region 4 with (first | ((with_reducible refine gate_callee (f := 56) rfl ?_); refine goesL_ (some 21) rfl rfl Try.func56 (by kernel_rfl) rfl #[.string (a0.extract 4 8)] rfl zm ?_; (with_reducible refine (spec_l01Read.calls kj2 (a0.extract 4 8) t715 _ A13.out).mono ?_); rintro e w' ⟨rfl, ⟨nd, rfl⟩⟩; refine ⟨_, rfl, ?_⟩))
      (try simp only [Act.put, List.setIfInBounds_toArray, List.set_cons_zero, List.set_cons_succ])
      go_cut [30] (fun v30 wc => ∃ (kq : Nat) (x30_13 : Bool), v30 = .bool x30_13 ∧ Aside0 (spec_l04Next.j1 kq a0 a1 t715 x30_13 = some (r1, r2, r3)) ∧ Aside0 (kq ≤ kj2) ∧ Aside0 (wc.heap[gb713]? = some (.cells #[.int .i64 0, .string (⟨#[]⟩ : ByteArray)] 45 (0, 0))) ∧ Aside0 (Below w.heap.size w wc))
      case first =>
       have H := HC14.out
       clear HC14
       by_cases c15 : t715 > 2000
       ·rw [if_pos c15] at H
        have c15b0 : decide (2000 < t715) = true := decide_eq_true c15
        clear c15
        (first | rw [c15b0] | (simp only [i64_w, i32_w]; rw [c15b0]) | skip)
        have H' := Aside0.mk H
        clear H
        go_wp2
        go_meet
        case rel => exact ⟨_, (true), (by first | rfl | (simp; done) | (simp [*]; done)), H', ⟨by have := HJ2.out; first | omega | exact Nat.le_refl _⟩, ⟨by (with_reducible repeat (first | refine blk_drewN ?_ _ | refine blk_drew ?_ | refine blk_alloc ?_ _)); exact BK713.out⟩, ⟨by repeat (first | (with_reducible first | exact HB.out | apply below_alloc | apply pw_below_drewN | apply below_drew1 | refine below_set ?_ GE713.out) | exact HB.out)⟩⟩
       ·rw [if_neg c15] at H
        have c15b0 : decide (2000 < t715) = false := decide_eq_false c15
        clear c15
        (first | rw [c15b0] | (simp only [i64_w, i32_w]; rw [c15b0]) | skip)
        have H' := Aside0.mk H
        clear H
        go_wp2
        go_meet
        case rel => exact ⟨_, (decide ((a0.size : Int) < (wrap64 (t715 + 13)))), (by first | rfl | (simp; done) | (simp [*]; done)), H', ⟨by have := HJ2.out; first | omega | exact Nat.le_refl _⟩, ⟨by (with_reducible repeat (first | refine blk_drewN ?_ _ | refine blk_drew ?_ | refine blk_alloc ?_ _)); exact BK713.out⟩, ⟨by repeat (first | (with_reducible first | exact HB.out | apply below_alloc | apply pw_below_drewN | apply below_drew1 | refine below_set ?_ GE713.out) | exact HB.out)⟩⟩
      case rest =>
       clear HC14
       try clear c9
       try clear c11
       try clear c11b0
       try clear c11b1
       try clear c12
       try clear c12b0
       try clear c12b1
       obtain ⟨kq, x30_13, rfl, HA, HJ13, BK713, HB⟩ := hcut
       cases kq with
       | zero => exact absurd HA.out (by simp [spec_l04Next.j1])
       | succ kj13 =>
        have H := HA.out
        clear HA
        simp only [spec_l04Next.j1] at H
        by_cases c16 : x30_13 = true
        ·subst c16
         have H1 : (some (0, (⟨#[]⟩ : ByteArray), 0)) = some (r1, r2, r3) := by rw [if_pos rfl] at H; exact H
         clear H
         have H := H1
         clear H1
         simp only [Option.some.injEq, Prod.mk.injEq] at H
         obtain ⟨rfl, rfl, rfl⟩ := H
         have hcz17_0 : wc.cell? ⟨gb713, 0, none⟩ = some (.int .i64 0) := (blk_cell BK713.out 0).trans rfl
         have hcz17_1 : wc.cell? ⟨gb713, 1, none⟩ = some (.string (⟨#[]⟩ : ByteArray)) := (blk_cell BK713.out 1).trans rfl
         have hfz17_0 := blk_frozen BK713.out 0
         have hfz17_1 := blk_frozen BK713.out 1
         go_wp2
         refine bodyPost_ret (results_ct rfl _ _ gb713 45 #[.int .i64 0, .string (⟨#[]⟩ : ByteArray)] (0, 0) _ rfl (by (with_reducible repeat (first | refine blk_drewN ?_ _ | refine blk_drew ?_ | refine blk_alloc ?_ _)); refine blk_put (cs := #[.int .i64 0, .string (⟨#[]⟩ : ByteArray)]) ?_ 1 _ rfl; (with_reducible repeat (first | refine blk_drewN ?_ _ | refine blk_drew ?_ | refine blk_alloc ?_ _)); refine blk_put (cs := #[.int .i64 0, .string (⟨#[]⟩ : ByteArray)]) ?_ 0 _ rfl; (with_reducible repeat (first | refine blk_drewN ?_ _ | refine blk_drew ?_ | refine blk_alloc ?_ _)); exact BK713.out) Try.underlying45 rfl (by kernel_rfl)) rfl ?_
         exact ⟨by first | rfl | (simp [errW_none, errW_some] <;> rfl) | (simp [*, errW_none, errW_some] <;> rfl), by repeat (first | (with_reducible first | exact HB.out | apply below_alloc | apply pw_below_drewN | apply below_drew1 | refine below_set ?_ GE713.out) | exact HB.out)⟩
        ·replace c16 := Bool.eq_false_iff.mpr c16
         subst c16
         have H1 : (if 8 < (a0.size : Int) then (if 9 ≤ (wrap64 (9 + t715)) then (if (wrap64 (9 + t715)) ≤ (a0.size : Int) then ((spec_l04RecOK.f (wrap64 (bt a0 8)) (a0.extract 9 ((wrap64 (9 + t715)) : Int).toNat)).bind fun t717 => (if t717 = true then (if 0 ≤ (wrap64 (t715 + 13)) then (if (wrap64 (t715 + 13)) ≤ (a0.size : Int) then ((spec_l04Frame.f kj13 a1 (wrap64 (bt a0 8)) (a0.extract 9 ((wrap64 (9 + t715)) : Int).toNat)).bind fun t718 => (if (a0.extract 0 ((wrap64 (t715 + 13)) : Int).toNat).toList = t718.toList then (some (wrap64 (bt a0 8), a0.extract 9 ((wrap64 (9 + t715)) : Int).toNat, wrap64 (t715 + 13))) else (some (0, (⟨#[]⟩ : ByteArray), 0)))) else (none)) else (none)) else (some (0, (⟨#[]⟩ : ByteArray), 0)))) else (none)) else (none)) else (none)) = some (r1, r2, r3) := by rw [if_neg (show ¬ (false = true) by decide)] at H; exact H
         clear H
         have H := H1
         clear H1
         by_cases c18 : 8 < (a0.size : Int)
         ·rw [if_pos c18] at H
          have c18b0 : decide (8 < (a0.size : Int)) = true := decide_eq_true c18
          have c18b1 : decide (8 < a0.size) = true := decide_eq_true (by omega)
          clear c18
          by_cases c20 : 9 ≤ (wrap64 (9 + t715))
          ·rw [if_pos c20] at H
           have c20b0 := eq_true c20
           have c20b1 : decide (9 ≤ (wrap64 (9 + t715))) = true := decide_eq_true c20
           by_cases c21 : (wrap64 (9 + t715)) ≤ (a0.size : Int)
           ·rw [if_pos c21] at H
            have c21b0 := eq_true c21
            have c21b1 : decide ((wrap64 (9 + t715)) ≤ (a0.size : Int)) = true := decide_eq_true c21
            replace H := Option.bind_eq_some_iff.mp H
            obtain ⟨t717, A220, H⟩ := H
            replace H : (if t717 = true then (if 0 ≤ (wrap64 (t715 + 13)) then (if (wrap64 (t715 + 13)) ≤ (a0.size : Int) then ((spec_l04Frame.f kj13 a1 (wrap64 (bt a0 8)) (a0.extract 9 ((wrap64 (9 + t715)) : Int).toNat)).bind fun t718 => (if (a0.extract 0 ((wrap64 (t715 + 13)) : Int).toNat).toList = t718.toList then (some (wrap64 (bt a0 8), a0.extract 9 ((wrap64 (9 + t715)) : Int).toNat, wrap64 (t715 + 13))) else (some (0, (⟨#[]⟩ : ByteArray), 0)))) else (none)) else (none)) else (some (0, (⟨#[]⟩ : ByteArray), 0))) = some (r1, r2, r3) := H
            have A22 := Aside0.mk A220
            clear A220
            by_cases c23 : t717 = true
            ·subst c23
             have H1 : (if 0 ≤ (wrap64 (t715 + 13)) then (if (wrap64 (t715 + 13)) ≤ (a0.size : Int) then ((spec_l04Frame.f kj13 a1 (wrap64 (bt a0 8)) (a0.extract 9 ((wrap64 (9 + t715)) : Int).toNat)).bind fun t718 => (if (a0.extract 0 ((wrap64 (t715 + 13)) : Int).toNat).toList = t718.toList then (some (wrap64 (bt a0 8), a0.extract 9 ((wrap64 (9 + t715)) : Int).toNat, wrap64 (t715 + 13))) else (some (0, (⟨#[]⟩ : ByteArray), 0)))) else (none)) else (none)) = some (r1, r2, r3) := by rw [if_pos rfl] at H; exact H
             clear H
             have H := H1
             clear H1
             obtain ⟨ji24, hji24⟩ : ∃ j_ : Int, (wrap64 (t715 + 13)) = j_ := ⟨_, rfl⟩
             replace H : (if 0 ≤ (ji24) then (if (ji24) ≤ (a0.size : Int) then ((spec_l04Frame.f kj13 a1 (wrap64 (bt a0 8)) (a0.extract 9 ((wrap64 (9 + t715)) : Int).toNat)).bind fun t718 => (if (a0.extract 0 ((ji24) : Int).toNat).toList = t718.toList then (some (wrap64 (bt a0 8), a0.extract 9 ((wrap64 (9 + t715)) : Int).toNat, ji24)) else (some (0, (⟨#[]⟩ : ByteArray), 0)))) else (none)) else (none)) = some (r1, r2, r3) := by first | (rw [hji24] at H; exact H) | (simp only [hji24] at H ⊢; exact H)
             (try rw [hji24] at A22)
             have hji24w : (IntKind.i64.wrap (t715 + 13)) = ji24 := (i64_w _).trans hji24
             by_cases c25 : 0 ≤ (ji24)
             ·rw [if_pos c25] at H
              have c25b0 := eq_true c25
              have c25b1 : decide (0 ≤ (ji24)) = true := decide_eq_true c25
              clear c25
              by_cases c26 : (ji24) ≤ (a0.size : Int)
              ·rw [if_pos c26] at H
               have c26b0 := eq_true c26
               have c26b1 : decide ((ji24) ≤ (a0.size : Int)) = true := decide_eq_true c26
               clear c26
               replace H := Option.bind_eq_some_iff.mp H
               obtain ⟨t718, A270, H⟩ := H
               replace H : (if (a0.extract 0 ((ji24) : Int).toNat).toList = t718.toList then (some (wrap64 (bt a0 8), a0.extract 9 ((wrap64 (9 + t715)) : Int).toNat, ji24)) else (some (0, (⟨#[]⟩ : ByteArray), 0))) = some (r1, r2, r3) := H
               have A27 := Aside0.mk A270
               clear A270
               by_cases c28 : (a0.extract 0 ((ji24) : Int).toNat).toList = t718.toList
               ·rw [if_pos c28] at H
                have c28b0 : ((a0.extract 0 ((ji24) : Int).toNat).toList == t718.toList) = true := beq_iff_eq.mpr c28
                have c28b1 : ((a0.extract 0 ((ji24) : Int).toNat).toList != t718.toList) = false := bne_eq_false_iff_eq.mpr c28
                clear c28
                simp only [Option.some.injEq, Prod.mk.injEq] at H
                obtain ⟨rfl, rfl, rfl⟩ := H
                try go_wp2
                have n0_ := Aside0.mk (blk_drew BK713.out)
                have n1_ := Aside0.mk (below_drew1 HB.out)
                clear BK713
                clear HB
                have BK713 := n0_
                have HB := n1_
                clear n0_ n1_
                have p19 : 0 ≤ (8 : Int) := (by omega)
                have q19 : 8 < a0.size := (by have : (8 : Int) < (a0.size : Int) := of_decide_eq_true (by first | (with_reducible assumption) | assumption); omega)
                have hx19 : ∀ h : 8 < a0.size, ((a0[8]'h).toNat : Int) = bt a0 8 := bt_at a0 8
                clear p19
                have qi19 : (8 < (a0.size : Int)) = True := eq_true (of_decide_eq_true (by first | (with_reducible assumption) | assumption))
                replace q19 := eq_true q19
                refine start_ (n := 10) (S := fun w' => True) (ds := []) #[false, false, false, false, false, false, false, false, false, false] (by kernel_rfl) rfl rfl trivial (fun hHeld => ?_); refine with_tabW spec_l04Next.tab6 spec_l04Next.bits6 (fun HT_ HW_ => ?_)
                generalize wc.drew = w29 at BK713 HB hHeld ⊢
                refine zp 0 32 ?_
                refine zp 3 35 ?_
                refine zp 4 36 ?_
                refine zp 5 37 ?_
                refine zp 6 38 ?_
                refine take_ (i := 1) (N := some 33) (v := ?_) (a' := ?_) #[true, true, false, true, true, true, true, false, false, false] rfl rfl (take_ofW HT_.out HW_.out (by kernel_rfl)) (fun _ _ _ h => h) (Or.inl ⟨by rfl, ?_⟩) hHeld ?_ ?_
                rotate_left
                ·intro w' _
                 go_simp
                 with_reducible rfl
                rotate_left
                ·simp only [Act.put, List.setIfInBounds_toArray, List.set_cons_zero, List.set_cons_succ, i64_w, i32_w]
                 rfl
                refine zp 2 34 ?_
                refine zp 7 39 ?_
                refine one_ (i := 8) (N := some 7) #[true, true, true, true, true, true, true, true, true, false] rfl rfl (one_of HT_.out (by kernel_rfl)) (by decide) (fun K hK => ?_)
                refine box_step ?hg (N := 7) ?hd (cs := #[.int .i64 0, .string (⟨#[]⟩ : ByteArray)]) (t := 45) ?hr ?_; (case hd => rfl); (case hg => rfl); (case hr => first | (go_simp; done) | (go_simp; rfl))
                intro gb716 hg w30 hbox hb
                have n0_ := Aside0.mk (blk_below (zk BK713.out) hb)
                have n1_ := Aside0.mk (below_step (by repeat (first | (with_reducible first | exact HB.out | apply below_alloc | apply pw_below_drewN | apply below_drew1 | refine below_set ?_ GE713.out) | exact HB.out)) hb)
                have n2_ := Aside0.mk (hbox)
                have n3_ := Aside0.mk ((by rw [hg]; exact (below_size (by repeat (first | (with_reducible first | exact HB.out | apply below_alloc | apply pw_below_drewN | apply below_drew1 | refine below_set ?_ GE713.out) | exact HB.out))) : w.heap.size ≤ gb716))
                have n4_ := Aside0.mk ((by rw [hg]; exact (below_size (by repeat (first | (with_reducible first | exact HB.out | apply below_alloc | apply pw_below_drewN | apply below_drew1 | refine below_set ?_ GE713.out) | exact HB.out))) : w.heap.size ≤ gb716))
                have n5_ := Aside0.mk ((by rw [hg]; exact Nat.ne_of_lt (blk_lt (g := gb713) (o := .cells #[.int .i64 0, .string (⟨#[]⟩ : ByteArray)] 45 (0, 0)) (zk BK713.out)) : gb713 ≠ gb716))
                have n6_ := Aside0.mk ((by rw [hg]; exact Nat.ne_of_gt (blk_lt (g := gb713) (o := .cells #[.int .i64 0, .string (⟨#[]⟩ : ByteArray)] 45 (0, 0)) (zk BK713.out)) : gb716 ≠ gb713))
                clear BK713
                clear HB
                have BK713 := n0_
                have HB := n1_
                have BK716 := n2_
                have GW716 := n3_
                have GE716 := n4_
                have NB713_716 := n5_
                have NB716_713 := n6_
                clear n0_ n1_ n2_ n3_ n4_ n5_ n6_
                clear hb hbox hg
                refine hK.out _ _ trivial (fun hHeld => ?_)
                clear hK K
                refine norm_ (a' := ?_) ?_ ?_
                rotate_left
                ·show Act.put _ (some 7) _ = _
                 simp only [Act.put, List.setIfInBounds_toArray, List.set_cons_zero, List.set_cons_succ, i64_w, i32_w]
                 rfl
                refine one_ (i := 9) (N := none) #[true, true, true, true, true, true, true, true, true, true] rfl rfl (one_of HT_.out (by kernel_rfl)) (by decide) (fun K hK => ?_)
                have hs31 : w30.cell? ⟨gb716, 0, none⟩ = some (.int .i64 0) := (blk_cell BK716.out 0).trans rfl
                have hfs31 := blk_frozen BK716.out 0
                have hns31_0 := NB713_716.out
                have hms31_0 := NB716_713.out
                have hs32 : w30.cell? ⟨gb716, 1, none⟩ = some (.string (⟨#[]⟩ : ByteArray)) := (blk_cell BK716.out 1).trans rfl
                have hfs32 := blk_frozen BK716.out 1
                have hns32_0 := NB713_716.out
                have hms32_0 := NB716_713.out
                refine skip_ (w1 := ?_) (by rfl) rfl ?_ ?_
                rotate_left
                ·go_simp
                 rfl
                refine hK.out _ _ trivial (fun hHeld => ?_)
                clear hK K
                refine done_ (done_of HT_.out (by kernel_rfl)) ?_
                try go_wp2
                have n0_ : Aside0 (((w30.setCell ⟨gb716, 0, none⟩ (.int .i64 (wrap64 (bt a0 8)))).setCell ⟨gb716, 1, none⟩ (.string (a0.extract 9 ((wrap64 (9 + t715)) : Int).toNat))).heap[gb713]? = some (.cells #[.int .i64 0, .string (⟨#[]⟩ : ByteArray)] 45 (0, 0))) := ⟨by (with_reducible repeat (first | refine blk_drewN ?_ _ | refine blk_drew ?_ | refine blk_alloc ?_ _)); refine blk_far ?_ NB713_716.out _; (with_reducible repeat (first | refine blk_drewN ?_ _ | refine blk_drew ?_ | refine blk_alloc ?_ _)); refine blk_far ?_ NB713_716.out _; (with_reducible repeat (first | refine blk_drewN ?_ _ | refine blk_drew ?_ | refine blk_alloc ?_ _)); exact BK713.out⟩
                have n1_ : Aside0 (((w30.setCell ⟨gb716, 0, none⟩ (.int .i64 (wrap64 (bt a0 8)))).setCell ⟨gb716, 1, none⟩ (.string (a0.extract 9 ((wrap64 (9 + t715)) : Int).toNat))).heap[gb716]? = some (.cells #[.int .i64 (wrap64 (bt a0 8)), .string (a0.extract 9 ((wrap64 (9 + t715)) : Int).toNat)] 45 (0, 0))) := ⟨by (with_reducible repeat (first | refine blk_drewN ?_ _ | refine blk_drew ?_ | refine blk_alloc ?_ _)); refine blk_put (cs := #[.int .i64 (wrap64 (bt a0 8)), .string (⟨#[]⟩ : ByteArray)]) ?_ 1 _ rfl; (with_reducible repeat (first | refine blk_drewN ?_ _ | refine blk_drew ?_ | refine blk_alloc ?_ _)); refine blk_put (cs := #[.int .i64 0, .string (⟨#[]⟩ : ByteArray)]) ?_ 0 _ rfl; (with_reducible repeat (first | refine blk_drewN ?_ _ | refine blk_drew ?_ | refine blk_alloc ?_ _)); exact BK716.out⟩
                have n2_ : Aside0 (Below w.heap.size w ((w30.setCell ⟨gb716, 0, none⟩ (.int .i64 (wrap64 (bt a0 8)))).setCell ⟨gb716, 1, none⟩ (.string (a0.extract 9 ((wrap64 (9 + t715)) : Int).toNat)))) := ⟨by repeat (first | (with_reducible first | exact HB.out | apply below_alloc | apply pw_below_drewN | apply below_drew1 | refine below_set ?_ GE713.out | refine below_set ?_ GE716.out) | exact HB.out)⟩
                (try clear BK713)
                (try clear BK716)
                (try clear HB)
                generalize ((w30.setCell ⟨gb716, 0, none⟩ (.int .i64 (wrap64 (bt a0 8)))).setCell ⟨gb716, 1, none⟩ (.string (a0.extract 9 ((wrap64 (9 + t715)) : Int).toNat))) = w33 at n0_ n1_ n2_ ⊢
                have BK713 := n0_
                have BK716 := n1_
                have HB := n2_
                clear n0_ n1_ n2_
                have n0_ := Aside0.mk (blk_drew BK713.out)
                have n1_ := Aside0.mk (blk_drew BK716.out)
                have n2_ := Aside0.mk (below_drew1 HB.out)
                clear BK713
                clear BK716
                clear HB
                have BK713 := n0_
                have BK716 := n1_
                have HB := n2_
                clear n0_ n1_ n2_
                refine start_ (n := 13) (S := fun w' => w'.cell? ⟨gb716, 0, none⟩ = some (.int .i64 (wrap64 (bt a0 8))) ∧ w'.cell? ⟨gb716, 1, none⟩ = some (.string (a0.extract 9 ((wrap64 (9 + t715)) : Int).toNat))) (ds := []) #[false, false, false, false, false, false, false, false, false, false, false, false, false] (by kernel_rfl) rfl rfl ⟨(blk_cell BK716.out 0).trans rfl, (blk_cell BK716.out 1).trans rfl⟩ (fun hHeld => ?_); refine with_tabW spec_l04Next.tab7 spec_l04Next.bits7 (fun HT_ HW_ => ?_)
                generalize w33.drew = w34 at BK713 BK716 HB hHeld ⊢
                refine zt 0 40 ?_ (hr := by rintro w' ⟨s0, s1⟩; go_simp; with_reducible rfl)
                refine one_ (i := 1) (N := some 41) #[true, true, false, false, false, false, false, false, false, false, false, false, false] rfl rfl (one_of HT_.out (by kernel_rfl)) (by decide) (fun K hK => ?_)
                refine goes_ Try.func31 (by kernel_rfl) rfl #[.agg #[.int .i64 (wrap64 (bt a0 8)), .string (a0.extract 9 ((wrap64 (9 + t715)) : Int).toNat)]] (by rfl) rfl rfl zm ?_
                with_reducible refine (spec_l04RecOK.calls (wrap64 (bt a0 8)) (a0.extract 9 ((wrap64 (9 + t715)) : Int).toNat) true _ A22.out).mono ?_
                rintro e w35 ⟨rfl, hb⟩
                refine ⟨_, rfl, ?_⟩
                have n0_ := Aside0.mk (blk_below (zk BK713.out) hb)
                have n1_ := Aside0.mk (blk_below (g := gb716) (o := .cells #[.int .i64 (wrap64 (bt a0 8)), .string (a0.extract 9 ((wrap64 (9 + t715)) : Int).toNat)] 45 (0, 0)) (zk BK716.out) hb)
                have n2_ := Aside0.mk (below_step (by repeat (first | (with_reducible first | exact HB.out | apply below_alloc | apply pw_below_drewN | apply below_drew1 | refine below_set ?_ GE713.out | refine below_set ?_ GE716.out) | exact HB.out)) hb)
                clear BK713
                clear BK716
                clear HB
                have BK713 := n0_
                have BK716 := n1_
                have HB := n2_
                clear n0_ n1_ n2_
                (try clear hb)
                (try clear hb2)
                (try clear hk)
                (try clear hi)
                refine hK.out _ _ ⟨(blk_cell BK716.out 0).trans rfl, (blk_cell BK716.out 1).trans rfl⟩ (fun hHeld => ?_)
                clear hK K
                refine norm_ (a' := ?_) ?_ ?_
                rotate_left
                ·show Act.put _ (some 41) _ = _
                 simp only [Act.put, List.setIfInBounds_toArray, List.set_cons_zero, List.set_cons_succ, i64_w, i32_w]
                 rfl
                refine zp 2 42 ?_
                refine zp 3 43 ?_
                refine zp 4 44 ?_
                refine zp 5 45 ?_
                refine zp 6 46 ?_
                refine zp 7 47 ?_
                refine zp 8 48 ?_
                refine zt 9 49 ?_ (hr := by rintro w' ⟨s0, s1⟩; go_simp; with_reducible rfl)
                refine one_ (i := 10) (N := some 50) #[true, true, true, true, true, true, true, true, true, true, true, false, false] rfl rfl (one_of HT_.out (by kernel_rfl)) (by decide) (fun K hK => ?_)
                refine goes_ Try.func32 (by kernel_rfl) rfl #[.int .i64 a1, .agg #[.int .i64 (wrap64 (bt a0 8)), .string (a0.extract 9 ((wrap64 (9 + t715)) : Int).toNat)]] (by rfl) rfl rfl zm ?_
                with_reducible refine (spec_l04Frame.calls kj13 a1 (wrap64 (bt a0 8)) (a0.extract 9 ((wrap64 (9 + t715)) : Int).toNat) t718 _ A27.out).mono ?_
                rintro e w36 ⟨rfl, hb⟩
                refine ⟨_, rfl, ?_⟩
                have n0_ := Aside0.mk (blk_below (zk BK713.out) hb)
                have n1_ := Aside0.mk (blk_below (g := gb716) (o := .cells #[.int .i64 (wrap64 (bt a0 8)), .string (a0.extract 9 ((wrap64 (9 + t715)) : Int).toNat)] 45 (0, 0)) (zk BK716.out) hb)
                have n2_ := Aside0.mk (below_step (by repeat (first | (with_reducible first | exact HB.out | apply below_alloc | apply pw_below_drewN | apply below_drew1 | refine below_set ?_ GE713.out | refine below_set ?_ GE716.out) | exact HB.out)) hb)
                clear BK713
                clear BK716
                clear HB
                have BK713 := n0_
                have BK716 := n1_
                have HB := n2_
                clear n0_ n1_ n2_
                (try clear hb)
                (try clear hb2)
                (try clear hk)
                (try clear hi)
                refine hK.out _ _ ⟨(blk_cell BK716.out 0).trans rfl, (blk_cell BK716.out 1).trans rfl⟩ (fun hHeld => ?_)
                clear hK K
                refine norm_ (a' := ?_) ?_ ?_
                rotate_left
                ·show Act.put _ (some 50) _ = _
                 simp only [Act.put, List.setIfInBounds_toArray, List.set_cons_zero, List.set_cons_succ, i64_w, i32_w]
                 rfl
                refine zp 11 51 ?_
                refine zp 12 52 ?_
                refine done_ (done_of HT_.out (by kernel_rfl)) ?_
                have hnb37 := NB716_713.out
                have hnc37 := NB713_716.out
                have hcz38_0 : w36.cell? ⟨gb716, 0, none⟩ = some (.int .i64 (wrap64 (bt a0 8))) := (blk_cell BK716.out 0).trans rfl
                have hcz38_1 : w36.cell? ⟨gb716, 1, none⟩ = some (.string (a0.extract 9 ((wrap64 (9 + t715)) : Int).toNat)) := (blk_cell BK716.out 1).trans rfl
                have hfz38_0 := blk_frozen BK716.out 0
                have hfz38_1 := blk_frozen BK716.out 1
                have hcz39_0 : w36.cell? ⟨gb713, 0, none⟩ = some (.int .i64 0) := (blk_cell BK713.out 0).trans rfl
                have hcz39_1 : w36.cell? ⟨gb713, 1, none⟩ = some (.string (⟨#[]⟩ : ByteArray)) := (blk_cell BK713.out 1).trans rfl
                have hfz39_0 := blk_frozen BK713.out 0
                have hfz39_1 := blk_frozen BK713.out 1
                try go_wp2
                refine bodyPost_ret (results_ct rfl _ _ gb713 45 #[.int .i64 (wrap64 (bt a0 8)), .string (a0.extract 9 ((wrap64 (9 + t715)) : Int).toNat)] (0, 0) _ rfl (by (with_reducible repeat (first | refine blk_drewN ?_ _ | refine blk_drew ?_ | refine blk_alloc ?_ _)); refine blk_put (cs := #[.int .i64 (wrap64 (bt a0 8)), .string (⟨#[]⟩ : ByteArray)]) ?_ 1 _ rfl; (with_reducible repeat (first | refine blk_drewN ?_ _ | refine blk_drew ?_ | refine blk_alloc ?_ _)); refine blk_put (cs := #[.int .i64 0, .string (⟨#[]⟩ : ByteArray)]) ?_ 0 _ rfl; (with_reducible repeat (first | refine blk_drewN ?_ _ | refine blk_drew ?_ | refine blk_alloc ?_ _)); exact BK713.out) Try.underlying45 rfl (by kernel_rfl)) rfl ?_
                exact ⟨by first | rfl | (simp [errW_none, errW_some] <;> rfl) | (simp only [← hji24]; first | rfl | (simp [errW_none, errW_some] <;> rfl)) | (simp [*, errW_none, errW_some] <;> rfl), by repeat (first | (with_reducible first | exact HB.out | apply below_alloc | apply pw_below_drewN | apply below_drew1 | refine below_set ?_ GE713.out | refine below_set ?_ GE716.out) | exact HB.out)⟩
               ·rw [if_neg c28] at H
                have c28b0 : ((a0.extract 0 ((ji24) : Int).toNat).toList == t718.toList) = false := beq_eq_false_iff_ne.mpr c28
                have c28b1 : ((a0.extract 0 ((ji24) : Int).toNat).toList != t718.toList) = true := bne_iff_ne.mpr c28
                simp only [Option.some.injEq, Prod.mk.injEq] at H
                obtain ⟨rfl, rfl, rfl⟩ := H
                try go_wp2
                have n0_ := Aside0.mk (blk_drew BK713.out)
                have n1_ := Aside0.mk (below_drew1 HB.out)
                clear BK713
                clear HB
                have BK713 := n0_
                have HB := n1_
                clear n0_ n1_
                have p19 : 0 ≤ (8 : Int) := (by omega)
                have q19 : 8 < a0.size := (by have : (8 : Int) < (a0.size : Int) := of_decide_eq_true (by first | (with_reducible assumption) | assumption); omega)
                have hx19 : ∀ h : 8 < a0.size, ((a0[8]'h).toNat : Int) = bt a0 8 := bt_at a0 8
                clear p19
                have qi19 : (8 < (a0.size : Int)) = True := eq_true (of_decide_eq_true (by first | (with_reducible assumption) | assumption))
                replace q19 := eq_true q19
                refine start_ (n := 10) (S := fun w' => True) (ds := []) #[false, false, false, false, false, false, false, false, false, false] (by kernel_rfl) rfl rfl trivial (fun hHeld => ?_); refine with_tabW spec_l04Next.tab6 spec_l04Next.bits6 (fun HT_ HW_ => ?_)
                generalize wc.drew = w40 at BK713 HB hHeld ⊢
                refine zp 0 32 ?_
                refine zp 3 35 ?_
                refine zp 4 36 ?_
                refine zp 5 37 ?_
                refine zp 6 38 ?_
                refine take_ (i := 1) (N := some 33) (v := ?_) (a' := ?_) #[true, true, false, true, true, true, true, false, false, false] rfl rfl (take_ofW HT_.out HW_.out (by kernel_rfl)) (fun _ _ _ h => h) (Or.inl ⟨by rfl, ?_⟩) hHeld ?_ ?_
                rotate_left
                ·intro w' _
                 go_simp
                 with_reducible rfl
                rotate_left
                ·simp only [Act.put, List.setIfInBounds_toArray, List.set_cons_zero, List.set_cons_succ, i64_w, i32_w]
                 rfl
                refine zp 2 34 ?_
                refine zp 7 39 ?_
                refine one_ (i := 8) (N := some 7) #[true, true, true, true, true, true, true, true, true, false] rfl rfl (one_of HT_.out (by kernel_rfl)) (by decide) (fun K hK => ?_)
                refine box_step ?hg (N := 7) ?hd (cs := #[.int .i64 0, .string (⟨#[]⟩ : ByteArray)]) (t := 45) ?hr ?_; (case hd => rfl); (case hg => rfl); (case hr => first | (go_simp; done) | (go_simp; rfl))
                intro gb716 hg w41 hbox hb
                have n0_ := Aside0.mk (blk_below (zk BK713.out) hb)
                have n1_ := Aside0.mk (below_step (by repeat (first | (with_reducible first | exact HB.out | apply below_alloc | apply pw_below_drewN | apply below_drew1 | refine below_set ?_ GE713.out) | exact HB.out)) hb)
                have n2_ := Aside0.mk (hbox)
                have n3_ := Aside0.mk ((by rw [hg]; exact (below_size (by repeat (first | (with_reducible first | exact HB.out | apply below_alloc | apply pw_below_drewN | apply below_drew1 | refine below_set ?_ GE713.out) | exact HB.out))) : w.heap.size ≤ gb716))
                have n4_ := Aside0.mk ((by rw [hg]; exact (below_size (by repeat (first | (with_reducible first | exact HB.out | apply below_alloc | apply pw_below_drewN | apply below_drew1 | refine below_set ?_ GE713.out) | exact HB.out))) : w.heap.size ≤ gb716))
                have n5_ := Aside0.mk ((by rw [hg]; exact Nat.ne_of_lt (blk_lt (g := gb713) (o := .cells #[.int .i64 0, .string (⟨#[]⟩ : ByteArray)] 45 (0, 0)) (zk BK713.out)) : gb713 ≠ gb716))
                have n6_ := Aside0.mk ((by rw [hg]; exact Nat.ne_of_gt (blk_lt (g := gb713) (o := .cells #[.int .i64 0, .string (⟨#[]⟩ : ByteArray)] 45 (0, 0)) (zk BK713.out)) : gb716 ≠ gb713))
                clear BK713
                clear HB
                have BK713 := n0_
                have HB := n1_
                have BK716 := n2_
                have GW716 := n3_
                have GE716 := n4_
                have NB713_716 := n5_
                have NB716_713 := n6_
                clear n0_ n1_ n2_ n3_ n4_ n5_ n6_
                clear hb hbox hg
                refine hK.out _ _ trivial (fun hHeld => ?_)
                clear hK K
                refine norm_ (a' := ?_) ?_ ?_
                rotate_left
                ·show Act.put _ (some 7) _ = _
                 simp only [Act.put, List.setIfInBounds_toArray, List.set_cons_zero, List.set_cons_succ, i64_w, i32_w]
                 rfl
                refine one_ (i := 9) (N := none) #[true, true, true, true, true, true, true, true, true, true] rfl rfl (one_of HT_.out (by kernel_rfl)) (by decide) (fun K hK => ?_)
                have hs42 : w41.cell? ⟨gb716, 0, none⟩ = some (.int .i64 0) := (blk_cell BK716.out 0).trans rfl
                have hfs42 := blk_frozen BK716.out 0
                have hns42_0 := NB713_716.out
                have hms42_0 := NB716_713.out
                have hs43 : w41.cell? ⟨gb716, 1, none⟩ = some (.string (⟨#[]⟩ : ByteArray)) := (blk_cell BK716.out 1).trans rfl
                have hfs43 := blk_frozen BK716.out 1
                have hns43_0 := NB713_716.out
                have hms43_0 := NB716_713.out
                refine skip_ (w1 := ?_) (by rfl) rfl ?_ ?_
                rotate_left
                ·go_simp
                 rfl
                refine hK.out _ _ trivial (fun hHeld => ?_)
                clear hK K
                refine done_ (done_of HT_.out (by kernel_rfl)) ?_
                try go_wp2
                have n0_ : Aside0 (((w41.setCell ⟨gb716, 0, none⟩ (.int .i64 (wrap64 (bt a0 8)))).setCell ⟨gb716, 1, none⟩ (.string (a0.extract 9 ((wrap64 (9 + t715)) : Int).toNat))).heap[gb713]? = some (.cells #[.int .i64 0, .string (⟨#[]⟩ : ByteArray)] 45 (0, 0))) := ⟨by (with_reducible repeat (first | refine blk_drewN ?_ _ | refine blk_drew ?_ | refine blk_alloc ?_ _)); refine blk_far ?_ NB713_716.out _; (with_reducible repeat (first | refine blk_drewN ?_ _ | refine blk_drew ?_ | refine blk_alloc ?_ _)); refine blk_far ?_ NB713_716.out _; (with_reducible repeat (first | refine blk_drewN ?_ _ | refine blk_drew ?_ | refine blk_alloc ?_ _)); exact BK713.out⟩
                have n1_ : Aside0 (((w41.setCell ⟨gb716, 0, none⟩ (.int .i64 (wrap64 (bt a0 8)))).setCell ⟨gb716, 1, none⟩ (.string (a0.extract 9 ((wrap64 (9 + t715)) : Int).toNat))).heap[gb716]? = some (.cells #[.int .i64 (wrap64 (bt a0 8)), .string (a0.extract 9 ((wrap64 (9 + t715)) : Int).toNat)] 45 (0, 0))) := ⟨by (with_reducible repeat (first | refine blk_drewN ?_ _ | refine blk_drew ?_ | refine blk_alloc ?_ _)); refine blk_put (cs := #[.int .i64 (wrap64 (bt a0 8)), .string (⟨#[]⟩ : ByteArray)]) ?_ 1 _ rfl; (with_reducible repeat (first | refine blk_drewN ?_ _ | refine blk_drew ?_ | refine blk_alloc ?_ _)); refine blk_put (cs := #[.int .i64 0, .string (⟨#[]⟩ : ByteArray)]) ?_ 0 _ rfl; (with_reducible repeat (first | refine blk_drewN ?_ _ | refine blk_drew ?_ | refine blk_alloc ?_ _)); exact BK716.out⟩
                have n2_ : Aside0 (Below w.heap.size w ((w41.setCell ⟨gb716, 0, none⟩ (.int .i64 (wrap64 (bt a0 8)))).setCell ⟨gb716, 1, none⟩ (.string (a0.extract 9 ((wrap64 (9 + t715)) : Int).toNat)))) := ⟨by repeat (first | (with_reducible first | exact HB.out | apply below_alloc | apply pw_below_drewN | apply below_drew1 | refine below_set ?_ GE713.out | refine below_set ?_ GE716.out) | exact HB.out)⟩
                (try clear BK713)
                (try clear BK716)
                (try clear HB)
                generalize ((w41.setCell ⟨gb716, 0, none⟩ (.int .i64 (wrap64 (bt a0 8)))).setCell ⟨gb716, 1, none⟩ (.string (a0.extract 9 ((wrap64 (9 + t715)) : Int).toNat))) = w44 at n0_ n1_ n2_ ⊢
                have BK713 := n0_
                have BK716 := n1_
                have HB := n2_
                clear n0_ n1_ n2_
                have n0_ := Aside0.mk (blk_drew BK713.out)
                have n1_ := Aside0.mk (blk_drew BK716.out)
                have n2_ := Aside0.mk (below_drew1 HB.out)
                clear BK713
                clear BK716
                clear HB
                have BK713 := n0_
                have BK716 := n1_
                have HB := n2_
                clear n0_ n1_ n2_
                refine start_ (n := 13) (S := fun w' => w'.cell? ⟨gb716, 0, none⟩ = some (.int .i64 (wrap64 (bt a0 8))) ∧ w'.cell? ⟨gb716, 1, none⟩ = some (.string (a0.extract 9 ((wrap64 (9 + t715)) : Int).toNat))) (ds := []) #[false, false, false, false, false, false, false, false, false, false, false, false, false] (by kernel_rfl) rfl rfl ⟨(blk_cell BK716.out 0).trans rfl, (blk_cell BK716.out 1).trans rfl⟩ (fun hHeld => ?_); refine with_tabW spec_l04Next.tab7 spec_l04Next.bits7 (fun HT_ HW_ => ?_)
                generalize w44.drew = w45 at BK713 BK716 HB hHeld ⊢
                refine zt 0 40 ?_ (hr := by rintro w' ⟨s0, s1⟩; go_simp; with_reducible rfl)
                refine one_ (i := 1) (N := some 41) #[true, true, false, false, false, false, false, false, false, false, false, false, false] rfl rfl (one_of HT_.out (by kernel_rfl)) (by decide) (fun K hK => ?_)
                refine goes_ Try.func31 (by kernel_rfl) rfl #[.agg #[.int .i64 (wrap64 (bt a0 8)), .string (a0.extract 9 ((wrap64 (9 + t715)) : Int).toNat)]] (by rfl) rfl rfl zm ?_
                with_reducible refine (spec_l04RecOK.calls (wrap64 (bt a0 8)) (a0.extract 9 ((wrap64 (9 + t715)) : Int).toNat) true _ A22.out).mono ?_
                rintro e w46 ⟨rfl, hb⟩
                refine ⟨_, rfl, ?_⟩
                have n0_ := Aside0.mk (blk_below (zk BK713.out) hb)
                have n1_ := Aside0.mk (blk_below (g := gb716) (o := .cells #[.int .i64 (wrap64 (bt a0 8)), .string (a0.extract 9 ((wrap64 (9 + t715)) : Int).toNat)] 45 (0, 0)) (zk BK716.out) hb)
                have n2_ := Aside0.mk (below_step (by repeat (first | (with_reducible first | exact HB.out | apply below_alloc | apply pw_below_drewN | apply below_drew1 | refine below_set ?_ GE713.out | refine below_set ?_ GE716.out) | exact HB.out)) hb)
                clear BK713
                clear BK716
                clear HB
                have BK713 := n0_
                have BK716 := n1_
                have HB := n2_
                clear n0_ n1_ n2_
                (try clear hb)
                (try clear hb2)
                (try clear hk)
                (try clear hi)
                refine hK.out _ _ ⟨(blk_cell BK716.out 0).trans rfl, (blk_cell BK716.out 1).trans rfl⟩ (fun hHeld => ?_)
                clear hK K
                refine norm_ (a' := ?_) ?_ ?_
                rotate_left
                ·show Act.put _ (some 41) _ = _
                 simp only [Act.put, List.setIfInBounds_toArray, List.set_cons_zero, List.set_cons_succ, i64_w, i32_w]
                 rfl
                refine zp 2 42 ?_
                refine zp 3 43 ?_
                refine zp 4 44 ?_
                refine zp 5 45 ?_
                refine zp 6 46 ?_
                refine zp 7 47 ?_
                refine zp 8 48 ?_
                refine zt 9 49 ?_ (hr := by rintro w' ⟨s0, s1⟩; go_simp; with_reducible rfl)
                refine one_ (i := 10) (N := some 50) #[true, true, true, true, true, true, true, true, true, true, true, false, false] rfl rfl (one_of HT_.out (by kernel_rfl)) (by decide) (fun K hK => ?_)
                refine goes_ Try.func32 (by kernel_rfl) rfl #[.int .i64 a1, .agg #[.int .i64 (wrap64 (bt a0 8)), .string (a0.extract 9 ((wrap64 (9 + t715)) : Int).toNat)]] (by rfl) rfl rfl zm ?_
                with_reducible refine (spec_l04Frame.calls kj13 a1 (wrap64 (bt a0 8)) (a0.extract 9 ((wrap64 (9 + t715)) : Int).toNat) t718 _ A27.out).mono ?_
                rintro e w47 ⟨rfl, hb⟩
                refine ⟨_, rfl, ?_⟩
                have n0_ := Aside0.mk (blk_below (zk BK713.out) hb)
                have n1_ := Aside0.mk (blk_below (g := gb716) (o := .cells #[.int .i64 (wrap64 (bt a0 8)), .string (a0.extract 9 ((wrap64 (9 + t715)) : Int).toNat)] 45 (0, 0)) (zk BK716.out) hb)
                have n2_ := Aside0.mk (below_step (by repeat (first | (with_reducible first | exact HB.out | apply below_alloc | apply pw_below_drewN | apply below_drew1 | refine below_set ?_ GE713.out | refine below_set ?_ GE716.out) | exact HB.out)) hb)
                clear BK713
                clear BK716
                clear HB
                have BK713 := n0_
                have BK716 := n1_
                have HB := n2_
                clear n0_ n1_ n2_
                (try clear hb)
                (try clear hb2)
                (try clear hk)
                (try clear hi)
                refine hK.out _ _ ⟨(blk_cell BK716.out 0).trans rfl, (blk_cell BK716.out 1).trans rfl⟩ (fun hHeld => ?_)
                clear hK K
                refine norm_ (a' := ?_) ?_ ?_
                rotate_left
                ·show Act.put _ (some 50) _ = _
                 simp only [Act.put, List.setIfInBounds_toArray, List.set_cons_zero, List.set_cons_succ, i64_w, i32_w]
                 rfl
                refine zp 11 51 ?_
                refine zp 12 52 ?_
                refine done_ (done_of HT_.out (by kernel_rfl)) ?_
                have hnb48 := NB713_716.out
                have hnc48 := NB716_713.out
                have hcz49_0 : w47.cell? ⟨gb713, 0, none⟩ = some (.int .i64 0) := (blk_cell BK713.out 0).trans rfl
                have hcz49_1 : w47.cell? ⟨gb713, 1, none⟩ = some (.string (⟨#[]⟩ : ByteArray)) := (blk_cell BK713.out 1).trans rfl
                have hfz49_0 := blk_frozen BK713.out 0
                have hfz49_1 := blk_frozen BK713.out 1
                try go_wp2
                refine bodyPost_ret (results_ct rfl _ _ gb713 45 #[.int .i64 0, .string (⟨#[]⟩ : ByteArray)] (0, 0) _ rfl (by (with_reducible repeat (first | refine blk_drewN ?_ _ | refine blk_drew ?_ | refine blk_alloc ?_ _)); refine blk_put (cs := #[.int .i64 0, .string (⟨#[]⟩ : ByteArray)]) ?_ 1 _ rfl; (with_reducible repeat (first | refine blk_drewN ?_ _ | refine blk_drew ?_ | refine blk_alloc ?_ _)); refine blk_put (cs := #[.int .i64 0, .string (⟨#[]⟩ : ByteArray)]) ?_ 0 _ rfl; (with_reducible repeat (first | refine blk_drewN ?_ _ | refine blk_drew ?_ | refine blk_alloc ?_ _)); exact BK713.out) Try.underlying45 rfl (by kernel_rfl)) rfl ?_
                exact ⟨by first | rfl | (simp [errW_none, errW_some] <;> rfl) | (simp only [← hji24]; first | rfl | (simp [errW_none, errW_some] <;> rfl)) | (simp [*, errW_none, errW_some] <;> rfl), by repeat (first | (with_reducible first | exact HB.out | apply below_alloc | apply pw_below_drewN | apply below_drew1 | refine below_set ?_ GE713.out | refine below_set ?_ GE716.out) | exact HB.out)⟩
              ·rw [if_neg c26] at H
               cases H
             ·rw [if_neg c25] at H
              cases H
            ·replace c23 := Bool.eq_false_iff.mpr c23
             subst c23
             have H1 : (some (0, (⟨#[]⟩ : ByteArray), 0)) = some (r1, r2, r3) := by rw [if_neg (show ¬ (false = true) by decide)] at H; exact H
             clear H
             have H := H1
             clear H1
             simp only [Option.some.injEq, Prod.mk.injEq] at H
             obtain ⟨rfl, rfl, rfl⟩ := H
             try go_wp2
             have n0_ := Aside0.mk (blk_drew BK713.out)
             have n1_ := Aside0.mk (below_drew1 HB.out)
             clear BK713
             clear HB
             have BK713 := n0_
             have HB := n1_
             clear n0_ n1_
             have p19 : 0 ≤ (8 : Int) := (by omega)
             have q19 : 8 < a0.size := (by have : (8 : Int) < (a0.size : Int) := of_decide_eq_true (by first | (with_reducible assumption) | assumption); omega)
             have hx19 : ∀ h : 8 < a0.size, ((a0[8]'h).toNat : Int) = bt a0 8 := bt_at a0 8
             clear p19
             have qi19 : (8 < (a0.size : Int)) = True := eq_true (of_decide_eq_true (by first | (with_reducible assumption) | assumption))
             replace q19 := eq_true q19
             refine start_ (n := 10) (S := fun w' => True) (ds := []) #[false, false, false, false, false, false, false, false, false, false] (by kernel_rfl) rfl rfl trivial (fun hHeld => ?_); refine with_tabW spec_l04Next.tab6 spec_l04Next.bits6 (fun HT_ HW_ => ?_)
             generalize wc.drew = w50 at BK713 HB hHeld ⊢
             refine zp 0 32 ?_
             refine zp 3 35 ?_
             refine zp 4 36 ?_
             refine zp 5 37 ?_
             refine zp 6 38 ?_
             refine take_ (i := 1) (N := some 33) (v := ?_) (a' := ?_) #[true, true, false, true, true, true, true, false, false, false] rfl rfl (take_ofW HT_.out HW_.out (by kernel_rfl)) (fun _ _ _ h => h) (Or.inl ⟨by rfl, ?_⟩) hHeld ?_ ?_
             rotate_left
             ·intro w' _
              go_simp
              with_reducible rfl
             rotate_left
             ·simp only [Act.put, List.setIfInBounds_toArray, List.set_cons_zero, List.set_cons_succ, i64_w, i32_w]
              rfl
             refine zp 2 34 ?_
             refine zp 7 39 ?_
             refine one_ (i := 8) (N := some 7) #[true, true, true, true, true, true, true, true, true, false] rfl rfl (one_of HT_.out (by kernel_rfl)) (by decide) (fun K hK => ?_)
             refine box_step ?hg (N := 7) ?hd (cs := #[.int .i64 0, .string (⟨#[]⟩ : ByteArray)]) (t := 45) ?hr ?_; (case hd => rfl); (case hg => rfl); (case hr => first | (go_simp; done) | (go_simp; rfl))
             intro gb716 hg w51 hbox hb
             have n0_ := Aside0.mk (blk_below (zk BK713.out) hb)
             have n1_ := Aside0.mk (below_step (by repeat (first | (with_reducible first | exact HB.out | apply below_alloc | apply pw_below_drewN | apply below_drew1 | refine below_set ?_ GE713.out) | exact HB.out)) hb)
             have n2_ := Aside0.mk (hbox)
             have n3_ := Aside0.mk ((by rw [hg]; exact (below_size (by repeat (first | (with_reducible first | exact HB.out | apply below_alloc | apply pw_below_drewN | apply below_drew1 | refine below_set ?_ GE713.out) | exact HB.out))) : w.heap.size ≤ gb716))
             have n4_ := Aside0.mk ((by rw [hg]; exact (below_size (by repeat (first | (with_reducible first | exact HB.out | apply below_alloc | apply pw_below_drewN | apply below_drew1 | refine below_set ?_ GE713.out) | exact HB.out))) : w.heap.size ≤ gb716))
             have n5_ := Aside0.mk ((by rw [hg]; exact Nat.ne_of_lt (blk_lt (g := gb713) (o := .cells #[.int .i64 0, .string (⟨#[]⟩ : ByteArray)] 45 (0, 0)) (zk BK713.out)) : gb713 ≠ gb716))
             have n6_ := Aside0.mk ((by rw [hg]; exact Nat.ne_of_gt (blk_lt (g := gb713) (o := .cells #[.int .i64 0, .string (⟨#[]⟩ : ByteArray)] 45 (0, 0)) (zk BK713.out)) : gb716 ≠ gb713))
             clear BK713
             clear HB
             have BK713 := n0_
             have HB := n1_
             have BK716 := n2_
             have GW716 := n3_
             have GE716 := n4_
             have NB713_716 := n5_
             have NB716_713 := n6_
             clear n0_ n1_ n2_ n3_ n4_ n5_ n6_
             clear hb hbox hg
             refine hK.out _ _ trivial (fun hHeld => ?_)
             clear hK K
             refine norm_ (a' := ?_) ?_ ?_
             rotate_left
             ·show Act.put _ (some 7) _ = _
              simp only [Act.put, List.setIfInBounds_toArray, List.set_cons_zero, List.set_cons_succ, i64_w, i32_w]
              rfl
             refine one_ (i := 9) (N := none) #[true, true, true, true, true, true, true, true, true, true] rfl rfl (one_of HT_.out (by kernel_rfl)) (by decide) (fun K hK => ?_)
             have hs52 : w51.cell? ⟨gb716, 0, none⟩ = some (.int .i64 0) := (blk_cell BK716.out 0).trans rfl
             have hfs52 := blk_frozen BK716.out 0
             have hns52_0 := NB713_716.out
             have hms52_0 := NB716_713.out
             have hs53 : w51.cell? ⟨gb716, 1, none⟩ = some (.string (⟨#[]⟩ : ByteArray)) := (blk_cell BK716.out 1).trans rfl
             have hfs53 := blk_frozen BK716.out 1
             have hns53_0 := NB713_716.out
             have hms53_0 := NB716_713.out
             refine skip_ (w1 := ?_) (by rfl) rfl ?_ ?_
             rotate_left
             ·go_simp
              rfl
             refine hK.out _ _ trivial (fun hHeld => ?_)
             clear hK K
             refine done_ (done_of HT_.out (by kernel_rfl)) ?_
             try go_wp2
             have n0_ : Aside0 (((w51.setCell ⟨gb716, 0, none⟩ (.int .i64 (wrap64 (bt a0 8)))).setCell ⟨gb716, 1, none⟩ (.string (a0.extract 9 ((wrap64 (9 + t715)) : Int).toNat))).heap[gb713]? = some (.cells #[.int .i64 0, .string (⟨#[]⟩ : ByteArray)] 45 (0, 0))) := ⟨by (with_reducible repeat (first | refine blk_drewN ?_ _ | refine blk_drew ?_ | refine blk_alloc ?_ _)); refine blk_far ?_ NB713_716.out _; (with_reducible repeat (first | refine blk_drewN ?_ _ | refine blk_drew ?_ | refine blk_alloc ?_ _)); refine blk_far ?_ NB713_716.out _; (with_reducible repeat (first | refine blk_drewN ?_ _ | refine blk_drew ?_ | refine blk_alloc ?_ _)); exact BK713.out⟩
             have n1_ : Aside0 (((w51.setCell ⟨gb716, 0, none⟩ (.int .i64 (wrap64 (bt a0 8)))).setCell ⟨gb716, 1, none⟩ (.string (a0.extract 9 ((wrap64 (9 + t715)) : Int).toNat))).heap[gb716]? = some (.cells #[.int .i64 (wrap64 (bt a0 8)), .string (a0.extract 9 ((wrap64 (9 + t715)) : Int).toNat)] 45 (0, 0))) := ⟨by (with_reducible repeat (first | refine blk_drewN ?_ _ | refine blk_drew ?_ | refine blk_alloc ?_ _)); refine blk_put (cs := #[.int .i64 (wrap64 (bt a0 8)), .string (⟨#[]⟩ : ByteArray)]) ?_ 1 _ rfl; (with_reducible repeat (first | refine blk_drewN ?_ _ | refine blk_drew ?_ | refine blk_alloc ?_ _)); refine blk_put (cs := #[.int .i64 0, .string (⟨#[]⟩ : ByteArray)]) ?_ 0 _ rfl; (with_reducible repeat (first | refine blk_drewN ?_ _ | refine blk_drew ?_ | refine blk_alloc ?_ _)); exact BK716.out⟩
             have n2_ : Aside0 (Below w.heap.size w ((w51.setCell ⟨gb716, 0, none⟩ (.int .i64 (wrap64 (bt a0 8)))).setCell ⟨gb716, 1, none⟩ (.string (a0.extract 9 ((wrap64 (9 + t715)) : Int).toNat)))) := ⟨by repeat (first | (with_reducible first | exact HB.out | apply below_alloc | apply pw_below_drewN | apply below_drew1 | refine below_set ?_ GE713.out | refine below_set ?_ GE716.out) | exact HB.out)⟩
             (try clear BK713)
             (try clear BK716)
             (try clear HB)
             generalize ((w51.setCell ⟨gb716, 0, none⟩ (.int .i64 (wrap64 (bt a0 8)))).setCell ⟨gb716, 1, none⟩ (.string (a0.extract 9 ((wrap64 (9 + t715)) : Int).toNat))) = w54 at n0_ n1_ n2_ ⊢
             have BK713 := n0_
             have BK716 := n1_
             have HB := n2_
             clear n0_ n1_ n2_
             have n0_ := Aside0.mk (blk_drew BK713.out)
             have n1_ := Aside0.mk (blk_drew BK716.out)
             have n2_ := Aside0.mk (below_drew1 HB.out)
             clear BK713
             clear BK716
             clear HB
             have BK713 := n0_
             have BK716 := n1_
             have HB := n2_
             clear n0_ n1_ n2_
             refine start_ (n := 13) (S := fun w' => w'.cell? ⟨gb716, 0, none⟩ = some (.int .i64 (wrap64 (bt a0 8))) ∧ w'.cell? ⟨gb716, 1, none⟩ = some (.string (a0.extract 9 ((wrap64 (9 + t715)) : Int).toNat))) (ds := []) #[false, false, false, false, false, false, false, false, false, false, false, false, false] (by kernel_rfl) rfl rfl ⟨(blk_cell BK716.out 0).trans rfl, (blk_cell BK716.out 1).trans rfl⟩ (fun hHeld => ?_); refine with_tabW spec_l04Next.tab7 spec_l04Next.bits7 (fun HT_ HW_ => ?_)
             generalize w54.drew = w55 at BK713 BK716 HB hHeld ⊢
             refine zt 0 40 ?_ (hr := by rintro w' ⟨s0, s1⟩; go_simp; with_reducible rfl)
             refine one_ (i := 1) (N := some 41) #[true, true, false, false, false, false, false, false, false, false, false, false, false] rfl rfl (one_of HT_.out (by kernel_rfl)) (by decide) (fun K hK => ?_)
             refine goes_ Try.func31 (by kernel_rfl) rfl #[.agg #[.int .i64 (wrap64 (bt a0 8)), .string (a0.extract 9 ((wrap64 (9 + t715)) : Int).toNat)]] (by rfl) rfl rfl zm ?_
             with_reducible refine (spec_l04RecOK.calls (wrap64 (bt a0 8)) (a0.extract 9 ((wrap64 (9 + t715)) : Int).toNat) false _ A22.out).mono ?_
             rintro e w56 ⟨rfl, hb⟩
             refine ⟨_, rfl, ?_⟩
             have n0_ := Aside0.mk (blk_below (zk BK713.out) hb)
             have n1_ := Aside0.mk (blk_below (g := gb716) (o := .cells #[.int .i64 (wrap64 (bt a0 8)), .string (a0.extract 9 ((wrap64 (9 + t715)) : Int).toNat)] 45 (0, 0)) (zk BK716.out) hb)
             have n2_ := Aside0.mk (below_step (by repeat (first | (with_reducible first | exact HB.out | apply below_alloc | apply pw_below_drewN | apply below_drew1 | refine below_set ?_ GE713.out | refine below_set ?_ GE716.out) | exact HB.out)) hb)
             clear BK713
             clear BK716
             clear HB
             have BK713 := n0_
             have BK716 := n1_
             have HB := n2_
             clear n0_ n1_ n2_
             (try clear hb)
             (try clear hb2)
             (try clear hk)
             (try clear hi)
             refine hK.out _ _ ⟨(blk_cell BK716.out 0).trans rfl, (blk_cell BK716.out 1).trans rfl⟩ (fun hHeld => ?_)
             clear hK K
             refine norm_ (a' := ?_) ?_ ?_
             rotate_left
             ·show Act.put _ (some 41) _ = _
              simp only [Act.put, List.setIfInBounds_toArray, List.set_cons_zero, List.set_cons_succ, i64_w, i32_w]
              rfl
             refine zp 2 42 ?_
             refine zp 3 43 ?_
             refine zu 4 44 ?_
             refine zu 5 45 ?_
             refine zu 6 46 ?_
             refine zu 7 47 ?_
             refine zu 8 48 ?_
             refine zu 9 49 ?_
             refine zu 10 50 ?_
             refine zu 11 51 ?_
             refine zp 12 52 ?_
             refine done_ (done_of HT_.out (by kernel_rfl)) ?_
             have hnb57 := NB713_716.out
             have hnc57 := NB716_713.out
             have hcz58_0 : w56.cell? ⟨gb713, 0, none⟩ = some (.int .i64 0) := (blk_cell BK713.out 0).trans rfl
             have hcz58_1 : w56.cell? ⟨gb713, 1, none⟩ = some (.string (⟨#[]⟩ : ByteArray)) := (blk_cell BK713.out 1).trans rfl
             have hfz58_0 := blk_frozen BK713.out 0
             have hfz58_1 := blk_frozen BK713.out 1
             try go_wp2
             refine bodyPost_ret (results_ct rfl _ _ gb713 45 #[.int .i64 0, .string (⟨#[]⟩ : ByteArray)] (0, 0) _ rfl (by (with_reducible repeat (first | refine blk_drewN ?_ _ | refine blk_drew ?_ | refine blk_alloc ?_ _)); refine blk_put (cs := #[.int .i64 0, .string (⟨#[]⟩ : ByteArray)]) ?_ 1 _ rfl; (with_reducible repeat (first | refine blk_drewN ?_ _ | refine blk_drew ?_ | refine blk_alloc ?_ _)); refine blk_put (cs := #[.int .i64 0, .string (⟨#[]⟩ : ByteArray)]) ?_ 0 _ rfl; (with_reducible repeat (first | refine blk_drewN ?_ _ | refine blk_drew ?_ | refine blk_alloc ?_ _)); exact BK713.out) Try.underlying45 rfl (by kernel_rfl)) rfl ?_
             exact ⟨by first | rfl | (simp [errW_none, errW_some] <;> rfl) | (simp [*, errW_none, errW_some] <;> rfl), by repeat (first | (with_reducible first | exact HB.out | apply below_alloc | apply pw_below_drewN | apply below_drew1 | refine below_set ?_ GE713.out | refine below_set ?_ GE716.out) | exact HB.out)⟩
           ·rw [if_neg c21] at H
            cases H
          ·rw [if_neg c20] at H
           cases H
         ·rw [if_neg c18] at H
          cases H
     ·rw [if_neg c12] at H
      cases H
    ·rw [if_neg c11] at H
     cases H

end Go.Proofs.Ytnicllekmkkhlaa.QFnDiskSafe
