/- The functions that the law reaches, each as a plain Lean function with the proof that the Go code comes to its answers: written by a program of this session. No condition. -/
import Derived.Test.YtnicllekmkkhlaaQFnDiskSafex0
import Derived.Test.YtnicllekmkkhlaaQFnDiskSafex8
namespace Go.Proofs.Ytnicllekmkkhlaa.QFnDiskSafe
open Go.RowKit Go.Proofs.YtnicllekmkkhlaaW.PrintWords Go.Proofs.YtnicllekmkkhlaaW.PrintLast Go.Proofs.YtnicllekmkkhlaaW.PrintMore
attribute [local go_sem] max2_int min2_int max_two min_two max_three min_three max_four min_four str_gtr str_leq str_geq pw_at_slice   -- for this text's walks alone
set_option linter.unusedVariables false
set_option linter.unusedSimpArgs false

/-! ### impl_LogScan: function 23 -/
set_option maxRecDepth 100000 in
mutual
def impl_LogScan.j0 : Nat → ByteArray → Int → List (S45) → Int → Bool → Option ((List (S45)) × Int)
 | 0, _, _, _, _, _ => none
 | k + 1, x0, x1, x6, x7, x16 => if x16 = true then (some (([] : List (S45)), 0)) else (impl_LogScan.l0 k x0 x1 x6 x7)
def impl_LogScan.l0 : Nat → ByteArray → Int → List (S45) → Int → Option ((List (S45)) × Int)
 | 0, _, _, _, _ => none
 | k + 1, x0, x1, x6, x7 => if (x6.length : Int) < 300 then (impl_LogScan.j2 k x0 x1 x6 x7 (decide ((wrap64 (x1 + (x6.length : Int))) ≤ 1000000000))) else (impl_LogScan.j2 k x0 x1 x6 x7 false)
def impl_LogScan.j2 : Nat → ByteArray → Int → List (S45) → Int → Bool → Option ((List (S45)) × Int)
 | 0, _, _, _, _, _ => none
 | k + 1, x0, x1, x6, x7, x26 => if x26 = true then (if 0 ≤ x7 then (if x7 ≤ (x0.size : Int) then (if ((x0.extract (x7 : Int).toNat x0.size).size : Int) < 13 then (impl_LogScan.j3 k x0 x1 x6 x7 (x0.extract (x7 : Int).toNat x0.size) true) else (if 0 ≤ 4 then (if 4 ≤ ((x0.extract (x7 : Int).toNat x0.size).size : Int) then ((impl_numOf.f k ((x0.extract (x7 : Int).toNat x0.size).extract 0 4)).bind fun t777 => (impl_LogScan.j3 k x0 x1 x6 x7 (x0.extract (x7 : Int).toNat x0.size) (t777 != (wrap64 (x1 + (x6.length : Int)))))) else (none)) else (none))) else (none)) else (none)) else (some (x6, x7))
def impl_LogScan.j3 : Nat → ByteArray → Int → List (S45) → Int → ByteArray → Bool → Option ((List (S45)) × Int)
 | 0, _, _, _, _, _, _ => none
 | k + 1, x0, x1, x6, x7, x8, x42 => if x42 = true then (some (x6, x7)) else (if 4 ≤ 8 then (if 8 ≤ (x8.size : Int) then ((impl_numOf.f k (x8.extract 4 8)).bind fun t778 => (if t778 > 2000 then (impl_LogScan.j4 k x0 x1 x6 x7 x8 t778 true) else (impl_LogScan.j4 k x0 x1 x6 x7 x8 t778 (decide ((x8.size : Int) < (wrap64 (13 + t778))))))) else (none)) else (none))
def impl_LogScan.j4 : Nat → ByteArray → Int → List (S45) → Int → ByteArray → Int → Bool → Option ((List (S45)) × Int)
 | 0, _, _, _, _, _, _, _ => none
 | k + 1, x0, x1, x6, x7, x8, x9, x54 => if x54 = true then (some (x6, x7)) else (if 8 < (x8.size : Int) then (if 9 ≤ (wrap64 (9 + x9)) then (if (wrap64 (9 + x9)) ≤ (x8.size : Int) then ((impl_recOK.f (wrap64 (bt x8 8)) (x8.extract 9 ((wrap64 (9 + x9)) : Int).toNat)).bind fun t780 => (if t780 = true then (if 0 ≤ (wrap64 (9 + x9)) then (if (wrap64 (9 + x9)) ≤ (wrap64 (13 + x9)) then (if (wrap64 (13 + x9)) ≤ (x8.size : Int) then ((impl_numOf.f k (x8.extract ((wrap64 (9 + x9)) : Int).toNat ((wrap64 (13 + x9)) : Int).toNat)).bind fun t781 => ((impl_Crc.f k (x8.extract 0 ((wrap64 (9 + x9)) : Int).toNat)).bind fun t782 => (if t781 = t782 then (if x6.length < 5864062014805 then (impl_LogScan.l0 k x0 x1 (x6 ++ [(⟨wrap64 (bt x8 8), x8.extract 9 ((wrap64 (9 + x9)) : Int).toNat⟩ : S45)]) (wrap64 (x7 + (wrap64 (13 + x9))))) else (none)) else (some (x6, x7))))) else (none)) else (none)) else (none)) else (some (x6, x7)))) else (none)) else (none)) else (none))
end
def impl_LogScan.f (k : Nat) (a0 : ByteArray) (a1 : Int) : Option ((List (S45)) × Int) := if a1 < 0 then (impl_LogScan.j0 k a0 a1 ([] : List (S45)) 0 true) else (impl_LogScan.j0 k a0 a1 ([] : List (S45)) 0 (decide (a1 > 1000000000)))
def impl_LogScan.T10 : Bool × List (List Nat × List Nat) := (true, [([], []), ([0], [0]), ([1], [1]), ([], []), ([], []), ([4], [4]), ([3, 5], [3, 5]), ([2, 6], [2, 6]), ([], []), ([8, 7, 0, 1, 2, 3, 4, 5, 6, 7, 8], [7, 8])])
def impl_LogScan.B10 : List Nat := [0, 1, 3, 0, 0, 16, 56, 127, 0, 511]
theorem impl_LogScan.tab10 : rtab .any (opsOf Try.f23 10) = impl_LogScan.T10 := by kernel_rfl
theorem impl_LogScan.bits10 : waitsOk impl_LogScan.T10.2 impl_LogScan.B10 = true := by kernel_rfl
def impl_LogScan.T11 : Bool × List (List Nat × List Nat) := (true, [([], []), ([0], [0]), ([1], [1]), ([2, 1], [2]), ([3], [3]), ([3], [3]), ([5, 3], [3, 5]), ([3], [3]), ([7, 3], [3, 7]), ([4, 6, 8, 3], [3, 4, 6, 8]), ([9, 3, 3], [3, 9]), ([3], [3]), ([3], [3]), ([12, 3], [3, 12]), ([11, 13, 3], [3, 11, 13]), ([14, 10, 3], [3, 14]), ([10, 15, 3], [3, 10, 15]), ([3, 16], [3, 16])])
def impl_LogScan.B11 : List Nat := [0, 1, 3, 7, 15, 15, 47, 15, 143, 511, 1023, 15, 15, 4111, 14351, 32767, 65535, 131071]
theorem impl_LogScan.tab11 : rtab .any (opsOf Try.f23 11) = impl_LogScan.T11 := by kernel_rfl
theorem impl_LogScan.bits11 : waitsOk impl_LogScan.T11.2 impl_LogScan.B11 = true := by kernel_rfl
set_option maxHeartbeats 8000000 in
set_option maxRecDepth 100000 in
theorem impl_LogScan.calls (k : Nat) (a0 : ByteArray) (a1 : Int) (r1 : List (S45)) (r2 : Int) (w : World) (h : impl_LogScan.f k a0 a1 = some (r1, r2)) :
  Calls Try.prog 23 #[.string a0, .int .i64 a1] w fun e w' => ∃ v0_ : Value, e = .returned (.tuple #[v0_, .int .i64 r2]) ∧ Kd.R k45 45 w' w.heap.size (fun _ => True) v0_ r1 ∧ Below w.heap.size w w' := by
 have hu45 := Try.underlying45
 have HB := Aside0.mk (Below.refl w.heap.size w)
 have H : (if a1 < 0 then (impl_LogScan.j0 k a0 a1 ([] : List (S45)) 0 true) else (impl_LogScan.j0 k a0 a1 ([] : List (S45)) 0 (decide (a1 > 1000000000)))) = some (r1, r2) := h
 clear h
 have HC3 := Aside0.mk H
 clear H
 go_enter Try.func23, Try.ntmps23
 go_upto_region 3 with (fail)
 go_cut [16] (fun v16 wc => ∃ (kq : Nat) (x16_2 : Bool), v16 = .bool x16_2 ∧ Aside0 (impl_LogScan.j0 kq a0 a1 ([] : List (S45)) 0 x16_2 = some (r1, r2)) ∧ Aside0 (kq ≤ k) ∧ Aside0 (Kd.R k45 45 wc w.heap.size (fun _ => True) (.slice none 0 0) ([] : List (S45))) ∧ Aside0 (Below w.heap.size w wc))
 case first =>
  have H := HC3.out
  clear HC3
  by_cases c4 : a1 < 0
  ·rw [if_pos c4] at H
   have c4b0 : decide (a1 < 0) = true := decide_eq_true c4
   clear c4
   (first | rw [c4b0] | (simp only [i64_w, i32_w]; rw [c4b0]) | skip)
   have H' := Aside0.mk H
   clear H
   go_wp2
   go_meet
   case rel => exact ⟨_, (true), (by first | rfl | (simp; done) | (simp [*]; done)), H', ⟨by first | omega | exact Nat.le_refl _⟩, ⟨by first | exact Kd.R_nil _ _ _ _ _ | exact Kd.N_nil _ _ _ _ _ | exact Kd.V_nil _ _ _ _ _ | exact Kd.Q_nil _ _ _ _ _ | exact Kd.S_nil _ _ _ _ _⟩, ⟨zb⟩⟩
  ·rw [if_neg c4] at H
   have c4b0 : decide (a1 < 0) = false := decide_eq_false c4
   clear c4
   (first | rw [c4b0] | (simp only [i64_w, i32_w]; rw [c4b0]) | skip)
   have H' := Aside0.mk H
   clear H
   go_wp2
   go_meet
   case rel => exact ⟨_, (decide (a1 > 1000000000)), (by first | rfl | (simp; done) | (simp [*]; done)), H', ⟨by first | omega | exact Nat.le_refl _⟩, ⟨by first | exact Kd.R_nil _ _ _ _ _ | exact Kd.N_nil _ _ _ _ _ | exact Kd.V_nil _ _ _ _ _ | exact Kd.Q_nil _ _ _ _ _ | exact Kd.S_nil _ _ _ _ _⟩, ⟨zb⟩⟩
 case rest =>
  clear HC3
  obtain ⟨kq, x16_2, rfl, HA, HJ2, HO_6, HB⟩ := hcut
  cases kq with
  | zero => exact absurd HA.out (by simp [impl_LogScan.j0])
  | succ kj2 =>
   have H := HA.out
   clear HA
   simp only [impl_LogScan.j0] at H
   by_cases c5 : x16_2 = true
   ·subst c5
    have H1 : (some (([] : List (S45)), 0)) = some (r1, r2) := by rw [if_pos rfl] at H; exact H
    clear H
    have H := H1
    clear H1
    simp only [Option.some.injEq, Prod.mk.injEq] at H
    obtain ⟨rfl, rfl⟩ := H
    go_wp2
    go_ret2
    exact ⟨_, by first | rfl | (simp [errW_none, errW_some] <;> rfl) | (simp [*, errW_none, errW_some] <;> rfl), by first | exact Kd.R_nil _ _ _ _ _ | exact Kd.N_nil _ _ _ _ _ | exact Kd.V_nil _ _ _ _ _ | exact Kd.Q_nil _ _ _ _ _ | exact Kd.S_nil _ _ _ _ _, zb⟩
   ·replace c5 := Bool.eq_false_iff.mpr c5
    subst c5
    have H1 : (impl_LogScan.l0 kj2 a0 a1 ([] : List (S45)) 0) = some (r1, r2) := by rw [if_neg (show ¬ (false = true) by decide)] at H; exact H
    clear H
    have H := H1
    clear H1
    have H' := Aside0.mk H
    clear H
    go_wp2
    go_loopg [6, 7] kj2 (fun kq v6 v7 w' => ∃ (x6_2 : List (S45)) (x7_2 : Int), v7 = .int .i64 x7_2 ∧ Aside0 (impl_LogScan.l0 kq a0 a1 x6_2 x7_2 = some (r1, r2)) ∧ Aside0 (kq ≤ kj2) ∧ Aside0 (Kd.R k45 45 w' w.heap.size (fun _ => True) v6 x6_2) ∧ Aside0 (Below w.heap.size w w'))
    case atStart => exact ⟨(([] : List (S45))), (0), (by first | rfl | (simp; done) | (simp [*]; done)), H', ⟨Nat.le_refl _⟩, ⟨zr HO_6.out⟩, ⟨zb⟩⟩
    case round =>
     clear H'
     try clear c5
     obtain ⟨x6_2, x7_2, rfl, HA, HK2, HO_6, HB⟩ := hrel
     cases gk with
     | zero => exact absurd HA.out (by simp [impl_LogScan.l0])
     | succ k2 =>
      have H := HA.out
      clear HA
      simp only [impl_LogScan.l0] at H
      have HC6 := Aside0.mk H
      clear H
      go_upto_region 5 with (fail)
      go_cut [26] (fun v26 wc => ∃ (kq : Nat) (x26_5 : Bool), v26 = .bool x26_5 ∧ Aside0 (impl_LogScan.j2 kq a0 a1 x6_2 x7_2 x26_5 = some (r1, r2)) ∧ Aside0 (kq ≤ k2) ∧ Aside0 (Kd.R k45 45 wc w.heap.size (fun _ => True) u6 x6_2) ∧ Aside0 (Below w.heap.size w wc))
      case first =>
       have H := HC6.out
       clear HC6
       by_cases c7 : (x6_2.length : Int) < 300
       ·rw [if_pos c7] at H
        have c7b0 : decide ((x6_2.length : Int) < 300) = true := decide_eq_true c7
        have c7b1 : decide (x6_2.length < 300) = true := decide_eq_true (by omega)
        clear c7
        (first | rw [c7b0] | (simp only [i64_w, i32_w]; rw [c7b0]) | skip)
        have H' := Aside0.mk H
        clear H
        obtain ⟨Ao8, co8, eo8⟩ := Kd.R_slice HO_6.out
        subst eo8
        go_wp2
        go_meet
        case rel => exact ⟨_, (decide ((wrap64 (a1 + (x6_2.length : Int))) ≤ 1000000000)), (by first | rfl | (simp; done) | (simp [*]; done)), H', ⟨by have := HJ2.out; have := HK2.out; first | omega | exact Nat.le_refl _⟩, ⟨zr HO_6.out⟩, ⟨zb⟩⟩
       ·rw [if_neg c7] at H
        have c7b0 : decide ((x6_2.length : Int) < 300) = false := decide_eq_false c7
        have c7b1 : decide (x6_2.length < 300) = false := decide_eq_false (by omega)
        clear c7
        (first | rw [c7b0] | (simp only [i64_w, i32_w]; rw [c7b0]) | skip)
        have H' := Aside0.mk H
        clear H
        obtain ⟨Ao9, co9, eo9⟩ := Kd.R_slice HO_6.out
        subst eo9
        go_wp2
        go_meet
        case rel => exact ⟨_, (false), (by first | rfl | (simp; done) | (simp [*]; done)), H', ⟨by have := HJ2.out; have := HK2.out; first | omega | exact Nat.le_refl _⟩, ⟨zr HO_6.out⟩, ⟨zb⟩⟩
      case rest =>
       clear HC6
       try clear c5
       obtain ⟨kq, x26_5, rfl, HA, HJ5, HO_6, HB⟩ := hcut
       cases kq with
       | zero => exact absurd HA.out (by simp [impl_LogScan.j2])
       | succ kj5 =>
        have H := HA.out
        clear HA
        simp only [impl_LogScan.j2] at H
        by_cases c10 : x26_5 = true
        ·subst c10
         have H1 : (if 0 ≤ x7_2 then (if x7_2 ≤ (a0.size : Int) then (if ((a0.extract (x7_2 : Int).toNat a0.size).size : Int) < 13 then (impl_LogScan.j3 kj5 a0 a1 x6_2 x7_2 (a0.extract (x7_2 : Int).toNat a0.size) true) else (if 0 ≤ 4 then (if 4 ≤ ((a0.extract (x7_2 : Int).toNat a0.size).size : Int) then ((impl_numOf.f kj5 ((a0.extract (x7_2 : Int).toNat a0.size).extract 0 4)).bind fun t777 => (impl_LogScan.j3 kj5 a0 a1 x6_2 x7_2 (a0.extract (x7_2 : Int).toNat a0.size) (t777 != (wrap64 (a1 + (x6_2.length : Int)))))) else (none)) else (none))) else (none)) else (none)) = some (r1, r2) := by rw [if_pos rfl] at H; exact H
         clear H
         have H := H1
         clear H1
         by_cases c11 : 0 ≤ x7_2
         ·rw [if_pos c11] at H
          have c11b0 := eq_true c11
          have c11b1 : decide (0 ≤ x7_2) = true := decide_eq_true c11
          clear c11
          by_cases c12 : x7_2 ≤ (a0.size : Int)
          ·rw [if_pos c12] at H
           have c12b0 := eq_true c12
           have c12b1 : decide (x7_2 ≤ (a0.size : Int)) = true := decide_eq_true c12
           clear c12
           obtain ⟨sx, hsx⟩ : ∃ s_, a0.extract (x7_2 : Int).toNat a0.size = s_ := ⟨_, rfl⟩
           rw [hsx] at H
           have HC13 := Aside0.mk H
           clear H
           go_upto_region 7 with (fail)
           go_cut [42] (fun v42 wc => ∃ (kq : Nat) (x42_12 : Bool), v42 = .bool x42_12 ∧ Aside0 (impl_LogScan.j3 kq a0 a1 x6_2 x7_2 sx x42_12 = some (r1, r2)) ∧ Aside0 (kq ≤ kj5) ∧ Aside0 (Kd.R k45 45 wc w.heap.size (fun _ => True) u6 x6_2) ∧ Aside0 (Below w.heap.size w wc))
           case first =>
            have H := HC13.out
            clear HC13
            by_cases c14 : (sx.size : Int) < 13
            ·rw [if_pos c14] at H
             have c14b0 : decide ((sx.size : Int) < 13) = true := decide_eq_true c14
             try (have c14b0z := c14b0; simp only [ByteArray.size_extract, Nat.min_self] at c14b0z)
             have c14b1 : decide (sx.size < 13) = true := decide_eq_true (by omega)
             try (have c14b1z := c14b1; simp only [ByteArray.size_extract, Nat.min_self] at c14b1z)
             clear c14
             (first | rw [c14b0] | (simp only [i64_w, i32_w]; rw [c14b0]) | skip)
             have H' := Aside0.mk H
             clear H
             go_wp2
             go_meet
             case rel => exact ⟨_, (true), (by first | rfl | (simp; done) | (simp [*]; done)), H', ⟨by have := HJ2.out; have := HK2.out; have := HJ5.out; first | omega | exact Nat.le_refl _⟩, ⟨zr HO_6.out⟩, ⟨zb⟩⟩
            ·rw [if_neg c14] at H
             have c14b0 : decide ((sx.size : Int) < 13) = false := decide_eq_false c14
             try (have c14b0z := c14b0; simp only [ByteArray.size_extract, Nat.min_self] at c14b0z)
             have c14b1 : decide (sx.size < 13) = false := decide_eq_false (by omega)
             try (have c14b1z := c14b1; simp only [ByteArray.size_extract, Nat.min_self] at c14b1z)
             clear c14
             (first | rw [c14b0] | (simp only [i64_w, i32_w]; rw [c14b0]) | skip)
             by_cases c15 : 0 ≤ 4
             ·rw [if_pos c15] at H
              have c15b0 := eq_true c15
              have c15b1 : decide (0 ≤ 4) = true := decide_eq_true c15
              clear c15
              by_cases c16 : 4 ≤ (sx.size : Int)
              ·rw [if_pos c16] at H
               have c16b0 := eq_true c16
               try (have c16b0z := c16b0; simp only [ByteArray.size_extract, Nat.min_self] at c16b0z)
               have c16b1 : decide (4 ≤ (sx.size : Int)) = true := decide_eq_true c16
               try (have c16b1z := c16b1; simp only [ByteArray.size_extract, Nat.min_self] at c16b1z)
               clear c16
               replace H := Option.bind_eq_some_iff.mp H
               obtain ⟨t777, A170, H⟩ := H
               replace H : (impl_LogScan.j3 kj5 a0 a1 x6_2 x7_2 sx (t777 != (wrap64 (a1 + (x6_2.length : Int))))) = some (r1, r2) := H
               have A17 := Aside0.mk A170
               clear A170
               have H' := Aside0.mk H
               clear H
               go_wp2_with (first | (go_at_call 42; (with_reducible refine (impl_numOf.calls kj5 (sx.extract 0 4) t777 _ A17.out).mono ?_); rintro e w' ⟨rfl, ⟨nd, rfl⟩⟩; obtain ⟨Ao18, co18, eo18⟩ := Kd.R_slice HO_6.out; subst eo18))
               go_meet
               case rel => exact ⟨_, ((t777 != (wrap64 (a1 + (x6_2.length : Int))))), (by first | rfl | (simp; done) | (simp [*]; done)), H', ⟨by have := HJ2.out; have := HK2.out; have := HJ5.out; first | omega | exact Nat.le_refl _⟩, ⟨zr HO_6.out⟩, ⟨zb⟩⟩
              ·rw [if_neg c16] at H
               cases H
             ·rw [if_neg c15] at H
              cases H
           case rest =>
            clear HC13
            try clear c5
            try clear c10
            try clear c11
            try clear c11b0
            try clear c11b1
            try clear c12
            try clear c12b0
            try clear c12b1
            obtain ⟨kq, x42_12, rfl, HA, HJ12, HO_6, HB⟩ := hcut
            cases kq with
            | zero => exact absurd HA.out (by simp [impl_LogScan.j3])
            | succ kj12 =>
             have H := HA.out
             clear HA
             simp only [impl_LogScan.j3] at H
             by_cases c19 : x42_12 = true
             ·subst c19
              have H1 : (some (x6_2, x7_2)) = some (r1, r2) := by rw [if_pos rfl] at H; exact H
              clear H
              have H := H1
              clear H1
              simp only [Option.some.injEq, Prod.mk.injEq] at H
              obtain ⟨rfl, rfl⟩ := H
              go_wp2
              go_ret2
              exact ⟨_, by first | rfl | (simp [errW_none, errW_some] <;> rfl) | (simp [*, errW_none, errW_some] <;> rfl), by (with_reducible repeat (first | apply Kd.R_alloc | apply Kd.R_drewN | apply Kd.R_drew)); exact HO_6.out, zb⟩
             ·replace c19 := Bool.eq_false_iff.mpr c19
              subst c19
              have H1 : (if 4 ≤ 8 then (if 8 ≤ (sx.size : Int) then ((impl_numOf.f kj12 (sx.extract 4 8)).bind fun t778 => (if t778 > 2000 then (impl_LogScan.j4 kj12 a0 a1 x6_2 x7_2 sx t778 true) else (impl_LogScan.j4 kj12 a0 a1 x6_2 x7_2 sx t778 (decide ((sx.size : Int) < (wrap64 (13 + t778))))))) else (none)) else (none)) = some (r1, r2) := by rw [if_neg (show ¬ (false = true) by decide)] at H; exact H
              clear H
              have H := H1
              clear H1
              by_cases c20 : 4 ≤ 8
              ·rw [if_pos c20] at H
               have c20b0 := eq_true c20
               have c20b1 : decide (4 ≤ 8) = true := decide_eq_true c20
               clear c20
               by_cases c21 : 8 ≤ (sx.size : Int)
               ·rw [if_pos c21] at H
                have c21b0 := eq_true c21
                try (have c21b0z := c21b0; simp only [ByteArray.size_extract, Nat.min_self] at c21b0z)
                have c21b1 : decide (8 ≤ (sx.size : Int)) = true := decide_eq_true c21
                try (have c21b1z := c21b1; simp only [ByteArray.size_extract, Nat.min_self] at c21b1z)
                clear c21
                replace H := Option.bind_eq_some_iff.mp H
                obtain ⟨t778, A220, H⟩ := H
                replace H : (if t778 > 2000 then (impl_LogScan.j4 kj12 a0 a1 x6_2 x7_2 sx t778 true) else (impl_LogScan.j4 kj12 a0 a1 x6_2 x7_2 sx t778 (decide ((sx.size : Int) < (wrap64 (13 + t778)))))) = some (r1, r2) := H
                have A22 := Aside0.mk A220
                clear A220
                have HC23 := Aside0.mk H
                clear H
                go_upto_region 9 with (first | ((with_reducible refine gate_callee (f := 42) rfl ?_); refine goesL_ (some 45) rfl rfl Try.func42 (by kernel_rfl) rfl #[.string (sx.extract 4 8)] rfl zm ?_; (with_reducible refine (impl_numOf.calls kj12 (sx.extract 4 8) t778 _ A22.out).mono ?_); rintro e w' ⟨rfl, ⟨nd, rfl⟩⟩; refine ⟨_, rfl, ?_⟩))
                (try simp only [Act.put, List.setIfInBounds_toArray, List.set_cons_zero, List.set_cons_succ])
                go_cut [54] (fun v54 wc => ∃ (kq : Nat) (x54_22 : Bool), v54 = .bool x54_22 ∧ Aside0 (impl_LogScan.j4 kq a0 a1 x6_2 x7_2 sx t778 x54_22 = some (r1, r2)) ∧ Aside0 (kq ≤ kj12) ∧ Aside0 (Kd.R k45 45 wc w.heap.size (fun _ => True) u6 x6_2) ∧ Aside0 (Below w.heap.size w wc))
                case first =>
                 have H := HC23.out
                 clear HC23
                 by_cases c24 : t778 > 2000
                 ·rw [if_pos c24] at H
                  have c24b0 : decide (2000 < t778) = true := decide_eq_true c24
                  clear c24
                  (first | rw [c24b0] | (simp only [i64_w, i32_w]; rw [c24b0]) | skip)
                  have H' := Aside0.mk H
                  clear H
                  go_wp2
                  go_meet
                  case rel => exact ⟨_, (true), (by first | rfl | (simp; done) | (simp [*]; done)), H', ⟨by have := HJ2.out; have := HK2.out; have := HJ5.out; have := HJ12.out; first | omega | exact Nat.le_refl _⟩, ⟨zr HO_6.out⟩, ⟨zb⟩⟩
                 ·rw [if_neg c24] at H
                  have c24b0 : decide (2000 < t778) = false := decide_eq_false c24
                  clear c24
                  (first | rw [c24b0] | (simp only [i64_w, i32_w]; rw [c24b0]) | skip)
                  have H' := Aside0.mk H
                  clear H
                  go_wp2
                  go_meet
                  case rel => exact ⟨_, (decide ((sx.size : Int) < (wrap64 (13 + t778)))), (by first | rfl | (simp; done) | (simp [*]; done)), H', ⟨by have := HJ2.out; have := HK2.out; have := HJ5.out; have := HJ12.out; first | omega | exact Nat.le_refl _⟩, ⟨zr HO_6.out⟩, ⟨zb⟩⟩
                case rest =>
                 clear HC23
                 try clear c5
                 try clear c10
                 try clear c11
                 try clear c11b0
                 try clear c11b1
                 try clear c12
                 try clear c12b0
                 try clear c12b1
                 try clear c19
                 try clear c20
                 try clear c20b0
                 try clear c20b1
                 try clear c21
                 try clear c21b0
                 try clear c21b1
                 obtain ⟨kq, x54_22, rfl, HA, HJ22, HO_6, HB⟩ := hcut
                 cases kq with
                 | zero => exact absurd HA.out (by simp [impl_LogScan.j4])
                 | succ kj22 =>
                  have H := HA.out
                  clear HA
                  simp only [impl_LogScan.j4] at H
                  by_cases c25 : x54_22 = true
                  ·subst c25
                   have H1 : (some (x6_2, x7_2)) = some (r1, r2) := by rw [if_pos rfl] at H; exact H
                   clear H
                   have H := H1
                   clear H1
                   simp only [Option.some.injEq, Prod.mk.injEq] at H
                   obtain ⟨rfl, rfl⟩ := H
                   go_wp2
                   go_ret2
                   exact ⟨_, by first | rfl | (simp [errW_none, errW_some] <;> rfl) | (simp [*, errW_none, errW_some] <;> rfl), by (with_reducible repeat (first | apply Kd.R_alloc | apply Kd.R_drewN | apply Kd.R_drew)); exact HO_6.out, zb⟩
                  ·replace c25 := Bool.eq_false_iff.mpr c25
                   subst c25
                   have H1 : (if 8 < (sx.size : Int) then (if 9 ≤ (wrap64 (9 + t778)) then (if (wrap64 (9 + t778)) ≤ (sx.size : Int) then ((impl_recOK.f (wrap64 (bt sx 8)) (sx.extract 9 ((wrap64 (9 + t778)) : Int).toNat)).bind fun t780 => (if t780 = true then (if 0 ≤ (wrap64 (9 + t778)) then (if (wrap64 (9 + t778)) ≤ (wrap64 (13 + t778)) then (if (wrap64 (13 + t778)) ≤ (sx.size : Int) then ((impl_numOf.f kj22 (sx.extract ((wrap64 (9 + t778)) : Int).toNat ((wrap64 (13 + t778)) : Int).toNat)).bind fun t781 => ((impl_Crc.f kj22 (sx.extract 0 ((wrap64 (9 + t778)) : Int).toNat)).bind fun t782 => (if t781 = t782 then (if x6_2.length < 5864062014805 then (impl_LogScan.l0 kj22 a0 a1 (x6_2 ++ [(⟨wrap64 (bt sx 8), sx.extract 9 ((wrap64 (9 + t778)) : Int).toNat⟩ : S45)]) (wrap64 (x7_2 + (wrap64 (13 + t778))))) else (none)) else (some (x6_2, x7_2))))) else (none)) else (none)) else (none)) else (some (x6_2, x7_2)))) else (none)) else (none)) else (none)) = some (r1, r2) := by rw [if_neg (show ¬ (false = true) by decide)] at H; exact H
                   clear H
                   have H := H1
                   clear H1
                   by_cases c26 : 8 < (sx.size : Int)
                   ·rw [if_pos c26] at H
                    have c26b0 : decide (8 < (sx.size : Int)) = true := decide_eq_true c26
                    try (have c26b0z := c26b0; simp only [ByteArray.size_extract, Nat.min_self] at c26b0z)
                    have c26b1 : decide (8 < sx.size) = true := decide_eq_true (by omega)
                    try (have c26b1z := c26b1; simp only [ByteArray.size_extract, Nat.min_self] at c26b1z)
                    clear c26
                    by_cases c28 : 9 ≤ (wrap64 (9 + t778))
                    ·rw [if_pos c28] at H
                     have c28b0 := eq_true c28
                     have c28b1 : decide (9 ≤ (wrap64 (9 + t778))) = true := decide_eq_true c28
                     by_cases c29 : (wrap64 (9 + t778)) ≤ (sx.size : Int)
                     ·rw [if_pos c29] at H
                      have c29b0 := eq_true c29
                      try (have c29b0z := c29b0; simp only [ByteArray.size_extract, Nat.min_self] at c29b0z)
                      have c29b1 : decide ((wrap64 (9 + t778)) ≤ (sx.size : Int)) = true := decide_eq_true c29
                      try (have c29b1z := c29b1; simp only [ByteArray.size_extract, Nat.min_self] at c29b1z)
                      replace H := Option.bind_eq_some_iff.mp H
                      obtain ⟨t780, A300, H⟩ := H
                      replace H : (if t780 = true then (if 0 ≤ (wrap64 (9 + t778)) then (if (wrap64 (9 + t778)) ≤ (wrap64 (13 + t778)) then (if (wrap64 (13 + t778)) ≤ (sx.size : Int) then ((impl_numOf.f kj22 (sx.extract ((wrap64 (9 + t778)) : Int).toNat ((wrap64 (13 + t778)) : Int).toNat)).bind fun t781 => ((impl_Crc.f kj22 (sx.extract 0 ((wrap64 (9 + t778)) : Int).toNat)).bind fun t782 => (if t781 = t782 then (if x6_2.length < 5864062014805 then (impl_LogScan.l0 kj22 a0 a1 (x6_2 ++ [(⟨wrap64 (bt sx 8), sx.extract 9 ((wrap64 (9 + t778)) : Int).toNat⟩ : S45)]) (wrap64 (x7_2 + (wrap64 (13 + t778))))) else (none)) else (some (x6_2, x7_2))))) else (none)) else (none)) else (none)) else (some (x6_2, x7_2))) = some (r1, r2) := H
                      have A30 := Aside0.mk A300
                      clear A300
                      by_cases c31 : t780 = true
                      ·subst c31
                       have H1 : (if 0 ≤ (wrap64 (9 + t778)) then (if (wrap64 (9 + t778)) ≤ (wrap64 (13 + t778)) then (if (wrap64 (13 + t778)) ≤ (sx.size : Int) then ((impl_numOf.f kj22 (sx.extract ((wrap64 (9 + t778)) : Int).toNat ((wrap64 (13 + t778)) : Int).toNat)).bind fun t781 => ((impl_Crc.f kj22 (sx.extract 0 ((wrap64 (9 + t778)) : Int).toNat)).bind fun t782 => (if t781 = t782 then (if x6_2.length < 5864062014805 then (impl_LogScan.l0 kj22 a0 a1 (x6_2 ++ [(⟨wrap64 (bt sx 8), sx.extract 9 ((wrap64 (9 + t778)) : Int).toNat⟩ : S45)]) (wrap64 (x7_2 + (wrap64 (13 + t778))))) else (none)) else (some (x6_2, x7_2))))) else (none)) else (none)) else (none)) = some (r1, r2) := by rw [if_pos rfl] at H; exact H
                       clear H
                       have H := H1
                       clear H1
                       obtain ⟨ji32, hji32⟩ : ∃ j_ : Int, (wrap64 (9 + t778)) = j_ := ⟨_, rfl⟩
                       replace H : (if 0 ≤ (ji32) then (if (ji32) ≤ (wrap64 (13 + t778)) then (if (wrap64 (13 + t778)) ≤ (sx.size : Int) then ((impl_numOf.f kj22 (sx.extract ((ji32) : Int).toNat ((wrap64 (13 + t778)) : Int).toNat)).bind fun t781 => ((impl_Crc.f kj22 (sx.extract 0 ((ji32) : Int).toNat)).bind fun t782 => (if t781 = t782 then (if x6_2.length < 5864062014805 then (impl_LogScan.l0 kj22 a0 a1 (x6_2 ++ [(⟨wrap64 (bt sx 8), sx.extract 9 ((ji32) : Int).toNat⟩ : S45)]) (wrap64 (x7_2 + (wrap64 (13 + t778))))) else (none)) else (some (x6_2, x7_2))))) else (none)) else (none)) else (none)) = some (r1, r2) := by first | (rw [hji32] at H; exact H) | (simp only [hji32] at H ⊢; exact H)
                       (try rw [hji32] at c28b0)
                       (try rw [hji32] at c28b1)
                       (try rw [hji32] at c28)
                       (try rw [hji32] at c29b0)
                       (try rw [hji32] at c29b1)
                       (try rw [hji32] at c29)
                       (try rw [hji32] at A30)
                       have hji32w : (IntKind.i64.wrap (9 + t778)) = ji32 := (i64_w _).trans hji32
                       by_cases c33 : 0 ≤ (ji32)
                       ·rw [if_pos c33] at H
                        have c33b0 := eq_true c33
                        have c33b1 : decide (0 ≤ (ji32)) = true := decide_eq_true c33
                        clear c33
                        by_cases c34 : (ji32) ≤ (wrap64 (13 + t778))
                        ·rw [if_pos c34] at H
                         have c34b0 := eq_true c34
                         have c34b1 : decide ((ji32) ≤ (wrap64 (13 + t778))) = true := decide_eq_true c34
                         by_cases c35 : (wrap64 (13 + t778)) ≤ (sx.size : Int)
                         ·rw [if_pos c35] at H
                          have c35b0 := eq_true c35
                          try (have c35b0z := c35b0; simp only [ByteArray.size_extract, Nat.min_self] at c35b0z)
                          have c35b1 : decide ((wrap64 (13 + t778)) ≤ (sx.size : Int)) = true := decide_eq_true c35
                          try (have c35b1z := c35b1; simp only [ByteArray.size_extract, Nat.min_self] at c35b1z)
                          replace H := Option.bind_eq_some_iff.mp H
                          obtain ⟨t781, A360, H⟩ := H
                          replace H : ((impl_Crc.f kj22 (sx.extract 0 ((ji32) : Int).toNat)).bind fun t782 => (if t781 = t782 then (if x6_2.length < 5864062014805 then (impl_LogScan.l0 kj22 a0 a1 (x6_2 ++ [(⟨wrap64 (bt sx 8), sx.extract 9 ((ji32) : Int).toNat⟩ : S45)]) (wrap64 (x7_2 + (wrap64 (13 + t778))))) else (none)) else (some (x6_2, x7_2)))) = some (r1, r2) := H
                          have A36 := Aside0.mk A360
                          clear A360
                          have c37b0 := eq_true (of_decide_eq_true (by first | (with_reducible assumption) | assumption) : 0 ≤ (ji32))
                          have c38b0 := eq_true (of_decide_eq_true (by first | (with_reducible assumption) | assumption) : (ji32) ≤ (sx.size : Int))
                          replace H := Option.bind_eq_some_iff.mp H
                          obtain ⟨t782, A390, H⟩ := H
                          replace H : (if t781 = t782 then (if x6_2.length < 5864062014805 then (impl_LogScan.l0 kj22 a0 a1 (x6_2 ++ [(⟨wrap64 (bt sx 8), sx.extract 9 ((ji32) : Int).toNat⟩ : S45)]) (wrap64 (x7_2 + (wrap64 (13 + t778))))) else (none)) else (some (x6_2, x7_2))) = some (r1, r2) := H
                          have A39 := Aside0.mk A390
                          clear A390
                          by_cases c40 : t781 = t782
                          ·rw [if_pos c40] at H
                           have c40b0 : (t781 == t782) = true := beq_iff_eq.mpr c40
                           have c40b1 : (t781 != t782) = false := bne_eq_false_iff_eq.mpr c40
                           clear c40
                           by_cases c41 : x6_2.length < 5864062014805
                           ·rw [if_pos c41] at H
                            have LMc41 := Aside0.mk c41
                            clear c41
                            obtain ⟨y783, hy783⟩ : ∃ y_ : List (S45), y_ = (x6_2 ++ [(⟨wrap64 (bt sx 8), sx.extract 9 ((ji32) : Int).toNat⟩ : S45)]) := ⟨_, rfl⟩
                            replace H : (impl_LogScan.l0 kj22 a0 a1 y783 (wrap64 (x7_2 + (wrap64 (13 + t778))))) = some (r1, r2) := by first | (rw [hy783]; with_reducible exact H) | (have H2_ := (Option.bind_some _ _).symm.trans H; rw [hy783]; with_reducible exact H2_) | (have H2_ := (Option.bind_some _ _).symm.trans H; with_reducible exact H2_) | with_reducible exact H | (rw [hy783]; exact H) | exact H
                            have Ny783 := Aside0.mk hy783
                            clear hy783
                            have H' := Aside0.mk H
                            clear H
                            try go_wp2
                            have n0_ := Aside0.mk (Kd.R_drew HO_6.out)
                            have n1_ := Aside0.mk (below_drew1 HB.out)
                            clear HO_6
                            clear HB
                            have HO_6 := n0_
                            have HB := n1_
                            clear n0_ n1_
                            have p27 : 0 ≤ (8 : Int) := (by omega)
                            have q27 : 8 < sx.size := (by have : (8 : Int) < (sx.size : Int) := of_decide_eq_true (by first | (with_reducible assumption) | assumption); omega)
                            have hx27 : ∀ h : 8 < sx.size, ((sx[8]'h).toNat : Int) = bt sx 8 := bt_at sx 8
                            clear p27
                            have qi27 : (8 < (sx.size : Int)) = True := eq_true (of_decide_eq_true (by first | (with_reducible assumption) | assumption))
                            replace q27 := eq_true q27
                            refine start_ (n := 10) (S := fun w' => True) (ds := []) #[false, false, false, false, false, false, false, false, false, false] (by kernel_rfl) rfl rfl trivial (fun hHeld => ?_); refine with_tabW impl_LogScan.tab10 impl_LogScan.bits10 (fun HT_ HW_ => ?_)
                            generalize wc.drew = w42 at HO_6 HB hHeld ⊢
                            refine zp 0 55 ?_
                            refine zp 3 58 ?_
                            refine zp 4 59 ?_
                            refine zp 5 60 ?_
                            refine zp 6 61 ?_
                            refine take_ (i := 1) (N := some 56) (v := ?_) (a' := ?_) #[true, true, false, true, true, true, true, false, false, false] rfl rfl (take_ofW HT_.out HW_.out (by kernel_rfl)) (fun _ _ _ h => h) (Or.inl ⟨by rfl, ?_⟩) hHeld ?_ ?_
                            rotate_left
                            ·intro w' _
                             go_simp
                             with_reducible rfl
                            rotate_left
                            ·simp only [Act.put, List.setIfInBounds_toArray, List.set_cons_zero, List.set_cons_succ, i64_w, i32_w]
                             rfl
                            refine zp 2 57 ?_
                            refine zp 7 62 ?_
                            refine one_ (i := 8) (N := some 10) #[true, true, true, true, true, true, true, true, true, false] rfl rfl (one_of HT_.out (by kernel_rfl)) (by decide) (fun K hK => ?_)
                            refine box_step ?hg (N := 10) ?hd (cs := #[.int .i64 0, .string (⟨#[]⟩ : ByteArray)]) (t := 45) ?hr ?_; (case hd => rfl); (case hg => rfl); (case hr => first | (go_simp; done) | (go_simp; rfl))
                            intro gb779 hg w43 hbox hb
                            have n0_ := Aside0.mk (Kd.R_below (Kd.R_elderB (zr HO_6.out) gb779 (Nat.le_of_eq hg.symm)) hb)
                            have n1_ := Aside0.mk (below_step zb hb)
                            have n2_ := Aside0.mk (hbox)
                            have n3_ := Aside0.mk ((by rw [hg]; exact (below_size zb) : w.heap.size ≤ gb779))
                            have n4_ := Aside0.mk ((by rw [hg]; exact (below_size zb) : w.heap.size ≤ gb779))
                            clear HO_6
                            clear HB
                            have HO_6 := n0_
                            have HB := n1_
                            have BK779 := n2_
                            have GW779 := n3_
                            have GE779 := n4_
                            clear n0_ n1_ n2_ n3_ n4_
                            clear hb hbox hg
                            refine hK.out _ _ trivial (fun hHeld => ?_)
                            clear hK K
                            refine norm_ (a' := ?_) ?_ ?_
                            rotate_left
                            ·show Act.put _ (some 10) _ = _
                             simp only [Act.put, List.setIfInBounds_toArray, List.set_cons_zero, List.set_cons_succ, i64_w, i32_w]
                             rfl
                            refine one_ (i := 9) (N := none) #[true, true, true, true, true, true, true, true, true, true] rfl rfl (one_of HT_.out (by kernel_rfl)) (by decide) (fun K hK => ?_)
                            have hs44 : w43.cell? ⟨gb779, 0, none⟩ = some (.int .i64 0) := (blk_cell BK779.out 0).trans rfl
                            have hfs44 := blk_frozen BK779.out 0
                            have hs45 : w43.cell? ⟨gb779, 1, none⟩ = some (.string (⟨#[]⟩ : ByteArray)) := (blk_cell BK779.out 1).trans rfl
                            have hfs45 := blk_frozen BK779.out 1
                            refine skip_ (w1 := ?_) (by rfl) rfl ?_ ?_
                            rotate_left
                            ·go_simp
                             rfl
                            refine hK.out _ _ trivial (fun hHeld => ?_)
                            clear hK K
                            refine done_ (done_of HT_.out (by kernel_rfl)) ?_
                            try go_wp2
                            have n0_ : Aside0 (Kd.R k45 45 ((w43.setCell ⟨gb779, 0, none⟩ (.int .i64 (wrap64 (bt sx 8)))).setCell ⟨gb779, 1, none⟩ (.string (sx.extract 9 ((ji32) : Int).toNat))) w.heap.size (fun k_ => k_ ≠ gb779) u6 x6_2) := ⟨by (with_reducible repeat (first | apply Kd.R_alloc | apply Kd.R_drewN | apply Kd.R_drew)); exact Kd.R_mono (Kd.R_far (p := ⟨gb779, 1, none⟩) (Kd.R_far (p := ⟨gb779, 0, none⟩) (Kd.R_mono HO_6.out (fun k_ hk => (⟨hk, hk.2⟩ : _ ∧ k_ ≠ gb779))) (fun _ hk => hk.2) (.int .i64 (wrap64 (bt sx 8)))) (fun _ hk => hk.2) (.string (sx.extract 9 ((ji32) : Int).toNat))) (fun _ hk => hk.1.2)⟩
                            have n1_ : Aside0 (((w43.setCell ⟨gb779, 0, none⟩ (.int .i64 (wrap64 (bt sx 8)))).setCell ⟨gb779, 1, none⟩ (.string (sx.extract 9 ((ji32) : Int).toNat))).heap[gb779]? = some (.cells #[.int .i64 (wrap64 (bt sx 8)), .string (sx.extract 9 ((ji32) : Int).toNat)] 45 (0, 0))) := ⟨by (with_reducible repeat (first | refine blk_drewN ?_ _ | refine blk_drew ?_ | refine blk_alloc ?_ _)); refine blk_put (cs := #[.int .i64 (wrap64 (bt sx 8)), .string (⟨#[]⟩ : ByteArray)]) ?_ 1 _ rfl; (with_reducible repeat (first | refine blk_drewN ?_ _ | refine blk_drew ?_ | refine blk_alloc ?_ _)); refine blk_put (cs := #[.int .i64 0, .string (⟨#[]⟩ : ByteArray)]) ?_ 0 _ rfl; (with_reducible repeat (first | refine blk_drewN ?_ _ | refine blk_drew ?_ | refine blk_alloc ?_ _)); exact BK779.out⟩
                            have n2_ : Aside0 (Below w.heap.size w ((w43.setCell ⟨gb779, 0, none⟩ (.int .i64 (wrap64 (bt sx 8)))).setCell ⟨gb779, 1, none⟩ (.string (sx.extract 9 ((ji32) : Int).toNat)))) := ⟨by repeat (first | (with_reducible first | exact HB.out | apply below_alloc | apply pw_below_drewN | apply below_drew1 | refine below_set ?_ GE779.out) | exact HB.out)⟩
                            (try clear HO_6)
                            (try clear BK779)
                            (try clear HB)
                            generalize ((w43.setCell ⟨gb779, 0, none⟩ (.int .i64 (wrap64 (bt sx 8)))).setCell ⟨gb779, 1, none⟩ (.string (sx.extract 9 ((ji32) : Int).toNat))) = w46 at n0_ n1_ n2_ ⊢
                            have HO_6 := n0_
                            have BK779 := n1_
                            have HB := n2_
                            clear n0_ n1_ n2_
                            have n0_ := Aside0.mk (Kd.R_drew HO_6.out)
                            have n1_ := Aside0.mk (blk_drew BK779.out)
                            have n2_ := Aside0.mk (below_drew1 HB.out)
                            clear HO_6
                            clear BK779
                            clear HB
                            have HO_6 := n0_
                            have BK779 := n1_
                            have HB := n2_
                            clear n0_ n1_ n2_
                            refine start_ (n := 18) (S := fun w' => w'.cell? ⟨gb779, 0, none⟩ = some (.int .i64 (wrap64 (bt sx 8))) ∧ w'.cell? ⟨gb779, 1, none⟩ = some (.string (sx.extract 9 ((ji32) : Int).toNat))) (ds := []) #[false, false, false, false, false, false, false, false, false, false, false, false, false, false, false, false, false, false] (by kernel_rfl) rfl rfl ⟨(blk_cell BK779.out 0).trans rfl, (blk_cell BK779.out 1).trans rfl⟩ (fun hHeld => ?_); refine with_tabW impl_LogScan.tab11 impl_LogScan.bits11 (fun HT_ HW_ => ?_)
                            generalize w46.drew = w47 at HO_6 BK779 HB hHeld ⊢
                            refine zt 0 63 ?_ (hr := by rintro w' ⟨s0, s1⟩; go_simp; with_reducible rfl)
                            refine one_ (i := 1) (N := some 64) #[true, true, false, false, false, false, false, false, false, false, false, false, false, false, false, false, false, false] rfl rfl (one_of HT_.out (by kernel_rfl)) (by decide) (fun K hK => ?_)
                            refine goes_ Try.func34 (by kernel_rfl) rfl #[.agg #[.int .i64 (wrap64 (bt sx 8)), .string (sx.extract 9 ((ji32) : Int).toNat)]] (by rfl) rfl rfl (by (try simp only [List.map_toArray, List.map_cons, List.map_nil]); first | done | (simp only [hji32]; rfl) | rfl | (simp only [List.length_drop, List.length_take]; rfl)) ?_
                            with_reducible refine (impl_recOK.calls (wrap64 (bt sx 8)) (sx.extract 9 ((ji32) : Int).toNat) true _ A30.out).mono ?_
                            rintro e w48 ⟨rfl, hb⟩
                            refine ⟨_, rfl, ?_⟩
                            have n0_ := Aside0.mk (Kd.R_below (zr HO_6.out) hb)
                            have n1_ := Aside0.mk (blk_below (g := gb779) (o := .cells #[.int .i64 (wrap64 (bt sx 8)), .string (sx.extract 9 ((ji32) : Int).toNat)] 45 (0, 0)) (zk BK779.out) hb)
                            have n2_ := Aside0.mk (below_step (by repeat (first | (with_reducible first | exact HB.out | apply below_alloc | apply pw_below_drewN | apply below_drew1 | refine below_set ?_ GE779.out) | exact HB.out)) hb)
                            clear HO_6
                            clear BK779
                            clear HB
                            have HO_6 := n0_
                            have BK779 := n1_
                            have HB := n2_
                            clear n0_ n1_ n2_
                            (try clear hb)
                            (try clear hb2)
                            (try clear hk)
                            (try clear hi)
                            refine hK.out _ _ ⟨(blk_cell BK779.out 0).trans rfl, (blk_cell BK779.out 1).trans rfl⟩ (fun hHeld => ?_)
                            clear hK K
                            refine norm_ (a' := ?_) ?_ ?_
                            rotate_left
                            ·show Act.put _ (some 64) _ = _
                             simp only [Act.put, List.setIfInBounds_toArray, List.set_cons_zero, List.set_cons_succ, i64_w, i32_w]
                             rfl
                            refine zp 2 65 ?_
                            refine zp 3 66 ?_
                            refine zp 4 67 ?_
                            refine zp 5 68 ?_
                            refine zp 6 69 ?_
                            refine zp 7 70 ?_
                            refine zp 8 71 ?_
                            refine zp 9 72 ?_
                            refine zp 11 74 ?_
                            refine zp 12 75 ?_
                            refine zp 13 76 ?_
                            refine zp 14 77 ?_
                            refine one_ (i := 10) (N := some 73) #[true, true, true, true, true, true, true, true, true, true, true, true, true, true, true, false, false, false] rfl rfl (one_of HT_.out (by kernel_rfl)) (by decide) (fun K hK => ?_)
                            refine goes_ Try.func42 (by kernel_rfl) rfl #[.string (sx.extract ((ji32) : Int).toNat ((wrap64 (13 + t778)) : Int).toNat)] (by rfl) rfl rfl (by (try simp only [List.map_toArray, List.map_cons, List.map_nil]); first | done | (simp only [hji32]; rfl) | rfl | (simp only [List.length_drop, List.length_take]; rfl)) ?_
                            with_reducible refine (impl_numOf.calls kj22 (sx.extract ((ji32) : Int).toNat ((wrap64 (13 + t778)) : Int).toNat) t781 _ A36.out).mono ?_
                            rintro e w' ⟨rfl, ⟨nd, rfl⟩⟩
                            refine ⟨_, rfl, ?_⟩
                            refine hK.out _ _ ⟨(blk_cell BK779.out 0).trans rfl, (blk_cell BK779.out 1).trans rfl⟩ (fun hHeld => ?_)
                            clear hK K
                            refine norm_ (a' := ?_) ?_ ?_
                            rotate_left
                            ·show Act.put _ (some 73) _ = _
                             simp only [Act.put, List.setIfInBounds_toArray, List.set_cons_zero, List.set_cons_succ, i64_w, i32_w]
                             rfl
                            refine one_ (i := 15) (N := some 78) #[true, true, true, true, true, true, true, true, true, true, true, true, true, true, true, true, false, false] rfl rfl (one_of HT_.out (by kernel_rfl)) (by decide) (fun K hK => ?_)
                            refine goes_ Try.func43 (by kernel_rfl) rfl #[.string (sx.extract 0 ((ji32) : Int).toNat)] (by rfl) rfl rfl (by (try simp only [List.map_toArray, List.map_cons, List.map_nil]); first | done | (simp only [hji32]; rfl) | rfl | (simp only [List.length_drop, List.length_take]; rfl)) ?_
                            with_reducible refine (impl_Crc.calls kj22 (sx.extract 0 ((ji32) : Int).toNat) t782 _ A39.out).mono ?_
                            rintro e w' ⟨rfl, ⟨nd, rfl⟩⟩
                            refine ⟨_, rfl, ?_⟩
                            refine hK.out _ _ ⟨(blk_cell BK779.out 0).trans rfl, (blk_cell BK779.out 1).trans rfl⟩ (fun hHeld => ?_)
                            clear hK K
                            refine norm_ (a' := ?_) ?_ ?_
                            rotate_left
                            ·show Act.put _ (some 78) _ = _
                             simp only [Act.put, List.setIfInBounds_toArray, List.set_cons_zero, List.set_cons_succ, i64_w, i32_w]
                             rfl
                            refine zp 16 79 ?_
                            refine zp 17 80 ?_
                            refine done_ (done_of HT_.out (by kernel_rfl)) ?_
                            have hcz49_0 : w48.cell? ⟨gb779, 0, none⟩ = some (.int .i64 (wrap64 (bt sx 8))) := (blk_cell BK779.out 0).trans rfl
                            have hcz49_1 : w48.cell? ⟨gb779, 1, none⟩ = some (.string (sx.extract 9 ((ji32) : Int).toNat)) := (blk_cell BK779.out 1).trans rfl
                            have hfz49_0 := blk_frozen BK779.out 0
                            have hfz49_1 := blk_frozen BK779.out 1
                            try go_wp2_with (first | ((with_reducible refine gate_builtin (b := .append) (xs := #[.tmp 81, .tmp 83]) rfl ?_); (try (refine gate_guard (by rfl) ?_; dsimp only)); at_builtin; refine Kd.R_append k45 (w0 := w) w.heap.size rfl (.tmp 81) (.tmp 83) 33 45 (.agg #[(.int .i64 0), (.string ⟨#[]⟩)]) 24 rfl Try.underlying33 info45 rfl (by decide) (by omega) u6 x6_2 (⟨wrap64 (bt sx 8), sx.extract 9 ((ji32) : Int).toNat⟩ : S45) [.int .i64 (wrap64 (bt sx 8)), .string (sx.extract 9 ((ji32) : Int).toNat)] (fun k_ => k_ ≠ gb779) (fun _ => False) rfl rfl ?aP (fun _ hk => hk.elim) ?aF ?aO ?aB ?aS ?aL ?_; (case aP => exact k45_mkM _ _ _ (⟨wrap64 (bt sx 8), sx.extract 9 ((ji32) : Int).toNat⟩ : S45)); (case aB => exact (by repeat (first | (with_reducible first | exact HB.out | apply below_alloc | apply pw_below_drewN | apply below_drew1 | refine below_set ?_ GE779.out) | exact HB.out))); (case aF => exact (fun k_ hk => Kd.freshB (g := gb779) (o := .cells #[.int .i64 (wrap64 (bt sx 8)), .string (sx.extract 9 ((ji32) : Int).toNat)] 45 (0, 0)) (zk BK779.out) k_ hk)); (case aO => exact (zr HO_6.out)); (case aS => exact (below_size (by repeat (first | (with_reducible first | exact HB.out | apply below_alloc | apply pw_below_drewN | apply below_drew1 | refine below_set ?_ GE779.out) | exact HB.out)))); (case aL => have := LMc41.out; omega); intro v784 w50 ho hb hg hat; rw [← Ny783.out] at ho; have n0_ := Aside0.mk (blk_grown (g := gb779) (o := .cells #[.int .i64 (wrap64 (bt sx 8)), .string (sx.extract 9 ((ji32) : Int).toNat)] 45 (0, 0)) (zk BK779.out) hg (Kd.R_away HO_6.out (fun _ hk => hk))); have n1_ := Aside0.mk (hb); have n2_ := Aside0.mk (ho); clear BK779; clear HB; clear HO_6; have BK779 := n0_; have HB := n1_; have HO785 := n2_; clear n0_ n1_ n2_; clear ho hb hg hat))
                            go_roundg kj22
                            case measure => have := HJ2.out; have := HK2.out; have := HJ5.out; have := HJ12.out; have := HJ22.out; omega
                            case rel => exact ⟨(y783), (wrap64 (x7_2 + (wrap64 (13 + t778)))), (by first | rfl | (simp; done) | (simp [*]; done)), H', ⟨by have := HJ2.out; have := HK2.out; have := HJ5.out; have := HJ12.out; have := HJ22.out; omega⟩, ⟨by (with_reducible repeat (first | apply Kd.R_alloc | apply Kd.R_drewN | apply Kd.R_drew)); exact Kd.R_mono HO785.out (fun _ hk => trivial)⟩, ⟨by repeat (first | (with_reducible first | exact HB.out | apply below_alloc | apply pw_below_drewN | apply below_drew1 | refine below_set ?_ GE779.out) | exact HB.out)⟩⟩
                           ·rw [if_neg c41] at H
                            cases H
                          ·rw [if_neg c40] at H
                           have c40b0 : (t781 == t782) = false := beq_eq_false_iff_ne.mpr c40
                           have c40b1 : (t781 != t782) = true := bne_iff_ne.mpr c40
                           simp only [Option.some.injEq, Prod.mk.injEq] at H
                           obtain ⟨rfl, rfl⟩ := H
                           try go_wp2
                           have n0_ := Aside0.mk (Kd.R_drew HO_6.out)
                           have n1_ := Aside0.mk (below_drew1 HB.out)
                           clear HO_6
                           clear HB
                           have HO_6 := n0_
                           have HB := n1_
                           clear n0_ n1_
                           have p27 : 0 ≤ (8 : Int) := (by omega)
                           have q27 : 8 < sx.size := (by have : (8 : Int) < (sx.size : Int) := of_decide_eq_true (by first | (with_reducible assumption) | assumption); omega)
                           have hx27 : ∀ h : 8 < sx.size, ((sx[8]'h).toNat : Int) = bt sx 8 := bt_at sx 8
                           clear p27
                           have qi27 : (8 < (sx.size : Int)) = True := eq_true (of_decide_eq_true (by first | (with_reducible assumption) | assumption))
                           replace q27 := eq_true q27
                           refine start_ (n := 10) (S := fun w' => True) (ds := []) #[false, false, false, false, false, false, false, false, false, false] (by kernel_rfl) rfl rfl trivial (fun hHeld => ?_); refine with_tabW impl_LogScan.tab10 impl_LogScan.bits10 (fun HT_ HW_ => ?_)
                           generalize wc.drew = w51 at HO_6 HB hHeld ⊢
                           refine zp 0 55 ?_
                           refine zp 3 58 ?_
                           refine zp 4 59 ?_
                           refine zp 5 60 ?_
                           refine zp 6 61 ?_
                           refine take_ (i := 1) (N := some 56) (v := ?_) (a' := ?_) #[true, true, false, true, true, true, true, false, false, false] rfl rfl (take_ofW HT_.out HW_.out (by kernel_rfl)) (fun _ _ _ h => h) (Or.inl ⟨by rfl, ?_⟩) hHeld ?_ ?_
                           rotate_left
                           ·intro w' _
                            go_simp
                            with_reducible rfl
                           rotate_left
                           ·simp only [Act.put, List.setIfInBounds_toArray, List.set_cons_zero, List.set_cons_succ, i64_w, i32_w]
                            rfl
                           refine zp 2 57 ?_
                           refine zp 7 62 ?_
                           refine one_ (i := 8) (N := some 10) #[true, true, true, true, true, true, true, true, true, false] rfl rfl (one_of HT_.out (by kernel_rfl)) (by decide) (fun K hK => ?_)
                           refine box_step ?hg (N := 10) ?hd (cs := #[.int .i64 0, .string (⟨#[]⟩ : ByteArray)]) (t := 45) ?hr ?_; (case hd => rfl); (case hg => rfl); (case hr => first | (go_simp; done) | (go_simp; rfl))
                           intro gb779 hg w52 hbox hb
                           have n0_ := Aside0.mk (Kd.R_below (Kd.R_elderB (zr HO_6.out) gb779 (Nat.le_of_eq hg.symm)) hb)
                           have n1_ := Aside0.mk (below_step zb hb)
                           have n2_ := Aside0.mk (hbox)
                           have n3_ := Aside0.mk ((by rw [hg]; exact (below_size zb) : w.heap.size ≤ gb779))
                           have n4_ := Aside0.mk ((by rw [hg]; exact (below_size zb) : w.heap.size ≤ gb779))
                           clear HO_6
                           clear HB
                           have HO_6 := n0_
                           have HB := n1_
                           have BK779 := n2_
                           have GW779 := n3_
                           have GE779 := n4_
                           clear n0_ n1_ n2_ n3_ n4_
                           clear hb hbox hg
                           refine hK.out _ _ trivial (fun hHeld => ?_)
                           clear hK K
                           refine norm_ (a' := ?_) ?_ ?_
                           rotate_left
                           ·show Act.put _ (some 10) _ = _
                            simp only [Act.put, List.setIfInBounds_toArray, List.set_cons_zero, List.set_cons_succ, i64_w, i32_w]
                            rfl
                           refine one_ (i := 9) (N := none) #[true, true, true, true, true, true, true, true, true, true] rfl rfl (one_of HT_.out (by kernel_rfl)) (by decide) (fun K hK => ?_)
                           have hs53 : w52.cell? ⟨gb779, 0, none⟩ = some (.int .i64 0) := (blk_cell BK779.out 0).trans rfl
                           have hfs53 := blk_frozen BK779.out 0
                           have hs54 : w52.cell? ⟨gb779, 1, none⟩ = some (.string (⟨#[]⟩ : ByteArray)) := (blk_cell BK779.out 1).trans rfl
                           have hfs54 := blk_frozen BK779.out 1
                           refine skip_ (w1 := ?_) (by rfl) rfl ?_ ?_
                           rotate_left
                           ·go_simp
                            rfl
                           refine hK.out _ _ trivial (fun hHeld => ?_)
                           clear hK K
                           refine done_ (done_of HT_.out (by kernel_rfl)) ?_
                           try go_wp2
                           have n0_ : Aside0 (Kd.R k45 45 ((w52.setCell ⟨gb779, 0, none⟩ (.int .i64 (wrap64 (bt sx 8)))).setCell ⟨gb779, 1, none⟩ (.string (sx.extract 9 ((ji32) : Int).toNat))) w.heap.size (fun k_ => k_ ≠ gb779) u6 x6_2) := ⟨by (with_reducible repeat (first | apply Kd.R_alloc | apply Kd.R_drewN | apply Kd.R_drew)); exact Kd.R_mono (Kd.R_far (p := ⟨gb779, 1, none⟩) (Kd.R_far (p := ⟨gb779, 0, none⟩) (Kd.R_mono HO_6.out (fun k_ hk => (⟨hk, hk.2⟩ : _ ∧ k_ ≠ gb779))) (fun _ hk => hk.2) (.int .i64 (wrap64 (bt sx 8)))) (fun _ hk => hk.2) (.string (sx.extract 9 ((ji32) : Int).toNat))) (fun _ hk => hk.1.2)⟩
                           have n1_ : Aside0 (((w52.setCell ⟨gb779, 0, none⟩ (.int .i64 (wrap64 (bt sx 8)))).setCell ⟨gb779, 1, none⟩ (.string (sx.extract 9 ((ji32) : Int).toNat))).heap[gb779]? = some (.cells #[.int .i64 (wrap64 (bt sx 8)), .string (sx.extract 9 ((ji32) : Int).toNat)] 45 (0, 0))) := ⟨by (with_reducible repeat (first | refine blk_drewN ?_ _ | refine blk_drew ?_ | refine blk_alloc ?_ _)); refine blk_put (cs := #[.int .i64 (wrap64 (bt sx 8)), .string (⟨#[]⟩ : ByteArray)]) ?_ 1 _ rfl; (with_reducible repeat (first | refine blk_drewN ?_ _ | refine blk_drew ?_ | refine blk_alloc ?_ _)); refine blk_put (cs := #[.int .i64 0, .string (⟨#[]⟩ : ByteArray)]) ?_ 0 _ rfl; (with_reducible repeat (first | refine blk_drewN ?_ _ | refine blk_drew ?_ | refine blk_alloc ?_ _)); exact BK779.out⟩
                           have n2_ : Aside0 (Below w.heap.size w ((w52.setCell ⟨gb779, 0, none⟩ (.int .i64 (wrap64 (bt sx 8)))).setCell ⟨gb779, 1, none⟩ (.string (sx.extract 9 ((ji32) : Int).toNat)))) := ⟨by repeat (first | (with_reducible first | exact HB.out | apply below_alloc | apply pw_below_drewN | apply below_drew1 | refine below_set ?_ GE779.out) | exact HB.out)⟩
                           (try clear HO_6)
                           (try clear BK779)
                           (try clear HB)
                           generalize ((w52.setCell ⟨gb779, 0, none⟩ (.int .i64 (wrap64 (bt sx 8)))).setCell ⟨gb779, 1, none⟩ (.string (sx.extract 9 ((ji32) : Int).toNat))) = w55 at n0_ n1_ n2_ ⊢
                           have HO_6 := n0_
                           have BK779 := n1_
                           have HB := n2_
                           clear n0_ n1_ n2_
                           have n0_ := Aside0.mk (Kd.R_drew HO_6.out)
                           have n1_ := Aside0.mk (blk_drew BK779.out)
                           have n2_ := Aside0.mk (below_drew1 HB.out)
                           clear HO_6
                           clear BK779
                           clear HB
                           have HO_6 := n0_
                           have BK779 := n1_
                           have HB := n2_
                           clear n0_ n1_ n2_
                           refine start_ (n := 18) (S := fun w' => w'.cell? ⟨gb779, 0, none⟩ = some (.int .i64 (wrap64 (bt sx 8))) ∧ w'.cell? ⟨gb779, 1, none⟩ = some (.string (sx.extract 9 ((ji32) : Int).toNat))) (ds := []) #[false, false, false, false, false, false, false, false, false, false, false, false, false, false, false, false, false, false] (by kernel_rfl) rfl rfl ⟨(blk_cell BK779.out 0).trans rfl, (blk_cell BK779.out 1).trans rfl⟩ (fun hHeld => ?_); refine with_tabW impl_LogScan.tab11 impl_LogScan.bits11 (fun HT_ HW_ => ?_)
                           generalize w55.drew = w56 at HO_6 BK779 HB hHeld ⊢
                           refine zt 0 63 ?_ (hr := by rintro w' ⟨s0, s1⟩; go_simp; with_reducible rfl)
                           refine one_ (i := 1) (N := some 64) #[true, true, false, false, false, false, false, false, false, false, false, false, false, false, false, false, false, false] rfl rfl (one_of HT_.out (by kernel_rfl)) (by decide) (fun K hK => ?_)
                           refine goes_ Try.func34 (by kernel_rfl) rfl #[.agg #[.int .i64 (wrap64 (bt sx 8)), .string (sx.extract 9 ((ji32) : Int).toNat)]] (by rfl) rfl rfl (by (try simp only [List.map_toArray, List.map_cons, List.map_nil]); first | done | (simp only [hji32]; rfl) | rfl | (simp only [List.length_drop, List.length_take]; rfl)) ?_
                           with_reducible refine (impl_recOK.calls (wrap64 (bt sx 8)) (sx.extract 9 ((ji32) : Int).toNat) true _ A30.out).mono ?_
                           rintro e w57 ⟨rfl, hb⟩
                           refine ⟨_, rfl, ?_⟩
                           have n0_ := Aside0.mk (Kd.R_below (zr HO_6.out) hb)
                           have n1_ := Aside0.mk (blk_below (g := gb779) (o := .cells #[.int .i64 (wrap64 (bt sx 8)), .string (sx.extract 9 ((ji32) : Int).toNat)] 45 (0, 0)) (zk BK779.out) hb)
                           have n2_ := Aside0.mk (below_step (by repeat (first | (with_reducible first | exact HB.out | apply below_alloc | apply pw_below_drewN | apply below_drew1 | refine below_set ?_ GE779.out) | exact HB.out)) hb)
                           clear HO_6
                           clear BK779
                           clear HB
                           have HO_6 := n0_
                           have BK779 := n1_
                           have HB := n2_
                           clear n0_ n1_ n2_
                           (try clear hb)
                           (try clear hb2)
                           (try clear hk)
                           (try clear hi)
                           refine hK.out _ _ ⟨(blk_cell BK779.out 0).trans rfl, (blk_cell BK779.out 1).trans rfl⟩ (fun hHeld => ?_)
                           clear hK K
                           refine norm_ (a' := ?_) ?_ ?_
                           rotate_left
                           ·show Act.put _ (some 64) _ = _
                            simp only [Act.put, List.setIfInBounds_toArray, List.set_cons_zero, List.set_cons_succ, i64_w, i32_w]
                            rfl
                           refine zp 2 65 ?_
                           refine zp 3 66 ?_
                           refine zp 4 67 ?_
                           refine zp 5 68 ?_
                           refine zp 6 69 ?_
                           refine zp 7 70 ?_
                           refine zp 8 71 ?_
                           refine zp 9 72 ?_
                           refine zp 11 74 ?_
                           refine zp 12 75 ?_
                           refine zp 13 76 ?_
                           refine zp 14 77 ?_
                           refine one_ (i := 10) (N := some 73) #[true, true, true, true, true, true, true, true, true, true, true, true, true, true, true, false, false, false] rfl rfl (one_of HT_.out (by kernel_rfl)) (by decide) (fun K hK => ?_)
                           refine goes_ Try.func42 (by kernel_rfl) rfl #[.string (sx.extract ((ji32) : Int).toNat ((wrap64 (13 + t778)) : Int).toNat)] (by rfl) rfl rfl (by (try simp only [List.map_toArray, List.map_cons, List.map_nil]); first | done | (simp only [hji32]; rfl) | rfl | (simp only [List.length_drop, List.length_take]; rfl)) ?_
                           with_reducible refine (impl_numOf.calls kj22 (sx.extract ((ji32) : Int).toNat ((wrap64 (13 + t778)) : Int).toNat) t781 _ A36.out).mono ?_
                           rintro e w' ⟨rfl, ⟨nd, rfl⟩⟩
                           refine ⟨_, rfl, ?_⟩
                           refine hK.out _ _ ⟨(blk_cell BK779.out 0).trans rfl, (blk_cell BK779.out 1).trans rfl⟩ (fun hHeld => ?_)
                           clear hK K
                           refine norm_ (a' := ?_) ?_ ?_
                           rotate_left
                           ·show Act.put _ (some 73) _ = _
                            simp only [Act.put, List.setIfInBounds_toArray, List.set_cons_zero, List.set_cons_succ, i64_w, i32_w]
                            rfl
                           refine one_ (i := 15) (N := some 78) #[true, true, true, true, true, true, true, true, true, true, true, true, true, true, true, true, false, false] rfl rfl (one_of HT_.out (by kernel_rfl)) (by decide) (fun K hK => ?_)
                           refine goes_ Try.func43 (by kernel_rfl) rfl #[.string (sx.extract 0 ((ji32) : Int).toNat)] (by rfl) rfl rfl (by (try simp only [List.map_toArray, List.map_cons, List.map_nil]); first | done | (simp only [hji32]; rfl) | rfl | (simp only [List.length_drop, List.length_take]; rfl)) ?_
                           with_reducible refine (impl_Crc.calls kj22 (sx.extract 0 ((ji32) : Int).toNat) t782 _ A39.out).mono ?_
                           rintro e w' ⟨rfl, ⟨nd, rfl⟩⟩
                           refine ⟨_, rfl, ?_⟩
                           refine hK.out _ _ ⟨(blk_cell BK779.out 0).trans rfl, (blk_cell BK779.out 1).trans rfl⟩ (fun hHeld => ?_)
                           clear hK K
                           refine norm_ (a' := ?_) ?_ ?_
                           rotate_left
                           ·show Act.put _ (some 78) _ = _
                            simp only [Act.put, List.setIfInBounds_toArray, List.set_cons_zero, List.set_cons_succ, i64_w, i32_w]
                            rfl
                           refine zp 16 79 ?_
                           refine zp 17 80 ?_
                           refine done_ (done_of HT_.out (by kernel_rfl)) ?_
                           try go_wp2
                           go_ret2
                           exact ⟨_, by first | rfl | (simp [errW_none, errW_some] <;> rfl) | (simp only [← hji32]; first | rfl | (simp [errW_none, errW_some] <;> rfl)) | (simp [*, errW_none, errW_some] <;> rfl), by (with_reducible repeat (first | apply Kd.R_alloc | apply Kd.R_drewN | apply Kd.R_drew)); exact Kd.R_mono HO_6.out (fun _ hk => trivial), by repeat (first | (with_reducible first | exact HB.out | apply below_alloc | apply pw_below_drewN | apply below_drew1 | refine below_set ?_ GE779.out) | exact HB.out)⟩
                         ·rw [if_neg c35] at H
                          cases H
                        ·rw [if_neg c34] at H
                         cases H
                       ·rw [if_neg c33] at H
                        cases H
                      ·replace c31 := Bool.eq_false_iff.mpr c31
                       subst c31
                       have H1 : (some (x6_2, x7_2)) = some (r1, r2) := by rw [if_neg (show ¬ (false = true) by decide)] at H; exact H
                       clear H
                       have H := H1
                       clear H1
                       simp only [Option.some.injEq, Prod.mk.injEq] at H
                       obtain ⟨rfl, rfl⟩ := H
                       try go_wp2
                       have n0_ := Aside0.mk (Kd.R_drew HO_6.out)
                       have n1_ := Aside0.mk (below_drew1 HB.out)
                       clear HO_6
                       clear HB
                       have HO_6 := n0_
                       have HB := n1_
                       clear n0_ n1_
                       have p27 : 0 ≤ (8 : Int) := (by omega)
                       have q27 : 8 < sx.size := (by have : (8 : Int) < (sx.size : Int) := of_decide_eq_true (by first | (with_reducible assumption) | assumption); omega)
                       have hx27 : ∀ h : 8 < sx.size, ((sx[8]'h).toNat : Int) = bt sx 8 := bt_at sx 8
                       clear p27
                       have qi27 : (8 < (sx.size : Int)) = True := eq_true (of_decide_eq_true (by first | (with_reducible assumption) | assumption))
                       replace q27 := eq_true q27
                       refine start_ (n := 10) (S := fun w' => True) (ds := []) #[false, false, false, false, false, false, false, false, false, false] (by kernel_rfl) rfl rfl trivial (fun hHeld => ?_); refine with_tabW impl_LogScan.tab10 impl_LogScan.bits10 (fun HT_ HW_ => ?_)
                       generalize wc.drew = w58 at HO_6 HB hHeld ⊢
                       refine zp 0 55 ?_
                       refine zp 3 58 ?_
                       refine zp 4 59 ?_
                       refine zp 5 60 ?_
                       refine zp 6 61 ?_
                       refine take_ (i := 1) (N := some 56) (v := ?_) (a' := ?_) #[true, true, false, true, true, true, true, false, false, false] rfl rfl (take_ofW HT_.out HW_.out (by kernel_rfl)) (fun _ _ _ h => h) (Or.inl ⟨by rfl, ?_⟩) hHeld ?_ ?_
                       rotate_left
                       ·intro w' _
                        go_simp
                        with_reducible rfl
                       rotate_left
                       ·simp only [Act.put, List.setIfInBounds_toArray, List.set_cons_zero, List.set_cons_succ, i64_w, i32_w]
                        rfl
                       refine zp 2 57 ?_
                       refine zp 7 62 ?_
                       refine one_ (i := 8) (N := some 10) #[true, true, true, true, true, true, true, true, true, false] rfl rfl (one_of HT_.out (by kernel_rfl)) (by decide) (fun K hK => ?_)
                       refine box_step ?hg (N := 10) ?hd (cs := #[.int .i64 0, .string (⟨#[]⟩ : ByteArray)]) (t := 45) ?hr ?_; (case hd => rfl); (case hg => rfl); (case hr => first | (go_simp; done) | (go_simp; rfl))
                       intro gb779 hg w59 hbox hb
                       have n0_ := Aside0.mk (Kd.R_below (Kd.R_elderB (zr HO_6.out) gb779 (Nat.le_of_eq hg.symm)) hb)
                       have n1_ := Aside0.mk (below_step zb hb)
                       have n2_ := Aside0.mk (hbox)
                       have n3_ := Aside0.mk ((by rw [hg]; exact (below_size zb) : w.heap.size ≤ gb779))
                       have n4_ := Aside0.mk ((by rw [hg]; exact (below_size zb) : w.heap.size ≤ gb779))
                       clear HO_6
                       clear HB
                       have HO_6 := n0_
                       have HB := n1_
                       have BK779 := n2_
                       have GW779 := n3_
                       have GE779 := n4_
                       clear n0_ n1_ n2_ n3_ n4_
                       clear hb hbox hg
                       refine hK.out _ _ trivial (fun hHeld => ?_)
                       clear hK K
                       refine norm_ (a' := ?_) ?_ ?_
                       rotate_left
                       ·show Act.put _ (some 10) _ = _
                        simp only [Act.put, List.setIfInBounds_toArray, List.set_cons_zero, List.set_cons_succ, i64_w, i32_w]
                        rfl
                       refine one_ (i := 9) (N := none) #[true, true, true, true, true, true, true, true, true, true] rfl rfl (one_of HT_.out (by kernel_rfl)) (by decide) (fun K hK => ?_)
                       have hs60 : w59.cell? ⟨gb779, 0, none⟩ = some (.int .i64 0) := (blk_cell BK779.out 0).trans rfl
                       have hfs60 := blk_frozen BK779.out 0
                       have hs61 : w59.cell? ⟨gb779, 1, none⟩ = some (.string (⟨#[]⟩ : ByteArray)) := (blk_cell BK779.out 1).trans rfl
                       have hfs61 := blk_frozen BK779.out 1
                       refine skip_ (w1 := ?_) (by rfl) rfl ?_ ?_
                       rotate_left
                       ·go_simp
                        rfl
                       refine hK.out _ _ trivial (fun hHeld => ?_)
                       clear hK K
                       refine done_ (done_of HT_.out (by kernel_rfl)) ?_
                       try go_wp2
                       have n0_ : Aside0 (Kd.R k45 45 ((w59.setCell ⟨gb779, 0, none⟩ (.int .i64 (wrap64 (bt sx 8)))).setCell ⟨gb779, 1, none⟩ (.string (sx.extract 9 ((wrap64 (9 + t778)) : Int).toNat))) w.heap.size (fun k_ => k_ ≠ gb779) u6 x6_2) := ⟨by (with_reducible repeat (first | apply Kd.R_alloc | apply Kd.R_drewN | apply Kd.R_drew)); exact Kd.R_mono (Kd.R_far (p := ⟨gb779, 1, none⟩) (Kd.R_far (p := ⟨gb779, 0, none⟩) (Kd.R_mono HO_6.out (fun k_ hk => (⟨hk, hk.2⟩ : _ ∧ k_ ≠ gb779))) (fun _ hk => hk.2) (.int .i64 (wrap64 (bt sx 8)))) (fun _ hk => hk.2) (.string (sx.extract 9 ((wrap64 (9 + t778)) : Int).toNat))) (fun _ hk => hk.1.2)⟩
                       have n1_ : Aside0 (((w59.setCell ⟨gb779, 0, none⟩ (.int .i64 (wrap64 (bt sx 8)))).setCell ⟨gb779, 1, none⟩ (.string (sx.extract 9 ((wrap64 (9 + t778)) : Int).toNat))).heap[gb779]? = some (.cells #[.int .i64 (wrap64 (bt sx 8)), .string (sx.extract 9 ((wrap64 (9 + t778)) : Int).toNat)] 45 (0, 0))) := ⟨by (with_reducible repeat (first | refine blk_drewN ?_ _ | refine blk_drew ?_ | refine blk_alloc ?_ _)); refine blk_put (cs := #[.int .i64 (wrap64 (bt sx 8)), .string (⟨#[]⟩ : ByteArray)]) ?_ 1 _ rfl; (with_reducible repeat (first | refine blk_drewN ?_ _ | refine blk_drew ?_ | refine blk_alloc ?_ _)); refine blk_put (cs := #[.int .i64 0, .string (⟨#[]⟩ : ByteArray)]) ?_ 0 _ rfl; (with_reducible repeat (first | refine blk_drewN ?_ _ | refine blk_drew ?_ | refine blk_alloc ?_ _)); exact BK779.out⟩
                       have n2_ : Aside0 (Below w.heap.size w ((w59.setCell ⟨gb779, 0, none⟩ (.int .i64 (wrap64 (bt sx 8)))).setCell ⟨gb779, 1, none⟩ (.string (sx.extract 9 ((wrap64 (9 + t778)) : Int).toNat)))) := ⟨by repeat (first | (with_reducible first | exact HB.out | apply below_alloc | apply pw_below_drewN | apply below_drew1 | refine below_set ?_ GE779.out) | exact HB.out)⟩
                       (try clear HO_6)
                       (try clear BK779)
                       (try clear HB)
                       generalize ((w59.setCell ⟨gb779, 0, none⟩ (.int .i64 (wrap64 (bt sx 8)))).setCell ⟨gb779, 1, none⟩ (.string (sx.extract 9 ((wrap64 (9 + t778)) : Int).toNat))) = w62 at n0_ n1_ n2_ ⊢
                       have HO_6 := n0_
                       have BK779 := n1_
                       have HB := n2_
                       clear n0_ n1_ n2_
                       have n0_ := Aside0.mk (Kd.R_drew HO_6.out)
                       have n1_ := Aside0.mk (blk_drew BK779.out)
                       have n2_ := Aside0.mk (below_drew1 HB.out)
                       clear HO_6
                       clear BK779
                       clear HB
                       have HO_6 := n0_
                       have BK779 := n1_
                       have HB := n2_
                       clear n0_ n1_ n2_
                       refine start_ (n := 18) (S := fun w' => w'.cell? ⟨gb779, 0, none⟩ = some (.int .i64 (wrap64 (bt sx 8))) ∧ w'.cell? ⟨gb779, 1, none⟩ = some (.string (sx.extract 9 ((wrap64 (9 + t778)) : Int).toNat))) (ds := []) #[false, false, false, false, false, false, false, false, false, false, false, false, false, false, false, false, false, false] (by kernel_rfl) rfl rfl ⟨(blk_cell BK779.out 0).trans rfl, (blk_cell BK779.out 1).trans rfl⟩ (fun hHeld => ?_); refine with_tabW impl_LogScan.tab11 impl_LogScan.bits11 (fun HT_ HW_ => ?_)
                       generalize w62.drew = w63 at HO_6 BK779 HB hHeld ⊢
                       refine zt 0 63 ?_ (hr := by rintro w' ⟨s0, s1⟩; go_simp; with_reducible rfl)
                       refine one_ (i := 1) (N := some 64) #[true, true, false, false, false, false, false, false, false, false, false, false, false, false, false, false, false, false] rfl rfl (one_of HT_.out (by kernel_rfl)) (by decide) (fun K hK => ?_)
                       refine goes_ Try.func34 (by kernel_rfl) rfl #[.agg #[.int .i64 (wrap64 (bt sx 8)), .string (sx.extract 9 ((wrap64 (9 + t778)) : Int).toNat)]] (by rfl) rfl rfl zm ?_
                       with_reducible refine (impl_recOK.calls (wrap64 (bt sx 8)) (sx.extract 9 ((wrap64 (9 + t778)) : Int).toNat) false _ A30.out).mono ?_
                       rintro e w64 ⟨rfl, hb⟩
                       refine ⟨_, rfl, ?_⟩
                       have n0_ := Aside0.mk (Kd.R_below (zr HO_6.out) hb)
                       have n1_ := Aside0.mk (blk_below (g := gb779) (o := .cells #[.int .i64 (wrap64 (bt sx 8)), .string (sx.extract 9 ((wrap64 (9 + t778)) : Int).toNat)] 45 (0, 0)) (zk BK779.out) hb)
                       have n2_ := Aside0.mk (below_step (by repeat (first | (with_reducible first | exact HB.out | apply below_alloc | apply pw_below_drewN | apply below_drew1 | refine below_set ?_ GE779.out) | exact HB.out)) hb)
                       clear HO_6
                       clear BK779
                       clear HB
                       have HO_6 := n0_
                       have BK779 := n1_
                       have HB := n2_
                       clear n0_ n1_ n2_
                       (try clear hb)
                       (try clear hb2)
                       (try clear hk)
                       (try clear hi)
                       refine hK.out _ _ ⟨(blk_cell BK779.out 0).trans rfl, (blk_cell BK779.out 1).trans rfl⟩ (fun hHeld => ?_)
                       clear hK K
                       refine norm_ (a' := ?_) ?_ ?_
                       rotate_left
                       ·show Act.put _ (some 64) _ = _
                        simp only [Act.put, List.setIfInBounds_toArray, List.set_cons_zero, List.set_cons_succ, i64_w, i32_w]
                        rfl
                       refine zp 2 65 ?_
                       refine zp 3 66 ?_
                       refine zu 4 67 ?_
                       refine zu 5 68 ?_
                       refine zu 6 69 ?_
                       refine zu 7 70 ?_
                       refine zu 8 71 ?_
                       refine zu 9 72 ?_
                       refine zu 10 73 ?_
                       refine zu 11 74 ?_
                       refine zu 12 75 ?_
                       refine zu 13 76 ?_
                       refine zu 14 77 ?_
                       refine zu 15 78 ?_
                       refine zu 16 79 ?_
                       refine zp 17 80 ?_
                       refine done_ (done_of HT_.out (by kernel_rfl)) ?_
                       try go_wp2
                       go_ret2
                       exact ⟨_, by first | rfl | (simp [errW_none, errW_some] <;> rfl) | (simp [*, errW_none, errW_some] <;> rfl), by (with_reducible repeat (first | apply Kd.R_alloc | apply Kd.R_drewN | apply Kd.R_drew)); exact Kd.R_mono HO_6.out (fun _ hk => trivial), by repeat (first | (with_reducible first | exact HB.out | apply below_alloc | apply pw_below_drewN | apply below_drew1 | refine below_set ?_ GE779.out) | exact HB.out)⟩
                     ·rw [if_neg c29] at H
                      cases H
                    ·rw [if_neg c28] at H
                     cases H
                   ·rw [if_neg c26] at H
                    cases H
               ·rw [if_neg c21] at H
                cases H
              ·rw [if_neg c20] at H
               cases H
          ·rw [if_neg c12] at H
           cases H
         ·rw [if_neg c11] at H
          cases H
        ·replace c10 := Bool.eq_false_iff.mpr c10
         subst c10
         have H1 : (some (x6_2, x7_2)) = some (r1, r2) := by rw [if_neg (show ¬ (false = true) by decide)] at H; exact H
         clear H
         have H := H1
         clear H1
         simp only [Option.some.injEq, Prod.mk.injEq] at H
         obtain ⟨rfl, rfl⟩ := H
         go_wp2
         go_ret2
         exact ⟨_, by first | rfl | (simp [errW_none, errW_some] <;> rfl) | (simp [*, errW_none, errW_some] <;> rfl), by (with_reducible repeat (first | apply Kd.R_alloc | apply Kd.R_drewN | apply Kd.R_drew)); exact HO_6.out, zb⟩

end Go.Proofs.Ytnicllekmkkhlaa.QFnDiskSafe
