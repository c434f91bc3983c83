/- The functions that the law reaches, each as a plain Lean function with the proof that the Go code comes to its answers: written by a program of this session. No condition. -/
import Derived.Test.YtiolnbhcmoafjaaQFnExactTableOKx0
namespace Go.Proofs.Ytiolnbhcmoafjaa.QFnExactTableOK
open Go.RowKit Go.Proofs.YtiolnbhcmoafjaaW.PrintWords Go.Proofs.YtiolnbhcmoafjaaW.PrintLast Go.Proofs.YtiolnbhcmoafjaaW.PrintMore
attribute [local go_sem] max2_int min2_int max_two min_two max_three min_three max_four min_four str_gtr str_leq str_geq pw_at_slice   -- for this text's walks alone
set_option linter.unusedVariables false
set_option linter.unusedSimpArgs false

/-! ### spec_l08Reserved: function 65 -/
def spec_l08Reserved.f (a0 : ByteArray) : Option (Bool) := if a0.toList = ([97, 108, 108] : List UInt8) then (some true) else (if a0.toList = ([97, 110, 100] : List UInt8) then (some true) else (if a0.toList = ([97, 115] : List UInt8) then (some true) else (if a0.toList = ([97, 115, 99] : List UInt8) then (some true) else (if a0.toList = ([98, 101, 103, 105, 110] : List UInt8) then (some true) else (if a0.toList = ([98, 101, 116, 119, 101, 101, 110] : List UInt8) then (some true) else (if a0.toList = ([98, 121] : List UInt8) then (some true) else (if a0.toList = ([99, 97, 115, 101] : List UInt8) then (some true) else (if a0.toList = ([99, 97, 115, 116] : List UInt8) then (some true) else (if a0.toList = ([99, 111, 109, 109, 105, 116] : List UInt8) then (some true) else (if a0.toList = ([99, 114, 101, 97, 116, 101] : List UInt8) then (some true) else (if a0.toList = ([99, 114, 111, 115, 115] : List UInt8) then (some true) else (if a0.toList = ([100, 97, 121] : List UInt8) then (some true) else (if a0.toList = ([100, 101, 108, 101, 116, 101] : List UInt8) then (some true) else (if a0.toList = ([100, 101, 115, 99] : List UInt8) then (some true) else (if a0.toList = ([100, 105, 115, 116, 105, 110, 99, 116] : List UInt8) then (some true) else (if a0.toList = ([100, 114, 111, 112] : List UInt8) then (some true) else (if a0.toList = ([101, 108, 115, 101] : List UInt8) then (some true) else (if a0.toList = ([101, 110, 100] : List UInt8) then (some true) else (if a0.toList = ([101, 120, 99, 101, 112, 116] : List UInt8) then (some true) else (if a0.toList = ([101, 120, 105, 115, 116, 115] : List UInt8) then (some true) else (if a0.toList = ([101, 120, 112, 108, 97, 105, 110] : List UInt8) then (some true) else (if a0.toList = ([102, 97, 108, 115, 101] : List UInt8) then (some true) else (if a0.toList = ([102, 114, 111, 109] : List UInt8) then (some true) else (if a0.toList = ([103, 114, 111, 117, 112] : List UInt8) then (some true) else (if a0.toList = ([104, 97, 118, 105, 110, 103] : List UInt8) then (some true) else (if a0.toList = ([105, 110] : List UInt8) then (some true) else (if a0.toList = ([105, 110, 100, 101, 120] : List UInt8) then (some true) else (if a0.toList = ([105, 110, 115, 101, 114, 116] : List UInt8) then (some true) else (if a0.toList = ([105, 110, 116, 101, 114, 115, 101, 99, 116] : List UInt8) then (some true) else (if a0.toList = ([105, 110, 116, 111] : List UInt8) then (some true) else (if a0.toList = ([105, 115] : List UInt8) then (some true) else (if a0.toList = ([106, 111, 105, 110] : List UInt8) then (some true) else (if a0.toList = ([107, 101, 121] : List UInt8) then (some true) else (if a0.toList = ([108, 101, 102, 116] : List UInt8) then (some true) else (if a0.toList = ([108, 105, 109, 105, 116] : List UInt8) then (some true) else (if a0.toList = ([110, 111, 116] : List UInt8) then (some true) else (if a0.toList = ([110, 117, 108, 108] : List UInt8) then (some true) else (if a0.toList = ([111, 110] : List UInt8) then (some true) else (if a0.toList = ([111, 114] : List UInt8) then (some true) else (if a0.toList = ([111, 114, 100, 101, 114] : List UInt8) then (some true) else (if a0.toList = ([111, 118, 101, 114] : List UInt8) then (some true) else (if a0.toList = ([112, 97, 114, 116, 105, 116, 105, 111, 110] : List UInt8) then (some true) else (if a0.toList = ([112, 114, 105, 109, 97, 114, 121] : List UInt8) then (some true) else (if a0.toList = ([114, 101, 99, 117, 114, 115, 105, 118, 101] : List UInt8) then (some true) else (if a0.toList = ([114, 111, 108, 108, 98, 97, 99, 107] : List UInt8) then (some true) else (if a0.toList = ([115, 101, 108, 101, 99, 116] : List UInt8) then (some true) else (if a0.toList = ([115, 101, 116] : List UInt8) then (some true) else (if a0.toList = ([116, 97, 98, 108, 101] : List UInt8) then (some true) else (if a0.toList = ([116, 104, 101, 110] : List UInt8) then (some true) else (if a0.toList = ([116, 114, 117, 101] : List UInt8) then (some true) else (if a0.toList = ([117, 110, 105, 111, 110] : List UInt8) then (some true) else (if a0.toList = ([117, 110, 105, 113, 117, 101] : List UInt8) then (some true) else (if a0.toList = ([117, 112, 100, 97, 116, 101] : List UInt8) then (some true) else (if a0.toList = ([118, 97, 108, 117, 101, 115] : List UInt8) then (some true) else (if a0.toList = ([118, 105, 101, 119] : List UInt8) then (some true) else (if a0.toList = ([119, 104, 101, 110] : List UInt8) then (some true) else (if a0.toList = ([119, 104, 101, 114, 101] : List UInt8) then (some true) else (if a0.toList = ([119, 105, 116, 104] : List UInt8) then (some true) else (if a0.toList = ([97, 108, 116, 101, 114] : List UInt8) then (some true) else (if a0.toList = ([97, 100, 100] : List UInt8) then (some true) else (if a0.toList = ([99, 111, 108, 117, 109, 110] : List UInt8) then (some true) else (if a0.toList = ([108, 101, 118, 101, 108] : List UInt8) then (some true) else (if a0.toList = ([115, 101, 114, 105, 97, 108] : List UInt8) then (some true) else (if a0.toList = ([115, 110, 97, 112, 115, 104, 111, 116] : List UInt8) then (some true) else (if a0.toList = ([108, 97, 116, 101, 115, 116] : List UInt8) then (some true) else (some false))))))))))))))))))))))))))))))))))))))))))))))))))))))))))))))))))
set_option maxHeartbeats 8000000 in
set_option maxRecDepth 100000 in
theorem spec_l08Reserved.calls (a0 : ByteArray) (r : Bool) (w : World) (h : spec_l08Reserved.f a0 = some r) :
  Calls Try.prog 65 #[.string a0] w fun e w' => e = .returned (.bool r) ∧ Drawn0 w w' := by
 have H : (if a0.toList = ([97, 108, 108] : List UInt8) then (some true) else (if a0.toList = ([97, 110, 100] : List UInt8) then (some true) else (if a0.toList = ([97, 115] : List UInt8) then (some true) else (if a0.toList = ([97, 115, 99] : List UInt8) then (some true) else (if a0.toList = ([98, 101, 103, 105, 110] : List UInt8) then (some true) else (if a0.toList = ([98, 101, 116, 119, 101, 101, 110] : List UInt8) then (some true) else (if a0.toList = ([98, 121] : List UInt8) then (some true) else (if a0.toList = ([99, 97, 115, 101] : List UInt8) then (some true) else (if a0.toList = ([99, 97, 115, 116] : List UInt8) then (some true) else (if a0.toList = ([99, 111, 109, 109, 105, 116] : List UInt8) then (some true) else (if a0.toList = ([99, 114, 101, 97, 116, 101] : List UInt8) then (some true) else (if a0.toList = ([99, 114, 111, 115, 115] : List UInt8) then (some true) else (if a0.toList = ([100, 97, 121] : List UInt8) then (some true) else (if a0.toList = ([100, 101, 108, 101, 116, 101] : List UInt8) then (some true) else (if a0.toList = ([100, 101, 115, 99] : List UInt8) then (some true) else (if a0.toList = ([100, 105, 115, 116, 105, 110, 99, 116] : List UInt8) then (some true) else (if a0.toList = ([100, 114, 111, 112] : List UInt8) then (some true) else (if a0.toList = ([101, 108, 115, 101] : List UInt8) then (some true) else (if a0.toList = ([101, 110, 100] : List UInt8) then (some true) else (if a0.toList = ([101, 120, 99, 101, 112, 116] : List UInt8) then (some true) else (if a0.toList = ([101, 120, 105, 115, 116, 115] : List UInt8) then (some true) else (if a0.toList = ([101, 120, 112, 108, 97, 105, 110] : List UInt8) then (some true) else (if a0.toList = ([102, 97, 108, 115, 101] : List UInt8) then (some true) else (if a0.toList = ([102, 114, 111, 109] : List UInt8) then (some true) else (if a0.toList = ([103, 114, 111, 117, 112] : List UInt8) then (some true) else (if a0.toList = ([104, 97, 118, 105, 110, 103] : List UInt8) then (some true) else (if a0.toList = ([105, 110] : List UInt8) then (some true) else (if a0.toList = ([105, 110, 100, 101, 120] : List UInt8) then (some true) else (if a0.toList = ([105, 110, 115, 101, 114, 116] : List UInt8) then (some true) else (if a0.toList = ([105, 110, 116, 101, 114, 115, 101, 99, 116] : List UInt8) then (some true) else (if a0.toList = ([105, 110, 116, 111] : List UInt8) then (some true) else (if a0.toList = ([105, 115] : List UInt8) then (some true) else (if a0.toList = ([106, 111, 105, 110] : List UInt8) then (some true) else (if a0.toList = ([107, 101, 121] : List UInt8) then (some true) else (if a0.toList = ([108, 101, 102, 116] : List UInt8) then (some true) else (if a0.toList = ([108, 105, 109, 105, 116] : List UInt8) then (some true) else (if a0.toList = ([110, 111, 116] : List UInt8) then (some true) else (if a0.toList = ([110, 117, 108, 108] : List UInt8) then (some true) else (if a0.toList = ([111, 110] : List UInt8) then (some true) else (if a0.toList = ([111, 114] : List UInt8) then (some true) else (if a0.toList = ([111, 114, 100, 101, 114] : List UInt8) then (some true) else (if a0.toList = ([111, 118, 101, 114] : List UInt8) then (some true) else (if a0.toList = ([112, 97, 114, 116, 105, 116, 105, 111, 110] : List UInt8) then (some true) else (if a0.toList = ([112, 114, 105, 109, 97, 114, 121] : List UInt8) then (some true) else (if a0.toList = ([114, 101, 99, 117, 114, 115, 105, 118, 101] : List UInt8) then (some true) else (if a0.toList = ([114, 111, 108, 108, 98, 97, 99, 107] : List UInt8) then (some true) else (if a0.toList = ([115, 101, 108, 101, 99, 116] : List UInt8) then (some true) else (if a0.toList = ([115, 101, 116] : List UInt8) then (some true) else (if a0.toList = ([116, 97, 98, 108, 101] : List UInt8) then (some true) else (if a0.toList = ([116, 104, 101, 110] : List UInt8) then (some true) else (if a0.toList = ([116, 114, 117, 101] : List UInt8) then (some true) else (if a0.toList = ([117, 110, 105, 111, 110] : List UInt8) then (some true) else (if a0.toList = ([117, 110, 105, 113, 117, 101] : List UInt8) then (some true) else (if a0.toList = ([117, 112, 100, 97, 116, 101] : List UInt8) then (some true) else (if a0.toList = ([118, 97, 108, 117, 101, 115] : List UInt8) then (some true) else (if a0.toList = ([118, 105, 101, 119] : List UInt8) then (some true) else (if a0.toList = ([119, 104, 101, 110] : List UInt8) then (some true) else (if a0.toList = ([119, 104, 101, 114, 101] : List UInt8) then (some true) else (if a0.toList = ([119, 105, 116, 104] : List UInt8) then (some true) else (if a0.toList = ([97, 108, 116, 101, 114] : List UInt8) then (some true) else (if a0.toList = ([97, 100, 100] : List UInt8) then (some true) else (if a0.toList = ([99, 111, 108, 117, 109, 110] : List UInt8) then (some true) else (if a0.toList = ([108, 101, 118, 101, 108] : List UInt8) then (some true) else (if a0.toList = ([115, 101, 114, 105, 97, 108] : List UInt8) then (some true) else (if a0.toList = ([115, 110, 97, 112, 115, 104, 111, 116] : List UInt8) then (some true) else (if a0.toList = ([108, 97, 116, 101, 115, 116] : List UInt8) then (some true) else (some false))))))))))))))))))))))))))))))))))))))))))))))))))))))))))))))))))) = some r := h
 clear h
 by_cases c2 : a0.toList = ([97, 108, 108] : List UInt8)
 ·rw [if_pos c2] at H
  have c2b0 : (a0.toList == ([97, 108, 108] : List UInt8)) = true := beq_iff_eq.mpr c2; have c2b1 : (a0.toList != ([97, 108, 108] : List UInt8)) = false := bne_eq_false_iff_eq.mpr c2; clear c2; obtain rfl := Option.some.inj H
  go_enter Try.func65, Try.ntmps65
  go_wp2
  go_ret
  exact ⟨by first | rfl | (simp; done) | (simp [*]; done), by repeat (first | exact Drawn0.refl _ | apply Drawn0.step)⟩
 ·rw [if_neg c2] at H
  have c2b0 : (a0.toList == ([97, 108, 108] : List UInt8)) = false := beq_eq_false_iff_ne.mpr c2; have c2b1 : (a0.toList != ([97, 108, 108] : List UInt8)) = true := bne_iff_ne.mpr c2
  by_cases c3 : a0.toList = ([97, 110, 100] : List UInt8)
  ·rw [if_pos c3] at H
   have c3b0 : (a0.toList == ([97, 110, 100] : List UInt8)) = true := beq_iff_eq.mpr c3; have c3b1 : (a0.toList != ([97, 110, 100] : List UInt8)) = false := bne_eq_false_iff_eq.mpr c3; clear c3; obtain rfl := Option.some.inj H
   go_enter Try.func65, Try.ntmps65
   go_wp2
   go_ret
   exact ⟨by first | rfl | (simp; done) | (simp [*]; done), by repeat (first | exact Drawn0.refl _ | apply Drawn0.step)⟩
  ·rw [if_neg c3] at H
   have c3b0 : (a0.toList == ([97, 110, 100] : List UInt8)) = false := beq_eq_false_iff_ne.mpr c3; have c3b1 : (a0.toList != ([97, 110, 100] : List UInt8)) = true := bne_iff_ne.mpr c3
   by_cases c4 : a0.toList = ([97, 115] : List UInt8)
   ·rw [if_pos c4] at H
    have c4b0 : (a0.toList == ([97, 115] : List UInt8)) = true := beq_iff_eq.mpr c4; have c4b1 : (a0.toList != ([97, 115] : List UInt8)) = false := bne_eq_false_iff_eq.mpr c4; clear c4; obtain rfl := Option.some.inj H
    go_enter Try.func65, Try.ntmps65
    go_wp2
    go_ret
    exact ⟨by first | rfl | (simp; done) | (simp [*]; done), by repeat (first | exact Drawn0.refl _ | apply Drawn0.step)⟩
   ·rw [if_neg c4] at H
    have c4b0 : (a0.toList == ([97, 115] : List UInt8)) = false := beq_eq_false_iff_ne.mpr c4; have c4b1 : (a0.toList != ([97, 115] : List UInt8)) = true := bne_iff_ne.mpr c4
    by_cases c5 : a0.toList = ([97, 115, 99] : List UInt8)
    ·rw [if_pos c5] at H
     have c5b0 : (a0.toList == ([97, 115, 99] : List UInt8)) = true := beq_iff_eq.mpr c5; have c5b1 : (a0.toList != ([97, 115, 99] : List UInt8)) = false := bne_eq_false_iff_eq.mpr c5; clear c5; obtain rfl := Option.some.inj H
     go_enter Try.func65, Try.ntmps65
     go_wp2
     go_ret
     exact ⟨by first | rfl | (simp; done) | (simp [*]; done), by repeat (first | exact Drawn0.refl _ | apply Drawn0.step)⟩
    ·rw [if_neg c5] at H
     have c5b0 : (a0.toList == ([97, 115, 99] : List UInt8)) = false := beq_eq_false_iff_ne.mpr c5; have c5b1 : (a0.toList != ([97, 115, 99] : List UInt8)) = true := bne_iff_ne.mpr c5
     by_cases c6 : a0.toList = ([98, 101, 103, 105, 110] : List UInt8)
     ·rw [if_pos c6] at H
      have c6b0 : (a0.toList == ([98, 101, 103, 105, 110] : List UInt8)) = true := beq_iff_eq.mpr c6; have c6b1 : (a0.toList != ([98, 101, 103, 105, 110] : List UInt8)) = false := bne_eq_false_iff_eq.mpr c6; clear c6; obtain rfl := Option.some.inj H
      go_enter Try.func65, Try.ntmps65
      go_wp2
      go_ret
      exact ⟨by first | rfl | (simp; done) | (simp [*]; done), by repeat (first | exact Drawn0.refl _ | apply Drawn0.step)⟩
     ·rw [if_neg c6] at H
      have c6b0 : (a0.toList == ([98, 101, 103, 105, 110] : List UInt8)) = false := beq_eq_false_iff_ne.mpr c6; have c6b1 : (a0.toList != ([98, 101, 103, 105, 110] : List UInt8)) = true := bne_iff_ne.mpr c6
      by_cases c7 : a0.toList = ([98, 101, 116, 119, 101, 101, 110] : List UInt8)
      ·rw [if_pos c7] at H
       have c7b0 : (a0.toList == ([98, 101, 116, 119, 101, 101, 110] : List UInt8)) = true := beq_iff_eq.mpr c7; have c7b1 : (a0.toList != ([98, 101, 116, 119, 101, 101, 110] : List UInt8)) = false := bne_eq_false_iff_eq.mpr c7; clear c7; obtain rfl := Option.some.inj H
       go_enter Try.func65, Try.ntmps65
       go_wp2
       go_ret
       exact ⟨by first | rfl | (simp; done) | (simp [*]; done), by repeat (first | exact Drawn0.refl _ | apply Drawn0.step)⟩
      ·rw [if_neg c7] at H
       have c7b0 : (a0.toList == ([98, 101, 116, 119, 101, 101, 110] : List UInt8)) = false := beq_eq_false_iff_ne.mpr c7; have c7b1 : (a0.toList != ([98, 101, 116, 119, 101, 101, 110] : List UInt8)) = true := bne_iff_ne.mpr c7
       by_cases c8 : a0.toList = ([98, 121] : List UInt8)
       ·rw [if_pos c8] at H
        have c8b0 : (a0.toList == ([98, 121] : List UInt8)) = true := beq_iff_eq.mpr c8; have c8b1 : (a0.toList != ([98, 121] : List UInt8)) = false := bne_eq_false_iff_eq.mpr c8; clear c8; obtain rfl := Option.some.inj H
        go_enter Try.func65, Try.ntmps65
        go_wp2
        go_ret
        exact ⟨by first | rfl | (simp; done) | (simp [*]; done), by repeat (first | exact Drawn0.refl _ | apply Drawn0.step)⟩
       ·rw [if_neg c8] at H
        have c8b0 : (a0.toList == ([98, 121] : List UInt8)) = false := beq_eq_false_iff_ne.mpr c8; have c8b1 : (a0.toList != ([98, 121] : List UInt8)) = true := bne_iff_ne.mpr c8
        by_cases c9 : a0.toList = ([99, 97, 115, 101] : List UInt8)
        ·rw [if_pos c9] at H
         have c9b0 : (a0.toList == ([99, 97, 115, 101] : List UInt8)) = true := beq_iff_eq.mpr c9; have c9b1 : (a0.toList != ([99, 97, 115, 101] : List UInt8)) = false := bne_eq_false_iff_eq.mpr c9; clear c9; obtain rfl := Option.some.inj H
         go_enter Try.func65, Try.ntmps65
         go_wp2
         go_ret
         exact ⟨by first | rfl | (simp; done) | (simp [*]; done), by repeat (first | exact Drawn0.refl _ | apply Drawn0.step)⟩
        ·rw [if_neg c9] at H
         have c9b0 : (a0.toList == ([99, 97, 115, 101] : List UInt8)) = false := beq_eq_false_iff_ne.mpr c9; have c9b1 : (a0.toList != ([99, 97, 115, 101] : List UInt8)) = true := bne_iff_ne.mpr c9
         by_cases c10 : a0.toList = ([99, 97, 115, 116] : List UInt8)
         ·rw [if_pos c10] at H
          have c10b0 : (a0.toList == ([99, 97, 115, 116] : List UInt8)) = true := beq_iff_eq.mpr c10; have c10b1 : (a0.toList != ([99, 97, 115, 116] : List UInt8)) = false := bne_eq_false_iff_eq.mpr c10; clear c10; obtain rfl := Option.some.inj H
          go_enter Try.func65, Try.ntmps65
          go_wp2
          go_ret
          exact ⟨by first | rfl | (simp; done) | (simp [*]; done), by repeat (first | exact Drawn0.refl _ | apply Drawn0.step)⟩
         ·rw [if_neg c10] at H
          have c10b0 : (a0.toList == ([99, 97, 115, 116] : List UInt8)) = false := beq_eq_false_iff_ne.mpr c10; have c10b1 : (a0.toList != ([99, 97, 115, 116] : List UInt8)) = true := bne_iff_ne.mpr c10
          by_cases c11 : a0.toList = ([99, 111, 109, 109, 105, 116] : List UInt8)
          ·rw [if_pos c11] at H
           have c11b0 : (a0.toList == ([99, 111, 109, 109, 105, 116] : List UInt8)) = true := beq_iff_eq.mpr c11; have c11b1 : (a0.toList != ([99, 111, 109, 109, 105, 116] : List UInt8)) = false := bne_eq_false_iff_eq.mpr c11; clear c11; obtain rfl := Option.some.inj H
           go_enter Try.func65, Try.ntmps65
           go_wp2
           go_ret
           exact ⟨by first | rfl | (simp; done) | (simp [*]; done), by repeat (first | exact Drawn0.refl _ | apply Drawn0.step)⟩
          ·rw [if_neg c11] at H
           have c11b0 : (a0.toList == ([99, 111, 109, 109, 105, 116] : List UInt8)) = false := beq_eq_false_iff_ne.mpr c11; have c11b1 : (a0.toList != ([99, 111, 109, 109, 105, 116] : List UInt8)) = true := bne_iff_ne.mpr c11
           by_cases c12 : a0.toList = ([99, 114, 101, 97, 116, 101] : List UInt8)
           ·rw [if_pos c12] at H
            have c12b0 : (a0.toList == ([99, 114, 101, 97, 116, 101] : List UInt8)) = true := beq_iff_eq.mpr c12; have c12b1 : (a0.toList != ([99, 114, 101, 97, 116, 101] : List UInt8)) = false := bne_eq_false_iff_eq.mpr c12; clear c12; obtain rfl := Option.some.inj H
            go_enter Try.func65, Try.ntmps65
            go_wp2
            go_ret
            exact ⟨by first | rfl | (simp; done) | (simp [*]; done), by repeat (first | exact Drawn0.refl _ | apply Drawn0.step)⟩
           ·rw [if_neg c12] at H
            have c12b0 : (a0.toList == ([99, 114, 101, 97, 116, 101] : List UInt8)) = false := beq_eq_false_iff_ne.mpr c12; have c12b1 : (a0.toList != ([99, 114, 101, 97, 116, 101] : List UInt8)) = true := bne_iff_ne.mpr c12
            by_cases c13 : a0.toList = ([99, 114, 111, 115, 115] : List UInt8)
            ·rw [if_pos c13] at H
             have c13b0 : (a0.toList == ([99, 114, 111, 115, 115] : List UInt8)) = true := beq_iff_eq.mpr c13; have c13b1 : (a0.toList != ([99, 114, 111, 115, 115] : List UInt8)) = false := bne_eq_false_iff_eq.mpr c13; clear c13; obtain rfl := Option.some.inj H
             go_enter Try.func65, Try.ntmps65
             go_wp2
             go_ret
             exact ⟨by first | rfl | (simp; done) | (simp [*]; done), by repeat (first | exact Drawn0.refl _ | apply Drawn0.step)⟩
            ·rw [if_neg c13] at H
             have c13b0 : (a0.toList == ([99, 114, 111, 115, 115] : List UInt8)) = false := beq_eq_false_iff_ne.mpr c13; have c13b1 : (a0.toList != ([99, 114, 111, 115, 115] : List UInt8)) = true := bne_iff_ne.mpr c13
             by_cases c14 : a0.toList = ([100, 97, 121] : List UInt8)
             ·rw [if_pos c14] at H
              have c14b0 : (a0.toList == ([100, 97, 121] : List UInt8)) = true := beq_iff_eq.mpr c14; have c14b1 : (a0.toList != ([100, 97, 121] : List UInt8)) = false := bne_eq_false_iff_eq.mpr c14; clear c14; obtain rfl := Option.some.inj H
              go_enter Try.func65, Try.ntmps65
              go_wp2
              go_ret
              exact ⟨by first | rfl | (simp; done) | (simp [*]; done), by repeat (first | exact Drawn0.refl _ | apply Drawn0.step)⟩
             ·rw [if_neg c14] at H
              have c14b0 : (a0.toList == ([100, 97, 121] : List UInt8)) = false := beq_eq_false_iff_ne.mpr c14; have c14b1 : (a0.toList != ([100, 97, 121] : List UInt8)) = true := bne_iff_ne.mpr c14
              by_cases c15 : a0.toList = ([100, 101, 108, 101, 116, 101] : List UInt8)
              ·rw [if_pos c15] at H
               have c15b0 : (a0.toList == ([100, 101, 108, 101, 116, 101] : List UInt8)) = true := beq_iff_eq.mpr c15; have c15b1 : (a0.toList != ([100, 101, 108, 101, 116, 101] : List UInt8)) = false := bne_eq_false_iff_eq.mpr c15; clear c15; obtain rfl := Option.some.inj H
               go_enter Try.func65, Try.ntmps65
               go_wp2
               go_ret
               exact ⟨by first | rfl | (simp; done) | (simp [*]; done), by repeat (first | exact Drawn0.refl _ | apply Drawn0.step)⟩
              ·rw [if_neg c15] at H
               have c15b0 : (a0.toList == ([100, 101, 108, 101, 116, 101] : List UInt8)) = false := beq_eq_false_iff_ne.mpr c15; have c15b1 : (a0.toList != ([100, 101, 108, 101, 116, 101] : List UInt8)) = true := bne_iff_ne.mpr c15
               by_cases c16 : a0.toList = ([100, 101, 115, 99] : List UInt8)
               ·rw [if_pos c16] at H
                have c16b0 : (a0.toList == ([100, 101, 115, 99] : List UInt8)) = true := beq_iff_eq.mpr c16; have c16b1 : (a0.toList != ([100, 101, 115, 99] : List UInt8)) = false := bne_eq_false_iff_eq.mpr c16; clear c16; obtain rfl := Option.some.inj H
                go_enter Try.func65, Try.ntmps65
                go_wp2
                go_ret
                exact ⟨by first | rfl | (simp; done) | (simp [*]; done), by repeat (first | exact Drawn0.refl _ | apply Drawn0.step)⟩
               ·rw [if_neg c16] at H
                have c16b0 : (a0.toList == ([100, 101, 115, 99] : List UInt8)) = false := beq_eq_false_iff_ne.mpr c16; have c16b1 : (a0.toList != ([100, 101, 115, 99] : List UInt8)) = true := bne_iff_ne.mpr c16
                by_cases c17 : a0.toList = ([100, 105, 115, 116, 105, 110, 99, 116] : List UInt8)
                ·rw [if_pos c17] at H
                 have c17b0 : (a0.toList == ([100, 105, 115, 116, 105, 110, 99, 116] : List UInt8)) = true := beq_iff_eq.mpr c17; have c17b1 : (a0.toList != ([100, 105, 115, 116, 105, 110, 99, 116] : List UInt8)) = false := bne_eq_false_iff_eq.mpr c17; clear c17; obtain rfl := Option.some.inj H
                 go_enter Try.func65, Try.ntmps65
                 go_wp2
                 go_ret
                 exact ⟨by first | rfl | (simp; done) | (simp [*]; done), by repeat (first | exact Drawn0.refl _ | apply Drawn0.step)⟩
                ·rw [if_neg c17] at H
                 have c17b0 : (a0.toList == ([100, 105, 115, 116, 105, 110, 99, 116] : List UInt8)) = false := beq_eq_false_iff_ne.mpr c17; have c17b1 : (a0.toList != ([100, 105, 115, 116, 105, 110, 99, 116] : List UInt8)) = true := bne_iff_ne.mpr c17
                 by_cases c18 : a0.toList = ([100, 114, 111, 112] : List UInt8)
                 ·rw [if_pos c18] at H
                  have c18b0 : (a0.toList == ([100, 114, 111, 112] : List UInt8)) = true := beq_iff_eq.mpr c18; have c18b1 : (a0.toList != ([100, 114, 111, 112] : List UInt8)) = false := bne_eq_false_iff_eq.mpr c18; clear c18; obtain rfl := Option.some.inj H
                  go_enter Try.func65, Try.ntmps65
                  go_wp2
                  go_ret
                  exact ⟨by first | rfl | (simp; done) | (simp [*]; done), by repeat (first | exact Drawn0.refl _ | apply Drawn0.step)⟩
                 ·rw [if_neg c18] at H
                  have c18b0 : (a0.toList == ([100, 114, 111, 112] : List UInt8)) = false := beq_eq_false_iff_ne.mpr c18; have c18b1 : (a0.toList != ([100, 114, 111, 112] : List UInt8)) = true := bne_iff_ne.mpr c18
                  by_cases c19 : a0.toList = ([101, 108, 115, 101] : List UInt8)
                  ·rw [if_pos c19] at H
                   have c19b0 : (a0.toList == ([101, 108, 115, 101] : List UInt8)) = true := beq_iff_eq.mpr c19; have c19b1 : (a0.toList != ([101, 108, 115, 101] : List UInt8)) = false := bne_eq_false_iff_eq.mpr c19; clear c19; obtain rfl := Option.some.inj H
                   go_enter Try.func65, Try.ntmps65
                   go_wp2
                   go_ret
                   exact ⟨by first | rfl | (simp; done) | (simp [*]; done), by repeat (first | exact Drawn0.refl _ | apply Drawn0.step)⟩
                  ·rw [if_neg c19] at H
                   have c19b0 : (a0.toList == ([101, 108, 115, 101] : List UInt8)) = false := beq_eq_false_iff_ne.mpr c19; have c19b1 : (a0.toList != ([101, 108, 115, 101] : List UInt8)) = true := bne_iff_ne.mpr c19
                   by_cases c20 : a0.toList = ([101, 110, 100] : List UInt8)
                   ·rw [if_pos c20] at H
                    have c20b0 : (a0.toList == ([101, 110, 100] : List UInt8)) = true := beq_iff_eq.mpr c20; have c20b1 : (a0.toList != ([101, 110, 100] : List UInt8)) = false := bne_eq_false_iff_eq.mpr c20; clear c20; obtain rfl := Option.some.inj H
                    go_enter Try.func65, Try.ntmps65
                    go_wp2
                    go_ret
                    exact ⟨by first | rfl | (simp; done) | (simp [*]; done), by repeat (first | exact Drawn0.refl _ | apply Drawn0.step)⟩
                   ·rw [if_neg c20] at H
                    have c20b0 : (a0.toList == ([101, 110, 100] : List UInt8)) = false := beq_eq_false_iff_ne.mpr c20; have c20b1 : (a0.toList != ([101, 110, 100] : List UInt8)) = true := bne_iff_ne.mpr c20
                    by_cases c21 : a0.toList = ([101, 120, 99, 101, 112, 116] : List UInt8)
                    ·rw [if_pos c21] at H
                     have c21b0 : (a0.toList == ([101, 120, 99, 101, 112, 116] : List UInt8)) = true := beq_iff_eq.mpr c21; have c21b1 : (a0.toList != ([101, 120, 99, 101, 112, 116] : List UInt8)) = false := bne_eq_false_iff_eq.mpr c21; clear c21; obtain rfl := Option.some.inj H
                     go_enter Try.func65, Try.ntmps65
                     go_wp2
                     go_ret
                     exact ⟨by first | rfl | (simp; done) | (simp [*]; done), by repeat (first | exact Drawn0.refl _ | apply Drawn0.step)⟩
                    ·rw [if_neg c21] at H
                     have c21b0 : (a0.toList == ([101, 120, 99, 101, 112, 116] : List UInt8)) = false := beq_eq_false_iff_ne.mpr c21; have c21b1 : (a0.toList != ([101, 120, 99, 101, 112, 116] : List UInt8)) = true := bne_iff_ne.mpr c21
                     by_cases c22 : a0.toList = ([101, 120, 105, 115, 116, 115] : List UInt8)
                     ·rw [if_pos c22] at H
                      have c22b0 : (a0.toList == ([101, 120, 105, 115, 116, 115] : List UInt8)) = true := beq_iff_eq.mpr c22; have c22b1 : (a0.toList != ([101, 120, 105, 115, 116, 115] : List UInt8)) = false := bne_eq_false_iff_eq.mpr c22; clear c22; obtain rfl := Option.some.inj H
                      go_enter Try.func65, Try.ntmps65
                      go_wp2
                      go_ret
                      exact ⟨by first | rfl | (simp; done) | (simp [*]; done), by repeat (first | exact Drawn0.refl _ | apply Drawn0.step)⟩
                     ·rw [if_neg c22] at H
                      have c22b0 : (a0.toList == ([101, 120, 105, 115, 116, 115] : List UInt8)) = false := beq_eq_false_iff_ne.mpr c22; have c22b1 : (a0.toList != ([101, 120, 105, 115, 116, 115] : List UInt8)) = true := bne_iff_ne.mpr c22
                      by_cases c23 : a0.toList = ([101, 120, 112, 108, 97, 105, 110] : List UInt8)
                      ·rw [if_pos c23] at H
                       have c23b0 : (a0.toList == ([101, 120, 112, 108, 97, 105, 110] : List UInt8)) = true := beq_iff_eq.mpr c23; have c23b1 : (a0.toList != ([101, 120, 112, 108, 97, 105, 110] : List UInt8)) = false := bne_eq_false_iff_eq.mpr c23; clear c23; obtain rfl := Option.some.inj H
                       go_enter Try.func65, Try.ntmps65
                       go_wp2
                       go_ret
                       exact ⟨by first | rfl | (simp; done) | (simp [*]; done), by repeat (first | exact Drawn0.refl _ | apply Drawn0.step)⟩
                      ·rw [if_neg c23] at H
                       have c23b0 : (a0.toList == ([101, 120, 112, 108, 97, 105, 110] : List UInt8)) = false := beq_eq_false_iff_ne.mpr c23; have c23b1 : (a0.toList != ([101, 120, 112, 108, 97, 105, 110] : List UInt8)) = true := bne_iff_ne.mpr c23
                       by_cases c24 : a0.toList = ([102, 97, 108, 115, 101] : List UInt8)
                       ·rw [if_pos c24] at H
                        have c24b0 : (a0.toList == ([102, 97, 108, 115, 101] : List UInt8)) = true := beq_iff_eq.mpr c24; have c24b1 : (a0.toList != ([102, 97, 108, 115, 101] : List UInt8)) = false := bne_eq_false_iff_eq.mpr c24; clear c24; obtain rfl := Option.some.inj H
                        go_enter Try.func65, Try.ntmps65
                        go_wp2
                        go_ret
                        exact ⟨by first | rfl | (simp; done) | (simp [*]; done), by repeat (first | exact Drawn0.refl _ | apply Drawn0.step)⟩
                       ·rw [if_neg c24] at H
                        have c24b0 : (a0.toList == ([102, 97, 108, 115, 101] : List UInt8)) = false := beq_eq_false_iff_ne.mpr c24; have c24b1 : (a0.toList != ([102, 97, 108, 115, 101] : List UInt8)) = true := bne_iff_ne.mpr c24
                        by_cases c25 : a0.toList = ([102, 114, 111, 109] : List UInt8)
                        ·rw [if_pos c25] at H
                         have c25b0 : (a0.toList == ([102, 114, 111, 109] : List UInt8)) = true := beq_iff_eq.mpr c25; have c25b1 : (a0.toList != ([102, 114, 111, 109] : List UInt8)) = false := bne_eq_false_iff_eq.mpr c25; clear c25; obtain rfl := Option.some.inj H
                         go_enter Try.func65, Try.ntmps65
                         go_wp2
                         go_ret
                         exact ⟨by first | rfl | (simp; done) | (simp [*]; done), by repeat (first | exact Drawn0.refl _ | apply Drawn0.step)⟩
                        ·rw [if_neg c25] at H
                         have c25b0 : (a0.toList == ([102, 114, 111, 109] : List UInt8)) = false := beq_eq_false_iff_ne.mpr c25; have c25b1 : (a0.toList != ([102, 114, 111, 109] : List UInt8)) = true := bne_iff_ne.mpr c25
                         by_cases c26 : a0.toList = ([103, 114, 111, 117, 112] : List UInt8)
                         ·rw [if_pos c26] at H
                          have c26b0 : (a0.toList == ([103, 114, 111, 117, 112] : List UInt8)) = true := beq_iff_eq.mpr c26; have c26b1 : (a0.toList != ([103, 114, 111, 117, 112] : List UInt8)) = false := bne_eq_false_iff_eq.mpr c26; clear c26; obtain rfl := Option.some.inj H
                          go_enter Try.func65, Try.ntmps65
                          go_wp2
                          go_ret
                          exact ⟨by first | rfl | (simp; done) | (simp [*]; done), by repeat (first | exact Drawn0.refl _ | apply Drawn0.step)⟩
                         ·rw [if_neg c26] at H
                          have c26b0 : (a0.toList == ([103, 114, 111, 117, 112] : List UInt8)) = false := beq_eq_false_iff_ne.mpr c26; have c26b1 : (a0.toList != ([103, 114, 111, 117, 112] : List UInt8)) = true := bne_iff_ne.mpr c26
                          by_cases c27 : a0.toList = ([104, 97, 118, 105, 110, 103] : List UInt8)
                          ·rw [if_pos c27] at H
                           have c27b0 : (a0.toList == ([104, 97, 118, 105, 110, 103] : List UInt8)) = true := beq_iff_eq.mpr c27; have c27b1 : (a0.toList != ([104, 97, 118, 105, 110, 103] : List UInt8)) = false := bne_eq_false_iff_eq.mpr c27; clear c27; obtain rfl := Option.some.inj H
                           go_enter Try.func65, Try.ntmps65
                           go_wp2
                           go_ret
                           exact ⟨by first | rfl | (simp; done) | (simp [*]; done), by repeat (first | exact Drawn0.refl _ | apply Drawn0.step)⟩
                          ·rw [if_neg c27] at H
                           have c27b0 : (a0.toList == ([104, 97, 118, 105, 110, 103] : List UInt8)) = false := beq_eq_false_iff_ne.mpr c27; have c27b1 : (a0.toList != ([104, 97, 118, 105, 110, 103] : List UInt8)) = true := bne_iff_ne.mpr c27
                           by_cases c28 : a0.toList = ([105, 110] : List UInt8)
                           ·rw [if_pos c28] at H
                            have c28b0 : (a0.toList == ([105, 110] : List UInt8)) = true := beq_iff_eq.mpr c28; have c28b1 : (a0.toList != ([105, 110] : List UInt8)) = false := bne_eq_false_iff_eq.mpr c28; clear c28; obtain rfl := Option.some.inj H
                            go_enter Try.func65, Try.ntmps65
                            go_wp2
                            go_ret
                            exact ⟨by first | rfl | (simp; done) | (simp [*]; done), by repeat (first | exact Drawn0.refl _ | apply Drawn0.step)⟩
                           ·rw [if_neg c28] at H
                            have c28b0 : (a0.toList == ([105, 110] : List UInt8)) = false := beq_eq_false_iff_ne.mpr c28; have c28b1 : (a0.toList != ([105, 110] : List UInt8)) = true := bne_iff_ne.mpr c28
                            by_cases c29 : a0.toList = ([105, 110, 100, 101, 120] : List UInt8)
                            ·rw [if_pos c29] at H
                             have c29b0 : (a0.toList == ([105, 110, 100, 101, 120] : List UInt8)) = true := beq_iff_eq.mpr c29; have c29b1 : (a0.toList != ([105, 110, 100, 101, 120] : List UInt8)) = false := bne_eq_false_iff_eq.mpr c29; clear c29; obtain rfl := Option.some.inj H
                             go_enter Try.func65, Try.ntmps65
                             go_wp2
                             go_ret
                             exact ⟨by first | rfl | (simp; done) | (simp [*]; done), by repeat (first | exact Drawn0.refl _ | apply Drawn0.step)⟩
                            ·rw [if_neg c29] at H
                             have c29b0 : (a0.toList == ([105, 110, 100, 101, 120] : List UInt8)) = false := beq_eq_false_iff_ne.mpr c29; have c29b1 : (a0.toList != ([105, 110, 100, 101, 120] : List UInt8)) = true := bne_iff_ne.mpr c29
                             by_cases c30 : a0.toList = ([105, 110, 115, 101, 114, 116] : List UInt8)
                             ·rw [if_pos c30] at H
                              have c30b0 : (a0.toList == ([105, 110, 115, 101, 114, 116] : List UInt8)) = true := beq_iff_eq.mpr c30; have c30b1 : (a0.toList != ([105, 110, 115, 101, 114, 116] : List UInt8)) = false := bne_eq_false_iff_eq.mpr c30; clear c30; obtain rfl := Option.some.inj H
                              go_enter Try.func65, Try.ntmps65
                              go_wp2
                              go_ret
                              exact ⟨by first | rfl | (simp; done) | (simp [*]; done), by repeat (first | exact Drawn0.refl _ | apply Drawn0.step)⟩
                             ·rw [if_neg c30] at H
                              have c30b0 : (a0.toList == ([105, 110, 115, 101, 114, 116] : List UInt8)) = false := beq_eq_false_iff_ne.mpr c30; have c30b1 : (a0.toList != ([105, 110, 115, 101, 114, 116] : List UInt8)) = true := bne_iff_ne.mpr c30
                              by_cases c31 : a0.toList = ([105, 110, 116, 101, 114, 115, 101, 99, 116] : List UInt8)
                              ·rw [if_pos c31] at H
                               have c31b0 : (a0.toList == ([105, 110, 116, 101, 114, 115, 101, 99, 116] : List UInt8)) = true := beq_iff_eq.mpr c31; have c31b1 : (a0.toList != ([105, 110, 116, 101, 114, 115, 101, 99, 116] : List UInt8)) = false := bne_eq_false_iff_eq.mpr c31; clear c31; obtain rfl := Option.some.inj H
                               go_enter Try.func65, Try.ntmps65
                               go_wp2
                               go_ret
                               exact ⟨by first | rfl | (simp; done) | (simp [*]; done), by repeat (first | exact Drawn0.refl _ | apply Drawn0.step)⟩
                              ·rw [if_neg c31] at H
                               have c31b0 : (a0.toList == ([105, 110, 116, 101, 114, 115, 101, 99, 116] : List UInt8)) = false := beq_eq_false_iff_ne.mpr c31; have c31b1 : (a0.toList != ([105, 110, 116, 101, 114, 115, 101, 99, 116] : List UInt8)) = true := bne_iff_ne.mpr c31
                               by_cases c32 : a0.toList = ([105, 110, 116, 111] : List UInt8)
                               ·rw [if_pos c32] at H
                                have c32b0 : (a0.toList == ([105, 110, 116, 111] : List UInt8)) = true := beq_iff_eq.mpr c32; have c32b1 : (a0.toList != ([105, 110, 116, 111] : List UInt8)) = false := bne_eq_false_iff_eq.mpr c32; clear c32; obtain rfl := Option.some.inj H
                                go_enter Try.func65, Try.ntmps65
                                go_wp2
                                go_ret
                                exact ⟨by first | rfl | (simp; done) | (simp [*]; done), by repeat (first | exact Drawn0.refl _ | apply Drawn0.step)⟩
                               ·rw [if_neg c32] at H
                                have c32b0 : (a0.toList == ([105, 110, 116, 111] : List UInt8)) = false := beq_eq_false_iff_ne.mpr c32; have c32b1 : (a0.toList != ([105, 110, 116, 111] : List UInt8)) = true := bne_iff_ne.mpr c32
                                by_cases c33 : a0.toList = ([105, 115] : List UInt8)
                                ·rw [if_pos c33] at H
                                 have c33b0 : (a0.toList == ([105, 115] : List UInt8)) = true := beq_iff_eq.mpr c33; have c33b1 : (a0.toList != ([105, 115] : List UInt8)) = false := bne_eq_false_iff_eq.mpr c33; clear c33; obtain rfl := Option.some.inj H
                                 go_enter Try.func65, Try.ntmps65
                                 go_wp2
                                 go_ret
                                 exact ⟨by first | rfl | (simp; done) | (simp [*]; done), by repeat (first | exact Drawn0.refl _ | apply Drawn0.step)⟩
                                ·rw [if_neg c33] at H
                                 have c33b0 : (a0.toList == ([105, 115] : List UInt8)) = false := beq_eq_false_iff_ne.mpr c33; have c33b1 : (a0.toList != ([105, 115] : List UInt8)) = true := bne_iff_ne.mpr c33
                                 by_cases c34 : a0.toList = ([106, 111, 105, 110] : List UInt8)
                                 ·rw [if_pos c34] at H
                                  have c34b0 : (a0.toList == ([106, 111, 105, 110] : List UInt8)) = true := beq_iff_eq.mpr c34; have c34b1 : (a0.toList != ([106, 111, 105, 110] : List UInt8)) = false := bne_eq_false_iff_eq.mpr c34; clear c34; obtain rfl := Option.some.inj H
                                  go_enter Try.func65, Try.ntmps65
                                  go_wp2
                                  go_ret
                                  exact ⟨by first | rfl | (simp; done) | (simp [*]; done), by repeat (first | exact Drawn0.refl _ | apply Drawn0.step)⟩
                                 ·rw [if_neg c34] at H
                                  have c34b0 : (a0.toList == ([106, 111, 105, 110] : List UInt8)) = false := beq_eq_false_iff_ne.mpr c34; have c34b1 : (a0.toList != ([106, 111, 105, 110] : List UInt8)) = true := bne_iff_ne.mpr c34
                                  by_cases c35 : a0.toList = ([107, 101, 121] : List UInt8)
                                  ·rw [if_pos c35] at H
                                   have c35b0 : (a0.toList == ([107, 101, 121] : List UInt8)) = true := beq_iff_eq.mpr c35; have c35b1 : (a0.toList != ([107, 101, 121] : List UInt8)) = false := bne_eq_false_iff_eq.mpr c35; clear c35; obtain rfl := Option.some.inj H
                                   go_enter Try.func65, Try.ntmps65
                                   go_wp2
                                   go_ret
                                   exact ⟨by first | rfl | (simp; done) | (simp [*]; done), by repeat (first | exact Drawn0.refl _ | apply Drawn0.step)⟩
                                  ·rw [if_neg c35] at H
                                   have c35b0 : (a0.toList == ([107, 101, 121] : List UInt8)) = false := beq_eq_false_iff_ne.mpr c35; have c35b1 : (a0.toList != ([107, 101, 121] : List UInt8)) = true := bne_iff_ne.mpr c35
                                   by_cases c36 : a0.toList = ([108, 101, 102, 116] : List UInt8)
                                   ·rw [if_pos c36] at H
                                    have c36b0 : (a0.toList == ([108, 101, 102, 116] : List UInt8)) = true := beq_iff_eq.mpr c36; have c36b1 : (a0.toList != ([108, 101, 102, 116] : List UInt8)) = false := bne_eq_false_iff_eq.mpr c36; clear c36; obtain rfl := Option.some.inj H
                                    go_enter Try.func65, Try.ntmps65
                                    go_wp2
                                    go_ret
                                    exact ⟨by first | rfl | (simp; done) | (simp [*]; done), by repeat (first | exact Drawn0.refl _ | apply Drawn0.step)⟩
                                   ·rw [if_neg c36] at H
                                    have c36b0 : (a0.toList == ([108, 101, 102, 116] : List UInt8)) = false := beq_eq_false_iff_ne.mpr c36; have c36b1 : (a0.toList != ([108, 101, 102, 116] : List UInt8)) = true := bne_iff_ne.mpr c36
                                    by_cases c37 : a0.toList = ([108, 105, 109, 105, 116] : List UInt8)
                                    ·rw [if_pos c37] at H
                                     have c37b0 : (a0.toList == ([108, 105, 109, 105, 116] : List UInt8)) = true := beq_iff_eq.mpr c37; have c37b1 : (a0.toList != ([108, 105, 109, 105, 116] : List UInt8)) = false := bne_eq_false_iff_eq.mpr c37; clear c37; obtain rfl := Option.some.inj H
                                     go_enter Try.func65, Try.ntmps65
                                     go_wp2
                                     go_ret
                                     exact ⟨by first | rfl | (simp; done) | (simp [*]; done), by repeat (first | exact Drawn0.refl _ | apply Drawn0.step)⟩
                                    ·rw [if_neg c37] at H
                                     have c37b0 : (a0.toList == ([108, 105, 109, 105, 116] : List UInt8)) = false := beq_eq_false_iff_ne.mpr c37; have c37b1 : (a0.toList != ([108, 105, 109, 105, 116] : List UInt8)) = true := bne_iff_ne.mpr c37
                                     by_cases c38 : a0.toList = ([110, 111, 116] : List UInt8)
                                     ·rw [if_pos c38] at H
                                      have c38b0 : (a0.toList == ([110, 111, 116] : List UInt8)) = true := beq_iff_eq.mpr c38; have c38b1 : (a0.toList != ([110, 111, 116] : List UInt8)) = false := bne_eq_false_iff_eq.mpr c38; clear c38; obtain rfl := Option.some.inj H
                                      go_enter Try.func65, Try.ntmps65
                                      go_wp2
                                      go_ret
                                      exact ⟨by first | rfl | (simp; done) | (simp [*]; done), by repeat (first | exact Drawn0.refl _ | apply Drawn0.step)⟩
                                     ·rw [if_neg c38] at H
                                      have c38b0 : (a0.toList == ([110, 111, 116] : List UInt8)) = false := beq_eq_false_iff_ne.mpr c38; have c38b1 : (a0.toList != ([110, 111, 116] : List UInt8)) = true := bne_iff_ne.mpr c38
                                      by_cases c39 : a0.toList = ([110, 117, 108, 108] : List UInt8)
                                      ·rw [if_pos c39] at H
                                       have c39b0 : (a0.toList == ([110, 117, 108, 108] : List UInt8)) = true := beq_iff_eq.mpr c39; have c39b1 : (a0.toList != ([110, 117, 108, 108] : List UInt8)) = false := bne_eq_false_iff_eq.mpr c39; clear c39; obtain rfl := Option.some.inj H
                                       go_enter Try.func65, Try.ntmps65
                                       go_wp2
                                       go_ret
                                       exact ⟨by first | rfl | (simp; done) | (simp [*]; done), by repeat (first | exact Drawn0.refl _ | apply Drawn0.step)⟩
                                      ·rw [if_neg c39] at H
                                       have c39b0 : (a0.toList == ([110, 117, 108, 108] : List UInt8)) = false := beq_eq_false_iff_ne.mpr c39; have c39b1 : (a0.toList != ([110, 117, 108, 108] : List UInt8)) = true := bne_iff_ne.mpr c39
                                       by_cases c40 : a0.toList = ([111, 110] : List UInt8)
                                       ·rw [if_pos c40] at H
                                        have c40b0 : (a0.toList == ([111, 110] : List UInt8)) = true := beq_iff_eq.mpr c40; have c40b1 : (a0.toList != ([111, 110] : List UInt8)) = false := bne_eq_false_iff_eq.mpr c40; clear c40; obtain rfl := Option.some.inj H
                                        go_enter Try.func65, Try.ntmps65
                                        go_wp2
                                        go_ret
                                        exact ⟨by first | rfl | (simp; done) | (simp [*]; done), by repeat (first | exact Drawn0.refl _ | apply Drawn0.step)⟩
                                       ·rw [if_neg c40] at H
                                        have c40b0 : (a0.toList == ([111, 110] : List UInt8)) = false := beq_eq_false_iff_ne.mpr c40; have c40b1 : (a0.toList != ([111, 110] : List UInt8)) = true := bne_iff_ne.mpr c40
                                        by_cases c41 : a0.toList = ([111, 114] : List UInt8)
                                        ·rw [if_pos c41] at H
                                         have c41b0 : (a0.toList == ([111, 114] : List UInt8)) = true := beq_iff_eq.mpr c41; have c41b1 : (a0.toList != ([111, 114] : List UInt8)) = false := bne_eq_false_iff_eq.mpr c41; clear c41; obtain rfl := Option.some.inj H
                                         go_enter Try.func65, Try.ntmps65
                                         go_wp2
                                         go_ret
                                         exact ⟨by first | rfl | (simp; done) | (simp [*]; done), by repeat (first | exact Drawn0.refl _ | apply Drawn0.step)⟩
                                        ·rw [if_neg c41] at H
                                         have c41b0 : (a0.toList == ([111, 114] : List UInt8)) = false := beq_eq_false_iff_ne.mpr c41; have c41b1 : (a0.toList != ([111, 114] : List UInt8)) = true := bne_iff_ne.mpr c41
                                         by_cases c42 : a0.toList = ([111, 114, 100, 101, 114] : List UInt8)
                                         ·rw [if_pos c42] at H
                                          have c42b0 : (a0.toList == ([111, 114, 100, 101, 114] : List UInt8)) = true := beq_iff_eq.mpr c42; have c42b1 : (a0.toList != ([111, 114, 100, 101, 114] : List UInt8)) = false := bne_eq_false_iff_eq.mpr c42; clear c42; obtain rfl := Option.some.inj H
                                          go_enter Try.func65, Try.ntmps65
                                          go_wp2
                                          go_ret
                                          exact ⟨by first | rfl | (simp; done) | (simp [*]; done), by repeat (first | exact Drawn0.refl _ | apply Drawn0.step)⟩
                                         ·rw [if_neg c42] at H
                                          have c42b0 : (a0.toList == ([111, 114, 100, 101, 114] : List UInt8)) = false := beq_eq_false_iff_ne.mpr c42; have c42b1 : (a0.toList != ([111, 114, 100, 101, 114] : List UInt8)) = true := bne_iff_ne.mpr c42
                                          by_cases c43 : a0.toList = ([111, 118, 101, 114] : List UInt8)
                                          ·rw [if_pos c43] at H
                                           have c43b0 : (a0.toList == ([111, 118, 101, 114] : List UInt8)) = true := beq_iff_eq.mpr c43; have c43b1 : (a0.toList != ([111, 118, 101, 114] : List UInt8)) = false := bne_eq_false_iff_eq.mpr c43; clear c43; obtain rfl := Option.some.inj H
                                           go_enter Try.func65, Try.ntmps65
                                           go_wp2
                                           go_ret
                                           exact ⟨by first | rfl | (simp; done) | (simp [*]; done), by repeat (first | exact Drawn0.refl _ | apply Drawn0.step)⟩
                                          ·rw [if_neg c43] at H
                                           have c43b0 : (a0.toList == ([111, 118, 101, 114] : List UInt8)) = false := beq_eq_false_iff_ne.mpr c43; have c43b1 : (a0.toList != ([111, 118, 101, 114] : List UInt8)) = true := bne_iff_ne.mpr c43
                                           by_cases c44 : a0.toList = ([112, 97, 114, 116, 105, 116, 105, 111, 110] : List UInt8)
                                           ·rw [if_pos c44] at H
                                            have c44b0 : (a0.toList == ([112, 97, 114, 116, 105, 116, 105, 111, 110] : List UInt8)) = true := beq_iff_eq.mpr c44; have c44b1 : (a0.toList != ([112, 97, 114, 116, 105, 116, 105, 111, 110] : List UInt8)) = false := bne_eq_false_iff_eq.mpr c44; clear c44; obtain rfl := Option.some.inj H
                                            go_enter Try.func65, Try.ntmps65
                                            go_wp2
                                            go_ret
                                            exact ⟨by first | rfl | (simp; done) | (simp [*]; done), by repeat (first | exact Drawn0.refl _ | apply Drawn0.step)⟩
                                           ·rw [if_neg c44] at H
                                            have c44b0 : (a0.toList == ([112, 97, 114, 116, 105, 116, 105, 111, 110] : List UInt8)) = false := beq_eq_false_iff_ne.mpr c44; have c44b1 : (a0.toList != ([112, 97, 114, 116, 105, 116, 105, 111, 110] : List UInt8)) = true := bne_iff_ne.mpr c44
                                            by_cases c45 : a0.toList = ([112, 114, 105, 109, 97, 114, 121] : List UInt8)
                                            ·rw [if_pos c45] at H
                                             have c45b0 : (a0.toList == ([112, 114, 105, 109, 97, 114, 121] : List UInt8)) = true := beq_iff_eq.mpr c45; have c45b1 : (a0.toList != ([112, 114, 105, 109, 97, 114, 121] : List UInt8)) = false := bne_eq_false_iff_eq.mpr c45; clear c45; obtain rfl := Option.some.inj H
                                             go_enter Try.func65, Try.ntmps65
                                             go_wp2
                                             go_ret
                                             exact ⟨by first | rfl | (simp; done) | (simp [*]; done), by repeat (first | exact Drawn0.refl _ | apply Drawn0.step)⟩
                                            ·rw [if_neg c45] at H
                                             have c45b0 : (a0.toList == ([112, 114, 105, 109, 97, 114, 121] : List UInt8)) = false := beq_eq_false_iff_ne.mpr c45; have c45b1 : (a0.toList != ([112, 114, 105, 109, 97, 114, 121] : List UInt8)) = true := bne_iff_ne.mpr c45
                                             by_cases c46 : a0.toList = ([114, 101, 99, 117, 114, 115, 105, 118, 101] : List UInt8)
                                             ·rw [if_pos c46] at H
                                              have c46b0 : (a0.toList == ([114, 101, 99, 117, 114, 115, 105, 118, 101] : List UInt8)) = true := beq_iff_eq.mpr c46; have c46b1 : (a0.toList != ([114, 101, 99, 117, 114, 115, 105, 118, 101] : List UInt8)) = false := bne_eq_false_iff_eq.mpr c46; clear c46; obtain rfl := Option.some.inj H
                                              go_enter Try.func65, Try.ntmps65
                                              go_wp2
                                              go_ret
                                              exact ⟨by first | rfl | (simp; done) | (simp [*]; done), by repeat (first | exact Drawn0.refl _ | apply Drawn0.step)⟩
                                             ·rw [if_neg c46] at H
                                              have c46b0 : (a0.toList == ([114, 101, 99, 117, 114, 115, 105, 118, 101] : List UInt8)) = false := beq_eq_false_iff_ne.mpr c46; have c46b1 : (a0.toList != ([114, 101, 99, 117, 114, 115, 105, 118, 101] : List UInt8)) = true := bne_iff_ne.mpr c46
                                              by_cases c47 : a0.toList = ([114, 111, 108, 108, 98, 97, 99, 107] : List UInt8)
                                              ·rw [if_pos c47] at H
                                               have c47b0 : (a0.toList == ([114, 111, 108, 108, 98, 97, 99, 107] : List UInt8)) = true := beq_iff_eq.mpr c47; have c47b1 : (a0.toList != ([114, 111, 108, 108, 98, 97, 99, 107] : List UInt8)) = false := bne_eq_false_iff_eq.mpr c47; clear c47; obtain rfl := Option.some.inj H
                                               go_enter Try.func65, Try.ntmps65
                                               go_wp2
                                               go_ret
                                               exact ⟨by first | rfl | (simp; done) | (simp [*]; done), by repeat (first | exact Drawn0.refl _ | apply Drawn0.step)⟩
                                              ·rw [if_neg c47] at H
                                               have c47b0 : (a0.toList == ([114, 111, 108, 108, 98, 97, 99, 107] : List UInt8)) = false := beq_eq_false_iff_ne.mpr c47; have c47b1 : (a0.toList != ([114, 111, 108, 108, 98, 97, 99, 107] : List UInt8)) = true := bne_iff_ne.mpr c47
                                               by_cases c48 : a0.toList = ([115, 101, 108, 101, 99, 116] : List UInt8)
                                               ·rw [if_pos c48] at H
                                                have c48b0 : (a0.toList == ([115, 101, 108, 101, 99, 116] : List UInt8)) = true := beq_iff_eq.mpr c48; have c48b1 : (a0.toList != ([115, 101, 108, 101, 99, 116] : List UInt8)) = false := bne_eq_false_iff_eq.mpr c48; clear c48; obtain rfl := Option.some.inj H
                                                go_enter Try.func65, Try.ntmps65
                                                go_wp2
                                                go_ret
                                                exact ⟨by first | rfl | (simp; done) | (simp [*]; done), by repeat (first | exact Drawn0.refl _ | apply Drawn0.step)⟩
                                               ·rw [if_neg c48] at H
                                                have c48b0 : (a0.toList == ([115, 101, 108, 101, 99, 116] : List UInt8)) = false := beq_eq_false_iff_ne.mpr c48; have c48b1 : (a0.toList != ([115, 101, 108, 101, 99, 116] : List UInt8)) = true := bne_iff_ne.mpr c48
                                                by_cases c49 : a0.toList = ([115, 101, 116] : List UInt8)
                                                ·rw [if_pos c49] at H
                                                 have c49b0 : (a0.toList == ([115, 101, 116] : List UInt8)) = true := beq_iff_eq.mpr c49; have c49b1 : (a0.toList != ([115, 101, 116] : List UInt8)) = false := bne_eq_false_iff_eq.mpr c49; clear c49; obtain rfl := Option.some.inj H
                                                 go_enter Try.func65, Try.ntmps65
                                                 go_wp2
                                                 go_ret
                                                 exact ⟨by first | rfl | (simp; done) | (simp [*]; done), by repeat (first | exact Drawn0.refl _ | apply Drawn0.step)⟩
                                                ·rw [if_neg c49] at H
                                                 have c49b0 : (a0.toList == ([115, 101, 116] : List UInt8)) = false := beq_eq_false_iff_ne.mpr c49; have c49b1 : (a0.toList != ([115, 101, 116] : List UInt8)) = true := bne_iff_ne.mpr c49
                                                 by_cases c50 : a0.toList = ([116, 97, 98, 108, 101] : List UInt8)
                                                 ·rw [if_pos c50] at H
                                                  have c50b0 : (a0.toList == ([116, 97, 98, 108, 101] : List UInt8)) = true := beq_iff_eq.mpr c50; have c50b1 : (a0.toList != ([116, 97, 98, 108, 101] : List UInt8)) = false := bne_eq_false_iff_eq.mpr c50; clear c50; obtain rfl := Option.some.inj H
                                                  go_enter Try.func65, Try.ntmps65
                                                  go_wp2
                                                  go_ret
                                                  exact ⟨by first | rfl | (simp; done) | (simp [*]; done), by repeat (first | exact Drawn0.refl _ | apply Drawn0.step)⟩
                                                 ·rw [if_neg c50] at H
                                                  have c50b0 : (a0.toList == ([116, 97, 98, 108, 101] : List UInt8)) = false := beq_eq_false_iff_ne.mpr c50; have c50b1 : (a0.toList != ([116, 97, 98, 108, 101] : List UInt8)) = true := bne_iff_ne.mpr c50
                                                  by_cases c51 : a0.toList = ([116, 104, 101, 110] : List UInt8)
                                                  ·rw [if_pos c51] at H
                                                   have c51b0 : (a0.toList == ([116, 104, 101, 110] : List UInt8)) = true := beq_iff_eq.mpr c51; have c51b1 : (a0.toList != ([116, 104, 101, 110] : List UInt8)) = false := bne_eq_false_iff_eq.mpr c51; clear c51; obtain rfl := Option.some.inj H
                                                   go_enter Try.func65, Try.ntmps65
                                                   go_wp2
                                                   go_ret
                                                   exact ⟨by first | rfl | (simp; done) | (simp [*]; done), by repeat (first | exact Drawn0.refl _ | apply Drawn0.step)⟩
                                                  ·rw [if_neg c51] at H
                                                   have c51b0 : (a0.toList == ([116, 104, 101, 110] : List UInt8)) = false := beq_eq_false_iff_ne.mpr c51; have c51b1 : (a0.toList != ([116, 104, 101, 110] : List UInt8)) = true := bne_iff_ne.mpr c51
                                                   by_cases c52 : a0.toList = ([116, 114, 117, 101] : List UInt8)
                                                   ·rw [if_pos c52] at H
                                                    have c52b0 : (a0.toList == ([116, 114, 117, 101] : List UInt8)) = true := beq_iff_eq.mpr c52; have c52b1 : (a0.toList != ([116, 114, 117, 101] : List UInt8)) = false := bne_eq_false_iff_eq.mpr c52; clear c52; obtain rfl := Option.some.inj H
                                                    go_enter Try.func65, Try.ntmps65
                                                    go_wp2
                                                    go_ret
                                                    exact ⟨by first | rfl | (simp; done) | (simp [*]; done), by repeat (first | exact Drawn0.refl _ | apply Drawn0.step)⟩
                                                   ·rw [if_neg c52] at H
                                                    have c52b0 : (a0.toList == ([116, 114, 117, 101] : List UInt8)) = false := beq_eq_false_iff_ne.mpr c52; have c52b1 : (a0.toList != ([116, 114, 117, 101] : List UInt8)) = true := bne_iff_ne.mpr c52
                                                    by_cases c53 : a0.toList = ([117, 110, 105, 111, 110] : List UInt8)
                                                    ·rw [if_pos c53] at H
                                                     have c53b0 : (a0.toList == ([117, 110, 105, 111, 110] : List UInt8)) = true := beq_iff_eq.mpr c53; have c53b1 : (a0.toList != ([117, 110, 105, 111, 110] : List UInt8)) = false := bne_eq_false_iff_eq.mpr c53; clear c53; obtain rfl := Option.some.inj H
                                                     go_enter Try.func65, Try.ntmps65
                                                     go_wp2
                                                     go_ret
                                                     exact ⟨by first | rfl | (simp; done) | (simp [*]; done), by repeat (first | exact Drawn0.refl _ | apply Drawn0.step)⟩
                                                    ·rw [if_neg c53] at H
                                                     have c53b0 : (a0.toList == ([117, 110, 105, 111, 110] : List UInt8)) = false := beq_eq_false_iff_ne.mpr c53; have c53b1 : (a0.toList != ([117, 110, 105, 111, 110] : List UInt8)) = true := bne_iff_ne.mpr c53
                                                     by_cases c54 : a0.toList = ([117, 110, 105, 113, 117, 101] : List UInt8)
                                                     ·rw [if_pos c54] at H
                                                      have c54b0 : (a0.toList == ([117, 110, 105, 113, 117, 101] : List UInt8)) = true := beq_iff_eq.mpr c54; have c54b1 : (a0.toList != ([117, 110, 105, 113, 117, 101] : List UInt8)) = false := bne_eq_false_iff_eq.mpr c54; clear c54; obtain rfl := Option.some.inj H
                                                      go_enter Try.func65, Try.ntmps65
                                                      go_wp2
                                                      go_ret
                                                      exact ⟨by first | rfl | (simp; done) | (simp [*]; done), by repeat (first | exact Drawn0.refl _ | apply Drawn0.step)⟩
                                                     ·rw [if_neg c54] at H
                                                      have c54b0 : (a0.toList == ([117, 110, 105, 113, 117, 101] : List UInt8)) = false := beq_eq_false_iff_ne.mpr c54; have c54b1 : (a0.toList != ([117, 110, 105, 113, 117, 101] : List UInt8)) = true := bne_iff_ne.mpr c54
                                                      by_cases c55 : a0.toList = ([117, 112, 100, 97, 116, 101] : List UInt8)
                                                      ·rw [if_pos c55] at H
                                                       have c55b0 : (a0.toList == ([117, 112, 100, 97, 116, 101] : List UInt8)) = true := beq_iff_eq.mpr c55; have c55b1 : (a0.toList != ([117, 112, 100, 97, 116, 101] : List UInt8)) = false := bne_eq_false_iff_eq.mpr c55; clear c55; obtain rfl := Option.some.inj H
                                                       go_enter Try.func65, Try.ntmps65
                                                       go_wp2
                                                       go_ret
                                                       exact ⟨by first | rfl | (simp; done) | (simp [*]; done), by repeat (first | exact Drawn0.refl _ | apply Drawn0.step)⟩
                                                      ·rw [if_neg c55] at H
                                                       have c55b0 : (a0.toList == ([117, 112, 100, 97, 116, 101] : List UInt8)) = false := beq_eq_false_iff_ne.mpr c55; have c55b1 : (a0.toList != ([117, 112, 100, 97, 116, 101] : List UInt8)) = true := bne_iff_ne.mpr c55
                                                       by_cases c56 : a0.toList = ([118, 97, 108, 117, 101, 115] : List UInt8)
                                                       ·rw [if_pos c56] at H
                                                        have c56b0 : (a0.toList == ([118, 97, 108, 117, 101, 115] : List UInt8)) = true := beq_iff_eq.mpr c56; have c56b1 : (a0.toList != ([118, 97, 108, 117, 101, 115] : List UInt8)) = false := bne_eq_false_iff_eq.mpr c56; clear c56; obtain rfl := Option.some.inj H
                                                        go_enter Try.func65, Try.ntmps65
                                                        go_wp2
                                                        go_ret
                                                        exact ⟨by first | rfl | (simp; done) | (simp [*]; done), by repeat (first | exact Drawn0.refl _ | apply Drawn0.step)⟩
                                                       ·rw [if_neg c56] at H
                                                        have c56b0 : (a0.toList == ([118, 97, 108, 117, 101, 115] : List UInt8)) = false := beq_eq_false_iff_ne.mpr c56; have c56b1 : (a0.toList != ([118, 97, 108, 117, 101, 115] : List UInt8)) = true := bne_iff_ne.mpr c56
                                                        by_cases c57 : a0.toList = ([118, 105, 101, 119] : List UInt8)
                                                        ·rw [if_pos c57] at H
                                                         have c57b0 : (a0.toList == ([118, 105, 101, 119] : List UInt8)) = true := beq_iff_eq.mpr c57; have c57b1 : (a0.toList != ([118, 105, 101, 119] : List UInt8)) = false := bne_eq_false_iff_eq.mpr c57; clear c57; obtain rfl := Option.some.inj H
                                                         go_enter Try.func65, Try.ntmps65
                                                         go_wp2
                                                         go_ret
                                                         exact ⟨by first | rfl | (simp; done) | (simp [*]; done), by repeat (first | exact Drawn0.refl _ | apply Drawn0.step)⟩
                                                        ·rw [if_neg c57] at H
                                                         have c57b0 : (a0.toList == ([118, 105, 101, 119] : List UInt8)) = false := beq_eq_false_iff_ne.mpr c57; have c57b1 : (a0.toList != ([118, 105, 101, 119] : List UInt8)) = true := bne_iff_ne.mpr c57
                                                         by_cases c58 : a0.toList = ([119, 104, 101, 110] : List UInt8)
                                                         ·rw [if_pos c58] at H
                                                          have c58b0 : (a0.toList == ([119, 104, 101, 110] : List UInt8)) = true := beq_iff_eq.mpr c58; have c58b1 : (a0.toList != ([119, 104, 101, 110] : List UInt8)) = false := bne_eq_false_iff_eq.mpr c58; clear c58; obtain rfl := Option.some.inj H
                                                          go_enter Try.func65, Try.ntmps65
                                                          go_wp2
                                                          go_ret
                                                          exact ⟨by first | rfl | (simp; done) | (simp [*]; done), by repeat (first | exact Drawn0.refl _ | apply Drawn0.step)⟩
                                                         ·rw [if_neg c58] at H
                                                          have c58b0 : (a0.toList == ([119, 104, 101, 110] : List UInt8)) = false := beq_eq_false_iff_ne.mpr c58; have c58b1 : (a0.toList != ([119, 104, 101, 110] : List UInt8)) = true := bne_iff_ne.mpr c58
                                                          by_cases c59 : a0.toList = ([119, 104, 101, 114, 101] : List UInt8)
                                                          ·rw [if_pos c59] at H
                                                           have c59b0 : (a0.toList == ([119, 104, 101, 114, 101] : List UInt8)) = true := beq_iff_eq.mpr c59; have c59b1 : (a0.toList != ([119, 104, 101, 114, 101] : List UInt8)) = false := bne_eq_false_iff_eq.mpr c59; clear c59; obtain rfl := Option.some.inj H
                                                           go_enter Try.func65, Try.ntmps65
                                                           go_wp2
                                                           go_ret
                                                           exact ⟨by first | rfl | (simp; done) | (simp [*]; done), by repeat (first | exact Drawn0.refl _ | apply Drawn0.step)⟩
                                                          ·rw [if_neg c59] at H
                                                           have c59b0 : (a0.toList == ([119, 104, 101, 114, 101] : List UInt8)) = false := beq_eq_false_iff_ne.mpr c59; have c59b1 : (a0.toList != ([119, 104, 101, 114, 101] : List UInt8)) = true := bne_iff_ne.mpr c59
                                                           by_cases c60 : a0.toList = ([119, 105, 116, 104] : List UInt8)
                                                           ·rw [if_pos c60] at H
                                                            have c60b0 : (a0.toList == ([119, 105, 116, 104] : List UInt8)) = true := beq_iff_eq.mpr c60; have c60b1 : (a0.toList != ([119, 105, 116, 104] : List UInt8)) = false := bne_eq_false_iff_eq.mpr c60; clear c60; obtain rfl := Option.some.inj H
                                                            go_enter Try.func65, Try.ntmps65
                                                            go_wp2
                                                            go_ret
                                                            exact ⟨by first | rfl | (simp; done) | (simp [*]; done), by repeat (first | exact Drawn0.refl _ | apply Drawn0.step)⟩
                                                           ·rw [if_neg c60] at H
                                                            have c60b0 : (a0.toList == ([119, 105, 116, 104] : List UInt8)) = false := beq_eq_false_iff_ne.mpr c60; have c60b1 : (a0.toList != ([119, 105, 116, 104] : List UInt8)) = true := bne_iff_ne.mpr c60
                                                            by_cases c61 : a0.toList = ([97, 108, 116, 101, 114] : List UInt8)
                                                            ·rw [if_pos c61] at H
                                                             have c61b0 : (a0.toList == ([97, 108, 116, 101, 114] : List UInt8)) = true := beq_iff_eq.mpr c61; have c61b1 : (a0.toList != ([97, 108, 116, 101, 114] : List UInt8)) = false := bne_eq_false_iff_eq.mpr c61; clear c61; obtain rfl := Option.some.inj H
                                                             go_enter Try.func65, Try.ntmps65
                                                             go_wp2
                                                             go_ret
                                                             exact ⟨by first | rfl | (simp; done) | (simp [*]; done), by repeat (first | exact Drawn0.refl _ | apply Drawn0.step)⟩
                                                            ·rw [if_neg c61] at H
                                                             have c61b0 : (a0.toList == ([97, 108, 116, 101, 114] : List UInt8)) = false := beq_eq_false_iff_ne.mpr c61; have c61b1 : (a0.toList != ([97, 108, 116, 101, 114] : List UInt8)) = true := bne_iff_ne.mpr c61
                                                             by_cases c62 : a0.toList = ([97, 100, 100] : List UInt8)
                                                             ·rw [if_pos c62] at H
                                                              have c62b0 : (a0.toList == ([97, 100, 100] : List UInt8)) = true := beq_iff_eq.mpr c62; have c62b1 : (a0.toList != ([97, 100, 100] : List UInt8)) = false := bne_eq_false_iff_eq.mpr c62; clear c62; obtain rfl := Option.some.inj H
                                                              go_enter Try.func65, Try.ntmps65
                                                              go_wp2
                                                              go_ret
                                                              exact ⟨by first | rfl | (simp; done) | (simp [*]; done), by repeat (first | exact Drawn0.refl _ | apply Drawn0.step)⟩
                                                             ·rw [if_neg c62] at H
                                                              have c62b0 : (a0.toList == ([97, 100, 100] : List UInt8)) = false := beq_eq_false_iff_ne.mpr c62; have c62b1 : (a0.toList != ([97, 100, 100] : List UInt8)) = true := bne_iff_ne.mpr c62
                                                              by_cases c63 : a0.toList = ([99, 111, 108, 117, 109, 110] : List UInt8)
                                                              ·rw [if_pos c63] at H
                                                               have c63b0 : (a0.toList == ([99, 111, 108, 117, 109, 110] : List UInt8)) = true := beq_iff_eq.mpr c63; have c63b1 : (a0.toList != ([99, 111, 108, 117, 109, 110] : List UInt8)) = false := bne_eq_false_iff_eq.mpr c63; clear c63; obtain rfl := Option.some.inj H
                                                               go_enter Try.func65, Try.ntmps65
                                                               go_wp2
                                                               go_ret
                                                               exact ⟨by first | rfl | (simp; done) | (simp [*]; done), by repeat (first | exact Drawn0.refl _ | apply Drawn0.step)⟩
                                                              ·rw [if_neg c63] at H
                                                               have c63b0 : (a0.toList == ([99, 111, 108, 117, 109, 110] : List UInt8)) = false := beq_eq_false_iff_ne.mpr c63; have c63b1 : (a0.toList != ([99, 111, 108, 117, 109, 110] : List UInt8)) = true := bne_iff_ne.mpr c63
                                                               by_cases c64 : a0.toList = ([108, 101, 118, 101, 108] : List UInt8)
                                                               ·rw [if_pos c64] at H
                                                                have c64b0 : (a0.toList == ([108, 101, 118, 101, 108] : List UInt8)) = true := beq_iff_eq.mpr c64; have c64b1 : (a0.toList != ([108, 101, 118, 101, 108] : List UInt8)) = false := bne_eq_false_iff_eq.mpr c64; clear c64; obtain rfl := Option.some.inj H
                                                                go_enter Try.func65, Try.ntmps65
                                                                go_wp2
                                                                go_ret
                                                                exact ⟨by first | rfl | (simp; done) | (simp [*]; done), by repeat (first | exact Drawn0.refl _ | apply Drawn0.step)⟩
                                                               ·rw [if_neg c64] at H
                                                                have c64b0 : (a0.toList == ([108, 101, 118, 101, 108] : List UInt8)) = false := beq_eq_false_iff_ne.mpr c64; have c64b1 : (a0.toList != ([108, 101, 118, 101, 108] : List UInt8)) = true := bne_iff_ne.mpr c64
                                                                by_cases c65 : a0.toList = ([115, 101, 114, 105, 97, 108] : List UInt8)
                                                                ·rw [if_pos c65] at H
                                                                 have c65b0 : (a0.toList == ([115, 101, 114, 105, 97, 108] : List UInt8)) = true := beq_iff_eq.mpr c65; have c65b1 : (a0.toList != ([115, 101, 114, 105, 97, 108] : List UInt8)) = false := bne_eq_false_iff_eq.mpr c65; clear c65; obtain rfl := Option.some.inj H
                                                                 go_enter Try.func65, Try.ntmps65
                                                                 go_wp2
                                                                 go_ret
                                                                 exact ⟨by first | rfl | (simp; done) | (simp [*]; done), by repeat (first | exact Drawn0.refl _ | apply Drawn0.step)⟩
                                                                ·rw [if_neg c65] at H
                                                                 have c65b0 : (a0.toList == ([115, 101, 114, 105, 97, 108] : List UInt8)) = false := beq_eq_false_iff_ne.mpr c65; have c65b1 : (a0.toList != ([115, 101, 114, 105, 97, 108] : List UInt8)) = true := bne_iff_ne.mpr c65
                                                                 by_cases c66 : a0.toList = ([115, 110, 97, 112, 115, 104, 111, 116] : List UInt8)
                                                                 ·rw [if_pos c66] at H
                                                                  have c66b0 : (a0.toList == ([115, 110, 97, 112, 115, 104, 111, 116] : List UInt8)) = true := beq_iff_eq.mpr c66; have c66b1 : (a0.toList != ([115, 110, 97, 112, 115, 104, 111, 116] : List UInt8)) = false := bne_eq_false_iff_eq.mpr c66; clear c66; obtain rfl := Option.some.inj H
                                                                  go_enter Try.func65, Try.ntmps65
                                                                  go_wp2
                                                                  go_ret
                                                                  exact ⟨by first | rfl | (simp; done) | (simp [*]; done), by repeat (first | exact Drawn0.refl _ | apply Drawn0.step)⟩
                                                                 ·rw [if_neg c66] at H
                                                                  have c66b0 : (a0.toList == ([115, 110, 97, 112, 115, 104, 111, 116] : List UInt8)) = false := beq_eq_false_iff_ne.mpr c66; have c66b1 : (a0.toList != ([115, 110, 97, 112, 115, 104, 111, 116] : List UInt8)) = true := bne_iff_ne.mpr c66
                                                                  by_cases c67 : a0.toList = ([108, 97, 116, 101, 115, 116] : List UInt8)
                                                                  ·rw [if_pos c67] at H
                                                                   have c67b0 : (a0.toList == ([108, 97, 116, 101, 115, 116] : List UInt8)) = true := beq_iff_eq.mpr c67; have c67b1 : (a0.toList != ([108, 97, 116, 101, 115, 116] : List UInt8)) = false := bne_eq_false_iff_eq.mpr c67; clear c67; obtain rfl := Option.some.inj H
                                                                   go_enter Try.func65, Try.ntmps65
                                                                   go_wp2
                                                                   go_ret
                                                                   exact ⟨by first | rfl | (simp; done) | (simp [*]; done), by repeat (first | exact Drawn0.refl _ | apply Drawn0.step)⟩
                                                                  ·rw [if_neg c67] at H
                                                                   have c67b0 : (a0.toList == ([108, 97, 116, 101, 115, 116] : List UInt8)) = false := beq_eq_false_iff_ne.mpr c67; have c67b1 : (a0.toList != ([108, 97, 116, 101, 115, 116] : List UInt8)) = true := bne_iff_ne.mpr c67; obtain rfl := Option.some.inj H
                                                                   go_enter Try.func65, Try.ntmps65
                                                                   go_wp2
                                                                   go_ret
                                                                   exact ⟨by first | rfl | (simp; done) | (simp [*]; done), by repeat (first | exact Drawn0.refl _ | apply Drawn0.step)⟩

end Go.Proofs.Ytiolnbhcmoafjaa.QFnExactTableOK
