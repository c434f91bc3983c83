/- The functions that the law reaches, each as a plain Lean function with the proof that the Go code comes to its answers: written by a program of this session. No condition. -/
import Derived.Test.YtjnhbegppjeafaaQFnExactAdmitRunx0
import Derived.Test.YtjnhbegppjeafaaQFnExactAdmitRunx5
namespace Go.Proofs.Ytjnhbegppjeafaa.QFnExactAdmitRun
open Go.RowKit Go.Proofs.YtjnhbegppjeafaaW.PrintWords Go.Proofs.YtjnhbegppjeafaaW.PrintLast Go.Proofs.YtjnhbegppjeafaaW.PrintMore
attribute [local go_sem] max2_int min2_int max_two min_two max_three min_three max_four min_four str_gtr str_leq str_geq pw_at_slice   -- for this text's walks alone
set_option linter.unusedVariables false
set_option linter.unusedSimpArgs false

/-! ### laws_heldAdmitObsS: function 34 -/
set_option maxRecDepth 100000 in
def laws_heldAdmitObsS.l0 : Nat → List (S56) → Int → Int → Option (Int)
 | 0, _, _, _ => none
 | k + 1, x0, x1, x5 => if x5 < (x0.length : Int) then (if 0 ≤ x5 then (if ((rd_T56 x0 x5).f0) = x1 then (if ((rd_T56 x0 x5).f1) = (wrap64 (x1 + 1)) then ((laws_heldIntS.f k ((rd_T56 x0 x5).f2) (wrap64 ((wrap64 (x1 + 1)) + 1))).bind fun t705 => (if t705 < 0 then (some (-1)) else (laws_heldAdmitObsS.l0 k x0 t705 (wrap64 (x5 + 1))))) else (some (-1))) else (some (-1))) else (none)) else (some x1)
def laws_heldAdmitObsS.f (k : Nat) (l0 : List (S56)) (a1 : Int) : Option (Int) := laws_heldAdmitObsS.l0 k l0 a1 0
set_option maxHeartbeats 8000000 in
set_option maxRecDepth 100000 in
theorem laws_heldAdmitObsS.calls (k : Nat) (A0 : Option Addr) (c0 : Nat) (l0 : List (S56)) (a1 : Int) (r : Int) (w : World) (hr0 : Kd.C k56 w A0 l0.length l0) (hc0 : l0.length ≤ c0) (h : laws_heldAdmitObsS.f k l0 a1 = some r) :
  Calls Try.prog 34 #[.slice A0 l0.length c0, .int .i64 a1] w fun e w' => e = .returned (.int .i64 r) ∧ Drawn0 w w' := by
 have HR0 := Aside0.mk hr0
 have HC0 := Aside0.mk hc0
 clear hr0 hc0
 have H : (laws_heldAdmitObsS.l0 k l0 a1 0) = some r := h
 clear h
 have H' := Aside0.mk H
 clear H
 go_enter Try.func34, Try.ntmps34
 go_wp2
 go_loopg [1, 5] k (fun kq v1 v5 w' => ∃ (x1_1 : Int) (x5_1 : Int), v1 = .int .i64 x1_1 ∧ v5 = .int .i64 x5_1 ∧ Aside0 (laws_heldAdmitObsS.l0 kq l0 x1_1 x5_1 = some r) ∧ Aside0 (kq ≤ k) ∧ Drawn0 w w')
 case atStart => exact ⟨(a1), (0), (by first | rfl | (simp; done) | (simp [*]; done)), (by first | rfl | (simp; done) | (simp [*]; done)), H', ⟨Nat.le_refl _⟩, by repeat (first | exact Drawn0.refl _ | apply Drawn0.step)⟩
 case round =>
  clear H'
  obtain ⟨x1_1, x5_1, rfl, rfl, HA, HK1, ⟨m1, rfl⟩⟩ := hrel
  cases gk with
  | zero => exact absurd HA.out (by simp [laws_heldAdmitObsS.l0])
  | succ k1 =>
   have H := HA.out
   clear HA
   simp only [laws_heldAdmitObsS.l0] at H
   by_cases c3 : x5_1 < (l0.length : Int)
   ·rw [if_pos c3] at H
    have c3b0 : decide (x5_1 < (l0.length : Int)) = true := decide_eq_true c3
    clear c3
    by_cases c4 : 0 ≤ x5_1
    ·rw [if_pos c4] at H
     have c4b0 : decide (0 ≤ x5_1) = true := decide_eq_true c4
     clear c4
     by_cases c5 : ((rd_T56 l0 x5_1).f0) = x1_1
     ·rw [if_pos c5] at H
      have c5b0 : (((rd_T56 l0 x5_1).f0) == x1_1) = true := beq_iff_eq.mpr c5
      have c5b1 : (((rd_T56 l0 x5_1).f0) != x1_1) = false := bne_eq_false_iff_eq.mpr c5
      clear c5
      by_cases c6 : ((rd_T56 l0 x5_1).f1) = (wrap64 (x1_1 + 1))
      ·rw [if_pos c6] at H
       have c6b0 : (((rd_T56 l0 x5_1).f1) == (wrap64 (x1_1 + 1))) = true := beq_iff_eq.mpr c6
       have c6b1 : (((rd_T56 l0 x5_1).f1) != (wrap64 (x1_1 + 1))) = false := bne_eq_false_iff_eq.mpr c6
       clear c6
       replace H := Option.bind_eq_some_iff.mp H
       obtain ⟨t705, A70, H⟩ := H
       replace H : (if t705 < 0 then (some (-1)) else (laws_heldAdmitObsS.l0 k1 l0 t705 (wrap64 (x5_1 + 1)))) = some r := H
       have A7 := Aside0.mk A70
       clear A70
       by_cases c8 : t705 < 0
       ·rw [if_pos c8] at H
        have c8b0 : decide (t705 < 0) = true := decide_eq_true c8
        clear c8
        obtain rfl := Option.some.inj H
        have p702 : 0 ≤ (x5_1 : Int) := of_decide_eq_true (by first | (with_reducible assumption) | assumption)
        have q702 : x5_1 < (l0.length : Int) := of_decide_eq_true (by first | (with_reducible assumption) | assumption)
        obtain ⟨ad702, A702_2, c702_2, e702, hx702_0, hx702_1, hx702_2, hl702_2, hi702_2⟩ := at_T56 HR0.out x5_1 p702 q702
        cases e702
        have HR702_2 := Aside0.mk hi702_2
        have HC702_2 := Aside0.mk hl702_2
        clear hi702_2 hl702_2
        replace p702 := eq_true p702
        replace q702 := eq_true q702
        have p703 : 0 ≤ (x5_1 : Int) := of_decide_eq_true (by first | (with_reducible assumption) | assumption)
        have q703 : x5_1 < (l0.length : Int) := of_decide_eq_true (by first | (with_reducible assumption) | assumption)
        obtain ⟨ad703, A703_2, c703_2, e703, hx703_0, hx703_1, hx703_2, hl703_2, hi703_2⟩ := at_T56 HR0.out x5_1 p703 q703
        obtain rfl : ad702 = ad703 := (by injection e703)
        have HR703_2 := Aside0.mk hi703_2
        have HC703_2 := Aside0.mk hl703_2
        clear hi703_2 hl703_2
        replace p703 := eq_true p703
        replace q703 := eq_true q703
        have ea_ := Option.some.inj (hx702_2.symm.trans hx703_2)
        injection ea_ with ea_ en_ ec_
        subst ea_
        subst ec_
        clear en_
        have p704 : 0 ≤ (x5_1 : Int) := of_decide_eq_true (by first | (with_reducible assumption) | assumption)
        have q704 : x5_1 < (l0.length : Int) := of_decide_eq_true (by first | (with_reducible assumption) | assumption)
        obtain ⟨ad704, A704_2, c704_2, e704, hx704_0, hx704_1, hx704_2, hl704_2, hi704_2⟩ := at_T56 HR0.out x5_1 p704 q704
        obtain rfl : ad702 = ad704 := (by injection e704)
        have HR704_2 := Aside0.mk hi704_2
        have HC704_2 := Aside0.mk hl704_2
        clear hi704_2 hl704_2
        replace p704 := eq_true p704
        replace q704 := eq_true q704
        have ea_ := Option.some.inj (hx702_2.symm.trans hx704_2)
        injection ea_ with ea_ en_ ec_
        subst ea_
        subst ec_
        clear en_
        go_wp2_with (first | ((with_reducible refine gate_callee (f := 47) rfl ?_); refine goesL_ (some 36) rfl rfl Try.func47 (by kernel_rfl) rfl #[.slice A702_2 ((rd_T56 l0 x5_1).f2).length c702_2, .int .i64 (wrap64 ((wrap64 (x1_1 + 1)) + 1))] rfl zm ?_; (with_reducible refine (laws_heldIntS.calls k1 _ _ ((rd_T56 l0 x5_1).f2) (wrap64 ((wrap64 (x1_1 + 1)) + 1)) t705 _ ?side1 ?side2 A7.out).mono ?_); (case side1 => repeat (first | exact HR704_2.out | (with_reducible refine Kd.C_alloc ?_ _) | (with_reducible refine Kd.C_drewN ?_ _) | (with_reducible refine Kd.C_drew ?_))); (case side2 => exact HC704_2.out); rintro e w' ⟨rfl, ⟨nd, rfl⟩⟩; refine ⟨_, rfl, ?_⟩))
        go_ret
        exact ⟨by first | rfl | (simp; done) | (simp [*]; done), by repeat (first | exact Drawn0.refl _ | apply Drawn0.step)⟩
       ·rw [if_neg c8] at H
        have c8b0 : decide (t705 < 0) = false := decide_eq_false c8
        clear c8
        have H' := Aside0.mk H
        clear H
        have p702 : 0 ≤ (x5_1 : Int) := of_decide_eq_true (by first | (with_reducible assumption) | assumption)
        have q702 : x5_1 < (l0.length : Int) := of_decide_eq_true (by first | (with_reducible assumption) | assumption)
        obtain ⟨ad702, A702_2, c702_2, e702, hx702_0, hx702_1, hx702_2, hl702_2, hi702_2⟩ := at_T56 HR0.out x5_1 p702 q702
        cases e702
        have HR702_2 := Aside0.mk hi702_2
        have HC702_2 := Aside0.mk hl702_2
        clear hi702_2 hl702_2
        replace p702 := eq_true p702
        replace q702 := eq_true q702
        have p703 : 0 ≤ (x5_1 : Int) := of_decide_eq_true (by first | (with_reducible assumption) | assumption)
        have q703 : x5_1 < (l0.length : Int) := of_decide_eq_true (by first | (with_reducible assumption) | assumption)
        obtain ⟨ad703, A703_2, c703_2, e703, hx703_0, hx703_1, hx703_2, hl703_2, hi703_2⟩ := at_T56 HR0.out x5_1 p703 q703
        obtain rfl : ad702 = ad703 := (by injection e703)
        have HR703_2 := Aside0.mk hi703_2
        have HC703_2 := Aside0.mk hl703_2
        clear hi703_2 hl703_2
        replace p703 := eq_true p703
        replace q703 := eq_true q703
        have ea_ := Option.some.inj (hx702_2.symm.trans hx703_2)
        injection ea_ with ea_ en_ ec_
        subst ea_
        subst ec_
        clear en_
        have p704 : 0 ≤ (x5_1 : Int) := of_decide_eq_true (by first | (with_reducible assumption) | assumption)
        have q704 : x5_1 < (l0.length : Int) := of_decide_eq_true (by first | (with_reducible assumption) | assumption)
        obtain ⟨ad704, A704_2, c704_2, e704, hx704_0, hx704_1, hx704_2, hl704_2, hi704_2⟩ := at_T56 HR0.out x5_1 p704 q704
        obtain rfl : ad702 = ad704 := (by injection e704)
        have HR704_2 := Aside0.mk hi704_2
        have HC704_2 := Aside0.mk hl704_2
        clear hi704_2 hl704_2
        replace p704 := eq_true p704
        replace q704 := eq_true q704
        have ea_ := Option.some.inj (hx702_2.symm.trans hx704_2)
        injection ea_ with ea_ en_ ec_
        subst ea_
        subst ec_
        clear en_
        go_wp2_with (first | ((with_reducible refine gate_callee (f := 47) rfl ?_); refine goesL_ (some 36) rfl rfl Try.func47 (by kernel_rfl) rfl #[.slice A702_2 ((rd_T56 l0 x5_1).f2).length c702_2, .int .i64 (wrap64 ((wrap64 (x1_1 + 1)) + 1))] rfl zm ?_; (with_reducible refine (laws_heldIntS.calls k1 _ _ ((rd_T56 l0 x5_1).f2) (wrap64 ((wrap64 (x1_1 + 1)) + 1)) t705 _ ?side1 ?side2 A7.out).mono ?_); (case side1 => repeat (first | exact HR704_2.out | (with_reducible refine Kd.C_alloc ?_ _) | (with_reducible refine Kd.C_drewN ?_ _) | (with_reducible refine Kd.C_drew ?_))); (case side2 => exact HC704_2.out); rintro e w' ⟨rfl, ⟨nd, rfl⟩⟩; refine ⟨_, rfl, ?_⟩))
        go_roundg k1
        case measure => have := HK1.out; omega
        case rel => exact ⟨(t705), (wrap64 (x5_1 + 1)), (by first | rfl | (simp; done) | (simp [*]; done)), (by first | rfl | (simp; done) | (simp [*]; done)), H', ⟨by have := HK1.out; omega⟩, by repeat (first | exact Drawn0.refl _ | apply Drawn0.step)⟩
      ·rw [if_neg c6] at H
       have c6b0 : (((rd_T56 l0 x5_1).f1) == (wrap64 (x1_1 + 1))) = false := beq_eq_false_iff_ne.mpr c6
       have c6b1 : (((rd_T56 l0 x5_1).f1) != (wrap64 (x1_1 + 1))) = true := bne_iff_ne.mpr c6
       obtain rfl := Option.some.inj H
       have p702 : 0 ≤ (x5_1 : Int) := of_decide_eq_true (by first | (with_reducible assumption) | assumption)
       have q702 : x5_1 < (l0.length : Int) := of_decide_eq_true (by first | (with_reducible assumption) | assumption)
       obtain ⟨ad702, A702_2, c702_2, e702, hx702_0, hx702_1, hx702_2, hl702_2, hi702_2⟩ := at_T56 HR0.out x5_1 p702 q702
       cases e702
       have HR702_2 := Aside0.mk hi702_2
       have HC702_2 := Aside0.mk hl702_2
       clear hi702_2 hl702_2
       replace p702 := eq_true p702
       replace q702 := eq_true q702
       have p703 : 0 ≤ (x5_1 : Int) := of_decide_eq_true (by first | (with_reducible assumption) | assumption)
       have q703 : x5_1 < (l0.length : Int) := of_decide_eq_true (by first | (with_reducible assumption) | assumption)
       obtain ⟨ad703, A703_2, c703_2, e703, hx703_0, hx703_1, hx703_2, hl703_2, hi703_2⟩ := at_T56 HR0.out x5_1 p703 q703
       obtain rfl : ad702 = ad703 := (by injection e703)
       have HR703_2 := Aside0.mk hi703_2
       have HC703_2 := Aside0.mk hl703_2
       clear hi703_2 hl703_2
       replace p703 := eq_true p703
       replace q703 := eq_true q703
       have ea_ := Option.some.inj (hx702_2.symm.trans hx703_2)
       injection ea_ with ea_ en_ ec_
       subst ea_
       subst ec_
       clear en_
       go_wp2
       go_ret
       exact ⟨by first | rfl | (simp; done) | (simp [*]; done), by repeat (first | exact Drawn0.refl _ | apply Drawn0.step)⟩
     ·rw [if_neg c5] at H
      have c5b0 : (((rd_T56 l0 x5_1).f0) == x1_1) = false := beq_eq_false_iff_ne.mpr c5
      have c5b1 : (((rd_T56 l0 x5_1).f0) != x1_1) = true := bne_iff_ne.mpr c5
      obtain rfl := Option.some.inj H
      have p702 : 0 ≤ (x5_1 : Int) := of_decide_eq_true (by first | (with_reducible assumption) | assumption)
      have q702 : x5_1 < (l0.length : Int) := of_decide_eq_true (by first | (with_reducible assumption) | assumption)
      obtain ⟨ad702, A702_2, c702_2, e702, hx702_0, hx702_1, hx702_2, hl702_2, hi702_2⟩ := at_T56 HR0.out x5_1 p702 q702
      cases e702
      have HR702_2 := Aside0.mk hi702_2
      have HC702_2 := Aside0.mk hl702_2
      clear hi702_2 hl702_2
      replace p702 := eq_true p702
      replace q702 := eq_true q702
      go_wp2
      go_ret
      exact ⟨by first | rfl | (simp; done) | (simp [*]; done), by repeat (first | exact Drawn0.refl _ | apply Drawn0.step)⟩
    ·rw [if_neg c4] at H
     cases H
   ·rw [if_neg c3] at H
    have c3b0 : decide (x5_1 < (l0.length : Int)) = false := decide_eq_false c3
    clear c3
    obtain rfl := Option.some.inj H
    go_wp2
    go_ret
    exact ⟨by first | rfl | (simp; done) | (simp [*]; done), by repeat (first | exact Drawn0.refl _ | apply Drawn0.step)⟩

-- NOT PRINTED: function 8 (laws_FnExactAdmitRun)

end Go.Proofs.Ytjnhbegppjeafaa.QFnExactAdmitRun
