/- The functions that the law reaches, each as a plain Lean function with the proof that the Go code comes to its answers: written by a program of this session. No condition. -/
import Derived.Test.YtnicllekmkkhlaaQFnDiskSafex0
import Derived.Test.YtnicllekmkkhlaaQFnDiskSafex1
import Derived.Test.YtnicllekmkkhlaaQFnDiskSafex2
import Derived.Test.YtnicllekmkkhlaaQFnDiskSafex3
import Derived.Test.YtnicllekmkkhlaaQFnDiskSafex7
import Derived.Test.YtnicllekmkkhlaaQFnDiskSafex11
namespace Go.Proofs.Ytnicllekmkkhlaa.QFnDiskSafe
open Go.RowKit Go.Proofs.YtnicllekmkkhlaaW.PrintWords Go.Proofs.YtnicllekmkkhlaaW.PrintLast Go.Proofs.YtnicllekmkkhlaaW.PrintMore
attribute [local go_sem] max2_int min2_int max_two min_two max_three min_three max_four min_four str_gtr str_leq str_geq pw_at_slice   -- for this text's walks alone
set_option linter.unusedVariables false
set_option linter.unusedSimpArgs false

attribute [local go_sem high] eqA45
/-! ### laws_FnDiskSafe: function 7 -/
set_option maxRecDepth 100000 in
mutual
def laws_FnDiskSafe.j0 : Nat → List (S56) → List (S54) → List (S54) → Bool → Option (Bool)
 | 0, _, _, _, _ => none
 | k + 1, x3, x4, x6, x36 => if x36 = true then (some false) else (laws_FnDiskSafe.l0 k x3 x4 x6 (([] : List (S45))) 0 0)
def laws_FnDiskSafe.l0 : Nat → List (S56) → List (S54) → List (S54) → List (S45) → Int → Int → Option (Bool)
 | 0, _, _, _, _, _, _ => none
 | k + 1, x3, x4, x6, x8, x9, x10 => if x10 < (x6.length : Int) then (if 0 ≤ x10 then (if x10 < (x4.length : Int) then (if ((rd_T54 x6 x10).f0) = ((rd_T54 x4 x10).f0) then (if ((rd_T54 x6 x10).f0) = 0 then (if x10 < (x3.length : Int) then (if ((rd_T56 x3 x10).f0) = 1 then (if ((rd_T54 x6 x10).f1) = (x8.length : Int) then (if x8.length < 5864062014805 then (laws_FnDiskSafe.l0 k x3 x4 x6 (x8 ++ [(⟨(rd_T56 x3 x10).f1.f0, (rd_T56 x3 x10).f1.f1⟩ : S45)]) x9 (wrap64 (x10 + 1))) else (none)) else (some false)) else (if ((rd_T56 x3 x10).f0) = 2 then (laws_FnDiskSafe.l0 k x3 x4 x6 x8 (x8.length : Int) (wrap64 (x10 + 1))) else (if ((rd_T56 x3 x10).f0) = 4 then (if (((rd_T54 x6 x10).f2).length : Int) < x9 then (laws_FnDiskSafe.j2 k x3 x4 x6 x8 x10 (((rd_T54 x6 x10).f2).length : Int) true) else (if (((rd_T54 x6 x10).f2).length : Int) > (x8.length : Int) then (laws_FnDiskSafe.j2 k x3 x4 x6 x8 x10 (((rd_T54 x6 x10).f2).length : Int) true) else (laws_FnDiskSafe.j2 k x3 x4 x6 x8 x10 (((rd_T54 x6 x10).f2).length : Int) (((rd_T54 x6 x10).f1) != (((rd_T54 x6 x10).f2).length : Int))))) else (laws_FnDiskSafe.l0 k x3 x4 x6 x8 x9 (wrap64 (x10 + 1)))))) else (none)) else (laws_FnDiskSafe.l0 k x3 x4 x6 x8 x9 (wrap64 (x10 + 1)))) else (some false)) else (none)) else (none)) else (some true)
def laws_FnDiskSafe.j2 : Nat → List (S56) → List (S54) → List (S54) → List (S45) → Int → Int → Bool → Option (Bool)
 | 0, _, _, _, _, _, _, _ => none
 | k + 1, x3, x4, x6, x8, x10, x11, x113 => if x113 = true then (some false) else (laws_FnDiskSafe.l1 k x3 x4 x6 x8 x10 x11 0)
def laws_FnDiskSafe.l1 : Nat → List (S56) → List (S54) → List (S54) → List (S45) → Int → Int → Int → Option (Bool)
 | 0, _, _, _, _, _, _, _ => none
 | k + 1, x3, x4, x6, x8, x10, x11, x12 => if x12 < x11 then (if 0 ≤ x10 then (if x10 < (x6.length : Int) then (if 0 ≤ x12 then (if x12 < (((rd_T54 x6 x10).f2).length : Int) then (if x12 < (x8.length : Int) then (if (!(((rd_T45 ((rd_T54 x6 x10).f2) x12).f0) == ((rd_T45 x8 x12).f0)) || (!((((rd_T45 ((rd_T54 x6 x10).f2) x12).f1).toList) == (((rd_T45 x8 x12).f1).toList)))) = true then (some false) else (laws_FnDiskSafe.l1 k x3 x4 x6 x8 x10 x11 (wrap64 (x12 + 1)))) else (none)) else (none)) else (none)) else (none)) else (none)) else (if 0 ≤ x11 then (if x11 ≤ (x8.length : Int) then (laws_FnDiskSafe.l0 k x3 x4 x6 (x8.take (x11 : Int).toNat) x11 (wrap64 (x10 + 1))) else (none)) else (none))
end
def laws_FnDiskSafe.f (k : Nat) (l0 : List Int) : Option (Bool) := (laws_big.f l0).bind fun t831 => (if t831 = true then (some true) else ((spec_DrawDiskRun.f k l0).bind fun t832 => ((spec_DiskRun.f k t832).bind fun bt835 => ((impl_DiskRun.f k t832).bind fun bt839 => (if bt839.2 = bt835.2 then (laws_FnDiskSafe.j0 k t832 bt835.1 bt839.1 ((bt839.1.length : Int) != (bt835.1.length : Int))) else (laws_FnDiskSafe.j0 k t832 bt835.1 bt839.1 true))))))
set_option maxHeartbeats 8000000 in
set_option maxRecDepth 100000 in
theorem laws_FnDiskSafe.calls (k : Nat) (A0 : Option Addr) (c0 : Nat) (l0 : List Int) (r : Bool) (w : World) (hr0 : Kd.C (Kd.int .u8) w A0 l0.length l0) (hc0 : l0.length ≤ c0) (h : laws_FnDiskSafe.f k l0 = some r) (ht_ : r = true) :
  Calls Try.prog 7 #[.slice A0 l0.length c0] w fun e w' => e = .returned (.bool r) ∧ Below w.heap.size w w' := by
 have hu45 := Try.underlying45
 have HR0 := Aside0.mk hr0
 have HC0 := Aside0.mk hc0
 clear hr0 hc0
 have HB := Aside0.mk (Below.refl w.heap.size w)
 have HT9_ := Aside0.mk ht_
 clear ht_
 have H : ((laws_big.f l0).bind fun t831 => (if t831 = true then (some true) else ((spec_DrawDiskRun.f k l0).bind fun t832 => ((spec_DiskRun.f k t832).bind fun bt835 => ((impl_DiskRun.f k t832).bind fun bt839 => (if bt839.2 = bt835.2 then (laws_FnDiskSafe.j0 k t832 bt835.1 bt839.1 ((bt839.1.length : Int) != (bt835.1.length : Int))) else (laws_FnDiskSafe.j0 k t832 bt835.1 bt839.1 true))))))) = some r := h
 clear h
 replace H := Option.bind_eq_some_iff.mp H
 obtain ⟨t831, A20, H⟩ := H
 replace H : (if t831 = true then (some true) else ((spec_DrawDiskRun.f k l0).bind fun t832 => ((spec_DiskRun.f k t832).bind fun bt835 => ((impl_DiskRun.f k t832).bind fun bt839 => (if bt839.2 = bt835.2 then (laws_FnDiskSafe.j0 k t832 bt835.1 bt839.1 ((bt839.1.length : Int) != (bt835.1.length : Int))) else (laws_FnDiskSafe.j0 k t832 bt835.1 bt839.1 true)))))) = some r := H
 have A2 := Aside0.mk A20
 clear A20
 by_cases c3 : t831 = true
 ·subst c3
  have H1 : (some true) = some r := by rw [if_pos rfl] at H; exact H
  clear H
  have H := H1
  clear H1
  obtain rfl := Option.some.inj H
  go_enter Try.func7, Try.ntmps7
  go_wp2_with (first | (go_at_call 20; (with_reducible refine (laws_big.calls _ _ l0 true _ ?side1 ?side2 A2.out).mono ?_); (case side1 => repeat (first | exact HR0.out | (with_reducible refine Kd.C_alloc ?_ _) | (with_reducible refine Kd.C_drewN ?_ _) | (with_reducible refine Kd.C_drew ?_))); (case side2 => exact HC0.out); rintro e w' ⟨rfl, ⟨nd, rfl⟩⟩; (try first | exact ⟨rfl, _, World.drewN_drewN _ _ _⟩ | exact ⟨rfl, _, Eq.trans (World.drewN_drewN _ _ _) (congrArg (World.drewN _) (Nat.add_assoc _ _ _))⟩)))
  repeat (go_quiet (first | (go_at_call 20; (try simp only [i64_w]); (with_reducible refine (laws_big.calls _ _ l0 true _ ?side1 ?side2 A2.out).mono ?_); (case side1 => repeat (first | exact HR0.out | (with_reducible refine Kd.C_alloc ?_ _) | (with_reducible refine Kd.C_drewN ?_ _) | (with_reducible refine Kd.C_drew ?_))); (case side2 => exact HC0.out); rintro e w' ⟨rfl, ⟨nd, rfl⟩⟩; (try first | exact ⟨rfl, _, World.drewN_drewN _ _ _⟩ | exact ⟨rfl, _, Eq.trans (World.drewN_drewN _ _ _) (congrArg (World.drewN _) (Nat.add_assoc _ _ _))⟩))); try go_wp2_with (first | (go_at_call 20; (try simp only [i64_w]); (with_reducible refine (laws_big.calls _ _ l0 true _ ?side1 ?side2 A2.out).mono ?_); (case side1 => repeat (first | exact HR0.out | (with_reducible refine Kd.C_alloc ?_ _) | (with_reducible refine Kd.C_drewN ?_ _) | (with_reducible refine Kd.C_drew ?_))); (case side2 => exact HC0.out); rintro e w' ⟨rfl, ⟨nd, rfl⟩⟩; (try first | exact ⟨rfl, _, World.drewN_drewN _ _ _⟩ | exact ⟨rfl, _, Eq.trans (World.drewN_drewN _ _ _) (congrArg (World.drewN _) (Nat.add_assoc _ _ _))⟩))))
  go_ret
  exact ⟨by first | rfl | (simp [errW_none, errW_some] <;> rfl) | (simp [*, errW_none, errW_some] <;> rfl), zb⟩
 ·replace c3 := Bool.eq_false_iff.mpr c3
  subst c3
  have H1 : ((spec_DrawDiskRun.f k l0).bind fun t832 => ((spec_DiskRun.f k t832).bind fun bt835 => ((impl_DiskRun.f k t832).bind fun bt839 => (if bt839.2 = bt835.2 then (laws_FnDiskSafe.j0 k t832 bt835.1 bt839.1 ((bt839.1.length : Int) != (bt835.1.length : Int))) else (laws_FnDiskSafe.j0 k t832 bt835.1 bt839.1 true))))) = some r := by rw [if_neg (show ¬ (false = true) by decide)] at H; exact H
  clear H
  have H := H1
  clear H1
  replace H := Option.bind_eq_some_iff.mp H
  obtain ⟨t832, A40, H⟩ := H
  replace H : ((spec_DiskRun.f k t832).bind fun bt835 => ((impl_DiskRun.f k t832).bind fun bt839 => (if bt839.2 = bt835.2 then (laws_FnDiskSafe.j0 k t832 bt835.1 bt839.1 ((bt839.1.length : Int) != (bt835.1.length : Int))) else (laws_FnDiskSafe.j0 k t832 bt835.1 bt839.1 true)))) = some r := H
  have A4 := Aside0.mk A40
  clear A40
  replace H := Option.bind_eq_some_iff.mp H
  obtain ⟨⟨t835, t836⟩, A50, H⟩ := H
  replace H : ((impl_DiskRun.f k t832).bind fun bt839 => (if bt839.2 = t836 then (laws_FnDiskSafe.j0 k t832 t835 bt839.1 ((bt839.1.length : Int) != (t835.length : Int))) else (laws_FnDiskSafe.j0 k t832 t835 bt839.1 true))) = some r := H
  have A5 := Aside0.mk A50
  clear A50
  replace H := Option.bind_eq_some_iff.mp H
  obtain ⟨⟨t839, t840⟩, A60, H⟩ := H
  replace H : (if t840 = t836 then (laws_FnDiskSafe.j0 k t832 t835 t839 ((t839.length : Int) != (t835.length : Int))) else (laws_FnDiskSafe.j0 k t832 t835 t839 true)) = some r := H
  have A6 := Aside0.mk A60
  clear A60
  have HC7 := Aside0.mk H
  clear H
  go_enter Try.func7, Try.ntmps7
  go_upto_region 6 with (first | (go_at_call 20; (with_reducible refine (laws_big.calls _ _ l0 false _ ?side1 ?side2 A2.out).mono ?_); (case side1 => repeat (first | exact HR0.out | (with_reducible refine Kd.C_alloc ?_ _) | (with_reducible refine Kd.C_drewN ?_ _) | (with_reducible refine Kd.C_drew ?_))); (case side2 => exact HC0.out); rintro e w' ⟨rfl, ⟨nd, rfl⟩⟩; (try first | exact ⟨rfl, _, World.drewN_drewN _ _ _⟩ | exact ⟨rfl, _, Eq.trans (World.drewN_drewN _ _ _) (congrArg (World.drewN _) (Nat.add_assoc _ _ _))⟩)) | (go_at_call 24; (with_reducible refine (spec_DrawDiskRun.calls k _ _ l0 t832 _ ?side1 ?side2 A4.out).mono ?_); (case side1 => repeat (first | exact HR0.out | (with_reducible refine Kd.C_alloc ?_ _) | (with_reducible refine Kd.C_drewN ?_ _) | (with_reducible refine Kd.C_drew ?_))); (case side2 => exact HC0.out); rintro e w8 ⟨v833, rfl, ho0, hb⟩; have n0_ := Aside0.mk (Kd.R_lower ho0 (below_size zb)); have n1_ := Aside0.mk (below_step zb hb); clear HB; have HO834 := n0_; have HB := n1_; clear n0_ n1_; (try clear hb); (try clear hb2); (try clear hk); (try clear hi); (try clear ho0); obtain ⟨Ao9, co9, eo9⟩ := Kd.R_slice HO834.out; subst eo9) | (go_at_call 25; (with_reducible refine (spec_DiskRun.calls k _ _ t832 t835 t836 _ ?side1 ?side2 A5.out).mono ?_); (case side1 => repeat (first | exact (Kd.R_reads' HO834.out).2.2 | (with_reducible refine Kd.C_alloc ?_ _) | (with_reducible refine Kd.C_drewN ?_ _) | (with_reducible refine Kd.C_drew ?_))); (case side2 => exact (Kd.R_reads' HO834.out).2.1); rintro e w10 ⟨v837, rfl, ho0, hb⟩; have n0_ := Aside0.mk (Kd.R_below (zr HO834.out) hb); have n1_ := Aside0.mk (Kd.S_lower ho0 (below_size zb)); have n2_ := Aside0.mk (below_step zb hb); clear HO834; clear HB; have HO834 := n0_; have HO838 := n1_; have HB := n2_; clear n0_ n1_ n2_; (try clear hb); (try clear hb2); (try clear hk); (try clear hi); (try clear ho0)) | (go_at_call 26; (with_reducible refine (impl_DiskRun.calls k _ _ t832 t839 t840 _ ?side1 ?side2 A6.out).mono ?_); (case side1 => repeat (first | exact (Kd.R_reads' HO834.out).2.2 | (with_reducible refine Kd.C_alloc ?_ _) | (with_reducible refine Kd.C_drewN ?_ _) | (with_reducible refine Kd.C_drew ?_))); (case side2 => exact (Kd.R_reads' HO834.out).2.1); rintro e w11 ⟨v841, rfl, ho0, hb⟩; have n0_ := Aside0.mk (Kd.R_below (zr HO834.out) hb); have n1_ := Aside0.mk (Kd.S_elder' (by (with_reducible repeat (first | apply Kd.S_alloc | apply Kd.S_drewN | apply Kd.S_drew)); exact HO838.out) (Kd.S_base ho0) hb); have n2_ := Aside0.mk (Kd.S_lower (Kd.S_new' ho0 (Kd.S_lt (by (with_reducible repeat (first | apply Kd.S_alloc | apply Kd.S_drewN | apply Kd.S_drew)); exact HO838.out))) (below_size zb)); have n3_ := Aside0.mk (below_step zb hb); clear HO834; clear HO838; clear HB; have HO834 := n0_; have HO838 := n1_; have HO842 := n2_; have HB := n3_; clear n0_ n1_ n2_ n3_; (try clear hb); (try clear hb2); (try clear hk); (try clear hi); (try clear ho0)))
  repeat (go_quiet (first | (go_at_call 20; (try simp only [i64_w]); (with_reducible refine (laws_big.calls _ _ l0 false _ ?side1 ?side2 A2.out).mono ?_); (case side1 => repeat (first | exact HR0.out | (with_reducible refine Kd.C_alloc ?_ _) | (with_reducible refine Kd.C_drewN ?_ _) | (with_reducible refine Kd.C_drew ?_))); (case side2 => exact HC0.out); rintro e w' ⟨rfl, ⟨nd, rfl⟩⟩; (try first | exact ⟨rfl, _, World.drewN_drewN _ _ _⟩ | exact ⟨rfl, _, Eq.trans (World.drewN_drewN _ _ _) (congrArg (World.drewN _) (Nat.add_assoc _ _ _))⟩)) | (go_at_call 24; (try simp only [i64_w]); (with_reducible refine (spec_DrawDiskRun.calls k _ _ l0 t832 _ ?side1 ?side2 A4.out).mono ?_); (case side1 => repeat (first | exact HR0.out | (with_reducible refine Kd.C_alloc ?_ _) | (with_reducible refine Kd.C_drewN ?_ _) | (with_reducible refine Kd.C_drew ?_))); (case side2 => exact HC0.out); rintro e w8 ⟨v833, rfl, ho0, hb⟩; have n0_ := Aside0.mk (Kd.R_lower ho0 (below_size zb)); have n1_ := Aside0.mk (below_step zb hb); clear HB; have HO834 := n0_; have HB := n1_; clear n0_ n1_; (try clear hb); (try clear hb2); (try clear hk); (try clear hi); (try clear ho0); obtain ⟨Ao9, co9, eo9⟩ := Kd.R_slice HO834.out; subst eo9) | (go_at_call 25; (try simp only [i64_w]); (with_reducible refine (spec_DiskRun.calls k _ _ t832 t835 t836 _ ?side1 ?side2 A5.out).mono ?_); (case side1 => repeat (first | exact (Kd.R_reads' HO834.out).2.2 | (with_reducible refine Kd.C_alloc ?_ _) | (with_reducible refine Kd.C_drewN ?_ _) | (with_reducible refine Kd.C_drew ?_))); (case side2 => exact (Kd.R_reads' HO834.out).2.1); rintro e w10 ⟨v837, rfl, ho0, hb⟩; have n0_ := Aside0.mk (Kd.R_below (zr HO834.out) hb); have n1_ := Aside0.mk (Kd.S_lower ho0 (below_size zb)); have n2_ := Aside0.mk (below_step zb hb); clear HO834; clear HB; have HO834 := n0_; have HO838 := n1_; have HB := n2_; clear n0_ n1_ n2_; (try clear hb); (try clear hb2); (try clear hk); (try clear hi); (try clear ho0)) | (go_at_call 26; (try simp only [i64_w]); (with_reducible refine (impl_DiskRun.calls k _ _ t832 t839 t840 _ ?side1 ?side2 A6.out).mono ?_); (case side1 => repeat (first | exact (Kd.R_reads' HO834.out).2.2 | (with_reducible refine Kd.C_alloc ?_ _) | (with_reducible refine Kd.C_drewN ?_ _) | (with_reducible refine Kd.C_drew ?_))); (case side2 => exact (Kd.R_reads' HO834.out).2.1); rintro e w11 ⟨v841, rfl, ho0, hb⟩; have n0_ := Aside0.mk (Kd.R_below (zr HO834.out) hb); have n1_ := Aside0.mk (Kd.S_elder' (by (with_reducible repeat (first | apply Kd.S_alloc | apply Kd.S_drewN | apply Kd.S_drew)); exact HO838.out) (Kd.S_base ho0) hb); have n2_ := Aside0.mk (Kd.S_lower (Kd.S_new' ho0 (Kd.S_lt (by (with_reducible repeat (first | apply Kd.S_alloc | apply Kd.S_drewN | apply Kd.S_drew)); exact HO838.out))) (below_size zb)); have n3_ := Aside0.mk (below_step zb hb); clear HO834; clear HO838; clear HB; have HO834 := n0_; have HO838 := n1_; have HO842 := n2_; have HB := n3_; clear n0_ n1_ n2_ n3_; (try clear hb); (try clear hb2); (try clear hk); (try clear hi); (try clear ho0))); go_upto_region 6 with (first | (go_at_call 20; (try simp only [i64_w]); (with_reducible refine (laws_big.calls _ _ l0 false _ ?side1 ?side2 A2.out).mono ?_); (case side1 => repeat (first | exact HR0.out | (with_reducible refine Kd.C_alloc ?_ _) | (with_reducible refine Kd.C_drewN ?_ _) | (with_reducible refine Kd.C_drew ?_))); (case side2 => exact HC0.out); rintro e w' ⟨rfl, ⟨nd, rfl⟩⟩; (try first | exact ⟨rfl, _, World.drewN_drewN _ _ _⟩ | exact ⟨rfl, _, Eq.trans (World.drewN_drewN _ _ _) (congrArg (World.drewN _) (Nat.add_assoc _ _ _))⟩)) | (go_at_call 24; (try simp only [i64_w]); (with_reducible refine (spec_DrawDiskRun.calls k _ _ l0 t832 _ ?side1 ?side2 A4.out).mono ?_); (case side1 => repeat (first | exact HR0.out | (with_reducible refine Kd.C_alloc ?_ _) | (with_reducible refine Kd.C_drewN ?_ _) | (with_reducible refine Kd.C_drew ?_))); (case side2 => exact HC0.out); rintro e w8 ⟨v833, rfl, ho0, hb⟩; have n0_ := Aside0.mk (Kd.R_lower ho0 (below_size zb)); have n1_ := Aside0.mk (below_step zb hb); clear HB; have HO834 := n0_; have HB := n1_; clear n0_ n1_; (try clear hb); (try clear hb2); (try clear hk); (try clear hi); (try clear ho0); obtain ⟨Ao9, co9, eo9⟩ := Kd.R_slice HO834.out; subst eo9) | (go_at_call 25; (try simp only [i64_w]); (with_reducible refine (spec_DiskRun.calls k _ _ t832 t835 t836 _ ?side1 ?side2 A5.out).mono ?_); (case side1 => repeat (first | exact (Kd.R_reads' HO834.out).2.2 | (with_reducible refine Kd.C_alloc ?_ _) | (with_reducible refine Kd.C_drewN ?_ _) | (with_reducible refine Kd.C_drew ?_))); (case side2 => exact (Kd.R_reads' HO834.out).2.1); rintro e w10 ⟨v837, rfl, ho0, hb⟩; have n0_ := Aside0.mk (Kd.R_below (zr HO834.out) hb); have n1_ := Aside0.mk (Kd.S_lower ho0 (below_size zb)); have n2_ := Aside0.mk (below_step zb hb); clear HO834; clear HB; have HO834 := n0_; have HO838 := n1_; have HB := n2_; clear n0_ n1_ n2_; (try clear hb); (try clear hb2); (try clear hk); (try clear hi); (try clear ho0)) | (go_at_call 26; (try simp only [i64_w]); (with_reducible refine (impl_DiskRun.calls k _ _ t832 t839 t840 _ ?side1 ?side2 A6.out).mono ?_); (case side1 => repeat (first | exact (Kd.R_reads' HO834.out).2.2 | (with_reducible refine Kd.C_alloc ?_ _) | (with_reducible refine Kd.C_drewN ?_ _) | (with_reducible refine Kd.C_drew ?_))); (case side2 => exact (Kd.R_reads' HO834.out).2.1); rintro e w11 ⟨v841, rfl, ho0, hb⟩; have n0_ := Aside0.mk (Kd.R_below (zr HO834.out) hb); have n1_ := Aside0.mk (Kd.S_elder' (by (with_reducible repeat (first | apply Kd.S_alloc | apply Kd.S_drewN | apply Kd.S_drew)); exact HO838.out) (Kd.S_base ho0) hb); have n2_ := Aside0.mk (Kd.S_lower (Kd.S_new' ho0 (Kd.S_lt (by (with_reducible repeat (first | apply Kd.S_alloc | apply Kd.S_drewN | apply Kd.S_drew)); exact HO838.out))) (below_size zb)); have n3_ := Aside0.mk (below_step zb hb); clear HO834; clear HO838; clear HB; have HO834 := n0_; have HO838 := n1_; have HO842 := n2_; have HB := n3_; clear n0_ n1_ n2_ n3_; (try clear hb); (try clear hb2); (try clear hk); (try clear hi); (try clear ho0))))
  (try simp only [Act.put, List.setIfInBounds_toArray, List.set_cons_zero, List.set_cons_succ])
  go_cut [36] (fun v36 wc => ∃ (kq : Nat) (x36_6 : Bool), v36 = .bool x36_6 ∧ Aside0 (laws_FnDiskSafe.j0 kq t832 t835 t839 x36_6 = some r) ∧ Aside0 (kq ≤ k) ∧ Aside0 (Kd.R k56 56 wc w.heap.size (fun _ => True) (.slice Ao9 t832.length co9) t832) ∧ Aside0 (Kd.S k54 54 wc w.heap.size (fun k_ => some k_ ≠ (v841 : Value).ownBlock) v837 t835) ∧ Aside0 (Kd.S k54 54 wc w.heap.size (fun k_ => some k_ ≠ (v837 : Value).ownBlock) v841 t839) ∧ Aside0 (Below w.heap.size w wc))
  case first =>
   have H := HC7.out
   clear HC7
   by_cases c12 : t840 = t836
   ·rw [if_pos c12] at H
    have c12b0 : (t840 == t836) = true := beq_iff_eq.mpr c12
    have c12b1 : (t840 != t836) = false := bne_eq_false_iff_eq.mpr c12
    clear c12
    (first | rw [c12b0] | (simp only [i64_w, i32_w]; rw [c12b0]) | skip)
    have H' := Aside0.mk H
    clear H
    obtain ⟨Ao13, co13, eo13⟩ := Kd.S_slice HO842.out
    subst eo13
    obtain ⟨Ao14, co14, eo14⟩ := Kd.S_slice HO838.out
    subst eo14
    go_wp2
    repeat (go_quiet (fail); try go_wp2)
    go_meet
    case rel => exact ⟨_, (((t839.length : Int) != (t835.length : Int))), (by first | rfl | (simp; done) | (simp [*]; done)), H', ⟨by first | omega | exact Nat.le_refl _⟩, ⟨zr HO834.out⟩, ⟨by (with_reducible repeat (first | apply Kd.S_alloc | apply Kd.S_drewN | apply Kd.S_drew)); exact Kd.S_mono HO838.out (fun _ hk => hk.2)⟩, ⟨by (with_reducible repeat (first | apply Kd.S_alloc | apply Kd.S_drewN | apply Kd.S_drew)); exact Kd.S_mono HO842.out (fun _ hk => hk.2)⟩, ⟨zb⟩⟩
   ·rw [if_neg c12] at H
    have c12b0 : (t840 == t836) = false := beq_eq_false_iff_ne.mpr c12
    have c12b1 : (t840 != t836) = true := bne_iff_ne.mpr c12
    (first | rw [c12b0] | (simp only [i64_w, i32_w]; rw [c12b0]) | skip)
    have H' := Aside0.mk H
    clear H
    go_wp2
    repeat (go_quiet (fail); try go_wp2)
    go_meet
    case rel => exact ⟨_, (true), (by first | rfl | (simp; done) | (simp [*]; done)), H', ⟨by first | omega | exact Nat.le_refl _⟩, ⟨zr HO834.out⟩, ⟨by (with_reducible repeat (first | apply Kd.S_alloc | apply Kd.S_drewN | apply Kd.S_drew)); exact Kd.S_mono HO838.out (fun _ hk => hk.2)⟩, ⟨by (with_reducible repeat (first | apply Kd.S_alloc | apply Kd.S_drewN | apply Kd.S_drew)); exact Kd.S_mono HO842.out (fun _ hk => hk.2)⟩, ⟨zb⟩⟩
  case rest =>
   clear HC7
   try clear c3
   obtain ⟨kq, x36_6, rfl, HA, HJ6, HO_3, HO_4, HO_6, HB⟩ := hcut
   cases kq with
   | zero => exact absurd HA.out (by simp [laws_FnDiskSafe.j0])
   | succ kj6 =>
    have H := HA.out
    clear HA
    simp only [laws_FnDiskSafe.j0] at H
    by_cases c15 : x36_6 = true
    ·subst c15
     have H1 : (some false) = some r := by rw [if_pos rfl] at H; exact H
     clear H
     have H := H1
     clear H1
     exact absurd (Option.some.inj H) (by rw [HT9_.out]; decide)
    ·replace c15 := Bool.eq_false_iff.mpr c15
     subst c15
     have H1 : (laws_FnDiskSafe.l0 kj6 t832 t835 t839 (([] : List (S45))) 0 0) = some r := by rw [if_neg (show ¬ (false = true) by decide)] at H; exact H
     clear H
     have H := H1
     clear H1
     obtain ⟨y843, hy843⟩ : ∃ y_ : List (S45), y_ = (([] : List (S45))) := ⟨_, rfl⟩
     replace H : (laws_FnDiskSafe.l0 kj6 t832 t835 t839 y843 0 0) = some r := by first | (rw [hy843]; with_reducible exact H) | (have H2_ := (Option.bind_some _ _).symm.trans H; rw [hy843]; with_reducible exact H2_) | (have H2_ := (Option.bind_some _ _).symm.trans H; with_reducible exact H2_) | with_reducible exact H | (rw [hy843]; exact H) | exact H
     have Ny843 := Aside0.mk hy843
     clear hy843
     have H' := Aside0.mk H
     clear H
     go_wp2_with (first | ((with_reducible refine gate_dst (N := 37) rfl ?_); (try (refine gate_guard (by rfl) ?_; dsimp only)); refine Kd.R_lit k45 _ 45 ?hg (N := 37) ?hd (xs := ([] : List (S45))) (inner := []) (ok := fun _ => True) (okp := fun _ => True) ?hr ?hp (fun _ hk => hk) trivial (Below.refl _ _) (Nat.le_refl _) (by simp) ?_; (case hd => rfl); (case hg => rfl); (case hr => first | (go_simp; done) | (go_simp; rfl)); (case hp => exact (Reps.none _ _)); intro v844 w16 ho17 hb hg_ hnew_; clear hg_ hnew_; (first | rw [← Ny843.out] at ho17 | (simp only [Int.reduceToNat] at ho17; rw [← Ny843.out] at ho17)); have n0_ := Aside0.mk (Kd.R_below (zr HO_3.out) hb); have n1_ := Aside0.mk (Kd.S_elder' (by (with_reducible repeat (first | apply Kd.S_alloc | apply Kd.S_drewN | apply Kd.S_drew)); exact HO_4.out) (Kd.R_base ho17) hb); have n2_ := Aside0.mk (Kd.S_elder' (by (with_reducible repeat (first | apply Kd.S_alloc | apply Kd.S_drewN | apply Kd.S_drew)); exact HO_6.out) (Kd.R_base ho17) hb); have n3_ := Aside0.mk (Kd.R_lower ho17 (below_size zb)); have n4_ := Aside0.mk (below_step zb hb); clear HO_3; clear HO_4; clear HO_6; clear HB; have HO_3 := n0_; have HO_4 := n1_; have HO_6 := n2_; have HO845 := n3_; have HB := n4_; clear n0_ n1_ n2_ n3_ n4_; clear hb ho17))
     repeat (go_quiet (first | ((with_reducible refine gate_dst (N := 37) rfl ?_); (try (refine gate_guard (by rfl) ?_; dsimp only)); refine Kd.R_lit k45 _ 45 ?hg (N := 37) ?hd (xs := ([] : List (S45))) (inner := []) (ok := fun _ => True) (okp := fun _ => True) ?hr ?hp (fun _ hk => hk) trivial (Below.refl _ _) (Nat.le_refl _) (by simp) ?_; (case hd => rfl); (case hg => rfl); (case hr => first | (go_simp; done) | (go_simp; rfl)); (case hp => exact (Reps.none _ _)); intro v844 w16 ho17 hb hg_ hnew_; clear hg_ hnew_; (first | rw [← Ny843.out] at ho17 | (simp only [Int.reduceToNat] at ho17; rw [← Ny843.out] at ho17)); have n0_ := Aside0.mk (Kd.R_below (zr HO_3.out) hb); have n1_ := Aside0.mk (Kd.S_elder' (by (with_reducible repeat (first | apply Kd.S_alloc | apply Kd.S_drewN | apply Kd.S_drew)); exact HO_4.out) (Kd.R_base ho17) hb); have n2_ := Aside0.mk (Kd.S_elder' (by (with_reducible repeat (first | apply Kd.S_alloc | apply Kd.S_drewN | apply Kd.S_drew)); exact HO_6.out) (Kd.R_base ho17) hb); have n3_ := Aside0.mk (Kd.R_lower ho17 (below_size zb)); have n4_ := Aside0.mk (below_step zb hb); clear HO_3; clear HO_4; clear HO_6; clear HB; have HO_3 := n0_; have HO_4 := n1_; have HO_6 := n2_; have HO845 := n3_; have HB := n4_; clear n0_ n1_ n2_ n3_ n4_; clear hb ho17)); try go_wp2_with (first | ((with_reducible refine gate_dst (N := 37) rfl ?_); (try (refine gate_guard (by rfl) ?_; dsimp only)); refine Kd.R_lit k45 _ 45 ?hg (N := 37) ?hd (xs := ([] : List (S45))) (inner := []) (ok := fun _ => True) (okp := fun _ => True) ?hr ?hp (fun _ hk => hk) trivial (Below.refl _ _) (Nat.le_refl _) (by simp) ?_; (case hd => rfl); (case hg => rfl); (case hr => first | (go_simp; done) | (go_simp; rfl)); (case hp => exact (Reps.none _ _)); intro v844 w16 ho17 hb hg_ hnew_; clear hg_ hnew_; (first | rw [← Ny843.out] at ho17 | (simp only [Int.reduceToNat] at ho17; rw [← Ny843.out] at ho17)); have n0_ := Aside0.mk (Kd.R_below (zr HO_3.out) hb); have n1_ := Aside0.mk (Kd.S_elder' (by (with_reducible repeat (first | apply Kd.S_alloc | apply Kd.S_drewN | apply Kd.S_drew)); exact HO_4.out) (Kd.R_base ho17) hb); have n2_ := Aside0.mk (Kd.S_elder' (by (with_reducible repeat (first | apply Kd.S_alloc | apply Kd.S_drewN | apply Kd.S_drew)); exact HO_6.out) (Kd.R_base ho17) hb); have n3_ := Aside0.mk (Kd.R_lower ho17 (below_size zb)); have n4_ := Aside0.mk (below_step zb hb); clear HO_3; clear HO_4; clear HO_6; clear HB; have HO_3 := n0_; have HO_4 := n1_; have HO_6 := n2_; have HO845 := n3_; have HB := n4_; clear n0_ n1_ n2_ n3_ n4_; clear hb ho17)))
     go_loopg [8, 9, 10] kj6 (fun kq v8 v9 v10 w' => ∃ (x8_2 : List (S45)) (x9_2 : Int) (x10_2 : Int), v9 = .int .i64 x9_2 ∧ v10 = .int .i64 x10_2 ∧ Aside0 (laws_FnDiskSafe.l0 kq t832 t835 t839 x8_2 x9_2 x10_2 = some r) ∧ Aside0 (kq ≤ kj6) ∧ Aside0 (Kd.R k56 56 w' w.heap.size (fun _ => True) (.slice Ao9 t832.length co9) t832) ∧ Aside0 (Kd.S k54 54 w' w.heap.size (fun k_ => some k_ ≠ (v841 : Value).ownBlock ∧ some k_ ≠ (v8 : Value).ownBlock) v837 t835) ∧ Aside0 (Kd.S k54 54 w' w.heap.size (fun k_ => some k_ ≠ (v837 : Value).ownBlock ∧ some k_ ≠ (v8 : Value).ownBlock) v841 t839) ∧ Aside0 (Kd.R k45 45 w' w.heap.size (fun _ => True) v8 x8_2) ∧ Aside0 (Below w.heap.size w w'))
     case atStart => exact ⟨(y843), (0), (0), (by first | rfl | (simp; done) | (simp [*]; done)), (by first | rfl | (simp; done) | (simp [*]; done)), H', ⟨Nat.le_refl _⟩, ⟨zr HO_3.out⟩, ⟨by (with_reducible repeat (first | apply Kd.S_alloc | apply Kd.S_drewN | apply Kd.S_drew)); exact HO_4.out⟩, ⟨by (with_reducible repeat (first | apply Kd.S_alloc | apply Kd.S_drewN | apply Kd.S_drew)); exact HO_6.out⟩, ⟨zr HO845.out⟩, ⟨zb⟩⟩
     case round =>
      clear H'
      try clear c3
      try clear c15
      obtain ⟨x8_2, x9_2, x10_2, rfl, rfl, HA, HK2, HO_3, HO_4, HO_6, HO_8, HB⟩ := hrel
      cases gk with
      | zero => exact absurd HA.out (by simp [laws_FnDiskSafe.l0])
      | succ k2 =>
       have H := HA.out
       clear HA
       simp only [laws_FnDiskSafe.l0] at H
       by_cases c18 : x10_2 < (t839.length : Int)
       ·rw [if_pos c18] at H
        have c18b0 : decide (x10_2 < (t839.length : Int)) = true := decide_eq_true c18
        clear c18
        by_cases c19 : 0 ≤ x10_2
        ·rw [if_pos c19] at H
         have c19b0 : decide (0 ≤ x10_2) = true := decide_eq_true c19
         clear c19
         by_cases c20 : x10_2 < (t835.length : Int)
         ·rw [if_pos c20] at H
          have c20b0 : decide (x10_2 < (t835.length : Int)) = true := decide_eq_true c20
          clear c20
          by_cases c21 : ((rd_T54 t839 x10_2).f0) = ((rd_T54 t835 x10_2).f0)
          ·rw [if_pos c21] at H
           have c21b0 : (((rd_T54 t839 x10_2).f0) == ((rd_T54 t835 x10_2).f0)) = true := beq_iff_eq.mpr c21
           have c21b1 : (((rd_T54 t839 x10_2).f0) != ((rd_T54 t835 x10_2).f0)) = false := bne_eq_false_iff_eq.mpr c21
           clear c21
           by_cases c22 : ((rd_T54 t839 x10_2).f0) = 0
           ·rw [if_pos c22] at H
            have c22b0 : (((rd_T54 t839 x10_2).f0) == 0) = true := beq_iff_eq.mpr c22
            have c22b1 : (((rd_T54 t839 x10_2).f0) != 0) = false := bne_eq_false_iff_eq.mpr c22
            clear c22
            by_cases c23 : x10_2 < (t832.length : Int)
            ·rw [if_pos c23] at H
             have c23b0 : decide (x10_2 < (t832.length : Int)) = true := decide_eq_true c23
             clear c23
             by_cases c24 : ((rd_T56 t832 x10_2).f0) = 1
             ·rw [if_pos c24] at H
              have c24b0 : (((rd_T56 t832 x10_2).f0) == 1) = true := beq_iff_eq.mpr c24
              have c24b1 : (((rd_T56 t832 x10_2).f0) != 1) = false := bne_eq_false_iff_eq.mpr c24
              clear c24
              by_cases c25 : ((rd_T54 t839 x10_2).f1) = (x8_2.length : Int)
              ·rw [if_pos c25] at H
               have c25b0 : (((rd_T54 t839 x10_2).f1) == (x8_2.length : Int)) = true := beq_iff_eq.mpr c25
               have c25b1 : (((rd_T54 t839 x10_2).f1) != (x8_2.length : Int)) = false := bne_eq_false_iff_eq.mpr c25
               clear c25
               by_cases c26 : x8_2.length < 5864062014805
               ·rw [if_pos c26] at H
                have LMc26 := Aside0.mk c26
                clear c26
                obtain ⟨y852, hy852⟩ : ∃ y_ : List (S45), y_ = (x8_2 ++ [(⟨(rd_T56 t832 x10_2).f1.f0, (rd_T56 t832 x10_2).f1.f1⟩ : S45)]) := ⟨_, rfl⟩
                replace H : (laws_FnDiskSafe.l0 k2 t832 t835 t839 y852 x9_2 (wrap64 (x10_2 + 1))) = some r := by first | (rw [hy852]; with_reducible exact H) | (have H2_ := (Option.bind_some _ _).symm.trans H; rw [hy852]; with_reducible exact H2_) | (have H2_ := (Option.bind_some _ _).symm.trans H; with_reducible exact H2_) | with_reducible exact H | (rw [hy852]; exact H) | exact H
                have Ny852 := Aside0.mk hy852
                clear hy852
                have H' := Aside0.mk H
                clear H
                obtain ⟨Ao27, co27, eo27⟩ := Kd.S_slice HO_6.out
                subst eo27
                have p846 : 0 ≤ (x10_2 : Int) := of_decide_eq_true (by first | (with_reducible assumption) | assumption)
                have q846 : x10_2 < (t839.length : Int) := of_decide_eq_true (by first | (with_reducible assumption) | assumption)
                obtain ⟨ad846, A846_2, c846_2, e846, hx846_0, hx846_1, hx846_2, hl846_2, hi846_2⟩ := at_T54 (Kd.S_reads' HO_6.out).2.2 x10_2 p846 q846
                cases e846
                obtain ⟨ce846, hce846, hMe846, hcc846⟩ := Kd.S_get HO_6.out z54 x10_2 p846 (by first | exact q846 | exact of_decide_eq_true (by first | (with_reducible assumption) | assumption) | (have e_ := (Kd.S_reads' HO_6.out).1; omega))
                obtain ⟨ve846_2, rfl, ge846_2⟩ := k54_openM hMe846
                have hv846_2 := hcc846 2 _ rfl
                rw [add_field _ _ 2 (by omega)] at hv846_2
                replace hv846_2 := Option.some.inj (hv846_2.symm.trans hx846_2)
                rw [hv846_2] at ge846_2
                have HL846_2 := Aside0.mk (show Kd.R k45 45 _ _ _ _ ((rd_T54 t839 x10_2).f2) from ge846_2)
                clear hv846_2 ge846_2
                clear hcc846 hce846
                have HR846_2 := Aside0.mk hi846_2
                have HC846_2 := Aside0.mk hl846_2
                clear hi846_2 hl846_2
                replace p846 := eq_true p846
                replace q846 := eq_true q846
                obtain ⟨Ao28, co28, eo28⟩ := Kd.S_slice HO_4.out
                subst eo28
                have p847 : 0 ≤ (x10_2 : Int) := of_decide_eq_true (by first | (with_reducible assumption) | assumption)
                have q847 : x10_2 < (t835.length : Int) := of_decide_eq_true (by first | (with_reducible assumption) | assumption)
                obtain ⟨ad847, A847_2, c847_2, e847, hx847_0, hx847_1, hx847_2, hl847_2, hi847_2⟩ := at_T54 (Kd.S_reads' HO_4.out).2.2 x10_2 p847 q847
                cases e847
                obtain ⟨ce847, hce847, hMe847, hcc847⟩ := Kd.S_get HO_4.out z54 x10_2 p847 (by first | exact q847 | exact of_decide_eq_true (by first | (with_reducible assumption) | assumption) | (have e_ := (Kd.S_reads' HO_4.out).1; omega))
                obtain ⟨ve847_2, rfl, ge847_2⟩ := k54_openM hMe847
                have hv847_2 := hcc847 2 _ rfl
                rw [add_field _ _ 2 (by omega)] at hv847_2
                replace hv847_2 := Option.some.inj (hv847_2.symm.trans hx847_2)
                rw [hv847_2] at ge847_2
                have HL847_2 := Aside0.mk (show Kd.R k45 45 _ _ _ _ ((rd_T54 t835 x10_2).f2) from ge847_2)
                clear hv847_2 ge847_2
                clear hcc847 hce847
                have HR847_2 := Aside0.mk hi847_2
                have HC847_2 := Aside0.mk hl847_2
                clear hi847_2 hl847_2
                replace p847 := eq_true p847
                replace q847 := eq_true q847
                have p848 : 0 ≤ (x10_2 : Int) := of_decide_eq_true (by first | (with_reducible assumption) | assumption)
                have q848 : x10_2 < (t839.length : Int) := of_decide_eq_true (by first | (with_reducible assumption) | assumption)
                obtain ⟨ad848, A848_2, c848_2, e848, hx848_0, hx848_1, hx848_2, hl848_2, hi848_2⟩ := at_T54 (Kd.S_reads' HO_6.out).2.2 x10_2 p848 q848
                obtain rfl : ad846 = ad848 := (by injection e848)
                obtain ⟨ce848, hce848, hMe848, hcc848⟩ := Kd.S_get HO_6.out z54 x10_2 p848 (by first | exact q848 | exact of_decide_eq_true (by first | (with_reducible assumption) | assumption) | (have e_ := (Kd.S_reads' HO_6.out).1; omega))
                obtain ⟨ve848_2, rfl, ge848_2⟩ := k54_openM hMe848
                have hv848_2 := hcc848 2 _ rfl
                rw [add_field _ _ 2 (by omega)] at hv848_2
                replace hv848_2 := Option.some.inj (hv848_2.symm.trans hx848_2)
                rw [hv848_2] at ge848_2
                have HL848_2 := Aside0.mk (show Kd.R k45 45 _ _ _ _ ((rd_T54 t839 x10_2).f2) from ge848_2)
                clear hv848_2 ge848_2
                clear hcc848 hce848
                have HR848_2 := Aside0.mk hi848_2
                have HC848_2 := Aside0.mk hl848_2
                clear hi848_2 hl848_2
                replace p848 := eq_true p848
                replace q848 := eq_true q848
                have ea_ := Option.some.inj (hx846_2.symm.trans hx848_2)
                injection ea_ with ea_ en_ ec_
                subst ea_
                subst ec_
                clear en_
                have p849 : 0 ≤ (x10_2 : Int) := of_decide_eq_true (by first | (with_reducible assumption) | assumption)
                have q849 : x10_2 < (t832.length : Int) := of_decide_eq_true (by first | (with_reducible assumption) | assumption)
                obtain ⟨ad849, e849, hx849_0, hx849_1, hx849_2, hx849_3⟩ := at_T56 (Kd.R_reads' HO_3.out).2.2 x10_2 p849 q849
                cases e849
                replace p849 := eq_true p849
                replace q849 := eq_true q849
                have p850 : 0 ≤ (x10_2 : Int) := of_decide_eq_true (by first | (with_reducible assumption) | assumption)
                have q850 : x10_2 < (t839.length : Int) := of_decide_eq_true (by first | (with_reducible assumption) | assumption)
                obtain ⟨ad850, A850_2, c850_2, e850, hx850_0, hx850_1, hx850_2, hl850_2, hi850_2⟩ := at_T54 (Kd.S_reads' HO_6.out).2.2 x10_2 p850 q850
                obtain rfl : ad846 = ad850 := (by injection e850)
                obtain ⟨ce850, hce850, hMe850, hcc850⟩ := Kd.S_get HO_6.out z54 x10_2 p850 (by first | exact q850 | exact of_decide_eq_true (by first | (with_reducible assumption) | assumption) | (have e_ := (Kd.S_reads' HO_6.out).1; omega))
                obtain ⟨ve850_2, rfl, ge850_2⟩ := k54_openM hMe850
                have hv850_2 := hcc850 2 _ rfl
                rw [add_field _ _ 2 (by omega)] at hv850_2
                replace hv850_2 := Option.some.inj (hv850_2.symm.trans hx850_2)
                rw [hv850_2] at ge850_2
                have HL850_2 := Aside0.mk (show Kd.R k45 45 _ _ _ _ ((rd_T54 t839 x10_2).f2) from ge850_2)
                clear hv850_2 ge850_2
                clear hcc850 hce850
                have HR850_2 := Aside0.mk hi850_2
                have HC850_2 := Aside0.mk hl850_2
                clear hi850_2 hl850_2
                replace p850 := eq_true p850
                replace q850 := eq_true q850
                have ea_ := Option.some.inj (hx846_2.symm.trans hx850_2)
                injection ea_ with ea_ en_ ec_
                subst ea_
                subst ec_
                clear en_
                obtain ⟨Ao29, co29, eo29⟩ := Kd.R_slice HO_8.out
                subst eo29
                have p851 : 0 ≤ (x10_2 : Int) := of_decide_eq_true (by first | (with_reducible assumption) | assumption)
                have q851 : x10_2 < (t832.length : Int) := of_decide_eq_true (by first | (with_reducible assumption) | assumption)
                obtain ⟨ad851, e851, hx851_0, hx851_1, hx851_2, hx851_3⟩ := at_T56 (Kd.R_reads' HO_3.out).2.2 x10_2 p851 q851
                obtain rfl : ad849 = ad851 := (by injection e851)
                replace p851 := eq_true p851
                replace q851 := eq_true q851
                go_wp2_with (first | ((with_reducible refine gate_builtin (b := .append) (xs := #[.tmp 76, .tmp 82]) rfl ?_); (try (refine gate_guard (by rfl) ?_; dsimp only)); at_builtin; refine Kd.R_append k45 (w0 := w) w.heap.size rfl (.tmp 76) (.tmp 82) 33 45 (.agg #[(.int .i64 0), (.string ⟨#[]⟩)]) 24 rfl Try.underlying33 info45 rfl (by decide) (by omega) (.slice Ao29 x8_2.length co29) x8_2 (⟨(rd_T56 t832 x10_2).f1.f0, (rd_T56 t832 x10_2).f1.f1⟩ : S45) [.int .i64 ((rd_T56 t832 x10_2).f1.f0), .string ((rd_T56 t832 x10_2).f1.f1)] (fun _ => True) (fun _ => False) rfl rfl ?aP (fun _ hk => hk.elim) ?aF ?aO ?aB ?aS ?aL ?_; (case aP => exact k45_mkM _ _ _ (⟨(rd_T56 t832 x10_2).f1.f0, (rd_T56 t832 x10_2).f1.f1⟩ : S45)); (case aB => exact zb); (case aF => exact (fun _ _ => trivial)); (case aO => exact (zr HO_8.out)); (case aS => exact (below_size zb)); (case aL => have := LMc26.out; omega); intro v853 w30 ho hb hg hat; rw [← Ny852.out] at ho; have n0_ := Aside0.mk (Kd.R_over' (zr HO_3.out) (Kd.R_typed (zr HO_8.out)) (by decide) hg); have n1_ := Aside0.mk (Kd.S_after (ok := (fun k_ => some k_ ≠ (.slice (some ad846) t839.length co27 : Value).ownBlock)) (by (with_reducible repeat (first | apply Kd.S_alloc | apply Kd.S_drewN | apply Kd.S_drew)); exact HO_4.out) hg hat); have n2_ := Aside0.mk (Kd.S_after (ok := (fun k_ => some k_ ≠ (.slice (some ad847) t835.length co28 : Value).ownBlock)) (by (with_reducible repeat (first | apply Kd.S_alloc | apply Kd.S_drewN | apply Kd.S_drew)); exact HO_6.out) hg hat); have n3_ := Aside0.mk (Kd.R_after (ok := (fun k_ => some k_ ≠ (.slice (some ad847) t835.length co28 : Value).ownBlock ∧ some k_ ≠ (.slice (some ad846) t839.length co27 : Value).ownBlock)) (by (with_reducible repeat (first | apply Kd.R_alloc | apply Kd.R_drewN | apply Kd.R_drew)); exact Kd.R_mono HL846_2.out (fun _ hk => ⟨⟨hk.1.1, hk.2⟩, hk.1.2⟩)) hg hat); have n4_ := Aside0.mk (Kd.R_after (ok := (fun k_ => some k_ ≠ (.slice (some ad847) t835.length co28 : Value).ownBlock ∧ some k_ ≠ (.slice (some ad846) t839.length co27 : Value).ownBlock)) (by (with_reducible repeat (first | apply Kd.R_alloc | apply Kd.R_drewN | apply Kd.R_drew)); exact Kd.R_mono HL847_2.out (fun _ hk => ⟨⟨hk.2, hk.1.1⟩, hk.1.2⟩)) hg hat); have n5_ := Aside0.mk (Kd.R_after (ok := (fun k_ => some k_ ≠ (.slice (some ad847) t835.length co28 : Value).ownBlock ∧ some k_ ≠ (.slice (some ad846) t839.length co27 : Value).ownBlock)) (by (with_reducible repeat (first | apply Kd.R_alloc | apply Kd.R_drewN | apply Kd.R_drew)); exact Kd.R_mono HL848_2.out (fun _ hk => ⟨⟨hk.1.1, hk.2⟩, hk.1.2⟩)) hg hat); have n6_ := Aside0.mk (Kd.R_after (ok := (fun k_ => some k_ ≠ (.slice (some ad847) t835.length co28 : Value).ownBlock ∧ some k_ ≠ (.slice (some ad846) t839.length co27 : Value).ownBlock)) (by (with_reducible repeat (first | apply Kd.R_alloc | apply Kd.R_drewN | apply Kd.R_drew)); exact Kd.R_mono HL850_2.out (fun _ hk => ⟨⟨hk.1.1, hk.2⟩, hk.1.2⟩)) hg hat); have n7_ := Aside0.mk (hb); have n8_ := Aside0.mk (ho); clear HO_3; clear HO_4; clear HO_6; clear HL846_2; clear HL847_2; clear HL848_2; clear HL850_2; clear HB; clear HO_8; have HO_3 := n0_; have HO_4 := n1_; have HO_6 := n2_; have HL846_2 := n3_; have HL847_2 := n4_; have HL848_2 := n5_; have HL850_2 := n6_; have HB := n7_; have HO854 := n8_; clear n0_ n1_ n2_ n3_ n4_ n5_ n6_ n7_ n8_; clear ho hb hg hat))
                repeat (go_quiet (first | ((with_reducible refine gate_builtin (b := .append) (xs := #[.tmp 76, .tmp 82]) rfl ?_); (try (refine gate_guard (by rfl) ?_; dsimp only)); at_builtin; refine Kd.R_append k45 (w0 := w) w.heap.size rfl (.tmp 76) (.tmp 82) 33 45 (.agg #[(.int .i64 0), (.string ⟨#[]⟩)]) 24 rfl Try.underlying33 info45 rfl (by decide) (by omega) (.slice Ao29 x8_2.length co29) x8_2 (⟨(rd_T56 t832 x10_2).f1.f0, (rd_T56 t832 x10_2).f1.f1⟩ : S45) [.int .i64 ((rd_T56 t832 x10_2).f1.f0), .string ((rd_T56 t832 x10_2).f1.f1)] (fun _ => True) (fun _ => False) rfl rfl ?aP (fun _ hk => hk.elim) ?aF ?aO ?aB ?aS ?aL ?_; (case aP => exact k45_mkM _ _ _ (⟨(rd_T56 t832 x10_2).f1.f0, (rd_T56 t832 x10_2).f1.f1⟩ : S45)); (case aB => exact zb); (case aF => exact (fun _ _ => trivial)); (case aO => exact (zr HO_8.out)); (case aS => exact (below_size zb)); (case aL => have := LMc26.out; omega); intro v853 w30 ho hb hg hat; rw [← Ny852.out] at ho; have n0_ := Aside0.mk (Kd.R_over' (zr HO_3.out) (Kd.R_typed (zr HO_8.out)) (by decide) hg); have n1_ := Aside0.mk (Kd.S_after (ok := (fun k_ => some k_ ≠ (.slice (some ad846) t839.length co27 : Value).ownBlock)) (by (with_reducible repeat (first | apply Kd.S_alloc | apply Kd.S_drewN | apply Kd.S_drew)); exact HO_4.out) hg hat); have n2_ := Aside0.mk (Kd.S_after (ok := (fun k_ => some k_ ≠ (.slice (some ad847) t835.length co28 : Value).ownBlock)) (by (with_reducible repeat (first | apply Kd.S_alloc | apply Kd.S_drewN | apply Kd.S_drew)); exact HO_6.out) hg hat); have n3_ := Aside0.mk (Kd.R_after (ok := (fun k_ => some k_ ≠ (.slice (some ad847) t835.length co28 : Value).ownBlock ∧ some k_ ≠ (.slice (some ad846) t839.length co27 : Value).ownBlock)) (by (with_reducible repeat (first | apply Kd.R_alloc | apply Kd.R_drewN | apply Kd.R_drew)); exact Kd.R_mono HL846_2.out (fun _ hk => ⟨⟨hk.1.1, hk.2⟩, hk.1.2⟩)) hg hat); have n4_ := Aside0.mk (Kd.R_after (ok := (fun k_ => some k_ ≠ (.slice (some ad847) t835.length co28 : Value).ownBlock ∧ some k_ ≠ (.slice (some ad846) t839.length co27 : Value).ownBlock)) (by (with_reducible repeat (first | apply Kd.R_alloc | apply Kd.R_drewN | apply Kd.R_drew)); exact Kd.R_mono HL847_2.out (fun _ hk => ⟨⟨hk.2, hk.1.1⟩, hk.1.2⟩)) hg hat); have n5_ := Aside0.mk (Kd.R_after (ok := (fun k_ => some k_ ≠ (.slice (some ad847) t835.length co28 : Value).ownBlock ∧ some k_ ≠ (.slice (some ad846) t839.length co27 : Value).ownBlock)) (by (with_reducible repeat (first | apply Kd.R_alloc | apply Kd.R_drewN | apply Kd.R_drew)); exact Kd.R_mono HL848_2.out (fun _ hk => ⟨⟨hk.1.1, hk.2⟩, hk.1.2⟩)) hg hat); have n6_ := Aside0.mk (Kd.R_after (ok := (fun k_ => some k_ ≠ (.slice (some ad847) t835.length co28 : Value).ownBlock ∧ some k_ ≠ (.slice (some ad846) t839.length co27 : Value).ownBlock)) (by (with_reducible repeat (first | apply Kd.R_alloc | apply Kd.R_drewN | apply Kd.R_drew)); exact Kd.R_mono HL850_2.out (fun _ hk => ⟨⟨hk.1.1, hk.2⟩, hk.1.2⟩)) hg hat); have n7_ := Aside0.mk (hb); have n8_ := Aside0.mk (ho); clear HO_3; clear HO_4; clear HO_6; clear HL846_2; clear HL847_2; clear HL848_2; clear HL850_2; clear HB; clear HO_8; have HO_3 := n0_; have HO_4 := n1_; have HO_6 := n2_; have HL846_2 := n3_; have HL847_2 := n4_; have HL848_2 := n5_; have HL850_2 := n6_; have HB := n7_; have HO854 := n8_; clear n0_ n1_ n2_ n3_ n4_ n5_ n6_ n7_ n8_; clear ho hb hg hat)); try go_wp2_with (first | ((with_reducible refine gate_builtin (b := .append) (xs := #[.tmp 76, .tmp 82]) rfl ?_); (try (refine gate_guard (by rfl) ?_; dsimp only)); at_builtin; refine Kd.R_append k45 (w0 := w) w.heap.size rfl (.tmp 76) (.tmp 82) 33 45 (.agg #[(.int .i64 0), (.string ⟨#[]⟩)]) 24 rfl Try.underlying33 info45 rfl (by decide) (by omega) (.slice Ao29 x8_2.length co29) x8_2 (⟨(rd_T56 t832 x10_2).f1.f0, (rd_T56 t832 x10_2).f1.f1⟩ : S45) [.int .i64 ((rd_T56 t832 x10_2).f1.f0), .string ((rd_T56 t832 x10_2).f1.f1)] (fun _ => True) (fun _ => False) rfl rfl ?aP (fun _ hk => hk.elim) ?aF ?aO ?aB ?aS ?aL ?_; (case aP => exact k45_mkM _ _ _ (⟨(rd_T56 t832 x10_2).f1.f0, (rd_T56 t832 x10_2).f1.f1⟩ : S45)); (case aB => exact zb); (case aF => exact (fun _ _ => trivial)); (case aO => exact (zr HO_8.out)); (case aS => exact (below_size zb)); (case aL => have := LMc26.out; omega); intro v853 w30 ho hb hg hat; rw [← Ny852.out] at ho; have n0_ := Aside0.mk (Kd.R_over' (zr HO_3.out) (Kd.R_typed (zr HO_8.out)) (by decide) hg); have n1_ := Aside0.mk (Kd.S_after (ok := (fun k_ => some k_ ≠ (.slice (some ad846) t839.length co27 : Value).ownBlock)) (by (with_reducible repeat (first | apply Kd.S_alloc | apply Kd.S_drewN | apply Kd.S_drew)); exact HO_4.out) hg hat); have n2_ := Aside0.mk (Kd.S_after (ok := (fun k_ => some k_ ≠ (.slice (some ad847) t835.length co28 : Value).ownBlock)) (by (with_reducible repeat (first | apply Kd.S_alloc | apply Kd.S_drewN | apply Kd.S_drew)); exact HO_6.out) hg hat); have n3_ := Aside0.mk (Kd.R_after (ok := (fun k_ => some k_ ≠ (.slice (some ad847) t835.length co28 : Value).ownBlock ∧ some k_ ≠ (.slice (some ad846) t839.length co27 : Value).ownBlock)) (by (with_reducible repeat (first | apply Kd.R_alloc | apply Kd.R_drewN | apply Kd.R_drew)); exact Kd.R_mono HL846_2.out (fun _ hk => ⟨⟨hk.1.1, hk.2⟩, hk.1.2⟩)) hg hat); have n4_ := Aside0.mk (Kd.R_after (ok := (fun k_ => some k_ ≠ (.slice (some ad847) t835.length co28 : Value).ownBlock ∧ some k_ ≠ (.slice (some ad846) t839.length co27 : Value).ownBlock)) (by (with_reducible repeat (first | apply Kd.R_alloc | apply Kd.R_drewN | apply Kd.R_drew)); exact Kd.R_mono HL847_2.out (fun _ hk => ⟨⟨hk.2, hk.1.1⟩, hk.1.2⟩)) hg hat); have n5_ := Aside0.mk (Kd.R_after (ok := (fun k_ => some k_ ≠ (.slice (some ad847) t835.length co28 : Value).ownBlock ∧ some k_ ≠ (.slice (some ad846) t839.length co27 : Value).ownBlock)) (by (with_reducible repeat (first | apply Kd.R_alloc | apply Kd.R_drewN | apply Kd.R_drew)); exact Kd.R_mono HL848_2.out (fun _ hk => ⟨⟨hk.1.1, hk.2⟩, hk.1.2⟩)) hg hat); have n6_ := Aside0.mk (Kd.R_after (ok := (fun k_ => some k_ ≠ (.slice (some ad847) t835.length co28 : Value).ownBlock ∧ some k_ ≠ (.slice (some ad846) t839.length co27 : Value).ownBlock)) (by (with_reducible repeat (first | apply Kd.R_alloc | apply Kd.R_drewN | apply Kd.R_drew)); exact Kd.R_mono HL850_2.out (fun _ hk => ⟨⟨hk.1.1, hk.2⟩, hk.1.2⟩)) hg hat); have n7_ := Aside0.mk (hb); have n8_ := Aside0.mk (ho); clear HO_3; clear HO_4; clear HO_6; clear HL846_2; clear HL847_2; clear HL848_2; clear HL850_2; clear HB; clear HO_8; have HO_3 := n0_; have HO_4 := n1_; have HO_6 := n2_; have HL846_2 := n3_; have HL847_2 := n4_; have HL848_2 := n5_; have HL850_2 := n6_; have HB := n7_; have HO854 := n8_; clear n0_ n1_ n2_ n3_ n4_ n5_ n6_ n7_ n8_; clear ho hb hg hat)))
                go_roundg k2
                case measure => have := HJ6.out; have := HK2.out; omega
                case rel => exact ⟨(y852), (x9_2), (wrap64 (x10_2 + 1)), (by first | rfl | (simp; done) | (simp [*]; done)), (by first | rfl | (simp; done) | (simp [*]; done)), H', ⟨by have := HJ6.out; have := HK2.out; omega⟩, ⟨zr HO_3.out⟩, ⟨by (with_reducible repeat (first | apply Kd.S_alloc | apply Kd.S_drewN | apply Kd.S_drew)); exact HO_4.out⟩, ⟨by (with_reducible repeat (first | apply Kd.S_alloc | apply Kd.S_drewN | apply Kd.S_drew)); exact HO_6.out⟩, ⟨zr HO854.out⟩, ⟨zb⟩⟩
               ·rw [if_neg c26] at H
                cases H
              ·rw [if_neg c25] at H
               have c25b0 : (((rd_T54 t839 x10_2).f1) == (x8_2.length : Int)) = false := beq_eq_false_iff_ne.mpr c25
               have c25b1 : (((rd_T54 t839 x10_2).f1) != (x8_2.length : Int)) = true := bne_iff_ne.mpr c25
               exact absurd (Option.some.inj H) (by rw [HT9_.out]; decide)
             ·rw [if_neg c24] at H
              have c24b0 : (((rd_T56 t832 x10_2).f0) == 1) = false := beq_eq_false_iff_ne.mpr c24
              have c24b1 : (((rd_T56 t832 x10_2).f0) != 1) = true := bne_iff_ne.mpr c24
              by_cases c31 : ((rd_T56 t832 x10_2).f0) = 2
              ·rw [if_pos c31] at H
               have c31b0 : (((rd_T56 t832 x10_2).f0) == 2) = true := beq_iff_eq.mpr c31
               have c31b1 : (((rd_T56 t832 x10_2).f0) != 2) = false := bne_eq_false_iff_eq.mpr c31
               clear c31
               have H' := Aside0.mk H
               clear H
               obtain ⟨Ao32, co32, eo32⟩ := Kd.S_slice HO_6.out
               subst eo32
               have p846 : 0 ≤ (x10_2 : Int) := of_decide_eq_true (by first | (with_reducible assumption) | assumption)
               have q846 : x10_2 < (t839.length : Int) := of_decide_eq_true (by first | (with_reducible assumption) | assumption)
               obtain ⟨ad846, A846_2, c846_2, e846, hx846_0, hx846_1, hx846_2, hl846_2, hi846_2⟩ := at_T54 (Kd.S_reads' HO_6.out).2.2 x10_2 p846 q846
               cases e846
               obtain ⟨ce846, hce846, hMe846, hcc846⟩ := Kd.S_get HO_6.out z54 x10_2 p846 (by first | exact q846 | exact of_decide_eq_true (by first | (with_reducible assumption) | assumption) | (have e_ := (Kd.S_reads' HO_6.out).1; omega))
               obtain ⟨ve846_2, rfl, ge846_2⟩ := k54_openM hMe846
               have hv846_2 := hcc846 2 _ rfl
               rw [add_field _ _ 2 (by omega)] at hv846_2
               replace hv846_2 := Option.some.inj (hv846_2.symm.trans hx846_2)
               rw [hv846_2] at ge846_2
               have HL846_2 := Aside0.mk (show Kd.R k45 45 _ _ _ _ ((rd_T54 t839 x10_2).f2) from ge846_2)
               clear hv846_2 ge846_2
               clear hcc846 hce846
               have HR846_2 := Aside0.mk hi846_2
               have HC846_2 := Aside0.mk hl846_2
               clear hi846_2 hl846_2
               replace p846 := eq_true p846
               replace q846 := eq_true q846
               obtain ⟨Ao33, co33, eo33⟩ := Kd.S_slice HO_4.out
               subst eo33
               have p847 : 0 ≤ (x10_2 : Int) := of_decide_eq_true (by first | (with_reducible assumption) | assumption)
               have q847 : x10_2 < (t835.length : Int) := of_decide_eq_true (by first | (with_reducible assumption) | assumption)
               obtain ⟨ad847, A847_2, c847_2, e847, hx847_0, hx847_1, hx847_2, hl847_2, hi847_2⟩ := at_T54 (Kd.S_reads' HO_4.out).2.2 x10_2 p847 q847
               cases e847
               obtain ⟨ce847, hce847, hMe847, hcc847⟩ := Kd.S_get HO_4.out z54 x10_2 p847 (by first | exact q847 | exact of_decide_eq_true (by first | (with_reducible assumption) | assumption) | (have e_ := (Kd.S_reads' HO_4.out).1; omega))
               obtain ⟨ve847_2, rfl, ge847_2⟩ := k54_openM hMe847
               have hv847_2 := hcc847 2 _ rfl
               rw [add_field _ _ 2 (by omega)] at hv847_2
               replace hv847_2 := Option.some.inj (hv847_2.symm.trans hx847_2)
               rw [hv847_2] at ge847_2
               have HL847_2 := Aside0.mk (show Kd.R k45 45 _ _ _ _ ((rd_T54 t835 x10_2).f2) from ge847_2)
               clear hv847_2 ge847_2
               clear hcc847 hce847
               have HR847_2 := Aside0.mk hi847_2
               have HC847_2 := Aside0.mk hl847_2
               clear hi847_2 hl847_2
               replace p847 := eq_true p847
               replace q847 := eq_true q847
               have p848 : 0 ≤ (x10_2 : Int) := of_decide_eq_true (by first | (with_reducible assumption) | assumption)
               have q848 : x10_2 < (t839.length : Int) := of_decide_eq_true (by first | (with_reducible assumption) | assumption)
               obtain ⟨ad848, A848_2, c848_2, e848, hx848_0, hx848_1, hx848_2, hl848_2, hi848_2⟩ := at_T54 (Kd.S_reads' HO_6.out).2.2 x10_2 p848 q848
               obtain rfl : ad846 = ad848 := (by injection e848)
               obtain ⟨ce848, hce848, hMe848, hcc848⟩ := Kd.S_get HO_6.out z54 x10_2 p848 (by first | exact q848 | exact of_decide_eq_true (by first | (with_reducible assumption) | assumption) | (have e_ := (Kd.S_reads' HO_6.out).1; omega))
               obtain ⟨ve848_2, rfl, ge848_2⟩ := k54_openM hMe848
               have hv848_2 := hcc848 2 _ rfl
               rw [add_field _ _ 2 (by omega)] at hv848_2
               replace hv848_2 := Option.some.inj (hv848_2.symm.trans hx848_2)
               rw [hv848_2] at ge848_2
               have HL848_2 := Aside0.mk (show Kd.R k45 45 _ _ _ _ ((rd_T54 t839 x10_2).f2) from ge848_2)
               clear hv848_2 ge848_2
               clear hcc848 hce848
               have HR848_2 := Aside0.mk hi848_2
               have HC848_2 := Aside0.mk hl848_2
               clear hi848_2 hl848_2
               replace p848 := eq_true p848
               replace q848 := eq_true q848
               have ea_ := Option.some.inj (hx846_2.symm.trans hx848_2)
               injection ea_ with ea_ en_ ec_
               subst ea_
               subst ec_
               clear en_
               have p849 : 0 ≤ (x10_2 : Int) := of_decide_eq_true (by first | (with_reducible assumption) | assumption)
               have q849 : x10_2 < (t832.length : Int) := of_decide_eq_true (by first | (with_reducible assumption) | assumption)
               obtain ⟨ad849, e849, hx849_0, hx849_1, hx849_2, hx849_3⟩ := at_T56 (Kd.R_reads' HO_3.out).2.2 x10_2 p849 q849
               cases e849
               replace p849 := eq_true p849
               replace q849 := eq_true q849
               obtain ⟨Ao34, co34, eo34⟩ := Kd.R_slice HO_8.out
               subst eo34
               go_wp2
               repeat (go_quiet (fail); try go_wp2)
               go_roundg k2
               case measure => have := HJ6.out; have := HK2.out; omega
               case rel => exact ⟨(x8_2), ((x8_2.length : Int)), (wrap64 (x10_2 + 1)), (by first | rfl | (simp; done) | (simp [*]; done)), (by first | rfl | (simp; done) | (simp [*]; done)), H', ⟨by have := HJ6.out; have := HK2.out; omega⟩, ⟨zr HO_3.out⟩, ⟨by (with_reducible repeat (first | apply Kd.S_alloc | apply Kd.S_drewN | apply Kd.S_drew)); exact HO_4.out⟩, ⟨by (with_reducible repeat (first | apply Kd.S_alloc | apply Kd.S_drewN | apply Kd.S_drew)); exact HO_6.out⟩, ⟨zr HO_8.out⟩, ⟨zb⟩⟩
              ·rw [if_neg c31] at H
               have c31b0 : (((rd_T56 t832 x10_2).f0) == 2) = false := beq_eq_false_iff_ne.mpr c31
               have c31b1 : (((rd_T56 t832 x10_2).f0) != 2) = true := bne_iff_ne.mpr c31
               by_cases c35 : ((rd_T56 t832 x10_2).f0) = 4
               ·rw [if_pos c35] at H
                have c35b0 : (((rd_T56 t832 x10_2).f0) == 4) = true := beq_iff_eq.mpr c35
                have c35b1 : (((rd_T56 t832 x10_2).f0) != 4) = false := bne_eq_false_iff_eq.mpr c35
                clear c35
                have HC36 := Aside0.mk H
                clear H
                obtain ⟨Ao37, co37, eo37⟩ := Kd.S_slice HO_6.out
                subst eo37
                have p846 : 0 ≤ (x10_2 : Int) := of_decide_eq_true (by first | (with_reducible assumption) | assumption)
                have q846 : x10_2 < (t839.length : Int) := of_decide_eq_true (by first | (with_reducible assumption) | assumption)
                obtain ⟨ad846, A846_2, c846_2, e846, hx846_0, hx846_1, hx846_2, hl846_2, hi846_2⟩ := at_T54 (Kd.S_reads' HO_6.out).2.2 x10_2 p846 q846
                cases e846
                obtain ⟨ce846, hce846, hMe846, hcc846⟩ := Kd.S_get HO_6.out z54 x10_2 p846 (by first | exact q846 | exact of_decide_eq_true (by first | (with_reducible assumption) | assumption) | (have e_ := (Kd.S_reads' HO_6.out).1; omega))
                obtain ⟨ve846_2, rfl, ge846_2⟩ := k54_openM hMe846
                have hv846_2 := hcc846 2 _ rfl
                rw [add_field _ _ 2 (by omega)] at hv846_2
                replace hv846_2 := Option.some.inj (hv846_2.symm.trans hx846_2)
                rw [hv846_2] at ge846_2
                have HL846_2 := Aside0.mk (show Kd.R k45 45 _ _ _ _ ((rd_T54 t839 x10_2).f2) from ge846_2)
                clear hv846_2 ge846_2
                clear hcc846 hce846
                have HR846_2 := Aside0.mk hi846_2
                have HC846_2 := Aside0.mk hl846_2
                clear hi846_2 hl846_2
                replace p846 := eq_true p846
                replace q846 := eq_true q846
                obtain ⟨Ao38, co38, eo38⟩ := Kd.S_slice HO_4.out
                subst eo38
                have p847 : 0 ≤ (x10_2 : Int) := of_decide_eq_true (by first | (with_reducible assumption) | assumption)
                have q847 : x10_2 < (t835.length : Int) := of_decide_eq_true (by first | (with_reducible assumption) | assumption)
                obtain ⟨ad847, A847_2, c847_2, e847, hx847_0, hx847_1, hx847_2, hl847_2, hi847_2⟩ := at_T54 (Kd.S_reads' HO_4.out).2.2 x10_2 p847 q847
                cases e847
                obtain ⟨ce847, hce847, hMe847, hcc847⟩ := Kd.S_get HO_4.out z54 x10_2 p847 (by first | exact q847 | exact of_decide_eq_true (by first | (with_reducible assumption) | assumption) | (have e_ := (Kd.S_reads' HO_4.out).1; omega))
                obtain ⟨ve847_2, rfl, ge847_2⟩ := k54_openM hMe847
                have hv847_2 := hcc847 2 _ rfl
                rw [add_field _ _ 2 (by omega)] at hv847_2
                replace hv847_2 := Option.some.inj (hv847_2.symm.trans hx847_2)
                rw [hv847_2] at ge847_2
                have HL847_2 := Aside0.mk (show Kd.R k45 45 _ _ _ _ ((rd_T54 t835 x10_2).f2) from ge847_2)
                clear hv847_2 ge847_2
                clear hcc847 hce847
                have HR847_2 := Aside0.mk hi847_2
                have HC847_2 := Aside0.mk hl847_2
                clear hi847_2 hl847_2
                replace p847 := eq_true p847
                replace q847 := eq_true q847
                have p848 : 0 ≤ (x10_2 : Int) := of_decide_eq_true (by first | (with_reducible assumption) | assumption)
                have q848 : x10_2 < (t839.length : Int) := of_decide_eq_true (by first | (with_reducible assumption) | assumption)
                obtain ⟨ad848, A848_2, c848_2, e848, hx848_0, hx848_1, hx848_2, hl848_2, hi848_2⟩ := at_T54 (Kd.S_reads' HO_6.out).2.2 x10_2 p848 q848
                obtain rfl : ad846 = ad848 := (by injection e848)
                obtain ⟨ce848, hce848, hMe848, hcc848⟩ := Kd.S_get HO_6.out z54 x10_2 p848 (by first | exact q848 | exact of_decide_eq_true (by first | (with_reducible assumption) | assumption) | (have e_ := (Kd.S_reads' HO_6.out).1; omega))
                obtain ⟨ve848_2, rfl, ge848_2⟩ := k54_openM hMe848
                have hv848_2 := hcc848 2 _ rfl
                rw [add_field _ _ 2 (by omega)] at hv848_2
                replace hv848_2 := Option.some.inj (hv848_2.symm.trans hx848_2)
                rw [hv848_2] at ge848_2
                have HL848_2 := Aside0.mk (show Kd.R k45 45 _ _ _ _ ((rd_T54 t839 x10_2).f2) from ge848_2)
                clear hv848_2 ge848_2
                clear hcc848 hce848
                have HR848_2 := Aside0.mk hi848_2
                have HC848_2 := Aside0.mk hl848_2
                clear hi848_2 hl848_2
                replace p848 := eq_true p848
                replace q848 := eq_true q848
                have ea_ := Option.some.inj (hx846_2.symm.trans hx848_2)
                injection ea_ with ea_ en_ ec_
                subst ea_
                subst ec_
                clear en_
                have p849 : 0 ≤ (x10_2 : Int) := of_decide_eq_true (by first | (with_reducible assumption) | assumption)
                have q849 : x10_2 < (t832.length : Int) := of_decide_eq_true (by first | (with_reducible assumption) | assumption)
                obtain ⟨ad849, e849, hx849_0, hx849_1, hx849_2, hx849_3⟩ := at_T56 (Kd.R_reads' HO_3.out).2.2 x10_2 p849 q849
                cases e849
                replace p849 := eq_true p849
                replace q849 := eq_true q849
                have p855 : 0 ≤ (x10_2 : Int) := of_decide_eq_true (by first | (with_reducible assumption) | assumption)
                have q855 : x10_2 < (t839.length : Int) := of_decide_eq_true (by first | (with_reducible assumption) | assumption)
                obtain ⟨ad855, A855_2, c855_2, e855, hx855_0, hx855_1, hx855_2, hl855_2, hi855_2⟩ := at_T54 (Kd.S_reads' HO_6.out).2.2 x10_2 p855 q855
                obtain rfl : ad846 = ad855 := (by injection e855)
                obtain ⟨ce855, hce855, hMe855, hcc855⟩ := Kd.S_get HO_6.out z54 x10_2 p855 (by first | exact q855 | exact of_decide_eq_true (by first | (with_reducible assumption) | assumption) | (have e_ := (Kd.S_reads' HO_6.out).1; omega))
                obtain ⟨ve855_2, rfl, ge855_2⟩ := k54_openM hMe855
                have hv855_2 := hcc855 2 _ rfl
                rw [add_field _ _ 2 (by omega)] at hv855_2
                replace hv855_2 := Option.some.inj (hv855_2.symm.trans hx855_2)
                rw [hv855_2] at ge855_2
                have HL855_2 := Aside0.mk (show Kd.R k45 45 _ _ _ _ ((rd_T54 t839 x10_2).f2) from ge855_2)
                clear hv855_2 ge855_2
                clear hcc855 hce855
                have HR855_2 := Aside0.mk hi855_2
                have HC855_2 := Aside0.mk hl855_2
                clear hi855_2 hl855_2
                replace p855 := eq_true p855
                replace q855 := eq_true q855
                have ea_ := Option.some.inj (hx846_2.symm.trans hx855_2)
                injection ea_ with ea_ en_ ec_
                subst ea_
                subst ec_
                clear en_
                go_upto_region 25 with (fail)
                repeat (go_quiet (fail); go_upto_region 25 with (fail))
                go_cut [113] (fun v113 wc => ∃ (kq : Nat) (x113_35 : Bool), v113 = .bool x113_35 ∧ Aside0 (laws_FnDiskSafe.j2 kq t832 t835 t839 x8_2 x10_2 (((rd_T54 t839 x10_2).f2).length : Int) x113_35 = some r) ∧ Aside0 (kq ≤ k2) ∧ Aside0 (Kd.R k56 56 wc w.heap.size (fun _ => True) (.slice (some ad849) t832.length co9) t832) ∧ Aside0 (Kd.S k54 54 wc w.heap.size (fun k_ => some k_ ≠ ((.slice (some ad846) t839.length co37) : Value).ownBlock ∧ some k_ ≠ (u8 : Value).ownBlock) (.slice (some ad847) t835.length co38) t835) ∧ Aside0 (Kd.S k54 54 wc w.heap.size (fun k_ => some k_ ≠ ((.slice (some ad847) t835.length co38) : Value).ownBlock ∧ some k_ ≠ (u8 : Value).ownBlock) (.slice (some ad846) t839.length co37) t839) ∧ Aside0 (Kd.R k45 45 wc w.heap.size (fun _ => True) u8 x8_2) ∧ Aside0 (Kd.C k45 wc A846_2 ((rd_T54 t839 x10_2).f2).length ((rd_T54 t839 x10_2).f2)) ∧ Aside0 (Kd.C k45 wc A847_2 ((rd_T54 t835 x10_2).f2).length ((rd_T54 t835 x10_2).f2)) ∧ Aside0 (Kd.C k45 wc A846_2 ((rd_T54 t839 x10_2).f2).length ((rd_T54 t839 x10_2).f2)) ∧ Aside0 (Kd.C k45 wc A846_2 ((rd_T54 t839 x10_2).f2).length ((rd_T54 t839 x10_2).f2)) ∧ Aside0 (Below w.heap.size w wc))
                case first =>
                 have H := HC36.out
                 clear HC36
                 by_cases c39 : (((rd_T54 t839 x10_2).f2).length : Int) < x9_2
                 ·rw [if_pos c39] at H
                  have c39b0 : decide ((((rd_T54 t839 x10_2).f2).length : Int) < x9_2) = true := decide_eq_true c39
                  clear c39
                  (first | rw [c39b0] | (simp only [i64_w, i32_w]; rw [c39b0]) | skip)
                  have H' := Aside0.mk H
                  clear H
                  go_wp2
                  repeat (go_quiet (fail); try go_wp2)
                  go_meet
                  case rel => exact ⟨_, (true), (by first | rfl | (simp; done) | (simp [*]; done)), H', ⟨by have := HJ6.out; have := HK2.out; first | omega | exact Nat.le_refl _⟩, ⟨zr HO_3.out⟩, ⟨by (with_reducible repeat (first | apply Kd.S_alloc | apply Kd.S_drewN | apply Kd.S_drew)); exact HO_4.out⟩, ⟨by (with_reducible repeat (first | apply Kd.S_alloc | apply Kd.S_drewN | apply Kd.S_drew)); exact HO_6.out⟩, ⟨zr HO_8.out⟩, ⟨by repeat (first | (with_reducible exact HR846_2.out) | (with_reducible refine Kd.C_alloc ?_ _) | (with_reducible refine Kd.C_drewN ?_ _) | (with_reducible refine Kd.C_drew ?_) | exact HR846_2.out)⟩, ⟨by repeat (first | (with_reducible exact HR847_2.out) | (with_reducible refine Kd.C_alloc ?_ _) | (with_reducible refine Kd.C_drewN ?_ _) | (with_reducible refine Kd.C_drew ?_) | exact HR847_2.out)⟩, ⟨by repeat (first | (with_reducible exact HR848_2.out) | (with_reducible refine Kd.C_alloc ?_ _) | (with_reducible refine Kd.C_drewN ?_ _) | (with_reducible refine Kd.C_drew ?_) | exact HR848_2.out)⟩, ⟨by repeat (first | (with_reducible exact HR855_2.out) | (with_reducible refine Kd.C_alloc ?_ _) | (with_reducible refine Kd.C_drewN ?_ _) | (with_reducible refine Kd.C_drew ?_) | exact HR855_2.out)⟩, ⟨zb⟩⟩
                 ·rw [if_neg c39] at H
                  have c39b0 : decide ((((rd_T54 t839 x10_2).f2).length : Int) < x9_2) = false := decide_eq_false c39
                  clear c39
                  (first | rw [c39b0] | (simp only [i64_w, i32_w]; rw [c39b0]) | skip)
                  by_cases c40 : (((rd_T54 t839 x10_2).f2).length : Int) > (x8_2.length : Int)
                  ·rw [if_pos c40] at H
                   have c40b0 : decide ((x8_2.length : Int) < (((rd_T54 t839 x10_2).f2).length : Int)) = true := decide_eq_true c40
                   have c40b1 : decide (x8_2.length < ((rd_T54 t839 x10_2).f2).length) = true := decide_eq_true (Int.ofNat_lt.mp c40)
                   clear c40
                   have H' := Aside0.mk H
                   clear H
                   obtain ⟨Ao41, co41, eo41⟩ := Kd.R_slice HO_8.out
                   subst eo41
                   go_wp2
                   repeat (go_quiet (fail); try go_wp2)
                   go_meet
                   case rel => exact ⟨_, (true), (by first | rfl | (simp; done) | (simp [*]; done)), H', ⟨by have := HJ6.out; have := HK2.out; first | omega | exact Nat.le_refl _⟩, ⟨zr HO_3.out⟩, ⟨by (with_reducible repeat (first | apply Kd.S_alloc | apply Kd.S_drewN | apply Kd.S_drew)); exact HO_4.out⟩, ⟨by (with_reducible repeat (first | apply Kd.S_alloc | apply Kd.S_drewN | apply Kd.S_drew)); exact HO_6.out⟩, ⟨zr HO_8.out⟩, ⟨by repeat (first | (with_reducible exact HR846_2.out) | (with_reducible refine Kd.C_alloc ?_ _) | (with_reducible refine Kd.C_drewN ?_ _) | (with_reducible refine Kd.C_drew ?_) | exact HR846_2.out)⟩, ⟨by repeat (first | (with_reducible exact HR847_2.out) | (with_reducible refine Kd.C_alloc ?_ _) | (with_reducible refine Kd.C_drewN ?_ _) | (with_reducible refine Kd.C_drew ?_) | exact HR847_2.out)⟩, ⟨by repeat (first | (with_reducible exact HR848_2.out) | (with_reducible refine Kd.C_alloc ?_ _) | (with_reducible refine Kd.C_drewN ?_ _) | (with_reducible refine Kd.C_drew ?_) | exact HR848_2.out)⟩, ⟨by repeat (first | (with_reducible exact HR855_2.out) | (with_reducible refine Kd.C_alloc ?_ _) | (with_reducible refine Kd.C_drewN ?_ _) | (with_reducible refine Kd.C_drew ?_) | exact HR855_2.out)⟩, ⟨zb⟩⟩
                  ·rw [if_neg c40] at H
                   have c40b0 : decide ((x8_2.length : Int) < (((rd_T54 t839 x10_2).f2).length : Int)) = false := decide_eq_false c40
                   have c40b1 : decide (x8_2.length < ((rd_T54 t839 x10_2).f2).length) = false := decide_eq_false (fun h => c40 (Int.ofNat_lt.mpr h))
                   clear c40
                   have H' := Aside0.mk H
                   clear H
                   obtain ⟨Ao42, co42, eo42⟩ := Kd.R_slice HO_8.out
                   subst eo42
                   have p856 : 0 ≤ (x10_2 : Int) := of_decide_eq_true (by first | (with_reducible assumption) | assumption)
                   have q856 : x10_2 < (t839.length : Int) := of_decide_eq_true (by first | (with_reducible assumption) | assumption)
                   obtain ⟨ad856, A856_2, c856_2, e856, hx856_0, hx856_1, hx856_2, hl856_2, hi856_2⟩ := at_T54 (Kd.S_reads' HO_6.out).2.2 x10_2 p856 q856
                   obtain rfl : ad846 = ad856 := (by injection e856)
                   obtain ⟨ce856, hce856, hMe856, hcc856⟩ := Kd.S_get HO_6.out z54 x10_2 p856 (by first | exact q856 | exact of_decide_eq_true (by first | (with_reducible assumption) | assumption) | (have e_ := (Kd.S_reads' HO_6.out).1; omega))
                   obtain ⟨ve856_2, rfl, ge856_2⟩ := k54_openM hMe856
                   have hv856_2 := hcc856 2 _ rfl
                   rw [add_field _ _ 2 (by omega)] at hv856_2
                   replace hv856_2 := Option.some.inj (hv856_2.symm.trans hx856_2)
                   rw [hv856_2] at ge856_2
                   have HL856_2 := Aside0.mk (show Kd.R k45 45 _ _ _ _ ((rd_T54 t839 x10_2).f2) from ge856_2)
                   clear hv856_2 ge856_2
                   clear hcc856 hce856
                   have HR856_2 := Aside0.mk hi856_2
                   have HC856_2 := Aside0.mk hl856_2
                   clear hi856_2 hl856_2
                   replace p856 := eq_true p856
                   replace q856 := eq_true q856
                   go_wp2
                   repeat (go_quiet (fail); try go_wp2)
                   go_meet
                   case rel => exact ⟨_, ((((rd_T54 t839 x10_2).f1) != (((rd_T54 t839 x10_2).f2).length : Int))), (by first | rfl | (simp; done) | (simp [*]; done)), H', ⟨by have := HJ6.out; have := HK2.out; first | omega | exact Nat.le_refl _⟩, ⟨zr HO_3.out⟩, ⟨by (with_reducible repeat (first | apply Kd.S_alloc | apply Kd.S_drewN | apply Kd.S_drew)); exact HO_4.out⟩, ⟨by (with_reducible repeat (first | apply Kd.S_alloc | apply Kd.S_drewN | apply Kd.S_drew)); exact HO_6.out⟩, ⟨zr HO_8.out⟩, ⟨by repeat (first | (with_reducible exact HR846_2.out) | (with_reducible refine Kd.C_alloc ?_ _) | (with_reducible refine Kd.C_drewN ?_ _) | (with_reducible refine Kd.C_drew ?_) | exact HR846_2.out)⟩, ⟨by repeat (first | (with_reducible exact HR847_2.out) | (with_reducible refine Kd.C_alloc ?_ _) | (with_reducible refine Kd.C_drewN ?_ _) | (with_reducible refine Kd.C_drew ?_) | exact HR847_2.out)⟩, ⟨by repeat (first | (with_reducible exact HR848_2.out) | (with_reducible refine Kd.C_alloc ?_ _) | (with_reducible refine Kd.C_drewN ?_ _) | (with_reducible refine Kd.C_drew ?_) | exact HR848_2.out)⟩, ⟨by repeat (first | (with_reducible exact HR855_2.out) | (with_reducible refine Kd.C_alloc ?_ _) | (with_reducible refine Kd.C_drewN ?_ _) | (with_reducible refine Kd.C_drew ?_) | exact HR855_2.out)⟩, ⟨zb⟩⟩
                case rest =>
                 clear HC36
                 try clear c3
                 try clear c15
                 try clear c18
                 try clear c18b0
                 try clear c19
                 try clear c19b0
                 try clear c20
                 try clear c20b0
                 try clear c21
                 try clear c21b0
                 try clear c21b1
                 try clear c22
                 try clear c22b0
                 try clear c22b1
                 try clear c23
                 try clear c23b0
                 try clear c24
                 try clear c24b0
                 try clear c24b1
                 try clear c31
                 try clear c31b0
                 try clear c31b1
                 try clear c35
                 try clear c35b0
                 try clear c35b1
                 try clear hx846_0
                 try clear hx846_1
                 try clear hx846_2
                 try clear hx847_0
                 try clear hx847_1
                 try clear hx847_2
                 try clear hx848_0
                 try clear hx848_1
                 try clear hx848_2
                 try clear hx849_0
                 try clear hx849_1
                 try clear hx849_2
                 try clear hx849_3
                 try clear hx855_0
                 try clear hx855_1
                 try clear hx855_2
                 try clear p846
                 try clear p847
                 try clear p848
                 try clear p849
                 try clear p855
                 try clear q846
                 try clear q847
                 try clear q848
                 try clear q849
                 try clear q855
                 obtain ⟨kq, x113_35, rfl, HA, HJ35, HO_3, HO_4, HO_6, HO_8, HR846_2, HR847_2, HR848_2, HR855_2, HB⟩ := hcut
                 cases kq with
                 | zero => exact absurd HA.out (by simp [laws_FnDiskSafe.j2])
                 | succ kj35 =>
                  have H := HA.out
                  clear HA
                  simp only [laws_FnDiskSafe.j2] at H
                  by_cases c43 : x113_35 = true
                  ·subst c43
                   have H1 : (some false) = some r := by rw [if_pos rfl] at H; exact H
                   clear H
                   have H := H1
                   clear H1
                   exact absurd (Option.some.inj H) (by rw [HT9_.out]; decide)
                  ·replace c43 := Bool.eq_false_iff.mpr c43
                   subst c43
                   have H1 : (laws_FnDiskSafe.l1 kj35 t832 t835 t839 x8_2 x10_2 (((rd_T54 t839 x10_2).f2).length : Int) 0) = some r := by rw [if_neg (show ¬ (false = true) by decide)] at H; exact H
                   clear H
                   have H := H1
                   clear H1
                   have H' := Aside0.mk H
                   clear H
                   go_wp2
                   repeat (go_quiet (fail); try go_wp2)
                   go_loopg [12] kj35 (fun kq v12 w' => ∃ (x12_4 : Int), v12 = .int .i64 x12_4 ∧ Aside0 (laws_FnDiskSafe.l1 kq t832 t835 t839 x8_2 x10_2 (((rd_T54 t839 x10_2).f2).length : Int) x12_4 = some r) ∧ Aside0 (kq ≤ kj35) ∧ Aside0 (Kd.R k56 56 w' w.heap.size (fun _ => True) (.slice (some ad849) t832.length co9) t832) ∧ Aside0 (Kd.S k54 54 w' w.heap.size (fun k_ => some k_ ≠ ((.slice (some ad846) t839.length co37) : Value).ownBlock ∧ some k_ ≠ (u8 : Value).ownBlock) (.slice (some ad847) t835.length co38) t835) ∧ Aside0 (Kd.S k54 54 w' w.heap.size (fun k_ => some k_ ≠ ((.slice (some ad847) t835.length co38) : Value).ownBlock ∧ some k_ ≠ (u8 : Value).ownBlock) (.slice (some ad846) t839.length co37) t839) ∧ Aside0 (Kd.R k45 45 w' w.heap.size (fun _ => True) u8 x8_2) ∧ Aside0 (Kd.C k45 w' A846_2 ((rd_T54 t839 x10_2).f2).length ((rd_T54 t839 x10_2).f2)) ∧ Aside0 (Kd.C k45 w' A847_2 ((rd_T54 t835 x10_2).f2).length ((rd_T54 t835 x10_2).f2)) ∧ Aside0 (Kd.C k45 w' A846_2 ((rd_T54 t839 x10_2).f2).length ((rd_T54 t839 x10_2).f2)) ∧ Aside0 (Kd.C k45 w' A846_2 ((rd_T54 t839 x10_2).f2).length ((rd_T54 t839 x10_2).f2)) ∧ Aside0 (Below w.heap.size w w'))
                   case atStart => exact ⟨(0), (by first | rfl | (simp; done) | (simp [*]; done)), H', ⟨Nat.le_refl _⟩, ⟨zr HO_3.out⟩, ⟨by (with_reducible repeat (first | apply Kd.S_alloc | apply Kd.S_drewN | apply Kd.S_drew)); exact HO_4.out⟩, ⟨by (with_reducible repeat (first | apply Kd.S_alloc | apply Kd.S_drewN | apply Kd.S_drew)); exact HO_6.out⟩, ⟨zr HO_8.out⟩, ⟨by repeat (first | (with_reducible exact HR846_2.out) | (with_reducible refine Kd.C_alloc ?_ _) | (with_reducible refine Kd.C_drewN ?_ _) | (with_reducible refine Kd.C_drew ?_) | exact HR846_2.out)⟩, ⟨by repeat (first | (with_reducible exact HR847_2.out) | (with_reducible refine Kd.C_alloc ?_ _) | (with_reducible refine Kd.C_drewN ?_ _) | (with_reducible refine Kd.C_drew ?_) | exact HR847_2.out)⟩, ⟨by repeat (first | (with_reducible exact HR848_2.out) | (with_reducible refine Kd.C_alloc ?_ _) | (with_reducible refine Kd.C_drewN ?_ _) | (with_reducible refine Kd.C_drew ?_) | exact HR848_2.out)⟩, ⟨by repeat (first | (with_reducible exact HR855_2.out) | (with_reducible refine Kd.C_alloc ?_ _) | (with_reducible refine Kd.C_drewN ?_ _) | (with_reducible refine Kd.C_drew ?_) | exact HR855_2.out)⟩, ⟨zb⟩⟩
                   case round =>
                    clear H'
                    try clear c3
                    try clear c15
                    try clear c18
                    try clear c18b0
                    try clear c19
                    try clear c19b0
                    try clear c20
                    try clear c20b0
                    try clear c21
                    try clear c21b0
                    try clear c21b1
                    try clear c22
                    try clear c22b0
                    try clear c22b1
                    try clear c23
                    try clear c23b0
                    try clear c24
                    try clear c24b0
                    try clear c24b1
                    try clear c31
                    try clear c31b0
                    try clear c31b1
                    try clear c35
                    try clear c35b0
                    try clear c35b1
                    try clear c43
                    try clear hx846_0
                    try clear hx846_1
                    try clear hx846_2
                    try clear hx847_0
                    try clear hx847_1
                    try clear hx847_2
                    try clear hx848_0
                    try clear hx848_1
                    try clear hx848_2
                    try clear hx849_0
                    try clear hx849_1
                    try clear hx849_2
                    try clear hx849_3
                    try clear hx855_0
                    try clear hx855_1
                    try clear hx855_2
                    try clear p846
                    try clear p847
                    try clear p848
                    try clear p849
                    try clear p855
                    try clear q846
                    try clear q847
                    try clear q848
                    try clear q849
                    try clear q855
                    obtain ⟨x12_4, rfl, HA, HK4, HO_3, HO_4, HO_6, HO_8, HR846_2, HR847_2, HR848_2, HR855_2, HB⟩ := hrel
                    cases gk with
                    | zero => exact absurd HA.out (by simp [laws_FnDiskSafe.l1])
                    | succ k4 =>
                     have H := HA.out
                     clear HA
                     simp only [laws_FnDiskSafe.l1] at H
                     by_cases c44 : x12_4 < (((rd_T54 t839 x10_2).f2).length : Int)
                     ·rw [if_pos c44] at H
                      have c44b0 : decide (x12_4 < (((rd_T54 t839 x10_2).f2).length : Int)) = true := decide_eq_true c44
                      clear c44
                      by_cases c45 : 0 ≤ x10_2
                      ·rw [if_pos c45] at H
                       have c45b0 : decide (0 ≤ x10_2) = true := decide_eq_true c45
                       clear c45
                       by_cases c46 : x10_2 < (t839.length : Int)
                       ·rw [if_pos c46] at H
                        have c46b0 : decide (x10_2 < (t839.length : Int)) = true := decide_eq_true c46
                        clear c46
                        by_cases c47 : 0 ≤ x12_4
                        ·rw [if_pos c47] at H
                         have c47b0 : decide (0 ≤ x12_4) = true := decide_eq_true c47
                         clear c47
                         by_cases c48 : x12_4 < (((rd_T54 t839 x10_2).f2).length : Int)
                         ·rw [if_pos c48] at H
                          have c48b0 : decide (x12_4 < (((rd_T54 t839 x10_2).f2).length : Int)) = true := decide_eq_true c48
                          clear c48
                          by_cases c49 : x12_4 < (x8_2.length : Int)
                          ·rw [if_pos c49] at H
                           have c49b0 : decide (x12_4 < (x8_2.length : Int)) = true := decide_eq_true c49
                           clear c49
                           by_cases c50 : (!(((rd_T45 ((rd_T54 t839 x10_2).f2) x12_4).f0) == ((rd_T45 x8_2 x12_4).f0)) || (!((((rd_T45 ((rd_T54 t839 x10_2).f2) x12_4).f1).toList) == (((rd_T45 x8_2 x12_4).f1).toList)))) = true
                           ·rw [if_pos c50] at H
                            have c50b0 : (!(((rd_T45 ((rd_T54 t839 x10_2).f2) x12_4).f0) == ((rd_T45 x8_2 x12_4).f0)) || (!((((rd_T45 ((rd_T54 t839 x10_2).f2) x12_4).f1).toList) == (((rd_T45 x8_2 x12_4).f1).toList)))) = true := c50
                            clear c50
                            exact absurd (Option.some.inj H) (by rw [HT9_.out]; decide)
                           ·rw [if_neg c50] at H
                            have c50b0 : (!(((rd_T45 ((rd_T54 t839 x10_2).f2) x12_4).f0) == ((rd_T45 x8_2 x12_4).f0)) || (!((((rd_T45 ((rd_T54 t839 x10_2).f2) x12_4).f1).toList) == (((rd_T45 x8_2 x12_4).f1).toList)))) = false := by simpa using c50
                            clear c50
                            have H' := Aside0.mk H
                            clear H
                            have p857 : 0 ≤ (x10_2 : Int) := of_decide_eq_true (by first | (with_reducible assumption) | assumption)
                            have q857 : x10_2 < (t839.length : Int) := of_decide_eq_true (by first | (with_reducible assumption) | assumption)
                            obtain ⟨ad857, A857_2, c857_2, e857, hx857_0, hx857_1, hx857_2, hl857_2, hi857_2⟩ := at_T54 (Kd.S_reads' HO_6.out).2.2 x10_2 p857 q857
                            obtain rfl : ad846 = ad857 := (by injection e857)
                            obtain ⟨ce857, hce857, hMe857, hcc857⟩ := Kd.S_get HO_6.out z54 x10_2 p857 (by first | exact q857 | exact of_decide_eq_true (by first | (with_reducible assumption) | assumption) | (have e_ := (Kd.S_reads' HO_6.out).1; omega))
                            obtain ⟨ve857_2, rfl, ge857_2⟩ := k54_openM hMe857
                            have hv857_2 := hcc857 2 _ rfl
                            rw [add_field _ _ 2 (by omega)] at hv857_2
                            replace hv857_2 := Option.some.inj (hv857_2.symm.trans hx857_2)
                            rw [hv857_2] at ge857_2
                            have HL857_2 := Aside0.mk (show Kd.R k45 45 _ _ _ _ ((rd_T54 t839 x10_2).f2) from ge857_2)
                            clear hv857_2 ge857_2
                            clear hcc857 hce857
                            have HR857_2 := Aside0.mk hi857_2
                            have HC857_2 := Aside0.mk hl857_2
                            clear hi857_2 hl857_2
                            replace p857 := eq_true p857
                            replace q857 := eq_true q857
                            have p858 : 0 ≤ (x12_4 : Int) := of_decide_eq_true (by first | (with_reducible assumption) | assumption)
                            have q858 : x12_4 < (((rd_T54 t839 x10_2).f2).length : Int) := of_decide_eq_true (by first | (with_reducible assumption) | assumption)
                            obtain ⟨ad858, e858, hx858_0, hx858_1⟩ := at_T45 (by repeat (first | (with_reducible exact HR857_2.out) | (with_reducible refine Kd.C_alloc ?_ _) | (with_reducible refine Kd.C_drewN ?_ _) | (with_reducible refine Kd.C_drew ?_) | exact HR857_2.out)) x12_4 p858 q858
                            cases e858
                            replace p858 := eq_true p858
                            replace q858 := eq_true q858
                            obtain ⟨Ao51, co51, eo51⟩ := Kd.R_slice HO_8.out
                            subst eo51
                            have p859 : 0 ≤ (x12_4 : Int) := of_decide_eq_true (by first | (with_reducible assumption) | assumption)
                            have q859 : x12_4 < (x8_2.length : Int) := of_decide_eq_true (by first | (with_reducible assumption) | assumption)
                            obtain ⟨ad859, e859, hx859_0, hx859_1⟩ := at_T45 (Kd.R_reads' HO_8.out).2.2 x12_4 p859 q859
                            cases e859
                            replace p859 := eq_true p859
                            replace q859 := eq_true q859
                            go_wp2
                            repeat (go_quiet (fail); try go_wp2)
                            go_roundg k4
                            case measure => have := HJ6.out; have := HK2.out; have := HJ35.out; have := HK4.out; omega
                            case rel => exact ⟨(wrap64 (x12_4 + 1)), (by first | rfl | (simp; done) | (simp [*]; done)), H', ⟨by have := HJ6.out; have := HK2.out; have := HJ35.out; have := HK4.out; omega⟩, ⟨zr HO_3.out⟩, ⟨by (with_reducible repeat (first | apply Kd.S_alloc | apply Kd.S_drewN | apply Kd.S_drew)); exact HO_4.out⟩, ⟨by (with_reducible repeat (first | apply Kd.S_alloc | apply Kd.S_drewN | apply Kd.S_drew)); exact HO_6.out⟩, ⟨zr HO_8.out⟩, ⟨by repeat (first | (with_reducible exact HR846_2.out) | (with_reducible refine Kd.C_alloc ?_ _) | (with_reducible refine Kd.C_drewN ?_ _) | (with_reducible refine Kd.C_drew ?_) | exact HR846_2.out)⟩, ⟨by repeat (first | (with_reducible exact HR847_2.out) | (with_reducible refine Kd.C_alloc ?_ _) | (with_reducible refine Kd.C_drewN ?_ _) | (with_reducible refine Kd.C_drew ?_) | exact HR847_2.out)⟩, ⟨by repeat (first | (with_reducible exact HR848_2.out) | (with_reducible refine Kd.C_alloc ?_ _) | (with_reducible refine Kd.C_drewN ?_ _) | (with_reducible refine Kd.C_drew ?_) | exact HR848_2.out)⟩, ⟨by repeat (first | (with_reducible exact HR855_2.out) | (with_reducible refine Kd.C_alloc ?_ _) | (with_reducible refine Kd.C_drewN ?_ _) | (with_reducible refine Kd.C_drew ?_) | exact HR855_2.out)⟩, ⟨zb⟩⟩
                          ·rw [if_neg c49] at H
                           cases H
                         ·rw [if_neg c48] at H
                          cases H
                        ·rw [if_neg c47] at H
                         cases H
                       ·rw [if_neg c46] at H
                        cases H
                      ·rw [if_neg c45] at H
                       cases H
                     ·rw [if_neg c44] at H
                      have c44b0 : decide (x12_4 < (((rd_T54 t839 x10_2).f2).length : Int)) = false := decide_eq_false c44
                      clear c44
                      by_cases c52 : 0 ≤ (((rd_T54 t839 x10_2).f2).length : Int)
                      ·rw [if_pos c52] at H
                       have c52b0 := eq_true c52
                       have c52b1 : decide (0 ≤ (((rd_T54 t839 x10_2).f2).length : Int)) = true := decide_eq_true c52
                       clear c52
                       by_cases c53 : (((rd_T54 t839 x10_2).f2).length : Int) ≤ (x8_2.length : Int)
                       ·rw [if_pos c53] at H
                        have c53b0 := eq_true c53
                        have c53b1 : decide ((((rd_T54 t839 x10_2).f2).length : Int) ≤ (x8_2.length : Int)) = true := decide_eq_true c53
                        clear c53
                        obtain ⟨y860, hy860⟩ : ∃ y_ : List (S45), y_ = (x8_2.take ((((rd_T54 t839 x10_2).f2).length : Int) : Int).toNat) := ⟨_, rfl⟩
                        replace H : (laws_FnDiskSafe.l0 k4 t832 t835 t839 y860 (((rd_T54 t839 x10_2).f2).length : Int) (wrap64 (x10_2 + 1))) = some r := by first | (rw [hy860]; with_reducible exact H) | (have H2_ := (Option.bind_some _ _).symm.trans H; rw [hy860]; with_reducible exact H2_) | (have H2_ := (Option.bind_some _ _).symm.trans H; with_reducible exact H2_) | with_reducible exact H | (rw [hy860]; exact H) | exact H
                        have Ny860 := Aside0.mk hy860
                        clear hy860
                        have H' := Aside0.mk H
                        clear H
                        obtain ⟨Ao54, co54, eo54⟩ := Kd.R_slice HO_8.out
                        subst eo54
                        have q55 : ((((rd_T54 t839 x10_2).f2).length : Int) : Int) ≤ ((x8_2.length : Int) : Int) := of_decide_eq_true (by first | (with_reducible assumption) | assumption)
                        obtain ⟨i055, hi055, _, hsz55, _⟩ := info_parts info45
                        have hcut55 := cut_to (P := Try.prog) 33 45 .i64 Try.underlying33 hi055 Ao54 x8_2.length co54 (((rd_T54 t839 x10_2).f2).length : Int) (of_decide_eq_true (by first | (with_reducible assumption) | assumption)) q55 (Kd.R_reads' HO_8.out).2.1
                        have hr55 := Kd.R_take (m := ((((rd_T54 t839 x10_2).f2).length : Int) : Int).toNat) HO_8.out (by omega)
                        have hy55 : y860.length = ((((rd_T54 t839 x10_2).f2).length : Int) : Int).toNat := (by rw [Ny860.out, List.length_take]; omega)
                        rw [← Ny860.out] at hr55
                        rw [← hy55] at hr55 hcut55
                        clear hy55 hi055 hsz55 HO_8
                        have HO862 := Aside0.mk hr55
                        clear hr55
                        replace q55 := eq_true q55
                        go_wp2
                        repeat (go_quiet (fail); try go_wp2)
                        go_roundg k4
                        case measure => have := HJ6.out; have := HK2.out; have := HJ35.out; have := HK4.out; omega
                        case rel => exact ⟨(y860), ((((rd_T54 t839 x10_2).f2).length : Int)), (wrap64 (x10_2 + 1)), (by first | rfl | (simp; done) | (simp [*]; done)), (by first | rfl | (simp; done) | (simp [*]; done)), H', ⟨by have := HJ6.out; have := HK2.out; have := HJ35.out; have := HK4.out; omega⟩, ⟨zr HO_3.out⟩, ⟨by (with_reducible repeat (first | apply Kd.S_alloc | apply Kd.S_drewN | apply Kd.S_drew)); exact Kd.S_mono HO_4.out (fun _ hk => ⟨hk.1, by cases Ao54 <;> exact hk.2⟩)⟩, ⟨by (with_reducible repeat (first | apply Kd.S_alloc | apply Kd.S_drewN | apply Kd.S_drew)); exact Kd.S_mono HO_6.out (fun _ hk => ⟨hk.1, by cases Ao54 <;> exact hk.2⟩)⟩, ⟨zr HO862.out⟩, ⟨zb⟩⟩
                       ·rw [if_neg c53] at H
                        cases H
                      ·rw [if_neg c52] at H
                       cases H
               ·rw [if_neg c35] at H
                have c35b0 : (((rd_T56 t832 x10_2).f0) == 4) = false := beq_eq_false_iff_ne.mpr c35
                have c35b1 : (((rd_T56 t832 x10_2).f0) != 4) = true := bne_iff_ne.mpr c35
                have H' := Aside0.mk H
                clear H
                obtain ⟨Ao56, co56, eo56⟩ := Kd.S_slice HO_6.out
                subst eo56
                have p846 : 0 ≤ (x10_2 : Int) := of_decide_eq_true (by first | (with_reducible assumption) | assumption)
                have q846 : x10_2 < (t839.length : Int) := of_decide_eq_true (by first | (with_reducible assumption) | assumption)
                obtain ⟨ad846, A846_2, c846_2, e846, hx846_0, hx846_1, hx846_2, hl846_2, hi846_2⟩ := at_T54 (Kd.S_reads' HO_6.out).2.2 x10_2 p846 q846
                cases e846
                obtain ⟨ce846, hce846, hMe846, hcc846⟩ := Kd.S_get HO_6.out z54 x10_2 p846 (by first | exact q846 | exact of_decide_eq_true (by first | (with_reducible assumption) | assumption) | (have e_ := (Kd.S_reads' HO_6.out).1; omega))
                obtain ⟨ve846_2, rfl, ge846_2⟩ := k54_openM hMe846
                have hv846_2 := hcc846 2 _ rfl
                rw [add_field _ _ 2 (by omega)] at hv846_2
                replace hv846_2 := Option.some.inj (hv846_2.symm.trans hx846_2)
                rw [hv846_2] at ge846_2
                have HL846_2 := Aside0.mk (show Kd.R k45 45 _ _ _ _ ((rd_T54 t839 x10_2).f2) from ge846_2)
                clear hv846_2 ge846_2
                clear hcc846 hce846
                have HR846_2 := Aside0.mk hi846_2
                have HC846_2 := Aside0.mk hl846_2
                clear hi846_2 hl846_2
                replace p846 := eq_true p846
                replace q846 := eq_true q846
                obtain ⟨Ao57, co57, eo57⟩ := Kd.S_slice HO_4.out
                subst eo57
                have p847 : 0 ≤ (x10_2 : Int) := of_decide_eq_true (by first | (with_reducible assumption) | assumption)
                have q847 : x10_2 < (t835.length : Int) := of_decide_eq_true (by first | (with_reducible assumption) | assumption)
                obtain ⟨ad847, A847_2, c847_2, e847, hx847_0, hx847_1, hx847_2, hl847_2, hi847_2⟩ := at_T54 (Kd.S_reads' HO_4.out).2.2 x10_2 p847 q847
                cases e847
                obtain ⟨ce847, hce847, hMe847, hcc847⟩ := Kd.S_get HO_4.out z54 x10_2 p847 (by first | exact q847 | exact of_decide_eq_true (by first | (with_reducible assumption) | assumption) | (have e_ := (Kd.S_reads' HO_4.out).1; omega))
                obtain ⟨ve847_2, rfl, ge847_2⟩ := k54_openM hMe847
                have hv847_2 := hcc847 2 _ rfl
                rw [add_field _ _ 2 (by omega)] at hv847_2
                replace hv847_2 := Option.some.inj (hv847_2.symm.trans hx847_2)
                rw [hv847_2] at ge847_2
                have HL847_2 := Aside0.mk (show Kd.R k45 45 _ _ _ _ ((rd_T54 t835 x10_2).f2) from ge847_2)
                clear hv847_2 ge847_2
                clear hcc847 hce847
                have HR847_2 := Aside0.mk hi847_2
                have HC847_2 := Aside0.mk hl847_2
                clear hi847_2 hl847_2
                replace p847 := eq_true p847
                replace q847 := eq_true q847
                have p848 : 0 ≤ (x10_2 : Int) := of_decide_eq_true (by first | (with_reducible assumption) | assumption)
                have q848 : x10_2 < (t839.length : Int) := of_decide_eq_true (by first | (with_reducible assumption) | assumption)
                obtain ⟨ad848, A848_2, c848_2, e848, hx848_0, hx848_1, hx848_2, hl848_2, hi848_2⟩ := at_T54 (Kd.S_reads' HO_6.out).2.2 x10_2 p848 q848
                obtain rfl : ad846 = ad848 := (by injection e848)
                obtain ⟨ce848, hce848, hMe848, hcc848⟩ := Kd.S_get HO_6.out z54 x10_2 p848 (by first | exact q848 | exact of_decide_eq_true (by first | (with_reducible assumption) | assumption) | (have e_ := (Kd.S_reads' HO_6.out).1; omega))
                obtain ⟨ve848_2, rfl, ge848_2⟩ := k54_openM hMe848
                have hv848_2 := hcc848 2 _ rfl
                rw [add_field _ _ 2 (by omega)] at hv848_2
                replace hv848_2 := Option.some.inj (hv848_2.symm.trans hx848_2)
                rw [hv848_2] at ge848_2
                have HL848_2 := Aside0.mk (show Kd.R k45 45 _ _ _ _ ((rd_T54 t839 x10_2).f2) from ge848_2)
                clear hv848_2 ge848_2
                clear hcc848 hce848
                have HR848_2 := Aside0.mk hi848_2
                have HC848_2 := Aside0.mk hl848_2
                clear hi848_2 hl848_2
                replace p848 := eq_true p848
                replace q848 := eq_true q848
                have ea_ := Option.some.inj (hx846_2.symm.trans hx848_2)
                injection ea_ with ea_ en_ ec_
                subst ea_
                subst ec_
                clear en_
                have p849 : 0 ≤ (x10_2 : Int) := of_decide_eq_true (by first | (with_reducible assumption) | assumption)
                have q849 : x10_2 < (t832.length : Int) := of_decide_eq_true (by first | (with_reducible assumption) | assumption)
                obtain ⟨ad849, e849, hx849_0, hx849_1, hx849_2, hx849_3⟩ := at_T56 (Kd.R_reads' HO_3.out).2.2 x10_2 p849 q849
                cases e849
                replace p849 := eq_true p849
                replace q849 := eq_true q849
                go_wp2
                repeat (go_quiet (fail); try go_wp2)
                go_roundg k2
                case measure => have := HJ6.out; have := HK2.out; omega
                case rel => exact ⟨(x8_2), (x9_2), (wrap64 (x10_2 + 1)), (by first | rfl | (simp; done) | (simp [*]; done)), (by first | rfl | (simp; done) | (simp [*]; done)), H', ⟨by have := HJ6.out; have := HK2.out; omega⟩, ⟨zr HO_3.out⟩, ⟨by (with_reducible repeat (first | apply Kd.S_alloc | apply Kd.S_drewN | apply Kd.S_drew)); exact HO_4.out⟩, ⟨by (with_reducible repeat (first | apply Kd.S_alloc | apply Kd.S_drewN | apply Kd.S_drew)); exact HO_6.out⟩, ⟨zr HO_8.out⟩, ⟨zb⟩⟩
            ·rw [if_neg c23] at H
             cases H
           ·rw [if_neg c22] at H
            have c22b0 : (((rd_T54 t839 x10_2).f0) == 0) = false := beq_eq_false_iff_ne.mpr c22
            have c22b1 : (((rd_T54 t839 x10_2).f0) != 0) = true := bne_iff_ne.mpr c22
            have H' := Aside0.mk H
            clear H
            obtain ⟨Ao58, co58, eo58⟩ := Kd.S_slice HO_6.out
            subst eo58
            have p846 : 0 ≤ (x10_2 : Int) := of_decide_eq_true (by first | (with_reducible assumption) | assumption)
            have q846 : x10_2 < (t839.length : Int) := of_decide_eq_true (by first | (with_reducible assumption) | assumption)
            obtain ⟨ad846, A846_2, c846_2, e846, hx846_0, hx846_1, hx846_2, hl846_2, hi846_2⟩ := at_T54 (Kd.S_reads' HO_6.out).2.2 x10_2 p846 q846
            cases e846
            obtain ⟨ce846, hce846, hMe846, hcc846⟩ := Kd.S_get HO_6.out z54 x10_2 p846 (by first | exact q846 | exact of_decide_eq_true (by first | (with_reducible assumption) | assumption) | (have e_ := (Kd.S_reads' HO_6.out).1; omega))
            obtain ⟨ve846_2, rfl, ge846_2⟩ := k54_openM hMe846
            have hv846_2 := hcc846 2 _ rfl
            rw [add_field _ _ 2 (by omega)] at hv846_2
            replace hv846_2 := Option.some.inj (hv846_2.symm.trans hx846_2)
            rw [hv846_2] at ge846_2
            have HL846_2 := Aside0.mk (show Kd.R k45 45 _ _ _ _ ((rd_T54 t839 x10_2).f2) from ge846_2)
            clear hv846_2 ge846_2
            clear hcc846 hce846
            have HR846_2 := Aside0.mk hi846_2
            have HC846_2 := Aside0.mk hl846_2
            clear hi846_2 hl846_2
            replace p846 := eq_true p846
            replace q846 := eq_true q846
            obtain ⟨Ao59, co59, eo59⟩ := Kd.S_slice HO_4.out
            subst eo59
            have p847 : 0 ≤ (x10_2 : Int) := of_decide_eq_true (by first | (with_reducible assumption) | assumption)
            have q847 : x10_2 < (t835.length : Int) := of_decide_eq_true (by first | (with_reducible assumption) | assumption)
            obtain ⟨ad847, A847_2, c847_2, e847, hx847_0, hx847_1, hx847_2, hl847_2, hi847_2⟩ := at_T54 (Kd.S_reads' HO_4.out).2.2 x10_2 p847 q847
            cases e847
            obtain ⟨ce847, hce847, hMe847, hcc847⟩ := Kd.S_get HO_4.out z54 x10_2 p847 (by first | exact q847 | exact of_decide_eq_true (by first | (with_reducible assumption) | assumption) | (have e_ := (Kd.S_reads' HO_4.out).1; omega))
            obtain ⟨ve847_2, rfl, ge847_2⟩ := k54_openM hMe847
            have hv847_2 := hcc847 2 _ rfl
            rw [add_field _ _ 2 (by omega)] at hv847_2
            replace hv847_2 := Option.some.inj (hv847_2.symm.trans hx847_2)
            rw [hv847_2] at ge847_2
            have HL847_2 := Aside0.mk (show Kd.R k45 45 _ _ _ _ ((rd_T54 t835 x10_2).f2) from ge847_2)
            clear hv847_2 ge847_2
            clear hcc847 hce847
            have HR847_2 := Aside0.mk hi847_2
            have HC847_2 := Aside0.mk hl847_2
            clear hi847_2 hl847_2
            replace p847 := eq_true p847
            replace q847 := eq_true q847
            have p848 : 0 ≤ (x10_2 : Int) := of_decide_eq_true (by first | (with_reducible assumption) | assumption)
            have q848 : x10_2 < (t839.length : Int) := of_decide_eq_true (by first | (with_reducible assumption) | assumption)
            obtain ⟨ad848, A848_2, c848_2, e848, hx848_0, hx848_1, hx848_2, hl848_2, hi848_2⟩ := at_T54 (Kd.S_reads' HO_6.out).2.2 x10_2 p848 q848
            obtain rfl : ad846 = ad848 := (by injection e848)
            obtain ⟨ce848, hce848, hMe848, hcc848⟩ := Kd.S_get HO_6.out z54 x10_2 p848 (by first | exact q848 | exact of_decide_eq_true (by first | (with_reducible assumption) | assumption) | (have e_ := (Kd.S_reads' HO_6.out).1; omega))
            obtain ⟨ve848_2, rfl, ge848_2⟩ := k54_openM hMe848
            have hv848_2 := hcc848 2 _ rfl
            rw [add_field _ _ 2 (by omega)] at hv848_2
            replace hv848_2 := Option.some.inj (hv848_2.symm.trans hx848_2)
            rw [hv848_2] at ge848_2
            have HL848_2 := Aside0.mk (show Kd.R k45 45 _ _ _ _ ((rd_T54 t839 x10_2).f2) from ge848_2)
            clear hv848_2 ge848_2
            clear hcc848 hce848
            have HR848_2 := Aside0.mk hi848_2
            have HC848_2 := Aside0.mk hl848_2
            clear hi848_2 hl848_2
            replace p848 := eq_true p848
            replace q848 := eq_true q848
            have ea_ := Option.some.inj (hx846_2.symm.trans hx848_2)
            injection ea_ with ea_ en_ ec_
            subst ea_
            subst ec_
            clear en_
            go_wp2
            repeat (go_quiet (fail); try go_wp2)
            go_roundg k2
            case measure => have := HJ6.out; have := HK2.out; omega
            case rel => exact ⟨(x8_2), (x9_2), (wrap64 (x10_2 + 1)), (by first | rfl | (simp; done) | (simp [*]; done)), (by first | rfl | (simp; done) | (simp [*]; done)), H', ⟨by have := HJ6.out; have := HK2.out; omega⟩, ⟨zr HO_3.out⟩, ⟨by (with_reducible repeat (first | apply Kd.S_alloc | apply Kd.S_drewN | apply Kd.S_drew)); exact HO_4.out⟩, ⟨by (with_reducible repeat (first | apply Kd.S_alloc | apply Kd.S_drewN | apply Kd.S_drew)); exact HO_6.out⟩, ⟨zr HO_8.out⟩, ⟨zb⟩⟩
          ·rw [if_neg c21] at H
           have c21b0 : (((rd_T54 t839 x10_2).f0) == ((rd_T54 t835 x10_2).f0)) = false := beq_eq_false_iff_ne.mpr c21
           have c21b1 : (((rd_T54 t839 x10_2).f0) != ((rd_T54 t835 x10_2).f0)) = true := bne_iff_ne.mpr c21
           exact absurd (Option.some.inj H) (by rw [HT9_.out]; decide)
         ·rw [if_neg c20] at H
          cases H
        ·rw [if_neg c19] at H
         cases H
       ·rw [if_neg c18] at H
        have c18b0 : decide (x10_2 < (t839.length : Int)) = false := decide_eq_false c18
        clear c18
        obtain rfl := Option.some.inj H
        obtain ⟨Ao60, co60, eo60⟩ := Kd.S_slice HO_6.out
        subst eo60
        go_wp2
        repeat (go_quiet (fail); try go_wp2)
        go_ret
        exact ⟨by first | rfl | (simp [errW_none, errW_some] <;> rfl) | (simp [*, errW_none, errW_some] <;> rfl), zb⟩

end Go.Proofs.Ytnicllekmkkhlaa.QFnDiskSafe
