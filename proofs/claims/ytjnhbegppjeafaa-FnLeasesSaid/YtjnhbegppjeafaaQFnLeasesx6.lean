/- The functions that the law reaches, each as a plain Lean function with the proof that the Go code comes to its answers: written by a program of this session. No condition. -/
import Derived.Test.YtjnhbegppjeafaaQFnLeasesx0
import Derived.Test.YtjnhbegppjeafaaQFnLeasesx1
import Derived.Test.YtjnhbegppjeafaaQFnLeasesx2
import Derived.Test.YtjnhbegppjeafaaQFnLeasesx3
import Derived.Test.YtjnhbegppjeafaaQFnLeasesx5
namespace Go.Proofs.Ytjnhbegppjeafaa.QFnLeases
open Go.RowKit Go.Proofs.YtjnhbegppjeafaaW.PrintWords Go.Proofs.YtjnhbegppjeafaaW.PrintLast Go.Proofs.YtjnhbegppjeafaaW.PrintMore
attribute [local go_sem] max2_int min2_int max_two min_two max_three min_three max_four min_four str_gtr str_leq str_geq pw_at_slice   -- for this text's walks alone
set_option linter.unusedVariables false
set_option linter.unusedSimpArgs false

/-! ### laws_FnLeases: function 5 -/
set_option maxRecDepth 100000 in
mutual
def laws_FnLeases.j0 : Nat → List (S39) → List (S37) → List (S37) → Bool → Option (Bool)
 | 0, _, _, _, _ => none
 | k + 1, x3, x4, x6, x33 => if x33 = true then (some false) else (laws_FnLeases.l0 k x3 x4 x6 1 0)
def laws_FnLeases.l0 : Nat → List (S39) → List (S37) → List (S37) → Int → Int → Option (Bool)
 | 0, _, _, _, _, _ => none
 | k + 1, x3, x4, x6, x8, x9 => if x9 < (x6.length : Int) then (if 0 ≤ x9 then (if x9 < (x4.length : Int) then (if ((rd_T37 x6 x9).f0) = ((rd_T37 x4 x9).f0) then (if ((rd_T37 x6 x9).f0) = 0 then (if x9 < (x3.length : Int) then (if ((rd_T39 x3 x9).f0) = 5 then (if ((rd_T37 x6 x9).f1) = (wrap64 (x8 + 1)) then (laws_FnLeases.l0 k x3 x4 x6 (wrap64 (x8 + 1)) (wrap64 (x9 + 1))) else (some false)) else (if ((rd_T39 x3 x9).f0) = 2 then (if ((rd_T37 x6 x9).f1) = x8 then (laws_FnLeases.l0 k x3 x4 x6 x8 (wrap64 (x9 + 1))) else (some false)) else (if ((rd_T39 x3 x9).f0) = 3 then (if ((rd_T37 x6 x9).f1) = x8 then (laws_FnLeases.l0 k x3 x4 x6 x8 (wrap64 (x9 + 1))) else (if ((rd_T37 x6 x9).f1) = (wrap64 (x8 - 1)) then (laws_FnLeases.l0 k x3 x4 x6 x8 (wrap64 (x9 + 1))) else (some false))) else (laws_FnLeases.l0 k x3 x4 x6 x8 (wrap64 (x9 + 1)))))) else (none)) else (laws_FnLeases.l0 k x3 x4 x6 x8 (wrap64 (x9 + 1)))) else (some false)) else (none)) else (none)) else (some true)
end
def laws_FnLeases.f (k : Nat) (l0 : List Int) : Option (Bool) := (laws_big.f l0).bind fun t759 => (if t759 = true then (some true) else ((spec_DrawLeaseRun.f k l0).bind fun t760 => ((spec_LeaseRun.f k t760).bind fun bt763 => ((impl_LeaseRun.f k t760).bind fun bt767 => (if bt767.2 = bt763.2 then (laws_FnLeases.j0 k t760 bt763.1 bt767.1 ((bt767.1.length : Int) != (bt763.1.length : Int))) else (laws_FnLeases.j0 k t760 bt763.1 bt767.1 true))))))
theorem laws_FnLeases.mono_l : ∀ k, (∀ y0 y1 y2 y3, LeO (laws_FnLeases.j0 k y0 y1 y2 y3) (laws_FnLeases.j0 (k + 1) y0 y1 y2 y3)) ∧ (∀ y0 y1 y2 y3 y4, LeO (laws_FnLeases.l0 k y0 y1 y2 y3 y4) (laws_FnLeases.l0 (k + 1) y0 y1 y2 y3 y4))
 | 0 => ⟨fun _ _ _ _ r h => by simp [laws_FnLeases.j0] at h, fun _ _ _ _ _ r h => by simp [laws_FnLeases.l0] at h⟩
 | k + 1 => by
  obtain ⟨ih0, ih1⟩ := laws_FnLeases.mono_l k
  refine ⟨?_, ?_⟩
  ·intro y0 y1 y2 y3
   unfold laws_FnLeases.j0
   repeat' first
   | (with_reducible exact ih0 _ _ _ _)
   | (with_reducible exact ih1 _ _ _ _ _)
   | (with_reducible exact impl_LeaseRun.mono _ _)
   | (with_reducible exact spec_DrawLeaseRun.mono _ _)
   | (with_reducible exact spec_LeaseRun.mono _ _)
   | (with_reducible exact LeO.refl _)
   | (with_reducible exact LeO.none _)
   | (with_reducible refine LeO.ite ?_ ?_)
   | (with_reducible refine LeO.bind ?_ (fun _ => ?_))
   | exact ih0 _ _ _ _
   | exact ih1 _ _ _ _ _
   | exact impl_LeaseRun.mono _ _
   | exact spec_DrawLeaseRun.mono _ _
   | exact spec_LeaseRun.mono _ _
   | exact LeO.none _
   | refine LeO.ite ?_ ?_
   | refine LeO.bind ?_ (fun _ => ?_)
  ·intro y0 y1 y2 y3 y4
   unfold laws_FnLeases.l0
   repeat' first
   | (with_reducible exact ih0 _ _ _ _)
   | (with_reducible exact ih1 _ _ _ _ _)
   | (with_reducible exact impl_LeaseRun.mono _ _)
   | (with_reducible exact spec_DrawLeaseRun.mono _ _)
   | (with_reducible exact spec_LeaseRun.mono _ _)
   | (with_reducible exact LeO.refl _)
   | (with_reducible exact LeO.none _)
   | (with_reducible refine LeO.ite ?_ ?_)
   | (with_reducible refine LeO.bind ?_ (fun _ => ?_))
   | exact ih0 _ _ _ _
   | exact ih1 _ _ _ _ _
   | exact impl_LeaseRun.mono _ _
   | exact spec_DrawLeaseRun.mono _ _
   | exact spec_LeaseRun.mono _ _
   | exact LeO.none _
   | refine LeO.ite ?_ ?_
   | refine LeO.bind ?_ (fun _ => ?_)
theorem laws_FnLeases.mono : ∀ a0 k, LeO (laws_FnLeases.f k a0) (laws_FnLeases.f (k + 1) a0) := by
 intro a0 k
 obtain ⟨ih0, ih1⟩ := laws_FnLeases.mono_l k
 unfold laws_FnLeases.f
 repeat' first
   | (with_reducible exact ih0 _ _ _ _)
   | (with_reducible exact ih1 _ _ _ _ _)
   | (with_reducible exact impl_LeaseRun.mono _ _)
   | (with_reducible exact spec_DrawLeaseRun.mono _ _)
   | (with_reducible exact spec_LeaseRun.mono _ _)
   | (with_reducible exact LeO.refl _)
   | (with_reducible exact LeO.none _)
   | (with_reducible refine LeO.ite ?_ ?_)
   | (with_reducible refine LeO.bind ?_ (fun _ => ?_))
   | exact ih0 _ _ _ _
   | exact ih1 _ _ _ _ _
   | exact impl_LeaseRun.mono _ _
   | exact spec_DrawLeaseRun.mono _ _
   | exact spec_LeaseRun.mono _ _
   | exact LeO.none _
   | refine LeO.ite ?_ ?_
   | refine LeO.bind ?_ (fun _ => ?_)
set_option maxHeartbeats 8000000 in
set_option maxRecDepth 100000 in
theorem laws_FnLeases.calls (k : Nat) (A0 : Option Addr) (c0 : Nat) (l0 : List Int) (r : Bool) (w : World) (hr0 : Kd.C (Kd.int .u8) w A0 l0.length l0) (hc0 : l0.length ≤ c0) (h : laws_FnLeases.f k l0 = some r) (ht_ : r = true) :
  Calls Try.prog 5 #[.slice A0 l0.length c0] w fun e w' => e = .returned (.bool r) ∧ Below w.heap.size w w' := by
 have HR0 := Aside0.mk hr0
 have HC0 := Aside0.mk hc0
 clear hr0 hc0
 have HB := Aside0.mk (Below.refl w.heap.size w)
 have HT9_ := Aside0.mk ht_
 clear ht_
 have H : ((laws_big.f l0).bind fun t759 => (if t759 = true then (some true) else ((spec_DrawLeaseRun.f k l0).bind fun t760 => ((spec_LeaseRun.f k t760).bind fun bt763 => ((impl_LeaseRun.f k t760).bind fun bt767 => (if bt767.2 = bt763.2 then (laws_FnLeases.j0 k t760 bt763.1 bt767.1 ((bt767.1.length : Int) != (bt763.1.length : Int))) else (laws_FnLeases.j0 k t760 bt763.1 bt767.1 true))))))) = some r := h
 clear h
 replace H := Option.bind_eq_some_iff.mp H
 obtain ⟨t759, A20, H⟩ := H
 replace H : (if t759 = true then (some true) else ((spec_DrawLeaseRun.f k l0).bind fun t760 => ((spec_LeaseRun.f k t760).bind fun bt763 => ((impl_LeaseRun.f k t760).bind fun bt767 => (if bt767.2 = bt763.2 then (laws_FnLeases.j0 k t760 bt763.1 bt767.1 ((bt767.1.length : Int) != (bt763.1.length : Int))) else (laws_FnLeases.j0 k t760 bt763.1 bt767.1 true)))))) = some r := H
 have A2 := Aside0.mk A20
 clear A20
 by_cases c3 : t759 = true
 ·subst c3
  have H1 : (some true) = some r := by rw [if_pos rfl] at H; exact H
  clear H
  have H := H1
  clear H1
  obtain rfl := Option.some.inj H
  go_enter Try.func5, Try.ntmps5
  as_aux_lemma =>
  go_wp2_with (first | (go_at_call 9; (with_reducible refine (laws_big.calls _ _ l0 true _ ?side1 ?side2 A2.out).mono ?_); (case side1 => repeat (first | exact HR0.out | (with_reducible refine Kd.C_alloc ?_ _) | (with_reducible refine Kd.C_drewN ?_ _) | (with_reducible refine Kd.C_drew ?_))); (case side2 => exact HC0.out); rintro e w' ⟨rfl, ⟨nd, rfl⟩⟩; (try first | exact ⟨rfl, _, World.drewN_drewN _ _ _⟩ | exact ⟨rfl, _, Eq.trans (World.drewN_drewN _ _ _) (congrArg (World.drewN _) (Nat.add_assoc _ _ _))⟩)))
  repeat (go_quiet (first | (go_at_call 9; (try simp only [i64_w]); (with_reducible refine (laws_big.calls _ _ l0 true _ ?side1 ?side2 A2.out).mono ?_); (case side1 => repeat (first | exact HR0.out | (with_reducible refine Kd.C_alloc ?_ _) | (with_reducible refine Kd.C_drewN ?_ _) | (with_reducible refine Kd.C_drew ?_))); (case side2 => exact HC0.out); rintro e w' ⟨rfl, ⟨nd, rfl⟩⟩; (try first | exact ⟨rfl, _, World.drewN_drewN _ _ _⟩ | exact ⟨rfl, _, Eq.trans (World.drewN_drewN _ _ _) (congrArg (World.drewN _) (Nat.add_assoc _ _ _))⟩))); try go_wp2_with (first | (go_at_call 9; (try simp only [i64_w]); (with_reducible refine (laws_big.calls _ _ l0 true _ ?side1 ?side2 A2.out).mono ?_); (case side1 => repeat (first | exact HR0.out | (with_reducible refine Kd.C_alloc ?_ _) | (with_reducible refine Kd.C_drewN ?_ _) | (with_reducible refine Kd.C_drew ?_))); (case side2 => exact HC0.out); rintro e w' ⟨rfl, ⟨nd, rfl⟩⟩; (try first | exact ⟨rfl, _, World.drewN_drewN _ _ _⟩ | exact ⟨rfl, _, Eq.trans (World.drewN_drewN _ _ _) (congrArg (World.drewN _) (Nat.add_assoc _ _ _))⟩))))
  go_ret
  exact ⟨by first | rfl | (simp [errW_none, errW_some] <;> rfl) | (simp [*, errW_none, errW_some] <;> rfl), zb⟩
 ·replace c3 := Bool.eq_false_iff.mpr c3
  subst c3
  have H1 : ((spec_DrawLeaseRun.f k l0).bind fun t760 => ((spec_LeaseRun.f k t760).bind fun bt763 => ((impl_LeaseRun.f k t760).bind fun bt767 => (if bt767.2 = bt763.2 then (laws_FnLeases.j0 k t760 bt763.1 bt767.1 ((bt767.1.length : Int) != (bt763.1.length : Int))) else (laws_FnLeases.j0 k t760 bt763.1 bt767.1 true))))) = some r := by rw [if_neg (show ¬ (false = true) by decide)] at H; exact H
  clear H
  have H := H1
  clear H1
  replace H := Option.bind_eq_some_iff.mp H
  obtain ⟨t760, A40, H⟩ := H
  replace H : ((spec_LeaseRun.f k t760).bind fun bt763 => ((impl_LeaseRun.f k t760).bind fun bt767 => (if bt767.2 = bt763.2 then (laws_FnLeases.j0 k t760 bt763.1 bt767.1 ((bt767.1.length : Int) != (bt763.1.length : Int))) else (laws_FnLeases.j0 k t760 bt763.1 bt767.1 true)))) = some r := H
  have A4 := Aside0.mk A40
  clear A40
  replace H := Option.bind_eq_some_iff.mp H
  obtain ⟨⟨t763, t764⟩, A50, H⟩ := H
  replace H : ((impl_LeaseRun.f k t760).bind fun bt767 => (if bt767.2 = t764 then (laws_FnLeases.j0 k t760 t763 bt767.1 ((bt767.1.length : Int) != (t763.length : Int))) else (laws_FnLeases.j0 k t760 t763 bt767.1 true))) = some r := H
  have A5 := Aside0.mk A50
  clear A50
  replace H := Option.bind_eq_some_iff.mp H
  obtain ⟨⟨t767, t768⟩, A60, H⟩ := H
  replace H : (if t768 = t764 then (laws_FnLeases.j0 k t760 t763 t767 ((t767.length : Int) != (t763.length : Int))) else (laws_FnLeases.j0 k t760 t763 t767 true)) = some r := H
  have A6 := Aside0.mk A60
  clear A60
  have HC7 := Aside0.mk H
  clear H
  go_enter Try.func5, Try.ntmps5
  as_aux_lemma =>
  go_upto_region 6 with (first | (go_at_call 9; (with_reducible refine (laws_big.calls _ _ l0 false _ ?side1 ?side2 A2.out).mono ?_); (case side1 => repeat (first | exact HR0.out | (with_reducible refine Kd.C_alloc ?_ _) | (with_reducible refine Kd.C_drewN ?_ _) | (with_reducible refine Kd.C_drew ?_))); (case side2 => exact HC0.out); rintro e w' ⟨rfl, ⟨nd, rfl⟩⟩; (try first | exact ⟨rfl, _, World.drewN_drewN _ _ _⟩ | exact ⟨rfl, _, Eq.trans (World.drewN_drewN _ _ _) (congrArg (World.drewN _) (Nat.add_assoc _ _ _))⟩)) | (go_at_call 15; (with_reducible refine (spec_DrawLeaseRun.calls k _ _ l0 t760 _ ?side1 ?side2 A4.out).mono ?_); (case side1 => repeat (first | exact HR0.out | (with_reducible refine Kd.C_alloc ?_ _) | (with_reducible refine Kd.C_drewN ?_ _) | (with_reducible refine Kd.C_drew ?_))); (case side2 => exact HC0.out); rintro e w8 ⟨v761, rfl, ho0, hb⟩; have n0_ := Aside0.mk (Kd.R_lower ho0 (below_size zb)); have n1_ := Aside0.mk (below_step zb hb); clear HB; have HO762 := n0_; have HB := n1_; clear n0_ n1_; (try clear hb); (try clear hb2); (try clear hk); (try clear hi); (try clear ho0); obtain ⟨Ao9, co9, eo9⟩ := Kd.R_slice HO762.out; subst eo9) | (go_at_call 16; (with_reducible refine (spec_LeaseRun.calls k _ _ t760 t763 t764 _ ?side1 ?side2 A5.out).mono ?_); (case side1 => repeat (first | exact (Kd.R_reads' HO762.out).2.2 | (with_reducible refine Kd.C_alloc ?_ _) | (with_reducible refine Kd.C_drewN ?_ _) | (with_reducible refine Kd.C_drew ?_))); (case side2 => exact (Kd.R_reads' HO762.out).2.1); rintro e w10 ⟨v765, rfl, ho0, hb⟩; have n0_ := Aside0.mk (Kd.R_below (zr HO762.out) hb); have n1_ := Aside0.mk (Kd.R_lower ho0 (below_size zb)); have n2_ := Aside0.mk (below_step zb hb); clear HO762; clear HB; have HO762 := n0_; have HO766 := n1_; have HB := n2_; clear n0_ n1_ n2_; (try clear hb); (try clear hb2); (try clear hk); (try clear hi); (try clear ho0)) | (go_at_call 17; (with_reducible refine (impl_LeaseRun.calls k _ _ t760 t767 t768 _ ?side1 ?side2 A6.out).mono ?_); (case side1 => repeat (first | exact (Kd.R_reads' HO762.out).2.2 | (with_reducible refine Kd.C_alloc ?_ _) | (with_reducible refine Kd.C_drewN ?_ _) | (with_reducible refine Kd.C_drew ?_))); (case side2 => exact (Kd.R_reads' HO762.out).2.1); rintro e w11 ⟨v769, rfl, ho0, hb⟩; have n0_ := Aside0.mk (Kd.R_below (zr HO762.out) hb); have n1_ := Aside0.mk (Kd.R_elder' (zr HO766.out) (Kd.R_base ho0) hb); have n2_ := Aside0.mk (Kd.R_lower (Kd.R_new' ho0 (Kd.R_lt (zr HO766.out))) (below_size zb)); have n3_ := Aside0.mk (below_step zb hb); clear HO762; clear HO766; clear HB; have HO762 := n0_; have HO766 := n1_; have HO770 := n2_; have HB := n3_; clear n0_ n1_ n2_ n3_; (try clear hb); (try clear hb2); (try clear hk); (try clear hi); (try clear ho0)))
  repeat (go_quiet (first | (go_at_call 9; (try simp only [i64_w]); (with_reducible refine (laws_big.calls _ _ l0 false _ ?side1 ?side2 A2.out).mono ?_); (case side1 => repeat (first | exact HR0.out | (with_reducible refine Kd.C_alloc ?_ _) | (with_reducible refine Kd.C_drewN ?_ _) | (with_reducible refine Kd.C_drew ?_))); (case side2 => exact HC0.out); rintro e w' ⟨rfl, ⟨nd, rfl⟩⟩; (try first | exact ⟨rfl, _, World.drewN_drewN _ _ _⟩ | exact ⟨rfl, _, Eq.trans (World.drewN_drewN _ _ _) (congrArg (World.drewN _) (Nat.add_assoc _ _ _))⟩)) | (go_at_call 15; (try simp only [i64_w]); (with_reducible refine (spec_DrawLeaseRun.calls k _ _ l0 t760 _ ?side1 ?side2 A4.out).mono ?_); (case side1 => repeat (first | exact HR0.out | (with_reducible refine Kd.C_alloc ?_ _) | (with_reducible refine Kd.C_drewN ?_ _) | (with_reducible refine Kd.C_drew ?_))); (case side2 => exact HC0.out); rintro e w8 ⟨v761, rfl, ho0, hb⟩; have n0_ := Aside0.mk (Kd.R_lower ho0 (below_size zb)); have n1_ := Aside0.mk (below_step zb hb); clear HB; have HO762 := n0_; have HB := n1_; clear n0_ n1_; (try clear hb); (try clear hb2); (try clear hk); (try clear hi); (try clear ho0); obtain ⟨Ao9, co9, eo9⟩ := Kd.R_slice HO762.out; subst eo9) | (go_at_call 16; (try simp only [i64_w]); (with_reducible refine (spec_LeaseRun.calls k _ _ t760 t763 t764 _ ?side1 ?side2 A5.out).mono ?_); (case side1 => repeat (first | exact (Kd.R_reads' HO762.out).2.2 | (with_reducible refine Kd.C_alloc ?_ _) | (with_reducible refine Kd.C_drewN ?_ _) | (with_reducible refine Kd.C_drew ?_))); (case side2 => exact (Kd.R_reads' HO762.out).2.1); rintro e w10 ⟨v765, rfl, ho0, hb⟩; have n0_ := Aside0.mk (Kd.R_below (zr HO762.out) hb); have n1_ := Aside0.mk (Kd.R_lower ho0 (below_size zb)); have n2_ := Aside0.mk (below_step zb hb); clear HO762; clear HB; have HO762 := n0_; have HO766 := n1_; have HB := n2_; clear n0_ n1_ n2_; (try clear hb); (try clear hb2); (try clear hk); (try clear hi); (try clear ho0)) | (go_at_call 17; (try simp only [i64_w]); (with_reducible refine (impl_LeaseRun.calls k _ _ t760 t767 t768 _ ?side1 ?side2 A6.out).mono ?_); (case side1 => repeat (first | exact (Kd.R_reads' HO762.out).2.2 | (with_reducible refine Kd.C_alloc ?_ _) | (with_reducible refine Kd.C_drewN ?_ _) | (with_reducible refine Kd.C_drew ?_))); (case side2 => exact (Kd.R_reads' HO762.out).2.1); rintro e w11 ⟨v769, rfl, ho0, hb⟩; have n0_ := Aside0.mk (Kd.R_below (zr HO762.out) hb); have n1_ := Aside0.mk (Kd.R_elder' (zr HO766.out) (Kd.R_base ho0) hb); have n2_ := Aside0.mk (Kd.R_lower (Kd.R_new' ho0 (Kd.R_lt (zr HO766.out))) (below_size zb)); have n3_ := Aside0.mk (below_step zb hb); clear HO762; clear HO766; clear HB; have HO762 := n0_; have HO766 := n1_; have HO770 := n2_; have HB := n3_; clear n0_ n1_ n2_ n3_; (try clear hb); (try clear hb2); (try clear hk); (try clear hi); (try clear ho0))); go_upto_region 6 with (first | (go_at_call 9; (try simp only [i64_w]); (with_reducible refine (laws_big.calls _ _ l0 false _ ?side1 ?side2 A2.out).mono ?_); (case side1 => repeat (first | exact HR0.out | (with_reducible refine Kd.C_alloc ?_ _) | (with_reducible refine Kd.C_drewN ?_ _) | (with_reducible refine Kd.C_drew ?_))); (case side2 => exact HC0.out); rintro e w' ⟨rfl, ⟨nd, rfl⟩⟩; (try first | exact ⟨rfl, _, World.drewN_drewN _ _ _⟩ | exact ⟨rfl, _, Eq.trans (World.drewN_drewN _ _ _) (congrArg (World.drewN _) (Nat.add_assoc _ _ _))⟩)) | (go_at_call 15; (try simp only [i64_w]); (with_reducible refine (spec_DrawLeaseRun.calls k _ _ l0 t760 _ ?side1 ?side2 A4.out).mono ?_); (case side1 => repeat (first | exact HR0.out | (with_reducible refine Kd.C_alloc ?_ _) | (with_reducible refine Kd.C_drewN ?_ _) | (with_reducible refine Kd.C_drew ?_))); (case side2 => exact HC0.out); rintro e w8 ⟨v761, rfl, ho0, hb⟩; have n0_ := Aside0.mk (Kd.R_lower ho0 (below_size zb)); have n1_ := Aside0.mk (below_step zb hb); clear HB; have HO762 := n0_; have HB := n1_; clear n0_ n1_; (try clear hb); (try clear hb2); (try clear hk); (try clear hi); (try clear ho0); obtain ⟨Ao9, co9, eo9⟩ := Kd.R_slice HO762.out; subst eo9) | (go_at_call 16; (try simp only [i64_w]); (with_reducible refine (spec_LeaseRun.calls k _ _ t760 t763 t764 _ ?side1 ?side2 A5.out).mono ?_); (case side1 => repeat (first | exact (Kd.R_reads' HO762.out).2.2 | (with_reducible refine Kd.C_alloc ?_ _) | (with_reducible refine Kd.C_drewN ?_ _) | (with_reducible refine Kd.C_drew ?_))); (case side2 => exact (Kd.R_reads' HO762.out).2.1); rintro e w10 ⟨v765, rfl, ho0, hb⟩; have n0_ := Aside0.mk (Kd.R_below (zr HO762.out) hb); have n1_ := Aside0.mk (Kd.R_lower ho0 (below_size zb)); have n2_ := Aside0.mk (below_step zb hb); clear HO762; clear HB; have HO762 := n0_; have HO766 := n1_; have HB := n2_; clear n0_ n1_ n2_; (try clear hb); (try clear hb2); (try clear hk); (try clear hi); (try clear ho0)) | (go_at_call 17; (try simp only [i64_w]); (with_reducible refine (impl_LeaseRun.calls k _ _ t760 t767 t768 _ ?side1 ?side2 A6.out).mono ?_); (case side1 => repeat (first | exact (Kd.R_reads' HO762.out).2.2 | (with_reducible refine Kd.C_alloc ?_ _) | (with_reducible refine Kd.C_drewN ?_ _) | (with_reducible refine Kd.C_drew ?_))); (case side2 => exact (Kd.R_reads' HO762.out).2.1); rintro e w11 ⟨v769, rfl, ho0, hb⟩; have n0_ := Aside0.mk (Kd.R_below (zr HO762.out) hb); have n1_ := Aside0.mk (Kd.R_elder' (zr HO766.out) (Kd.R_base ho0) hb); have n2_ := Aside0.mk (Kd.R_lower (Kd.R_new' ho0 (Kd.R_lt (zr HO766.out))) (below_size zb)); have n3_ := Aside0.mk (below_step zb hb); clear HO762; clear HO766; clear HB; have HO762 := n0_; have HO766 := n1_; have HO770 := n2_; have HB := n3_; clear n0_ n1_ n2_ n3_; (try clear hb); (try clear hb2); (try clear hk); (try clear hi); (try clear ho0))))
  (try simp only [Act.put, List.setIfInBounds_toArray, List.set_cons_zero, List.set_cons_succ])
  go_cut [33] (fun v33 wc => ∃ (kq : Nat) (x33_6 : Bool), v33 = .bool x33_6 ∧ Aside0 (laws_FnLeases.j0 kq t760 t763 t767 x33_6 = some r) ∧ Aside0 (kq ≤ k) ∧ Aside0 (Kd.R k39 39 wc w.heap.size (fun _ => True) (.slice Ao9 t760.length co9) t760) ∧ Aside0 (Kd.R k37 37 wc w.heap.size (fun k_ => some k_ ≠ (v769 : Value).ownBlock) v765 t763) ∧ Aside0 (Kd.R k37 37 wc w.heap.size (fun k_ => some k_ ≠ (v765 : Value).ownBlock) v769 t767) ∧ Aside0 (Below w.heap.size w wc))
  case first =>
   have H := HC7.out
   clear HC7
   by_cases c12 : t768 = t764
   ·rw [if_pos c12] at H
    have c12b0 : (t768 == t764) = true := beq_iff_eq.mpr c12
    have c12b1 : (t768 != t764) = false := bne_eq_false_iff_eq.mpr c12
    clear c12
    (first | rw [c12b0] | (simp only [i64_w, i32_w]; rw [c12b0]) | skip)
    have H' := Aside0.mk H
    clear H
    obtain ⟨Ao13, co13, eo13⟩ := Kd.R_slice HO770.out
    subst eo13
    obtain ⟨Ao14, co14, eo14⟩ := Kd.R_slice HO766.out
    subst eo14
    as_aux_lemma =>
    go_wp2
    repeat (go_quiet (fail); try go_wp2)
    go_meet
    case rel => exact ⟨_, (((t767.length : Int) != (t763.length : Int))), (by first | rfl | (simp; done) | (simp [*]; done)), H', ⟨by first | omega | exact Nat.le_refl _⟩, ⟨zr HO762.out⟩, ⟨by (with_reducible repeat (first | apply Kd.R_alloc | apply Kd.R_drewN | apply Kd.R_drew)); exact Kd.R_mono HO766.out (fun _ hk => hk.2)⟩, ⟨by (with_reducible repeat (first | apply Kd.R_alloc | apply Kd.R_drewN | apply Kd.R_drew)); exact Kd.R_mono HO770.out (fun _ hk => hk.2)⟩, ⟨zb⟩⟩
   ·rw [if_neg c12] at H
    have c12b0 : (t768 == t764) = false := beq_eq_false_iff_ne.mpr c12
    have c12b1 : (t768 != t764) = true := bne_iff_ne.mpr c12
    (first | rw [c12b0] | (simp only [i64_w, i32_w]; rw [c12b0]) | skip)
    have H' := Aside0.mk H
    clear H
    as_aux_lemma =>
    go_wp2
    repeat (go_quiet (fail); try go_wp2)
    go_meet
    case rel => exact ⟨_, (true), (by first | rfl | (simp; done) | (simp [*]; done)), H', ⟨by first | omega | exact Nat.le_refl _⟩, ⟨zr HO762.out⟩, ⟨by (with_reducible repeat (first | apply Kd.R_alloc | apply Kd.R_drewN | apply Kd.R_drew)); exact Kd.R_mono HO766.out (fun _ hk => hk.2)⟩, ⟨by (with_reducible repeat (first | apply Kd.R_alloc | apply Kd.R_drewN | apply Kd.R_drew)); exact Kd.R_mono HO770.out (fun _ hk => hk.2)⟩, ⟨zb⟩⟩
  case rest =>
   clear HC7
   try clear c3
   obtain ⟨kq, x33_6, rfl, HA, HJ6, HO_3, HO_4, HO_6, HB⟩ := hcut
   cases kq with
   | zero => exact absurd HA.out (by simp [laws_FnLeases.j0])
   | succ kj6 =>
    have H := HA.out
    clear HA
    simp only [laws_FnLeases.j0] at H
    by_cases c15 : x33_6 = true
    ·subst c15
     have H1 : (some false) = some r := by rw [if_pos rfl] at H; exact H
     clear H
     have H := H1
     clear H1
     exact absurd (Option.some.inj H) (by rw [HT9_.out]; decide)
    ·replace c15 := Bool.eq_false_iff.mpr c15
     subst c15
     have H1 : (laws_FnLeases.l0 kj6 t760 t763 t767 1 0) = some r := by rw [if_neg (show ¬ (false = true) by decide)] at H; exact H
     clear H
     have H := H1
     clear H1
     have H' := Aside0.mk H
     clear H
     as_aux_lemma =>
     go_wp2
     repeat (go_quiet (fail); try go_wp2)
     go_loopg [8, 9] kj6 (fun kq v8 v9 w' => ∃ (x8_2 : Int) (x9_2 : Int), v8 = .int .i64 x8_2 ∧ v9 = .int .i64 x9_2 ∧ Aside0 (laws_FnLeases.l0 kq t760 t763 t767 x8_2 x9_2 = some r) ∧ Aside0 (kq ≤ kj6) ∧ Aside0 (Kd.R k39 39 w' w.heap.size (fun _ => True) (.slice Ao9 t760.length co9) t760) ∧ Aside0 (Kd.R k37 37 w' w.heap.size (fun k_ => some k_ ≠ (v769 : Value).ownBlock) v765 t763) ∧ Aside0 (Kd.R k37 37 w' w.heap.size (fun k_ => some k_ ≠ (v765 : Value).ownBlock) v769 t767) ∧ Aside0 (Below w.heap.size w w'))
     case atStart => exact ⟨(1), (0), (by first | rfl | (simp; done) | (simp [*]; done)), (by first | rfl | (simp; done) | (simp [*]; done)), H', ⟨Nat.le_refl _⟩, ⟨zr HO_3.out⟩, ⟨zr HO_4.out⟩, ⟨zr HO_6.out⟩, ⟨zb⟩⟩
     case round =>
      clear H'
      try clear c3
      try clear c15
      obtain ⟨x8_2, x9_2, rfl, rfl, HA, HK2, HO_3, HO_4, HO_6, HB⟩ := hrel
      cases gk with
      | zero => exact absurd HA.out (by simp [laws_FnLeases.l0])
      | succ k2 =>
       have H := HA.out
       clear HA
       simp only [laws_FnLeases.l0] at H
       by_cases c16 : x9_2 < (t767.length : Int)
       ·rw [if_pos c16] at H
        have c16b0 : decide (x9_2 < (t767.length : Int)) = true := decide_eq_true c16
        clear c16
        by_cases c17 : 0 ≤ x9_2
        ·rw [if_pos c17] at H
         have c17b0 : decide (0 ≤ x9_2) = true := decide_eq_true c17
         clear c17
         by_cases c18 : x9_2 < (t763.length : Int)
         ·rw [if_pos c18] at H
          have c18b0 : decide (x9_2 < (t763.length : Int)) = true := decide_eq_true c18
          clear c18
          by_cases c19 : ((rd_T37 t767 x9_2).f0) = ((rd_T37 t763 x9_2).f0)
          ·rw [if_pos c19] at H
           have c19b0 : (((rd_T37 t767 x9_2).f0) == ((rd_T37 t763 x9_2).f0)) = true := beq_iff_eq.mpr c19
           have c19b1 : (((rd_T37 t767 x9_2).f0) != ((rd_T37 t763 x9_2).f0)) = false := bne_eq_false_iff_eq.mpr c19
           clear c19
           by_cases c20 : ((rd_T37 t767 x9_2).f0) = 0
           ·rw [if_pos c20] at H
            have c20b0 : (((rd_T37 t767 x9_2).f0) == 0) = true := beq_iff_eq.mpr c20
            have c20b1 : (((rd_T37 t767 x9_2).f0) != 0) = false := bne_eq_false_iff_eq.mpr c20
            clear c20
            by_cases c21 : x9_2 < (t760.length : Int)
            ·rw [if_pos c21] at H
             have c21b0 : decide (x9_2 < (t760.length : Int)) = true := decide_eq_true c21
             clear c21
             by_cases c22 : ((rd_T39 t760 x9_2).f0) = 5
             ·rw [if_pos c22] at H
              have c22b0 : (((rd_T39 t760 x9_2).f0) == 5) = true := beq_iff_eq.mpr c22
              have c22b1 : (((rd_T39 t760 x9_2).f0) != 5) = false := bne_eq_false_iff_eq.mpr c22
              clear c22
              by_cases c23 : ((rd_T37 t767 x9_2).f1) = (wrap64 (x8_2 + 1))
              ·rw [if_pos c23] at H
               have c23b0 : (((rd_T37 t767 x9_2).f1) == (wrap64 (x8_2 + 1))) = true := beq_iff_eq.mpr c23
               have c23b1 : (((rd_T37 t767 x9_2).f1) != (wrap64 (x8_2 + 1))) = false := bne_eq_false_iff_eq.mpr c23
               clear c23
               have H' := Aside0.mk H
               clear H
               obtain ⟨Ao24, co24, eo24⟩ := Kd.R_slice HO_6.out
               subst eo24
               have p771 : 0 ≤ (x9_2 : Int) := of_decide_eq_true (by first | (with_reducible assumption) | assumption)
               have q771 : x9_2 < (t767.length : Int) := of_decide_eq_true (by first | (with_reducible assumption) | assumption)
               obtain ⟨ad771, e771, hx771_0, hx771_1⟩ := at_T37 (Kd.R_reads' HO_6.out).2.2 x9_2 p771 q771
               cases e771
               replace p771 := eq_true p771
               replace q771 := eq_true q771
               obtain ⟨Ao25, co25, eo25⟩ := Kd.R_slice HO_4.out
               subst eo25
               have p772 : 0 ≤ (x9_2 : Int) := of_decide_eq_true (by first | (with_reducible assumption) | assumption)
               have q772 : x9_2 < (t763.length : Int) := of_decide_eq_true (by first | (with_reducible assumption) | assumption)
               obtain ⟨ad772, e772, hx772_0, hx772_1⟩ := at_T37 (Kd.R_reads' HO_4.out).2.2 x9_2 p772 q772
               cases e772
               replace p772 := eq_true p772
               replace q772 := eq_true q772
               have p773 : 0 ≤ (x9_2 : Int) := of_decide_eq_true (by first | (with_reducible assumption) | assumption)
               have q773 : x9_2 < (t767.length : Int) := of_decide_eq_true (by first | (with_reducible assumption) | assumption)
               obtain ⟨ad773, e773, hx773_0, hx773_1⟩ := at_T37 (Kd.R_reads' HO_6.out).2.2 x9_2 p773 q773
               obtain rfl : ad771 = ad773 := (by injection e773)
               replace p773 := eq_true p773
               replace q773 := eq_true q773
               have p774 : 0 ≤ (x9_2 : Int) := of_decide_eq_true (by first | (with_reducible assumption) | assumption)
               have q774 : x9_2 < (t760.length : Int) := of_decide_eq_true (by first | (with_reducible assumption) | assumption)
               obtain ⟨ad774, e774, hx774_0, hx774_1, hx774_2⟩ := at_T39 (Kd.R_reads' HO_3.out).2.2 x9_2 p774 q774
               cases e774
               replace p774 := eq_true p774
               replace q774 := eq_true q774
               have p775 : 0 ≤ (x9_2 : Int) := of_decide_eq_true (by first | (with_reducible assumption) | assumption)
               have q775 : x9_2 < (t767.length : Int) := of_decide_eq_true (by first | (with_reducible assumption) | assumption)
               obtain ⟨ad775, e775, hx775_0, hx775_1⟩ := at_T37 (Kd.R_reads' HO_6.out).2.2 x9_2 p775 q775
               obtain rfl : ad771 = ad775 := (by injection e775)
               replace p775 := eq_true p775
               replace q775 := eq_true q775
               as_aux_lemma =>
               go_wp2
               repeat (go_quiet (fail); try go_wp2)
               go_roundg k2
               case measure => have := HJ6.out; have := HK2.out; omega
               case rel => exact ⟨(wrap64 (x8_2 + 1)), (wrap64 (x9_2 + 1)), (by first | rfl | (simp; done) | (simp [*]; done)), (by first | rfl | (simp; done) | (simp [*]; done)), H', ⟨by have := HJ6.out; have := HK2.out; omega⟩, ⟨zr HO_3.out⟩, ⟨zr HO_4.out⟩, ⟨zr HO_6.out⟩, ⟨zb⟩⟩
              ·rw [if_neg c23] at H
               have c23b0 : (((rd_T37 t767 x9_2).f1) == (wrap64 (x8_2 + 1))) = false := beq_eq_false_iff_ne.mpr c23
               have c23b1 : (((rd_T37 t767 x9_2).f1) != (wrap64 (x8_2 + 1))) = true := bne_iff_ne.mpr c23
               exact absurd (Option.some.inj H) (by rw [HT9_.out]; decide)
             ·rw [if_neg c22] at H
              have c22b0 : (((rd_T39 t760 x9_2).f0) == 5) = false := beq_eq_false_iff_ne.mpr c22
              have c22b1 : (((rd_T39 t760 x9_2).f0) != 5) = true := bne_iff_ne.mpr c22
              by_cases c26 : ((rd_T39 t760 x9_2).f0) = 2
              ·rw [if_pos c26] at H
               have c26b0 : (((rd_T39 t760 x9_2).f0) == 2) = true := beq_iff_eq.mpr c26
               have c26b1 : (((rd_T39 t760 x9_2).f0) != 2) = false := bne_eq_false_iff_eq.mpr c26
               clear c26
               by_cases c27 : ((rd_T37 t767 x9_2).f1) = x8_2
               ·rw [if_pos c27] at H
                have c27b0 : (((rd_T37 t767 x9_2).f1) == x8_2) = true := beq_iff_eq.mpr c27
                have c27b1 : (((rd_T37 t767 x9_2).f1) != x8_2) = false := bne_eq_false_iff_eq.mpr c27
                clear c27
                have H' := Aside0.mk H
                clear H
                obtain ⟨Ao28, co28, eo28⟩ := Kd.R_slice HO_6.out
                subst eo28
                have p771 : 0 ≤ (x9_2 : Int) := of_decide_eq_true (by first | (with_reducible assumption) | assumption)
                have q771 : x9_2 < (t767.length : Int) := of_decide_eq_true (by first | (with_reducible assumption) | assumption)
                obtain ⟨ad771, e771, hx771_0, hx771_1⟩ := at_T37 (Kd.R_reads' HO_6.out).2.2 x9_2 p771 q771
                cases e771
                replace p771 := eq_true p771
                replace q771 := eq_true q771
                obtain ⟨Ao29, co29, eo29⟩ := Kd.R_slice HO_4.out
                subst eo29
                have p772 : 0 ≤ (x9_2 : Int) := of_decide_eq_true (by first | (with_reducible assumption) | assumption)
                have q772 : x9_2 < (t763.length : Int) := of_decide_eq_true (by first | (with_reducible assumption) | assumption)
                obtain ⟨ad772, e772, hx772_0, hx772_1⟩ := at_T37 (Kd.R_reads' HO_4.out).2.2 x9_2 p772 q772
                cases e772
                replace p772 := eq_true p772
                replace q772 := eq_true q772
                have p773 : 0 ≤ (x9_2 : Int) := of_decide_eq_true (by first | (with_reducible assumption) | assumption)
                have q773 : x9_2 < (t767.length : Int) := of_decide_eq_true (by first | (with_reducible assumption) | assumption)
                obtain ⟨ad773, e773, hx773_0, hx773_1⟩ := at_T37 (Kd.R_reads' HO_6.out).2.2 x9_2 p773 q773
                obtain rfl : ad771 = ad773 := (by injection e773)
                replace p773 := eq_true p773
                replace q773 := eq_true q773
                have p774 : 0 ≤ (x9_2 : Int) := of_decide_eq_true (by first | (with_reducible assumption) | assumption)
                have q774 : x9_2 < (t760.length : Int) := of_decide_eq_true (by first | (with_reducible assumption) | assumption)
                obtain ⟨ad774, e774, hx774_0, hx774_1, hx774_2⟩ := at_T39 (Kd.R_reads' HO_3.out).2.2 x9_2 p774 q774
                cases e774
                replace p774 := eq_true p774
                replace q774 := eq_true q774
                have p776 : 0 ≤ (x9_2 : Int) := of_decide_eq_true (by first | (with_reducible assumption) | assumption)
                have q776 : x9_2 < (t767.length : Int) := of_decide_eq_true (by first | (with_reducible assumption) | assumption)
                obtain ⟨ad776, e776, hx776_0, hx776_1⟩ := at_T37 (Kd.R_reads' HO_6.out).2.2 x9_2 p776 q776
                obtain rfl : ad771 = ad776 := (by injection e776)
                replace p776 := eq_true p776
                replace q776 := eq_true q776
                as_aux_lemma =>
                go_wp2
                repeat (go_quiet (fail); try go_wp2)
                go_roundg k2
                case measure => have := HJ6.out; have := HK2.out; omega
                case rel => exact ⟨(x8_2), (wrap64 (x9_2 + 1)), (by first | rfl | (simp; done) | (simp [*]; done)), (by first | rfl | (simp; done) | (simp [*]; done)), H', ⟨by have := HJ6.out; have := HK2.out; omega⟩, ⟨zr HO_3.out⟩, ⟨zr HO_4.out⟩, ⟨zr HO_6.out⟩, ⟨zb⟩⟩
               ·rw [if_neg c27] at H
                have c27b0 : (((rd_T37 t767 x9_2).f1) == x8_2) = false := beq_eq_false_iff_ne.mpr c27
                have c27b1 : (((rd_T37 t767 x9_2).f1) != x8_2) = true := bne_iff_ne.mpr c27
                exact absurd (Option.some.inj H) (by rw [HT9_.out]; decide)
              ·rw [if_neg c26] at H
               have c26b0 : (((rd_T39 t760 x9_2).f0) == 2) = false := beq_eq_false_iff_ne.mpr c26
               have c26b1 : (((rd_T39 t760 x9_2).f0) != 2) = true := bne_iff_ne.mpr c26
               by_cases c30 : ((rd_T39 t760 x9_2).f0) = 3
               ·rw [if_pos c30] at H
                have c30b0 : (((rd_T39 t760 x9_2).f0) == 3) = true := beq_iff_eq.mpr c30
                have c30b1 : (((rd_T39 t760 x9_2).f0) != 3) = false := bne_eq_false_iff_eq.mpr c30
                clear c30
                by_cases c31 : ((rd_T37 t767 x9_2).f1) = x8_2
                ·rw [if_pos c31] at H
                 have c31b0 : (((rd_T37 t767 x9_2).f1) == x8_2) = true := beq_iff_eq.mpr c31
                 have c31b1 : (((rd_T37 t767 x9_2).f1) != x8_2) = false := bne_eq_false_iff_eq.mpr c31
                 clear c31
                 have H' := Aside0.mk H
                 clear H
                 obtain ⟨Ao32, co32, eo32⟩ := Kd.R_slice HO_6.out
                 subst eo32
                 have p771 : 0 ≤ (x9_2 : Int) := of_decide_eq_true (by first | (with_reducible assumption) | assumption)
                 have q771 : x9_2 < (t767.length : Int) := of_decide_eq_true (by first | (with_reducible assumption) | assumption)
                 obtain ⟨ad771, e771, hx771_0, hx771_1⟩ := at_T37 (Kd.R_reads' HO_6.out).2.2 x9_2 p771 q771
                 cases e771
                 replace p771 := eq_true p771
                 replace q771 := eq_true q771
                 obtain ⟨Ao33, co33, eo33⟩ := Kd.R_slice HO_4.out
                 subst eo33
                 have p772 : 0 ≤ (x9_2 : Int) := of_decide_eq_true (by first | (with_reducible assumption) | assumption)
                 have q772 : x9_2 < (t763.length : Int) := of_decide_eq_true (by first | (with_reducible assumption) | assumption)
                 obtain ⟨ad772, e772, hx772_0, hx772_1⟩ := at_T37 (Kd.R_reads' HO_4.out).2.2 x9_2 p772 q772
                 cases e772
                 replace p772 := eq_true p772
                 replace q772 := eq_true q772
                 have p773 : 0 ≤ (x9_2 : Int) := of_decide_eq_true (by first | (with_reducible assumption) | assumption)
                 have q773 : x9_2 < (t767.length : Int) := of_decide_eq_true (by first | (with_reducible assumption) | assumption)
                 obtain ⟨ad773, e773, hx773_0, hx773_1⟩ := at_T37 (Kd.R_reads' HO_6.out).2.2 x9_2 p773 q773
                 obtain rfl : ad771 = ad773 := (by injection e773)
                 replace p773 := eq_true p773
                 replace q773 := eq_true q773
                 have p774 : 0 ≤ (x9_2 : Int) := of_decide_eq_true (by first | (with_reducible assumption) | assumption)
                 have q774 : x9_2 < (t760.length : Int) := of_decide_eq_true (by first | (with_reducible assumption) | assumption)
                 obtain ⟨ad774, e774, hx774_0, hx774_1, hx774_2⟩ := at_T39 (Kd.R_reads' HO_3.out).2.2 x9_2 p774 q774
                 cases e774
                 replace p774 := eq_true p774
                 replace q774 := eq_true q774
                 have p777 : 0 ≤ (x9_2 : Int) := of_decide_eq_true (by first | (with_reducible assumption) | assumption)
                 have q777 : x9_2 < (t767.length : Int) := of_decide_eq_true (by first | (with_reducible assumption) | assumption)
                 obtain ⟨ad777, e777, hx777_0, hx777_1⟩ := at_T37 (Kd.R_reads' HO_6.out).2.2 x9_2 p777 q777
                 obtain rfl : ad771 = ad777 := (by injection e777)
                 replace p777 := eq_true p777
                 replace q777 := eq_true q777
                 as_aux_lemma =>
                 go_wp2
                 repeat (go_quiet (fail); try go_wp2)
                 go_roundg k2
                 case measure => have := HJ6.out; have := HK2.out; omega
                 case rel => exact ⟨(x8_2), (wrap64 (x9_2 + 1)), (by first | rfl | (simp; done) | (simp [*]; done)), (by first | rfl | (simp; done) | (simp [*]; done)), H', ⟨by have := HJ6.out; have := HK2.out; omega⟩, ⟨zr HO_3.out⟩, ⟨zr HO_4.out⟩, ⟨zr HO_6.out⟩, ⟨zb⟩⟩
                ·rw [if_neg c31] at H
                 have c31b0 : (((rd_T37 t767 x9_2).f1) == x8_2) = false := beq_eq_false_iff_ne.mpr c31
                 have c31b1 : (((rd_T37 t767 x9_2).f1) != x8_2) = true := bne_iff_ne.mpr c31
                 by_cases c34 : ((rd_T37 t767 x9_2).f1) = (wrap64 (x8_2 - 1))
                 ·rw [if_pos c34] at H
                  have c34b0 : (((rd_T37 t767 x9_2).f1) == (wrap64 (x8_2 - 1))) = true := beq_iff_eq.mpr c34
                  have c34b1 : (((rd_T37 t767 x9_2).f1) != (wrap64 (x8_2 - 1))) = false := bne_eq_false_iff_eq.mpr c34
                  clear c34
                  have H' := Aside0.mk H
                  clear H
                  obtain ⟨Ao35, co35, eo35⟩ := Kd.R_slice HO_6.out
                  subst eo35
                  have p771 : 0 ≤ (x9_2 : Int) := of_decide_eq_true (by first | (with_reducible assumption) | assumption)
                  have q771 : x9_2 < (t767.length : Int) := of_decide_eq_true (by first | (with_reducible assumption) | assumption)
                  obtain ⟨ad771, e771, hx771_0, hx771_1⟩ := at_T37 (Kd.R_reads' HO_6.out).2.2 x9_2 p771 q771
                  cases e771
                  replace p771 := eq_true p771
                  replace q771 := eq_true q771
                  obtain ⟨Ao36, co36, eo36⟩ := Kd.R_slice HO_4.out
                  subst eo36
                  have p772 : 0 ≤ (x9_2 : Int) := of_decide_eq_true (by first | (with_reducible assumption) | assumption)
                  have q772 : x9_2 < (t763.length : Int) := of_decide_eq_true (by first | (with_reducible assumption) | assumption)
                  obtain ⟨ad772, e772, hx772_0, hx772_1⟩ := at_T37 (Kd.R_reads' HO_4.out).2.2 x9_2 p772 q772
                  cases e772
                  replace p772 := eq_true p772
                  replace q772 := eq_true q772
                  have p773 : 0 ≤ (x9_2 : Int) := of_decide_eq_true (by first | (with_reducible assumption) | assumption)
                  have q773 : x9_2 < (t767.length : Int) := of_decide_eq_true (by first | (with_reducible assumption) | assumption)
                  obtain ⟨ad773, e773, hx773_0, hx773_1⟩ := at_T37 (Kd.R_reads' HO_6.out).2.2 x9_2 p773 q773
                  obtain rfl : ad771 = ad773 := (by injection e773)
                  replace p773 := eq_true p773
                  replace q773 := eq_true q773
                  have p774 : 0 ≤ (x9_2 : Int) := of_decide_eq_true (by first | (with_reducible assumption) | assumption)
                  have q774 : x9_2 < (t760.length : Int) := of_decide_eq_true (by first | (with_reducible assumption) | assumption)
                  obtain ⟨ad774, e774, hx774_0, hx774_1, hx774_2⟩ := at_T39 (Kd.R_reads' HO_3.out).2.2 x9_2 p774 q774
                  cases e774
                  replace p774 := eq_true p774
                  replace q774 := eq_true q774
                  have p777 : 0 ≤ (x9_2 : Int) := of_decide_eq_true (by first | (with_reducible assumption) | assumption)
                  have q777 : x9_2 < (t767.length : Int) := of_decide_eq_true (by first | (with_reducible assumption) | assumption)
                  obtain ⟨ad777, e777, hx777_0, hx777_1⟩ := at_T37 (Kd.R_reads' HO_6.out).2.2 x9_2 p777 q777
                  obtain rfl : ad771 = ad777 := (by injection e777)
                  replace p777 := eq_true p777
                  replace q777 := eq_true q777
                  have p778 : 0 ≤ (x9_2 : Int) := of_decide_eq_true (by first | (with_reducible assumption) | assumption)
                  have q778 : x9_2 < (t767.length : Int) := of_decide_eq_true (by first | (with_reducible assumption) | assumption)
                  obtain ⟨ad778, e778, hx778_0, hx778_1⟩ := at_T37 (Kd.R_reads' HO_6.out).2.2 x9_2 p778 q778
                  obtain rfl : ad771 = ad778 := (by injection e778)
                  replace p778 := eq_true p778
                  replace q778 := eq_true q778
                  as_aux_lemma =>
                  go_wp2
                  repeat (go_quiet (fail); try go_wp2)
                  go_roundg k2
                  case measure => have := HJ6.out; have := HK2.out; omega
                  case rel => exact ⟨(x8_2), (wrap64 (x9_2 + 1)), (by first | rfl | (simp; done) | (simp [*]; done)), (by first | rfl | (simp; done) | (simp [*]; done)), H', ⟨by have := HJ6.out; have := HK2.out; omega⟩, ⟨zr HO_3.out⟩, ⟨zr HO_4.out⟩, ⟨zr HO_6.out⟩, ⟨zb⟩⟩
                 ·rw [if_neg c34] at H
                  have c34b0 : (((rd_T37 t767 x9_2).f1) == (wrap64 (x8_2 - 1))) = false := beq_eq_false_iff_ne.mpr c34
                  have c34b1 : (((rd_T37 t767 x9_2).f1) != (wrap64 (x8_2 - 1))) = true := bne_iff_ne.mpr c34
                  exact absurd (Option.some.inj H) (by rw [HT9_.out]; decide)
               ·rw [if_neg c30] at H
                have c30b0 : (((rd_T39 t760 x9_2).f0) == 3) = false := beq_eq_false_iff_ne.mpr c30
                have c30b1 : (((rd_T39 t760 x9_2).f0) != 3) = true := bne_iff_ne.mpr c30
                have H' := Aside0.mk H
                clear H
                obtain ⟨Ao37, co37, eo37⟩ := Kd.R_slice HO_6.out
                subst eo37
                have p771 : 0 ≤ (x9_2 : Int) := of_decide_eq_true (by first | (with_reducible assumption) | assumption)
                have q771 : x9_2 < (t767.length : Int) := of_decide_eq_true (by first | (with_reducible assumption) | assumption)
                obtain ⟨ad771, e771, hx771_0, hx771_1⟩ := at_T37 (Kd.R_reads' HO_6.out).2.2 x9_2 p771 q771
                cases e771
                replace p771 := eq_true p771
                replace q771 := eq_true q771
                obtain ⟨Ao38, co38, eo38⟩ := Kd.R_slice HO_4.out
                subst eo38
                have p772 : 0 ≤ (x9_2 : Int) := of_decide_eq_true (by first | (with_reducible assumption) | assumption)
                have q772 : x9_2 < (t763.length : Int) := of_decide_eq_true (by first | (with_reducible assumption) | assumption)
                obtain ⟨ad772, e772, hx772_0, hx772_1⟩ := at_T37 (Kd.R_reads' HO_4.out).2.2 x9_2 p772 q772
                cases e772
                replace p772 := eq_true p772
                replace q772 := eq_true q772
                have p773 : 0 ≤ (x9_2 : Int) := of_decide_eq_true (by first | (with_reducible assumption) | assumption)
                have q773 : x9_2 < (t767.length : Int) := of_decide_eq_true (by first | (with_reducible assumption) | assumption)
                obtain ⟨ad773, e773, hx773_0, hx773_1⟩ := at_T37 (Kd.R_reads' HO_6.out).2.2 x9_2 p773 q773
                obtain rfl : ad771 = ad773 := (by injection e773)
                replace p773 := eq_true p773
                replace q773 := eq_true q773
                have p774 : 0 ≤ (x9_2 : Int) := of_decide_eq_true (by first | (with_reducible assumption) | assumption)
                have q774 : x9_2 < (t760.length : Int) := of_decide_eq_true (by first | (with_reducible assumption) | assumption)
                obtain ⟨ad774, e774, hx774_0, hx774_1, hx774_2⟩ := at_T39 (Kd.R_reads' HO_3.out).2.2 x9_2 p774 q774
                cases e774
                replace p774 := eq_true p774
                replace q774 := eq_true q774
                as_aux_lemma =>
                go_wp2
                repeat (go_quiet (fail); try go_wp2)
                go_roundg k2
                case measure => have := HJ6.out; have := HK2.out; omega
                case rel => exact ⟨(x8_2), (wrap64 (x9_2 + 1)), (by first | rfl | (simp; done) | (simp [*]; done)), (by first | rfl | (simp; done) | (simp [*]; done)), H', ⟨by have := HJ6.out; have := HK2.out; omega⟩, ⟨zr HO_3.out⟩, ⟨zr HO_4.out⟩, ⟨zr HO_6.out⟩, ⟨zb⟩⟩
            ·rw [if_neg c21] at H
             cases H
           ·rw [if_neg c20] at H
            have c20b0 : (((rd_T37 t767 x9_2).f0) == 0) = false := beq_eq_false_iff_ne.mpr c20
            have c20b1 : (((rd_T37 t767 x9_2).f0) != 0) = true := bne_iff_ne.mpr c20
            have H' := Aside0.mk H
            clear H
            obtain ⟨Ao39, co39, eo39⟩ := Kd.R_slice HO_6.out
            subst eo39
            have p771 : 0 ≤ (x9_2 : Int) := of_decide_eq_true (by first | (with_reducible assumption) | assumption)
            have q771 : x9_2 < (t767.length : Int) := of_decide_eq_true (by first | (with_reducible assumption) | assumption)
            obtain ⟨ad771, e771, hx771_0, hx771_1⟩ := at_T37 (Kd.R_reads' HO_6.out).2.2 x9_2 p771 q771
            cases e771
            replace p771 := eq_true p771
            replace q771 := eq_true q771
            obtain ⟨Ao40, co40, eo40⟩ := Kd.R_slice HO_4.out
            subst eo40
            have p772 : 0 ≤ (x9_2 : Int) := of_decide_eq_true (by first | (with_reducible assumption) | assumption)
            have q772 : x9_2 < (t763.length : Int) := of_decide_eq_true (by first | (with_reducible assumption) | assumption)
            obtain ⟨ad772, e772, hx772_0, hx772_1⟩ := at_T37 (Kd.R_reads' HO_4.out).2.2 x9_2 p772 q772
            cases e772
            replace p772 := eq_true p772
            replace q772 := eq_true q772
            have p773 : 0 ≤ (x9_2 : Int) := of_decide_eq_true (by first | (with_reducible assumption) | assumption)
            have q773 : x9_2 < (t767.length : Int) := of_decide_eq_true (by first | (with_reducible assumption) | assumption)
            obtain ⟨ad773, e773, hx773_0, hx773_1⟩ := at_T37 (Kd.R_reads' HO_6.out).2.2 x9_2 p773 q773
            obtain rfl : ad771 = ad773 := (by injection e773)
            replace p773 := eq_true p773
            replace q773 := eq_true q773
            as_aux_lemma =>
            go_wp2
            repeat (go_quiet (fail); try go_wp2)
            go_roundg k2
            case measure => have := HJ6.out; have := HK2.out; omega
            case rel => exact ⟨(x8_2), (wrap64 (x9_2 + 1)), (by first | rfl | (simp; done) | (simp [*]; done)), (by first | rfl | (simp; done) | (simp [*]; done)), H', ⟨by have := HJ6.out; have := HK2.out; omega⟩, ⟨zr HO_3.out⟩, ⟨zr HO_4.out⟩, ⟨zr HO_6.out⟩, ⟨zb⟩⟩
          ·rw [if_neg c19] at H
           have c19b0 : (((rd_T37 t767 x9_2).f0) == ((rd_T37 t763 x9_2).f0)) = false := beq_eq_false_iff_ne.mpr c19
           have c19b1 : (((rd_T37 t767 x9_2).f0) != ((rd_T37 t763 x9_2).f0)) = true := bne_iff_ne.mpr c19
           exact absurd (Option.some.inj H) (by rw [HT9_.out]; decide)
         ·rw [if_neg c18] at H
          cases H
        ·rw [if_neg c17] at H
         cases H
       ·rw [if_neg c16] at H
        have c16b0 : decide (x9_2 < (t767.length : Int)) = false := decide_eq_false c16
        clear c16
        obtain rfl := Option.some.inj H
        obtain ⟨Ao41, co41, eo41⟩ := Kd.R_slice HO_6.out
        subst eo41
        as_aux_lemma =>
        go_wp2
        repeat (go_quiet (fail); try go_wp2)
        go_ret
        exact ⟨by first | rfl | (simp [errW_none, errW_some] <;> rfl) | (simp [*, errW_none, errW_some] <;> rfl), zb⟩

end Go.Proofs.Ytjnhbegppjeafaa.QFnLeases
