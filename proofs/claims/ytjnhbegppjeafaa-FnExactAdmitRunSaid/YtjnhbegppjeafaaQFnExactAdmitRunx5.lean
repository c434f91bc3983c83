/- The functions that the law reaches, each as a plain Lean function with the proof that the Go code comes to its answers: written by a program of this session. No condition. -/
import Derived.Test.YtjnhbegppjeafaaQFnExactAdmitRunx0
import Derived.Test.YtjnhbegppjeafaaQFnExactAdmitRunx4
namespace Go.Proofs.Ytjnhbegppjeafaa.QFnExactAdmitRun
open Go.RowKit Go.Proofs.YtjnhbegppjeafaaW.PrintWords Go.Proofs.YtjnhbegppjeafaaW.PrintLast Go.Proofs.YtjnhbegppjeafaaW.PrintMore
attribute [local go_sem] max2_int min2_int max_two min_two max_three min_three max_four min_four str_gtr str_leq str_geq pw_at_slice   -- for this text's walks alone
set_option linter.unusedVariables false
set_option linter.unusedSimpArgs false

theorem q5z0 {P : Prop} (h : P := by first | (with_reducible assumption) | assumption) : P := h
theorem q5z1 {P : Prop} (h : P := by repeat (first | (with_reducible first | exact HK.out | apply Kept.alloc | apply Kept.drewN | apply Kept.drew) | exact HK.out)) : P := h
theorem q5z2 {P : Prop} (h : P := by first | rfl | (simp; done) | (simp [*]; done)) : P := h
/-! ### laws_eqAdmitOpS: function 31 -/
set_option maxRecDepth 100000 in
def laws_eqAdmitOpS.l0 : Nat → List (S58) → List (S58) → Int → Option (Bool)
 | 0, _, _, _ => none
 | k + 1, x0, x1, x5 => if x5 < (x0.length : Int) then (if 0 ≤ x5 then (if x5 < (x1.length : Int) then ((laws_eqAdmitOp.f ((rd_T58 x0 x5).f0) ((rd_T58 x0 x5).f1) ((rd_T58 x0 x5).f2) ((rd_T58 x1 x5).f0) ((rd_T58 x1 x5).f1) ((rd_T58 x1 x5).f2)).bind fun t696 => (if t696 = true then (laws_eqAdmitOpS.l0 k x0 x1 (wrap64 (x5 + 1))) else (some false))) else (none)) else (none)) else (some true)
def laws_eqAdmitOpS.f (k : Nat) (l0 : List (S58)) (l1 : List (S58)) : Option (Bool) := if (l0.length : Int) = (l1.length : Int) then (laws_eqAdmitOpS.l0 k l0 l1 0) else (some false)
def laws_eqAdmitOpS.T6 : Bool × List (List Nat × List Nat) := (true, [([], []), ([], []), ([0, 1], [0, 1]), ([2], [2]), ([], []), ([], []), ([4, 5], [4, 5]), ([6], [6]), ([3, 7], [3, 7]), ([8], [8])])
def laws_eqAdmitOpS.B6 : List Nat := [0, 0, 3, 7, 0, 0, 48, 112, 255, 511]
theorem laws_eqAdmitOpS.tab6 : rtab .any (opsOf Try.f31 6) = laws_eqAdmitOpS.T6 := by kernel_rfl
theorem laws_eqAdmitOpS.bits6 : waitsOk laws_eqAdmitOpS.T6.2 laws_eqAdmitOpS.B6 = true := by kernel_rfl
set_option maxHeartbeats 8000000 in
set_option maxRecDepth 100000 in
theorem laws_eqAdmitOpS.calls (k : Nat) (A0 : Option Addr) (c0 : Nat) (l0 : List (S58)) (A1 : Option Addr) (c1 : Nat) (l1 : List (S58)) (r : Bool) (w : World) (hr0 : Kd.C k58 w A0 l0.length l0) (hc0 : l0.length ≤ c0) (hr1 : Kd.C k58 w A1 l1.length l1) (hc1 : l1.length ≤ c1) (h : laws_eqAdmitOpS.f k l0 l1 = some r) :
  Calls Try.prog 31 #[.slice A0 l0.length c0, .slice A1 l1.length c1] w fun e w' => e = .returned (.bool r) ∧ Below w.heap.size w w' := by
 have hu58 := Try.underlying58; have HR0 := Aside0.mk hr0; have HC0 := Aside0.mk hc0; clear hr0 hc0; have HR1 := Aside0.mk hr1; have HC1 := Aside0.mk hc1; clear hr1 hc1; have HB := Aside0.mk (Below.refl w.heap.size w); have H : (if (l0.length : Int) = (l1.length : Int) then (laws_eqAdmitOpS.l0 k l0 l1 0) else (some false)) = some r := h; clear h
 by_cases c3 : (l0.length : Int) = (l1.length : Int)
 ·rw [if_pos c3] at H
  have c3b0 : ((l0.length : Int) == (l1.length : Int)) = true := beq_iff_eq.mpr c3; have c3b1 : ((l0.length : Int) != (l1.length : Int)) = false := bne_eq_false_iff_eq.mpr c3
  have c3b2 : (l0.length == l1.length) = true := by first | simpa using c3 | (simp at c3 ⊢; omega)
  clear c3; have H' := Aside0.mk H; clear H
  go_enter Try.func31, Try.ntmps31
  go_wp2
  go_loopg [5] k (fun kq v5 w' => ∃ (x5_1 : Int), v5 = .int .i64 x5_1 ∧ Aside0 (laws_eqAdmitOpS.l0 kq l0 l1 x5_1 = some r) ∧ Aside0 (kq ≤ k) ∧ Aside0 (Below w.heap.size w w'))
  case atStart => exact ⟨(0), q5z2, H', ⟨Nat.le_refl _⟩, ⟨zb⟩⟩
  case round =>
   clear H'; (try clear c1); (try clear c3); (try clear c3b0); (try clear c3b1); (try clear c3b2); obtain ⟨x5_1, rfl, HA, HK1, HB⟩ := hrel
   cases gk with
   | zero => exact absurd HA.out (by simp [laws_eqAdmitOpS.l0])
   | succ k1 =>
    have H := HA.out; clear HA; simp only [laws_eqAdmitOpS.l0] at H
    by_cases c4 : x5_1 < (l0.length : Int)
    ·rw [if_pos c4] at H
     have c4b0 : decide (x5_1 < (l0.length : Int)) = true := decide_eq_true c4; clear c4
     by_cases c5 : 0 ≤ x5_1
     ·rw [if_pos c5] at H
      have c5b0 : decide (0 ≤ x5_1) = true := decide_eq_true c5; clear c5
      by_cases c6 : x5_1 < (l1.length : Int)
      ·rw [if_pos c6] at H
       have c6b0 : decide (x5_1 < (l1.length : Int)) = true := decide_eq_true c6; clear c6; replace H := Option.bind_eq_some_iff.mp H; obtain ⟨t696, A70, H⟩ := H; replace H : (if t696 = true then (laws_eqAdmitOpS.l0 k1 l0 l1 (wrap64 (x5_1 + 1))) else (some false)) = some r := H; have A7 := Aside0.mk A70; clear A70
       by_cases c8 : t696 = true
       ·subst c8
        have H1 : (laws_eqAdmitOpS.l0 k1 l0 l1 (wrap64 (x5_1 + 1))) = some r := by rw [if_pos rfl] at H; exact H
        clear H; have H := H1; clear H1; have H' := Aside0.mk H; clear H
        try go_wp2
        have n0_ := Aside0.mk (below_drew1 HB.out); clear HB; have HB := n0_; clear n0_; have p694 : 0 ≤ (x5_1 : Int) := of_decide_eq_true q5z0; have q694 : x5_1 < (l0.length : Int) := of_decide_eq_true q5z0; obtain ⟨ad694, e694, hx694_0, hx694_1, hx694_2⟩ := at_T58 HR0.out x5_1 p694 q694; have hw694_2 := hx694_2; have hw694_1 := hx694_1; have hw694_0 := hx694_0; cases e694; replace hx694_0 := (HB.out.cell (World.block_lt_of_cell? w _ hx694_0)).trans hx694_0; replace hx694_1 := (HB.out.cell (World.block_lt_of_cell? w _ hx694_1)).trans hx694_1; replace hx694_2 := (HB.out.cell (World.block_lt_of_cell? w _ hx694_2)).trans hx694_2; replace p694 := eq_true p694; replace q694 := eq_true q694; have p695 : 0 ≤ (x5_1 : Int) := of_decide_eq_true q5z0; have q695 : x5_1 < (l1.length : Int) := of_decide_eq_true q5z0; obtain ⟨ad695, e695, hx695_0, hx695_1, hx695_2⟩ := at_T58 HR1.out x5_1 p695 q695; have hw695_2 := hx695_2; have hw695_1 := hx695_1; have hw695_0 := hx695_0; cases e695; replace hx695_0 := (HB.out.cell (World.block_lt_of_cell? w _ hx695_0)).trans hx695_0; replace hx695_1 := (HB.out.cell (World.block_lt_of_cell? w _ hx695_1)).trans hx695_1; replace hx695_2 := (HB.out.cell (World.block_lt_of_cell? w _ hx695_2)).trans hx695_2; replace p695 := eq_true p695; replace q695 := eq_true q695; refine start_ (n := 10) (S := fun w' => w'.cell? (ad694.add ((x5_1).toNat * 3)) = some (.int .i64 ((rd_T58 l0 x5_1).f0)) ∧ w'.cell? ⟨(ad694.add ((x5_1).toNat * 3)).block, (ad694.add ((x5_1).toNat * 3)).off + 1, none⟩ = some (.int .i64 ((rd_T58 l0 x5_1).f1)) ∧ w'.cell? ⟨(ad694.add ((x5_1).toNat * 3)).block, (ad694.add ((x5_1).toNat * 3)).off + 2, none⟩ = some (.int .i64 ((rd_T58 l0 x5_1).f2)) ∧ w'.cell? (ad695.add ((x5_1).toNat * 3)) = some (.int .i64 ((rd_T58 l1 x5_1).f0)) ∧ w'.cell? ⟨(ad695.add ((x5_1).toNat * 3)).block, (ad695.add ((x5_1).toNat * 3)).off + 1, none⟩ = some (.int .i64 ((rd_T58 l1 x5_1).f1)) ∧ w'.cell? ⟨(ad695.add ((x5_1).toNat * 3)).block, (ad695.add ((x5_1).toNat * 3)).off + 2, none⟩ = some (.int .i64 ((rd_T58 l1 x5_1).f2))) (ds := []) #[false, false, false, false, false, false, false, false, false, false] (by kernel_rfl) rfl rfl ⟨((HB.out.cell (World.block_lt_of_cell? w _ hw694_0)).trans hw694_0), ((HB.out.cell (World.block_lt_of_cell? w _ hw694_1)).trans hw694_1), ((HB.out.cell (World.block_lt_of_cell? w _ hw694_2)).trans hw694_2), ((HB.out.cell (World.block_lt_of_cell? w _ hw695_0)).trans hw695_0), ((HB.out.cell (World.block_lt_of_cell? w _ hw695_1)).trans hw695_1), ((HB.out.cell (World.block_lt_of_cell? w _ hw695_2)).trans hw695_2)⟩ (fun hHeld => ?_); refine with_tabW laws_eqAdmitOpS.tab6 laws_eqAdmitOpS.bits6 (fun HT_ HW_ => ?_)
        generalize wr.drew = w9 at HB hx694_0 hx694_1 hx694_2 hx695_0 hx695_1 hx695_2 hHeld ⊢
        refine zp 0 17 ?_; refine zp 1 18 ?_; refine zp 2 19 ?_; refine zp 4 21 ?_; refine zp 5 22 ?_; refine zp 6 23 ?_; refine zt 3 20 ?_ (hr := by rintro w' ⟨s0, s1, s2, s3, s4, s5⟩; go_simp; with_reducible rfl); refine zt 7 24 ?_ (hr := by rintro w' ⟨s0, s1, s2, s3, s4, s5⟩; go_simp; with_reducible rfl); refine one_ (i := 8) (N := some 25) #[true, true, true, true, true, true, true, true, true, false] rfl rfl (one_of HT_.out (by kernel_rfl)) (by decide) (fun K hK => ?_); refine goes_ Try.func45 (by kernel_rfl) rfl #[.agg #[.int .i64 ((rd_T58 l0 x5_1).f0), .int .i64 ((rd_T58 l0 x5_1).f1), .int .i64 ((rd_T58 l0 x5_1).f2)], .agg #[.int .i64 ((rd_T58 l1 x5_1).f0), .int .i64 ((rd_T58 l1 x5_1).f1), .int .i64 ((rd_T58 l1 x5_1).f2)]] (by rfl) rfl rfl zm ?_; (with_reducible refine (laws_eqAdmitOp.calls ((rd_T58 l0 x5_1).f0) ((rd_T58 l0 x5_1).f1) ((rd_T58 l0 x5_1).f2) ((rd_T58 l1 x5_1).f0) ((rd_T58 l1 x5_1).f1) ((rd_T58 l1 x5_1).f2) true _ A7.out).mono ?_); rintro e w10 ⟨rfl, hb⟩; refine ⟨_, rfl, ?_⟩; have n0_ := Aside0.mk (below_step zb hb); clear HB; have HB := n0_; clear n0_; (try clear hb); (try clear hb2); (try clear hk); (try clear hi); refine hK.out _ _ ⟨((HB.out.cell (World.block_lt_of_cell? w _ hw694_0)).trans hw694_0), ((HB.out.cell (World.block_lt_of_cell? w _ hw694_1)).trans hw694_1), ((HB.out.cell (World.block_lt_of_cell? w _ hw694_2)).trans hw694_2), ((HB.out.cell (World.block_lt_of_cell? w _ hw695_0)).trans hw695_0), ((HB.out.cell (World.block_lt_of_cell? w _ hw695_1)).trans hw695_1), ((HB.out.cell (World.block_lt_of_cell? w _ hw695_2)).trans hw695_2)⟩ (fun hHeld => ?_); clear hK K; refine norm_ (a' := ?_) ?_ ?_; rotate_left
        ·show Act.put _ (some 25) _ = _
         simp only [Act.put, List.setIfInBounds_toArray, List.set_cons_zero, List.set_cons_succ, i64_w, i32_w]; rfl
        refine zp 9 26 ?_; refine done_ (done_of HT_.out (by kernel_rfl)) ?_
        try go_wp2
        go_roundg k1
        case measure => have := HK1.out; omega
        case rel => exact ⟨(wrap64 (x5_1 + 1)), q5z2, H', ⟨by have := HK1.out; omega⟩, ⟨zb⟩⟩
       ·replace c8 := Bool.eq_false_iff.mpr c8
        subst c8
        have H1 : (some false) = some r := by rw [if_neg (show ¬ (false = true) by decide)] at H; exact H
        clear H; have H := H1; clear H1; obtain rfl := Option.some.inj H
        try go_wp2
        have n0_ := Aside0.mk (below_drew1 HB.out); clear HB; have HB := n0_; clear n0_; have p694 : 0 ≤ (x5_1 : Int) := of_decide_eq_true q5z0; have q694 : x5_1 < (l0.length : Int) := of_decide_eq_true q5z0; obtain ⟨ad694, e694, hx694_0, hx694_1, hx694_2⟩ := at_T58 HR0.out x5_1 p694 q694; have hw694_2 := hx694_2; have hw694_1 := hx694_1; have hw694_0 := hx694_0; cases e694; replace hx694_0 := (HB.out.cell (World.block_lt_of_cell? w _ hx694_0)).trans hx694_0; replace hx694_1 := (HB.out.cell (World.block_lt_of_cell? w _ hx694_1)).trans hx694_1; replace hx694_2 := (HB.out.cell (World.block_lt_of_cell? w _ hx694_2)).trans hx694_2; replace p694 := eq_true p694; replace q694 := eq_true q694; have p695 : 0 ≤ (x5_1 : Int) := of_decide_eq_true q5z0; have q695 : x5_1 < (l1.length : Int) := of_decide_eq_true q5z0; obtain ⟨ad695, e695, hx695_0, hx695_1, hx695_2⟩ := at_T58 HR1.out x5_1 p695 q695; have hw695_2 := hx695_2; have hw695_1 := hx695_1; have hw695_0 := hx695_0; cases e695; replace hx695_0 := (HB.out.cell (World.block_lt_of_cell? w _ hx695_0)).trans hx695_0; replace hx695_1 := (HB.out.cell (World.block_lt_of_cell? w _ hx695_1)).trans hx695_1; replace hx695_2 := (HB.out.cell (World.block_lt_of_cell? w _ hx695_2)).trans hx695_2; replace p695 := eq_true p695; replace q695 := eq_true q695; refine start_ (n := 10) (S := fun w' => w'.cell? (ad694.add ((x5_1).toNat * 3)) = some (.int .i64 ((rd_T58 l0 x5_1).f0)) ∧ w'.cell? ⟨(ad694.add ((x5_1).toNat * 3)).block, (ad694.add ((x5_1).toNat * 3)).off + 1, none⟩ = some (.int .i64 ((rd_T58 l0 x5_1).f1)) ∧ w'.cell? ⟨(ad694.add ((x5_1).toNat * 3)).block, (ad694.add ((x5_1).toNat * 3)).off + 2, none⟩ = some (.int .i64 ((rd_T58 l0 x5_1).f2)) ∧ w'.cell? (ad695.add ((x5_1).toNat * 3)) = some (.int .i64 ((rd_T58 l1 x5_1).f0)) ∧ w'.cell? ⟨(ad695.add ((x5_1).toNat * 3)).block, (ad695.add ((x5_1).toNat * 3)).off + 1, none⟩ = some (.int .i64 ((rd_T58 l1 x5_1).f1)) ∧ w'.cell? ⟨(ad695.add ((x5_1).toNat * 3)).block, (ad695.add ((x5_1).toNat * 3)).off + 2, none⟩ = some (.int .i64 ((rd_T58 l1 x5_1).f2))) (ds := []) #[false, false, false, false, false, false, false, false, false, false] (by kernel_rfl) rfl rfl ⟨((HB.out.cell (World.block_lt_of_cell? w _ hw694_0)).trans hw694_0), ((HB.out.cell (World.block_lt_of_cell? w _ hw694_1)).trans hw694_1), ((HB.out.cell (World.block_lt_of_cell? w _ hw694_2)).trans hw694_2), ((HB.out.cell (World.block_lt_of_cell? w _ hw695_0)).trans hw695_0), ((HB.out.cell (World.block_lt_of_cell? w _ hw695_1)).trans hw695_1), ((HB.out.cell (World.block_lt_of_cell? w _ hw695_2)).trans hw695_2)⟩ (fun hHeld => ?_); refine with_tabW laws_eqAdmitOpS.tab6 laws_eqAdmitOpS.bits6 (fun HT_ HW_ => ?_)
        generalize wr.drew = w11 at HB hx694_0 hx694_1 hx694_2 hx695_0 hx695_1 hx695_2 hHeld ⊢
        refine zp 0 17 ?_; refine zp 1 18 ?_; refine zp 2 19 ?_; refine zp 4 21 ?_; refine zp 5 22 ?_; refine zp 6 23 ?_; refine zt 3 20 ?_ (hr := by rintro w' ⟨s0, s1, s2, s3, s4, s5⟩; go_simp; with_reducible rfl); refine zt 7 24 ?_ (hr := by rintro w' ⟨s0, s1, s2, s3, s4, s5⟩; go_simp; with_reducible rfl); refine one_ (i := 8) (N := some 25) #[true, true, true, true, true, true, true, true, true, false] rfl rfl (one_of HT_.out (by kernel_rfl)) (by decide) (fun K hK => ?_); refine goes_ Try.func45 (by kernel_rfl) rfl #[.agg #[.int .i64 ((rd_T58 l0 x5_1).f0), .int .i64 ((rd_T58 l0 x5_1).f1), .int .i64 ((rd_T58 l0 x5_1).f2)], .agg #[.int .i64 ((rd_T58 l1 x5_1).f0), .int .i64 ((rd_T58 l1 x5_1).f1), .int .i64 ((rd_T58 l1 x5_1).f2)]] (by rfl) rfl rfl zm ?_; (with_reducible refine (laws_eqAdmitOp.calls ((rd_T58 l0 x5_1).f0) ((rd_T58 l0 x5_1).f1) ((rd_T58 l0 x5_1).f2) ((rd_T58 l1 x5_1).f0) ((rd_T58 l1 x5_1).f1) ((rd_T58 l1 x5_1).f2) false _ A7.out).mono ?_); rintro e w12 ⟨rfl, hb⟩; refine ⟨_, rfl, ?_⟩; have n0_ := Aside0.mk (below_step zb hb); clear HB; have HB := n0_; clear n0_; (try clear hb); (try clear hb2); (try clear hk); (try clear hi); refine hK.out _ _ ⟨((HB.out.cell (World.block_lt_of_cell? w _ hw694_0)).trans hw694_0), ((HB.out.cell (World.block_lt_of_cell? w _ hw694_1)).trans hw694_1), ((HB.out.cell (World.block_lt_of_cell? w _ hw694_2)).trans hw694_2), ((HB.out.cell (World.block_lt_of_cell? w _ hw695_0)).trans hw695_0), ((HB.out.cell (World.block_lt_of_cell? w _ hw695_1)).trans hw695_1), ((HB.out.cell (World.block_lt_of_cell? w _ hw695_2)).trans hw695_2)⟩ (fun hHeld => ?_); clear hK K; refine norm_ (a' := ?_) ?_ ?_; rotate_left
        ·show Act.put _ (some 25) _ = _
         simp only [Act.put, List.setIfInBounds_toArray, List.set_cons_zero, List.set_cons_succ, i64_w, i32_w]; rfl
        refine zp 9 26 ?_; refine done_ (done_of HT_.out (by kernel_rfl)) ?_
        try go_wp2
        go_ret
        exact ⟨by first | rfl | (simp [errW_none, errW_some] <;> rfl) | (simp [*, errW_none, errW_some] <;> rfl), zb⟩
      ·rw [if_neg c6] at H
       cases H
     ·rw [if_neg c5] at H
      cases H
    ·rw [if_neg c4] at H
     have c4b0 : decide (x5_1 < (l0.length : Int)) = false := decide_eq_false c4; clear c4; obtain rfl := Option.some.inj H
     go_wp2
     go_ret
     exact ⟨by first | rfl | (simp [errW_none, errW_some] <;> rfl) | (simp [*, errW_none, errW_some] <;> rfl), zb⟩
 ·rw [if_neg c3] at H
  have c3b0 : ((l0.length : Int) == (l1.length : Int)) = false := beq_eq_false_iff_ne.mpr c3; have c3b1 : ((l0.length : Int) != (l1.length : Int)) = true := bne_iff_ne.mpr c3
  have c3b2 : (l0.length == l1.length) = false := by first | simpa using c3 | (simp at c3 ⊢; omega)
  obtain rfl := Option.some.inj H
  go_enter Try.func31, Try.ntmps31
  go_wp2
  go_ret
  exact ⟨by first | rfl | (simp [errW_none, errW_some] <;> rfl) | (simp [*, errW_none, errW_some] <;> rfl), zb⟩

/-! ### laws_markAdmitOpS: function 32 -/
set_option maxRecDepth 100000 in
def laws_markAdmitOpS.l0 : Nat → List (S58) → Int → Int → Option (Int × (List (S58)))
 | 0, _, _, _ => none
 | k + 1, x0, x1, x5 => if x5 < (x0.length : Int) then (if 0 ≤ x5 then ((some (x0.set (x5 : Int).toNat (⟨x1, (rd_T58 x0 x5).f1, (rd_T58 x0 x5).f2⟩ : S58) : List (S58))).bind fun y697 => ((some (y697.set (x5 : Int).toNat (⟨(rd_T58 y697 x5).f0, wrap64 (x1 + 1), (rd_T58 y697 x5).f2⟩ : S58) : List (S58))).bind fun y698 => (laws_markAdmitOpS.l0 k (y698.set (x5 : Int).toNat (⟨(rd_T58 y698 x5).f0, (rd_T58 y698 x5).f1, wrap64 ((wrap64 (x1 + 1)) + 1)⟩ : S58)) (wrap64 ((wrap64 ((wrap64 (x1 + 1)) + 1)) + 1)) (wrap64 (x5 + 1))))) else (none)) else (some (x1, x0))
def laws_markAdmitOpS.f (k : Nat) (l0 : List (S58)) (a1 : Int) : Option (Int × (List (S58))) := laws_markAdmitOpS.l0 k l0 a1 0
set_option maxHeartbeats 8000000 in
set_option maxRecDepth 100000 in
theorem laws_markAdmitOpS.calls (k : Nat) (P0_ : Nat → Prop) (u9000_ : Value) (l0 : List (S58)) (a1 : Int) (r1 : Int) (r2 : List (S58)) (w0 w : World) (hB : Below w0.heap.size w0 w) (ho0 : Kd.R k58 58 w w0.heap.size P0_ u9000_ l0) (h : laws_markAdmitOpS.f k l0 a1 = some (r1, r2)) :
  Calls Try.prog 32 #[u9000_, .int .i64 a1] w fun e w' => e = .returned (.int .i64 r1) ∧ Kd.R k58 58 w' w0.heap.size (fun k_ => (P0_ k_ ∨ w.heap.size ≤ k_)) u9000_ r2 ∧ Below w0.heap.size w0 w' ∧ Kept w w' (fun k_ => P0_ k_) := by
 have HO0 := Aside0.mk (show Kd.R k58 58 w w0.heap.size (fun k_ => (P0_ k_ ∨ w.heap.size ≤ k_)) u9000_ l0 from Kd.R_mono ho0 (fun k_ hk => (.inl hk))); have HK := Aside0.mk (Kept.refl w (fun k_ => P0_ k_)); have HW0 := Aside0.mk hB.size; have HB := Aside0.mk hB; clear hB; have H : (laws_markAdmitOpS.l0 k l0 a1 0) = some (r1, r2) := h; clear h; have H' := Aside0.mk H; clear H
 go_enter Try.func32, Try.ntmps32
 go_wp2
 go_loopg [1, 5] k (fun kq v1 v5 w' => ∃ (x0_1 : List (S58)) (x1_1 : Int) (x5_1 : Int), v1 = .int .i64 x1_1 ∧ v5 = .int .i64 x5_1 ∧ Aside0 (laws_markAdmitOpS.l0 kq x0_1 x1_1 x5_1 = some (r1, r2)) ∧ Aside0 (kq ≤ k) ∧ Aside0 (Kd.R k58 58 w' w0.heap.size (fun k_ => (P0_ k_ ∨ w.heap.size ≤ k_)) u9000_ x0_1) ∧ Aside0 (Kept w w' (fun k_ => P0_ k_)) ∧ Aside0 (Below w0.heap.size w0 w'))
 case atStart => exact ⟨(l0), (a1), (0), q5z2, q5z2, H', ⟨Nat.le_refl _⟩, ⟨zr HO0.out⟩, ⟨by repeat (first | (with_reducible first | exact HK.out | apply Kept.alloc | apply Kept.drewN | apply Kept.drew) | exact HK.out)⟩, ⟨zb⟩⟩
 case round =>
  clear H'; obtain ⟨x0_1, x1_1, x5_1, rfl, rfl, HA, HK1, HO_0, HK, HB⟩ := hrel
  cases gk with
  | zero => exact absurd HA.out (by simp [laws_markAdmitOpS.l0])
  | succ k1 =>
   have H := HA.out; clear HA; simp only [laws_markAdmitOpS.l0] at H
   by_cases c3 : x5_1 < (x0_1.length : Int)
   ·rw [if_pos c3] at H
    have c3b0 : decide (x5_1 < (x0_1.length : Int)) = true := decide_eq_true c3; clear c3
    by_cases c4 : 0 ≤ x5_1
    ·rw [if_pos c4] at H
     have c4b0 : decide (0 ≤ x5_1) = true := decide_eq_true c4; clear c4; obtain ⟨y697, hy697⟩ : ∃ y_ : List (S58), y_ = (x0_1.set (x5_1 : Int).toNat (⟨x1_1, (rd_T58 x0_1 x5_1).f1, (rd_T58 x0_1 x5_1).f2⟩ : S58)) := ⟨_, rfl⟩
     replace H : ((some (y697.set (x5_1 : Int).toNat (⟨(rd_T58 y697 x5_1).f0, wrap64 (x1_1 + 1), (rd_T58 y697 x5_1).f2⟩ : S58) : List (S58))).bind fun y698 => (laws_markAdmitOpS.l0 k1 (y698.set (x5_1 : Int).toNat (⟨(rd_T58 y698 x5_1).f0, (rd_T58 y698 x5_1).f1, wrap64 ((wrap64 (x1_1 + 1)) + 1)⟩ : S58)) (wrap64 ((wrap64 ((wrap64 (x1_1 + 1)) + 1)) + 1)) (wrap64 (x5_1 + 1)))) = some (r1, r2) := by first | (rw [hy697]; with_reducible exact H) | (have H2_ := (Option.bind_some _ _).symm.trans H; rw [hy697]; with_reducible exact H2_) | (have H2_ := (Option.bind_some _ _).symm.trans H; with_reducible exact H2_) | with_reducible exact H | (rw [hy697]; exact H) | exact H
     have Ny697 := Aside0.mk hy697; clear hy697; obtain ⟨y698, hy698⟩ : ∃ y_ : List (S58), y_ = (y697.set (x5_1 : Int).toNat (⟨(rd_T58 y697 x5_1).f0, wrap64 (x1_1 + 1), (rd_T58 y697 x5_1).f2⟩ : S58)) := ⟨_, rfl⟩
     replace H : (laws_markAdmitOpS.l0 k1 (y698.set (x5_1 : Int).toNat (⟨(rd_T58 y698 x5_1).f0, (rd_T58 y698 x5_1).f1, wrap64 ((wrap64 (x1_1 + 1)) + 1)⟩ : S58)) (wrap64 ((wrap64 ((wrap64 (x1_1 + 1)) + 1)) + 1)) (wrap64 (x5_1 + 1))) = some (r1, r2) := by first | (rw [hy698]; with_reducible exact H) | (have H2_ := (Option.bind_some _ _).symm.trans H; rw [hy698]; with_reducible exact H2_) | (have H2_ := (Option.bind_some _ _).symm.trans H; with_reducible exact H2_) | with_reducible exact H | (rw [hy698]; exact H) | exact H
     have Ny698 := Aside0.mk hy698; clear hy698; obtain ⟨y699, hy699⟩ : ∃ y_ : List (S58), y_ = (y698.set (x5_1 : Int).toNat (⟨(rd_T58 y698 x5_1).f0, (rd_T58 y698 x5_1).f1, wrap64 ((wrap64 (x1_1 + 1)) + 1)⟩ : S58)) := ⟨_, rfl⟩
     replace H : (laws_markAdmitOpS.l0 k1 y699 (wrap64 ((wrap64 ((wrap64 (x1_1 + 1)) + 1)) + 1)) (wrap64 (x5_1 + 1))) = some (r1, r2) := by first | (rw [hy699]; with_reducible exact H) | (have H2_ := (Option.bind_some _ _).symm.trans H; rw [hy699]; with_reducible exact H2_) | (have H2_ := (Option.bind_some _ _).symm.trans H; with_reducible exact H2_) | with_reducible exact H | (rw [hy699]; exact H) | exact H
     have Ny699 := Aside0.mk hy699; clear hy699; have H' := Aside0.mk H; clear H; obtain ⟨Ao8, co8, eo8⟩ := Kd.R_slice HO_0.out; subst eo8; have p5 : 0 ≤ (x5_1 : Int) := of_decide_eq_true q5z0; have q5 : (x5_1 : Int) < ((x0_1.length : Int) : Int) := of_decide_eq_true q5z0; obtain ⟨go5, co5, eo5, gb5, gl5, cl5, HG5⟩ := Kd.R_form HO_0.out (by omega); (first | cases eo5 | (injection eo5 with ea_ en_ ec_; (first | subst ea_ | (injection ea_ with ea_; subst ea_)); subst ec_; clear en_)); have GB5 := Aside0.mk gb5; have GG5 := Aside0.mk HG5; clear gb5 gl5 HG5; have HMgo5 := Aside0.mk (show (P0_ go5 ∨ w.heap.size ≤ go5) from (HO_0.out.1 _ rfl)); obtain ⟨ce5, hcl5, hM5, hcc5, hfr5⟩ := Kd.R_elem HO_0.out z58 (x5_1 : Int) p5 q5; obtain rfl := k58_openM hM5; have hx5_0 : wr.cell? ⟨go5, (x5_1 : Int).toNat * 3, none⟩ = some (.int .i64 ((rd_T58 x0_1 x5_1).f0)) := hcc5 0 _ rfl; have hx5_1 : wr.cell? ⟨go5, (x5_1 : Int).toNat * 3 + 1, none⟩ = some (.int .i64 ((rd_T58 x0_1 x5_1).f1)) := hcc5 1 _ rfl; have hx5_2 : wr.cell? ⟨go5, (x5_1 : Int).toNat * 3 + 2, none⟩ = some (.int .i64 ((rd_T58 x0_1 x5_1).f2)) := hcc5 2 _ rfl; have hf5_0 : wr.frozen? ⟨go5, (x5_1 : Int).toNat * 3, none⟩ = false := hfr5 0; have hf5_1 : wr.frozen? ⟨go5, (x5_1 : Int).toNat * 3 + 1, none⟩ = false := hfr5 1; have hf5_2 : wr.frozen? ⟨go5, (x5_1 : Int).toNat * 3 + 2, none⟩ = false := hfr5 2; clear hcl5 hcc5 hfr5 hM5; replace p5 := eq_true p5; replace q5 := eq_true q5; have HX9 := Aside0.mk (show Kd.R k58 58 wr w0.heap.size (fun k_ => (P0_ k_ ∨ w.heap.size ≤ k_)) (.slice (some ⟨go5, 0, none⟩) x0_1.length co8) x0_1 from (zr HO_0.out)); obtain ⟨ce9, hcl9, hM9, hcc9, hfr9⟩ := Kd.R_elem HX9.out z58 (x5_1 : Int) (of_decide_eq_true q5z0) (by have h_ : (x5_1 : Int) < ((x0_1.length : Int) : Int) := of_decide_eq_true q5z0; first | exact h_ | (have e_ := (Kd.R_reads' HO_0.out).1; omega) | simpa using h_); obtain rfl := k58_openM hM9; have HP9 := Kd.R_seg HX9.out (x5_1 : Int) (of_decide_eq_true q5z0) (by have h_ : (x5_1 : Int) < ((x0_1.length : Int) : Int) := of_decide_eq_true q5z0; first | exact h_ | (have e_ := (Kd.R_reads' HO_0.out).1; omega) | simpa using h_) (seg := [.int .i64 x1_1]) (j := 0) hcl9 hcc9 (show 1 ≤ 3 from by decide) (x' := (⟨x1_1, (rd_T58 x0_1 x5_1).f1, (rd_T58 x0_1 x5_1).f2⟩ : S58)) (k58_mkM _ _ _ (⟨x1_1, (rd_T58 x0_1 x5_1).f1, (rd_T58 x0_1 x5_1).f2⟩ : S58) ) (fun _ hk => hk); have hx9_0 := hcc9 0 _ rfl; (try simp only [show (k58).sz = 3 from rfl, Nat.mul_one, Nat.add_zero] at hx9_0); have hf9_0 := hfr9 0; (try simp only [show (k58).sz = 3 from rfl, Nat.mul_one, Nat.add_zero] at hf9_0); clear hcl9 hcc9 hfr9 hM9
     go_wp2_with (first | ((with_reducible refine gate_store (t := 3) (p := 16) rfl ?_); refine store_event (t := 3) (p := 16) (v := ?vo_w10) (w1 := (wr.setCell ⟨go5, (x5_1 : Int).toNat * 3, none⟩ (.int .i64 x1_1))) ?hg ?ho ?hn ?hr ?_; (case ho => rfl); (case hg => rfl); (case hn => rfl); (case hr => first | (go_simp; done) | (go_simp; rfl)); intro w10 hw; have hg : wr.grownBy w10 (some go5) := (by rw [hw]; exact HP9.2); have hp_ : Kd.R k58 58 w10 w0.heap.size (fun k_ => (P0_ k_ ∨ w.heap.size ≤ k_)) (.slice (some ⟨go5, 0, none⟩) x0_1.length co8) y697 := (by rw [hw, Ny697.out]; exact HP9.1); clear HP9; have n0_ := Aside0.mk (hp_); have n1_ := Aside0.mk ((by rw [hw]; exact below_set (HB.out) GB5.out : Below w0.heap.size w0 w10)); have n2_ := Aside0.mk (Kept.of_grown (S := (fun k_ => P0_ k_)) hg q5z1 (fun k_ e_ => (HO_0.out.1 k_ e_))); clear HO_0; clear HB; clear HK; have HO_0 := n0_; have HB := n1_; have HK := n2_; clear n0_ n1_ n2_; clear hg hw hp_; have p6 : 0 ≤ (x5_1 : Int) := of_decide_eq_true q5z0; have q6 : (x5_1 : Int) < ((x0_1.length : Int) : Int) := of_decide_eq_true q5z0; obtain ⟨ce6, hcl6, hM6, hcc6, hfr6⟩ := Kd.R_elem HO_0.out z58 (x5_1 : Int) p6 q6; obtain rfl := k58_openM hM6; have hx6_0 : w10.cell? ⟨go5, (x5_1 : Int).toNat * 3, none⟩ = some (.int .i64 ((rd_T58 y697 x5_1).f0)) := hcc6 0 _ rfl; have hx6_1 : w10.cell? ⟨go5, (x5_1 : Int).toNat * 3 + 1, none⟩ = some (.int .i64 ((rd_T58 y697 x5_1).f1)) := hcc6 1 _ rfl; have hx6_2 : w10.cell? ⟨go5, (x5_1 : Int).toNat * 3 + 2, none⟩ = some (.int .i64 ((rd_T58 y697 x5_1).f2)) := hcc6 2 _ rfl; have hf6_0 : w10.frozen? ⟨go5, (x5_1 : Int).toNat * 3, none⟩ = false := hfr6 0; have hf6_1 : w10.frozen? ⟨go5, (x5_1 : Int).toNat * 3 + 1, none⟩ = false := hfr6 1; have hf6_2 : w10.frozen? ⟨go5, (x5_1 : Int).toNat * 3 + 2, none⟩ = false := hfr6 2; clear hcl6 hcc6 hfr6 hM6; replace p6 := eq_true p6; replace q6 := eq_true q6; have HX11 := Aside0.mk (show Kd.R k58 58 w10 w0.heap.size (fun k_ => (P0_ k_ ∨ w.heap.size ≤ k_)) (.slice (some ⟨go5, 0, none⟩) x0_1.length co8) y697 from (zr HO_0.out)); obtain ⟨ce11, hcl11, hM11, hcc11, hfr11⟩ := Kd.R_elem HX11.out z58 (x5_1 : Int) (of_decide_eq_true q5z0) (by have h_ : (x5_1 : Int) < ((x0_1.length : Int) : Int) := of_decide_eq_true q5z0; first | exact h_ | (have e_ := (Kd.R_reads' HO_0.out).1; omega) | simpa using h_); obtain rfl := k58_openM hM11; have HP11 := Kd.R_seg HX11.out (x5_1 : Int) (of_decide_eq_true q5z0) (by have h_ : (x5_1 : Int) < ((x0_1.length : Int) : Int) := of_decide_eq_true q5z0; first | exact h_ | (have e_ := (Kd.R_reads' HO_0.out).1; omega) | simpa using h_) (seg := [.int .i64 (wrap64 (x1_1 + 1))]) (j := 1) hcl11 hcc11 (show 2 ≤ 3 from by decide) (x' := (⟨(rd_T58 y697 x5_1).f0, wrap64 (x1_1 + 1), (rd_T58 y697 x5_1).f2⟩ : S58)) (k58_mkM _ _ _ (⟨(rd_T58 y697 x5_1).f0, wrap64 (x1_1 + 1), (rd_T58 y697 x5_1).f2⟩ : S58) ) (fun _ hk => hk); have hx11_1 := hcc11 1 _ rfl; (try simp only [show (k58).sz = 3 from rfl, Nat.mul_one, Nat.add_zero] at hx11_1); have hf11_1 := hfr11 1; (try simp only [show (k58).sz = 3 from rfl, Nat.mul_one, Nat.add_zero] at hf11_1); clear hcl11 hcc11 hfr11 hM11) | ((with_reducible refine gate_store (t := 3) (p := 23) rfl ?_); refine store_event (t := 3) (p := 23) (v := ?vo_w12) (w1 := (w10.setCell ⟨go5, (x5_1 : Int).toNat * 3 + 1, none⟩ (.int .i64 (wrap64 (x1_1 + 1))))) ?hg ?ho ?hn ?hr ?_; (case ho => rfl); (case hg => rfl); (case hn => rfl); (case hr => first | (go_simp; done) | (go_simp; rfl)); intro w12 hw; have hg : w10.grownBy w12 (some go5) := (by rw [hw]; exact HP11.2); have hp_ : Kd.R k58 58 w12 w0.heap.size (fun k_ => (P0_ k_ ∨ w.heap.size ≤ k_)) (.slice (some ⟨go5, 0, none⟩) x0_1.length co8) y698 := (by rw [hw, Ny698.out]; exact HP11.1); clear HP11; have n0_ := Aside0.mk (hp_); have n1_ := Aside0.mk ((by rw [hw]; exact below_set (HB.out) GB5.out : Below w0.heap.size w0 w12)); have n2_ := Aside0.mk (Kept.of_grown (S := (fun k_ => P0_ k_)) hg q5z1 (fun k_ e_ => (HO_0.out.1 k_ e_))); clear HO_0; clear HB; clear HK; have HO_0 := n0_; have HB := n1_; have HK := n2_; clear n0_ n1_ n2_; clear hg hw hp_; have p7 : 0 ≤ (x5_1 : Int) := of_decide_eq_true q5z0; have q7 : (x5_1 : Int) < ((x0_1.length : Int) : Int) := of_decide_eq_true q5z0; obtain ⟨ce7, hcl7, hM7, hcc7, hfr7⟩ := Kd.R_elem HO_0.out z58 (x5_1 : Int) p7 q7; obtain rfl := k58_openM hM7; have hx7_0 : w12.cell? ⟨go5, (x5_1 : Int).toNat * 3, none⟩ = some (.int .i64 ((rd_T58 y698 x5_1).f0)) := hcc7 0 _ rfl; have hx7_1 : w12.cell? ⟨go5, (x5_1 : Int).toNat * 3 + 1, none⟩ = some (.int .i64 ((rd_T58 y698 x5_1).f1)) := hcc7 1 _ rfl; have hx7_2 : w12.cell? ⟨go5, (x5_1 : Int).toNat * 3 + 2, none⟩ = some (.int .i64 ((rd_T58 y698 x5_1).f2)) := hcc7 2 _ rfl; have hf7_0 : w12.frozen? ⟨go5, (x5_1 : Int).toNat * 3, none⟩ = false := hfr7 0; have hf7_1 : w12.frozen? ⟨go5, (x5_1 : Int).toNat * 3 + 1, none⟩ = false := hfr7 1; have hf7_2 : w12.frozen? ⟨go5, (x5_1 : Int).toNat * 3 + 2, none⟩ = false := hfr7 2; clear hcl7 hcc7 hfr7 hM7; replace p7 := eq_true p7; replace q7 := eq_true q7; have HX13 := Aside0.mk (show Kd.R k58 58 w12 w0.heap.size (fun k_ => (P0_ k_ ∨ w.heap.size ≤ k_)) (.slice (some ⟨go5, 0, none⟩) x0_1.length co8) y698 from (zr HO_0.out)); obtain ⟨ce13, hcl13, hM13, hcc13, hfr13⟩ := Kd.R_elem HX13.out z58 (x5_1 : Int) (of_decide_eq_true q5z0) (by have h_ : (x5_1 : Int) < ((x0_1.length : Int) : Int) := of_decide_eq_true q5z0; first | exact h_ | (have e_ := (Kd.R_reads' HO_0.out).1; omega) | simpa using h_); obtain rfl := k58_openM hM13; have HP13 := Kd.R_seg HX13.out (x5_1 : Int) (of_decide_eq_true q5z0) (by have h_ : (x5_1 : Int) < ((x0_1.length : Int) : Int) := of_decide_eq_true q5z0; first | exact h_ | (have e_ := (Kd.R_reads' HO_0.out).1; omega) | simpa using h_) (seg := [.int .i64 (wrap64 ((wrap64 (x1_1 + 1)) + 1))]) (j := 2) hcl13 hcc13 (show 3 ≤ 3 from by decide) (x' := (⟨(rd_T58 y698 x5_1).f0, (rd_T58 y698 x5_1).f1, wrap64 ((wrap64 (x1_1 + 1)) + 1)⟩ : S58)) (k58_mkM _ _ _ (⟨(rd_T58 y698 x5_1).f0, (rd_T58 y698 x5_1).f1, wrap64 ((wrap64 (x1_1 + 1)) + 1)⟩ : S58) ) (fun _ hk => hk); have hx13_2 := hcc13 2 _ rfl; (try simp only [show (k58).sz = 3 from rfl, Nat.mul_one, Nat.add_zero] at hx13_2); have hf13_2 := hfr13 2; (try simp only [show (k58).sz = 3 from rfl, Nat.mul_one, Nat.add_zero] at hf13_2); clear hcl13 hcc13 hfr13 hM13) | ((with_reducible refine gate_store (t := 3) (p := 30) rfl ?_); refine store_event (t := 3) (p := 30) (v := ?vo_w14) (w1 := (w12.setCell ⟨go5, (x5_1 : Int).toNat * 3 + 2, none⟩ (.int .i64 (wrap64 ((wrap64 (x1_1 + 1)) + 1))))) ?hg ?ho ?hn ?hr ?_; (case ho => rfl); (case hg => rfl); (case hn => rfl); (case hr => first | (go_simp; done) | (go_simp; rfl)); intro w14 hw; have hg : w12.grownBy w14 (some go5) := (by rw [hw]; exact HP13.2); have hp_ : Kd.R k58 58 w14 w0.heap.size (fun k_ => (P0_ k_ ∨ w.heap.size ≤ k_)) (.slice (some ⟨go5, 0, none⟩) x0_1.length co8) y699 := (by rw [hw, Ny699.out]; exact HP13.1); clear HP13; have n0_ := Aside0.mk (hp_); have n1_ := Aside0.mk ((by rw [hw]; exact below_set (HB.out) GB5.out : Below w0.heap.size w0 w14)); have n2_ := Aside0.mk (Kept.of_grown (S := (fun k_ => P0_ k_)) hg q5z1 (fun k_ e_ => (HO_0.out.1 k_ e_))); clear HO_0; clear HB; clear HK; have HO_0 := n0_; have HB := n1_; have HK := n2_; clear n0_ n1_ n2_; clear hg hw hp_))
     go_roundg k1
     case measure => have := HK1.out; omega
     case rel => exact ⟨(y699), (wrap64 ((wrap64 ((wrap64 (x1_1 + 1)) + 1)) + 1)), (wrap64 (x5_1 + 1)), q5z2, q5z2, H', ⟨by have := HK1.out; omega⟩, ⟨zr HO_0.out⟩, ⟨by repeat (first | (with_reducible first | exact HK.out | apply Kept.alloc | apply Kept.drewN | apply Kept.drew) | exact HK.out)⟩, ⟨zb⟩⟩
    ·rw [if_neg c4] at H
     cases H
   ·rw [if_neg c3] at H
    have c3b0 : decide (x5_1 < (x0_1.length : Int)) = false := decide_eq_false c3; clear c3; simp only [Option.some.injEq, Prod.mk.injEq] at H; obtain ⟨rfl, rfl⟩ := H; obtain ⟨Ao15, co15, eo15⟩ := Kd.R_slice HO_0.out; subst eo15
    go_wp2
    go_ret
    exact ⟨by first | rfl | (simp [errW_none, errW_some] <;> rfl) | (simp [*, errW_none, errW_some] <;> rfl), by (with_reducible repeat (first | apply Kd.R_alloc | apply Kd.R_drewN | apply Kd.R_drew)); exact HO_0.out, by repeat (first | (with_reducible first | exact HB.out | apply below_alloc | apply pw_below_drewN | apply below_drew1) | exact HB.out), by repeat (first | (with_reducible first | exact HK.out | apply Kept.alloc | apply Kept.drewN | apply Kept.drew) | exact HK.out)⟩

/-! ### laws_markIntS: function 46 -/
set_option maxRecDepth 100000 in
def laws_markIntS.l0 : Nat → List Int → Int → Int → Option (Int × List Int)
 | 0, _, _, _ => none
 | k + 1, x0, x1, x5 => if x5 < (x0.length : Int) then (if 0 ≤ x5 then (laws_markIntS.l0 k (x0.set (x5 : Int).toNat x1) (wrap64 (x1 + 1)) (wrap64 (x5 + 1))) else (none)) else (some (x1, x0))
def laws_markIntS.f (k : Nat) (l0 : List Int) (a1 : Int) : Option (Int × List Int) := laws_markIntS.l0 k l0 a1 0
set_option maxHeartbeats 8000000 in
set_option maxRecDepth 100000 in
theorem laws_markIntS.calls (k : Nat) (P0_ : Nat → Prop) (u9000_ : Value) (l0 : List Int) (a1 : Int) (r1 : Int) (r2 : List Int) (w0 w : World) (hB : Below w0.heap.size w0 w) (ho0 : Kd.R (Kd.int .i64) 3 w w0.heap.size P0_ u9000_ l0) (h : laws_markIntS.f k l0 a1 = some (r1, r2)) :
  Calls Try.prog 46 #[u9000_, .int .i64 a1] w fun e w' => e = .returned (.int .i64 r1) ∧ Kd.R (Kd.int .i64) 3 w' w0.heap.size (fun k_ => (P0_ k_ ∨ w.heap.size ≤ k_)) u9000_ r2 ∧ Below w0.heap.size w0 w' ∧ Kept w w' (fun k_ => P0_ k_) := by
 have HO0 := Aside0.mk (show Kd.R (Kd.int .i64) 3 w w0.heap.size (fun k_ => (P0_ k_ ∨ w.heap.size ≤ k_)) u9000_ l0 from Kd.R_mono ho0 (fun k_ hk => (.inl hk))); have HK := Aside0.mk (Kept.refl w (fun k_ => P0_ k_)); have HW0 := Aside0.mk hB.size; have HB := Aside0.mk hB; clear hB; have H : (laws_markIntS.l0 k l0 a1 0) = some (r1, r2) := h; clear h; have H' := Aside0.mk H; clear H
 go_enter Try.func46, Try.ntmps46
 go_wp2
 go_loopg [1, 5] k (fun kq v1 v5 w' => ∃ (x0_1 : List Int) (x1_1 : Int) (x5_1 : Int), v1 = .int .i64 x1_1 ∧ v5 = .int .i64 x5_1 ∧ Aside0 (laws_markIntS.l0 kq x0_1 x1_1 x5_1 = some (r1, r2)) ∧ Aside0 (kq ≤ k) ∧ Aside0 (Kd.R (Kd.int .i64) 3 w' w0.heap.size (fun k_ => (P0_ k_ ∨ w.heap.size ≤ k_)) u9000_ x0_1) ∧ Aside0 (Kept w w' (fun k_ => P0_ k_)) ∧ Aside0 (Below w0.heap.size w0 w'))
 case atStart => exact ⟨(l0), (a1), (0), q5z2, q5z2, H', ⟨Nat.le_refl _⟩, ⟨zr HO0.out⟩, ⟨by repeat (first | (with_reducible first | exact HK.out | apply Kept.alloc | apply Kept.drewN | apply Kept.drew) | exact HK.out)⟩, ⟨zb⟩⟩
 case round =>
  clear H'; obtain ⟨x0_1, x1_1, x5_1, rfl, rfl, HA, HK1, HO_0, HK, HB⟩ := hrel
  cases gk with
  | zero => exact absurd HA.out (by simp [laws_markIntS.l0])
  | succ k1 =>
   have H := HA.out; clear HA; simp only [laws_markIntS.l0] at H
   by_cases c3 : x5_1 < (x0_1.length : Int)
   ·rw [if_pos c3] at H
    have c3b0 : decide (x5_1 < (x0_1.length : Int)) = true := decide_eq_true c3; clear c3
    by_cases c4 : 0 ≤ x5_1
    ·rw [if_pos c4] at H
     have c4b0 : decide (0 ≤ x5_1) = true := decide_eq_true c4; clear c4; obtain ⟨y700, hy700⟩ : ∃ y_ : List Int, y_ = (x0_1.set (x5_1 : Int).toNat x1_1) := ⟨_, rfl⟩
     replace H : (laws_markIntS.l0 k1 y700 (wrap64 (x1_1 + 1)) (wrap64 (x5_1 + 1))) = some (r1, r2) := by first | (rw [hy700]; with_reducible exact H) | (have H2_ := (Option.bind_some _ _).symm.trans H; rw [hy700]; with_reducible exact H2_) | (have H2_ := (Option.bind_some _ _).symm.trans H; with_reducible exact H2_) | with_reducible exact H | (rw [hy700]; exact H) | exact H
     have Ny700 := Aside0.mk hy700; clear hy700; have H' := Aside0.mk H; clear H; obtain ⟨Ao6, co6, eo6⟩ := Kd.R_slice HO_0.out; subst eo6; have p5 : 0 ≤ (x5_1 : Int) := of_decide_eq_true q5z0; have q5 : (x5_1 : Int) < ((x0_1.length : Int) : Int) := of_decide_eq_true q5z0; obtain ⟨go5, co5, eo5, gb5, gl5, cl5, HG5⟩ := Kd.R_form HO_0.out (by omega); (first | cases eo5 | (injection eo5 with ea_ en_ ec_; (first | subst ea_ | (injection ea_ with ea_; subst ea_)); subst ec_; clear en_)); have GB5 := Aside0.mk gb5; have GG5 := Aside0.mk HG5; clear gb5 gl5 HG5; have HMgo5 := Aside0.mk (show (P0_ go5 ∨ w.heap.size ≤ go5) from (HO_0.out.1 _ rfl)); obtain ⟨hx5_0, hf5_0⟩ := Kd.R_celln 0 HO_0.out (x5_1 : Int) p5 q5; replace p5 := eq_true p5; replace q5 := eq_true q5; have HP7 := Kd.R_putg HO_0.out (x5_1 : Int) x1_1
     go_wp2_with (first | ((with_reducible refine gate_store (t := 3) (p := 15) rfl ?_); refine store_event (t := 3) (p := 15) (v := ?vo_w8) (w1 := (wr.setCell ⟨go5, (x5_1 : Int).toNat, none⟩ (.int .i64 x1_1))) ?hg ?ho ?hn ?hr ?_; (case ho => rfl); (case hg => rfl); (case hn => rfl); (case hr => first | (go_simp; done) | (go_simp; rfl)); intro w8 hw; have hg : wr.grownBy w8 (some go5) := (by rw [hw]; exact HP7.2); have hp_ : Kd.R (Kd.int .i64) 3 w8 w0.heap.size (fun k_ => (P0_ k_ ∨ w.heap.size ≤ k_)) (.slice (some ⟨go5, 0, none⟩) x0_1.length co6) y700 := (by rw [hw, Ny700.out]; exact HP7.1); clear HP7; have n0_ := Aside0.mk (hp_); have n1_ := Aside0.mk ((by rw [hw]; exact below_set (HB.out) GB5.out : Below w0.heap.size w0 w8)); have n2_ := Aside0.mk (Kept.of_grown (S := (fun k_ => P0_ k_)) hg q5z1 (fun k_ e_ => (HO_0.out.1 k_ e_))); clear HO_0; clear HB; clear HK; have HO_0 := n0_; have HB := n1_; have HK := n2_; clear n0_ n1_ n2_; clear hg hw hp_))
     go_roundg k1
     case measure => have := HK1.out; omega
     case rel => exact ⟨(y700), (wrap64 (x1_1 + 1)), (wrap64 (x5_1 + 1)), q5z2, q5z2, H', ⟨by have := HK1.out; omega⟩, ⟨zr HO_0.out⟩, ⟨by repeat (first | (with_reducible first | exact HK.out | apply Kept.alloc | apply Kept.drewN | apply Kept.drew) | exact HK.out)⟩, ⟨zb⟩⟩
    ·rw [if_neg c4] at H
     cases H
   ·rw [if_neg c3] at H
    have c3b0 : decide (x5_1 < (x0_1.length : Int)) = false := decide_eq_false c3; clear c3; simp only [Option.some.injEq, Prod.mk.injEq] at H; obtain ⟨rfl, rfl⟩ := H; obtain ⟨Ao9, co9, eo9⟩ := Kd.R_slice HO_0.out; subst eo9
    go_wp2
    go_ret
    exact ⟨by first | rfl | (simp [errW_none, errW_some] <;> rfl) | (simp [*, errW_none, errW_some] <;> rfl), by (with_reducible repeat (first | apply Kd.R_alloc | apply Kd.R_drewN | apply Kd.R_drew)); exact HO_0.out, by repeat (first | (with_reducible first | exact HB.out | apply below_alloc | apply pw_below_drewN | apply below_drew1) | exact HB.out), by repeat (first | (with_reducible first | exact HK.out | apply Kept.alloc | apply Kept.drewN | apply Kept.drew) | exact HK.out)⟩

/-! ### laws_markAdmitObsS: function 33 -/
set_option maxRecDepth 100000 in
def laws_markAdmitObsS.l0 : Nat → List (S56) → Int → Int → Option (Int × List (S56))
 | 0, _, _, _ => none
 | k + 1, x0, x1, x5 => if x5 < (x0.length : Int) then (if 0 ≤ x5 then ((laws_markIntS.f k ((rd_T56 x0 x5).f2) (wrap64 ((wrap64 (x1 + 1)) + 1))).bind fun bt => (laws_markAdmitObsS.l0 k (x0.set (x5 : Int).toNat (⟨x1, wrap64 (x1 + 1), bt.2⟩ : S56)) bt.1 (wrap64 (x5 + 1)))) else (none)) else (some (x1, x0))
def laws_markAdmitObsS.f (k : Nat) (l0 : List (S56)) (a1 : Int) : Option (Int × List (S56)) := laws_markAdmitObsS.l0 k l0 a1 0
/-- Behind the call on an element's row: the whole is a row again. -/
theorem laws_markAdmitObsS.back {w w0 W w' : World} {P0_ oki : Nat → Prop} {g n cap : Nat} {xs : List (S56)} {i : Int} {y0 y1 : Int} {v2 : Value} {f2' : List Int}
  (hs : w.heap.size ≤ W.heap.size) (hH : Kd.H k56 56 W w0.heap.size (fun k_ => P0_ k_ ∨ w.heap.size ≤ k_) (.slice (some ⟨g, 0, none⟩) n cap) xs i oki [.int .i64 y0, .int .i64 y1, v2])
  (hr : Kd.R (Kd.int .i64) 3 w' w0.heap.size (fun k_ => oki k_ ∨ W.heap.size ≤ k_) v2 f2') (hk : Kept W w' oki) :
  Kd.S k56 56 w' w0.heap.size (fun k_ => P0_ k_ ∨ w.heap.size ≤ k_) (.slice (some ⟨g, 0, none⟩) n cap) (xs.set i.toNat (⟨y0, y1, f2'⟩ : S56)) := by
 have h1 := Kd.H_step (w1 := w') (Kd.H_widen hH) (fun k _ hn hlt => hk.2 k hlt (fun ho => hn (.inl ho)))
 exact Kd.H_back h1 (k56_mkM _ _ _ (⟨y0, y1, f2'⟩ : S56) hr) (fun k hk => hk.elim .inl fun h => .inr ⟨.inr (Nat.le_trans hs h), h⟩)
theorem laws_markAdmitObsS.kept {w W w' : World} {P0_ oki : Nat → Prop} (hK : Kept w W P0_) (hk : Kept W w' oki) (ho : ∀ k, oki k → P0_ k ∨ w.heap.size ≤ k) : Kept w w' P0_ := by
 refine ⟨Nat.le_trans hK.1 hk.1, fun k hlt hn => ?_⟩
 refine (hk.2 k (Nat.lt_of_lt_of_le hlt hK.1) (fun h => ?_)).trans (hK.2 k hlt hn)
 rcases ho k h with h | h
 ·exact hn h
 ·omega
theorem laws_markAdmitObsS.rest {W W2 : World} {base g : Nat} {oki : Nat → Prop} {v2 : Value} {f2 : List Int} (hr : Kd.R (Kd.int .i64) 3 W base oki v2 f2) (hne : ∀ k, oki k → k ≠ g) (hg : W.grownBy W2 (some g)) : Kd.R (Kd.int .i64) 3 W2 base oki v2 f2 :=
 Kd.R_step hr (fun k hk hlt => hg.block k hlt (fun he => hne k hk (by injection he)))
set_option maxHeartbeats 8000000 in
set_option maxRecDepth 100000 in
theorem laws_markAdmitObsS.calls (k : Nat) (P0_ : Nat → Prop) (u9000_ : Value) (l0 : List (S56)) (a1 : Int) (r1 : Int) (r2 : List (S56)) (w0 w : World) (hB : Below w0.heap.size w0 w) (ho0 : Kd.S k56 56 w w0.heap.size P0_ u9000_ l0) (h : laws_markAdmitObsS.f k l0 a1 = some (r1, r2)) :
  Calls Try.prog 33 #[u9000_, .int .i64 a1] w fun e w' => e = .returned (.int .i64 r1) ∧ Kd.S k56 56 w' w0.heap.size (fun k_ => (P0_ k_ ∨ w.heap.size ≤ k_)) u9000_ r2 ∧ Below w0.heap.size w0 w' ∧ Kept w w' (fun k_ => P0_ k_) := by
 have HO0 := Aside0.mk (show Kd.S k56 56 w w0.heap.size (fun k_ => (P0_ k_ ∨ w.heap.size ≤ k_)) u9000_ l0 from Kd.S_mono ho0 (fun k_ hk => (.inl hk))); have HK := Aside0.mk (Kept.refl w (fun k_ => P0_ k_)); have HB := Aside0.mk hB; clear hB ho0; have H' := Aside0.mk (show laws_markAdmitObsS.l0 k l0 a1 0 = some (r1, r2) from h); clear h
 go_enter Try.func33, Try.ntmps33
 go_wp2
 go_loopg [1, 5] k (fun kq v1 v5 w' => ∃ (x0 : List (S56)) (x1 : Int) (x5 : Int), v1 = .int .i64 x1 ∧ v5 = .int .i64 x5 ∧ Aside0 (laws_markAdmitObsS.l0 kq x0 x1 x5 = some (r1, r2)) ∧ Aside0 (kq ≤ k) ∧ Aside0 (Kd.S k56 56 w' w0.heap.size (fun k_ => (P0_ k_ ∨ w.heap.size ≤ k_)) u9000_ x0) ∧ Aside0 (Kept w w' (fun k_ => P0_ k_)) ∧ Aside0 (Below w0.heap.size w0 w'))
 case atStart => exact ⟨(l0), (a1), (0), (by first | rfl | (simp; done)), (by first | rfl | (simp; done)), H', ⟨Nat.le_refl _⟩, ⟨by (with_reducible repeat (first | apply Kd.S_alloc | apply Kd.S_drewN | apply Kd.S_drew)); exact HO0.out⟩, ⟨by repeat (first | (with_reducible first | exact HK.out | apply Kept.alloc | apply Kept.drewN | apply Kept.drew) | exact HK.out)⟩, ⟨zb⟩⟩
 case round =>
  clear H' HO0; obtain ⟨x0, x1, x5, rfl, rfl, HA, HK1, HO, HK, HB⟩ := hrel
  cases gk with
  | zero => exact absurd HA.out (by simp [laws_markAdmitObsS.l0])
  | succ k1 =>
   have H := HA.out; clear HA; simp only [laws_markAdmitObsS.l0] at H
   by_cases c3 : x5 < (x0.length : Int)
   ·rw [if_pos c3] at H
    have c3b0 : decide (x5 < (x0.length : Int)) = true := decide_eq_true c3
    by_cases c4 : 0 ≤ x5
    ·rw [if_pos c4] at H
     have c4b0 : decide (0 ≤ x5) = true := decide_eq_true c4; replace H := Option.bind_eq_some_iff.mp H; obtain ⟨⟨t1, t2⟩, A30, H⟩ := H; have A3 := Aside0.mk A30; have H' := Aside0.mk H; clear H A30; obtain ⟨g, cap, eo, gb, gl, cl, HG⟩ := Kd.S_form HO.out (by omega); subst eo; obtain ⟨oki, c, hcl, hM, hcc, hfr, hoki, hH⟩ := Kd.S_elem HO.out z56 (x5 : Int) c4 (by omega); obtain ⟨v2, rfl, hr2⟩ := k56_openM hM; have GB := Aside0.mk gb; have HI := Aside0.mk hr2; have HN := Aside0.mk hoki; have HH := Aside0.mk hH; have HWS := Aside0.mk HK.out.1; have Hog := Aside0.mk ((Kd.S_R HO.out).1); have hx0 : wr.cell? ⟨g, (x5 : Int).toNat * 3, none⟩ = some (.int .i64 ((rd_T56 x0 x5).f0)) := hcc 0 _ rfl; have hf0 : wr.frozen? ⟨g, (x5 : Int).toNat * 3, none⟩ = false := hfr 0; have p0 : (0 ≤ (x5 : Int)) = True := eq_true c4; have q0 : ((x5 : Int) < (x0.length : Int)) = True := eq_true c3
     have hone : ∀ (P_ : Program) (w_ : World) (a_ : Addr) (m_ : Mode), (store a_ v2 m_).run P_ w_ = stored P_ w_ a_ v2 m_ := by
      obtain ⟨_, in_, ho_, _⟩ := hr2; obtain ⟨A_, c_, e_⟩ := own_slice ho_; subst e_; intro P_ w_ a_ m_; exact run_store_slice P_ w_ a_ m_ A_ _ c_
     have C3 := Aside0.mk c3; have C4 := Aside0.mk c4; clear c3 c4 hcl hM hcc hfr hoki hH gb gl cl HG hr2
     go_wp2_with (first | ((with_reducible refine gate_store (t := 3) (p := 16) rfl ?_); refine store_event (t := 3) (p := 16) (v := ?vo1) (w1 := (wr.setCell ⟨g, (x5 : Int).toNat * 3, none⟩ (.int .i64 x1))) ?hg ?ho ?hn ?hr ?_; (case ho => rfl); (case hg => rfl); (case hn => rfl); (case hr => first | (go_simp; done) | (go_simp; rfl)); intro w8 hw; have s_ := Kd.H_seg HH.out C4.out (by have := C3.out; omega) (seg := [.int .i64 x1]) (j := 0) (show 1 ≤ 3 from by decide) (by simp [Value.oneCell']); have hh : Aside0 (Kd.H k56 56 w8 w0.heap.size (fun k_ => (P0_ k_ ∨ w.heap.size ≤ k_)) (.slice (some ⟨g, 0, none⟩) x0.length cap) x0 x5 oki [.int .i64 x1, .int .i64 ((rd_T56 x0 x5).f1), v2]) := ⟨by rw [hw]; exact s_.1⟩; have hgr : Aside0 (wr.grownBy w8 (some g)) := ⟨by rw [hw]; exact s_.2⟩; have hi : Aside0 (Kd.R (Kd.int .i64) 3 w8 w0.heap.size oki v2 ((rd_T56 x0 x5).f2)) := ⟨laws_markAdmitObsS.rest HI.out (fun k hk => (HN.out k hk).2) hgr.out⟩; have n1_ := Aside0.mk ((by rw [hw]; exact below_set (HB.out) GB.out : Below w0.heap.size w0 w8)); have n2_ := Aside0.mk (Kept.of_grown (S := (fun k_ => P0_ k_)) hgr.out q5z1 (fun k_ e_ => Hog.out k_ e_)); have hx1 : w8.cell? ⟨g, (x5 : Int).toNat * 3 + 1, none⟩ = some (.int .i64 ((rd_T56 x0 x5).f1)) := (Kd.H_at hh.out C4.out (by have := C3.out; omega)).1 1 _ rfl; have hf1 : w8.frozen? ⟨g, (x5 : Int).toNat * 3 + 1, none⟩ = false := (Kd.H_at hh.out C4.out (by have := C3.out; omega)).2 1; clear hw s_ hgr HB HK HI HO HH hx0 hf0; have HB := n1_; have HK := n2_; have HI := hi; have HH := hh; clear n1_ n2_ hi hh) | ((with_reducible refine gate_store (t := 3) (p := 23) rfl ?_); refine store_event (t := 3) (p := 23) (v := ?vo2) (w1 := (w8.setCell ⟨g, (x5 : Int).toNat * 3 + 1, none⟩ (.int .i64 (wrap64 (x1 + 1))))) ?hg ?ho ?hn ?hr ?_; (case ho => rfl); (case hg => rfl); (case hn => rfl); (case hr => first | (go_simp; done) | (go_simp; rfl)); intro w9 hw; have s_ := Kd.H_seg HH.out C4.out (by have := C3.out; omega) (seg := [.int .i64 (wrap64 (x1 + 1))]) (j := 1) (show 2 ≤ 3 from by decide) (by simp [Value.oneCell']); have hh : Aside0 (Kd.H k56 56 w9 w0.heap.size (fun k_ => (P0_ k_ ∨ w.heap.size ≤ k_)) (.slice (some ⟨g, 0, none⟩) x0.length cap) x0 x5 oki [.int .i64 x1, .int .i64 (wrap64 (x1 + 1)), v2]) := ⟨by rw [hw]; exact s_.1⟩; have hgr : Aside0 (w8.grownBy w9 (some g)) := ⟨by rw [hw]; exact s_.2⟩; have hi : Aside0 (Kd.R (Kd.int .i64) 3 w9 w0.heap.size oki v2 ((rd_T56 x0 x5).f2)) := ⟨laws_markAdmitObsS.rest HI.out (fun k hk => (HN.out k hk).2) hgr.out⟩; have n1_ := Aside0.mk ((by rw [hw]; exact below_set (HB.out) GB.out : Below w0.heap.size w0 w9)); have n2_ := Aside0.mk (Kept.of_grown (S := (fun k_ => P0_ k_)) hgr.out q5z1 (fun k_ e_ => Hog.out k_ e_)); have hx2 : w9.cell? ⟨g, (x5 : Int).toNat * 3 + 2, none⟩ = some v2 := (Kd.H_at hh.out C4.out (by have := C3.out; omega)).1 2 _ rfl; clear hw s_ hgr HB HK HI HH hx1 hf1; have HB := n1_; have HK := n2_; have HI := hi; have HH := hh; clear n1_ n2_ hi hh) | (go_at_call 46; (try simp only [i64_w]); refine (laws_markIntS.calls k1 oki v2 ((rd_T56 x0 x5).f2) (wrap64 ((wrap64 (x1 + 1)) + 1)) t1 t2 w0 _ ?hB ?hO A3.out).mono ?_; (case hB => repeat (first | (with_reducible first | exact HB.out | apply below_alloc | apply pw_below_drewN | apply below_drew1) | exact HB.out)); (case hO => (with_reducible repeat (first | apply Kd.R_alloc | apply Kd.R_drewN | apply Kd.R_drew)); exact HI.out); rintro e w7 ⟨rfl, hr_, hb_, hk_⟩; have n0_ := Aside0.mk (laws_markAdmitObsS.back (w := w) (P0_ := P0_) (by repeat (first | exact HWS.out | exact HK.out.1)) (by (with_reducible repeat (first | apply Kd.H_alloc | apply Kd.H_drewN | apply Kd.H_drew)); exact HH.out) hr_ hk_); have n2_ := Aside0.mk (laws_markAdmitObsS.kept q5z1 hk_ (fun k hk => (HN.out k hk).1)); have n1_ := Aside0.mk hb_; clear HB HK HH HI hr_ hb_ hk_; have HB := n1_; have HK := n2_; have HO := n0_; clear n0_ n1_ n2_))
     go_roundg k1
     case measure => have := HK1.out; omega
     case rel => exact ⟨(x0.set (x5 : Int).toNat (⟨x1, wrap64 (x1 + 1), t2⟩ : S56)), t1, (wrap64 (x5 + 1)), q5z2, q5z2, H', ⟨by have := HK1.out; omega⟩, ⟨by (with_reducible repeat (first | apply Kd.S_alloc | apply Kd.S_drewN | apply Kd.S_drew)); exact HO.out⟩, ⟨by repeat (first | (with_reducible first | exact HK.out | apply Kept.alloc | apply Kept.drewN | apply Kept.drew) | exact HK.out)⟩, ⟨zb⟩⟩
    ·rw [if_neg c4] at H
     cases H
   ·rw [if_neg c3] at H
    have c3b0 : decide (x5 < (x0.length : Int)) = false := decide_eq_false c3; clear c3; simp only [Option.some.injEq, Prod.mk.injEq] at H; obtain ⟨rfl, rfl⟩ := H; obtain ⟨Ao9, co9, eo9⟩ := Kd.S_slice HO.out; subst eo9
    go_wp2
    go_ret
    exact ⟨by first | rfl | (simp; done) | (simp [*]; done), by (with_reducible repeat (first | apply Kd.S_alloc | apply Kd.S_drewN | apply Kd.S_drew)); exact HO.out, by repeat (first | (with_reducible first | exact HB.out | apply below_alloc | apply pw_below_drewN | apply below_drew1) | exact HB.out), by repeat (first | (with_reducible first | exact HK.out | apply Kept.alloc | apply Kept.drewN | apply Kept.drew) | exact HK.out)⟩


/-! ### laws_heldIntS: function 47 -/
set_option maxRecDepth 100000 in
def laws_heldIntS.l0 : Nat → List Int → Int → Int → Option (Int)
 | 0, _, _, _ => none
 | k + 1, x0, x1, x5 => if x5 < (x0.length : Int) then (if 0 ≤ x5 then (if (rd x0 x5) = x1 then (laws_heldIntS.l0 k x0 (wrap64 (x1 + 1)) (wrap64 (x5 + 1))) else (some (-1))) else (none)) else (some x1)
def laws_heldIntS.f (k : Nat) (l0 : List Int) (a1 : Int) : Option (Int) := laws_heldIntS.l0 k l0 a1 0
set_option maxHeartbeats 8000000 in
set_option maxRecDepth 100000 in
theorem laws_heldIntS.calls (k : Nat) (A0 : Option Addr) (c0 : Nat) (l0 : List Int) (a1 : Int) (r : Int) (w : World) (hr0 : Kd.C (Kd.int .i64) w A0 l0.length l0) (hc0 : l0.length ≤ c0) (h : laws_heldIntS.f k l0 a1 = some r) :
  Calls Try.prog 47 #[.slice A0 l0.length c0, .int .i64 a1] w fun e w' => e = .returned (.int .i64 r) ∧ Drawn0 w w' := by
 have HR0 := Aside0.mk hr0; have HC0 := Aside0.mk hc0; clear hr0 hc0; have H : (laws_heldIntS.l0 k l0 a1 0) = some r := h; clear h; have H' := Aside0.mk H; clear H
 go_enter Try.func47, Try.ntmps47
 go_wp2
 go_loopg [1, 5] k (fun kq v1 v5 w' => ∃ (x1_1 : Int) (x5_1 : Int), v1 = .int .i64 x1_1 ∧ v5 = .int .i64 x5_1 ∧ Aside0 (laws_heldIntS.l0 kq l0 x1_1 x5_1 = some r) ∧ Aside0 (kq ≤ k) ∧ Drawn0 w w')
 case atStart => exact ⟨(a1), (0), q5z2, q5z2, H', ⟨Nat.le_refl _⟩, by repeat (first | exact Drawn0.refl _ | apply Drawn0.step)⟩
 case round =>
  clear H'; obtain ⟨x1_1, x5_1, rfl, rfl, HA, HK1, ⟨m1, rfl⟩⟩ := hrel
  cases gk with
  | zero => exact absurd HA.out (by simp [laws_heldIntS.l0])
  | succ k1 =>
   have H := HA.out; clear HA; simp only [laws_heldIntS.l0] at H
   by_cases c3 : x5_1 < (l0.length : Int)
   ·rw [if_pos c3] at H
    have c3b0 : decide (x5_1 < (l0.length : Int)) = true := decide_eq_true c3; clear c3
    by_cases c4 : 0 ≤ x5_1
    ·rw [if_pos c4] at H
     have c4b0 : decide (0 ≤ x5_1) = true := decide_eq_true c4; clear c4
     by_cases c5 : (rd l0 x5_1) = x1_1
     ·rw [if_pos c5] at H
      have c5b0 : ((rd l0 x5_1) == x1_1) = true := beq_iff_eq.mpr c5; have c5b1 : ((rd l0 x5_1) != x1_1) = false := bne_eq_false_iff_eq.mpr c5; clear c5; have H' := Aside0.mk H; clear H; have p701 : 0 ≤ (x5_1 : Int) := of_decide_eq_true q5z0; have q701 : x5_1 < (l0.length : Int) := of_decide_eq_true q5z0; obtain ⟨ad701, e701, hx701_0⟩ := Kd.at_int HR0.out x5_1 p701 q701; cases e701; replace p701 := eq_true p701; replace q701 := eq_true q701
      go_wp2
      go_roundg k1
      case measure => have := HK1.out; omega
      case rel => exact ⟨(wrap64 (x1_1 + 1)), (wrap64 (x5_1 + 1)), q5z2, q5z2, H', ⟨by have := HK1.out; omega⟩, by repeat (first | exact Drawn0.refl _ | apply Drawn0.step)⟩
     ·rw [if_neg c5] at H
      have c5b0 : ((rd l0 x5_1) == x1_1) = false := beq_eq_false_iff_ne.mpr c5; have c5b1 : ((rd l0 x5_1) != x1_1) = true := bne_iff_ne.mpr c5; obtain rfl := Option.some.inj H; have p701 : 0 ≤ (x5_1 : Int) := of_decide_eq_true q5z0; have q701 : x5_1 < (l0.length : Int) := of_decide_eq_true q5z0; obtain ⟨ad701, e701, hx701_0⟩ := Kd.at_int HR0.out x5_1 p701 q701; cases e701; replace p701 := eq_true p701; replace q701 := eq_true q701
      go_wp2
      go_ret
      exact ⟨by first | rfl | (simp; done) | (simp [*]; done), by repeat (first | exact Drawn0.refl _ | apply Drawn0.step)⟩
    ·rw [if_neg c4] at H
     cases H
   ·rw [if_neg c3] at H
    have c3b0 : decide (x5_1 < (l0.length : Int)) = false := decide_eq_false c3; clear c3; obtain rfl := Option.some.inj H
    go_wp2
    go_ret
    exact ⟨by first | rfl | (simp; done) | (simp [*]; done), by repeat (first | exact Drawn0.refl _ | apply Drawn0.step)⟩

end Go.Proofs.Ytjnhbegppjeafaa.QFnExactAdmitRun
