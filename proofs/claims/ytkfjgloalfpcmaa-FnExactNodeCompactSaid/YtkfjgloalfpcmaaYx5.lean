/- The functions that the law reaches, each as a plain Lean function with the proof that the Go code comes to its answers: written by a program of this session. No condition. -/
import Derived.Test.YtkfjgloalfpcmaaYx0
import Derived.Test.YtkfjgloalfpcmaaYx4
namespace Go.Proofs.Ytkfjgloalfpcmaa.QFnExactNodeOK
open Go.RowKit Go.Proofs.YtkfjgloalfpcmaaW.PrintWords Go.Proofs.YtkfjgloalfpcmaaW.PrintLast Go.Proofs.YtkfjgloalfpcmaaW.PrintMore
attribute [local go_sem] max2_int min2_int max_two min_two max_three min_three max_four min_four str_gtr str_leq str_geq pw_at_slice   -- for this text's walks alone
set_option linter.unusedVariables false
set_option linter.unusedSimpArgs false

/-! ### laws_eqEntryS: function 38 -/
set_option maxRecDepth 100000 in
def laws_eqEntryS.l0 : Nat → List (S54) → List (S54) → Int → Option (Bool)
 | 0, _, _, _ => none
 | k + 1, x0, x1, x5 => if x5 < (x0.length : Int) then (if 0 ≤ x5 then (if x5 < (x1.length : Int) then ((laws_eqEntry.f ((rd_T54 x0 x5).f0) ((rd_T54 x0 x5).f1) ((rd_T54 x0 x5).f2) ((rd_T54 x0 x5).f3) ((rd_T54 x0 x5).f4) ((rd_T54 x1 x5).f0) ((rd_T54 x1 x5).f1) ((rd_T54 x1 x5).f2) ((rd_T54 x1 x5).f3) ((rd_T54 x1 x5).f4)).bind fun t665 => (if t665 = true then (laws_eqEntryS.l0 k x0 x1 (wrap64 (x5 + 1))) else (some false))) else (none)) else (none)) else (some true)
def laws_eqEntryS.f (k : Nat) (l0 : List (S54)) (l1 : List (S54)) : Option (Bool) := if (l0.length : Int) = (l1.length : Int) then (laws_eqEntryS.l0 k l0 l1 0) else (some false)
theorem laws_eqEntryS.mono_l : ∀ k, (∀ y0 y1 y2, LeO (laws_eqEntryS.l0 k y0 y1 y2) (laws_eqEntryS.l0 (k + 1) y0 y1 y2))
 | 0 => fun _ _ _ r h => by simp [laws_eqEntryS.l0] at h
 | k + 1 => by
  have ih0 := laws_eqEntryS.mono_l k
  ·intro y0 y1 y2
   unfold laws_eqEntryS.l0
   repeat' first
   | (with_reducible exact ih0 _ _ _)
   | (with_reducible exact LeO.refl _)
   | (with_reducible exact LeO.none _)
   | (with_reducible refine LeO.ite ?_ ?_)
   | (with_reducible refine LeO.bind ?_ (fun _ => ?_))
   | exact ih0 _ _ _
   | exact LeO.none _
   | refine LeO.ite ?_ ?_
   | refine LeO.bind ?_ (fun _ => ?_)
theorem laws_eqEntryS.mono : ∀ a0 a1 k, LeO (laws_eqEntryS.f k a0 a1) (laws_eqEntryS.f (k + 1) a0 a1) := by
 intro a0 a1 k
 have ih0 := laws_eqEntryS.mono_l k
 unfold laws_eqEntryS.f
 repeat' first
   | (with_reducible exact ih0 _ _ _)
   | (with_reducible exact LeO.refl _)
   | (with_reducible exact LeO.none _)
   | (with_reducible refine LeO.ite ?_ ?_)
   | (with_reducible refine LeO.bind ?_ (fun _ => ?_))
   | exact ih0 _ _ _
   | exact LeO.none _
   | refine LeO.ite ?_ ?_
   | refine LeO.bind ?_ (fun _ => ?_)
def laws_eqEntryS.T6 : Bool × List (List Nat × List Nat) := (true, [([], []), ([], []), ([0, 1], [0, 1]), ([2], [2]), ([], []), ([], []), ([4, 5], [4, 5]), ([6], [6]), ([3, 7], [3, 7]), ([8], [8])])
def laws_eqEntryS.B6 : List Nat := [0, 0, 3, 7, 0, 0, 48, 112, 255, 511]
theorem laws_eqEntryS.tab6 : rtab .any (opsOf Try.f38 6) = laws_eqEntryS.T6 := by kernel_rfl
theorem laws_eqEntryS.bits6 : waitsOk laws_eqEntryS.T6.2 laws_eqEntryS.B6 = true := by kernel_rfl
set_option maxHeartbeats 8000000 in
set_option maxRecDepth 100000 in
theorem laws_eqEntryS.calls (k : Nat) (A0 : Option Addr) (c0 : Nat) (l0 : List (S54)) (A1 : Option Addr) (c1 : Nat) (l1 : List (S54)) (r : Bool) (w : World) (hr0 : Kd.C k54 w A0 l0.length l0) (hc0 : l0.length ≤ c0) (hr1 : Kd.C k54 w A1 l1.length l1) (hc1 : l1.length ≤ c1) (h : laws_eqEntryS.f k l0 l1 = some r) :
  Calls Try.prog 38 #[.slice A0 l0.length c0, .slice A1 l1.length c1] w fun e w' => e = .returned (.bool r) ∧ Below w.heap.size w w' := by
 have hu54 := Try.underlying54
 have HR0 := Aside0.mk hr0
 have HC0 := Aside0.mk hc0
 clear hr0 hc0
 have HR1 := Aside0.mk hr1
 have HC1 := Aside0.mk hc1
 clear hr1 hc1
 have HB := Aside0.mk (Below.refl w.heap.size w)
 have H : (if (l0.length : Int) = (l1.length : Int) then (laws_eqEntryS.l0 k l0 l1 0) else (some false)) = some r := h
 clear h
 by_cases c3 : (l0.length : Int) = (l1.length : Int)
 ·rw [if_pos c3] at H
  have c3b0 : ((l0.length : Int) == (l1.length : Int)) = true := beq_iff_eq.mpr c3
  have c3b1 : ((l0.length : Int) != (l1.length : Int)) = false := bne_eq_false_iff_eq.mpr c3
  have c3b2 : (l0.length == l1.length) = true := by first | simpa using c3 | (simp at c3 ⊢; omega)
  clear c3
  have H' := Aside0.mk H
  clear H
  go_enter Try.func38, Try.ntmps38
  go_wp2
  go_loopg [5] k (fun kq v5 w' => ∃ (x5_1 : Int), v5 = .int .i64 x5_1 ∧ Aside0 (laws_eqEntryS.l0 kq l0 l1 x5_1 = some r) ∧ Aside0 (kq ≤ k) ∧ Aside0 (Below w.heap.size w w'))
  case atStart => exact ⟨(0), (by first | rfl | (simp; done) | (simp [*]; done)), H', ⟨Nat.le_refl _⟩, ⟨zb⟩⟩
  case round =>
   clear H'
   try clear c1
   try clear c3
   try clear c3b0
   try clear c3b1
   try clear c3b2
   obtain ⟨x5_1, rfl, HA, HK1, HB⟩ := hrel
   cases gk with
   | zero => exact absurd HA.out (by simp [laws_eqEntryS.l0])
   | succ k1 =>
    have H := HA.out
    clear HA
    simp only [laws_eqEntryS.l0] at H
    by_cases c4 : x5_1 < (l0.length : Int)
    ·rw [if_pos c4] at H
     have c4b0 : decide (x5_1 < (l0.length : Int)) = true := decide_eq_true c4
     clear c4
     by_cases c5 : 0 ≤ x5_1
     ·rw [if_pos c5] at H
      have c5b0 : decide (0 ≤ x5_1) = true := decide_eq_true c5
      clear c5
      by_cases c6 : x5_1 < (l1.length : Int)
      ·rw [if_pos c6] at H
       have c6b0 : decide (x5_1 < (l1.length : Int)) = true := decide_eq_true c6
       clear c6
       replace H := Option.bind_eq_some_iff.mp H
       obtain ⟨t665, A70, H⟩ := H
       replace H : (if t665 = true then (laws_eqEntryS.l0 k1 l0 l1 (wrap64 (x5_1 + 1))) else (some false)) = some r := H
       have A7 := Aside0.mk A70
       clear A70
       by_cases c8 : t665 = true
       ·subst c8
        have H1 : (laws_eqEntryS.l0 k1 l0 l1 (wrap64 (x5_1 + 1))) = some r := by rw [if_pos rfl] at H; exact H
        clear H
        have H := H1
        clear H1
        have H' := Aside0.mk H
        clear H
        try go_wp2
        have n0_ := Aside0.mk (below_drew1 HB.out)
        clear HB
        have HB := n0_
        clear n0_
        have p663 : 0 ≤ (x5_1 : Int) := of_decide_eq_true (by first | (with_reducible assumption) | assumption)
        have q663 : x5_1 < (l0.length : Int) := of_decide_eq_true (by first | (with_reducible assumption) | assumption)
        obtain ⟨ad663, e663, hx663_0, hx663_1, hx663_2, hx663_3, hx663_4⟩ := at_T54 HR0.out x5_1 p663 q663
        have hw663_4 := hx663_4
        have hw663_3 := hx663_3
        have hw663_2 := hx663_2
        have hw663_1 := hx663_1
        have hw663_0 := hx663_0
        cases e663
        replace hx663_0 := (HB.out.cell (World.block_lt_of_cell? w _ hx663_0)).trans hx663_0
        replace hx663_1 := (HB.out.cell (World.block_lt_of_cell? w _ hx663_1)).trans hx663_1
        replace hx663_2 := (HB.out.cell (World.block_lt_of_cell? w _ hx663_2)).trans hx663_2
        replace hx663_3 := (HB.out.cell (World.block_lt_of_cell? w _ hx663_3)).trans hx663_3
        replace hx663_4 := (HB.out.cell (World.block_lt_of_cell? w _ hx663_4)).trans hx663_4
        replace p663 := eq_true p663
        replace q663 := eq_true q663
        have p664 : 0 ≤ (x5_1 : Int) := of_decide_eq_true (by first | (with_reducible assumption) | assumption)
        have q664 : x5_1 < (l1.length : Int) := of_decide_eq_true (by first | (with_reducible assumption) | assumption)
        obtain ⟨ad664, e664, hx664_0, hx664_1, hx664_2, hx664_3, hx664_4⟩ := at_T54 HR1.out x5_1 p664 q664
        have hw664_4 := hx664_4
        have hw664_3 := hx664_3
        have hw664_2 := hx664_2
        have hw664_1 := hx664_1
        have hw664_0 := hx664_0
        cases e664
        replace hx664_0 := (HB.out.cell (World.block_lt_of_cell? w _ hx664_0)).trans hx664_0
        replace hx664_1 := (HB.out.cell (World.block_lt_of_cell? w _ hx664_1)).trans hx664_1
        replace hx664_2 := (HB.out.cell (World.block_lt_of_cell? w _ hx664_2)).trans hx664_2
        replace hx664_3 := (HB.out.cell (World.block_lt_of_cell? w _ hx664_3)).trans hx664_3
        replace hx664_4 := (HB.out.cell (World.block_lt_of_cell? w _ hx664_4)).trans hx664_4
        replace p664 := eq_true p664
        replace q664 := eq_true q664
        refine start_ (n := 10) (S := fun w' => w'.cell? (ad663.add ((x5_1).toNat * 5)) = some (.int .i64 ((rd_T54 l0 x5_1).f0)) ∧ w'.cell? ⟨(ad663.add ((x5_1).toNat * 5)).block, (ad663.add ((x5_1).toNat * 5)).off + 1, none⟩ = some (.int .i64 ((rd_T54 l0 x5_1).f1)) ∧ w'.cell? ⟨(ad663.add ((x5_1).toNat * 5)).block, (ad663.add ((x5_1).toNat * 5)).off + 2, none⟩ = some (.string ((rd_T54 l0 x5_1).f2)) ∧ w'.cell? ⟨(ad663.add ((x5_1).toNat * 5)).block, (ad663.add ((x5_1).toNat * 5)).off + 3, none⟩ = some (.int .i64 ((rd_T54 l0 x5_1).f3)) ∧ w'.cell? ⟨(ad663.add ((x5_1).toNat * 5)).block, (ad663.add ((x5_1).toNat * 5)).off + 4, none⟩ = some (.int .i64 ((rd_T54 l0 x5_1).f4)) ∧ w'.cell? (ad664.add ((x5_1).toNat * 5)) = some (.int .i64 ((rd_T54 l1 x5_1).f0)) ∧ w'.cell? ⟨(ad664.add ((x5_1).toNat * 5)).block, (ad664.add ((x5_1).toNat * 5)).off + 1, none⟩ = some (.int .i64 ((rd_T54 l1 x5_1).f1)) ∧ w'.cell? ⟨(ad664.add ((x5_1).toNat * 5)).block, (ad664.add ((x5_1).toNat * 5)).off + 2, none⟩ = some (.string ((rd_T54 l1 x5_1).f2)) ∧ w'.cell? ⟨(ad664.add ((x5_1).toNat * 5)).block, (ad664.add ((x5_1).toNat * 5)).off + 3, none⟩ = some (.int .i64 ((rd_T54 l1 x5_1).f3)) ∧ w'.cell? ⟨(ad664.add ((x5_1).toNat * 5)).block, (ad664.add ((x5_1).toNat * 5)).off + 4, none⟩ = some (.int .i64 ((rd_T54 l1 x5_1).f4))) (ds := []) #[false, false, false, false, false, false, false, false, false, false] (by kernel_rfl) rfl rfl ⟨((HB.out.cell (World.block_lt_of_cell? w _ hw663_0)).trans hw663_0), ((HB.out.cell (World.block_lt_of_cell? w _ hw663_1)).trans hw663_1), ((HB.out.cell (World.block_lt_of_cell? w _ hw663_2)).trans hw663_2), ((HB.out.cell (World.block_lt_of_cell? w _ hw663_3)).trans hw663_3), ((HB.out.cell (World.block_lt_of_cell? w _ hw663_4)).trans hw663_4), ((HB.out.cell (World.block_lt_of_cell? w _ hw664_0)).trans hw664_0), ((HB.out.cell (World.block_lt_of_cell? w _ hw664_1)).trans hw664_1), ((HB.out.cell (World.block_lt_of_cell? w _ hw664_2)).trans hw664_2), ((HB.out.cell (World.block_lt_of_cell? w _ hw664_3)).trans hw664_3), ((HB.out.cell (World.block_lt_of_cell? w _ hw664_4)).trans hw664_4)⟩ (fun hHeld => ?_); refine with_tabW laws_eqEntryS.tab6 laws_eqEntryS.bits6 (fun HT_ HW_ => ?_)
        generalize wr.drew = w9 at HB hx663_0 hx663_1 hx663_2 hx663_3 hx663_4 hx664_0 hx664_1 hx664_2 hx664_3 hx664_4 hHeld ⊢
        refine zp 0 17 ?_
        refine zp 1 18 ?_
        refine zp 2 19 ?_
        refine zp 4 21 ?_
        refine zp 5 22 ?_
        refine zp 6 23 ?_
        refine zt 3 20 ?_ (hr := by rintro w' ⟨s0, s1, s2, s3, s4, s5, s6, s7, s8, s9⟩; go_simp; with_reducible rfl)
        refine zt 7 24 ?_ (hr := by rintro w' ⟨s0, s1, s2, s3, s4, s5, s6, s7, s8, s9⟩; go_simp; with_reducible rfl)
        refine one_ (i := 8) (N := some 25) #[true, true, true, true, true, true, true, true, true, false] rfl rfl (one_of HT_.out (by kernel_rfl)) (by decide) (fun K hK => ?_)
        refine goes_ Try.func57 (by kernel_rfl) rfl #[.agg #[.int .i64 ((rd_T54 l0 x5_1).f0), .int .i64 ((rd_T54 l0 x5_1).f1), .string ((rd_T54 l0 x5_1).f2), .int .i64 ((rd_T54 l0 x5_1).f3), .int .i64 ((rd_T54 l0 x5_1).f4)], .agg #[.int .i64 ((rd_T54 l1 x5_1).f0), .int .i64 ((rd_T54 l1 x5_1).f1), .string ((rd_T54 l1 x5_1).f2), .int .i64 ((rd_T54 l1 x5_1).f3), .int .i64 ((rd_T54 l1 x5_1).f4)]] (by rfl) rfl rfl zm ?_
        with_reducible refine (laws_eqEntry.calls ((rd_T54 l0 x5_1).f0) ((rd_T54 l0 x5_1).f1) ((rd_T54 l0 x5_1).f2) ((rd_T54 l0 x5_1).f3) ((rd_T54 l0 x5_1).f4) ((rd_T54 l1 x5_1).f0) ((rd_T54 l1 x5_1).f1) ((rd_T54 l1 x5_1).f2) ((rd_T54 l1 x5_1).f3) ((rd_T54 l1 x5_1).f4) true _ A7.out).mono ?_
        rintro e w10 ⟨rfl, hb⟩
        refine ⟨_, rfl, ?_⟩
        have n0_ := Aside0.mk (below_step zb hb)
        clear HB
        have HB := n0_
        clear n0_
        (try clear hb)
        (try clear hb2)
        (try clear hk)
        (try clear hi)
        refine hK.out _ _ ⟨((HB.out.cell (World.block_lt_of_cell? w _ hw663_0)).trans hw663_0), ((HB.out.cell (World.block_lt_of_cell? w _ hw663_1)).trans hw663_1), ((HB.out.cell (World.block_lt_of_cell? w _ hw663_2)).trans hw663_2), ((HB.out.cell (World.block_lt_of_cell? w _ hw663_3)).trans hw663_3), ((HB.out.cell (World.block_lt_of_cell? w _ hw663_4)).trans hw663_4), ((HB.out.cell (World.block_lt_of_cell? w _ hw664_0)).trans hw664_0), ((HB.out.cell (World.block_lt_of_cell? w _ hw664_1)).trans hw664_1), ((HB.out.cell (World.block_lt_of_cell? w _ hw664_2)).trans hw664_2), ((HB.out.cell (World.block_lt_of_cell? w _ hw664_3)).trans hw664_3), ((HB.out.cell (World.block_lt_of_cell? w _ hw664_4)).trans hw664_4)⟩ (fun hHeld => ?_)
        clear hK K
        refine norm_ (a' := ?_) ?_ ?_
        rotate_left
        ·show Act.put _ (some 25) _ = _
         simp only [Act.put, List.setIfInBounds_toArray, List.set_cons_zero, List.set_cons_succ, i64_w, i32_w]
         rfl
        refine zp 9 26 ?_
        refine done_ (done_of HT_.out (by kernel_rfl)) ?_
        try go_wp2
        go_roundg k1
        case measure => have := HK1.out; omega
        case rel => exact ⟨(wrap64 (x5_1 + 1)), (by first | rfl | (simp; done) | (simp [*]; done)), H', ⟨by have := HK1.out; omega⟩, ⟨zb⟩⟩
       ·replace c8 := Bool.eq_false_iff.mpr c8
        subst c8
        have H1 : (some false) = some r := by rw [if_neg (show ¬ (false = true) by decide)] at H; exact H
        clear H
        have H := H1
        clear H1
        obtain rfl := Option.some.inj H
        try go_wp2
        have n0_ := Aside0.mk (below_drew1 HB.out)
        clear HB
        have HB := n0_
        clear n0_
        have p663 : 0 ≤ (x5_1 : Int) := of_decide_eq_true (by first | (with_reducible assumption) | assumption)
        have q663 : x5_1 < (l0.length : Int) := of_decide_eq_true (by first | (with_reducible assumption) | assumption)
        obtain ⟨ad663, e663, hx663_0, hx663_1, hx663_2, hx663_3, hx663_4⟩ := at_T54 HR0.out x5_1 p663 q663
        have hw663_4 := hx663_4
        have hw663_3 := hx663_3
        have hw663_2 := hx663_2
        have hw663_1 := hx663_1
        have hw663_0 := hx663_0
        cases e663
        replace hx663_0 := (HB.out.cell (World.block_lt_of_cell? w _ hx663_0)).trans hx663_0
        replace hx663_1 := (HB.out.cell (World.block_lt_of_cell? w _ hx663_1)).trans hx663_1
        replace hx663_2 := (HB.out.cell (World.block_lt_of_cell? w _ hx663_2)).trans hx663_2
        replace hx663_3 := (HB.out.cell (World.block_lt_of_cell? w _ hx663_3)).trans hx663_3
        replace hx663_4 := (HB.out.cell (World.block_lt_of_cell? w _ hx663_4)).trans hx663_4
        replace p663 := eq_true p663
        replace q663 := eq_true q663
        have p664 : 0 ≤ (x5_1 : Int) := of_decide_eq_true (by first | (with_reducible assumption) | assumption)
        have q664 : x5_1 < (l1.length : Int) := of_decide_eq_true (by first | (with_reducible assumption) | assumption)
        obtain ⟨ad664, e664, hx664_0, hx664_1, hx664_2, hx664_3, hx664_4⟩ := at_T54 HR1.out x5_1 p664 q664
        have hw664_4 := hx664_4
        have hw664_3 := hx664_3
        have hw664_2 := hx664_2
        have hw664_1 := hx664_1
        have hw664_0 := hx664_0
        cases e664
        replace hx664_0 := (HB.out.cell (World.block_lt_of_cell? w _ hx664_0)).trans hx664_0
        replace hx664_1 := (HB.out.cell (World.block_lt_of_cell? w _ hx664_1)).trans hx664_1
        replace hx664_2 := (HB.out.cell (World.block_lt_of_cell? w _ hx664_2)).trans hx664_2
        replace hx664_3 := (HB.out.cell (World.block_lt_of_cell? w _ hx664_3)).trans hx664_3
        replace hx664_4 := (HB.out.cell (World.block_lt_of_cell? w _ hx664_4)).trans hx664_4
        replace p664 := eq_true p664
        replace q664 := eq_true q664
        refine start_ (n := 10) (S := fun w' => w'.cell? (ad663.add ((x5_1).toNat * 5)) = some (.int .i64 ((rd_T54 l0 x5_1).f0)) ∧ w'.cell? ⟨(ad663.add ((x5_1).toNat * 5)).block, (ad663.add ((x5_1).toNat * 5)).off + 1, none⟩ = some (.int .i64 ((rd_T54 l0 x5_1).f1)) ∧ w'.cell? ⟨(ad663.add ((x5_1).toNat * 5)).block, (ad663.add ((x5_1).toNat * 5)).off + 2, none⟩ = some (.string ((rd_T54 l0 x5_1).f2)) ∧ w'.cell? ⟨(ad663.add ((x5_1).toNat * 5)).block, (ad663.add ((x5_1).toNat * 5)).off + 3, none⟩ = some (.int .i64 ((rd_T54 l0 x5_1).f3)) ∧ w'.cell? ⟨(ad663.add ((x5_1).toNat * 5)).block, (ad663.add ((x5_1).toNat * 5)).off + 4, none⟩ = some (.int .i64 ((rd_T54 l0 x5_1).f4)) ∧ w'.cell? (ad664.add ((x5_1).toNat * 5)) = some (.int .i64 ((rd_T54 l1 x5_1).f0)) ∧ w'.cell? ⟨(ad664.add ((x5_1).toNat * 5)).block, (ad664.add ((x5_1).toNat * 5)).off + 1, none⟩ = some (.int .i64 ((rd_T54 l1 x5_1).f1)) ∧ w'.cell? ⟨(ad664.add ((x5_1).toNat * 5)).block, (ad664.add ((x5_1).toNat * 5)).off + 2, none⟩ = some (.string ((rd_T54 l1 x5_1).f2)) ∧ w'.cell? ⟨(ad664.add ((x5_1).toNat * 5)).block, (ad664.add ((x5_1).toNat * 5)).off + 3, none⟩ = some (.int .i64 ((rd_T54 l1 x5_1).f3)) ∧ w'.cell? ⟨(ad664.add ((x5_1).toNat * 5)).block, (ad664.add ((x5_1).toNat * 5)).off + 4, none⟩ = some (.int .i64 ((rd_T54 l1 x5_1).f4))) (ds := []) #[false, false, false, false, false, false, false, false, false, false] (by kernel_rfl) rfl rfl ⟨((HB.out.cell (World.block_lt_of_cell? w _ hw663_0)).trans hw663_0), ((HB.out.cell (World.block_lt_of_cell? w _ hw663_1)).trans hw663_1), ((HB.out.cell (World.block_lt_of_cell? w _ hw663_2)).trans hw663_2), ((HB.out.cell (World.block_lt_of_cell? w _ hw663_3)).trans hw663_3), ((HB.out.cell (World.block_lt_of_cell? w _ hw663_4)).trans hw663_4), ((HB.out.cell (World.block_lt_of_cell? w _ hw664_0)).trans hw664_0), ((HB.out.cell (World.block_lt_of_cell? w _ hw664_1)).trans hw664_1), ((HB.out.cell (World.block_lt_of_cell? w _ hw664_2)).trans hw664_2), ((HB.out.cell (World.block_lt_of_cell? w _ hw664_3)).trans hw664_3), ((HB.out.cell (World.block_lt_of_cell? w _ hw664_4)).trans hw664_4)⟩ (fun hHeld => ?_); refine with_tabW laws_eqEntryS.tab6 laws_eqEntryS.bits6 (fun HT_ HW_ => ?_)
        generalize wr.drew = w11 at HB hx663_0 hx663_1 hx663_2 hx663_3 hx663_4 hx664_0 hx664_1 hx664_2 hx664_3 hx664_4 hHeld ⊢
        refine zp 0 17 ?_
        refine zp 1 18 ?_
        refine zp 2 19 ?_
        refine zp 4 21 ?_
        refine zp 5 22 ?_
        refine zp 6 23 ?_
        refine zt 3 20 ?_ (hr := by rintro w' ⟨s0, s1, s2, s3, s4, s5, s6, s7, s8, s9⟩; go_simp; with_reducible rfl)
        refine zt 7 24 ?_ (hr := by rintro w' ⟨s0, s1, s2, s3, s4, s5, s6, s7, s8, s9⟩; go_simp; with_reducible rfl)
        refine one_ (i := 8) (N := some 25) #[true, true, true, true, true, true, true, true, true, false] rfl rfl (one_of HT_.out (by kernel_rfl)) (by decide) (fun K hK => ?_)
        refine goes_ Try.func57 (by kernel_rfl) rfl #[.agg #[.int .i64 ((rd_T54 l0 x5_1).f0), .int .i64 ((rd_T54 l0 x5_1).f1), .string ((rd_T54 l0 x5_1).f2), .int .i64 ((rd_T54 l0 x5_1).f3), .int .i64 ((rd_T54 l0 x5_1).f4)], .agg #[.int .i64 ((rd_T54 l1 x5_1).f0), .int .i64 ((rd_T54 l1 x5_1).f1), .string ((rd_T54 l1 x5_1).f2), .int .i64 ((rd_T54 l1 x5_1).f3), .int .i64 ((rd_T54 l1 x5_1).f4)]] (by rfl) rfl rfl zm ?_
        with_reducible refine (laws_eqEntry.calls ((rd_T54 l0 x5_1).f0) ((rd_T54 l0 x5_1).f1) ((rd_T54 l0 x5_1).f2) ((rd_T54 l0 x5_1).f3) ((rd_T54 l0 x5_1).f4) ((rd_T54 l1 x5_1).f0) ((rd_T54 l1 x5_1).f1) ((rd_T54 l1 x5_1).f2) ((rd_T54 l1 x5_1).f3) ((rd_T54 l1 x5_1).f4) false _ A7.out).mono ?_
        rintro e w12 ⟨rfl, hb⟩
        refine ⟨_, rfl, ?_⟩
        have n0_ := Aside0.mk (below_step zb hb)
        clear HB
        have HB := n0_
        clear n0_
        (try clear hb)
        (try clear hb2)
        (try clear hk)
        (try clear hi)
        refine hK.out _ _ ⟨((HB.out.cell (World.block_lt_of_cell? w _ hw663_0)).trans hw663_0), ((HB.out.cell (World.block_lt_of_cell? w _ hw663_1)).trans hw663_1), ((HB.out.cell (World.block_lt_of_cell? w _ hw663_2)).trans hw663_2), ((HB.out.cell (World.block_lt_of_cell? w _ hw663_3)).trans hw663_3), ((HB.out.cell (World.block_lt_of_cell? w _ hw663_4)).trans hw663_4), ((HB.out.cell (World.block_lt_of_cell? w _ hw664_0)).trans hw664_0), ((HB.out.cell (World.block_lt_of_cell? w _ hw664_1)).trans hw664_1), ((HB.out.cell (World.block_lt_of_cell? w _ hw664_2)).trans hw664_2), ((HB.out.cell (World.block_lt_of_cell? w _ hw664_3)).trans hw664_3), ((HB.out.cell (World.block_lt_of_cell? w _ hw664_4)).trans hw664_4)⟩ (fun hHeld => ?_)
        clear hK K
        refine norm_ (a' := ?_) ?_ ?_
        rotate_left
        ·show Act.put _ (some 25) _ = _
         simp only [Act.put, List.setIfInBounds_toArray, List.set_cons_zero, List.set_cons_succ, i64_w, i32_w]
         rfl
        refine zp 9 26 ?_
        refine done_ (done_of HT_.out (by kernel_rfl)) ?_
        try go_wp2
        go_ret
        exact ⟨by first | rfl | (simp [errW_none, errW_some] <;> rfl) | (simp [*, errW_none, errW_some] <;> rfl), zb⟩
      ·rw [if_neg c6] at H
       cases H
     ·rw [if_neg c5] at H
      cases H
    ·rw [if_neg c4] at H
     have c4b0 : decide (x5_1 < (l0.length : Int)) = false := decide_eq_false c4
     clear c4
     obtain rfl := Option.some.inj H
     go_wp2
     go_ret
     exact ⟨by first | rfl | (simp [errW_none, errW_some] <;> rfl) | (simp [*, errW_none, errW_some] <;> rfl), zb⟩
 ·rw [if_neg c3] at H
  have c3b0 : ((l0.length : Int) == (l1.length : Int)) = false := beq_eq_false_iff_ne.mpr c3
  have c3b1 : ((l0.length : Int) != (l1.length : Int)) = true := bne_iff_ne.mpr c3
  have c3b2 : (l0.length == l1.length) = false := by first | simpa using c3 | (simp at c3 ⊢; omega)
  obtain rfl := Option.some.inj H
  go_enter Try.func38, Try.ntmps38
  go_wp2
  go_ret
  exact ⟨by first | rfl | (simp [errW_none, errW_some] <;> rfl) | (simp [*, errW_none, errW_some] <;> rfl), zb⟩

/-! ### laws_eqIntS: function 39 -/
set_option maxRecDepth 100000 in
def laws_eqIntS.l0 : Nat → List Int → List Int → Int → Option (Bool)
 | 0, _, _, _ => none
 | k + 1, x0, x1, x5 => if x5 < (x0.length : Int) then (if 0 ≤ x5 then (if x5 < (x1.length : Int) then (if (rd x0 x5) = (rd x1 x5) then (laws_eqIntS.l0 k x0 x1 (wrap64 (x5 + 1))) else (some false)) else (none)) else (none)) else (some true)
def laws_eqIntS.f (k : Nat) (l0 : List Int) (l1 : List Int) : Option (Bool) := if (l0.length : Int) = (l1.length : Int) then (laws_eqIntS.l0 k l0 l1 0) else (some false)
theorem laws_eqIntS.mono_l : ∀ k, (∀ y0 y1 y2, LeO (laws_eqIntS.l0 k y0 y1 y2) (laws_eqIntS.l0 (k + 1) y0 y1 y2))
 | 0 => fun _ _ _ r h => by simp [laws_eqIntS.l0] at h
 | k + 1 => by
  have ih0 := laws_eqIntS.mono_l k
  ·intro y0 y1 y2
   unfold laws_eqIntS.l0
   repeat' first
   | (with_reducible exact ih0 _ _ _)
   | (with_reducible exact LeO.refl _)
   | (with_reducible exact LeO.none _)
   | (with_reducible refine LeO.ite ?_ ?_)
   | (with_reducible refine LeO.bind ?_ (fun _ => ?_))
   | exact ih0 _ _ _
   | exact LeO.none _
   | refine LeO.ite ?_ ?_
   | refine LeO.bind ?_ (fun _ => ?_)
theorem laws_eqIntS.mono : ∀ a0 a1 k, LeO (laws_eqIntS.f k a0 a1) (laws_eqIntS.f (k + 1) a0 a1) := by
 intro a0 a1 k
 have ih0 := laws_eqIntS.mono_l k
 unfold laws_eqIntS.f
 repeat' first
   | (with_reducible exact ih0 _ _ _)
   | (with_reducible exact LeO.refl _)
   | (with_reducible exact LeO.none _)
   | (with_reducible refine LeO.ite ?_ ?_)
   | (with_reducible refine LeO.bind ?_ (fun _ => ?_))
   | exact ih0 _ _ _
   | exact LeO.none _
   | refine LeO.ite ?_ ?_
   | refine LeO.bind ?_ (fun _ => ?_)
set_option maxHeartbeats 8000000 in
set_option maxRecDepth 100000 in
theorem laws_eqIntS.calls (k : Nat) (A0 : Option Addr) (c0 : Nat) (l0 : List Int) (A1 : Option Addr) (c1 : Nat) (l1 : List Int) (r : Bool) (w : World) (hr0 : Kd.C (Kd.int .i64) w A0 l0.length l0) (hc0 : l0.length ≤ c0) (hr1 : Kd.C (Kd.int .i64) w A1 l1.length l1) (hc1 : l1.length ≤ c1) (h : laws_eqIntS.f k l0 l1 = some r) :
  Calls Try.prog 39 #[.slice A0 l0.length c0, .slice A1 l1.length c1] w fun e w' => e = .returned (.bool r) ∧ Drawn0 w w' := by
 have HR0 := Aside0.mk hr0
 have HC0 := Aside0.mk hc0
 clear hr0 hc0
 have HR1 := Aside0.mk hr1
 have HC1 := Aside0.mk hc1
 clear hr1 hc1
 have H : (if (l0.length : Int) = (l1.length : Int) then (laws_eqIntS.l0 k l0 l1 0) else (some false)) = some r := h
 clear h
 by_cases c3 : (l0.length : Int) = (l1.length : Int)
 ·rw [if_pos c3] at H
  have c3b0 : ((l0.length : Int) == (l1.length : Int)) = true := beq_iff_eq.mpr c3
  have c3b1 : ((l0.length : Int) != (l1.length : Int)) = false := bne_eq_false_iff_eq.mpr c3
  have c3b2 : (l0.length == l1.length) = true := by first | simpa using c3 | (simp at c3 ⊢; omega)
  clear c3
  have H' := Aside0.mk H
  clear H
  go_enter Try.func39, Try.ntmps39
  go_wp2
  repeat (go_quiet (fail); try go_wp2)
  go_loopg [5] k (fun kq v5 w' => ∃ (x5_1 : Int), v5 = .int .i64 x5_1 ∧ Aside0 (laws_eqIntS.l0 kq l0 l1 x5_1 = some r) ∧ Aside0 (kq ≤ k) ∧ Drawn0 w w')
  case atStart => exact ⟨(0), (by first | rfl | (simp; done) | (simp [*]; done)), H', ⟨Nat.le_refl _⟩, by repeat (first | exact Drawn0.refl _ | apply Drawn0.step)⟩
  case round =>
   clear H'
   try clear c1
   try clear c3
   try clear c3b0
   try clear c3b1
   try clear c3b2
   obtain ⟨x5_1, rfl, HA, HK1, ⟨m1, rfl⟩⟩ := hrel
   cases gk with
   | zero => exact absurd HA.out (by simp [laws_eqIntS.l0])
   | succ k1 =>
    have H := HA.out
    clear HA
    simp only [laws_eqIntS.l0] at H
    by_cases c4 : x5_1 < (l0.length : Int)
    ·rw [if_pos c4] at H
     have c4b0 : decide (x5_1 < (l0.length : Int)) = true := decide_eq_true c4
     clear c4
     by_cases c5 : 0 ≤ x5_1
     ·rw [if_pos c5] at H
      have c5b0 : decide (0 ≤ x5_1) = true := decide_eq_true c5
      clear c5
      by_cases c6 : x5_1 < (l1.length : Int)
      ·rw [if_pos c6] at H
       have c6b0 : decide (x5_1 < (l1.length : Int)) = true := decide_eq_true c6
       clear c6
       by_cases c7 : (rd l0 x5_1) = (rd l1 x5_1)
       ·rw [if_pos c7] at H
        have c7b0 : ((rd l0 x5_1) == (rd l1 x5_1)) = true := beq_iff_eq.mpr c7
        have c7b1 : ((rd l0 x5_1) != (rd l1 x5_1)) = false := bne_eq_false_iff_eq.mpr c7
        clear c7
        have H' := Aside0.mk H
        clear H
        have p666 : 0 ≤ (x5_1 : Int) := of_decide_eq_true (by first | (with_reducible assumption) | assumption)
        have q666 : x5_1 < (l0.length : Int) := of_decide_eq_true (by first | (with_reducible assumption) | assumption)
        obtain ⟨ad666, e666, hx666_0⟩ := Kd.at_int HR0.out x5_1 p666 q666
        cases e666
        replace p666 := eq_true p666
        replace q666 := eq_true q666
        have p667 : 0 ≤ (x5_1 : Int) := of_decide_eq_true (by first | (with_reducible assumption) | assumption)
        have q667 : x5_1 < (l1.length : Int) := of_decide_eq_true (by first | (with_reducible assumption) | assumption)
        obtain ⟨ad667, e667, hx667_0⟩ := Kd.at_int HR1.out x5_1 p667 q667
        cases e667
        replace p667 := eq_true p667
        replace q667 := eq_true q667
        go_wp2
        repeat (go_quiet (fail); try go_wp2)
        go_roundg k1
        case measure => have := HK1.out; omega
        case rel => exact ⟨(wrap64 (x5_1 + 1)), (by first | rfl | (simp; done) | (simp [*]; done)), H', ⟨by have := HK1.out; omega⟩, by repeat (first | exact Drawn0.refl _ | apply Drawn0.step)⟩
       ·rw [if_neg c7] at H
        have c7b0 : ((rd l0 x5_1) == (rd l1 x5_1)) = false := beq_eq_false_iff_ne.mpr c7
        have c7b1 : ((rd l0 x5_1) != (rd l1 x5_1)) = true := bne_iff_ne.mpr c7
        obtain rfl := Option.some.inj H
        have p666 : 0 ≤ (x5_1 : Int) := of_decide_eq_true (by first | (with_reducible assumption) | assumption)
        have q666 : x5_1 < (l0.length : Int) := of_decide_eq_true (by first | (with_reducible assumption) | assumption)
        obtain ⟨ad666, e666, hx666_0⟩ := Kd.at_int HR0.out x5_1 p666 q666
        cases e666
        replace p666 := eq_true p666
        replace q666 := eq_true q666
        have p667 : 0 ≤ (x5_1 : Int) := of_decide_eq_true (by first | (with_reducible assumption) | assumption)
        have q667 : x5_1 < (l1.length : Int) := of_decide_eq_true (by first | (with_reducible assumption) | assumption)
        obtain ⟨ad667, e667, hx667_0⟩ := Kd.at_int HR1.out x5_1 p667 q667
        cases e667
        replace p667 := eq_true p667
        replace q667 := eq_true q667
        go_wp2
        repeat (go_quiet (fail); try go_wp2)
        go_ret
        exact ⟨by first | rfl | (simp; done) | (simp [*]; done), by repeat (first | exact Drawn0.refl _ | apply Drawn0.step)⟩
      ·rw [if_neg c6] at H
       cases H
     ·rw [if_neg c5] at H
      cases H
    ·rw [if_neg c4] at H
     have c4b0 : decide (x5_1 < (l0.length : Int)) = false := decide_eq_false c4
     clear c4
     obtain rfl := Option.some.inj H
     go_wp2
     repeat (go_quiet (fail); try go_wp2)
     go_ret
     exact ⟨by first | rfl | (simp; done) | (simp [*]; done), by repeat (first | exact Drawn0.refl _ | apply Drawn0.step)⟩
 ·rw [if_neg c3] at H
  have c3b0 : ((l0.length : Int) == (l1.length : Int)) = false := beq_eq_false_iff_ne.mpr c3
  have c3b1 : ((l0.length : Int) != (l1.length : Int)) = true := bne_iff_ne.mpr c3
  have c3b2 : (l0.length == l1.length) = false := by first | simpa using c3 | (simp at c3 ⊢; omega)
  obtain rfl := Option.some.inj H
  go_enter Try.func39, Try.ntmps39
  go_wp2
  repeat (go_quiet (fail); try go_wp2)
  go_ret
  exact ⟨by first | rfl | (simp; done) | (simp [*]; done), by repeat (first | exact Drawn0.refl _ | apply Drawn0.step)⟩

end Go.Proofs.Ytkfjgloalfpcmaa.QFnExactNodeOK
