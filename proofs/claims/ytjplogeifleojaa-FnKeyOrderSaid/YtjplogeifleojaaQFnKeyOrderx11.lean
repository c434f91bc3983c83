/- The functions that the law reaches, each as a plain Lean function with the proof that the Go code comes to its answers: written by a program of this session. No condition. -/
import Derived.Test.YtjplogeifleojaaQFnKeyOrderx0
namespace Go.Proofs.Ytjplogeifleojaa.QFnKeyOrder
open Go.RowKit Go.Proofs.YtjplogeifleojaaW.PrintWords Go.Proofs.YtjplogeifleojaaW.PrintLast Go.Proofs.YtjplogeifleojaaW.PrintMore
attribute [local go_sem] max2_int min2_int max_two min_two max_three min_three max_four min_four str_gtr str_leq str_geq pw_at_slice   -- for this text's walks alone
set_option linter.unusedVariables false
set_option linter.unusedSimpArgs false

-- NOT PRINTED: function 63 (bytealg_abigen_runtime_cmpstring)

-- NOT PRINTED: function 58 (bytealg_CompareString)

theorem q11z0 {P : Prop} (h : P := by repeat (first | (with_reducible first | exact HB.out | apply below_alloc | apply pw_below_drewN | apply below_drew1) | exact HB.out)) : P := h
theorem q11z1 {P : Prop} (h : P := by repeat (first | (with_reducible first | exact HB.out | apply below_alloc | apply pw_below_drewN | apply below_drew1 | refine below_set ?_ GE853.out) | exact HB.out)) : P := h
/-! ### strings_Compare: function 44 -/
def strings_Compare.f (a0 : ByteArray) (a1 : ByteArray) : Option (Int) := some (Go.Lib.compareBytes a0.data.toList a1.data.toList)
theorem strings_Compare.low (a b : ByteArray) (w : World) :
    Calls Try.prog 58 #[.string a, .string b] w fun e w' => e = .returned (.int .i64 (Go.Lib.compareBytes a.data.toList b.data.toList)) ∧ w' = w := by
  go_enter Try.func58, Try.ntmps58
  go_wp2
  rw [run_callFunc_extern Try.func63 (by kernel_rfl) (by kernel_rfl) (by kernel_rfl) (e := Extern.BytealgCompare.compare) (by kernel_rfl), Go.Lib.run_compareString]
  simp only [Result.andThen]
  rw [Oper.upon_value]
  go_wp2
  go_ret
  exact ⟨rfl, rfl⟩
theorem strings_Compare.calls (a0 : ByteArray) (a1 : ByteArray) (r : Int) (w : World) (h : strings_Compare.f a0 a1 = some r) :
    Calls Try.prog 44 #[.string a0, .string a1] w fun e w' => e = .returned (.int .i64 r) ∧ Drawn0 w w' := by
  cases h
  go_enter Try.func44, Try.ntmps44
  go_wp2_with (go_at_call 58; refine (strings_Compare.low _ _ _).mono ?_; rintro e w' ⟨rfl, rfl⟩)
  go_ret
  exact ⟨rfl, Drawn0.refl _⟩


/-! ### impl_weighed: function 45 -/
set_option maxRecDepth 100000 in
def impl_weighed.l0 : Nat → ByteArray → List Int → Int → ByteArray → Option (ByteArray)
  | 0, _, _, _, _ => none
  | k + 1, x1, x5, x6, x854000 => if x6 < (x1.size : Int) then (if 0 ≤ x6 then (if 0 ≤ (((bt x1 x6) - 32) % 256) then (if (((bt x1 x6) - 32) % 256) < (x854000.size : Int) then (if (bt x854000 (((bt x1 x6) - 32) % 256)) = 32 then (impl_weighed.l0 k x1 x5 (wrap64 (x6 + 1)) x854000) else (if x5.length < 140737488355328 then (impl_weighed.l0 k x1 (x5 ++ [bt x854000 (((bt x1 x6) - 32) % 256)]) (wrap64 (x6 + 1)) x854000) else (none))) else (none)) else (none)) else (none)) else (some (strOfNums x5))
def impl_weighed.f (k : Nat) (a0_0 : ByteArray) (a1 : ByteArray) : Option (ByteArray) := if a0_0.toList = ([] : List UInt8) then (some a1) else (impl_weighed.l0 k a1 ([] : List Int) 0 a0_0)
set_option maxHeartbeats 8000000 in
set_option maxRecDepth 100000 in
theorem impl_weighed.calls (k : Nat) (a0_0 : ByteArray) (a1 : ByteArray) (r : ByteArray) (w : World) (h : impl_weighed.f k a0_0 a1 = some r) :
    Calls Try.prog 45 #[.agg #[.string a0_0], .string a1] w fun e w' => e = .returned (.string r) ∧ Below w.heap.size w w' := by
  have hu40 := Try.underlying40; have HB := Aside0.mk (Below.refl w.heap.size w); have H : (if a0_0.toList = ([] : List UInt8) then (some a1) else (impl_weighed.l0 k a1 ([] : List Int) 0 a0_0)) = some r := h; clear h
  by_cases c3 : a0_0.toList = ([] : List UInt8)
  · rw [if_pos c3] at H
    have c3b0 : (a0_0.toList == ([] : List UInt8)) = true := beq_iff_eq.mpr c3; have c3b1 : (a0_0.toList != ([] : List UInt8)) = false := bne_eq_false_iff_eq.mpr c3; clear c3; obtain rfl := Option.some.inj H
    go_enter Try.func45, Try.ntmps45
    go_wp2_with (first | ((with_reducible refine gate_dst (N := 2) rfl ?_); refine box_event ?hg (N := 2) ?hd (cs := #[.string a0_0]) (t := 40) ?hr ?_; (case hd => rfl); (case hg => rfl); (case hr => first | (go_simp; done) | (go_simp; rfl)); intro gb853 hg w4 hbox hb; have n0_ := Aside0.mk (below_step q11z0 hb); have n1_ := Aside0.mk (hbox); have n2_ := Aside0.mk ((by rw [hg]; exact (below_size q11z0) : w.heap.size ≤ gb853)); have n3_ := Aside0.mk ((by rw [hg]; exact (below_size q11z0) : w.heap.size ≤ gb853)); clear HB; have HB := n0_; have BK853 := n1_; have GW853 := n2_; have GE853 := n3_; clear n0_ n1_ n2_ n3_; clear hb hbox hg; have hcz5_0 : w4.cell? ⟨gb853, 0, none⟩ = some (.string a0_0) := (blk_cell BK853.out 0).trans rfl; have hfz5_0 := blk_frozen BK853.out 0))
    repeat (go_quiet (first | ((with_reducible refine gate_dst (N := 2) rfl ?_); refine box_event ?hg (N := 2) ?hd (cs := #[.string a0_0]) (t := 40) ?hr ?_; (case hd => rfl); (case hg => rfl); (case hr => first | (go_simp; done) | (go_simp; rfl)); intro gb853 hg w4 hbox hb; have n0_ := Aside0.mk (below_step q11z0 hb); have n1_ := Aside0.mk (hbox); have n2_ := Aside0.mk ((by rw [hg]; exact (below_size q11z0) : w.heap.size ≤ gb853)); have n3_ := Aside0.mk ((by rw [hg]; exact (below_size q11z0) : w.heap.size ≤ gb853)); clear HB; have HB := n0_; have BK853 := n1_; have GW853 := n2_; have GE853 := n3_; clear n0_ n1_ n2_ n3_; clear hb hbox hg; have hcz5_0 : w4.cell? ⟨gb853, 0, none⟩ = some (.string a0_0) := (blk_cell BK853.out 0).trans rfl; have hfz5_0 := blk_frozen BK853.out 0)); try go_wp2_with (first | ((with_reducible refine gate_dst (N := 2) rfl ?_); refine box_event ?hg (N := 2) ?hd (cs := #[.string a0_0]) (t := 40) ?hr ?_; (case hd => rfl); (case hg => rfl); (case hr => first | (go_simp; done) | (go_simp; rfl)); intro gb853 hg w4 hbox hb; have n0_ := Aside0.mk (below_step q11z0 hb); have n1_ := Aside0.mk (hbox); have n2_ := Aside0.mk ((by rw [hg]; exact (below_size q11z0) : w.heap.size ≤ gb853)); have n3_ := Aside0.mk ((by rw [hg]; exact (below_size q11z0) : w.heap.size ≤ gb853)); clear HB; have HB := n0_; have BK853 := n1_; have GW853 := n2_; have GE853 := n3_; clear n0_ n1_ n2_ n3_; clear hb hbox hg; have hcz5_0 : w4.cell? ⟨gb853, 0, none⟩ = some (.string a0_0) := (blk_cell BK853.out 0).trans rfl; have hfz5_0 := blk_frozen BK853.out 0)))
    go_ret
    exact ⟨by first | rfl | (simp [errW_none, errW_some] <;> rfl) | (simp [*, errW_none, errW_some] <;> rfl), by repeat (first | (with_reducible first | exact HB.out | apply below_alloc | apply pw_below_drewN | apply below_drew1 | refine below_set ?_ GE853.out) | exact HB.out)⟩
  · rw [if_neg c3] at H
    have c3b0 : (a0_0.toList == ([] : List UInt8)) = false := beq_eq_false_iff_ne.mpr c3; have c3b1 : (a0_0.toList != ([] : List UInt8)) = true := bne_iff_ne.mpr c3; have H' := Aside0.mk H; clear H
    go_enter Try.func45, Try.ntmps45
    go_wp2_with (first | ((with_reducible refine gate_dst (N := 2) rfl ?_); refine box_event ?hg (N := 2) ?hd (cs := #[.string a0_0]) (t := 40) ?hr ?_; (case hd => rfl); (case hg => rfl); (case hr => first | (go_simp; done) | (go_simp; rfl)); intro gb853 hg w6 hbox hb; have n0_ := Aside0.mk (below_step q11z0 hb); have n1_ := Aside0.mk (hbox); have n2_ := Aside0.mk ((by rw [hg]; exact (below_size q11z0) : w.heap.size ≤ gb853)); have n3_ := Aside0.mk ((by rw [hg]; exact (below_size q11z0) : w.heap.size ≤ gb853)); clear HB; have HB := n0_; have BK853 := n1_; have GW853 := n2_; have GE853 := n3_; clear n0_ n1_ n2_ n3_; clear hb hbox hg; have hcz7_0 : w6.cell? ⟨gb853, 0, none⟩ = some (.string a0_0) := (blk_cell BK853.out 0).trans rfl; have hfz7_0 := blk_frozen BK853.out 0))
    repeat (go_quiet (first | ((with_reducible refine gate_dst (N := 2) rfl ?_); refine box_event ?hg (N := 2) ?hd (cs := #[.string a0_0]) (t := 40) ?hr ?_; (case hd => rfl); (case hg => rfl); (case hr => first | (go_simp; done) | (go_simp; rfl)); intro gb853 hg w6 hbox hb; have n0_ := Aside0.mk (below_step q11z0 hb); have n1_ := Aside0.mk (hbox); have n2_ := Aside0.mk ((by rw [hg]; exact (below_size q11z0) : w.heap.size ≤ gb853)); have n3_ := Aside0.mk ((by rw [hg]; exact (below_size q11z0) : w.heap.size ≤ gb853)); clear HB; have HB := n0_; have BK853 := n1_; have GW853 := n2_; have GE853 := n3_; clear n0_ n1_ n2_ n3_; clear hb hbox hg; have hcz7_0 : w6.cell? ⟨gb853, 0, none⟩ = some (.string a0_0) := (blk_cell BK853.out 0).trans rfl; have hfz7_0 := blk_frozen BK853.out 0)); try go_wp2_with (first | ((with_reducible refine gate_dst (N := 2) rfl ?_); refine box_event ?hg (N := 2) ?hd (cs := #[.string a0_0]) (t := 40) ?hr ?_; (case hd => rfl); (case hg => rfl); (case hr => first | (go_simp; done) | (go_simp; rfl)); intro gb853 hg w6 hbox hb; have n0_ := Aside0.mk (below_step q11z0 hb); have n1_ := Aside0.mk (hbox); have n2_ := Aside0.mk ((by rw [hg]; exact (below_size q11z0) : w.heap.size ≤ gb853)); have n3_ := Aside0.mk ((by rw [hg]; exact (below_size q11z0) : w.heap.size ≤ gb853)); clear HB; have HB := n0_; have BK853 := n1_; have GW853 := n2_; have GE853 := n3_; clear n0_ n1_ n2_ n3_; clear hb hbox hg; have hcz7_0 : w6.cell? ⟨gb853, 0, none⟩ = some (.string a0_0) := (blk_cell BK853.out 0).trans rfl; have hfz7_0 := blk_frozen BK853.out 0)))
    go_loopg [5, 6] k (fun kq v5 v6 w' => ∃ (x5_1 : List Int) (x6_1 : Int), v6 = .int .i64 x6_1 ∧ Aside0 (impl_weighed.l0 kq a1 x5_1 x6_1 a0_0 = some r) ∧ Aside0 (kq ≤ k) ∧ Aside0 (Kd.R (Kd.int .u8) 5 w' w.heap.size (fun _ => True) v5 x5_1) ∧ Aside0 (w'.heap[gb853]? = some (.cells #[.string a0_0] 40 (0, 0))) ∧ Aside0 (Below w.heap.size w w'))
    case atStart => exact ⟨(([] : List Int)), (0), (by first | rfl | (simp; done) | (simp [*]; done)), H', ⟨Nat.le_refl _⟩, ⟨by first | exact Kd.R_nil _ _ _ _ _ | exact Kd.N_nil _ _ _ _ _ | exact Kd.V_nil _ _ _ _ _ | exact Kd.Q_nil _ _ _ _ _ | exact Kd.S_nil _ _ _ _ _⟩, ⟨by (with_reducible repeat (first | refine blk_drewN ?_ _ | refine blk_drew ?_ | refine blk_alloc ?_ _)); exact BK853.out⟩, ⟨by repeat (first | (with_reducible first | exact HB.out | apply below_alloc | apply pw_below_drewN | apply below_drew1 | refine below_set ?_ GE853.out) | exact HB.out)⟩⟩
    case round =>
      clear H'; (try clear p2); (try clear c3); (try clear c3b0); (try clear c3b1); (try clear c4); (try clear hcz5_0); (try clear hcz7_0); (try clear hfz5_0); (try clear hfz7_0); obtain ⟨x5_1, x6_1, rfl, HA, HK1, HO_5, BK853, HB⟩ := hrel
      cases gk with
      | zero => exact absurd HA.out (by simp [impl_weighed.l0])
      | succ k1 =>
        have H := HA.out; clear HA; simp only [impl_weighed.l0] at H
        by_cases c8 : x6_1 < (a1.size : Int)
        · rw [if_pos c8] at H
          have c8b0 : decide (x6_1 < (a1.size : Int)) = true := decide_eq_true c8; clear c8
          by_cases c9 : 0 ≤ x6_1
          · rw [if_pos c9] at H
            have c9b0 : decide (0 ≤ x6_1) = true := decide_eq_true c9; clear c9; obtain ⟨ji11, hji11⟩ : ∃ j_ : Int, (((bt a1 x6_1) - 32) % 256) = j_ := ⟨_, rfl⟩
            replace H : (if 0 ≤ (ji11) then (if (ji11) < (a0_0.size : Int) then (if (bt a0_0 (ji11)) = 32 then (impl_weighed.l0 k1 a1 x5_1 (wrap64 (x6_1 + 1)) a0_0) else (if x5_1.length < 140737488355328 then (impl_weighed.l0 k1 a1 (x5_1 ++ [bt a0_0 (ji11)]) (wrap64 (x6_1 + 1)) a0_0) else (none))) else (none)) else (none)) = some r := by first | (rw [hji11] at H; exact H) | (simp only [hji11] at H ⊢; exact H)
            by_cases c12 : 0 ≤ (ji11)
            · rw [if_pos c12] at H
              have c12b0 : decide (0 ≤ (ji11)) = true := decide_eq_true c12; clear c12
              by_cases c13 : (ji11) < (a0_0.size : Int)
              · rw [if_pos c13] at H
                have c13b0 : decide ((ji11) < (a0_0.size : Int)) = true := decide_eq_true c13; clear c13
                by_cases c15 : (bt a0_0 (ji11)) = 32
                · rw [if_pos c15] at H
                  have c15b0 : ((bt a0_0 (ji11)) == 32) = true := beq_iff_eq.mpr c15; have c15b1 : ((bt a0_0 (ji11)) != 32) = false := bne_eq_false_iff_eq.mpr c15; clear c15; have H' := Aside0.mk H; clear H; have hcz16_0 : wr.cell? ⟨gb853, 0, none⟩ = some (.string a0_0) := (blk_cell BK853.out 0).trans rfl; have hfz16_0 := blk_frozen BK853.out 0; have p10 : 0 ≤ (x6_1 : Int) := of_decide_eq_true (by first | (with_reducible assumption) | assumption); have q10 : x6_1 < (a1.size : Int) := of_decide_eq_true (by first | (with_reducible assumption) | assumption); have hx10 := bt_at a1 x6_1; replace p10 := eq_true p10; replace q10 := eq_true q10; have p14 : 0 ≤ ((ji11) : Int) := of_decide_eq_true (by first | (with_reducible assumption) | assumption); have q14 : (ji11) < (a0_0.size : Int) := of_decide_eq_true (by first | (with_reducible assumption) | assumption); have hx14 := bt_at a0_0 (ji11); replace p14 := eq_true p14; replace q14 := eq_true q14
                  go_wp2
                  repeat (go_quiet (fail); try go_wp2)
                  go_roundg k1
                  case measure => have := HK1.out; omega
                  case rel => exact ⟨(x5_1), (wrap64 (x6_1 + 1)), (by first | rfl | (simp; done) | (simp [*]; done)), H', ⟨by have := HK1.out; omega⟩, ⟨by (with_reducible repeat (first | apply Kd.R_alloc | apply Kd.R_drewN | apply Kd.R_drew)); exact HO_5.out⟩, ⟨by (with_reducible repeat (first | refine blk_drewN ?_ _ | refine blk_drew ?_ | refine blk_alloc ?_ _)); exact BK853.out⟩, ⟨by repeat (first | (with_reducible first | exact HB.out | apply below_alloc | apply pw_below_drewN | apply below_drew1 | refine below_set ?_ GE853.out) | exact HB.out)⟩⟩
                · rw [if_neg c15] at H
                  have c15b0 : ((bt a0_0 (ji11)) == 32) = false := beq_eq_false_iff_ne.mpr c15; have c15b1 : ((bt a0_0 (ji11)) != 32) = true := bne_iff_ne.mpr c15
                  by_cases c17 : x5_1.length < 140737488355328
                  · rw [if_pos c17] at H
                    have LMc17 := Aside0.mk c17; clear c17; obtain ⟨y854, hy854⟩ : ∃ y_ : List Int, y_ = (x5_1 ++ [bt a0_0 (ji11)]) := ⟨_, rfl⟩
                    replace H : (impl_weighed.l0 k1 a1 y854 (wrap64 (x6_1 + 1)) a0_0) = some r := by first | (rw [hy854]; with_reducible exact H) | (have H2_ := (Option.bind_some _ _).symm.trans H; rw [hy854]; with_reducible exact H2_) | (have H2_ := (Option.bind_some _ _).symm.trans H; with_reducible exact H2_) | with_reducible exact H | (rw [hy854]; exact H) | exact H
                    have Ny854 := Aside0.mk hy854; clear hy854; have H' := Aside0.mk H; clear H; have hcz18_0 : wr.cell? ⟨gb853, 0, none⟩ = some (.string a0_0) := (blk_cell BK853.out 0).trans rfl; have hfz18_0 := blk_frozen BK853.out 0; have p10 : 0 ≤ (x6_1 : Int) := of_decide_eq_true (by first | (with_reducible assumption) | assumption); have q10 : x6_1 < (a1.size : Int) := of_decide_eq_true (by first | (with_reducible assumption) | assumption); have hx10 := bt_at a1 x6_1; replace p10 := eq_true p10; replace q10 := eq_true q10; have p14 : 0 ≤ ((ji11) : Int) := of_decide_eq_true (by first | (with_reducible assumption) | assumption); have q14 : (ji11) < (a0_0.size : Int) := of_decide_eq_true (by first | (with_reducible assumption) | assumption); have hx14 := bt_at a0_0 (ji11); replace p14 := eq_true p14; replace q14 := eq_true q14
                    go_wp2_with (first | ((with_reducible refine gate_builtin (b := .append) (xs := #[.tmp 27, .tmp 29]) rfl ?_); at_builtin; refine Kd.R_append (Kd.int .u8) (w0 := w) w.heap.size rfl (.tmp 27) (.tmp 29) 34 5 (.int .u8 0) 1 rfl Try.underlying34 info5 rfl (by decide) (by omega) u5 x5_1 (bt a0_0 (ji11)) [.int .u8 (bt a0_0 (ji11))] (fun _ => True) (fun _ => False) rfl rfl ?aP (fun _ hk => hk.elim) ?aF ?aO ?aB ?aS ?aL ?_; (case aP => exact rfl); (case aB => exact q11z1); (case aF => exact (fun _ _ => trivial)); (case aO => exact (by (with_reducible repeat (first | apply Kd.R_alloc | apply Kd.R_drewN | apply Kd.R_drew)); exact HO_5.out)); (case aS => exact (below_size q11z1)); (case aL => have := LMc17.out; omega); intro v855 w19 ho hb hg hat; rw [← Ny854.out] at ho; have n0_ := Aside0.mk (blk_grown (g := gb853) (o := .cells #[.string a0_0] 40 (0, 0)) (by (with_reducible repeat (first | refine blk_drewN ?_ _ | refine blk_drew ?_ | refine blk_alloc ?_ _)); exact BK853.out) hg (Kd.R_ne HO_5.out BK853.out (by decide))); have n1_ := Aside0.mk (hb); have n2_ := Aside0.mk (ho); clear BK853; clear HB; clear HO_5; have BK853 := n0_; have HB := n1_; have HO856 := n2_; clear n0_ n1_ n2_; clear ho hb hg hat))
                    repeat (go_quiet (first | ((with_reducible refine gate_builtin (b := .append) (xs := #[.tmp 27, .tmp 29]) rfl ?_); at_builtin; refine Kd.R_append (Kd.int .u8) (w0 := w) w.heap.size rfl (.tmp 27) (.tmp 29) 34 5 (.int .u8 0) 1 rfl Try.underlying34 info5 rfl (by decide) (by omega) u5 x5_1 (bt a0_0 (ji11)) [.int .u8 (bt a0_0 (ji11))] (fun _ => True) (fun _ => False) rfl rfl ?aP (fun _ hk => hk.elim) ?aF ?aO ?aB ?aS ?aL ?_; (case aP => exact rfl); (case aB => exact q11z1); (case aF => exact (fun _ _ => trivial)); (case aO => exact (by (with_reducible repeat (first | apply Kd.R_alloc | apply Kd.R_drewN | apply Kd.R_drew)); exact HO_5.out)); (case aS => exact (below_size q11z1)); (case aL => have := LMc17.out; omega); intro v855 w19 ho hb hg hat; rw [← Ny854.out] at ho; have n0_ := Aside0.mk (blk_grown (g := gb853) (o := .cells #[.string a0_0] 40 (0, 0)) (by (with_reducible repeat (first | refine blk_drewN ?_ _ | refine blk_drew ?_ | refine blk_alloc ?_ _)); exact BK853.out) hg (Kd.R_ne HO_5.out BK853.out (by decide))); have n1_ := Aside0.mk (hb); have n2_ := Aside0.mk (ho); clear BK853; clear HB; clear HO_5; have BK853 := n0_; have HB := n1_; have HO856 := n2_; clear n0_ n1_ n2_; clear ho hb hg hat)); try go_wp2_with (first | ((with_reducible refine gate_builtin (b := .append) (xs := #[.tmp 27, .tmp 29]) rfl ?_); at_builtin; refine Kd.R_append (Kd.int .u8) (w0 := w) w.heap.size rfl (.tmp 27) (.tmp 29) 34 5 (.int .u8 0) 1 rfl Try.underlying34 info5 rfl (by decide) (by omega) u5 x5_1 (bt a0_0 (ji11)) [.int .u8 (bt a0_0 (ji11))] (fun _ => True) (fun _ => False) rfl rfl ?aP (fun _ hk => hk.elim) ?aF ?aO ?aB ?aS ?aL ?_; (case aP => exact rfl); (case aB => exact q11z1); (case aF => exact (fun _ _ => trivial)); (case aO => exact (by (with_reducible repeat (first | apply Kd.R_alloc | apply Kd.R_drewN | apply Kd.R_drew)); exact HO_5.out)); (case aS => exact (below_size q11z1)); (case aL => have := LMc17.out; omega); intro v855 w19 ho hb hg hat; rw [← Ny854.out] at ho; have n0_ := Aside0.mk (blk_grown (g := gb853) (o := .cells #[.string a0_0] 40 (0, 0)) (by (with_reducible repeat (first | refine blk_drewN ?_ _ | refine blk_drew ?_ | refine blk_alloc ?_ _)); exact BK853.out) hg (Kd.R_ne HO_5.out BK853.out (by decide))); have n1_ := Aside0.mk (hb); have n2_ := Aside0.mk (ho); clear BK853; clear HB; clear HO_5; have BK853 := n0_; have HB := n1_; have HO856 := n2_; clear n0_ n1_ n2_; clear ho hb hg hat)))
                    go_roundg k1
                    case measure => have := HK1.out; omega
                    case rel => exact ⟨(y854), (wrap64 (x6_1 + 1)), (by first | rfl | (simp; done) | (simp [*]; done)), H', ⟨by have := HK1.out; omega⟩, ⟨by (with_reducible repeat (first | apply Kd.R_alloc | apply Kd.R_drewN | apply Kd.R_drew)); exact HO856.out⟩, ⟨by (with_reducible repeat (first | refine blk_drewN ?_ _ | refine blk_drew ?_ | refine blk_alloc ?_ _)); exact BK853.out⟩, ⟨by repeat (first | (with_reducible first | exact HB.out | apply below_alloc | apply pw_below_drewN | apply below_drew1 | refine below_set ?_ GE853.out) | exact HB.out)⟩⟩
                  · rw [if_neg c17] at H
                    exact absurd H (by simp)
              · rw [if_neg c13] at H
                exact absurd H (by simp)
            · rw [if_neg c12] at H
              exact absurd H (by simp)
          · rw [if_neg c9] at H
            exact absurd H (by simp)
        · rw [if_neg c8] at H
          have c8b0 : decide (x6_1 < (a1.size : Int)) = false := decide_eq_false c8; clear c8; obtain rfl := Option.some.inj H; have hcv20 := own_string (P := Try.prog) Try.underlying34 Try.underlying5 Try.underlying9 (Kd.own_of_R HO_5.out)
          go_wp2
          repeat (go_quiet (fail); try go_wp2)
          go_ret
          exact ⟨by first | rfl | (simp [errW_none, errW_some] <;> rfl) | (simp [*, errW_none, errW_some] <;> rfl), by repeat (first | (with_reducible first | exact HB.out | apply below_alloc | apply pw_below_drewN | apply below_drew1 | refine below_set ?_ GE853.out) | exact HB.out)⟩

end Go.Proofs.Ytjplogeifleojaa.QFnKeyOrder
