/- The functions that the law reaches, each as a plain Lean function with the proof that the Go code comes to its answers: written by a program of this session. No condition. -/
import Derived.Test.YtnicllekmkkhlaaQFnDiskSafex0
import Derived.Test.YtnicllekmkkhlaaQFnDiskSafex8
import Derived.Test.YtnicllekmkkhlaaQFnDiskSafex9
import Derived.Test.YtnicllekmkkhlaaQFnDiskSafex10
namespace Go.Proofs.Ytnicllekmkkhlaa.QFnDiskSafe
open Go.RowKit Go.Proofs.YtnicllekmkkhlaaW.PrintWords Go.Proofs.YtnicllekmkkhlaaW.PrintLast Go.Proofs.YtnicllekmkkhlaaW.PrintMore
attribute [local go_sem] max2_int min2_int max_two min_two max_three min_three max_four min_four str_gtr str_leq str_geq pw_at_slice   -- for this text's walks alone
set_option linter.unusedVariables false
set_option linter.unusedSimpArgs false

/-! ### impl_DiskRun: function 26 -/
set_option maxRecDepth 100000 in
mutual
def impl_DiskRun.l0 : Nat → ByteArray → ByteArray → Int → Bool → List (S54) → List (S56) → Int → Int → Option ((List (S54)) × Int)
 | 0, _, _, _, _, _, _, _, _ => none
 | k + 1, x4, x5, x6, x7, x8, x17, x18, x19 => if x19 < x18 then (if 0 ≤ x19 then (if x19 < (x17.length : Int) then (if ((rd_T56 x17 x19).f0) < 1 then (impl_DiskRun.j1 k x4 x5 x6 x7 x8 x17 x18 x19 true ((rd_T56 x17 x19).f0) ((rd_T56 x17 x19).f1.f0) ((rd_T56 x17 x19).f1.f1) ((rd_T56 x17 x19).f2) 0 0) else (if ((rd_T56 x17 x19).f0) > 4 then (impl_DiskRun.j1 k x4 x5 x6 x7 x8 x17 x18 x19 true ((rd_T56 x17 x19).f0) ((rd_T56 x17 x19).f1.f0) ((rd_T56 x17 x19).f1.f1) ((rd_T56 x17 x19).f2) 0 0) else (if ((rd_T56 x17 x19).f0) = 1 then ((impl_recOK.f ((rd_T56 x17 x19).f1.f0) ((rd_T56 x17 x19).f1.f1)).bind fun t801 => (impl_DiskRun.j1 k x4 x5 x6 x7 x8 x17 x18 x19 (!t801) ((rd_T56 x17 x19).f0) ((rd_T56 x17 x19).f1.f0) ((rd_T56 x17 x19).f1.f1) ((rd_T56 x17 x19).f2) 0 0)) else (impl_DiskRun.j1 k x4 x5 x6 x7 x8 x17 x18 x19 false ((rd_T56 x17 x19).f0) ((rd_T56 x17 x19).f1.f0) ((rd_T56 x17 x19).f1.f1) ((rd_T56 x17 x19).f2) 0 0)))) else (none)) else (none)) else (some (x8, 0))
def impl_DiskRun.j1 : Nat → ByteArray → ByteArray → Int → Bool → List (S54) → List (S56) → Int → Int → Bool → Int → Int → ByteArray → Int → Int → Int → Option ((List (S54)) × Int)
 | 0, _, _, _, _, _, _, _, _, _, _, _, _, _, _, _ => none
 | k + 1, x4, x5, x6, x7, x8, x17, x18, x19, x23, x800000, x800001, x800002, x800003, x801000, x801001 => if x23 = true then (if x8.length < 3518437208883 then (impl_DiskRun.l0 k x4 x5 x6 x7 (x8 ++ [(⟨1, x801001, ([] : List (S45))⟩ : S54)]) x17 x18 (wrap64 (x19 + 1))) else (none)) else (if x7 = true then (impl_DiskRun.j2 k x4 x5 x6 x7 x8 x17 x18 x19 false x800000 x800001 x800002 x800003 x801000 x801001) else (impl_DiskRun.j2 k x4 x5 x6 x7 x8 x17 x18 x19 (x800000 != 4) x800000 x800001 x800002 x800003 x801000 x801001))
def impl_DiskRun.j2 : Nat → ByteArray → ByteArray → Int → Bool → List (S54) → List (S56) → Int → Int → Bool → Int → Int → ByteArray → Int → Int → Int → Option ((List (S54)) × Int)
 | 0, _, _, _, _, _, _, _, _, _, _, _, _, _, _, _ => none
 | k + 1, x4, x5, x6, x7, x8, x17, x18, x19, x44, x800000, x800001, x800002, x800003, x801000, x801001 => if x44 = true then (if x8.length < 3518437208883 then (impl_DiskRun.l0 k x4 x5 x6 x7 (x8 ++ [(⟨11, x801001, ([] : List (S45))⟩ : S54)]) x17 x18 (wrap64 (x19 + 1))) else (none)) else (if x800000 = 1 then (if x6 ≥ 300 then (if x8.length < 3518437208883 then (impl_DiskRun.l0 k x4 x5 x6 x7 (x8 ++ [(⟨9, x801001, ([] : List (S45))⟩ : S54)]) x17 x18 (wrap64 (x19 + 1))) else (none)) else ((impl_frame.f k x6 x800001 x800002).bind fun t811 => (if x5.size + t811.size ≤ 9223372036854775807 then (if x8.length < 3518437208883 then (impl_DiskRun.l0 k x4 (x5 ++ t811) (wrap64 (x6 + 1)) x7 (x8 ++ [(⟨x801000, x6, ([] : List (S45))⟩ : S54)]) x17 x18 (wrap64 (x19 + 1))) else (none)) else (none)))) else (if x800000 = 2 then (if x4.size + x5.size ≤ 9223372036854775807 then (if x8.length < 3518437208883 then (impl_DiskRun.l0 k (x4 ++ x5) (⟨#[]⟩ : ByteArray) x6 x7 (x8 ++ [(⟨x801000, x801001, ([] : List (S45))⟩ : S54)]) x17 x18 (wrap64 (x19 + 1))) else (none)) else (none)) else (if x800000 = 3 then (if 0 ≤ (mn (mx x800003 0) (x5.size : Int)) then (if (mn (mx x800003 0) (x5.size : Int)) ≤ (x5.size : Int) then (if x4.size + (x5.extract 0 ((mn (mx x800003 0) (x5.size : Int)) : Int).toNat).size ≤ 9223372036854775807 then (if x8.length < 3518437208883 then (impl_DiskRun.l0 k (x4 ++ (x5.extract 0 ((mn (mx x800003 0) (x5.size : Int)) : Int).toNat)) (⟨#[]⟩ : ByteArray) x6 false (x8 ++ [(⟨x801000, x801001, ([] : List (S45))⟩ : S54)]) x17 x18 (wrap64 (x19 + 1))) else (none)) else (none)) else (none)) else (none)) else (if x800000 = 4 then ((impl_LogScan.f k x4 0).bind fun bt821 => (if 0 ≤ bt821.2 then (if bt821.2 ≤ (x4.size : Int) then (if x8.length < 3518437208883 then (impl_DiskRun.l0 k (x4.extract 0 (bt821.2 : Int).toNat) (⟨#[]⟩ : ByteArray) (bt821.1.length : Int) true (x8 ++ [(⟨x801000, (bt821.1.length : Int), bt821.1⟩ : S54)]) x17 x18 (wrap64 (x19 + 1))) else (none)) else (none)) else (none))) else (if x8.length < 3518437208883 then (impl_DiskRun.l0 k x4 x5 x6 x7 (x8 ++ [(⟨x801000, x801001, ([] : List (S45))⟩ : S54)]) x17 x18 (wrap64 (x19 + 1))) else (none))))))
end
def impl_DiskRun.f (k : Nat) (l0 : List (S56)) : Option ((List (S54)) × Int) := if (l0.length : Int) > 500 then (some (([] : List (S54)), 1)) else (impl_DiskRun.l0 k (⟨#[]⟩ : ByteArray) (⟨#[]⟩ : ByteArray) 0 true ([] : List (S54)) l0 (l0.length : Int) 0)
set_option maxHeartbeats 8000000 in
set_option maxRecDepth 100000 in
theorem impl_DiskRun.calls (k : Nat) (A0 : Option Addr) (c0 : Nat) (l0 : List (S56)) (r1 : List (S54)) (r2 : Int) (w : World) (hr0 : Kd.C k56 w A0 l0.length l0) (hc0 : l0.length ≤ c0) (h : impl_DiskRun.f k l0 = some (r1, r2)) :
  Calls Try.prog 26 #[.slice A0 l0.length c0] w fun e w' => ∃ v0_ : Value, e = .returned (.tuple #[v0_, .int .i64 r2]) ∧ Kd.S k54 54 w' w.heap.size (fun _ => True) v0_ r1 ∧ Below w.heap.size w w' := by
 have hu56 := Try.underlying56
 have hu54 := Try.underlying54
 have hu45 := Try.underlying45
 have HR0 := Aside0.mk hr0
 have HC0 := Aside0.mk hc0
 clear hr0 hc0
 have HB := Aside0.mk (Below.refl w.heap.size w)
 have H : (if (l0.length : Int) > 500 then (some (([] : List (S54)), 1)) else (impl_DiskRun.l0 k (⟨#[]⟩ : ByteArray) (⟨#[]⟩ : ByteArray) 0 true ([] : List (S54)) l0 (l0.length : Int) 0)) = some (r1, r2) := h
 clear h
 by_cases c2 : (l0.length : Int) > 500
 ·rw [if_pos c2] at H
  have c2b0 : decide (500 < (l0.length : Int)) = true := decide_eq_true c2
  have c2b1 : decide (500 < l0.length) = true := decide_eq_true (by omega)
  clear c2
  simp only [Option.some.injEq, Prod.mk.injEq] at H
  obtain ⟨rfl, rfl⟩ := H
  go_enter Try.func26, Try.ntmps26
  go_wp2
  go_ret2
  exact ⟨_, by first | rfl | (simp [errW_none, errW_some] <;> rfl) | (simp [*, errW_none, errW_some] <;> rfl), by first | exact Kd.S_nil _ _ _ _ _ | exact Kd.N_nil _ _ _ _ _ | exact Kd.V_nil _ _ _ _ _ | exact Kd.Q_nil _ _ _ _ _ | exact Kd.R_nil _ _ _ _ _, zb⟩
 ·rw [if_neg c2] at H
  have c2b0 : decide (500 < (l0.length : Int)) = false := decide_eq_false c2
  have c2b1 : decide (500 < l0.length) = false := decide_eq_false (by omega)
  clear c2
  have H' := Aside0.mk H
  clear H
  go_enter Try.func26, Try.ntmps26
  go_wp2
  go_loopg [4, 5, 6, 7, 8, 19] k (fun kq v4 v5 v6 v7 v8 v19 w' => ∃ (x4_1 : ByteArray) (x5_1 : ByteArray) (x6_1 : Int) (x7_1 : Bool) (x8_1 : List (S54)) (x19_1 : Int), v4 = .string x4_1 ∧ v5 = .string x5_1 ∧ v6 = .int .i64 x6_1 ∧ v7 = .bool x7_1 ∧ v19 = .int .i64 x19_1 ∧ Aside0 (impl_DiskRun.l0 kq x4_1 x5_1 x6_1 x7_1 x8_1 l0 (l0.length : Int) x19_1 = some (r1, r2)) ∧ Aside0 (kq ≤ k) ∧ Aside0 (Kd.S k54 54 w' w.heap.size (fun _ => True) v8 x8_1) ∧ Aside0 (Below w.heap.size w w'))
  case atStart => exact ⟨((⟨#[]⟩ : ByteArray)), ((⟨#[]⟩ : ByteArray)), (0), (true), (([] : List (S54))), (0), (by first | rfl | (simp; done) | (simp [*]; done)), (by first | rfl | (simp; done) | (simp [*]; done)), (by first | rfl | (simp; done) | (simp [*]; done)), (by first | rfl | (simp; done) | (simp [*]; done)), (by first | rfl | (simp; done) | (simp [*]; done)), H', ⟨Nat.le_refl _⟩, ⟨by first | exact Kd.S_nil _ _ _ _ _ | exact Kd.N_nil _ _ _ _ _ | exact Kd.V_nil _ _ _ _ _ | exact Kd.Q_nil _ _ _ _ _ | exact Kd.R_nil _ _ _ _ _⟩, ⟨zb⟩⟩
  case round =>
   clear H'
   try clear c2
   try clear c2b0
   try clear c2b1
   obtain ⟨x4_1, x5_1, x6_1, x7_1, x8_1, x19_1, rfl, rfl, rfl, rfl, rfl, HA, HK1, HO_8, HB⟩ := hrel
   cases gk with
   | zero => exact absurd HA.out (by simp [impl_DiskRun.l0])
   | succ k1 =>
    have H := HA.out
    clear HA
    simp only [impl_DiskRun.l0] at H
    by_cases c3 : x19_1 < (l0.length : Int)
    ·rw [if_pos c3] at H
     have c3b0 : decide (x19_1 < (l0.length : Int)) = true := decide_eq_true c3
     clear c3
     by_cases c4 : 0 ≤ x19_1
     ·rw [if_pos c4] at H
      have c4b0 : decide (0 ≤ x19_1) = true := decide_eq_true c4
      clear c4
      by_cases c5 : x19_1 < (l0.length : Int)
      ·rw [if_pos c5] at H
       have c5b0 : decide (x19_1 < (l0.length : Int)) = true := decide_eq_true c5
       clear c5
       have HC6 := Aside0.mk H
       clear H
       have p798 : 0 ≤ (x19_1 : Int) := of_decide_eq_true (by first | (with_reducible assumption) | assumption)
       have q798 : x19_1 < (l0.length : Int) := of_decide_eq_true (by first | (with_reducible assumption) | assumption)
       obtain ⟨ad798, e798, hx798_0, hx798_1, hx798_2, hx798_3⟩ := at_T56 HR0.out x19_1 p798 q798
       cases e798
       replace hx798_0 := (HB.out.cell (World.block_lt_of_cell? w _ hx798_0)).trans hx798_0
       replace hx798_1 := (HB.out.cell (World.block_lt_of_cell? w _ hx798_1)).trans hx798_1
       replace hx798_2 := (HB.out.cell (World.block_lt_of_cell? w _ hx798_2)).trans hx798_2
       replace hx798_3 := (HB.out.cell (World.block_lt_of_cell? w _ hx798_3)).trans hx798_3
       replace p798 := eq_true p798
       replace q798 := eq_true q798
       go_upto_region 9 with (first | ((with_reducible refine gate_dst (N := 10) rfl ?_); refine boxst_event ?hg (N := 10) ?hd ?hg2 ?hn2 ?ho2 (cs := #[.int .i64 ((rd_T56 l0 x19_1).f0), .int .i64 ((rd_T56 l0 x19_1).f1.f0), .string ((rd_T56 l0 x19_1).f1.f1), .int .i64 ((rd_T56 l0 x19_1).f2)]) (zs := #[.int .i64 0, .int .i64 0, .string (⟨#[]⟩ : ByteArray), .int .i64 0]) (t := 56) ?hr ?hr2 ?_; (case hd => rfl); (case hg => rfl); (case hg2 => rfl); (case hn2 => rfl); (case ho2 => exact ⟨_, rfl⟩); (case hr => first | (go_simp; done) | (go_simp; rfl)); (case hr2 => first | (go_simp; done) | (go_simp; rfl)); intro gb799 hg w7 hbox hb; have n0_ := Aside0.mk (Kd.S_below (by (with_reducible repeat (first | apply Kd.S_alloc | apply Kd.S_drewN | apply Kd.S_drew)); exact HO_8.out) hb); have n1_ := Aside0.mk (below_step zb hb); have n2_ := Aside0.mk (hbox); have n3_ := Aside0.mk ((by rw [hg]; exact (below_size zb) : w.heap.size ≤ gb799)); have n4_ := Aside0.mk ((by rw [hg]; exact (below_size zb) : w.heap.size ≤ gb799)); clear HO_8; clear HB; have HO_8 := n0_; have HB := n1_; have BK799 := n2_; have GW799 := n3_; have GE799 := n4_; clear n0_ n1_ n2_ n3_ n4_; clear hb hbox hg) | ((with_reducible refine gate_dst (N := 11) rfl ?_); refine box_event ?hg (N := 11) ?hd (cs := #[.int .i64 0, .int .i64 0, .slice none 0 0]) (t := 54) ?hr ?_; (case hd => rfl); (case hg => rfl); (case hr => first | (go_simp; done) | (go_simp; rfl)); intro gb800 hg w8 hbox hb; have n0_ := Aside0.mk (Kd.S_below (Kd.S_elderB (by (with_reducible repeat (first | apply Kd.S_alloc | apply Kd.S_drewN | apply Kd.S_drew)); exact HO_8.out) gb800 (Nat.le_of_eq hg.symm)) hb); have n1_ := Aside0.mk (blk_below (g := gb799) (o := .cells #[.int .i64 ((rd_T56 l0 x19_1).f0), .int .i64 ((rd_T56 l0 x19_1).f1.f0), .string ((rd_T56 l0 x19_1).f1.f1), .int .i64 ((rd_T56 l0 x19_1).f2)] 56 (0, 0)) (zk BK799.out) hb); have n2_ := Aside0.mk (below_step (by repeat (first | (with_reducible first | exact HB.out | apply below_alloc | apply pw_below_drewN | apply below_drew1 | refine below_set ?_ GE799.out) | exact HB.out)) hb); have n3_ := Aside0.mk (hbox); have n4_ := Aside0.mk ((by rw [hg]; exact (below_size (by repeat (first | (with_reducible first | exact HB.out | apply below_alloc | apply pw_below_drewN | apply below_drew1 | refine below_set ?_ GE799.out) | exact HB.out))) : w.heap.size ≤ gb800)); have n5_ := Aside0.mk ((by rw [hg]; exact (below_size (by repeat (first | (with_reducible first | exact HB.out | apply below_alloc | apply pw_below_drewN | apply below_drew1 | refine below_set ?_ GE799.out) | exact HB.out))) : w.heap.size ≤ gb800)); have n6_ := Aside0.mk ((by rw [hg]; exact Nat.ne_of_lt (blk_lt (g := gb799) (o := .cells #[.int .i64 ((rd_T56 l0 x19_1).f0), .int .i64 ((rd_T56 l0 x19_1).f1.f0), .string ((rd_T56 l0 x19_1).f1.f1), .int .i64 ((rd_T56 l0 x19_1).f2)] 56 (0, 0)) (zk BK799.out)) : gb799 ≠ gb800)); have n7_ := Aside0.mk ((by rw [hg]; exact Nat.ne_of_gt (blk_lt (g := gb799) (o := .cells #[.int .i64 ((rd_T56 l0 x19_1).f0), .int .i64 ((rd_T56 l0 x19_1).f1.f0), .string ((rd_T56 l0 x19_1).f1.f1), .int .i64 ((rd_T56 l0 x19_1).f2)] 56 (0, 0)) (zk BK799.out)) : gb800 ≠ gb799)); clear HO_8; clear BK799; clear HB; have HO_8 := n0_; have BK799 := n1_; have HB := n2_; have BK800 := n3_; have GW800 := n4_; have GE800 := n5_; have NB799_800 := n6_; have NB800_799 := n7_; clear n0_ n1_ n2_ n3_ n4_ n5_ n6_ n7_; clear hb hbox hg))
       (try simp only [Act.put, List.setIfInBounds_toArray, List.set_cons_zero, List.set_cons_succ])
       go_cut [23] (fun v23 wc => ∃ (kq : Nat) (x23_5 : Bool), v23 = .bool x23_5 ∧ Aside0 (impl_DiskRun.j1 kq x4_1 x5_1 x6_1 x7_1 x8_1 l0 (l0.length : Int) x19_1 x23_5 ((rd_T56 l0 x19_1).f0) ((rd_T56 l0 x19_1).f1.f0) ((rd_T56 l0 x19_1).f1.f1) ((rd_T56 l0 x19_1).f2) 0 0 = some (r1, r2)) ∧ Aside0 (kq ≤ k1) ∧ Aside0 (Kd.S k54 54 wc w.heap.size (fun k_ => k_ ≠ gb800) u8 x8_1) ∧ Aside0 (wc.heap[gb799]? = some (.cells #[.int .i64 ((rd_T56 l0 x19_1).f0), .int .i64 ((rd_T56 l0 x19_1).f1.f0), .string ((rd_T56 l0 x19_1).f1.f1), .int .i64 ((rd_T56 l0 x19_1).f2)] 56 (0, 0))) ∧ Aside0 (wc.heap[gb800]? = some (.cells #[.int .i64 0, .int .i64 0, (.slice none 0 0)] 54 (0, 0))) ∧ Aside0 (Below w.heap.size w wc))
       case first =>
        have H := HC6.out
        clear HC6
        by_cases c9 : ((rd_T56 l0 x19_1).f0) < 1
        ·rw [if_pos c9] at H
         have c9b0 : decide (((rd_T56 l0 x19_1).f0) < 1) = true := decide_eq_true c9
         clear c9
         (first | rw [c9b0] | (simp only [i64_w, i32_w]; rw [c9b0]) | skip)
         have H' := Aside0.mk H
         clear H
         have hnb10 := NB799_800.out
         have hnc10 := NB800_799.out
         have hcz11_0 : w8.cell? ⟨gb799, 0, none⟩ = some (.int .i64 ((rd_T56 l0 x19_1).f0)) := (blk_cell BK799.out 0).trans rfl
         have hcz11_1 : w8.cell? ⟨gb799, 1, none⟩ = some (.int .i64 ((rd_T56 l0 x19_1).f1.f0)) := (blk_cell BK799.out 1).trans rfl
         have hcz11_2 : w8.cell? ⟨gb799, 2, none⟩ = some (.string ((rd_T56 l0 x19_1).f1.f1)) := (blk_cell BK799.out 2).trans rfl
         have hcz11_3 : w8.cell? ⟨gb799, 3, none⟩ = some (.int .i64 ((rd_T56 l0 x19_1).f2)) := (blk_cell BK799.out 3).trans rfl
         have hfz11_0 := blk_frozen BK799.out 0
         have hfz11_1 := blk_frozen BK799.out 1
         have hfz11_2 := blk_frozen BK799.out 2
         have hfz11_3 := blk_frozen BK799.out 3
         go_wp2
         go_meet
         case rel => exact ⟨_, (true), (by first | rfl | (simp; done) | (simp [*]; done)), H', ⟨by have := HK1.out; first | omega | exact Nat.le_refl _⟩, ⟨by (with_reducible repeat (first | apply Kd.S_alloc | apply Kd.S_drewN | apply Kd.S_drew)); exact Kd.S_mono HO_8.out (fun _ hk => hk.2)⟩, ⟨by (with_reducible repeat (first | refine blk_drewN ?_ _ | refine blk_drew ?_ | refine blk_alloc ?_ _)); exact BK799.out⟩, ⟨by (with_reducible repeat (first | refine blk_drewN ?_ _ | refine blk_drew ?_ | refine blk_alloc ?_ _)); exact BK800.out⟩, ⟨by repeat (first | (with_reducible first | exact HB.out | apply below_alloc | apply pw_below_drewN | apply below_drew1 | refine below_set ?_ GE799.out | refine below_set ?_ GE800.out) | exact HB.out)⟩⟩
        ·rw [if_neg c9] at H
         have c9b0 : decide (((rd_T56 l0 x19_1).f0) < 1) = false := decide_eq_false c9
         clear c9
         (first | rw [c9b0] | (simp only [i64_w, i32_w]; rw [c9b0]) | skip)
         by_cases c12 : ((rd_T56 l0 x19_1).f0) > 4
         ·rw [if_pos c12] at H
          have c12b0 : decide (4 < ((rd_T56 l0 x19_1).f0)) = true := decide_eq_true c12
          clear c12
          have H' := Aside0.mk H
          clear H
          have hnb13 := NB799_800.out
          have hnc13 := NB800_799.out
          have hcz14_0 : w8.cell? ⟨gb799, 0, none⟩ = some (.int .i64 ((rd_T56 l0 x19_1).f0)) := (blk_cell BK799.out 0).trans rfl
          have hcz14_1 : w8.cell? ⟨gb799, 1, none⟩ = some (.int .i64 ((rd_T56 l0 x19_1).f1.f0)) := (blk_cell BK799.out 1).trans rfl
          have hcz14_2 : w8.cell? ⟨gb799, 2, none⟩ = some (.string ((rd_T56 l0 x19_1).f1.f1)) := (blk_cell BK799.out 2).trans rfl
          have hcz14_3 : w8.cell? ⟨gb799, 3, none⟩ = some (.int .i64 ((rd_T56 l0 x19_1).f2)) := (blk_cell BK799.out 3).trans rfl
          have hfz14_0 := blk_frozen BK799.out 0
          have hfz14_1 := blk_frozen BK799.out 1
          have hfz14_2 := blk_frozen BK799.out 2
          have hfz14_3 := blk_frozen BK799.out 3
          go_wp2
          go_meet
          case rel => exact ⟨_, (true), (by first | rfl | (simp; done) | (simp [*]; done)), H', ⟨by have := HK1.out; first | omega | exact Nat.le_refl _⟩, ⟨by (with_reducible repeat (first | apply Kd.S_alloc | apply Kd.S_drewN | apply Kd.S_drew)); exact Kd.S_mono HO_8.out (fun _ hk => hk.2)⟩, ⟨by (with_reducible repeat (first | refine blk_drewN ?_ _ | refine blk_drew ?_ | refine blk_alloc ?_ _)); exact BK799.out⟩, ⟨by (with_reducible repeat (first | refine blk_drewN ?_ _ | refine blk_drew ?_ | refine blk_alloc ?_ _)); exact BK800.out⟩, ⟨by repeat (first | (with_reducible first | exact HB.out | apply below_alloc | apply pw_below_drewN | apply below_drew1 | refine below_set ?_ GE799.out | refine below_set ?_ GE800.out) | exact HB.out)⟩⟩
         ·rw [if_neg c12] at H
          have c12b0 : decide (4 < ((rd_T56 l0 x19_1).f0)) = false := decide_eq_false c12
          clear c12
          by_cases c15 : ((rd_T56 l0 x19_1).f0) = 1
          ·rw [if_pos c15] at H
           have c15b0 : (((rd_T56 l0 x19_1).f0) == 1) = true := beq_iff_eq.mpr c15
           have c15b1 : (((rd_T56 l0 x19_1).f0) != 1) = false := bne_eq_false_iff_eq.mpr c15
           clear c15
           replace H := Option.bind_eq_some_iff.mp H
           obtain ⟨t801, A160, H⟩ := H
           replace H : (impl_DiskRun.j1 k1 x4_1 x5_1 x6_1 x7_1 x8_1 l0 (l0.length : Int) x19_1 (!t801) ((rd_T56 l0 x19_1).f0) ((rd_T56 l0 x19_1).f1.f0) ((rd_T56 l0 x19_1).f1.f1) ((rd_T56 l0 x19_1).f2) 0 0) = some (r1, r2) := H
           have A16 := Aside0.mk A160
           clear A160
           have H' := Aside0.mk H
           clear H
           have hnb17 := NB799_800.out
           have hnc17 := NB800_799.out
           have hcz18_0 : w8.cell? ⟨gb799, 0, none⟩ = some (.int .i64 ((rd_T56 l0 x19_1).f0)) := (blk_cell BK799.out 0).trans rfl
           have hcz18_1 : w8.cell? ⟨gb799, 1, none⟩ = some (.int .i64 ((rd_T56 l0 x19_1).f1.f0)) := (blk_cell BK799.out 1).trans rfl
           have hcz18_2 : w8.cell? ⟨gb799, 2, none⟩ = some (.string ((rd_T56 l0 x19_1).f1.f1)) := (blk_cell BK799.out 2).trans rfl
           have hcz18_3 : w8.cell? ⟨gb799, 3, none⟩ = some (.int .i64 ((rd_T56 l0 x19_1).f2)) := (blk_cell BK799.out 3).trans rfl
           have hfz18_0 := blk_frozen BK799.out 0
           have hfz18_1 := blk_frozen BK799.out 1
           have hfz18_2 := blk_frozen BK799.out 2
           have hfz18_3 := blk_frozen BK799.out 3
           go_wp2_with (first | (go_at_call 34; (with_reducible refine (impl_recOK.calls ((rd_T56 l0 x19_1).f1.f0) ((rd_T56 l0 x19_1).f1.f1) t801 _ A16.out).mono ?_); rintro e w19 ⟨rfl, hb⟩; have n0_ := Aside0.mk (Kd.S_below (by (with_reducible repeat (first | apply Kd.S_alloc | apply Kd.S_drewN | apply Kd.S_drew)); exact HO_8.out) hb); have n1_ := Aside0.mk (blk_below (g := gb799) (o := .cells #[.int .i64 ((rd_T56 l0 x19_1).f0), .int .i64 ((rd_T56 l0 x19_1).f1.f0), .string ((rd_T56 l0 x19_1).f1.f1), .int .i64 ((rd_T56 l0 x19_1).f2)] 56 (0, 0)) (zk BK799.out) hb); have n2_ := Aside0.mk (blk_below (zk BK800.out) hb); have n3_ := Aside0.mk (below_step (by repeat (first | (with_reducible first | exact HB.out | apply below_alloc | apply pw_below_drewN | apply below_drew1 | refine below_set ?_ GE799.out | refine below_set ?_ GE800.out) | exact HB.out)) hb); clear HO_8; clear BK799; clear BK800; clear HB; have HO_8 := n0_; have BK799 := n1_; have BK800 := n2_; have HB := n3_; clear n0_ n1_ n2_ n3_; (try clear hb); (try clear hb2); (try clear hk); (try clear hi)))
           go_meet
           case rel => exact ⟨_, (!t801), (by first | rfl | (simp; done) | (simp [*]; done)), H', ⟨by have := HK1.out; first | omega | exact Nat.le_refl _⟩, ⟨by (with_reducible repeat (first | apply Kd.S_alloc | apply Kd.S_drewN | apply Kd.S_drew)); exact Kd.S_mono HO_8.out (fun _ hk => hk.2)⟩, ⟨by (with_reducible repeat (first | refine blk_drewN ?_ _ | refine blk_drew ?_ | refine blk_alloc ?_ _)); exact BK799.out⟩, ⟨by (with_reducible repeat (first | refine blk_drewN ?_ _ | refine blk_drew ?_ | refine blk_alloc ?_ _)); exact BK800.out⟩, ⟨by repeat (first | (with_reducible first | exact HB.out | apply below_alloc | apply pw_below_drewN | apply below_drew1 | refine below_set ?_ GE799.out | refine below_set ?_ GE800.out) | exact HB.out)⟩⟩
          ·rw [if_neg c15] at H
           have c15b0 : (((rd_T56 l0 x19_1).f0) == 1) = false := beq_eq_false_iff_ne.mpr c15
           have c15b1 : (((rd_T56 l0 x19_1).f0) != 1) = true := bne_iff_ne.mpr c15
           have H' := Aside0.mk H
           clear H
           have hnb20 := NB799_800.out
           have hnc20 := NB800_799.out
           have hcz21_0 : w8.cell? ⟨gb799, 0, none⟩ = some (.int .i64 ((rd_T56 l0 x19_1).f0)) := (blk_cell BK799.out 0).trans rfl
           have hcz21_1 : w8.cell? ⟨gb799, 1, none⟩ = some (.int .i64 ((rd_T56 l0 x19_1).f1.f0)) := (blk_cell BK799.out 1).trans rfl
           have hcz21_2 : w8.cell? ⟨gb799, 2, none⟩ = some (.string ((rd_T56 l0 x19_1).f1.f1)) := (blk_cell BK799.out 2).trans rfl
           have hcz21_3 : w8.cell? ⟨gb799, 3, none⟩ = some (.int .i64 ((rd_T56 l0 x19_1).f2)) := (blk_cell BK799.out 3).trans rfl
           have hfz21_0 := blk_frozen BK799.out 0
           have hfz21_1 := blk_frozen BK799.out 1
           have hfz21_2 := blk_frozen BK799.out 2
           have hfz21_3 := blk_frozen BK799.out 3
           go_wp2
           go_meet
           case rel => exact ⟨_, (false), (by first | rfl | (simp; done) | (simp [*]; done)), H', ⟨by have := HK1.out; first | omega | exact Nat.le_refl _⟩, ⟨by (with_reducible repeat (first | apply Kd.S_alloc | apply Kd.S_drewN | apply Kd.S_drew)); exact Kd.S_mono HO_8.out (fun _ hk => hk.2)⟩, ⟨by (with_reducible repeat (first | refine blk_drewN ?_ _ | refine blk_drew ?_ | refine blk_alloc ?_ _)); exact BK799.out⟩, ⟨by (with_reducible repeat (first | refine blk_drewN ?_ _ | refine blk_drew ?_ | refine blk_alloc ?_ _)); exact BK800.out⟩, ⟨by repeat (first | (with_reducible first | exact HB.out | apply below_alloc | apply pw_below_drewN | apply below_drew1 | refine below_set ?_ GE799.out | refine below_set ?_ GE800.out) | exact HB.out)⟩⟩
       case rest =>
        clear HC6
        try clear c2
        try clear c2b0
        try clear c2b1
        try clear c3
        try clear c3b0
        try clear c4
        try clear c4b0
        try clear c5
        try clear c5b0
        try clear hx798_0
        try clear hx798_1
        try clear hx798_2
        try clear hx798_3
        try clear p798
        try clear q798
        obtain ⟨kq, x23_5, rfl, HA, HJ5, HO_8, BK799, BK800, HB⟩ := hcut
        cases kq with
        | zero => exact absurd HA.out (by simp [impl_DiskRun.j1])
        | succ kj5 =>
         have H := HA.out
         clear HA
         simp only [impl_DiskRun.j1] at H
         by_cases c22 : x23_5 = true
         ·subst c22
          have H1 : (if x8_1.length < 3518437208883 then (impl_DiskRun.l0 kj5 x4_1 x5_1 x6_1 x7_1 (x8_1 ++ [(⟨1, 0, ([] : List (S45))⟩ : S54)]) l0 (l0.length : Int) (wrap64 (x19_1 + 1))) else (none)) = some (r1, r2) := by rw [if_pos rfl] at H; exact H
          clear H
          have H := H1
          clear H1
          by_cases c23 : x8_1.length < 3518437208883
          ·rw [if_pos c23] at H
           have LMc23 := Aside0.mk c23
           clear c23
           obtain ⟨y802, hy802⟩ : ∃ y_ : List (S54), y_ = (x8_1 ++ [(⟨1, 0, ([] : List (S45))⟩ : S54)]) := ⟨_, rfl⟩
           replace H : (impl_DiskRun.l0 kj5 x4_1 x5_1 x6_1 x7_1 y802 l0 (l0.length : Int) (wrap64 (x19_1 + 1))) = some (r1, r2) := by first | (rw [hy802]; with_reducible exact H) | (have H2_ := (Option.bind_some _ _).symm.trans H; rw [hy802]; with_reducible exact H2_) | (have H2_ := (Option.bind_some _ _).symm.trans H; with_reducible exact H2_) | with_reducible exact H | (rw [hy802]; exact H) | exact H
           have Ny802 := Aside0.mk hy802
           clear hy802
           have H' := Aside0.mk H
           clear H
           have hnb24 := NB800_799.out
           have hnc24 := NB799_800.out
           have hcz25_0 : wc.cell? ⟨gb800, 0, none⟩ = some (.int .i64 0) := (blk_cell BK800.out 0).trans rfl
           have hcz25_1 : wc.cell? ⟨gb800, 1, none⟩ = some (.int .i64 0) := (blk_cell BK800.out 1).trans rfl
           have hcz25_2 : wc.cell? ⟨gb800, 2, none⟩ = some (.slice none 0 0) := (blk_cell BK800.out 2).trans rfl
           have hfz25_0 := blk_frozen BK800.out 0
           have hfz25_1 := blk_frozen BK800.out 1
           have hfz25_2 := blk_frozen BK800.out 2
           go_wp2_with (first | ((with_reducible refine gate_builtin (b := .append) (xs := #[.tmp 109, .tmp 111]) rfl ?_); at_builtin; refine Kd.S_append k54 (w0 := w) w.heap.size rfl (.tmp 109) (.tmp 111) 50 54 (.agg #[(.int .i64 0), (.int .i64 0), (.slice none 0 0)]) 40 rfl Try.underlying50 info54 rfl (by decide) (by omega) u8 x8_1 (⟨1, 0, ([] : List (S45))⟩ : S54) [.int .i64 1, .int .i64 0, .slice none 0 0] (fun k_ => k_ ≠ gb800) (fun _ => False) rfl (by first | (go_simp; done) | (go_simp; rfl)) ?aP (fun k_ hk_ => hk_.elim) ?aF ?aO ?aB ?aS ?aL ?_; (case aP => exact k54_mkM _ _ _ (⟨1, 0, ([] : List (S45))⟩ : S54) (Kd.R_nil _ _ _ _ _)); (case aB => exact (by repeat (first | (with_reducible first | exact HB.out | apply below_alloc | apply pw_below_drewN | apply below_drew1 | refine below_set ?_ GE799.out | refine below_set ?_ GE800.out) | exact HB.out))); (case aF => exact (fun k_ hk => Kd.freshB (g := gb800) (o := .cells #[.int .i64 1, .int .i64 0, .slice none 0 0] 54 (0, 0)) (by (with_reducible repeat (first | refine blk_drewN ?_ _ | refine blk_drew ?_ | refine blk_alloc ?_ _)); refine blk_put (cs := #[.int .i64 0, .int .i64 0, .slice none 0 0]) ?_ 0 _ rfl; (with_reducible repeat (first | refine blk_drewN ?_ _ | refine blk_drew ?_ | refine blk_alloc ?_ _)); exact BK800.out) k_ hk)); (case aO => exact (by (with_reducible repeat (first | apply Kd.S_alloc | apply Kd.S_drewN | apply Kd.S_drew)); exact Kd.S_mono (Kd.S_far (p := ⟨gb800, 0, none⟩) (Kd.S_mono HO_8.out (fun k_ hk => (⟨hk, hk⟩ : _ ∧ k_ ≠ gb800))) (fun _ hk => hk.2) (.int .i64 1)) (fun k_ hk => ⟨hk.1, fun e_ => e_⟩))); (case aS => exact (below_size (by repeat (first | (with_reducible first | exact HB.out | apply below_alloc | apply pw_below_drewN | apply below_drew1 | refine below_set ?_ GE799.out | refine below_set ?_ GE800.out) | exact HB.out)))); (case aL => have := LMc23.out; omega); intro v803 w26 ho hb hg hat; rw [← Ny802.out] at ho; have n0_ := Aside0.mk (blk_grown (g := gb799) (o := .cells #[.int .i64 ((rd_T56 l0 x19_1).f0), .int .i64 ((rd_T56 l0 x19_1).f1.f0), .string ((rd_T56 l0 x19_1).f1.f1), .int .i64 ((rd_T56 l0 x19_1).f2)] 56 (0, 0)) (by (with_reducible repeat (first | refine blk_drewN ?_ _ | refine blk_drew ?_ | refine blk_alloc ?_ _)); refine blk_far ?_ NB799_800.out _; (with_reducible repeat (first | refine blk_drewN ?_ _ | refine blk_drew ?_ | refine blk_alloc ?_ _)); exact BK799.out) hg (Kd.S_ne HO_8.out BK799.out (by decide))); have n1_ := Aside0.mk (blk_grown (g := gb800) (o := .cells #[.int .i64 1, .int .i64 0, .slice none 0 0] 54 (0, 0)) (by (with_reducible repeat (first | refine blk_drewN ?_ _ | refine blk_drew ?_ | refine blk_alloc ?_ _)); refine blk_put (cs := #[.int .i64 0, .int .i64 0, .slice none 0 0]) ?_ 0 _ rfl; (with_reducible repeat (first | refine blk_drewN ?_ _ | refine blk_drew ?_ | refine blk_alloc ?_ _)); exact BK800.out) hg (Kd.S_away HO_8.out (fun _ hk => hk))); have n2_ := Aside0.mk (hb); have n3_ := Aside0.mk (ho); clear BK799; clear BK800; clear HB; clear HO_8; have BK799 := n0_; have BK800 := n1_; have HB := n2_; have HO804 := n3_; clear n0_ n1_ n2_ n3_; clear ho hb hg hat))
           go_roundg kj5
           case measure => have := HK1.out; have := HJ5.out; omega
           case rel => exact ⟨(x4_1), (x5_1), (x6_1), (x7_1), (y802), (wrap64 (x19_1 + 1)), (by first | rfl | (simp; done) | (simp [*]; done)), (by first | rfl | (simp; done) | (simp [*]; done)), (by first | rfl | (simp; done) | (simp [*]; done)), (by first | rfl | (simp; done) | (simp [*]; done)), (by first | rfl | (simp; done) | (simp [*]; done)), H', ⟨by have := HK1.out; have := HJ5.out; omega⟩, ⟨by (with_reducible repeat (first | apply Kd.S_alloc | apply Kd.S_drewN | apply Kd.S_drew)); exact Kd.S_mono HO804.out (fun _ hk => trivial)⟩, ⟨by repeat (first | (with_reducible first | exact HB.out | apply below_alloc | apply pw_below_drewN | apply below_drew1 | refine below_set ?_ GE799.out | refine below_set ?_ GE800.out) | exact HB.out)⟩⟩
          ·rw [if_neg c23] at H
           cases H
         ·replace c22 := Bool.eq_false_iff.mpr c22
          subst c22
          have H1 : (if x7_1 = true then (impl_DiskRun.j2 kj5 x4_1 x5_1 x6_1 x7_1 x8_1 l0 (l0.length : Int) x19_1 false ((rd_T56 l0 x19_1).f0) ((rd_T56 l0 x19_1).f1.f0) ((rd_T56 l0 x19_1).f1.f1) ((rd_T56 l0 x19_1).f2) 0 0) else (impl_DiskRun.j2 kj5 x4_1 x5_1 x6_1 x7_1 x8_1 l0 (l0.length : Int) x19_1 (((rd_T56 l0 x19_1).f0) != 4) ((rd_T56 l0 x19_1).f0) ((rd_T56 l0 x19_1).f1.f0) ((rd_T56 l0 x19_1).f1.f1) ((rd_T56 l0 x19_1).f2) 0 0)) = some (r1, r2) := by rw [if_neg (show ¬ (false = true) by decide)] at H; exact H
          clear H
          have H := H1
          clear H1
          have HC27 := Aside0.mk H
          clear H
          go_upto_region 11 with (fail)
          go_cut [44] (fun v44 wc => ∃ (kq : Nat) (x44_26 : Bool), v44 = .bool x44_26 ∧ Aside0 (impl_DiskRun.j2 kq x4_1 x5_1 x6_1 x7_1 x8_1 l0 (l0.length : Int) x19_1 x44_26 ((rd_T56 l0 x19_1).f0) ((rd_T56 l0 x19_1).f1.f0) ((rd_T56 l0 x19_1).f1.f1) ((rd_T56 l0 x19_1).f2) 0 0 = some (r1, r2)) ∧ Aside0 (kq ≤ kj5) ∧ Aside0 (Kd.S k54 54 wc w.heap.size (fun k_ => k_ ≠ gb800) u8 x8_1) ∧ Aside0 (wc.heap[gb799]? = some (.cells #[.int .i64 ((rd_T56 l0 x19_1).f0), .int .i64 ((rd_T56 l0 x19_1).f1.f0), .string ((rd_T56 l0 x19_1).f1.f1), .int .i64 ((rd_T56 l0 x19_1).f2)] 56 (0, 0))) ∧ Aside0 (wc.heap[gb800]? = some (.cells #[.int .i64 0, .int .i64 0, (.slice none 0 0)] 54 (0, 0))) ∧ Aside0 (Below w.heap.size w wc))
          case first =>
           have H := HC27.out
           clear HC27
           by_cases c28 : x7_1 = true
           ·subst c28
            have H1 : (impl_DiskRun.j2 kj5 x4_1 x5_1 x6_1 true x8_1 l0 (l0.length : Int) x19_1 false ((rd_T56 l0 x19_1).f0) ((rd_T56 l0 x19_1).f1.f0) ((rd_T56 l0 x19_1).f1.f1) ((rd_T56 l0 x19_1).f2) 0 0) = some (r1, r2) := by rw [if_pos rfl] at H; exact H
            clear H
            have H := H1
            clear H1
            have H' := Aside0.mk H
            clear H
            go_wp2
            go_meet
            case rel => exact ⟨_, (false), (by first | rfl | (simp; done) | (simp [*]; done)), H', ⟨by have := HK1.out; have := HJ5.out; first | omega | exact Nat.le_refl _⟩, ⟨by (with_reducible repeat (first | apply Kd.S_alloc | apply Kd.S_drewN | apply Kd.S_drew)); exact HO_8.out⟩, ⟨by (with_reducible repeat (first | refine blk_drewN ?_ _ | refine blk_drew ?_ | refine blk_alloc ?_ _)); exact BK799.out⟩, ⟨by (with_reducible repeat (first | refine blk_drewN ?_ _ | refine blk_drew ?_ | refine blk_alloc ?_ _)); exact BK800.out⟩, ⟨by repeat (first | (with_reducible first | exact HB.out | apply below_alloc | apply pw_below_drewN | apply below_drew1 | refine below_set ?_ GE799.out | refine below_set ?_ GE800.out) | exact HB.out)⟩⟩
           ·replace c28 := Bool.eq_false_iff.mpr c28
            subst c28
            have H1 : (impl_DiskRun.j2 kj5 x4_1 x5_1 x6_1 false x8_1 l0 (l0.length : Int) x19_1 (((rd_T56 l0 x19_1).f0) != 4) ((rd_T56 l0 x19_1).f0) ((rd_T56 l0 x19_1).f1.f0) ((rd_T56 l0 x19_1).f1.f1) ((rd_T56 l0 x19_1).f2) 0 0) = some (r1, r2) := by rw [if_neg (show ¬ (false = true) by decide)] at H; exact H
            clear H
            have H := H1
            clear H1
            have H' := Aside0.mk H
            clear H
            have hnb29 := NB799_800.out
            have hnc29 := NB800_799.out
            have hcz30_0 : wc.cell? ⟨gb799, 0, none⟩ = some (.int .i64 ((rd_T56 l0 x19_1).f0)) := (blk_cell BK799.out 0).trans rfl
            have hcz30_1 : wc.cell? ⟨gb799, 1, none⟩ = some (.int .i64 ((rd_T56 l0 x19_1).f1.f0)) := (blk_cell BK799.out 1).trans rfl
            have hcz30_2 : wc.cell? ⟨gb799, 2, none⟩ = some (.string ((rd_T56 l0 x19_1).f1.f1)) := (blk_cell BK799.out 2).trans rfl
            have hcz30_3 : wc.cell? ⟨gb799, 3, none⟩ = some (.int .i64 ((rd_T56 l0 x19_1).f2)) := (blk_cell BK799.out 3).trans rfl
            have hfz30_0 := blk_frozen BK799.out 0
            have hfz30_1 := blk_frozen BK799.out 1
            have hfz30_2 := blk_frozen BK799.out 2
            have hfz30_3 := blk_frozen BK799.out 3
            go_wp2
            go_meet
            case rel => exact ⟨_, ((((rd_T56 l0 x19_1).f0) != 4)), (by first | rfl | (simp; done) | (simp [*]; done)), H', ⟨by have := HK1.out; have := HJ5.out; first | omega | exact Nat.le_refl _⟩, ⟨by (with_reducible repeat (first | apply Kd.S_alloc | apply Kd.S_drewN | apply Kd.S_drew)); exact HO_8.out⟩, ⟨by (with_reducible repeat (first | refine blk_drewN ?_ _ | refine blk_drew ?_ | refine blk_alloc ?_ _)); exact BK799.out⟩, ⟨by (with_reducible repeat (first | refine blk_drewN ?_ _ | refine blk_drew ?_ | refine blk_alloc ?_ _)); exact BK800.out⟩, ⟨by repeat (first | (with_reducible first | exact HB.out | apply below_alloc | apply pw_below_drewN | apply below_drew1 | refine below_set ?_ GE799.out | refine below_set ?_ GE800.out) | exact HB.out)⟩⟩
          case rest =>
           clear HC27
           try clear c2
           try clear c2b0
           try clear c2b1
           try clear c3
           try clear c3b0
           try clear c4
           try clear c4b0
           try clear c5
           try clear c5b0
           try clear c22
           try clear hx798_0
           try clear hx798_1
           try clear hx798_2
           try clear hx798_3
           try clear p798
           try clear q798
           obtain ⟨kq, x44_26, rfl, HA, HJ26, HO_8, BK799, BK800, HB⟩ := hcut
           cases kq with
           | zero => exact absurd HA.out (by simp [impl_DiskRun.j2])
           | succ kj26 =>
            have H := HA.out
            clear HA
            simp only [impl_DiskRun.j2] at H
            by_cases c31 : x44_26 = true
            ·subst c31
             have H1 : (if x8_1.length < 3518437208883 then (impl_DiskRun.l0 kj26 x4_1 x5_1 x6_1 x7_1 (x8_1 ++ [(⟨11, 0, ([] : List (S45))⟩ : S54)]) l0 (l0.length : Int) (wrap64 (x19_1 + 1))) else (none)) = some (r1, r2) := by rw [if_pos rfl] at H; exact H
             clear H
             have H := H1
             clear H1
             by_cases c32 : x8_1.length < 3518437208883
             ·rw [if_pos c32] at H
              have LMc32 := Aside0.mk c32
              clear c32
              obtain ⟨y805, hy805⟩ : ∃ y_ : List (S54), y_ = (x8_1 ++ [(⟨11, 0, ([] : List (S45))⟩ : S54)]) := ⟨_, rfl⟩
              replace H : (impl_DiskRun.l0 kj26 x4_1 x5_1 x6_1 x7_1 y805 l0 (l0.length : Int) (wrap64 (x19_1 + 1))) = some (r1, r2) := by first | (rw [hy805]; with_reducible exact H) | (have H2_ := (Option.bind_some _ _).symm.trans H; rw [hy805]; with_reducible exact H2_) | (have H2_ := (Option.bind_some _ _).symm.trans H; with_reducible exact H2_) | with_reducible exact H | (rw [hy805]; exact H) | exact H
              have Ny805 := Aside0.mk hy805
              clear hy805
              have H' := Aside0.mk H
              clear H
              have hnb33 := NB800_799.out
              have hnc33 := NB799_800.out
              have hcz34_0 : wc.cell? ⟨gb800, 0, none⟩ = some (.int .i64 0) := (blk_cell BK800.out 0).trans rfl
              have hcz34_1 : wc.cell? ⟨gb800, 1, none⟩ = some (.int .i64 0) := (blk_cell BK800.out 1).trans rfl
              have hcz34_2 : wc.cell? ⟨gb800, 2, none⟩ = some (.slice none 0 0) := (blk_cell BK800.out 2).trans rfl
              have hfz34_0 := blk_frozen BK800.out 0
              have hfz34_1 := blk_frozen BK800.out 1
              have hfz34_2 := blk_frozen BK800.out 2
              go_wp2_with (first | ((with_reducible refine gate_builtin (b := .append) (xs := #[.tmp 109, .tmp 111]) rfl ?_); at_builtin; refine Kd.S_append k54 (w0 := w) w.heap.size rfl (.tmp 109) (.tmp 111) 50 54 (.agg #[(.int .i64 0), (.int .i64 0), (.slice none 0 0)]) 40 rfl Try.underlying50 info54 rfl (by decide) (by omega) u8 x8_1 (⟨11, 0, ([] : List (S45))⟩ : S54) [.int .i64 11, .int .i64 0, .slice none 0 0] (fun k_ => k_ ≠ gb800) (fun _ => False) rfl (by first | (go_simp; done) | (go_simp; rfl)) ?aP (fun k_ hk_ => hk_.elim) ?aF ?aO ?aB ?aS ?aL ?_; (case aP => exact k54_mkM _ _ _ (⟨11, 0, ([] : List (S45))⟩ : S54) (Kd.R_nil _ _ _ _ _)); (case aB => exact (by repeat (first | (with_reducible first | exact HB.out | apply below_alloc | apply pw_below_drewN | apply below_drew1 | refine below_set ?_ GE799.out | refine below_set ?_ GE800.out) | exact HB.out))); (case aF => exact (fun k_ hk => Kd.freshB (g := gb800) (o := .cells #[.int .i64 11, .int .i64 0, .slice none 0 0] 54 (0, 0)) (by (with_reducible repeat (first | refine blk_drewN ?_ _ | refine blk_drew ?_ | refine blk_alloc ?_ _)); refine blk_put (cs := #[.int .i64 0, .int .i64 0, .slice none 0 0]) ?_ 0 _ rfl; (with_reducible repeat (first | refine blk_drewN ?_ _ | refine blk_drew ?_ | refine blk_alloc ?_ _)); exact BK800.out) k_ hk)); (case aO => exact (by (with_reducible repeat (first | apply Kd.S_alloc | apply Kd.S_drewN | apply Kd.S_drew)); exact Kd.S_mono (Kd.S_far (p := ⟨gb800, 0, none⟩) (Kd.S_mono HO_8.out (fun k_ hk => (⟨hk, hk⟩ : _ ∧ k_ ≠ gb800))) (fun _ hk => hk.2) (.int .i64 11)) (fun k_ hk => ⟨hk.1, fun e_ => e_⟩))); (case aS => exact (below_size (by repeat (first | (with_reducible first | exact HB.out | apply below_alloc | apply pw_below_drewN | apply below_drew1 | refine below_set ?_ GE799.out | refine below_set ?_ GE800.out) | exact HB.out)))); (case aL => have := LMc32.out; omega); intro v806 w35 ho hb hg hat; rw [← Ny805.out] at ho; have n0_ := Aside0.mk (blk_grown (g := gb799) (o := .cells #[.int .i64 ((rd_T56 l0 x19_1).f0), .int .i64 ((rd_T56 l0 x19_1).f1.f0), .string ((rd_T56 l0 x19_1).f1.f1), .int .i64 ((rd_T56 l0 x19_1).f2)] 56 (0, 0)) (by (with_reducible repeat (first | refine blk_drewN ?_ _ | refine blk_drew ?_ | refine blk_alloc ?_ _)); refine blk_far ?_ NB799_800.out _; (with_reducible repeat (first | refine blk_drewN ?_ _ | refine blk_drew ?_ | refine blk_alloc ?_ _)); exact BK799.out) hg (Kd.S_ne HO_8.out BK799.out (by decide))); have n1_ := Aside0.mk (blk_grown (g := gb800) (o := .cells #[.int .i64 11, .int .i64 0, .slice none 0 0] 54 (0, 0)) (by (with_reducible repeat (first | refine blk_drewN ?_ _ | refine blk_drew ?_ | refine blk_alloc ?_ _)); refine blk_put (cs := #[.int .i64 0, .int .i64 0, .slice none 0 0]) ?_ 0 _ rfl; (with_reducible repeat (first | refine blk_drewN ?_ _ | refine blk_drew ?_ | refine blk_alloc ?_ _)); exact BK800.out) hg (Kd.S_away HO_8.out (fun _ hk => hk))); have n2_ := Aside0.mk (hb); have n3_ := Aside0.mk (ho); clear BK799; clear BK800; clear HB; clear HO_8; have BK799 := n0_; have BK800 := n1_; have HB := n2_; have HO807 := n3_; clear n0_ n1_ n2_ n3_; clear ho hb hg hat))
              go_roundg kj26
              case measure => have := HK1.out; have := HJ5.out; have := HJ26.out; omega
              case rel => exact ⟨(x4_1), (x5_1), (x6_1), (x7_1), (y805), (wrap64 (x19_1 + 1)), (by first | rfl | (simp; done) | (simp [*]; done)), (by first | rfl | (simp; done) | (simp [*]; done)), (by first | rfl | (simp; done) | (simp [*]; done)), (by first | rfl | (simp; done) | (simp [*]; done)), (by first | rfl | (simp; done) | (simp [*]; done)), H', ⟨by have := HK1.out; have := HJ5.out; have := HJ26.out; omega⟩, ⟨by (with_reducible repeat (first | apply Kd.S_alloc | apply Kd.S_drewN | apply Kd.S_drew)); exact Kd.S_mono HO807.out (fun _ hk => trivial)⟩, ⟨by repeat (first | (with_reducible first | exact HB.out | apply below_alloc | apply pw_below_drewN | apply below_drew1 | refine below_set ?_ GE799.out | refine below_set ?_ GE800.out) | exact HB.out)⟩⟩
             ·rw [if_neg c32] at H
              cases H
            ·replace c31 := Bool.eq_false_iff.mpr c31
             subst c31
             have H1 : (if ((rd_T56 l0 x19_1).f0) = 1 then (if x6_1 ≥ 300 then (if x8_1.length < 3518437208883 then (impl_DiskRun.l0 kj26 x4_1 x5_1 x6_1 x7_1 (x8_1 ++ [(⟨9, 0, ([] : List (S45))⟩ : S54)]) l0 (l0.length : Int) (wrap64 (x19_1 + 1))) else (none)) else ((impl_frame.f kj26 x6_1 ((rd_T56 l0 x19_1).f1.f0) ((rd_T56 l0 x19_1).f1.f1)).bind fun t811 => (if x5_1.size + t811.size ≤ 9223372036854775807 then (if x8_1.length < 3518437208883 then (impl_DiskRun.l0 kj26 x4_1 (x5_1 ++ t811) (wrap64 (x6_1 + 1)) x7_1 (x8_1 ++ [(⟨0, x6_1, ([] : List (S45))⟩ : S54)]) l0 (l0.length : Int) (wrap64 (x19_1 + 1))) else (none)) else (none)))) else (if ((rd_T56 l0 x19_1).f0) = 2 then (if x4_1.size + x5_1.size ≤ 9223372036854775807 then (if x8_1.length < 3518437208883 then (impl_DiskRun.l0 kj26 (x4_1 ++ x5_1) (⟨#[]⟩ : ByteArray) x6_1 x7_1 (x8_1 ++ [(⟨0, 0, ([] : List (S45))⟩ : S54)]) l0 (l0.length : Int) (wrap64 (x19_1 + 1))) else (none)) else (none)) else (if ((rd_T56 l0 x19_1).f0) = 3 then (if 0 ≤ (mn (mx ((rd_T56 l0 x19_1).f2) 0) (x5_1.size : Int)) then (if (mn (mx ((rd_T56 l0 x19_1).f2) 0) (x5_1.size : Int)) ≤ (x5_1.size : Int) then (if x4_1.size + (x5_1.extract 0 ((mn (mx ((rd_T56 l0 x19_1).f2) 0) (x5_1.size : Int)) : Int).toNat).size ≤ 9223372036854775807 then (if x8_1.length < 3518437208883 then (impl_DiskRun.l0 kj26 (x4_1 ++ (x5_1.extract 0 ((mn (mx ((rd_T56 l0 x19_1).f2) 0) (x5_1.size : Int)) : Int).toNat)) (⟨#[]⟩ : ByteArray) x6_1 false (x8_1 ++ [(⟨0, 0, ([] : List (S45))⟩ : S54)]) l0 (l0.length : Int) (wrap64 (x19_1 + 1))) else (none)) else (none)) else (none)) else (none)) else (if ((rd_T56 l0 x19_1).f0) = 4 then ((impl_LogScan.f kj26 x4_1 0).bind fun bt821 => (if 0 ≤ bt821.2 then (if bt821.2 ≤ (x4_1.size : Int) then (if x8_1.length < 3518437208883 then (impl_DiskRun.l0 kj26 (x4_1.extract 0 (bt821.2 : Int).toNat) (⟨#[]⟩ : ByteArray) (bt821.1.length : Int) true (x8_1 ++ [(⟨0, (bt821.1.length : Int), bt821.1⟩ : S54)]) l0 (l0.length : Int) (wrap64 (x19_1 + 1))) else (none)) else (none)) else (none))) else (if x8_1.length < 3518437208883 then (impl_DiskRun.l0 kj26 x4_1 x5_1 x6_1 x7_1 (x8_1 ++ [(⟨0, 0, ([] : List (S45))⟩ : S54)]) l0 (l0.length : Int) (wrap64 (x19_1 + 1))) else (none)))))) = some (r1, r2) := by rw [if_neg (show ¬ (false = true) by decide)] at H; exact H
             clear H
             have H := H1
             clear H1
             by_cases c36 : ((rd_T56 l0 x19_1).f0) = 1
             ·rw [if_pos c36] at H
              have c36b0 : (((rd_T56 l0 x19_1).f0) == 1) = true := beq_iff_eq.mpr c36
              have c36b1 : (((rd_T56 l0 x19_1).f0) != 1) = false := bne_eq_false_iff_eq.mpr c36
              clear c36
              by_cases c37 : x6_1 ≥ 300
              ·rw [if_pos c37] at H
               have c37b0 : decide (300 ≤ x6_1) = true := decide_eq_true c37
               clear c37
               by_cases c38 : x8_1.length < 3518437208883
               ·rw [if_pos c38] at H
                have LMc38 := Aside0.mk c38
                clear c38
                obtain ⟨y808, hy808⟩ : ∃ y_ : List (S54), y_ = (x8_1 ++ [(⟨9, 0, ([] : List (S45))⟩ : S54)]) := ⟨_, rfl⟩
                replace H : (impl_DiskRun.l0 kj26 x4_1 x5_1 x6_1 x7_1 y808 l0 (l0.length : Int) (wrap64 (x19_1 + 1))) = some (r1, r2) := by first | (rw [hy808]; with_reducible exact H) | (have H2_ := (Option.bind_some _ _).symm.trans H; rw [hy808]; with_reducible exact H2_) | (have H2_ := (Option.bind_some _ _).symm.trans H; with_reducible exact H2_) | with_reducible exact H | (rw [hy808]; exact H) | exact H
                have Ny808 := Aside0.mk hy808
                clear hy808
                have H' := Aside0.mk H
                clear H
                have hnb39 := NB799_800.out
                have hnc39 := NB800_799.out
                have hcz40_0 : wc.cell? ⟨gb799, 0, none⟩ = some (.int .i64 ((rd_T56 l0 x19_1).f0)) := (blk_cell BK799.out 0).trans rfl
                have hcz40_1 : wc.cell? ⟨gb799, 1, none⟩ = some (.int .i64 ((rd_T56 l0 x19_1).f1.f0)) := (blk_cell BK799.out 1).trans rfl
                have hcz40_2 : wc.cell? ⟨gb799, 2, none⟩ = some (.string ((rd_T56 l0 x19_1).f1.f1)) := (blk_cell BK799.out 2).trans rfl
                have hcz40_3 : wc.cell? ⟨gb799, 3, none⟩ = some (.int .i64 ((rd_T56 l0 x19_1).f2)) := (blk_cell BK799.out 3).trans rfl
                have hfz40_0 := blk_frozen BK799.out 0
                have hfz40_1 := blk_frozen BK799.out 1
                have hfz40_2 := blk_frozen BK799.out 2
                have hfz40_3 := blk_frozen BK799.out 3
                have hcz41_0 : wc.cell? ⟨gb800, 0, none⟩ = some (.int .i64 0) := (blk_cell BK800.out 0).trans rfl
                have hcz41_1 : wc.cell? ⟨gb800, 1, none⟩ = some (.int .i64 0) := (blk_cell BK800.out 1).trans rfl
                have hcz41_2 : wc.cell? ⟨gb800, 2, none⟩ = some (.slice none 0 0) := (blk_cell BK800.out 2).trans rfl
                have hfz41_0 := blk_frozen BK800.out 0
                have hfz41_1 := blk_frozen BK800.out 1
                have hfz41_2 := blk_frozen BK800.out 2
                go_wp2_with (first | ((with_reducible refine gate_builtin (b := .append) (xs := #[.tmp 109, .tmp 111]) rfl ?_); at_builtin; refine Kd.S_append k54 (w0 := w) w.heap.size rfl (.tmp 109) (.tmp 111) 50 54 (.agg #[(.int .i64 0), (.int .i64 0), (.slice none 0 0)]) 40 rfl Try.underlying50 info54 rfl (by decide) (by omega) u8 x8_1 (⟨9, 0, ([] : List (S45))⟩ : S54) [.int .i64 9, .int .i64 0, .slice none 0 0] (fun k_ => k_ ≠ gb800) (fun _ => False) rfl (by first | (go_simp; done) | (go_simp; rfl)) ?aP (fun k_ hk_ => hk_.elim) ?aF ?aO ?aB ?aS ?aL ?_; (case aP => exact k54_mkM _ _ _ (⟨9, 0, ([] : List (S45))⟩ : S54) (Kd.R_nil _ _ _ _ _)); (case aB => exact (by repeat (first | (with_reducible first | exact HB.out | apply below_alloc | apply pw_below_drewN | apply below_drew1 | refine below_set ?_ GE799.out | refine below_set ?_ GE800.out) | exact HB.out))); (case aF => exact (fun k_ hk => Kd.freshB (g := gb800) (o := .cells #[.int .i64 9, .int .i64 0, .slice none 0 0] 54 (0, 0)) (by (with_reducible repeat (first | refine blk_drewN ?_ _ | refine blk_drew ?_ | refine blk_alloc ?_ _)); refine blk_put (cs := #[.int .i64 0, .int .i64 0, .slice none 0 0]) ?_ 0 _ rfl; (with_reducible repeat (first | refine blk_drewN ?_ _ | refine blk_drew ?_ | refine blk_alloc ?_ _)); exact BK800.out) k_ hk)); (case aO => exact (by (with_reducible repeat (first | apply Kd.S_alloc | apply Kd.S_drewN | apply Kd.S_drew)); exact Kd.S_mono (Kd.S_far (p := ⟨gb800, 0, none⟩) (Kd.S_mono HO_8.out (fun k_ hk => (⟨hk, hk⟩ : _ ∧ k_ ≠ gb800))) (fun _ hk => hk.2) (.int .i64 9)) (fun k_ hk => ⟨hk.1, fun e_ => e_⟩))); (case aS => exact (below_size (by repeat (first | (with_reducible first | exact HB.out | apply below_alloc | apply pw_below_drewN | apply below_drew1 | refine below_set ?_ GE799.out | refine below_set ?_ GE800.out) | exact HB.out)))); (case aL => have := LMc38.out; omega); intro v809 w42 ho hb hg hat; rw [← Ny808.out] at ho; have n0_ := Aside0.mk (blk_grown (g := gb799) (o := .cells #[.int .i64 ((rd_T56 l0 x19_1).f0), .int .i64 ((rd_T56 l0 x19_1).f1.f0), .string ((rd_T56 l0 x19_1).f1.f1), .int .i64 ((rd_T56 l0 x19_1).f2)] 56 (0, 0)) (by (with_reducible repeat (first | refine blk_drewN ?_ _ | refine blk_drew ?_ | refine blk_alloc ?_ _)); refine blk_far ?_ NB799_800.out _; (with_reducible repeat (first | refine blk_drewN ?_ _ | refine blk_drew ?_ | refine blk_alloc ?_ _)); exact BK799.out) hg (Kd.S_ne HO_8.out BK799.out (by decide))); have n1_ := Aside0.mk (blk_grown (g := gb800) (o := .cells #[.int .i64 9, .int .i64 0, .slice none 0 0] 54 (0, 0)) (by (with_reducible repeat (first | refine blk_drewN ?_ _ | refine blk_drew ?_ | refine blk_alloc ?_ _)); refine blk_put (cs := #[.int .i64 0, .int .i64 0, .slice none 0 0]) ?_ 0 _ rfl; (with_reducible repeat (first | refine blk_drewN ?_ _ | refine blk_drew ?_ | refine blk_alloc ?_ _)); exact BK800.out) hg (Kd.S_away HO_8.out (fun _ hk => hk))); have n2_ := Aside0.mk (hb); have n3_ := Aside0.mk (ho); clear BK799; clear BK800; clear HB; clear HO_8; have BK799 := n0_; have BK800 := n1_; have HB := n2_; have HO810 := n3_; clear n0_ n1_ n2_ n3_; clear ho hb hg hat))
                go_roundg kj26
                case measure => have := HK1.out; have := HJ5.out; have := HJ26.out; omega
                case rel => exact ⟨(x4_1), (x5_1), (x6_1), (x7_1), (y808), (wrap64 (x19_1 + 1)), (by first | rfl | (simp; done) | (simp [*]; done)), (by first | rfl | (simp; done) | (simp [*]; done)), (by first | rfl | (simp; done) | (simp [*]; done)), (by first | rfl | (simp; done) | (simp [*]; done)), (by first | rfl | (simp; done) | (simp [*]; done)), H', ⟨by have := HK1.out; have := HJ5.out; have := HJ26.out; omega⟩, ⟨by (with_reducible repeat (first | apply Kd.S_alloc | apply Kd.S_drewN | apply Kd.S_drew)); exact Kd.S_mono HO810.out (fun _ hk => trivial)⟩, ⟨by repeat (first | (with_reducible first | exact HB.out | apply below_alloc | apply pw_below_drewN | apply below_drew1 | refine below_set ?_ GE799.out | refine below_set ?_ GE800.out) | exact HB.out)⟩⟩
               ·rw [if_neg c38] at H
                cases H
              ·rw [if_neg c37] at H
               have c37b0 : decide (300 ≤ x6_1) = false := decide_eq_false c37
               clear c37
               replace H := Option.bind_eq_some_iff.mp H
               obtain ⟨t811, A430, H⟩ := H
               replace H : (if x5_1.size + t811.size ≤ 9223372036854775807 then (if x8_1.length < 3518437208883 then (impl_DiskRun.l0 kj26 x4_1 (x5_1 ++ t811) (wrap64 (x6_1 + 1)) x7_1 (x8_1 ++ [(⟨0, x6_1, ([] : List (S45))⟩ : S54)]) l0 (l0.length : Int) (wrap64 (x19_1 + 1))) else (none)) else (none)) = some (r1, r2) := H
               have A43 := Aside0.mk A430
               clear A430
               by_cases c44 : x5_1.size + t811.size ≤ 9223372036854775807
               ·rw [if_pos c44] at H
                have c44b0 := eq_true c44
                have c44b1 : decide (x5_1.size + t811.size ≤ 9223372036854775807) = true := decide_eq_true c44
                try have c44b2 : (9223372036854775807 < x5_1.size + t811.size) = False := eq_false (Nat.not_lt.2 c44)
                try (have c44b3 := c44b2; simp only [ByteArray.size_append] at c44b3)
                by_cases c45 : x8_1.length < 3518437208883
                ·rw [if_pos c45] at H
                 have LMc45 := Aside0.mk c45
                 clear c45
                 obtain ⟨y812, hy812⟩ : ∃ y_ : List (S54), y_ = (x8_1 ++ [(⟨0, x6_1, ([] : List (S45))⟩ : S54)]) := ⟨_, rfl⟩
                 replace H : (impl_DiskRun.l0 kj26 x4_1 (x5_1 ++ t811) (wrap64 (x6_1 + 1)) x7_1 y812 l0 (l0.length : Int) (wrap64 (x19_1 + 1))) = some (r1, r2) := by first | (rw [hy812]; with_reducible exact H) | (have H2_ := (Option.bind_some _ _).symm.trans H; rw [hy812]; with_reducible exact H2_) | (have H2_ := (Option.bind_some _ _).symm.trans H; with_reducible exact H2_) | with_reducible exact H | (rw [hy812]; exact H) | exact H
                 have Ny812 := Aside0.mk hy812
                 clear hy812
                 have H' := Aside0.mk H
                 clear H
                 have hnb46 := NB799_800.out
                 have hnc46 := NB800_799.out
                 have hcz47_0 : wc.cell? ⟨gb799, 0, none⟩ = some (.int .i64 ((rd_T56 l0 x19_1).f0)) := (blk_cell BK799.out 0).trans rfl
                 have hcz47_1 : wc.cell? ⟨gb799, 1, none⟩ = some (.int .i64 ((rd_T56 l0 x19_1).f1.f0)) := (blk_cell BK799.out 1).trans rfl
                 have hcz47_2 : wc.cell? ⟨gb799, 2, none⟩ = some (.string ((rd_T56 l0 x19_1).f1.f1)) := (blk_cell BK799.out 2).trans rfl
                 have hcz47_3 : wc.cell? ⟨gb799, 3, none⟩ = some (.int .i64 ((rd_T56 l0 x19_1).f2)) := (blk_cell BK799.out 3).trans rfl
                 have hfz47_0 := blk_frozen BK799.out 0
                 have hfz47_1 := blk_frozen BK799.out 1
                 have hfz47_2 := blk_frozen BK799.out 2
                 have hfz47_3 := blk_frozen BK799.out 3
                 go_wp2_with (first | ((with_reducible refine gate_callee (f := 36) rfl ?_); refine goesL_ (some 64) rfl rfl Try.func36 (by kernel_rfl) rfl #[.int .i64 x6_1, .agg #[.int .i64 ((rd_T56 l0 x19_1).f1.f0), .string ((rd_T56 l0 x19_1).f1.f1)]] rfl zm ?_; (with_reducible refine (impl_frame.calls kj26 x6_1 ((rd_T56 l0 x19_1).f1.f0) ((rd_T56 l0 x19_1).f1.f1) t811 _ A43.out).mono ?_); rintro e w48 ⟨rfl, hb⟩; refine ⟨_, rfl, ?_⟩; have n0_ := Aside0.mk (Kd.S_below (by (with_reducible repeat (first | apply Kd.S_alloc | apply Kd.S_drewN | apply Kd.S_drew)); exact HO_8.out) hb); have n1_ := Aside0.mk (blk_below (g := gb799) (o := .cells #[.int .i64 ((rd_T56 l0 x19_1).f0), .int .i64 ((rd_T56 l0 x19_1).f1.f0), .string ((rd_T56 l0 x19_1).f1.f1), .int .i64 ((rd_T56 l0 x19_1).f2)] 56 (0, 0)) (zk BK799.out) hb); have n2_ := Aside0.mk (blk_below (zk BK800.out) hb); have n3_ := Aside0.mk (below_step (by repeat (first | (with_reducible first | exact HB.out | apply below_alloc | apply pw_below_drewN | apply below_drew1 | refine below_set ?_ GE799.out | refine below_set ?_ GE800.out) | exact HB.out)) hb); clear HO_8; clear BK799; clear BK800; clear HB; have HO_8 := n0_; have BK799 := n1_; have BK800 := n2_; have HB := n3_; clear n0_ n1_ n2_ n3_; (try clear hb); (try clear hb2); (try clear hk); (try clear hi); have hcz49_0 : w48.cell? ⟨gb800, 0, none⟩ = some (.int .i64 0) := (blk_cell BK800.out 0).trans rfl; have hcz49_1 : w48.cell? ⟨gb800, 1, none⟩ = some (.int .i64 0) := (blk_cell BK800.out 1).trans rfl; have hcz49_2 : w48.cell? ⟨gb800, 2, none⟩ = some (.slice none 0 0) := (blk_cell BK800.out 2).trans rfl; have hfz49_0 := blk_frozen BK800.out 0; have hfz49_1 := blk_frozen BK800.out 1; have hfz49_2 := blk_frozen BK800.out 2) | ((with_reducible refine gate_builtin (b := .append) (xs := #[.tmp 109, .tmp 111]) rfl ?_); at_builtin; refine Kd.S_append k54 (w0 := w) w.heap.size rfl (.tmp 109) (.tmp 111) 50 54 (.agg #[(.int .i64 0), (.int .i64 0), (.slice none 0 0)]) 40 rfl Try.underlying50 info54 rfl (by decide) (by omega) u8 x8_1 (⟨0, x6_1, ([] : List (S45))⟩ : S54) [.int .i64 0, .int .i64 x6_1, .slice none 0 0] (fun k_ => k_ ≠ gb800) (fun _ => False) rfl (by first | (go_simp; done) | (go_simp; rfl)) ?aP (fun k_ hk_ => hk_.elim) ?aF ?aO ?aB ?aS ?aL ?_; (case aP => exact k54_mkM _ _ _ (⟨0, x6_1, ([] : List (S45))⟩ : S54) (Kd.R_nil _ _ _ _ _)); (case aB => exact (by repeat (first | (with_reducible first | exact HB.out | apply below_alloc | apply pw_below_drewN | apply below_drew1 | refine below_set ?_ GE799.out | refine below_set ?_ GE800.out) | exact HB.out))); (case aF => exact (fun k_ hk => Kd.freshB (g := gb800) (o := .cells #[.int .i64 0, .int .i64 x6_1, .slice none 0 0] 54 (0, 0)) (by (with_reducible repeat (first | refine blk_drewN ?_ _ | refine blk_drew ?_ | refine blk_alloc ?_ _)); refine blk_put (cs := #[.int .i64 0, .int .i64 0, .slice none 0 0]) ?_ 1 _ rfl; (with_reducible repeat (first | refine blk_drewN ?_ _ | refine blk_drew ?_ | refine blk_alloc ?_ _)); exact BK800.out) k_ hk)); (case aO => exact (by (with_reducible repeat (first | apply Kd.S_alloc | apply Kd.S_drewN | apply Kd.S_drew)); exact Kd.S_mono (Kd.S_far (p := ⟨gb800, 1, none⟩) (Kd.S_mono HO_8.out (fun k_ hk => (⟨hk, hk⟩ : _ ∧ k_ ≠ gb800))) (fun _ hk => hk.2) (.int .i64 x6_1)) (fun k_ hk => ⟨hk.1, fun e_ => e_⟩))); (case aS => exact (below_size (by repeat (first | (with_reducible first | exact HB.out | apply below_alloc | apply pw_below_drewN | apply below_drew1 | refine below_set ?_ GE799.out | refine below_set ?_ GE800.out) | exact HB.out)))); (case aL => have := LMc45.out; omega); intro v813 w50 ho hb hg hat; rw [← Ny812.out] at ho; have n0_ := Aside0.mk (blk_grown (g := gb799) (o := .cells #[.int .i64 ((rd_T56 l0 x19_1).f0), .int .i64 ((rd_T56 l0 x19_1).f1.f0), .string ((rd_T56 l0 x19_1).f1.f1), .int .i64 ((rd_T56 l0 x19_1).f2)] 56 (0, 0)) (by (with_reducible repeat (first | refine blk_drewN ?_ _ | refine blk_drew ?_ | refine blk_alloc ?_ _)); refine blk_far ?_ NB799_800.out _; (with_reducible repeat (first | refine blk_drewN ?_ _ | refine blk_drew ?_ | refine blk_alloc ?_ _)); exact BK799.out) hg (Kd.S_ne HO_8.out BK799.out (by decide))); have n1_ := Aside0.mk (blk_grown (g := gb800) (o := .cells #[.int .i64 0, .int .i64 x6_1, .slice none 0 0] 54 (0, 0)) (by (with_reducible repeat (first | refine blk_drewN ?_ _ | refine blk_drew ?_ | refine blk_alloc ?_ _)); refine blk_put (cs := #[.int .i64 0, .int .i64 0, .slice none 0 0]) ?_ 1 _ rfl; (with_reducible repeat (first | refine blk_drewN ?_ _ | refine blk_drew ?_ | refine blk_alloc ?_ _)); exact BK800.out) hg (Kd.S_away HO_8.out (fun _ hk => hk))); have n2_ := Aside0.mk (hb); have n3_ := Aside0.mk (ho); clear BK799; clear BK800; clear HB; clear HO_8; have BK799 := n0_; have BK800 := n1_; have HB := n2_; have HO814 := n3_; clear n0_ n1_ n2_ n3_; clear ho hb hg hat))
                 go_roundg kj26
                 case measure => have := HK1.out; have := HJ5.out; have := HJ26.out; omega
                 case rel => exact ⟨(x4_1), (x5_1 ++ t811), (wrap64 (x6_1 + 1)), (x7_1), (y812), (wrap64 (x19_1 + 1)), (by first | rfl | (simp; done) | (simp [*]; done)), (by first | rfl | (simp; done) | (simp [*]; done)), (by first | rfl | (simp; done) | (simp [*]; done)), (by first | rfl | (simp; done) | (simp [*]; done)), (by first | rfl | (simp; done) | (simp [*]; done)), H', ⟨by have := HK1.out; have := HJ5.out; have := HJ26.out; omega⟩, ⟨by (with_reducible repeat (first | apply Kd.S_alloc | apply Kd.S_drewN | apply Kd.S_drew)); exact Kd.S_mono HO814.out (fun _ hk => trivial)⟩, ⟨by repeat (first | (with_reducible first | exact HB.out | apply below_alloc | apply pw_below_drewN | apply below_drew1 | refine below_set ?_ GE799.out | refine below_set ?_ GE800.out) | exact HB.out)⟩⟩
                ·rw [if_neg c45] at H
                 cases H
               ·rw [if_neg c44] at H
                cases H
             ·rw [if_neg c36] at H
              have c36b0 : (((rd_T56 l0 x19_1).f0) == 1) = false := beq_eq_false_iff_ne.mpr c36
              have c36b1 : (((rd_T56 l0 x19_1).f0) != 1) = true := bne_iff_ne.mpr c36
              by_cases c51 : ((rd_T56 l0 x19_1).f0) = 2
              ·rw [if_pos c51] at H
               have c51b0 : (((rd_T56 l0 x19_1).f0) == 2) = true := beq_iff_eq.mpr c51
               have c51b1 : (((rd_T56 l0 x19_1).f0) != 2) = false := bne_eq_false_iff_eq.mpr c51
               clear c51
               by_cases c52 : x4_1.size + x5_1.size ≤ 9223372036854775807
               ·rw [if_pos c52] at H
                have c52b0 := eq_true c52
                have c52b1 : decide (x4_1.size + x5_1.size ≤ 9223372036854775807) = true := decide_eq_true c52
                try have c52b2 : (9223372036854775807 < x4_1.size + x5_1.size) = False := eq_false (Nat.not_lt.2 c52)
                try (have c52b3 := c52b2; simp only [ByteArray.size_append] at c52b3)
                by_cases c53 : x8_1.length < 3518437208883
                ·rw [if_pos c53] at H
                 have LMc53 := Aside0.mk c53
                 clear c53
                 obtain ⟨y815, hy815⟩ : ∃ y_ : List (S54), y_ = (x8_1 ++ [(⟨0, 0, ([] : List (S45))⟩ : S54)]) := ⟨_, rfl⟩
                 replace H : (impl_DiskRun.l0 kj26 (x4_1 ++ x5_1) (⟨#[]⟩ : ByteArray) x6_1 x7_1 y815 l0 (l0.length : Int) (wrap64 (x19_1 + 1))) = some (r1, r2) := by first | (rw [hy815]; with_reducible exact H) | (have H2_ := (Option.bind_some _ _).symm.trans H; rw [hy815]; with_reducible exact H2_) | (have H2_ := (Option.bind_some _ _).symm.trans H; with_reducible exact H2_) | with_reducible exact H | (rw [hy815]; exact H) | exact H
                 have Ny815 := Aside0.mk hy815
                 clear hy815
                 have H' := Aside0.mk H
                 clear H
                 have hnb54 := NB799_800.out
                 have hnc54 := NB800_799.out
                 have hcz55_0 : wc.cell? ⟨gb799, 0, none⟩ = some (.int .i64 ((rd_T56 l0 x19_1).f0)) := (blk_cell BK799.out 0).trans rfl
                 have hcz55_1 : wc.cell? ⟨gb799, 1, none⟩ = some (.int .i64 ((rd_T56 l0 x19_1).f1.f0)) := (blk_cell BK799.out 1).trans rfl
                 have hcz55_2 : wc.cell? ⟨gb799, 2, none⟩ = some (.string ((rd_T56 l0 x19_1).f1.f1)) := (blk_cell BK799.out 2).trans rfl
                 have hcz55_3 : wc.cell? ⟨gb799, 3, none⟩ = some (.int .i64 ((rd_T56 l0 x19_1).f2)) := (blk_cell BK799.out 3).trans rfl
                 have hfz55_0 := blk_frozen BK799.out 0
                 have hfz55_1 := blk_frozen BK799.out 1
                 have hfz55_2 := blk_frozen BK799.out 2
                 have hfz55_3 := blk_frozen BK799.out 3
                 have hcz56_0 : wc.cell? ⟨gb800, 0, none⟩ = some (.int .i64 0) := (blk_cell BK800.out 0).trans rfl
                 have hcz56_1 : wc.cell? ⟨gb800, 1, none⟩ = some (.int .i64 0) := (blk_cell BK800.out 1).trans rfl
                 have hcz56_2 : wc.cell? ⟨gb800, 2, none⟩ = some (.slice none 0 0) := (blk_cell BK800.out 2).trans rfl
                 have hfz56_0 := blk_frozen BK800.out 0
                 have hfz56_1 := blk_frozen BK800.out 1
                 have hfz56_2 := blk_frozen BK800.out 2
                 go_wp2_with (first | ((with_reducible refine gate_builtin (b := .append) (xs := #[.tmp 109, .tmp 111]) rfl ?_); at_builtin; refine Kd.S_append k54 (w0 := w) w.heap.size rfl (.tmp 109) (.tmp 111) 50 54 (.agg #[(.int .i64 0), (.int .i64 0), (.slice none 0 0)]) 40 rfl Try.underlying50 info54 rfl (by decide) (by omega) u8 x8_1 (⟨0, 0, ([] : List (S45))⟩ : S54) [.int .i64 0, .int .i64 0, .slice none 0 0] (fun k_ => k_ ≠ gb800) (fun _ => False) rfl rfl ?aP (fun k_ hk_ => hk_.elim) ?aF ?aO ?aB ?aS ?aL ?_; (case aP => exact k54_mkM _ _ _ (⟨0, 0, ([] : List (S45))⟩ : S54) (Kd.R_nil _ _ _ _ _)); (case aB => exact (by repeat (first | (with_reducible first | exact HB.out | apply below_alloc | apply pw_below_drewN | apply below_drew1 | refine below_set ?_ GE799.out | refine below_set ?_ GE800.out) | exact HB.out))); (case aF => exact (fun k_ hk => Kd.freshB (g := gb800) (o := .cells #[.int .i64 0, .int .i64 0, .slice none 0 0] 54 (0, 0)) (zk BK800.out) k_ hk)); (case aO => exact (by (with_reducible repeat (first | apply Kd.S_alloc | apply Kd.S_drewN | apply Kd.S_drew)); exact Kd.S_mono HO_8.out (fun k_ hk => ⟨hk, fun e_ => e_⟩))); (case aS => exact (below_size (by repeat (first | (with_reducible first | exact HB.out | apply below_alloc | apply pw_below_drewN | apply below_drew1 | refine below_set ?_ GE799.out | refine below_set ?_ GE800.out) | exact HB.out)))); (case aL => have := LMc53.out; omega); intro v816 w57 ho hb hg hat; rw [← Ny815.out] at ho; have n0_ := Aside0.mk (blk_grown (g := gb799) (o := .cells #[.int .i64 ((rd_T56 l0 x19_1).f0), .int .i64 ((rd_T56 l0 x19_1).f1.f0), .string ((rd_T56 l0 x19_1).f1.f1), .int .i64 ((rd_T56 l0 x19_1).f2)] 56 (0, 0)) (zk BK799.out) hg (Kd.S_ne HO_8.out BK799.out (by decide))); have n1_ := Aside0.mk (blk_grown (g := gb800) (o := .cells #[.int .i64 0, .int .i64 0, .slice none 0 0] 54 (0, 0)) (zk BK800.out) hg (Kd.S_away HO_8.out (fun _ hk => hk))); have n2_ := Aside0.mk (hb); have n3_ := Aside0.mk (ho); clear BK799; clear BK800; clear HB; clear HO_8; have BK799 := n0_; have BK800 := n1_; have HB := n2_; have HO817 := n3_; clear n0_ n1_ n2_ n3_; clear ho hb hg hat))
                 go_roundg kj26
                 case measure => have := HK1.out; have := HJ5.out; have := HJ26.out; omega
                 case rel => exact ⟨(x4_1 ++ x5_1), ((⟨#[]⟩ : ByteArray)), (x6_1), (x7_1), (y815), (wrap64 (x19_1 + 1)), (by first | rfl | (simp; done) | (simp [*]; done)), (by first | rfl | (simp; done) | (simp [*]; done)), (by first | rfl | (simp; done) | (simp [*]; done)), (by first | rfl | (simp; done) | (simp [*]; done)), (by first | rfl | (simp; done) | (simp [*]; done)), H', ⟨by have := HK1.out; have := HJ5.out; have := HJ26.out; omega⟩, ⟨by (with_reducible repeat (first | apply Kd.S_alloc | apply Kd.S_drewN | apply Kd.S_drew)); exact Kd.S_mono HO817.out (fun _ hk => trivial)⟩, ⟨by repeat (first | (with_reducible first | exact HB.out | apply below_alloc | apply pw_below_drewN | apply below_drew1 | refine below_set ?_ GE799.out | refine below_set ?_ GE800.out) | exact HB.out)⟩⟩
                ·rw [if_neg c53] at H
                 cases H
               ·rw [if_neg c52] at H
                cases H
              ·rw [if_neg c51] at H
               have c51b0 : (((rd_T56 l0 x19_1).f0) == 2) = false := beq_eq_false_iff_ne.mpr c51
               have c51b1 : (((rd_T56 l0 x19_1).f0) != 2) = true := bne_iff_ne.mpr c51
               by_cases c58 : ((rd_T56 l0 x19_1).f0) = 3
               ·rw [if_pos c58] at H
                have c58b0 : (((rd_T56 l0 x19_1).f0) == 3) = true := beq_iff_eq.mpr c58
                have c58b1 : (((rd_T56 l0 x19_1).f0) != 3) = false := bne_eq_false_iff_eq.mpr c58
                clear c58
                obtain ⟨ji59, hji59⟩ : ∃ j_ : Int, (mx ((rd_T56 l0 x19_1).f2) 0) = j_ := ⟨_, rfl⟩
                replace H : (if 0 ≤ (mn (ji59) (x5_1.size : Int)) then (if (mn (ji59) (x5_1.size : Int)) ≤ (x5_1.size : Int) then (if x4_1.size + (x5_1.extract 0 ((mn (ji59) (x5_1.size : Int)) : Int).toNat).size ≤ 9223372036854775807 then (if x8_1.length < 3518437208883 then (impl_DiskRun.l0 kj26 (x4_1 ++ (x5_1.extract 0 ((mn (ji59) (x5_1.size : Int)) : Int).toNat)) (⟨#[]⟩ : ByteArray) x6_1 false (x8_1 ++ [(⟨0, 0, ([] : List (S45))⟩ : S54)]) l0 (l0.length : Int) (wrap64 (x19_1 + 1))) else (none)) else (none)) else (none)) else (none)) = some (r1, r2) := by first | (rw [hji59] at H; exact H) | (simp only [hji59] at H ⊢; exact H)
                have hji59_ : (if ((rd_T56 l0 x19_1).f2) < 0 then 0 else ((rd_T56 l0 x19_1).f2)) = ji59 := hji59
                obtain ⟨ji60, hji60⟩ : ∃ j_ : Int, (mn (ji59) (x5_1.size : Int)) = j_ := ⟨_, rfl⟩
                replace H : (if 0 ≤ (ji60) then (if (ji60) ≤ (x5_1.size : Int) then (if x4_1.size + (x5_1.extract 0 ((ji60) : Int).toNat).size ≤ 9223372036854775807 then (if x8_1.length < 3518437208883 then (impl_DiskRun.l0 kj26 (x4_1 ++ (x5_1.extract 0 ((ji60) : Int).toNat)) (⟨#[]⟩ : ByteArray) x6_1 false (x8_1 ++ [(⟨0, 0, ([] : List (S45))⟩ : S54)]) l0 (l0.length : Int) (wrap64 (x19_1 + 1))) else (none)) else (none)) else (none)) else (none)) = some (r1, r2) := by first | (rw [hji60] at H; exact H) | (simp only [hji60] at H ⊢; exact H)
                have hji60_ : (if (x5_1.size : Int) < (ji59) then (x5_1.size : Int) else (ji59)) = ji60 := hji60
                by_cases c61 : 0 ≤ (ji60)
                ·rw [if_pos c61] at H
                 have c61b0 := eq_true c61
                 have c61b1 : decide (0 ≤ (ji60)) = true := decide_eq_true c61
                 clear c61
                 by_cases c62 : (ji60) ≤ (x5_1.size : Int)
                 ·rw [if_pos c62] at H
                  have c62b0 := eq_true c62
                  have c62b1 : decide ((ji60) ≤ (x5_1.size : Int)) = true := decide_eq_true c62
                  clear c62
                  by_cases c63 : x4_1.size + (x5_1.extract 0 ((ji60) : Int).toNat).size ≤ 9223372036854775807
                  ·rw [if_pos c63] at H
                   have c63b0 := eq_true c63
                   try (have c63b0z := c63b0; simp only [ByteArray.size_extract, Nat.min_self] at c63b0z)
                   have c63b1 : decide (x4_1.size + (x5_1.extract 0 ((ji60) : Int).toNat).size ≤ 9223372036854775807) = true := decide_eq_true c63
                   try (have c63b1z := c63b1; simp only [ByteArray.size_extract, Nat.min_self] at c63b1z)
                   try have c63b2 : (9223372036854775807 < x4_1.size + (x5_1.extract 0 ((ji60) : Int).toNat).size) = False := eq_false (Nat.not_lt.2 c63)
                   try (have c63b3 := c63b2; simp only [ByteArray.size_append] at c63b3)
                   by_cases c64 : x8_1.length < 3518437208883
                   ·rw [if_pos c64] at H
                    have LMc64 := Aside0.mk c64
                    clear c64
                    obtain ⟨y818, hy818⟩ : ∃ y_ : List (S54), y_ = (x8_1 ++ [(⟨0, 0, ([] : List (S45))⟩ : S54)]) := ⟨_, rfl⟩
                    replace H : (impl_DiskRun.l0 kj26 (x4_1 ++ (x5_1.extract 0 ((ji60) : Int).toNat)) (⟨#[]⟩ : ByteArray) x6_1 false y818 l0 (l0.length : Int) (wrap64 (x19_1 + 1))) = some (r1, r2) := by first | (rw [hy818]; with_reducible exact H) | (have H2_ := (Option.bind_some _ _).symm.trans H; rw [hy818]; with_reducible exact H2_) | (have H2_ := (Option.bind_some _ _).symm.trans H; with_reducible exact H2_) | with_reducible exact H | (rw [hy818]; exact H) | exact H
                    have Ny818 := Aside0.mk hy818
                    clear hy818
                    have H' := Aside0.mk H
                    clear H
                    have hnb65 := NB799_800.out
                    have hnc65 := NB800_799.out
                    have hcz66_0 : wc.cell? ⟨gb799, 0, none⟩ = some (.int .i64 ((rd_T56 l0 x19_1).f0)) := (blk_cell BK799.out 0).trans rfl
                    have hcz66_1 : wc.cell? ⟨gb799, 1, none⟩ = some (.int .i64 ((rd_T56 l0 x19_1).f1.f0)) := (blk_cell BK799.out 1).trans rfl
                    have hcz66_2 : wc.cell? ⟨gb799, 2, none⟩ = some (.string ((rd_T56 l0 x19_1).f1.f1)) := (blk_cell BK799.out 2).trans rfl
                    have hcz66_3 : wc.cell? ⟨gb799, 3, none⟩ = some (.int .i64 ((rd_T56 l0 x19_1).f2)) := (blk_cell BK799.out 3).trans rfl
                    have hfz66_0 := blk_frozen BK799.out 0
                    have hfz66_1 := blk_frozen BK799.out 1
                    have hfz66_2 := blk_frozen BK799.out 2
                    have hfz66_3 := blk_frozen BK799.out 3
                    have hcz67_0 : wc.cell? ⟨gb800, 0, none⟩ = some (.int .i64 0) := (blk_cell BK800.out 0).trans rfl
                    have hcz67_1 : wc.cell? ⟨gb800, 1, none⟩ = some (.int .i64 0) := (blk_cell BK800.out 1).trans rfl
                    have hcz67_2 : wc.cell? ⟨gb800, 2, none⟩ = some (.slice none 0 0) := (blk_cell BK800.out 2).trans rfl
                    have hfz67_0 := blk_frozen BK800.out 0
                    have hfz67_1 := blk_frozen BK800.out 1
                    have hfz67_2 := blk_frozen BK800.out 2
                    go_wp2_with (first | ((with_reducible refine gate_builtin (b := .append) (xs := #[.tmp 109, .tmp 111]) rfl ?_); at_builtin; refine Kd.S_append k54 (w0 := w) w.heap.size rfl (.tmp 109) (.tmp 111) 50 54 (.agg #[(.int .i64 0), (.int .i64 0), (.slice none 0 0)]) 40 rfl Try.underlying50 info54 rfl (by decide) (by omega) u8 x8_1 (⟨0, 0, ([] : List (S45))⟩ : S54) [.int .i64 0, .int .i64 0, .slice none 0 0] (fun k_ => k_ ≠ gb800) (fun _ => False) rfl rfl ?aP (fun k_ hk_ => hk_.elim) ?aF ?aO ?aB ?aS ?aL ?_; (case aP => exact k54_mkM _ _ _ (⟨0, 0, ([] : List (S45))⟩ : S54) (Kd.R_nil _ _ _ _ _)); (case aB => exact (by repeat (first | (with_reducible first | exact HB.out | apply below_alloc | apply pw_below_drewN | apply below_drew1 | refine below_set ?_ GE799.out | refine below_set ?_ GE800.out) | exact HB.out))); (case aF => exact (fun k_ hk => Kd.freshB (g := gb800) (o := .cells #[.int .i64 0, .int .i64 0, .slice none 0 0] 54 (0, 0)) (zk BK800.out) k_ hk)); (case aO => exact (by (with_reducible repeat (first | apply Kd.S_alloc | apply Kd.S_drewN | apply Kd.S_drew)); exact Kd.S_mono HO_8.out (fun k_ hk => ⟨hk, fun e_ => e_⟩))); (case aS => exact (below_size (by repeat (first | (with_reducible first | exact HB.out | apply below_alloc | apply pw_below_drewN | apply below_drew1 | refine below_set ?_ GE799.out | refine below_set ?_ GE800.out) | exact HB.out)))); (case aL => have := LMc64.out; omega); intro v819 w68 ho hb hg hat; rw [← Ny818.out] at ho; have n0_ := Aside0.mk (blk_grown (g := gb799) (o := .cells #[.int .i64 ((rd_T56 l0 x19_1).f0), .int .i64 ((rd_T56 l0 x19_1).f1.f0), .string ((rd_T56 l0 x19_1).f1.f1), .int .i64 ((rd_T56 l0 x19_1).f2)] 56 (0, 0)) (zk BK799.out) hg (Kd.S_ne HO_8.out BK799.out (by decide))); have n1_ := Aside0.mk (blk_grown (g := gb800) (o := .cells #[.int .i64 0, .int .i64 0, .slice none 0 0] 54 (0, 0)) (zk BK800.out) hg (Kd.S_away HO_8.out (fun _ hk => hk))); have n2_ := Aside0.mk (hb); have n3_ := Aside0.mk (ho); clear BK799; clear BK800; clear HB; clear HO_8; have BK799 := n0_; have BK800 := n1_; have HB := n2_; have HO820 := n3_; clear n0_ n1_ n2_ n3_; clear ho hb hg hat))
                    go_roundg kj26
                    case measure => have := HK1.out; have := HJ5.out; have := HJ26.out; omega
                    case rel => exact ⟨(x4_1 ++ (x5_1.extract 0 ((ji60) : Int).toNat)), ((⟨#[]⟩ : ByteArray)), (x6_1), (false), (y818), (wrap64 (x19_1 + 1)), (by first | rfl | (simp; done) | (simp only [← hji60] <;> (first | rfl | (simp [ne_nil_b]; done) | simp)) | (simp [*]; done)), (by first | rfl | (simp; done) | (simp [*]; done)), (by first | rfl | (simp; done) | (simp [*]; done)), (by first | rfl | (simp; done) | (simp [*]; done)), (by first | rfl | (simp; done) | (simp [*]; done)), H', ⟨by have := HK1.out; have := HJ5.out; have := HJ26.out; omega⟩, ⟨by (with_reducible repeat (first | apply Kd.S_alloc | apply Kd.S_drewN | apply Kd.S_drew)); exact Kd.S_mono HO820.out (fun _ hk => trivial)⟩, ⟨by repeat (first | (with_reducible first | exact HB.out | apply below_alloc | apply pw_below_drewN | apply below_drew1 | refine below_set ?_ GE799.out | refine below_set ?_ GE800.out) | exact HB.out)⟩⟩
                   ·rw [if_neg c64] at H
                    cases H
                  ·rw [if_neg c63] at H
                   cases H
                 ·rw [if_neg c62] at H
                  cases H
                ·rw [if_neg c61] at H
                 cases H
               ·rw [if_neg c58] at H
                have c58b0 : (((rd_T56 l0 x19_1).f0) == 3) = false := beq_eq_false_iff_ne.mpr c58
                have c58b1 : (((rd_T56 l0 x19_1).f0) != 3) = true := bne_iff_ne.mpr c58
                by_cases c69 : ((rd_T56 l0 x19_1).f0) = 4
                ·rw [if_pos c69] at H
                 have c69b0 : (((rd_T56 l0 x19_1).f0) == 4) = true := beq_iff_eq.mpr c69
                 have c69b1 : (((rd_T56 l0 x19_1).f0) != 4) = false := bne_eq_false_iff_eq.mpr c69
                 clear c69
                 replace H := Option.bind_eq_some_iff.mp H
                 obtain ⟨⟨t821, t822⟩, A700, H⟩ := H
                 replace H : (if 0 ≤ t822 then (if t822 ≤ (x4_1.size : Int) then (if x8_1.length < 3518437208883 then (impl_DiskRun.l0 kj26 (x4_1.extract 0 (t822 : Int).toNat) (⟨#[]⟩ : ByteArray) (t821.length : Int) true (x8_1 ++ [(⟨0, (t821.length : Int), t821⟩ : S54)]) l0 (l0.length : Int) (wrap64 (x19_1 + 1))) else (none)) else (none)) else (none)) = some (r1, r2) := H
                 have A70 := Aside0.mk A700
                 clear A700
                 by_cases c71 : 0 ≤ t822
                 ·rw [if_pos c71] at H
                  have c71b0 := eq_true c71
                  have c71b1 : decide (0 ≤ t822) = true := decide_eq_true c71
                  clear c71
                  by_cases c72 : t822 ≤ (x4_1.size : Int)
                  ·rw [if_pos c72] at H
                   have c72b0 := eq_true c72
                   have c72b1 : decide (t822 ≤ (x4_1.size : Int)) = true := decide_eq_true c72
                   clear c72
                   by_cases c73 : x8_1.length < 3518437208883
                   ·rw [if_pos c73] at H
                    have LMc73 := Aside0.mk c73
                    clear c73
                    obtain ⟨y825, hy825⟩ : ∃ y_ : List (S54), y_ = (x8_1 ++ [(⟨0, (t821.length : Int), t821⟩ : S54)]) := ⟨_, rfl⟩
                    replace H : (impl_DiskRun.l0 kj26 (x4_1.extract 0 (t822 : Int).toNat) (⟨#[]⟩ : ByteArray) (t821.length : Int) true y825 l0 (l0.length : Int) (wrap64 (x19_1 + 1))) = some (r1, r2) := by first | (rw [hy825]; with_reducible exact H) | (have H2_ := (Option.bind_some _ _).symm.trans H; rw [hy825]; with_reducible exact H2_) | (have H2_ := (Option.bind_some _ _).symm.trans H; with_reducible exact H2_) | with_reducible exact H | (rw [hy825]; exact H) | exact H
                    have Ny825 := Aside0.mk hy825
                    clear hy825
                    have H' := Aside0.mk H
                    clear H
                    have hnb74 := NB799_800.out
                    have hnc74 := NB800_799.out
                    have hcz75_0 : wc.cell? ⟨gb799, 0, none⟩ = some (.int .i64 ((rd_T56 l0 x19_1).f0)) := (blk_cell BK799.out 0).trans rfl
                    have hcz75_1 : wc.cell? ⟨gb799, 1, none⟩ = some (.int .i64 ((rd_T56 l0 x19_1).f1.f0)) := (blk_cell BK799.out 1).trans rfl
                    have hcz75_2 : wc.cell? ⟨gb799, 2, none⟩ = some (.string ((rd_T56 l0 x19_1).f1.f1)) := (blk_cell BK799.out 2).trans rfl
                    have hcz75_3 : wc.cell? ⟨gb799, 3, none⟩ = some (.int .i64 ((rd_T56 l0 x19_1).f2)) := (blk_cell BK799.out 3).trans rfl
                    have hfz75_0 := blk_frozen BK799.out 0
                    have hfz75_1 := blk_frozen BK799.out 1
                    have hfz75_2 := blk_frozen BK799.out 2
                    have hfz75_3 := blk_frozen BK799.out 3
                    go_wp2_with (first | ((with_reducible refine gate_callee (f := 23) rfl ?_); refine goesL_ (some 97) rfl rfl Try.func23 (by kernel_rfl) rfl #[.string x4_1, .int .i64 0] rfl zm ?_; (with_reducible refine (impl_LogScan.calls kj26 x4_1 0 t821 t822 _ A70.out).mono ?_); rintro e w76 ⟨v823, rfl, ho0, hb⟩; refine ⟨_, rfl, ?_⟩; have n0_ := Aside0.mk (Kd.S_elder' (by (with_reducible repeat (first | apply Kd.S_alloc | apply Kd.S_drewN | apply Kd.S_drew)); exact HO_8.out) (Kd.R_base ho0) hb); have n1_ := Aside0.mk (Kd.R_lower ho0 (below_size (by repeat (first | (with_reducible first | exact HB.out | apply below_alloc | apply pw_below_drewN | apply below_drew1 | refine below_set ?_ GE799.out | refine below_set ?_ GE800.out) | exact HB.out)))); have n2_ := Aside0.mk (blk_below (g := gb799) (o := .cells #[.int .i64 ((rd_T56 l0 x19_1).f0), .int .i64 ((rd_T56 l0 x19_1).f1.f0), .string ((rd_T56 l0 x19_1).f1.f1), .int .i64 ((rd_T56 l0 x19_1).f2)] 56 (0, 0)) (zk BK799.out) hb); have n3_ := Aside0.mk (blk_below (zk BK800.out) hb); have n4_ := Aside0.mk (below_step (by repeat (first | (with_reducible first | exact HB.out | apply below_alloc | apply pw_below_drewN | apply below_drew1 | refine below_set ?_ GE799.out | refine below_set ?_ GE800.out) | exact HB.out)) hb); clear HO_8; clear BK799; clear BK800; clear HB; have HO_8 := n0_; have HO824 := n1_; have BK799 := n2_; have BK800 := n3_; have HB := n4_; clear n0_ n1_ n2_ n3_ n4_; (try clear hb); (try clear hb2); (try clear hk); (try clear hi); (try clear ho0); obtain ⟨Ao77, co77, eo77⟩ := Kd.R_slice HO824.out; subst eo77; have hcz78_0 : w76.cell? ⟨gb800, 0, none⟩ = some (.int .i64 0) := (blk_cell BK800.out 0).trans rfl; have hcz78_1 : w76.cell? ⟨gb800, 1, none⟩ = some (.int .i64 0) := (blk_cell BK800.out 1).trans rfl; have hcz78_2 : w76.cell? ⟨gb800, 2, none⟩ = some (.slice none 0 0) := (blk_cell BK800.out 2).trans rfl; have hfz78_0 := blk_frozen BK800.out 0; have hfz78_1 := blk_frozen BK800.out 1; have hfz78_2 := blk_frozen BK800.out 2) | ((with_reducible refine gate_store (t := 3) (p := 107) rfl ?_); refine store_event (t := 3) (p := 107) (v := ?vo_w79) (w1 := (w76.setCell ⟨gb800, 1, none⟩ (.int .i64 (t821.length : Int)))) ?hg ?ho ?hn ?hr ?_; (case ho => rfl); (case hg => rfl); (case hn => rfl); (case hr => first | (go_simp; done) | (go_simp; rfl)); intro w79 hw; have n0_ : Aside0 (Kd.S k54 54 w79 w.heap.size (fun k_ => some k_ ≠ (.slice Ao77 t821.length co77 : Value).ownBlock ∧ k_ ≠ gb800) u8 x8_1) := ⟨(by rw [hw]; exact (by (with_reducible repeat (first | apply Kd.S_alloc | apply Kd.S_drewN | apply Kd.S_drew)); exact Kd.S_mono (Kd.S_far (p := ⟨gb800, 1, none⟩) (Kd.S_mono HO_8.out (fun k_ hk => (⟨hk, hk.1⟩ : _ ∧ k_ ≠ gb800))) (fun _ hk => hk.2) (.int .i64 (t821.length : Int))) (fun _ hk => ⟨hk.1.2, hk.1.1⟩)))⟩; have n1_ : Aside0 (Kd.R k45 45 w79 w.heap.size (fun _ => True) (.slice Ao77 t821.length co77) t821) := ⟨(by rw [hw]; exact (by (with_reducible repeat (first | apply Kd.R_alloc | apply Kd.R_drewN | apply Kd.R_drew)); exact Kd.R_mono (Kd.R_far (p := ⟨gb800, 1, none⟩) (Kd.R_types HO824.out BK800.out (by decide)) (fun _ hk => hk.2) (.int .i64 (t821.length : Int))) (fun _ hk => trivial)))⟩; have n2_ : Aside0 (w79.heap[gb799]? = some (.cells #[.int .i64 ((rd_T56 l0 x19_1).f0), .int .i64 ((rd_T56 l0 x19_1).f1.f0), .string ((rd_T56 l0 x19_1).f1.f1), .int .i64 ((rd_T56 l0 x19_1).f2)] 56 (0, 0))) := ⟨(by rw [hw]; exact (by (with_reducible repeat (first | refine blk_drewN ?_ _ | refine blk_drew ?_ | refine blk_alloc ?_ _)); refine blk_far ?_ NB799_800.out _; (with_reducible repeat (first | refine blk_drewN ?_ _ | refine blk_drew ?_ | refine blk_alloc ?_ _)); exact BK799.out))⟩; have n3_ : Aside0 (w79.heap[gb800]? = some (.cells #[.int .i64 0, .int .i64 (t821.length : Int), .slice none 0 0] 54 (0, 0))) := ⟨(by rw [hw]; exact (by (with_reducible repeat (first | refine blk_drewN ?_ _ | refine blk_drew ?_ | refine blk_alloc ?_ _)); refine blk_put (cs := #[.int .i64 0, .int .i64 0, .slice none 0 0]) ?_ 1 _ rfl; (with_reducible repeat (first | refine blk_drewN ?_ _ | refine blk_drew ?_ | refine blk_alloc ?_ _)); exact BK800.out))⟩; have n4_ : Aside0 (Below w.heap.size w w79) := ⟨(by rw [hw]; exact (by repeat (first | (with_reducible first | exact HB.out | apply below_alloc | apply pw_below_drewN | apply below_drew1 | refine below_set ?_ GE799.out | refine below_set ?_ GE800.out) | exact HB.out)))⟩; clear hw; clear HO_8; clear HO824; clear BK799; clear BK800; clear HB; have HO_8 := n0_; have HO824 := n1_; have BK799 := n2_; have BK800 := n3_; have HB := n4_; clear n0_ n1_ n2_ n3_ n4_; have hcz80_0 : w79.cell? ⟨gb800, 0, none⟩ = some (.int .i64 0) := (blk_cell BK800.out 0).trans rfl; have hcz80_1 : w79.cell? ⟨gb800, 1, none⟩ = some (.int .i64 (t821.length : Int)) := (blk_cell BK800.out 1).trans rfl; have hcz80_2 : w79.cell? ⟨gb800, 2, none⟩ = some (.slice none 0 0) := (blk_cell BK800.out 2).trans rfl; have hfz80_0 := blk_frozen BK800.out 0; have hfz80_1 := blk_frozen BK800.out 1; have hfz80_2 := blk_frozen BK800.out 2) | ((with_reducible refine gate_store (t := 33) (p := 108) rfl ?_); refine store_event (t := 33) (p := 108) (v := ?vo_w81) (w1 := (w79.setCell ⟨gb800, 2, none⟩ (.slice Ao77 t821.length co77))) ?hg ?ho ?hn ?hr ?_; (case ho => rfl); (case hg => rfl); (case hn => rfl); (case hr => first | (go_simp; done) | (go_simp; rfl)); intro w81 hw; have n0_ : Aside0 (Kd.S k54 54 w81 w.heap.size (fun k_ => some k_ ≠ (.slice Ao77 t821.length co77 : Value).ownBlock ∧ k_ ≠ gb800) u8 x8_1) := ⟨(by rw [hw]; exact (by (with_reducible repeat (first | apply Kd.S_alloc | apply Kd.S_drewN | apply Kd.S_drew)); exact Kd.S_mono (Kd.S_far (p := ⟨gb800, 2, none⟩) (Kd.S_mono HO_8.out (fun k_ hk => (⟨hk, hk.2⟩ : _ ∧ k_ ≠ gb800))) (fun _ hk => hk.2) (.slice Ao77 t821.length co77)) (fun _ hk => ⟨hk.1.1, hk.1.2⟩)))⟩; have n1_ : Aside0 (Kd.R k45 45 w81 w.heap.size (fun _ => True) (.slice Ao77 t821.length co77) t821) := ⟨(by rw [hw]; exact (by (with_reducible repeat (first | apply Kd.R_alloc | apply Kd.R_drewN | apply Kd.R_drew)); exact Kd.R_mono (Kd.R_far (p := ⟨gb800, 2, none⟩) (Kd.R_types HO824.out BK800.out (by decide)) (fun _ hk => hk.2) (.slice Ao77 t821.length co77)) (fun _ hk => trivial)))⟩; have n2_ : Aside0 (w81.heap[gb799]? = some (.cells #[.int .i64 ((rd_T56 l0 x19_1).f0), .int .i64 ((rd_T56 l0 x19_1).f1.f0), .string ((rd_T56 l0 x19_1).f1.f1), .int .i64 ((rd_T56 l0 x19_1).f2)] 56 (0, 0))) := ⟨(by rw [hw]; exact (by (with_reducible repeat (first | refine blk_drewN ?_ _ | refine blk_drew ?_ | refine blk_alloc ?_ _)); refine blk_far ?_ NB799_800.out _; (with_reducible repeat (first | refine blk_drewN ?_ _ | refine blk_drew ?_ | refine blk_alloc ?_ _)); exact BK799.out))⟩; have n3_ : Aside0 (w81.heap[gb800]? = some (.cells #[.int .i64 0, .int .i64 (t821.length : Int), .slice Ao77 t821.length co77] 54 (0, 0))) := ⟨(by rw [hw]; exact (by (with_reducible repeat (first | refine blk_drewN ?_ _ | refine blk_drew ?_ | refine blk_alloc ?_ _)); refine blk_put (cs := #[.int .i64 0, .int .i64 (t821.length : Int), .slice none 0 0]) ?_ 2 _ rfl; (with_reducible repeat (first | refine blk_drewN ?_ _ | refine blk_drew ?_ | refine blk_alloc ?_ _)); exact BK800.out))⟩; have n4_ : Aside0 (Below w.heap.size w w81) := ⟨(by rw [hw]; exact (by repeat (first | (with_reducible first | exact HB.out | apply below_alloc | apply pw_below_drewN | apply below_drew1 | refine below_set ?_ GE799.out | refine below_set ?_ GE800.out) | exact HB.out)))⟩; clear hw; clear HO_8; clear HO824; clear BK799; clear BK800; clear HB; have HO_8 := n0_; have HO824 := n1_; have BK799 := n2_; have BK800 := n3_; have HB := n4_; clear n0_ n1_ n2_ n3_ n4_; have hcz82_0 : w81.cell? ⟨gb800, 0, none⟩ = some (.int .i64 0) := (blk_cell BK800.out 0).trans rfl; have hcz82_1 : w81.cell? ⟨gb800, 1, none⟩ = some (.int .i64 (t821.length : Int)) := (blk_cell BK800.out 1).trans rfl; have hcz82_2 : w81.cell? ⟨gb800, 2, none⟩ = some (.slice Ao77 t821.length co77) := (blk_cell BK800.out 2).trans rfl; have hfz82_0 := blk_frozen BK800.out 0; have hfz82_1 := blk_frozen BK800.out 1; have hfz82_2 := blk_frozen BK800.out 2) | ((with_reducible refine gate_builtin (b := .append) (xs := #[.tmp 109, .tmp 111]) rfl ?_); at_builtin; refine Kd.S_append k54 (w0 := w) w.heap.size rfl (.tmp 109) (.tmp 111) 50 54 (.agg #[(.int .i64 0), (.int .i64 0), (.slice none 0 0)]) 40 rfl Try.underlying50 info54 rfl (by decide) (by omega) u8 x8_1 (⟨0, (t821.length : Int), t821⟩ : S54) [.int .i64 0, .int .i64 (t821.length : Int), .slice Ao77 t821.length co77] (fun k_ => k_ ≠ gb800) (fun k_ => some k_ = (.slice Ao77 t821.length co77 : Value).ownBlock) rfl rfl ?aP (fun k_ hk_ => ((Kd.R_mono (ok' := fun k_ => ((fun k_ => k_ ≠ gb800)) k_ ∧ some k_ ≠ (u8 : Value).ownBlock) (Kd.R_types (Kd.R_apart' (HO824.out) (Kd.S_typed HO_8.out) (by decide)) BK800.out (by decide)) (fun k_ hk => ⟨hk.2, hk.1.2⟩))).1 k_ hk_.symm) ?aF ?aO ?aB ?aS ?aL ?_; (case aP => exact k54_mkM _ _ _ (⟨0, (t821.length : Int), t821⟩ : S54) (Kd.R_mono (Kd.R_tight rfl (Kd.R_mono (ok' := fun k_ => ((fun k_ => k_ ≠ gb800)) k_ ∧ some k_ ≠ (u8 : Value).ownBlock) (Kd.R_types (Kd.R_apart' (HO824.out) (Kd.S_typed HO_8.out) (by decide)) BK800.out (by decide)) (fun k_ hk => ⟨hk.2, hk.1.2⟩))) (fun _ h_ => h_))); (case aB => exact (by repeat (first | (with_reducible first | exact HB.out | apply below_alloc | apply pw_below_drewN | apply below_drew1 | refine below_set ?_ GE799.out | refine below_set ?_ GE800.out) | exact HB.out))); (case aF => exact (fun k_ hk => Kd.freshB (g := gb800) (o := .cells #[.int .i64 0, .int .i64 (t821.length : Int), .slice Ao77 t821.length co77] 54 (0, 0)) (zk BK800.out) k_ hk)); (case aO => exact (by (with_reducible repeat (first | apply Kd.S_alloc | apply Kd.S_drewN | apply Kd.S_drew)); exact Kd.S_mono HO_8.out (fun k_ hk => ⟨hk.2, fun e_ => hk.1 e_⟩))); (case aS => exact (below_size (by repeat (first | (with_reducible first | exact HB.out | apply below_alloc | apply pw_below_drewN | apply below_drew1 | refine below_set ?_ GE799.out | refine below_set ?_ GE800.out) | exact HB.out)))); (case aL => have := LMc73.out; omega); intro v826 w83 ho hb hg hat; rw [← Ny825.out] at ho; have n0_ := Aside0.mk (blk_grown (g := gb799) (o := .cells #[.int .i64 ((rd_T56 l0 x19_1).f0), .int .i64 ((rd_T56 l0 x19_1).f1.f0), .string ((rd_T56 l0 x19_1).f1.f1), .int .i64 ((rd_T56 l0 x19_1).f2)] 56 (0, 0)) (zk BK799.out) hg (Kd.S_ne HO_8.out BK799.out (by decide))); have n1_ := Aside0.mk (blk_grown (g := gb800) (o := .cells #[.int .i64 0, .int .i64 (t821.length : Int), .slice Ao77 t821.length co77] 54 (0, 0)) (zk BK800.out) hg (Kd.S_away HO_8.out (fun _ hk => hk.2))); have n2_ := Aside0.mk (hb); have n3_ := Aside0.mk (ho); clear BK799; clear BK800; clear HB; clear HO_8; clear HO824; have BK799 := n0_; have BK800 := n1_; have HB := n2_; have HO827 := n3_; clear n0_ n1_ n2_ n3_; clear ho hb hg hat))
                    go_roundg kj26
                    case measure => have := HK1.out; have := HJ5.out; have := HJ26.out; omega
                    case rel => exact ⟨(x4_1.extract 0 (t822 : Int).toNat), ((⟨#[]⟩ : ByteArray)), ((t821.length : Int)), (true), (y825), (wrap64 (x19_1 + 1)), (by first | rfl | (simp; done) | (simp [*]; done)), (by first | rfl | (simp; done) | (simp [*]; done)), (by first | rfl | (simp; done) | (simp [*]; done)), (by first | rfl | (simp; done) | (simp [*]; done)), (by first | rfl | (simp; done) | (simp [*]; done)), H', ⟨by have := HK1.out; have := HJ5.out; have := HJ26.out; omega⟩, ⟨by (with_reducible repeat (first | apply Kd.S_alloc | apply Kd.S_drewN | apply Kd.S_drew)); exact Kd.S_mono HO827.out (fun _ hk => trivial)⟩, ⟨by repeat (first | (with_reducible first | exact HB.out | apply below_alloc | apply pw_below_drewN | apply below_drew1 | refine below_set ?_ GE799.out | refine below_set ?_ GE800.out) | exact HB.out)⟩⟩
                   ·rw [if_neg c73] at H
                    cases H
                  ·rw [if_neg c72] at H
                   cases H
                 ·rw [if_neg c71] at H
                  cases H
                ·rw [if_neg c69] at H
                 have c69b0 : (((rd_T56 l0 x19_1).f0) == 4) = false := beq_eq_false_iff_ne.mpr c69
                 have c69b1 : (((rd_T56 l0 x19_1).f0) != 4) = true := bne_iff_ne.mpr c69
                 by_cases c84 : x8_1.length < 3518437208883
                 ·rw [if_pos c84] at H
                  have LMc84 := Aside0.mk c84
                  clear c84
                  obtain ⟨y828, hy828⟩ : ∃ y_ : List (S54), y_ = (x8_1 ++ [(⟨0, 0, ([] : List (S45))⟩ : S54)]) := ⟨_, rfl⟩
                  replace H : (impl_DiskRun.l0 kj26 x4_1 x5_1 x6_1 x7_1 y828 l0 (l0.length : Int) (wrap64 (x19_1 + 1))) = some (r1, r2) := by first | (rw [hy828]; with_reducible exact H) | (have H2_ := (Option.bind_some _ _).symm.trans H; rw [hy828]; with_reducible exact H2_) | (have H2_ := (Option.bind_some _ _).symm.trans H; with_reducible exact H2_) | with_reducible exact H | (rw [hy828]; exact H) | exact H
                  have Ny828 := Aside0.mk hy828
                  clear hy828
                  have H' := Aside0.mk H
                  clear H
                  have hnb85 := NB799_800.out
                  have hnc85 := NB800_799.out
                  have hcz86_0 : wc.cell? ⟨gb799, 0, none⟩ = some (.int .i64 ((rd_T56 l0 x19_1).f0)) := (blk_cell BK799.out 0).trans rfl
                  have hcz86_1 : wc.cell? ⟨gb799, 1, none⟩ = some (.int .i64 ((rd_T56 l0 x19_1).f1.f0)) := (blk_cell BK799.out 1).trans rfl
                  have hcz86_2 : wc.cell? ⟨gb799, 2, none⟩ = some (.string ((rd_T56 l0 x19_1).f1.f1)) := (blk_cell BK799.out 2).trans rfl
                  have hcz86_3 : wc.cell? ⟨gb799, 3, none⟩ = some (.int .i64 ((rd_T56 l0 x19_1).f2)) := (blk_cell BK799.out 3).trans rfl
                  have hfz86_0 := blk_frozen BK799.out 0
                  have hfz86_1 := blk_frozen BK799.out 1
                  have hfz86_2 := blk_frozen BK799.out 2
                  have hfz86_3 := blk_frozen BK799.out 3
                  have hcz87_0 : wc.cell? ⟨gb800, 0, none⟩ = some (.int .i64 0) := (blk_cell BK800.out 0).trans rfl
                  have hcz87_1 : wc.cell? ⟨gb800, 1, none⟩ = some (.int .i64 0) := (blk_cell BK800.out 1).trans rfl
                  have hcz87_2 : wc.cell? ⟨gb800, 2, none⟩ = some (.slice none 0 0) := (blk_cell BK800.out 2).trans rfl
                  have hfz87_0 := blk_frozen BK800.out 0
                  have hfz87_1 := blk_frozen BK800.out 1
                  have hfz87_2 := blk_frozen BK800.out 2
                  go_wp2_with (first | ((with_reducible refine gate_builtin (b := .append) (xs := #[.tmp 109, .tmp 111]) rfl ?_); at_builtin; refine Kd.S_append k54 (w0 := w) w.heap.size rfl (.tmp 109) (.tmp 111) 50 54 (.agg #[(.int .i64 0), (.int .i64 0), (.slice none 0 0)]) 40 rfl Try.underlying50 info54 rfl (by decide) (by omega) u8 x8_1 (⟨0, 0, ([] : List (S45))⟩ : S54) [.int .i64 0, .int .i64 0, .slice none 0 0] (fun k_ => k_ ≠ gb800) (fun _ => False) rfl rfl ?aP (fun k_ hk_ => hk_.elim) ?aF ?aO ?aB ?aS ?aL ?_; (case aP => exact k54_mkM _ _ _ (⟨0, 0, ([] : List (S45))⟩ : S54) (Kd.R_nil _ _ _ _ _)); (case aB => exact (by repeat (first | (with_reducible first | exact HB.out | apply below_alloc | apply pw_below_drewN | apply below_drew1 | refine below_set ?_ GE799.out | refine below_set ?_ GE800.out) | exact HB.out))); (case aF => exact (fun k_ hk => Kd.freshB (g := gb800) (o := .cells #[.int .i64 0, .int .i64 0, .slice none 0 0] 54 (0, 0)) (zk BK800.out) k_ hk)); (case aO => exact (by (with_reducible repeat (first | apply Kd.S_alloc | apply Kd.S_drewN | apply Kd.S_drew)); exact Kd.S_mono HO_8.out (fun k_ hk => ⟨hk, fun e_ => e_⟩))); (case aS => exact (below_size (by repeat (first | (with_reducible first | exact HB.out | apply below_alloc | apply pw_below_drewN | apply below_drew1 | refine below_set ?_ GE799.out | refine below_set ?_ GE800.out) | exact HB.out)))); (case aL => have := LMc84.out; omega); intro v829 w88 ho hb hg hat; rw [← Ny828.out] at ho; have n0_ := Aside0.mk (blk_grown (g := gb799) (o := .cells #[.int .i64 ((rd_T56 l0 x19_1).f0), .int .i64 ((rd_T56 l0 x19_1).f1.f0), .string ((rd_T56 l0 x19_1).f1.f1), .int .i64 ((rd_T56 l0 x19_1).f2)] 56 (0, 0)) (zk BK799.out) hg (Kd.S_ne HO_8.out BK799.out (by decide))); have n1_ := Aside0.mk (blk_grown (g := gb800) (o := .cells #[.int .i64 0, .int .i64 0, .slice none 0 0] 54 (0, 0)) (zk BK800.out) hg (Kd.S_away HO_8.out (fun _ hk => hk))); have n2_ := Aside0.mk (hb); have n3_ := Aside0.mk (ho); clear BK799; clear BK800; clear HB; clear HO_8; have BK799 := n0_; have BK800 := n1_; have HB := n2_; have HO830 := n3_; clear n0_ n1_ n2_ n3_; clear ho hb hg hat))
                  go_roundg kj26
                  case measure => have := HK1.out; have := HJ5.out; have := HJ26.out; omega
                  case rel => exact ⟨(x4_1), (x5_1), (x6_1), (x7_1), (y828), (wrap64 (x19_1 + 1)), (by first | rfl | (simp; done) | (simp [*]; done)), (by first | rfl | (simp; done) | (simp [*]; done)), (by first | rfl | (simp; done) | (simp [*]; done)), (by first | rfl | (simp; done) | (simp [*]; done)), (by first | rfl | (simp; done) | (simp [*]; done)), H', ⟨by have := HK1.out; have := HJ5.out; have := HJ26.out; omega⟩, ⟨by (with_reducible repeat (first | apply Kd.S_alloc | apply Kd.S_drewN | apply Kd.S_drew)); exact Kd.S_mono HO830.out (fun _ hk => trivial)⟩, ⟨by repeat (first | (with_reducible first | exact HB.out | apply below_alloc | apply pw_below_drewN | apply below_drew1 | refine below_set ?_ GE799.out | refine below_set ?_ GE800.out) | exact HB.out)⟩⟩
                 ·rw [if_neg c84] at H
                  cases H
      ·rw [if_neg c5] at H
       cases H
     ·rw [if_neg c4] at H
      cases H
    ·rw [if_neg c3] at H
     have c3b0 : decide (x19_1 < (l0.length : Int)) = false := decide_eq_false c3
     clear c3
     simp only [Option.some.injEq, Prod.mk.injEq] at H
     obtain ⟨rfl, rfl⟩ := H
     go_wp2
     go_ret2
     exact ⟨_, by first | rfl | (simp [errW_none, errW_some] <;> rfl) | (simp [*, errW_none, errW_some] <;> rfl), by (with_reducible repeat (first | apply Kd.S_alloc | apply Kd.S_drewN | apply Kd.S_drew)); exact HO_8.out, zb⟩

end Go.Proofs.Ytnicllekmkkhlaa.QFnDiskSafe
