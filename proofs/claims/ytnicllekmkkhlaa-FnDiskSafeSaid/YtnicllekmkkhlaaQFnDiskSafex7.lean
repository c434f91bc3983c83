/- The functions that the law reaches, each as a plain Lean function with the proof that the Go code comes to its answers: written by a program of this session. No condition. -/
import Derived.Test.YtnicllekmkkhlaaQFnDiskSafex0
import Derived.Test.YtnicllekmkkhlaaQFnDiskSafex3
import Derived.Test.YtnicllekmkkhlaaQFnDiskSafex4
import Derived.Test.YtnicllekmkkhlaaQFnDiskSafex6
namespace Go.Proofs.Ytnicllekmkkhlaa.QFnDiskSafe
open Go.RowKit Go.Proofs.YtnicllekmkkhlaaW.PrintWords Go.Proofs.YtnicllekmkkhlaaW.PrintLast Go.Proofs.YtnicllekmkkhlaaW.PrintMore
attribute [local go_sem] max2_int min2_int max_two min_two max_three min_three max_four min_four str_gtr str_leq str_geq pw_at_slice   -- for this text's walks alone
set_option linter.unusedVariables false
set_option linter.unusedSimpArgs false

/-! ### spec_DiskRun: function 25 -/
set_option maxRecDepth 100000 in
mutual
def spec_DiskRun.l0 : Nat → List (S56) → List (S54) → ByteArray → ByteArray → Int → Bool → Int → Option ((List (S54)) × Int)
 | 0, _, _, _, _, _, _, _ => none
 | k + 1, x0, x4, x5, x6, x7, x8, x9 => if x9 < (x0.length : Int) then (if 0 ≤ x9 then (if ((rd_T56 x0 x9).f0) < 1 then (spec_DiskRun.j1 k x0 x4 x5 x6 x7 x8 x9 true ((rd_T56 x0 x9).f0) ((rd_T56 x0 x9).f1.f0) ((rd_T56 x0 x9).f1.f1) ((rd_T56 x0 x9).f2) 0 0) else (if ((rd_T56 x0 x9).f0) > 4 then (spec_DiskRun.j1 k x0 x4 x5 x6 x7 x8 x9 true ((rd_T56 x0 x9).f0) ((rd_T56 x0 x9).f1.f0) ((rd_T56 x0 x9).f1.f1) ((rd_T56 x0 x9).f2) 0 0) else (if ((rd_T56 x0 x9).f0) = 1 then ((spec_l04RecOK.f ((rd_T56 x0 x9).f1.f0) ((rd_T56 x0 x9).f1.f1)).bind fun t740 => (spec_DiskRun.j1 k x0 x4 x5 x6 x7 x8 x9 (!t740) ((rd_T56 x0 x9).f0) ((rd_T56 x0 x9).f1.f0) ((rd_T56 x0 x9).f1.f1) ((rd_T56 x0 x9).f2) 0 0)) else (spec_DiskRun.j1 k x0 x4 x5 x6 x7 x8 x9 false ((rd_T56 x0 x9).f0) ((rd_T56 x0 x9).f1.f0) ((rd_T56 x0 x9).f1.f1) ((rd_T56 x0 x9).f2) 0 0)))) else (none)) else (some (x4, 0))
def spec_DiskRun.j1 : Nat → List (S56) → List (S54) → ByteArray → ByteArray → Int → Bool → Int → Bool → Int → Int → ByteArray → Int → Int → Int → Option ((List (S54)) × Int)
 | 0, _, _, _, _, _, _, _, _, _, _, _, _, _, _ => none
 | k + 1, x0, x4, x5, x6, x7, x8, x9, x46, x739000, x739001, x739002, x739003, x740000, x740001 => if x46 = true then (if x4.length < 3518437208883 then (spec_DiskRun.l0 k x0 (x4 ++ [(⟨1, x740001, ([] : List (S45))⟩ : S54)]) x5 x6 x7 x8 (wrap64 (x9 + 1))) else (none)) else (if x739000 = 4 then ((spec_LogScan.f k x5 0).bind fun bt744 => (if 0 ≤ bt744.2 then (if bt744.2 ≤ (x5.size : Int) then (if x4.length < 3518437208883 then (spec_DiskRun.l0 k x0 (x4 ++ [(⟨x740000, (bt744.1.length : Int), bt744.1⟩ : S54)]) (x5.extract 0 (bt744.2 : Int).toNat) (⟨#[]⟩ : ByteArray) (bt744.1.length : Int) true (wrap64 (x9 + 1))) else (none)) else (none)) else (none))) else (if x8 = true then (if x739000 = 1 then (spec_DiskRun.j2 k x0 x4 x5 x6 x7 x8 x9 (decide (x7 ≥ 300)) x739000 x739001 x739002 x739003 x740000 x740001) else (spec_DiskRun.j2 k x0 x4 x5 x6 x7 x8 x9 false x739000 x739001 x739002 x739003 x740000 x740001)) else (if x4.length < 3518437208883 then (spec_DiskRun.l0 k x0 (x4 ++ [(⟨11, x740001, ([] : List (S45))⟩ : S54)]) x5 x6 x7 x8 (wrap64 (x9 + 1))) else (none))))
def spec_DiskRun.j2 : Nat → List (S56) → List (S54) → ByteArray → ByteArray → Int → Bool → Int → Bool → Int → Int → ByteArray → Int → Int → Int → Option ((List (S54)) × Int)
 | 0, _, _, _, _, _, _, _, _, _, _, _, _, _, _ => none
 | k + 1, x0, x4, x5, x6, x7, x8, x9, x89, x739000, x739001, x739002, x739003, x740000, x740001 => if x89 = true then (if x4.length < 3518437208883 then (spec_DiskRun.l0 k x0 (x4 ++ [(⟨9, x740001, ([] : List (S45))⟩ : S54)]) x5 x6 x7 x8 (wrap64 (x9 + 1))) else (none)) else (if x739000 = 1 then ((spec_l04Frame.f k x7 x739001 x739002).bind fun t754 => (if x6.size + t754.size ≤ 9223372036854775807 then (if x4.length < 3518437208883 then (spec_DiskRun.l0 k x0 (x4 ++ [(⟨x740000, x7, ([] : List (S45))⟩ : S54)]) x5 (x6 ++ t754) (wrap64 (x7 + 1)) x8 (wrap64 (x9 + 1))) else (none)) else (none))) else (if x739000 = 2 then (if x5.size + x6.size ≤ 9223372036854775807 then (if x4.length < 3518437208883 then (spec_DiskRun.l0 k x0 (x4 ++ [(⟨x740000, x740001, ([] : List (S45))⟩ : S54)]) (x5 ++ x6) (⟨#[]⟩ : ByteArray) x7 x8 (wrap64 (x9 + 1))) else (none)) else (none)) else (if x739003 < 0 then (if 0 > (x6.size : Int) then (if 0 ≤ (x6.size : Int) then (if (x6.size : Int) ≤ (x6.size : Int) then (if x5.size + (x6.extract 0 ((x6.size : Int) : Int).toNat).size ≤ 9223372036854775807 then (if x4.length < 3518437208883 then (spec_DiskRun.l0 k x0 (x4 ++ [(⟨x740000, x740001, ([] : List (S45))⟩ : S54)]) (x5 ++ (x6.extract 0 ((x6.size : Int) : Int).toNat)) (⟨#[]⟩ : ByteArray) x7 false (wrap64 (x9 + 1))) else (none)) else (none)) else (none)) else (none)) else (if 0 ≤ 0 then (if 0 ≤ (x6.size : Int) then (if x5.size + (x6.extract 0 0).size ≤ 9223372036854775807 then (if x4.length < 3518437208883 then (spec_DiskRun.l0 k x0 (x4 ++ [(⟨x740000, x740001, ([] : List (S45))⟩ : S54)]) (x5 ++ (x6.extract 0 0)) (⟨#[]⟩ : ByteArray) x7 false (wrap64 (x9 + 1))) else (none)) else (none)) else (none)) else (none))) else (if x739003 > (x6.size : Int) then (if 0 ≤ (x6.size : Int) then (if (x6.size : Int) ≤ (x6.size : Int) then (if x5.size + (x6.extract 0 ((x6.size : Int) : Int).toNat).size ≤ 9223372036854775807 then (if x4.length < 3518437208883 then (spec_DiskRun.l0 k x0 (x4 ++ [(⟨x740000, x740001, ([] : List (S45))⟩ : S54)]) (x5 ++ (x6.extract 0 ((x6.size : Int) : Int).toNat)) (⟨#[]⟩ : ByteArray) x7 false (wrap64 (x9 + 1))) else (none)) else (none)) else (none)) else (none)) else (if 0 ≤ x739003 then (if x739003 ≤ (x6.size : Int) then (if x5.size + (x6.extract 0 (x739003 : Int).toNat).size ≤ 9223372036854775807 then (if x4.length < 3518437208883 then (spec_DiskRun.l0 k x0 (x4 ++ [(⟨x740000, x740001, ([] : List (S45))⟩ : S54)]) (x5 ++ (x6.extract 0 (x739003 : Int).toNat)) (⟨#[]⟩ : ByteArray) x7 false (wrap64 (x9 + 1))) else (none)) else (none)) else (none)) else (none))))))
end
def spec_DiskRun.f (k : Nat) (l0 : List (S56)) : Option ((List (S54)) × Int) := if (l0.length : Int) > 500 then (some ((([] : List (S54))), 1)) else (spec_DiskRun.l0 k l0 (([] : List (S54))) (⟨#[]⟩ : ByteArray) (⟨#[]⟩ : ByteArray) 0 true 0)
set_option maxHeartbeats 8000000 in
set_option maxRecDepth 100000 in
theorem spec_DiskRun.calls (k : Nat) (A0 : Option Addr) (c0 : Nat) (l0 : List (S56)) (r1 : List (S54)) (r2 : Int) (w : World) (hr0 : Kd.C k56 w A0 l0.length l0) (hc0 : l0.length ≤ c0) (h : spec_DiskRun.f k l0 = some (r1, r2)) :
  Calls Try.prog 25 #[.slice A0 l0.length c0] w fun e w' => ∃ v0_ : Value, e = .returned (.tuple #[v0_, .int .i64 r2]) ∧ Kd.S k54 54 w' w.heap.size (fun _ => True) v0_ r1 ∧ Below w.heap.size w w' := by
 have hu56 := Try.underlying56
 have hu54 := Try.underlying54
 have hu45 := Try.underlying45
 have HR0 := Aside0.mk hr0
 have HC0 := Aside0.mk hc0
 clear hr0 hc0
 have HB := Aside0.mk (Below.refl w.heap.size w)
 have H : (if (l0.length : Int) > 500 then (some ((([] : List (S54))), 1)) else (spec_DiskRun.l0 k l0 (([] : List (S54))) (⟨#[]⟩ : ByteArray) (⟨#[]⟩ : ByteArray) 0 true 0)) = some (r1, r2) := h
 clear h
 by_cases c2 : (l0.length : Int) > 500
 ·rw [if_pos c2] at H
  have c2b0 : decide (500 < (l0.length : Int)) = true := decide_eq_true c2
  have c2b1 : decide (500 < l0.length) = true := decide_eq_true (by omega)
  clear c2
  obtain ⟨y731, hy731⟩ : ∃ y_ : List (S54), y_ = (([] : List (S54))) := ⟨_, rfl⟩
  replace H : (some (y731, 1)) = some (r1, r2) := by first | (rw [hy731]; with_reducible exact H) | (have H2_ := (Option.bind_some _ _).symm.trans H; rw [hy731]; with_reducible exact H2_) | (have H2_ := (Option.bind_some _ _).symm.trans H; with_reducible exact H2_) | with_reducible exact H | (rw [hy731]; exact H) | exact H
  have Ny731 := Aside0.mk hy731
  clear hy731
  simp only [Option.some.injEq, Prod.mk.injEq] at H
  obtain ⟨rfl, rfl⟩ := H
  go_enter Try.func25, Try.ntmps25
  go_wp2_with (first | ((with_reducible refine gate_dst (N := 18) rfl ?_); refine Kd.S_lit k54 _ 54 ?hg (N := 18) ?hd (xs := ([] : List (S54))) (inner := []) (ok := fun _ => True) (okp := fun _ => True) ?hr ?hp (fun _ hk => hk) trivial (Below.refl _ _) (Nat.le_refl _) (by simp) ?_; (case hd => rfl); (case hg => rfl); (case hr => first | (go_simp; done) | (go_simp; rfl)); (case hp => exact (Reps.none _ _)); intro v732 w3 ho4 hb hg_ hnew_; clear hg_ hnew_; (first | rw [← Ny731.out] at ho4 | (simp only [Int.reduceToNat] at ho4; rw [← Ny731.out] at ho4)); have n0_ := Aside0.mk (Kd.S_lower ho4 (below_size zb)); have n1_ := Aside0.mk (below_step zb hb); clear HB; have HO733 := n0_; have HB := n1_; clear n0_ n1_; clear hb ho4))
  go_ret2
  exact ⟨_, by first | rfl | (simp [errW_none, errW_some] <;> rfl) | (simp [*, errW_none, errW_some] <;> rfl), by (with_reducible repeat (first | apply Kd.S_alloc | apply Kd.S_drewN | apply Kd.S_drew)); exact HO733.out, zb⟩
 ·rw [if_neg c2] at H
  have c2b0 : decide (500 < (l0.length : Int)) = false := decide_eq_false c2
  have c2b1 : decide (500 < l0.length) = false := decide_eq_false (by omega)
  clear c2
  obtain ⟨y734, hy734⟩ : ∃ y_ : List (S54), y_ = (([] : List (S54))) := ⟨_, rfl⟩
  replace H : (spec_DiskRun.l0 k l0 y734 (⟨#[]⟩ : ByteArray) (⟨#[]⟩ : ByteArray) 0 true 0) = some (r1, r2) := by first | (rw [hy734]; with_reducible exact H) | (have H2_ := (Option.bind_some _ _).symm.trans H; rw [hy734]; with_reducible exact H2_) | (have H2_ := (Option.bind_some _ _).symm.trans H; with_reducible exact H2_) | with_reducible exact H | (rw [hy734]; exact H) | exact H
  have Ny734 := Aside0.mk hy734
  clear hy734
  have H' := Aside0.mk H
  clear H
  go_enter Try.func25, Try.ntmps25
  go_wp2_with (first | ((with_reducible refine gate_dst (N := 19) rfl ?_); refine Kd.S_lit k54 _ 54 ?hg (N := 19) ?hd (xs := ([] : List (S54))) (inner := []) (ok := fun _ => True) (okp := fun _ => True) ?hr ?hp (fun _ hk => hk) trivial (Below.refl _ _) (Nat.le_refl _) (by simp) ?_; (case hd => rfl); (case hg => rfl); (case hr => first | (go_simp; done) | (go_simp; rfl)); (case hp => exact (Reps.none _ _)); intro v735 w5 ho6 hb hg_ hnew_; clear hg_ hnew_; (first | rw [← Ny734.out] at ho6 | (simp only [Int.reduceToNat] at ho6; rw [← Ny734.out] at ho6)); have n0_ := Aside0.mk (Kd.S_lower ho6 (below_size zb)); have n1_ := Aside0.mk (below_step zb hb); clear HB; have HO736 := n0_; have HB := n1_; clear n0_ n1_; clear hb ho6))
  go_loopg [4, 5, 6, 7, 8, 9] k (fun kq v4 v5 v6 v7 v8 v9 w' => ∃ (x4_1 : List (S54)) (x5_1 : ByteArray) (x6_1 : ByteArray) (x7_1 : Int) (x8_1 : Bool) (x9_1 : Int), v5 = .string x5_1 ∧ v6 = .string x6_1 ∧ v7 = .int .i64 x7_1 ∧ v8 = .bool x8_1 ∧ v9 = .int .i64 x9_1 ∧ Aside0 (spec_DiskRun.l0 kq l0 x4_1 x5_1 x6_1 x7_1 x8_1 x9_1 = some (r1, r2)) ∧ Aside0 (kq ≤ k) ∧ Aside0 (Kd.S k54 54 w' w.heap.size (fun _ => True) v4 x4_1) ∧ Aside0 (Below w.heap.size w w'))
  case atStart => exact ⟨(y734), ((⟨#[]⟩ : ByteArray)), ((⟨#[]⟩ : ByteArray)), (0), (true), (0), (by first | rfl | (simp; done) | (simp [*]; done)), (by first | rfl | (simp; done) | (simp [*]; done)), (by first | rfl | (simp; done) | (simp [*]; done)), (by first | rfl | (simp; done) | (simp [*]; done)), (by first | rfl | (simp; done) | (simp [*]; done)), H', ⟨Nat.le_refl _⟩, ⟨by (with_reducible repeat (first | apply Kd.S_alloc | apply Kd.S_drewN | apply Kd.S_drew)); exact HO736.out⟩, ⟨zb⟩⟩
  case round =>
   clear H'
   try clear c2
   try clear c2b0
   try clear c2b1
   obtain ⟨x4_1, x5_1, x6_1, x7_1, x8_1, x9_1, rfl, rfl, rfl, rfl, rfl, HA, HK1, HO_4, HB⟩ := hrel
   cases gk with
   | zero => exact absurd HA.out (by simp [spec_DiskRun.l0])
   | succ k1 =>
    have H := HA.out
    clear HA
    simp only [spec_DiskRun.l0] at H
    by_cases c7 : x9_1 < (l0.length : Int)
    ·rw [if_pos c7] at H
     have c7b0 : decide (x9_1 < (l0.length : Int)) = true := decide_eq_true c7
     clear c7
     by_cases c8 : 0 ≤ x9_1
     ·rw [if_pos c8] at H
      have c8b0 : decide (0 ≤ x9_1) = true := decide_eq_true c8
      clear c8
      have HC9 := Aside0.mk H
      clear H
      have p737 : 0 ≤ (x9_1 : Int) := of_decide_eq_true (by first | (with_reducible assumption) | assumption)
      have q737 : x9_1 < (l0.length : Int) := of_decide_eq_true (by first | (with_reducible assumption) | assumption)
      obtain ⟨ad737, e737, hx737_0, hx737_1, hx737_2, hx737_3⟩ := at_T56 HR0.out x9_1 p737 q737
      cases e737
      replace hx737_0 := (HB.out.cell (World.block_lt_of_cell? w _ hx737_0)).trans hx737_0
      replace hx737_1 := (HB.out.cell (World.block_lt_of_cell? w _ hx737_1)).trans hx737_1
      replace hx737_2 := (HB.out.cell (World.block_lt_of_cell? w _ hx737_2)).trans hx737_2
      replace hx737_3 := (HB.out.cell (World.block_lt_of_cell? w _ hx737_3)).trans hx737_3
      replace p737 := eq_true p737
      replace q737 := eq_true q737
      go_upto_region 21 with (first | ((with_reducible refine gate_dst (N := 10) rfl ?_); refine boxst_event ?hg (N := 10) ?hd ?hg2 ?hn2 ?ho2 (cs := #[.int .i64 ((rd_T56 l0 x9_1).f0), .int .i64 ((rd_T56 l0 x9_1).f1.f0), .string ((rd_T56 l0 x9_1).f1.f1), .int .i64 ((rd_T56 l0 x9_1).f2)]) (zs := #[.int .i64 0, .int .i64 0, .string (⟨#[]⟩ : ByteArray), .int .i64 0]) (t := 56) ?hr ?hr2 ?_; (case hd => rfl); (case hg => rfl); (case hg2 => rfl); (case hn2 => rfl); (case ho2 => exact ⟨_, rfl⟩); (case hr => first | (go_simp; done) | (go_simp; rfl)); (case hr2 => first | (go_simp; done) | (go_simp; rfl)); intro gb738 hg w10 hbox hb; have n0_ := Aside0.mk (Kd.S_below (by (with_reducible repeat (first | apply Kd.S_alloc | apply Kd.S_drewN | apply Kd.S_drew)); exact HO_4.out) hb); have n1_ := Aside0.mk (below_step zb hb); have n2_ := Aside0.mk (hbox); have n3_ := Aside0.mk ((by rw [hg]; exact (below_size zb) : w.heap.size ≤ gb738)); have n4_ := Aside0.mk ((by rw [hg]; exact (below_size zb) : w.heap.size ≤ gb738)); clear HO_4; clear HB; have HO_4 := n0_; have HB := n1_; have BK738 := n2_; have GW738 := n3_; have GE738 := n4_; clear n0_ n1_ n2_ n3_ n4_; clear hb hbox hg) | ((with_reducible refine gate_dst (N := 11) rfl ?_); refine boxst_event ?hg (N := 11) ?hd ?hg2 ?hn2 ?ho2 (cs := #[.int .i64 0, .int .i64 0, .slice none 0 0]) (zs := #[.int .i64 0, .int .i64 0, .slice none 0 0]) (t := 54) ?hr ?hr2 ?_; (case hd => rfl); (case hg => rfl); (case hg2 => rfl); (case hn2 => rfl); (case ho2 => exact ⟨_, rfl⟩); (case hr => first | (go_simp; done) | (go_simp; rfl)); (case hr2 => first | (go_simp; done) | (go_simp; rfl)); intro gb739 hg w11 hbox hb; have n0_ := Aside0.mk (Kd.S_below (Kd.S_elderB (by (with_reducible repeat (first | apply Kd.S_alloc | apply Kd.S_drewN | apply Kd.S_drew)); exact HO_4.out) gb739 (Nat.le_of_eq hg.symm)) hb); have n1_ := Aside0.mk (blk_below (g := gb738) (o := .cells #[.int .i64 ((rd_T56 l0 x9_1).f0), .int .i64 ((rd_T56 l0 x9_1).f1.f0), .string ((rd_T56 l0 x9_1).f1.f1), .int .i64 ((rd_T56 l0 x9_1).f2)] 56 (0, 0)) (zk BK738.out) hb); have n2_ := Aside0.mk (below_step (by repeat (first | (with_reducible first | exact HB.out | apply below_alloc | apply pw_below_drewN | apply below_drew1 | refine below_set ?_ GE738.out) | exact HB.out)) hb); have n3_ := Aside0.mk (hbox); have n4_ := Aside0.mk ((by rw [hg]; exact (below_size (by repeat (first | (with_reducible first | exact HB.out | apply below_alloc | apply pw_below_drewN | apply below_drew1 | refine below_set ?_ GE738.out) | exact HB.out))) : w.heap.size ≤ gb739)); have n5_ := Aside0.mk ((by rw [hg]; exact (below_size (by repeat (first | (with_reducible first | exact HB.out | apply below_alloc | apply pw_below_drewN | apply below_drew1 | refine below_set ?_ GE738.out) | exact HB.out))) : w.heap.size ≤ gb739)); have n6_ := Aside0.mk ((by rw [hg]; exact Nat.ne_of_lt (blk_lt (g := gb738) (o := .cells #[.int .i64 ((rd_T56 l0 x9_1).f0), .int .i64 ((rd_T56 l0 x9_1).f1.f0), .string ((rd_T56 l0 x9_1).f1.f1), .int .i64 ((rd_T56 l0 x9_1).f2)] 56 (0, 0)) (zk BK738.out)) : gb738 ≠ gb739)); have n7_ := Aside0.mk ((by rw [hg]; exact Nat.ne_of_gt (blk_lt (g := gb738) (o := .cells #[.int .i64 ((rd_T56 l0 x9_1).f0), .int .i64 ((rd_T56 l0 x9_1).f1.f0), .string ((rd_T56 l0 x9_1).f1.f1), .int .i64 ((rd_T56 l0 x9_1).f2)] 56 (0, 0)) (zk BK738.out)) : gb739 ≠ gb738)); clear HO_4; clear BK738; clear HB; have HO_4 := n0_; have BK738 := n1_; have HB := n2_; have BK739 := n3_; have GW739 := n4_; have GE739 := n5_; have NB738_739 := n6_; have NB739_738 := n7_; clear n0_ n1_ n2_ n3_ n4_ n5_ n6_ n7_; clear hb hbox hg))
      (try simp only [Act.put, List.setIfInBounds_toArray, List.set_cons_zero, List.set_cons_succ])
      go_cut [46] (fun v46 wc => ∃ (kq : Nat) (x46_8 : Bool), v46 = .bool x46_8 ∧ Aside0 (spec_DiskRun.j1 kq l0 x4_1 x5_1 x6_1 x7_1 x8_1 x9_1 x46_8 ((rd_T56 l0 x9_1).f0) ((rd_T56 l0 x9_1).f1.f0) ((rd_T56 l0 x9_1).f1.f1) ((rd_T56 l0 x9_1).f2) 0 0 = some (r1, r2)) ∧ Aside0 (kq ≤ k1) ∧ Aside0 (Kd.S k54 54 wc w.heap.size (fun k_ => k_ ≠ gb739) u4 x4_1) ∧ Aside0 (wc.heap[gb738]? = some (.cells #[.int .i64 ((rd_T56 l0 x9_1).f0), .int .i64 ((rd_T56 l0 x9_1).f1.f0), .string ((rd_T56 l0 x9_1).f1.f1), .int .i64 ((rd_T56 l0 x9_1).f2)] 56 (0, 0))) ∧ Aside0 (wc.heap[gb739]? = some (.cells #[.int .i64 0, .int .i64 0, (.slice none 0 0)] 54 (0, 0))) ∧ Aside0 (Below w.heap.size w wc))
      case first =>
       have H := HC9.out
       clear HC9
       by_cases c12 : ((rd_T56 l0 x9_1).f0) < 1
       ·rw [if_pos c12] at H
        have c12b0 : decide (((rd_T56 l0 x9_1).f0) < 1) = true := decide_eq_true c12
        clear c12
        (first | rw [c12b0] | (simp only [i64_w, i32_w]; rw [c12b0]) | skip)
        have H' := Aside0.mk H
        clear H
        have hnb13 := NB738_739.out
        have hnc13 := NB739_738.out
        have hcz14_0 : w11.cell? ⟨gb738, 0, none⟩ = some (.int .i64 ((rd_T56 l0 x9_1).f0)) := (blk_cell BK738.out 0).trans rfl
        have hcz14_1 : w11.cell? ⟨gb738, 1, none⟩ = some (.int .i64 ((rd_T56 l0 x9_1).f1.f0)) := (blk_cell BK738.out 1).trans rfl
        have hcz14_2 : w11.cell? ⟨gb738, 2, none⟩ = some (.string ((rd_T56 l0 x9_1).f1.f1)) := (blk_cell BK738.out 2).trans rfl
        have hcz14_3 : w11.cell? ⟨gb738, 3, none⟩ = some (.int .i64 ((rd_T56 l0 x9_1).f2)) := (blk_cell BK738.out 3).trans rfl
        have hfz14_0 := blk_frozen BK738.out 0
        have hfz14_1 := blk_frozen BK738.out 1
        have hfz14_2 := blk_frozen BK738.out 2
        have hfz14_3 := blk_frozen BK738.out 3
        go_wp2
        go_meet
        case rel => exact ⟨_, (true), (by first | rfl | (simp; done) | (simp [*]; done)), H', ⟨by have := HK1.out; first | omega | exact Nat.le_refl _⟩, ⟨by (with_reducible repeat (first | apply Kd.S_alloc | apply Kd.S_drewN | apply Kd.S_drew)); exact Kd.S_mono HO_4.out (fun _ hk => hk.2)⟩, ⟨by (with_reducible repeat (first | refine blk_drewN ?_ _ | refine blk_drew ?_ | refine blk_alloc ?_ _)); exact BK738.out⟩, ⟨by (with_reducible repeat (first | refine blk_drewN ?_ _ | refine blk_drew ?_ | refine blk_alloc ?_ _)); exact BK739.out⟩, ⟨by repeat (first | (with_reducible first | exact HB.out | apply below_alloc | apply pw_below_drewN | apply below_drew1 | refine below_set ?_ GE738.out | refine below_set ?_ GE739.out) | exact HB.out)⟩⟩
       ·rw [if_neg c12] at H
        have c12b0 : decide (((rd_T56 l0 x9_1).f0) < 1) = false := decide_eq_false c12
        clear c12
        (first | rw [c12b0] | (simp only [i64_w, i32_w]; rw [c12b0]) | skip)
        by_cases c15 : ((rd_T56 l0 x9_1).f0) > 4
        ·rw [if_pos c15] at H
         have c15b0 : decide (4 < ((rd_T56 l0 x9_1).f0)) = true := decide_eq_true c15
         clear c15
         have H' := Aside0.mk H
         clear H
         have hnb16 := NB738_739.out
         have hnc16 := NB739_738.out
         have hcz17_0 : w11.cell? ⟨gb738, 0, none⟩ = some (.int .i64 ((rd_T56 l0 x9_1).f0)) := (blk_cell BK738.out 0).trans rfl
         have hcz17_1 : w11.cell? ⟨gb738, 1, none⟩ = some (.int .i64 ((rd_T56 l0 x9_1).f1.f0)) := (blk_cell BK738.out 1).trans rfl
         have hcz17_2 : w11.cell? ⟨gb738, 2, none⟩ = some (.string ((rd_T56 l0 x9_1).f1.f1)) := (blk_cell BK738.out 2).trans rfl
         have hcz17_3 : w11.cell? ⟨gb738, 3, none⟩ = some (.int .i64 ((rd_T56 l0 x9_1).f2)) := (blk_cell BK738.out 3).trans rfl
         have hfz17_0 := blk_frozen BK738.out 0
         have hfz17_1 := blk_frozen BK738.out 1
         have hfz17_2 := blk_frozen BK738.out 2
         have hfz17_3 := blk_frozen BK738.out 3
         go_wp2
         go_meet
         case rel => exact ⟨_, (true), (by first | rfl | (simp; done) | (simp [*]; done)), H', ⟨by have := HK1.out; first | omega | exact Nat.le_refl _⟩, ⟨by (with_reducible repeat (first | apply Kd.S_alloc | apply Kd.S_drewN | apply Kd.S_drew)); exact Kd.S_mono HO_4.out (fun _ hk => hk.2)⟩, ⟨by (with_reducible repeat (first | refine blk_drewN ?_ _ | refine blk_drew ?_ | refine blk_alloc ?_ _)); exact BK738.out⟩, ⟨by (with_reducible repeat (first | refine blk_drewN ?_ _ | refine blk_drew ?_ | refine blk_alloc ?_ _)); exact BK739.out⟩, ⟨by repeat (first | (with_reducible first | exact HB.out | apply below_alloc | apply pw_below_drewN | apply below_drew1 | refine below_set ?_ GE738.out | refine below_set ?_ GE739.out) | exact HB.out)⟩⟩
        ·rw [if_neg c15] at H
         have c15b0 : decide (4 < ((rd_T56 l0 x9_1).f0)) = false := decide_eq_false c15
         clear c15
         by_cases c18 : ((rd_T56 l0 x9_1).f0) = 1
         ·rw [if_pos c18] at H
          have c18b0 : (((rd_T56 l0 x9_1).f0) == 1) = true := beq_iff_eq.mpr c18
          have c18b1 : (((rd_T56 l0 x9_1).f0) != 1) = false := bne_eq_false_iff_eq.mpr c18
          clear c18
          replace H := Option.bind_eq_some_iff.mp H
          obtain ⟨t740, A190, H⟩ := H
          replace H : (spec_DiskRun.j1 k1 l0 x4_1 x5_1 x6_1 x7_1 x8_1 x9_1 (!t740) ((rd_T56 l0 x9_1).f0) ((rd_T56 l0 x9_1).f1.f0) ((rd_T56 l0 x9_1).f1.f1) ((rd_T56 l0 x9_1).f2) 0 0) = some (r1, r2) := H
          have A19 := Aside0.mk A190
          clear A190
          have H' := Aside0.mk H
          clear H
          have hnb20 := NB738_739.out
          have hnc20 := NB739_738.out
          have hcz21_0 : w11.cell? ⟨gb738, 0, none⟩ = some (.int .i64 ((rd_T56 l0 x9_1).f0)) := (blk_cell BK738.out 0).trans rfl
          have hcz21_1 : w11.cell? ⟨gb738, 1, none⟩ = some (.int .i64 ((rd_T56 l0 x9_1).f1.f0)) := (blk_cell BK738.out 1).trans rfl
          have hcz21_2 : w11.cell? ⟨gb738, 2, none⟩ = some (.string ((rd_T56 l0 x9_1).f1.f1)) := (blk_cell BK738.out 2).trans rfl
          have hcz21_3 : w11.cell? ⟨gb738, 3, none⟩ = some (.int .i64 ((rd_T56 l0 x9_1).f2)) := (blk_cell BK738.out 3).trans rfl
          have hfz21_0 := blk_frozen BK738.out 0
          have hfz21_1 := blk_frozen BK738.out 1
          have hfz21_2 := blk_frozen BK738.out 2
          have hfz21_3 := blk_frozen BK738.out 3
          go_wp2_with (first | (go_at_call 31; (with_reducible refine (spec_l04RecOK.calls ((rd_T56 l0 x9_1).f1.f0) ((rd_T56 l0 x9_1).f1.f1) t740 _ A19.out).mono ?_); rintro e w22 ⟨rfl, hb⟩; have n0_ := Aside0.mk (Kd.S_below (by (with_reducible repeat (first | apply Kd.S_alloc | apply Kd.S_drewN | apply Kd.S_drew)); exact HO_4.out) hb); have n1_ := Aside0.mk (blk_below (g := gb738) (o := .cells #[.int .i64 ((rd_T56 l0 x9_1).f0), .int .i64 ((rd_T56 l0 x9_1).f1.f0), .string ((rd_T56 l0 x9_1).f1.f1), .int .i64 ((rd_T56 l0 x9_1).f2)] 56 (0, 0)) (zk BK738.out) hb); have n2_ := Aside0.mk (blk_below (zk BK739.out) hb); have n3_ := Aside0.mk (below_step (by repeat (first | (with_reducible first | exact HB.out | apply below_alloc | apply pw_below_drewN | apply below_drew1 | refine below_set ?_ GE738.out | refine below_set ?_ GE739.out) | exact HB.out)) hb); clear HO_4; clear BK738; clear BK739; clear HB; have HO_4 := n0_; have BK738 := n1_; have BK739 := n2_; have HB := n3_; clear n0_ n1_ n2_ n3_; (try clear hb); (try clear hb2); (try clear hk); (try clear hi)))
          go_meet
          case rel => exact ⟨_, (!t740), (by first | rfl | (simp; done) | (simp [*]; done)), H', ⟨by have := HK1.out; first | omega | exact Nat.le_refl _⟩, ⟨by (with_reducible repeat (first | apply Kd.S_alloc | apply Kd.S_drewN | apply Kd.S_drew)); exact Kd.S_mono HO_4.out (fun _ hk => hk.2)⟩, ⟨by (with_reducible repeat (first | refine blk_drewN ?_ _ | refine blk_drew ?_ | refine blk_alloc ?_ _)); exact BK738.out⟩, ⟨by (with_reducible repeat (first | refine blk_drewN ?_ _ | refine blk_drew ?_ | refine blk_alloc ?_ _)); exact BK739.out⟩, ⟨by repeat (first | (with_reducible first | exact HB.out | apply below_alloc | apply pw_below_drewN | apply below_drew1 | refine below_set ?_ GE738.out | refine below_set ?_ GE739.out) | exact HB.out)⟩⟩
         ·rw [if_neg c18] at H
          have c18b0 : (((rd_T56 l0 x9_1).f0) == 1) = false := beq_eq_false_iff_ne.mpr c18
          have c18b1 : (((rd_T56 l0 x9_1).f0) != 1) = true := bne_iff_ne.mpr c18
          have H' := Aside0.mk H
          clear H
          have hnb23 := NB738_739.out
          have hnc23 := NB739_738.out
          have hcz24_0 : w11.cell? ⟨gb738, 0, none⟩ = some (.int .i64 ((rd_T56 l0 x9_1).f0)) := (blk_cell BK738.out 0).trans rfl
          have hcz24_1 : w11.cell? ⟨gb738, 1, none⟩ = some (.int .i64 ((rd_T56 l0 x9_1).f1.f0)) := (blk_cell BK738.out 1).trans rfl
          have hcz24_2 : w11.cell? ⟨gb738, 2, none⟩ = some (.string ((rd_T56 l0 x9_1).f1.f1)) := (blk_cell BK738.out 2).trans rfl
          have hcz24_3 : w11.cell? ⟨gb738, 3, none⟩ = some (.int .i64 ((rd_T56 l0 x9_1).f2)) := (blk_cell BK738.out 3).trans rfl
          have hfz24_0 := blk_frozen BK738.out 0
          have hfz24_1 := blk_frozen BK738.out 1
          have hfz24_2 := blk_frozen BK738.out 2
          have hfz24_3 := blk_frozen BK738.out 3
          go_wp2
          go_meet
          case rel => exact ⟨_, (false), (by first | rfl | (simp; done) | (simp [*]; done)), H', ⟨by have := HK1.out; first | omega | exact Nat.le_refl _⟩, ⟨by (with_reducible repeat (first | apply Kd.S_alloc | apply Kd.S_drewN | apply Kd.S_drew)); exact Kd.S_mono HO_4.out (fun _ hk => hk.2)⟩, ⟨by (with_reducible repeat (first | refine blk_drewN ?_ _ | refine blk_drew ?_ | refine blk_alloc ?_ _)); exact BK738.out⟩, ⟨by (with_reducible repeat (first | refine blk_drewN ?_ _ | refine blk_drew ?_ | refine blk_alloc ?_ _)); exact BK739.out⟩, ⟨by repeat (first | (with_reducible first | exact HB.out | apply below_alloc | apply pw_below_drewN | apply below_drew1 | refine below_set ?_ GE738.out | refine below_set ?_ GE739.out) | exact HB.out)⟩⟩
      case rest =>
       clear HC9
       try clear c2
       try clear c2b0
       try clear c2b1
       try clear c7
       try clear c7b0
       try clear c8
       try clear c8b0
       try clear hx737_0
       try clear hx737_1
       try clear hx737_2
       try clear hx737_3
       try clear p737
       try clear q737
       obtain ⟨kq, x46_8, rfl, HA, HJ8, HO_4, BK738, BK739, HB⟩ := hcut
       cases kq with
       | zero => exact absurd HA.out (by simp [spec_DiskRun.j1])
       | succ kj8 =>
        have H := HA.out
        clear HA
        simp only [spec_DiskRun.j1] at H
        by_cases c25 : x46_8 = true
        ·subst c25
         have H1 : (if x4_1.length < 3518437208883 then (spec_DiskRun.l0 kj8 l0 (x4_1 ++ [(⟨1, 0, ([] : List (S45))⟩ : S54)]) x5_1 x6_1 x7_1 x8_1 (wrap64 (x9_1 + 1))) else (none)) = some (r1, r2) := by rw [if_pos rfl] at H; exact H
         clear H
         have H := H1
         clear H1
         by_cases c26 : x4_1.length < 3518437208883
         ·rw [if_pos c26] at H
          have LMc26 := Aside0.mk c26
          clear c26
          obtain ⟨y741, hy741⟩ : ∃ y_ : List (S54), y_ = (x4_1 ++ [(⟨1, 0, ([] : List (S45))⟩ : S54)]) := ⟨_, rfl⟩
          replace H : (spec_DiskRun.l0 kj8 l0 y741 x5_1 x6_1 x7_1 x8_1 (wrap64 (x9_1 + 1))) = some (r1, r2) := by first | (rw [hy741]; with_reducible exact H) | (have H2_ := (Option.bind_some _ _).symm.trans H; rw [hy741]; with_reducible exact H2_) | (have H2_ := (Option.bind_some _ _).symm.trans H; with_reducible exact H2_) | with_reducible exact H | (rw [hy741]; exact H) | exact H
          have Ny741 := Aside0.mk hy741
          clear hy741
          have H' := Aside0.mk H
          clear H
          have hnb27 := NB739_738.out
          have hnc27 := NB738_739.out
          have hcz28_0 : wc.cell? ⟨gb739, 0, none⟩ = some (.int .i64 0) := (blk_cell BK739.out 0).trans rfl
          have hcz28_1 : wc.cell? ⟨gb739, 1, none⟩ = some (.int .i64 0) := (blk_cell BK739.out 1).trans rfl
          have hcz28_2 : wc.cell? ⟨gb739, 2, none⟩ = some (.slice none 0 0) := (blk_cell BK739.out 2).trans rfl
          have hfz28_0 := blk_frozen BK739.out 0
          have hfz28_1 := blk_frozen BK739.out 1
          have hfz28_2 := blk_frozen BK739.out 2
          go_wp2_with (first | ((with_reducible refine gate_builtin (b := .append) (xs := #[.tmp 119, .tmp 121]) rfl ?_); at_builtin; refine Kd.S_append k54 (w0 := w) w.heap.size rfl (.tmp 119) (.tmp 121) 50 54 (.agg #[(.int .i64 0), (.int .i64 0), (.slice none 0 0)]) 40 rfl Try.underlying50 info54 rfl (by decide) (by omega) u4 x4_1 (⟨1, 0, ([] : List (S45))⟩ : S54) [.int .i64 1, .int .i64 0, .slice none 0 0] (fun k_ => k_ ≠ gb739) (fun _ => False) rfl (by first | (go_simp; done) | (go_simp; rfl)) ?aP (fun k_ hk_ => hk_.elim) ?aF ?aO ?aB ?aS ?aL ?_; (case aP => exact k54_mkM _ _ _ (⟨1, 0, ([] : List (S45))⟩ : S54) (Kd.R_nil _ _ _ _ _)); (case aB => exact (by repeat (first | (with_reducible first | exact HB.out | apply below_alloc | apply pw_below_drewN | apply below_drew1 | refine below_set ?_ GE738.out | refine below_set ?_ GE739.out) | exact HB.out))); (case aF => exact (fun k_ hk => Kd.freshB (g := gb739) (o := .cells #[.int .i64 1, .int .i64 0, .slice none 0 0] 54 (0, 0)) (by (with_reducible repeat (first | refine blk_drewN ?_ _ | refine blk_drew ?_ | refine blk_alloc ?_ _)); refine blk_put (cs := #[.int .i64 0, .int .i64 0, .slice none 0 0]) ?_ 0 _ rfl; (with_reducible repeat (first | refine blk_drewN ?_ _ | refine blk_drew ?_ | refine blk_alloc ?_ _)); exact BK739.out) k_ hk)); (case aO => exact (by (with_reducible repeat (first | apply Kd.S_alloc | apply Kd.S_drewN | apply Kd.S_drew)); exact Kd.S_mono (Kd.S_far (p := ⟨gb739, 0, none⟩) (Kd.S_mono HO_4.out (fun k_ hk => (⟨hk, hk⟩ : _ ∧ k_ ≠ gb739))) (fun _ hk => hk.2) (.int .i64 1)) (fun k_ hk => ⟨hk.1, fun e_ => e_⟩))); (case aS => exact (below_size (by repeat (first | (with_reducible first | exact HB.out | apply below_alloc | apply pw_below_drewN | apply below_drew1 | refine below_set ?_ GE738.out | refine below_set ?_ GE739.out) | exact HB.out)))); (case aL => have := LMc26.out; omega); intro v742 w29 ho hb hg hat; rw [← Ny741.out] at ho; have n0_ := Aside0.mk (blk_grown (g := gb738) (o := .cells #[.int .i64 ((rd_T56 l0 x9_1).f0), .int .i64 ((rd_T56 l0 x9_1).f1.f0), .string ((rd_T56 l0 x9_1).f1.f1), .int .i64 ((rd_T56 l0 x9_1).f2)] 56 (0, 0)) (by (with_reducible repeat (first | refine blk_drewN ?_ _ | refine blk_drew ?_ | refine blk_alloc ?_ _)); refine blk_far ?_ NB738_739.out _; (with_reducible repeat (first | refine blk_drewN ?_ _ | refine blk_drew ?_ | refine blk_alloc ?_ _)); exact BK738.out) hg (Kd.S_ne HO_4.out BK738.out (by decide))); have n1_ := Aside0.mk (blk_grown (g := gb739) (o := .cells #[.int .i64 1, .int .i64 0, .slice none 0 0] 54 (0, 0)) (by (with_reducible repeat (first | refine blk_drewN ?_ _ | refine blk_drew ?_ | refine blk_alloc ?_ _)); refine blk_put (cs := #[.int .i64 0, .int .i64 0, .slice none 0 0]) ?_ 0 _ rfl; (with_reducible repeat (first | refine blk_drewN ?_ _ | refine blk_drew ?_ | refine blk_alloc ?_ _)); exact BK739.out) hg (Kd.S_away HO_4.out (fun _ hk => hk))); have n2_ := Aside0.mk (hb); have n3_ := Aside0.mk (ho); clear BK738; clear BK739; clear HB; clear HO_4; have BK738 := n0_; have BK739 := n1_; have HB := n2_; have HO743 := n3_; clear n0_ n1_ n2_ n3_; clear ho hb hg hat))
          go_roundg kj8
          case measure => have := HK1.out; have := HJ8.out; omega
          case rel => exact ⟨(y741), (x5_1), (x6_1), (x7_1), (x8_1), (wrap64 (x9_1 + 1)), (by first | rfl | (simp; done) | (simp [*]; done)), (by first | rfl | (simp; done) | (simp [*]; done)), (by first | rfl | (simp; done) | (simp [*]; done)), (by first | rfl | (simp; done) | (simp [*]; done)), (by first | rfl | (simp; done) | (simp [*]; done)), H', ⟨by have := HK1.out; have := HJ8.out; omega⟩, ⟨by (with_reducible repeat (first | apply Kd.S_alloc | apply Kd.S_drewN | apply Kd.S_drew)); exact Kd.S_mono HO743.out (fun _ hk => trivial)⟩, ⟨by repeat (first | (with_reducible first | exact HB.out | apply below_alloc | apply pw_below_drewN | apply below_drew1 | refine below_set ?_ GE738.out | refine below_set ?_ GE739.out) | exact HB.out)⟩⟩
         ·rw [if_neg c26] at H
          cases H
        ·replace c25 := Bool.eq_false_iff.mpr c25
         subst c25
         have H1 : (if ((rd_T56 l0 x9_1).f0) = 4 then ((spec_LogScan.f kj8 x5_1 0).bind fun bt744 => (if 0 ≤ bt744.2 then (if bt744.2 ≤ (x5_1.size : Int) then (if x4_1.length < 3518437208883 then (spec_DiskRun.l0 kj8 l0 (x4_1 ++ [(⟨0, (bt744.1.length : Int), bt744.1⟩ : S54)]) (x5_1.extract 0 (bt744.2 : Int).toNat) (⟨#[]⟩ : ByteArray) (bt744.1.length : Int) true (wrap64 (x9_1 + 1))) else (none)) else (none)) else (none))) else (if x8_1 = true then (if ((rd_T56 l0 x9_1).f0) = 1 then (spec_DiskRun.j2 kj8 l0 x4_1 x5_1 x6_1 x7_1 x8_1 x9_1 (decide (x7_1 ≥ 300)) ((rd_T56 l0 x9_1).f0) ((rd_T56 l0 x9_1).f1.f0) ((rd_T56 l0 x9_1).f1.f1) ((rd_T56 l0 x9_1).f2) 0 0) else (spec_DiskRun.j2 kj8 l0 x4_1 x5_1 x6_1 x7_1 x8_1 x9_1 false ((rd_T56 l0 x9_1).f0) ((rd_T56 l0 x9_1).f1.f0) ((rd_T56 l0 x9_1).f1.f1) ((rd_T56 l0 x9_1).f2) 0 0)) else (if x4_1.length < 3518437208883 then (spec_DiskRun.l0 kj8 l0 (x4_1 ++ [(⟨11, 0, ([] : List (S45))⟩ : S54)]) x5_1 x6_1 x7_1 x8_1 (wrap64 (x9_1 + 1))) else (none)))) = some (r1, r2) := by rw [if_neg (show ¬ (false = true) by decide)] at H; exact H
         clear H
         have H := H1
         clear H1
         by_cases c30 : ((rd_T56 l0 x9_1).f0) = 4
         ·rw [if_pos c30] at H
          have c30b0 : (((rd_T56 l0 x9_1).f0) == 4) = true := beq_iff_eq.mpr c30
          have c30b1 : (((rd_T56 l0 x9_1).f0) != 4) = false := bne_eq_false_iff_eq.mpr c30
          clear c30
          replace H := Option.bind_eq_some_iff.mp H
          obtain ⟨⟨t744, t745⟩, A310, H⟩ := H
          replace H : (if 0 ≤ t745 then (if t745 ≤ (x5_1.size : Int) then (if x4_1.length < 3518437208883 then (spec_DiskRun.l0 kj8 l0 (x4_1 ++ [(⟨0, (t744.length : Int), t744⟩ : S54)]) (x5_1.extract 0 (t745 : Int).toNat) (⟨#[]⟩ : ByteArray) (t744.length : Int) true (wrap64 (x9_1 + 1))) else (none)) else (none)) else (none)) = some (r1, r2) := H
          have A31 := Aside0.mk A310
          clear A310
          by_cases c32 : 0 ≤ t745
          ·rw [if_pos c32] at H
           have c32b0 := eq_true c32
           have c32b1 : decide (0 ≤ t745) = true := decide_eq_true c32
           clear c32
           by_cases c33 : t745 ≤ (x5_1.size : Int)
           ·rw [if_pos c33] at H
            have c33b0 := eq_true c33
            have c33b1 : decide (t745 ≤ (x5_1.size : Int)) = true := decide_eq_true c33
            clear c33
            by_cases c34 : x4_1.length < 3518437208883
            ·rw [if_pos c34] at H
             have LMc34 := Aside0.mk c34
             clear c34
             obtain ⟨y748, hy748⟩ : ∃ y_ : List (S54), y_ = (x4_1 ++ [(⟨0, (t744.length : Int), t744⟩ : S54)]) := ⟨_, rfl⟩
             replace H : (spec_DiskRun.l0 kj8 l0 y748 (x5_1.extract 0 (t745 : Int).toNat) (⟨#[]⟩ : ByteArray) (t744.length : Int) true (wrap64 (x9_1 + 1))) = some (r1, r2) := by first | (rw [hy748]; with_reducible exact H) | (have H2_ := (Option.bind_some _ _).symm.trans H; rw [hy748]; with_reducible exact H2_) | (have H2_ := (Option.bind_some _ _).symm.trans H; with_reducible exact H2_) | with_reducible exact H | (rw [hy748]; exact H) | exact H
             have Ny748 := Aside0.mk hy748
             clear hy748
             have H' := Aside0.mk H
             clear H
             have hnb35 := NB738_739.out
             have hnc35 := NB739_738.out
             have hcz36_0 : wc.cell? ⟨gb738, 0, none⟩ = some (.int .i64 ((rd_T56 l0 x9_1).f0)) := (blk_cell BK738.out 0).trans rfl
             have hcz36_1 : wc.cell? ⟨gb738, 1, none⟩ = some (.int .i64 ((rd_T56 l0 x9_1).f1.f0)) := (blk_cell BK738.out 1).trans rfl
             have hcz36_2 : wc.cell? ⟨gb738, 2, none⟩ = some (.string ((rd_T56 l0 x9_1).f1.f1)) := (blk_cell BK738.out 2).trans rfl
             have hcz36_3 : wc.cell? ⟨gb738, 3, none⟩ = some (.int .i64 ((rd_T56 l0 x9_1).f2)) := (blk_cell BK738.out 3).trans rfl
             have hfz36_0 := blk_frozen BK738.out 0
             have hfz36_1 := blk_frozen BK738.out 1
             have hfz36_2 := blk_frozen BK738.out 2
             have hfz36_3 := blk_frozen BK738.out 3
             go_wp2_with (first | ((with_reducible refine gate_callee (f := 47) rfl ?_); refine goesL_ (some 73) rfl rfl Try.func47 (by kernel_rfl) rfl #[.string x5_1, .int .i64 0] rfl zm ?_; (with_reducible refine (spec_LogScan.calls kj8 x5_1 0 t744 t745 _ A31.out).mono ?_); rintro e w37 ⟨v746, rfl, ho0, hb⟩; refine ⟨_, rfl, ?_⟩; have n0_ := Aside0.mk (Kd.S_elder' (by (with_reducible repeat (first | apply Kd.S_alloc | apply Kd.S_drewN | apply Kd.S_drew)); exact HO_4.out) (Kd.R_base ho0) hb); have n1_ := Aside0.mk (Kd.R_lower ho0 (below_size (by repeat (first | (with_reducible first | exact HB.out | apply below_alloc | apply pw_below_drewN | apply below_drew1 | refine below_set ?_ GE738.out | refine below_set ?_ GE739.out) | exact HB.out)))); have n2_ := Aside0.mk (blk_below (g := gb738) (o := .cells #[.int .i64 ((rd_T56 l0 x9_1).f0), .int .i64 ((rd_T56 l0 x9_1).f1.f0), .string ((rd_T56 l0 x9_1).f1.f1), .int .i64 ((rd_T56 l0 x9_1).f2)] 56 (0, 0)) (zk BK738.out) hb); have n3_ := Aside0.mk (blk_below (zk BK739.out) hb); have n4_ := Aside0.mk (below_step (by repeat (first | (with_reducible first | exact HB.out | apply below_alloc | apply pw_below_drewN | apply below_drew1 | refine below_set ?_ GE738.out | refine below_set ?_ GE739.out) | exact HB.out)) hb); clear HO_4; clear BK738; clear BK739; clear HB; have HO_4 := n0_; have HO747 := n1_; have BK738 := n2_; have BK739 := n3_; have HB := n4_; clear n0_ n1_ n2_ n3_ n4_; (try clear hb); (try clear hb2); (try clear hk); (try clear hi); (try clear ho0); obtain ⟨Ao38, co38, eo38⟩ := Kd.R_slice HO747.out; subst eo38; have hcz39_0 : w37.cell? ⟨gb739, 0, none⟩ = some (.int .i64 0) := (blk_cell BK739.out 0).trans rfl; have hcz39_1 : w37.cell? ⟨gb739, 1, none⟩ = some (.int .i64 0) := (blk_cell BK739.out 1).trans rfl; have hcz39_2 : w37.cell? ⟨gb739, 2, none⟩ = some (.slice none 0 0) := (blk_cell BK739.out 2).trans rfl; have hfz39_0 := blk_frozen BK739.out 0; have hfz39_1 := blk_frozen BK739.out 1; have hfz39_2 := blk_frozen BK739.out 2) | ((with_reducible refine gate_store (t := 3) (p := 82) rfl ?_); refine store_event (t := 3) (p := 82) (v := ?vo_w40) (w1 := (w37.setCell ⟨gb739, 1, none⟩ (.int .i64 (t744.length : Int)))) ?hg ?ho ?hn ?hr ?_; (case ho => rfl); (case hg => rfl); (case hn => rfl); (case hr => first | (go_simp; done) | (go_simp; rfl)); intro w40 hw; have n0_ : Aside0 (Kd.S k54 54 w40 w.heap.size (fun k_ => some k_ ≠ (.slice Ao38 t744.length co38 : Value).ownBlock ∧ k_ ≠ gb739) u4 x4_1) := ⟨(by rw [hw]; exact (by (with_reducible repeat (first | apply Kd.S_alloc | apply Kd.S_drewN | apply Kd.S_drew)); exact Kd.S_mono (Kd.S_far (p := ⟨gb739, 1, none⟩) (Kd.S_mono HO_4.out (fun k_ hk => (⟨hk, hk.1⟩ : _ ∧ k_ ≠ gb739))) (fun _ hk => hk.2) (.int .i64 (t744.length : Int))) (fun _ hk => ⟨hk.1.2, hk.1.1⟩)))⟩; have n1_ : Aside0 (Kd.R k45 45 w40 w.heap.size (fun _ => True) (.slice Ao38 t744.length co38) t744) := ⟨(by rw [hw]; exact (by (with_reducible repeat (first | apply Kd.R_alloc | apply Kd.R_drewN | apply Kd.R_drew)); exact Kd.R_mono (Kd.R_far (p := ⟨gb739, 1, none⟩) (Kd.R_types HO747.out BK739.out (by decide)) (fun _ hk => hk.2) (.int .i64 (t744.length : Int))) (fun _ hk => trivial)))⟩; have n2_ : Aside0 (w40.heap[gb738]? = some (.cells #[.int .i64 ((rd_T56 l0 x9_1).f0), .int .i64 ((rd_T56 l0 x9_1).f1.f0), .string ((rd_T56 l0 x9_1).f1.f1), .int .i64 ((rd_T56 l0 x9_1).f2)] 56 (0, 0))) := ⟨(by rw [hw]; exact (by (with_reducible repeat (first | refine blk_drewN ?_ _ | refine blk_drew ?_ | refine blk_alloc ?_ _)); refine blk_far ?_ NB738_739.out _; (with_reducible repeat (first | refine blk_drewN ?_ _ | refine blk_drew ?_ | refine blk_alloc ?_ _)); exact BK738.out))⟩; have n3_ : Aside0 (w40.heap[gb739]? = some (.cells #[.int .i64 0, .int .i64 (t744.length : Int), .slice none 0 0] 54 (0, 0))) := ⟨(by rw [hw]; exact (by (with_reducible repeat (first | refine blk_drewN ?_ _ | refine blk_drew ?_ | refine blk_alloc ?_ _)); refine blk_put (cs := #[.int .i64 0, .int .i64 0, .slice none 0 0]) ?_ 1 _ rfl; (with_reducible repeat (first | refine blk_drewN ?_ _ | refine blk_drew ?_ | refine blk_alloc ?_ _)); exact BK739.out))⟩; have n4_ : Aside0 (Below w.heap.size w w40) := ⟨(by rw [hw]; exact (by repeat (first | (with_reducible first | exact HB.out | apply below_alloc | apply pw_below_drewN | apply below_drew1 | refine below_set ?_ GE738.out | refine below_set ?_ GE739.out) | exact HB.out)))⟩; clear hw; clear HO_4; clear HO747; clear BK738; clear BK739; clear HB; have HO_4 := n0_; have HO747 := n1_; have BK738 := n2_; have BK739 := n3_; have HB := n4_; clear n0_ n1_ n2_ n3_ n4_; have hcz41_0 : w40.cell? ⟨gb739, 0, none⟩ = some (.int .i64 0) := (blk_cell BK739.out 0).trans rfl; have hcz41_1 : w40.cell? ⟨gb739, 1, none⟩ = some (.int .i64 (t744.length : Int)) := (blk_cell BK739.out 1).trans rfl; have hcz41_2 : w40.cell? ⟨gb739, 2, none⟩ = some (.slice none 0 0) := (blk_cell BK739.out 2).trans rfl; have hfz41_0 := blk_frozen BK739.out 0; have hfz41_1 := blk_frozen BK739.out 1; have hfz41_2 := blk_frozen BK739.out 2) | ((with_reducible refine gate_store (t := 33) (p := 84) rfl ?_); refine store_event (t := 33) (p := 84) (v := ?vo_w42) (w1 := (w40.setCell ⟨gb739, 2, none⟩ (.slice Ao38 t744.length co38))) ?hg ?ho ?hn ?hr ?_; (case ho => rfl); (case hg => rfl); (case hn => rfl); (case hr => first | (go_simp; done) | (go_simp; rfl)); intro w42 hw; have n0_ : Aside0 (Kd.S k54 54 w42 w.heap.size (fun k_ => some k_ ≠ (.slice Ao38 t744.length co38 : Value).ownBlock ∧ k_ ≠ gb739) u4 x4_1) := ⟨(by rw [hw]; exact (by (with_reducible repeat (first | apply Kd.S_alloc | apply Kd.S_drewN | apply Kd.S_drew)); exact Kd.S_mono (Kd.S_far (p := ⟨gb739, 2, none⟩) (Kd.S_mono HO_4.out (fun k_ hk => (⟨hk, hk.2⟩ : _ ∧ k_ ≠ gb739))) (fun _ hk => hk.2) (.slice Ao38 t744.length co38)) (fun _ hk => ⟨hk.1.1, hk.1.2⟩)))⟩; have n1_ : Aside0 (Kd.R k45 45 w42 w.heap.size (fun _ => True) (.slice Ao38 t744.length co38) t744) := ⟨(by rw [hw]; exact (by (with_reducible repeat (first | apply Kd.R_alloc | apply Kd.R_drewN | apply Kd.R_drew)); exact Kd.R_mono (Kd.R_far (p := ⟨gb739, 2, none⟩) (Kd.R_types HO747.out BK739.out (by decide)) (fun _ hk => hk.2) (.slice Ao38 t744.length co38)) (fun _ hk => trivial)))⟩; have n2_ : Aside0 (w42.heap[gb738]? = some (.cells #[.int .i64 ((rd_T56 l0 x9_1).f0), .int .i64 ((rd_T56 l0 x9_1).f1.f0), .string ((rd_T56 l0 x9_1).f1.f1), .int .i64 ((rd_T56 l0 x9_1).f2)] 56 (0, 0))) := ⟨(by rw [hw]; exact (by (with_reducible repeat (first | refine blk_drewN ?_ _ | refine blk_drew ?_ | refine blk_alloc ?_ _)); refine blk_far ?_ NB738_739.out _; (with_reducible repeat (first | refine blk_drewN ?_ _ | refine blk_drew ?_ | refine blk_alloc ?_ _)); exact BK738.out))⟩; have n3_ : Aside0 (w42.heap[gb739]? = some (.cells #[.int .i64 0, .int .i64 (t744.length : Int), .slice Ao38 t744.length co38] 54 (0, 0))) := ⟨(by rw [hw]; exact (by (with_reducible repeat (first | refine blk_drewN ?_ _ | refine blk_drew ?_ | refine blk_alloc ?_ _)); refine blk_put (cs := #[.int .i64 0, .int .i64 (t744.length : Int), .slice none 0 0]) ?_ 2 _ rfl; (with_reducible repeat (first | refine blk_drewN ?_ _ | refine blk_drew ?_ | refine blk_alloc ?_ _)); exact BK739.out))⟩; have n4_ : Aside0 (Below w.heap.size w w42) := ⟨(by rw [hw]; exact (by repeat (first | (with_reducible first | exact HB.out | apply below_alloc | apply pw_below_drewN | apply below_drew1 | refine below_set ?_ GE738.out | refine below_set ?_ GE739.out) | exact HB.out)))⟩; clear hw; clear HO_4; clear HO747; clear BK738; clear BK739; clear HB; have HO_4 := n0_; have HO747 := n1_; have BK738 := n2_; have BK739 := n3_; have HB := n4_; clear n0_ n1_ n2_ n3_ n4_; have hcz43_0 : w42.cell? ⟨gb739, 0, none⟩ = some (.int .i64 0) := (blk_cell BK739.out 0).trans rfl; have hcz43_1 : w42.cell? ⟨gb739, 1, none⟩ = some (.int .i64 (t744.length : Int)) := (blk_cell BK739.out 1).trans rfl; have hcz43_2 : w42.cell? ⟨gb739, 2, none⟩ = some (.slice Ao38 t744.length co38) := (blk_cell BK739.out 2).trans rfl; have hfz43_0 := blk_frozen BK739.out 0; have hfz43_1 := blk_frozen BK739.out 1; have hfz43_2 := blk_frozen BK739.out 2) | ((with_reducible refine gate_builtin (b := .append) (xs := #[.tmp 119, .tmp 121]) rfl ?_); at_builtin; refine Kd.S_append k54 (w0 := w) w.heap.size rfl (.tmp 119) (.tmp 121) 50 54 (.agg #[(.int .i64 0), (.int .i64 0), (.slice none 0 0)]) 40 rfl Try.underlying50 info54 rfl (by decide) (by omega) u4 x4_1 (⟨0, (t744.length : Int), t744⟩ : S54) [.int .i64 0, .int .i64 (t744.length : Int), .slice Ao38 t744.length co38] (fun k_ => k_ ≠ gb739) (fun k_ => some k_ = (.slice Ao38 t744.length co38 : Value).ownBlock) rfl rfl ?aP (fun k_ hk_ => ((Kd.R_mono (ok' := fun k_ => ((fun k_ => k_ ≠ gb739)) k_ ∧ some k_ ≠ (u4 : Value).ownBlock) (Kd.R_types (Kd.R_apart' (HO747.out) (Kd.S_typed HO_4.out) (by decide)) BK739.out (by decide)) (fun k_ hk => ⟨hk.2, hk.1.2⟩))).1 k_ hk_.symm) ?aF ?aO ?aB ?aS ?aL ?_; (case aP => exact k54_mkM _ _ _ (⟨0, (t744.length : Int), t744⟩ : S54) (Kd.R_mono (Kd.R_tight rfl (Kd.R_mono (ok' := fun k_ => ((fun k_ => k_ ≠ gb739)) k_ ∧ some k_ ≠ (u4 : Value).ownBlock) (Kd.R_types (Kd.R_apart' (HO747.out) (Kd.S_typed HO_4.out) (by decide)) BK739.out (by decide)) (fun k_ hk => ⟨hk.2, hk.1.2⟩))) (fun _ h_ => h_))); (case aB => exact (by repeat (first | (with_reducible first | exact HB.out | apply below_alloc | apply pw_below_drewN | apply below_drew1 | refine below_set ?_ GE738.out | refine below_set ?_ GE739.out) | exact HB.out))); (case aF => exact (fun k_ hk => Kd.freshB (g := gb739) (o := .cells #[.int .i64 0, .int .i64 (t744.length : Int), .slice Ao38 t744.length co38] 54 (0, 0)) (zk BK739.out) k_ hk)); (case aO => exact (by (with_reducible repeat (first | apply Kd.S_alloc | apply Kd.S_drewN | apply Kd.S_drew)); exact Kd.S_mono HO_4.out (fun k_ hk => ⟨hk.2, fun e_ => hk.1 e_⟩))); (case aS => exact (below_size (by repeat (first | (with_reducible first | exact HB.out | apply below_alloc | apply pw_below_drewN | apply below_drew1 | refine below_set ?_ GE738.out | refine below_set ?_ GE739.out) | exact HB.out)))); (case aL => have := LMc34.out; omega); intro v749 w44 ho hb hg hat; rw [← Ny748.out] at ho; have n0_ := Aside0.mk (blk_grown (g := gb738) (o := .cells #[.int .i64 ((rd_T56 l0 x9_1).f0), .int .i64 ((rd_T56 l0 x9_1).f1.f0), .string ((rd_T56 l0 x9_1).f1.f1), .int .i64 ((rd_T56 l0 x9_1).f2)] 56 (0, 0)) (zk BK738.out) hg (Kd.S_ne HO_4.out BK738.out (by decide))); have n1_ := Aside0.mk (blk_grown (g := gb739) (o := .cells #[.int .i64 0, .int .i64 (t744.length : Int), .slice Ao38 t744.length co38] 54 (0, 0)) (zk BK739.out) hg (Kd.S_away HO_4.out (fun _ hk => hk.2))); have n2_ := Aside0.mk (hb); have n3_ := Aside0.mk (ho); clear BK738; clear BK739; clear HB; clear HO_4; clear HO747; have BK738 := n0_; have BK739 := n1_; have HB := n2_; have HO750 := n3_; clear n0_ n1_ n2_ n3_; clear ho hb hg hat))
             go_roundg kj8
             case measure => have := HK1.out; have := HJ8.out; omega
             case rel => exact ⟨(y748), (x5_1.extract 0 (t745 : Int).toNat), ((⟨#[]⟩ : ByteArray)), ((t744.length : Int)), (true), (wrap64 (x9_1 + 1)), (by first | rfl | (simp; done) | (simp [*]; done)), (by first | rfl | (simp; done) | (simp [*]; done)), (by first | rfl | (simp; done) | (simp [*]; done)), (by first | rfl | (simp; done) | (simp [*]; done)), (by first | rfl | (simp; done) | (simp [*]; done)), H', ⟨by have := HK1.out; have := HJ8.out; omega⟩, ⟨by (with_reducible repeat (first | apply Kd.S_alloc | apply Kd.S_drewN | apply Kd.S_drew)); exact Kd.S_mono HO750.out (fun _ hk => trivial)⟩, ⟨by repeat (first | (with_reducible first | exact HB.out | apply below_alloc | apply pw_below_drewN | apply below_drew1 | refine below_set ?_ GE738.out | refine below_set ?_ GE739.out) | exact HB.out)⟩⟩
            ·rw [if_neg c34] at H
             cases H
           ·rw [if_neg c33] at H
            cases H
          ·rw [if_neg c32] at H
           cases H
         ·rw [if_neg c30] at H
          have c30b0 : (((rd_T56 l0 x9_1).f0) == 4) = false := beq_eq_false_iff_ne.mpr c30
          have c30b1 : (((rd_T56 l0 x9_1).f0) != 4) = true := bne_iff_ne.mpr c30
          by_cases c45 : x8_1 = true
          ·subst c45
           have H1 : (if ((rd_T56 l0 x9_1).f0) = 1 then (spec_DiskRun.j2 kj8 l0 x4_1 x5_1 x6_1 x7_1 true x9_1 (decide (x7_1 ≥ 300)) ((rd_T56 l0 x9_1).f0) ((rd_T56 l0 x9_1).f1.f0) ((rd_T56 l0 x9_1).f1.f1) ((rd_T56 l0 x9_1).f2) 0 0) else (spec_DiskRun.j2 kj8 l0 x4_1 x5_1 x6_1 x7_1 true x9_1 false ((rd_T56 l0 x9_1).f0) ((rd_T56 l0 x9_1).f1.f0) ((rd_T56 l0 x9_1).f1.f1) ((rd_T56 l0 x9_1).f2) 0 0)) = some (r1, r2) := by rw [if_pos rfl] at H; exact H
           clear H
           have H := H1
           clear H1
           have HC46 := Aside0.mk H
           clear H
           have hnb47 := NB738_739.out
           have hnc47 := NB739_738.out
           have hcz48_0 : wc.cell? ⟨gb738, 0, none⟩ = some (.int .i64 ((rd_T56 l0 x9_1).f0)) := (blk_cell BK738.out 0).trans rfl
           have hcz48_1 : wc.cell? ⟨gb738, 1, none⟩ = some (.int .i64 ((rd_T56 l0 x9_1).f1.f0)) := (blk_cell BK738.out 1).trans rfl
           have hcz48_2 : wc.cell? ⟨gb738, 2, none⟩ = some (.string ((rd_T56 l0 x9_1).f1.f1)) := (blk_cell BK738.out 2).trans rfl
           have hcz48_3 : wc.cell? ⟨gb738, 3, none⟩ = some (.int .i64 ((rd_T56 l0 x9_1).f2)) := (blk_cell BK738.out 3).trans rfl
           have hfz48_0 := blk_frozen BK738.out 0
           have hfz48_1 := blk_frozen BK738.out 1
           have hfz48_2 := blk_frozen BK738.out 2
           have hfz48_3 := blk_frozen BK738.out 3
           go_upto_region 33 with (fail)
           go_cut [89] (fun v89 wc => ∃ (kq : Nat) (x89_45 : Bool), v89 = .bool x89_45 ∧ Aside0 (spec_DiskRun.j2 kq l0 x4_1 x5_1 x6_1 x7_1 true x9_1 x89_45 ((rd_T56 l0 x9_1).f0) ((rd_T56 l0 x9_1).f1.f0) ((rd_T56 l0 x9_1).f1.f1) ((rd_T56 l0 x9_1).f2) 0 0 = some (r1, r2)) ∧ Aside0 (kq ≤ kj8) ∧ Aside0 (Kd.S k54 54 wc w.heap.size (fun k_ => k_ ≠ gb739) u4 x4_1) ∧ Aside0 (wc.heap[gb738]? = some (.cells #[.int .i64 ((rd_T56 l0 x9_1).f0), .int .i64 ((rd_T56 l0 x9_1).f1.f0), .string ((rd_T56 l0 x9_1).f1.f1), .int .i64 ((rd_T56 l0 x9_1).f2)] 56 (0, 0))) ∧ Aside0 (wc.heap[gb739]? = some (.cells #[.int .i64 0, .int .i64 0, (.slice none 0 0)] 54 (0, 0))) ∧ Aside0 (Below w.heap.size w wc))
           case first =>
            have H := HC46.out
            clear HC46
            by_cases c49 : ((rd_T56 l0 x9_1).f0) = 1
            ·rw [if_pos c49] at H
             have c49b0 : (((rd_T56 l0 x9_1).f0) == 1) = true := beq_iff_eq.mpr c49
             have c49b1 : (((rd_T56 l0 x9_1).f0) != 1) = false := bne_eq_false_iff_eq.mpr c49
             clear c49
             (first | rw [c49b0] | (simp only [i64_w, i32_w]; rw [c49b0]) | skip)
             have H' := Aside0.mk H
             clear H
             have hnb50 := NB738_739.out
             have hnc50 := NB739_738.out
             have hcz51_0 : wc.cell? ⟨gb738, 0, none⟩ = some (.int .i64 ((rd_T56 l0 x9_1).f0)) := (blk_cell BK738.out 0).trans rfl
             have hcz51_1 : wc.cell? ⟨gb738, 1, none⟩ = some (.int .i64 ((rd_T56 l0 x9_1).f1.f0)) := (blk_cell BK738.out 1).trans rfl
             have hcz51_2 : wc.cell? ⟨gb738, 2, none⟩ = some (.string ((rd_T56 l0 x9_1).f1.f1)) := (blk_cell BK738.out 2).trans rfl
             have hcz51_3 : wc.cell? ⟨gb738, 3, none⟩ = some (.int .i64 ((rd_T56 l0 x9_1).f2)) := (blk_cell BK738.out 3).trans rfl
             have hfz51_0 := blk_frozen BK738.out 0
             have hfz51_1 := blk_frozen BK738.out 1
             have hfz51_2 := blk_frozen BK738.out 2
             have hfz51_3 := blk_frozen BK738.out 3
             go_wp2
             go_meet
             case rel => exact ⟨_, (decide (x7_1 ≥ 300)), (by first | rfl | (simp; done) | (simp [*]; done)), H', ⟨by have := HK1.out; have := HJ8.out; first | omega | exact Nat.le_refl _⟩, ⟨by (with_reducible repeat (first | apply Kd.S_alloc | apply Kd.S_drewN | apply Kd.S_drew)); exact HO_4.out⟩, ⟨by (with_reducible repeat (first | refine blk_drewN ?_ _ | refine blk_drew ?_ | refine blk_alloc ?_ _)); exact BK738.out⟩, ⟨by (with_reducible repeat (first | refine blk_drewN ?_ _ | refine blk_drew ?_ | refine blk_alloc ?_ _)); exact BK739.out⟩, ⟨by repeat (first | (with_reducible first | exact HB.out | apply below_alloc | apply pw_below_drewN | apply below_drew1 | refine below_set ?_ GE738.out | refine below_set ?_ GE739.out) | exact HB.out)⟩⟩
            ·rw [if_neg c49] at H
             have c49b0 : (((rd_T56 l0 x9_1).f0) == 1) = false := beq_eq_false_iff_ne.mpr c49
             have c49b1 : (((rd_T56 l0 x9_1).f0) != 1) = true := bne_iff_ne.mpr c49
             (first | rw [c49b0] | (simp only [i64_w, i32_w]; rw [c49b0]) | skip)
             have H' := Aside0.mk H
             clear H
             have hnb52 := NB738_739.out
             have hnc52 := NB739_738.out
             have hcz53_0 : wc.cell? ⟨gb738, 0, none⟩ = some (.int .i64 ((rd_T56 l0 x9_1).f0)) := (blk_cell BK738.out 0).trans rfl
             have hcz53_1 : wc.cell? ⟨gb738, 1, none⟩ = some (.int .i64 ((rd_T56 l0 x9_1).f1.f0)) := (blk_cell BK738.out 1).trans rfl
             have hcz53_2 : wc.cell? ⟨gb738, 2, none⟩ = some (.string ((rd_T56 l0 x9_1).f1.f1)) := (blk_cell BK738.out 2).trans rfl
             have hcz53_3 : wc.cell? ⟨gb738, 3, none⟩ = some (.int .i64 ((rd_T56 l0 x9_1).f2)) := (blk_cell BK738.out 3).trans rfl
             have hfz53_0 := blk_frozen BK738.out 0
             have hfz53_1 := blk_frozen BK738.out 1
             have hfz53_2 := blk_frozen BK738.out 2
             have hfz53_3 := blk_frozen BK738.out 3
             go_wp2
             go_meet
             case rel => exact ⟨_, (false), (by first | rfl | (simp; done) | (simp [*]; done)), H', ⟨by have := HK1.out; have := HJ8.out; first | omega | exact Nat.le_refl _⟩, ⟨by (with_reducible repeat (first | apply Kd.S_alloc | apply Kd.S_drewN | apply Kd.S_drew)); exact HO_4.out⟩, ⟨by (with_reducible repeat (first | refine blk_drewN ?_ _ | refine blk_drew ?_ | refine blk_alloc ?_ _)); exact BK738.out⟩, ⟨by (with_reducible repeat (first | refine blk_drewN ?_ _ | refine blk_drew ?_ | refine blk_alloc ?_ _)); exact BK739.out⟩, ⟨by repeat (first | (with_reducible first | exact HB.out | apply below_alloc | apply pw_below_drewN | apply below_drew1 | refine below_set ?_ GE738.out | refine below_set ?_ GE739.out) | exact HB.out)⟩⟩
           case rest =>
            clear HC46
            try clear c2
            try clear c2b0
            try clear c2b1
            try clear c7
            try clear c7b0
            try clear c8
            try clear c8b0
            try clear c25
            try clear c30
            try clear c30b0
            try clear c30b1
            try clear c45
            try clear hcz48_0
            try clear hcz48_1
            try clear hcz48_2
            try clear hcz48_3
            try clear hfz48_0
            try clear hfz48_1
            try clear hfz48_2
            try clear hfz48_3
            try clear hx737_0
            try clear hx737_1
            try clear hx737_2
            try clear hx737_3
            try clear p737
            try clear q737
            obtain ⟨kq, x89_45, rfl, HA, HJ45, HO_4, BK738, BK739, HB⟩ := hcut
            cases kq with
            | zero => exact absurd HA.out (by simp [spec_DiskRun.j2])
            | succ kj45 =>
             have H := HA.out
             clear HA
             simp only [spec_DiskRun.j2] at H
             by_cases c54 : x89_45 = true
             ·subst c54
              have H1 : (if x4_1.length < 3518437208883 then (spec_DiskRun.l0 kj45 l0 (x4_1 ++ [(⟨9, 0, ([] : List (S45))⟩ : S54)]) x5_1 x6_1 x7_1 true (wrap64 (x9_1 + 1))) else (none)) = some (r1, r2) := by rw [if_pos rfl] at H; exact H
              clear H
              have H := H1
              clear H1
              by_cases c55 : x4_1.length < 3518437208883
              ·rw [if_pos c55] at H
               have LMc55 := Aside0.mk c55
               clear c55
               obtain ⟨y751, hy751⟩ : ∃ y_ : List (S54), y_ = (x4_1 ++ [(⟨9, 0, ([] : List (S45))⟩ : S54)]) := ⟨_, rfl⟩
               replace H : (spec_DiskRun.l0 kj45 l0 y751 x5_1 x6_1 x7_1 true (wrap64 (x9_1 + 1))) = some (r1, r2) := by first | (rw [hy751]; with_reducible exact H) | (have H2_ := (Option.bind_some _ _).symm.trans H; rw [hy751]; with_reducible exact H2_) | (have H2_ := (Option.bind_some _ _).symm.trans H; with_reducible exact H2_) | with_reducible exact H | (rw [hy751]; exact H) | exact H
               have Ny751 := Aside0.mk hy751
               clear hy751
               have H' := Aside0.mk H
               clear H
               have hnb56 := NB739_738.out
               have hnc56 := NB738_739.out
               have hcz57_0 : wc.cell? ⟨gb739, 0, none⟩ = some (.int .i64 0) := (blk_cell BK739.out 0).trans rfl
               have hcz57_1 : wc.cell? ⟨gb739, 1, none⟩ = some (.int .i64 0) := (blk_cell BK739.out 1).trans rfl
               have hcz57_2 : wc.cell? ⟨gb739, 2, none⟩ = some (.slice none 0 0) := (blk_cell BK739.out 2).trans rfl
               have hfz57_0 := blk_frozen BK739.out 0
               have hfz57_1 := blk_frozen BK739.out 1
               have hfz57_2 := blk_frozen BK739.out 2
               go_wp2_with (first | ((with_reducible refine gate_builtin (b := .append) (xs := #[.tmp 119, .tmp 121]) rfl ?_); at_builtin; refine Kd.S_append k54 (w0 := w) w.heap.size rfl (.tmp 119) (.tmp 121) 50 54 (.agg #[(.int .i64 0), (.int .i64 0), (.slice none 0 0)]) 40 rfl Try.underlying50 info54 rfl (by decide) (by omega) u4 x4_1 (⟨9, 0, ([] : List (S45))⟩ : S54) [.int .i64 9, .int .i64 0, .slice none 0 0] (fun k_ => k_ ≠ gb739) (fun _ => False) rfl (by first | (go_simp; done) | (go_simp; rfl)) ?aP (fun k_ hk_ => hk_.elim) ?aF ?aO ?aB ?aS ?aL ?_; (case aP => exact k54_mkM _ _ _ (⟨9, 0, ([] : List (S45))⟩ : S54) (Kd.R_nil _ _ _ _ _)); (case aB => exact (by repeat (first | (with_reducible first | exact HB.out | apply below_alloc | apply pw_below_drewN | apply below_drew1 | refine below_set ?_ GE738.out | refine below_set ?_ GE739.out) | exact HB.out))); (case aF => exact (fun k_ hk => Kd.freshB (g := gb739) (o := .cells #[.int .i64 9, .int .i64 0, .slice none 0 0] 54 (0, 0)) (by (with_reducible repeat (first | refine blk_drewN ?_ _ | refine blk_drew ?_ | refine blk_alloc ?_ _)); refine blk_put (cs := #[.int .i64 0, .int .i64 0, .slice none 0 0]) ?_ 0 _ rfl; (with_reducible repeat (first | refine blk_drewN ?_ _ | refine blk_drew ?_ | refine blk_alloc ?_ _)); exact BK739.out) k_ hk)); (case aO => exact (by (with_reducible repeat (first | apply Kd.S_alloc | apply Kd.S_drewN | apply Kd.S_drew)); exact Kd.S_mono (Kd.S_far (p := ⟨gb739, 0, none⟩) (Kd.S_mono HO_4.out (fun k_ hk => (⟨hk, hk⟩ : _ ∧ k_ ≠ gb739))) (fun _ hk => hk.2) (.int .i64 9)) (fun k_ hk => ⟨hk.1, fun e_ => e_⟩))); (case aS => exact (below_size (by repeat (first | (with_reducible first | exact HB.out | apply below_alloc | apply pw_below_drewN | apply below_drew1 | refine below_set ?_ GE738.out | refine below_set ?_ GE739.out) | exact HB.out)))); (case aL => have := LMc55.out; omega); intro v752 w58 ho hb hg hat; rw [← Ny751.out] at ho; have n0_ := Aside0.mk (blk_grown (g := gb738) (o := .cells #[.int .i64 ((rd_T56 l0 x9_1).f0), .int .i64 ((rd_T56 l0 x9_1).f1.f0), .string ((rd_T56 l0 x9_1).f1.f1), .int .i64 ((rd_T56 l0 x9_1).f2)] 56 (0, 0)) (by (with_reducible repeat (first | refine blk_drewN ?_ _ | refine blk_drew ?_ | refine blk_alloc ?_ _)); refine blk_far ?_ NB738_739.out _; (with_reducible repeat (first | refine blk_drewN ?_ _ | refine blk_drew ?_ | refine blk_alloc ?_ _)); exact BK738.out) hg (Kd.S_ne HO_4.out BK738.out (by decide))); have n1_ := Aside0.mk (blk_grown (g := gb739) (o := .cells #[.int .i64 9, .int .i64 0, .slice none 0 0] 54 (0, 0)) (by (with_reducible repeat (first | refine blk_drewN ?_ _ | refine blk_drew ?_ | refine blk_alloc ?_ _)); refine blk_put (cs := #[.int .i64 0, .int .i64 0, .slice none 0 0]) ?_ 0 _ rfl; (with_reducible repeat (first | refine blk_drewN ?_ _ | refine blk_drew ?_ | refine blk_alloc ?_ _)); exact BK739.out) hg (Kd.S_away HO_4.out (fun _ hk => hk))); have n2_ := Aside0.mk (hb); have n3_ := Aside0.mk (ho); clear BK738; clear BK739; clear HB; clear HO_4; have BK738 := n0_; have BK739 := n1_; have HB := n2_; have HO753 := n3_; clear n0_ n1_ n2_ n3_; clear ho hb hg hat))
               go_roundg kj45
               case measure => have := HK1.out; have := HJ8.out; have := HJ45.out; omega
               case rel => exact ⟨(y751), (x5_1), (x6_1), (x7_1), (true), (wrap64 (x9_1 + 1)), (by first | rfl | (simp; done) | (simp [*]; done)), (by first | rfl | (simp; done) | (simp [*]; done)), (by first | rfl | (simp; done) | (simp [*]; done)), (by first | rfl | (simp; done) | (simp [*]; done)), (by first | rfl | (simp; done) | (simp [*]; done)), H', ⟨by have := HK1.out; have := HJ8.out; have := HJ45.out; omega⟩, ⟨by (with_reducible repeat (first | apply Kd.S_alloc | apply Kd.S_drewN | apply Kd.S_drew)); exact Kd.S_mono HO753.out (fun _ hk => trivial)⟩, ⟨by repeat (first | (with_reducible first | exact HB.out | apply below_alloc | apply pw_below_drewN | apply below_drew1 | refine below_set ?_ GE738.out | refine below_set ?_ GE739.out) | exact HB.out)⟩⟩
              ·rw [if_neg c55] at H
               cases H
             ·replace c54 := Bool.eq_false_iff.mpr c54
              subst c54
              have H1 : (if ((rd_T56 l0 x9_1).f0) = 1 then ((spec_l04Frame.f kj45 x7_1 ((rd_T56 l0 x9_1).f1.f0) ((rd_T56 l0 x9_1).f1.f1)).bind fun t754 => (if x6_1.size + t754.size ≤ 9223372036854775807 then (if x4_1.length < 3518437208883 then (spec_DiskRun.l0 kj45 l0 (x4_1 ++ [(⟨0, x7_1, ([] : List (S45))⟩ : S54)]) x5_1 (x6_1 ++ t754) (wrap64 (x7_1 + 1)) true (wrap64 (x9_1 + 1))) else (none)) else (none))) else (if ((rd_T56 l0 x9_1).f0) = 2 then (if x5_1.size + x6_1.size ≤ 9223372036854775807 then (if x4_1.length < 3518437208883 then (spec_DiskRun.l0 kj45 l0 (x4_1 ++ [(⟨0, 0, ([] : List (S45))⟩ : S54)]) (x5_1 ++ x6_1) (⟨#[]⟩ : ByteArray) x7_1 true (wrap64 (x9_1 + 1))) else (none)) else (none)) else (if ((rd_T56 l0 x9_1).f2) < 0 then (if 0 > (x6_1.size : Int) then (if 0 ≤ (x6_1.size : Int) then (if (x6_1.size : Int) ≤ (x6_1.size : Int) then (if x5_1.size + (x6_1.extract 0 ((x6_1.size : Int) : Int).toNat).size ≤ 9223372036854775807 then (if x4_1.length < 3518437208883 then (spec_DiskRun.l0 kj45 l0 (x4_1 ++ [(⟨0, 0, ([] : List (S45))⟩ : S54)]) (x5_1 ++ (x6_1.extract 0 ((x6_1.size : Int) : Int).toNat)) (⟨#[]⟩ : ByteArray) x7_1 false (wrap64 (x9_1 + 1))) else (none)) else (none)) else (none)) else (none)) else (if 0 ≤ 0 then (if 0 ≤ (x6_1.size : Int) then (if x5_1.size + (x6_1.extract 0 0).size ≤ 9223372036854775807 then (if x4_1.length < 3518437208883 then (spec_DiskRun.l0 kj45 l0 (x4_1 ++ [(⟨0, 0, ([] : List (S45))⟩ : S54)]) (x5_1 ++ (x6_1.extract 0 0)) (⟨#[]⟩ : ByteArray) x7_1 false (wrap64 (x9_1 + 1))) else (none)) else (none)) else (none)) else (none))) else (if ((rd_T56 l0 x9_1).f2) > (x6_1.size : Int) then (if 0 ≤ (x6_1.size : Int) then (if (x6_1.size : Int) ≤ (x6_1.size : Int) then (if x5_1.size + (x6_1.extract 0 ((x6_1.size : Int) : Int).toNat).size ≤ 9223372036854775807 then (if x4_1.length < 3518437208883 then (spec_DiskRun.l0 kj45 l0 (x4_1 ++ [(⟨0, 0, ([] : List (S45))⟩ : S54)]) (x5_1 ++ (x6_1.extract 0 ((x6_1.size : Int) : Int).toNat)) (⟨#[]⟩ : ByteArray) x7_1 false (wrap64 (x9_1 + 1))) else (none)) else (none)) else (none)) else (none)) else (if 0 ≤ ((rd_T56 l0 x9_1).f2) then (if ((rd_T56 l0 x9_1).f2) ≤ (x6_1.size : Int) then (if x5_1.size + (x6_1.extract 0 (((rd_T56 l0 x9_1).f2) : Int).toNat).size ≤ 9223372036854775807 then (if x4_1.length < 3518437208883 then (spec_DiskRun.l0 kj45 l0 (x4_1 ++ [(⟨0, 0, ([] : List (S45))⟩ : S54)]) (x5_1 ++ (x6_1.extract 0 (((rd_T56 l0 x9_1).f2) : Int).toNat)) (⟨#[]⟩ : ByteArray) x7_1 false (wrap64 (x9_1 + 1))) else (none)) else (none)) else (none)) else (none)))))) = some (r1, r2) := by rw [if_neg (show ¬ (false = true) by decide)] at H; exact H
              clear H
              have H := H1
              clear H1
              by_cases c59 : ((rd_T56 l0 x9_1).f0) = 1
              ·rw [if_pos c59] at H
               have c59b0 : (((rd_T56 l0 x9_1).f0) == 1) = true := beq_iff_eq.mpr c59
               have c59b1 : (((rd_T56 l0 x9_1).f0) != 1) = false := bne_eq_false_iff_eq.mpr c59
               clear c59
               replace H := Option.bind_eq_some_iff.mp H
               obtain ⟨t754, A600, H⟩ := H
               replace H : (if x6_1.size + t754.size ≤ 9223372036854775807 then (if x4_1.length < 3518437208883 then (spec_DiskRun.l0 kj45 l0 (x4_1 ++ [(⟨0, x7_1, ([] : List (S45))⟩ : S54)]) x5_1 (x6_1 ++ t754) (wrap64 (x7_1 + 1)) true (wrap64 (x9_1 + 1))) else (none)) else (none)) = some (r1, r2) := H
               have A60 := Aside0.mk A600
               clear A600
               by_cases c61 : x6_1.size + t754.size ≤ 9223372036854775807
               ·rw [if_pos c61] at H
                have c61b0 := eq_true c61
                have c61b1 : decide (x6_1.size + t754.size ≤ 9223372036854775807) = true := decide_eq_true c61
                try have c61b2 : (9223372036854775807 < x6_1.size + t754.size) = False := eq_false (Nat.not_lt.2 c61)
                try (have c61b3 := c61b2; simp only [ByteArray.size_append] at c61b3)
                by_cases c62 : x4_1.length < 3518437208883
                ·rw [if_pos c62] at H
                 have LMc62 := Aside0.mk c62
                 clear c62
                 obtain ⟨y755, hy755⟩ : ∃ y_ : List (S54), y_ = (x4_1 ++ [(⟨0, x7_1, ([] : List (S45))⟩ : S54)]) := ⟨_, rfl⟩
                 replace H : (spec_DiskRun.l0 kj45 l0 y755 x5_1 (x6_1 ++ t754) (wrap64 (x7_1 + 1)) true (wrap64 (x9_1 + 1))) = some (r1, r2) := by first | (rw [hy755]; with_reducible exact H) | (have H2_ := (Option.bind_some _ _).symm.trans H; rw [hy755]; with_reducible exact H2_) | (have H2_ := (Option.bind_some _ _).symm.trans H; with_reducible exact H2_) | with_reducible exact H | (rw [hy755]; exact H) | exact H
                 have Ny755 := Aside0.mk hy755
                 clear hy755
                 have H' := Aside0.mk H
                 clear H
                 have hnb63 := NB738_739.out
                 have hnc63 := NB739_738.out
                 have hcz64_0 : wc.cell? ⟨gb738, 0, none⟩ = some (.int .i64 ((rd_T56 l0 x9_1).f0)) := (blk_cell BK738.out 0).trans rfl
                 have hcz64_1 : wc.cell? ⟨gb738, 1, none⟩ = some (.int .i64 ((rd_T56 l0 x9_1).f1.f0)) := (blk_cell BK738.out 1).trans rfl
                 have hcz64_2 : wc.cell? ⟨gb738, 2, none⟩ = some (.string ((rd_T56 l0 x9_1).f1.f1)) := (blk_cell BK738.out 2).trans rfl
                 have hcz64_3 : wc.cell? ⟨gb738, 3, none⟩ = some (.int .i64 ((rd_T56 l0 x9_1).f2)) := (blk_cell BK738.out 3).trans rfl
                 have hfz64_0 := blk_frozen BK738.out 0
                 have hfz64_1 := blk_frozen BK738.out 1
                 have hfz64_2 := blk_frozen BK738.out 2
                 have hfz64_3 := blk_frozen BK738.out 3
                 go_wp2_with (first | ((with_reducible refine gate_callee (f := 32) rfl ?_); refine goesL_ (some 106) rfl rfl Try.func32 (by kernel_rfl) rfl #[.int .i64 x7_1, .agg #[.int .i64 ((rd_T56 l0 x9_1).f1.f0), .string ((rd_T56 l0 x9_1).f1.f1)]] rfl zm ?_; (with_reducible refine (spec_l04Frame.calls kj45 x7_1 ((rd_T56 l0 x9_1).f1.f0) ((rd_T56 l0 x9_1).f1.f1) t754 _ A60.out).mono ?_); rintro e w65 ⟨rfl, hb⟩; refine ⟨_, rfl, ?_⟩; have n0_ := Aside0.mk (Kd.S_below (by (with_reducible repeat (first | apply Kd.S_alloc | apply Kd.S_drewN | apply Kd.S_drew)); exact HO_4.out) hb); have n1_ := Aside0.mk (blk_below (g := gb738) (o := .cells #[.int .i64 ((rd_T56 l0 x9_1).f0), .int .i64 ((rd_T56 l0 x9_1).f1.f0), .string ((rd_T56 l0 x9_1).f1.f1), .int .i64 ((rd_T56 l0 x9_1).f2)] 56 (0, 0)) (zk BK738.out) hb); have n2_ := Aside0.mk (blk_below (zk BK739.out) hb); have n3_ := Aside0.mk (below_step (by repeat (first | (with_reducible first | exact HB.out | apply below_alloc | apply pw_below_drewN | apply below_drew1 | refine below_set ?_ GE738.out | refine below_set ?_ GE739.out) | exact HB.out)) hb); clear HO_4; clear BK738; clear BK739; clear HB; have HO_4 := n0_; have BK738 := n1_; have BK739 := n2_; have HB := n3_; clear n0_ n1_ n2_ n3_; (try clear hb); (try clear hb2); (try clear hk); (try clear hi); have hcz66_0 : w65.cell? ⟨gb739, 0, none⟩ = some (.int .i64 0) := (blk_cell BK739.out 0).trans rfl; have hcz66_1 : w65.cell? ⟨gb739, 1, none⟩ = some (.int .i64 0) := (blk_cell BK739.out 1).trans rfl; have hcz66_2 : w65.cell? ⟨gb739, 2, none⟩ = some (.slice none 0 0) := (blk_cell BK739.out 2).trans rfl; have hfz66_0 := blk_frozen BK739.out 0; have hfz66_1 := blk_frozen BK739.out 1; have hfz66_2 := blk_frozen BK739.out 2) | ((with_reducible refine gate_builtin (b := .append) (xs := #[.tmp 119, .tmp 121]) rfl ?_); at_builtin; refine Kd.S_append k54 (w0 := w) w.heap.size rfl (.tmp 119) (.tmp 121) 50 54 (.agg #[(.int .i64 0), (.int .i64 0), (.slice none 0 0)]) 40 rfl Try.underlying50 info54 rfl (by decide) (by omega) u4 x4_1 (⟨0, x7_1, ([] : List (S45))⟩ : S54) [.int .i64 0, .int .i64 x7_1, .slice none 0 0] (fun k_ => k_ ≠ gb739) (fun _ => False) rfl (by first | (go_simp; done) | (go_simp; rfl)) ?aP (fun k_ hk_ => hk_.elim) ?aF ?aO ?aB ?aS ?aL ?_; (case aP => exact k54_mkM _ _ _ (⟨0, x7_1, ([] : List (S45))⟩ : S54) (Kd.R_nil _ _ _ _ _)); (case aB => exact (by repeat (first | (with_reducible first | exact HB.out | apply below_alloc | apply pw_below_drewN | apply below_drew1 | refine below_set ?_ GE738.out | refine below_set ?_ GE739.out) | exact HB.out))); (case aF => exact (fun k_ hk => Kd.freshB (g := gb739) (o := .cells #[.int .i64 0, .int .i64 x7_1, .slice none 0 0] 54 (0, 0)) (by (with_reducible repeat (first | refine blk_drewN ?_ _ | refine blk_drew ?_ | refine blk_alloc ?_ _)); refine blk_put (cs := #[.int .i64 0, .int .i64 0, .slice none 0 0]) ?_ 1 _ rfl; (with_reducible repeat (first | refine blk_drewN ?_ _ | refine blk_drew ?_ | refine blk_alloc ?_ _)); exact BK739.out) k_ hk)); (case aO => exact (by (with_reducible repeat (first | apply Kd.S_alloc | apply Kd.S_drewN | apply Kd.S_drew)); exact Kd.S_mono (Kd.S_far (p := ⟨gb739, 1, none⟩) (Kd.S_mono HO_4.out (fun k_ hk => (⟨hk, hk⟩ : _ ∧ k_ ≠ gb739))) (fun _ hk => hk.2) (.int .i64 x7_1)) (fun k_ hk => ⟨hk.1, fun e_ => e_⟩))); (case aS => exact (below_size (by repeat (first | (with_reducible first | exact HB.out | apply below_alloc | apply pw_below_drewN | apply below_drew1 | refine below_set ?_ GE738.out | refine below_set ?_ GE739.out) | exact HB.out)))); (case aL => have := LMc62.out; omega); intro v756 w67 ho hb hg hat; rw [← Ny755.out] at ho; have n0_ := Aside0.mk (blk_grown (g := gb738) (o := .cells #[.int .i64 ((rd_T56 l0 x9_1).f0), .int .i64 ((rd_T56 l0 x9_1).f1.f0), .string ((rd_T56 l0 x9_1).f1.f1), .int .i64 ((rd_T56 l0 x9_1).f2)] 56 (0, 0)) (by (with_reducible repeat (first | refine blk_drewN ?_ _ | refine blk_drew ?_ | refine blk_alloc ?_ _)); refine blk_far ?_ NB738_739.out _; (with_reducible repeat (first | refine blk_drewN ?_ _ | refine blk_drew ?_ | refine blk_alloc ?_ _)); exact BK738.out) hg (Kd.S_ne HO_4.out BK738.out (by decide))); have n1_ := Aside0.mk (blk_grown (g := gb739) (o := .cells #[.int .i64 0, .int .i64 x7_1, .slice none 0 0] 54 (0, 0)) (by (with_reducible repeat (first | refine blk_drewN ?_ _ | refine blk_drew ?_ | refine blk_alloc ?_ _)); refine blk_put (cs := #[.int .i64 0, .int .i64 0, .slice none 0 0]) ?_ 1 _ rfl; (with_reducible repeat (first | refine blk_drewN ?_ _ | refine blk_drew ?_ | refine blk_alloc ?_ _)); exact BK739.out) hg (Kd.S_away HO_4.out (fun _ hk => hk))); have n2_ := Aside0.mk (hb); have n3_ := Aside0.mk (ho); clear BK738; clear BK739; clear HB; clear HO_4; have BK738 := n0_; have BK739 := n1_; have HB := n2_; have HO757 := n3_; clear n0_ n1_ n2_ n3_; clear ho hb hg hat))
                 go_roundg kj45
                 case measure => have := HK1.out; have := HJ8.out; have := HJ45.out; omega
                 case rel => exact ⟨(y755), (x5_1), (x6_1 ++ t754), (wrap64 (x7_1 + 1)), (true), (wrap64 (x9_1 + 1)), (by first | rfl | (simp; done) | (simp [*]; done)), (by first | rfl | (simp; done) | (simp [*]; done)), (by first | rfl | (simp; done) | (simp [*]; done)), (by first | rfl | (simp; done) | (simp [*]; done)), (by first | rfl | (simp; done) | (simp [*]; done)), H', ⟨by have := HK1.out; have := HJ8.out; have := HJ45.out; omega⟩, ⟨by (with_reducible repeat (first | apply Kd.S_alloc | apply Kd.S_drewN | apply Kd.S_drew)); exact Kd.S_mono HO757.out (fun _ hk => trivial)⟩, ⟨by repeat (first | (with_reducible first | exact HB.out | apply below_alloc | apply pw_below_drewN | apply below_drew1 | refine below_set ?_ GE738.out | refine below_set ?_ GE739.out) | exact HB.out)⟩⟩
                ·rw [if_neg c62] at H
                 cases H
               ·rw [if_neg c61] at H
                cases H
              ·rw [if_neg c59] at H
               have c59b0 : (((rd_T56 l0 x9_1).f0) == 1) = false := beq_eq_false_iff_ne.mpr c59
               have c59b1 : (((rd_T56 l0 x9_1).f0) != 1) = true := bne_iff_ne.mpr c59
               by_cases c68 : ((rd_T56 l0 x9_1).f0) = 2
               ·rw [if_pos c68] at H
                have c68b0 : (((rd_T56 l0 x9_1).f0) == 2) = true := beq_iff_eq.mpr c68
                have c68b1 : (((rd_T56 l0 x9_1).f0) != 2) = false := bne_eq_false_iff_eq.mpr c68
                clear c68
                by_cases c69 : x5_1.size + x6_1.size ≤ 9223372036854775807
                ·rw [if_pos c69] at H
                 have c69b0 := eq_true c69
                 have c69b1 : decide (x5_1.size + x6_1.size ≤ 9223372036854775807) = true := decide_eq_true c69
                 try have c69b2 : (9223372036854775807 < x5_1.size + x6_1.size) = False := eq_false (Nat.not_lt.2 c69)
                 try (have c69b3 := c69b2; simp only [ByteArray.size_append] at c69b3)
                 by_cases c70 : x4_1.length < 3518437208883
                 ·rw [if_pos c70] at H
                  have LMc70 := Aside0.mk c70
                  clear c70
                  obtain ⟨y758, hy758⟩ : ∃ y_ : List (S54), y_ = (x4_1 ++ [(⟨0, 0, ([] : List (S45))⟩ : S54)]) := ⟨_, rfl⟩
                  replace H : (spec_DiskRun.l0 kj45 l0 y758 (x5_1 ++ x6_1) (⟨#[]⟩ : ByteArray) x7_1 true (wrap64 (x9_1 + 1))) = some (r1, r2) := by first | (rw [hy758]; with_reducible exact H) | (have H2_ := (Option.bind_some _ _).symm.trans H; rw [hy758]; with_reducible exact H2_) | (have H2_ := (Option.bind_some _ _).symm.trans H; with_reducible exact H2_) | with_reducible exact H | (rw [hy758]; exact H) | exact H
                  have Ny758 := Aside0.mk hy758
                  clear hy758
                  have H' := Aside0.mk H
                  clear H
                  have hnb71 := NB738_739.out
                  have hnc71 := NB739_738.out
                  have hcz72_0 : wc.cell? ⟨gb738, 0, none⟩ = some (.int .i64 ((rd_T56 l0 x9_1).f0)) := (blk_cell BK738.out 0).trans rfl
                  have hcz72_1 : wc.cell? ⟨gb738, 1, none⟩ = some (.int .i64 ((rd_T56 l0 x9_1).f1.f0)) := (blk_cell BK738.out 1).trans rfl
                  have hcz72_2 : wc.cell? ⟨gb738, 2, none⟩ = some (.string ((rd_T56 l0 x9_1).f1.f1)) := (blk_cell BK738.out 2).trans rfl
                  have hcz72_3 : wc.cell? ⟨gb738, 3, none⟩ = some (.int .i64 ((rd_T56 l0 x9_1).f2)) := (blk_cell BK738.out 3).trans rfl
                  have hfz72_0 := blk_frozen BK738.out 0
                  have hfz72_1 := blk_frozen BK738.out 1
                  have hfz72_2 := blk_frozen BK738.out 2
                  have hfz72_3 := blk_frozen BK738.out 3
                  have hcz73_0 : wc.cell? ⟨gb739, 0, none⟩ = some (.int .i64 0) := (blk_cell BK739.out 0).trans rfl
                  have hcz73_1 : wc.cell? ⟨gb739, 1, none⟩ = some (.int .i64 0) := (blk_cell BK739.out 1).trans rfl
                  have hcz73_2 : wc.cell? ⟨gb739, 2, none⟩ = some (.slice none 0 0) := (blk_cell BK739.out 2).trans rfl
                  have hfz73_0 := blk_frozen BK739.out 0
                  have hfz73_1 := blk_frozen BK739.out 1
                  have hfz73_2 := blk_frozen BK739.out 2
                  go_wp2_with (first | ((with_reducible refine gate_builtin (b := .append) (xs := #[.tmp 119, .tmp 121]) rfl ?_); at_builtin; refine Kd.S_append k54 (w0 := w) w.heap.size rfl (.tmp 119) (.tmp 121) 50 54 (.agg #[(.int .i64 0), (.int .i64 0), (.slice none 0 0)]) 40 rfl Try.underlying50 info54 rfl (by decide) (by omega) u4 x4_1 (⟨0, 0, ([] : List (S45))⟩ : S54) [.int .i64 0, .int .i64 0, .slice none 0 0] (fun k_ => k_ ≠ gb739) (fun _ => False) rfl rfl ?aP (fun k_ hk_ => hk_.elim) ?aF ?aO ?aB ?aS ?aL ?_; (case aP => exact k54_mkM _ _ _ (⟨0, 0, ([] : List (S45))⟩ : S54) (Kd.R_nil _ _ _ _ _)); (case aB => exact (by repeat (first | (with_reducible first | exact HB.out | apply below_alloc | apply pw_below_drewN | apply below_drew1 | refine below_set ?_ GE738.out | refine below_set ?_ GE739.out) | exact HB.out))); (case aF => exact (fun k_ hk => Kd.freshB (g := gb739) (o := .cells #[.int .i64 0, .int .i64 0, .slice none 0 0] 54 (0, 0)) (zk BK739.out) k_ hk)); (case aO => exact (by (with_reducible repeat (first | apply Kd.S_alloc | apply Kd.S_drewN | apply Kd.S_drew)); exact Kd.S_mono HO_4.out (fun k_ hk => ⟨hk, fun e_ => e_⟩))); (case aS => exact (below_size (by repeat (first | (with_reducible first | exact HB.out | apply below_alloc | apply pw_below_drewN | apply below_drew1 | refine below_set ?_ GE738.out | refine below_set ?_ GE739.out) | exact HB.out)))); (case aL => have := LMc70.out; omega); intro v759 w74 ho hb hg hat; rw [← Ny758.out] at ho; have n0_ := Aside0.mk (blk_grown (g := gb738) (o := .cells #[.int .i64 ((rd_T56 l0 x9_1).f0), .int .i64 ((rd_T56 l0 x9_1).f1.f0), .string ((rd_T56 l0 x9_1).f1.f1), .int .i64 ((rd_T56 l0 x9_1).f2)] 56 (0, 0)) (zk BK738.out) hg (Kd.S_ne HO_4.out BK738.out (by decide))); have n1_ := Aside0.mk (blk_grown (g := gb739) (o := .cells #[.int .i64 0, .int .i64 0, .slice none 0 0] 54 (0, 0)) (zk BK739.out) hg (Kd.S_away HO_4.out (fun _ hk => hk))); have n2_ := Aside0.mk (hb); have n3_ := Aside0.mk (ho); clear BK738; clear BK739; clear HB; clear HO_4; have BK738 := n0_; have BK739 := n1_; have HB := n2_; have HO760 := n3_; clear n0_ n1_ n2_ n3_; clear ho hb hg hat))
                  go_roundg kj45
                  case measure => have := HK1.out; have := HJ8.out; have := HJ45.out; omega
                  case rel => exact ⟨(y758), (x5_1 ++ x6_1), ((⟨#[]⟩ : ByteArray)), (x7_1), (true), (wrap64 (x9_1 + 1)), (by first | rfl | (simp; done) | (simp [*]; done)), (by first | rfl | (simp; done) | (simp [*]; done)), (by first | rfl | (simp; done) | (simp [*]; done)), (by first | rfl | (simp; done) | (simp [*]; done)), (by first | rfl | (simp; done) | (simp [*]; done)), H', ⟨by have := HK1.out; have := HJ8.out; have := HJ45.out; omega⟩, ⟨by (with_reducible repeat (first | apply Kd.S_alloc | apply Kd.S_drewN | apply Kd.S_drew)); exact Kd.S_mono HO760.out (fun _ hk => trivial)⟩, ⟨by repeat (first | (with_reducible first | exact HB.out | apply below_alloc | apply pw_below_drewN | apply below_drew1 | refine below_set ?_ GE738.out | refine below_set ?_ GE739.out) | exact HB.out)⟩⟩
                 ·rw [if_neg c70] at H
                  cases H
                ·rw [if_neg c69] at H
                 cases H
               ·rw [if_neg c68] at H
                have c68b0 : (((rd_T56 l0 x9_1).f0) == 2) = false := beq_eq_false_iff_ne.mpr c68
                have c68b1 : (((rd_T56 l0 x9_1).f0) != 2) = true := bne_iff_ne.mpr c68
                by_cases c75 : ((rd_T56 l0 x9_1).f2) < 0
                ·rw [if_pos c75] at H
                 have c75b0 : decide (((rd_T56 l0 x9_1).f2) < 0) = true := decide_eq_true c75
                 clear c75
                 by_cases c76 : 0 > (x6_1.size : Int)
                 ·exact absurd c76 (by omega)
                 ·rw [if_neg c76] at H
                  have c76b0 : decide ((x6_1.size : Int) < 0) = false := decide_eq_false c76
                  have c76b1 : decide (x6_1.size < 0) = false := decide_eq_false (by omega)
                  clear c76
                  by_cases c85 : 0 ≤ 0
                  ·rw [if_pos c85] at H
                   have c85b0 := eq_true c85
                   have c85b1 : decide (0 ≤ 0) = true := decide_eq_true c85
                   clear c85
                   by_cases c86 : 0 ≤ (x6_1.size : Int)
                   ·rw [if_pos c86] at H
                    have c86b0 := eq_true c86
                    have c86b1 : decide (0 ≤ (x6_1.size : Int)) = true := decide_eq_true c86
                    clear c86
                    by_cases c87 : x5_1.size + (x6_1.extract 0 0).size ≤ 9223372036854775807
                    ·rw [if_pos c87] at H
                     have c87b0 := eq_true c87
                     try (have c87b0z := c87b0; simp only [ByteArray.size_extract, Nat.min_self] at c87b0z)
                     have c87b1 : decide (x5_1.size + (x6_1.extract 0 0).size ≤ 9223372036854775807) = true := decide_eq_true c87
                     try (have c87b1z := c87b1; simp only [ByteArray.size_extract, Nat.min_self] at c87b1z)
                     try have c87b2 : (9223372036854775807 < x5_1.size + (x6_1.extract 0 0).size) = False := eq_false (Nat.not_lt.2 c87)
                     try (have c87b3 := c87b2; simp only [ByteArray.size_append] at c87b3)
                     by_cases c88 : x4_1.length < 3518437208883
                     ·rw [if_pos c88] at H
                      have LMc88 := Aside0.mk c88
                      clear c88
                      obtain ⟨y764, hy764⟩ : ∃ y_ : List (S54), y_ = (x4_1 ++ [(⟨0, 0, ([] : List (S45))⟩ : S54)]) := ⟨_, rfl⟩
                      replace H : (spec_DiskRun.l0 kj45 l0 y764 (x5_1 ++ (x6_1.extract 0 0)) (⟨#[]⟩ : ByteArray) x7_1 false (wrap64 (x9_1 + 1))) = some (r1, r2) := by first | (rw [hy764]; with_reducible exact H) | (have H2_ := (Option.bind_some _ _).symm.trans H; rw [hy764]; with_reducible exact H2_) | (have H2_ := (Option.bind_some _ _).symm.trans H; with_reducible exact H2_) | with_reducible exact H | (rw [hy764]; exact H) | exact H
                      have Ny764 := Aside0.mk hy764
                      clear hy764
                      have H' := Aside0.mk H
                      clear H
                      have hnb89 := NB738_739.out
                      have hnc89 := NB739_738.out
                      have hcz90_0 : wc.cell? ⟨gb738, 0, none⟩ = some (.int .i64 ((rd_T56 l0 x9_1).f0)) := (blk_cell BK738.out 0).trans rfl
                      have hcz90_1 : wc.cell? ⟨gb738, 1, none⟩ = some (.int .i64 ((rd_T56 l0 x9_1).f1.f0)) := (blk_cell BK738.out 1).trans rfl
                      have hcz90_2 : wc.cell? ⟨gb738, 2, none⟩ = some (.string ((rd_T56 l0 x9_1).f1.f1)) := (blk_cell BK738.out 2).trans rfl
                      have hcz90_3 : wc.cell? ⟨gb738, 3, none⟩ = some (.int .i64 ((rd_T56 l0 x9_1).f2)) := (blk_cell BK738.out 3).trans rfl
                      have hfz90_0 := blk_frozen BK738.out 0
                      have hfz90_1 := blk_frozen BK738.out 1
                      have hfz90_2 := blk_frozen BK738.out 2
                      have hfz90_3 := blk_frozen BK738.out 3
                      have hcz91_0 : wc.cell? ⟨gb739, 0, none⟩ = some (.int .i64 0) := (blk_cell BK739.out 0).trans rfl
                      have hcz91_1 : wc.cell? ⟨gb739, 1, none⟩ = some (.int .i64 0) := (blk_cell BK739.out 1).trans rfl
                      have hcz91_2 : wc.cell? ⟨gb739, 2, none⟩ = some (.slice none 0 0) := (blk_cell BK739.out 2).trans rfl
                      have hfz91_0 := blk_frozen BK739.out 0
                      have hfz91_1 := blk_frozen BK739.out 1
                      have hfz91_2 := blk_frozen BK739.out 2
                      go_wp2_with (first | ((with_reducible refine gate_builtin (b := .append) (xs := #[.tmp 119, .tmp 121]) rfl ?_); at_builtin; refine Kd.S_append k54 (w0 := w) w.heap.size rfl (.tmp 119) (.tmp 121) 50 54 (.agg #[(.int .i64 0), (.int .i64 0), (.slice none 0 0)]) 40 rfl Try.underlying50 info54 rfl (by decide) (by omega) u4 x4_1 (⟨0, 0, ([] : List (S45))⟩ : S54) [.int .i64 0, .int .i64 0, .slice none 0 0] (fun k_ => k_ ≠ gb739) (fun _ => False) rfl rfl ?aP (fun k_ hk_ => hk_.elim) ?aF ?aO ?aB ?aS ?aL ?_; (case aP => exact k54_mkM _ _ _ (⟨0, 0, ([] : List (S45))⟩ : S54) (Kd.R_nil _ _ _ _ _)); (case aB => exact (by repeat (first | (with_reducible first | exact HB.out | apply below_alloc | apply pw_below_drewN | apply below_drew1 | refine below_set ?_ GE738.out | refine below_set ?_ GE739.out) | exact HB.out))); (case aF => exact (fun k_ hk => Kd.freshB (g := gb739) (o := .cells #[.int .i64 0, .int .i64 0, .slice none 0 0] 54 (0, 0)) (zk BK739.out) k_ hk)); (case aO => exact (by (with_reducible repeat (first | apply Kd.S_alloc | apply Kd.S_drewN | apply Kd.S_drew)); exact Kd.S_mono HO_4.out (fun k_ hk => ⟨hk, fun e_ => e_⟩))); (case aS => exact (below_size (by repeat (first | (with_reducible first | exact HB.out | apply below_alloc | apply pw_below_drewN | apply below_drew1 | refine below_set ?_ GE738.out | refine below_set ?_ GE739.out) | exact HB.out)))); (case aL => have := LMc88.out; omega); intro v765 w92 ho hb hg hat; rw [← Ny764.out] at ho; have n0_ := Aside0.mk (blk_grown (g := gb738) (o := .cells #[.int .i64 ((rd_T56 l0 x9_1).f0), .int .i64 ((rd_T56 l0 x9_1).f1.f0), .string ((rd_T56 l0 x9_1).f1.f1), .int .i64 ((rd_T56 l0 x9_1).f2)] 56 (0, 0)) (zk BK738.out) hg (Kd.S_ne HO_4.out BK738.out (by decide))); have n1_ := Aside0.mk (blk_grown (g := gb739) (o := .cells #[.int .i64 0, .int .i64 0, .slice none 0 0] 54 (0, 0)) (zk BK739.out) hg (Kd.S_away HO_4.out (fun _ hk => hk))); have n2_ := Aside0.mk (hb); have n3_ := Aside0.mk (ho); clear BK738; clear BK739; clear HB; clear HO_4; have BK738 := n0_; have BK739 := n1_; have HB := n2_; have HO766 := n3_; clear n0_ n1_ n2_ n3_; clear ho hb hg hat))
                      go_roundg kj45
                      case measure => have := HK1.out; have := HJ8.out; have := HJ45.out; omega
                      case rel => exact ⟨(y764), (x5_1 ++ (x6_1.extract 0 0)), ((⟨#[]⟩ : ByteArray)), (x7_1), (false), (wrap64 (x9_1 + 1)), (by first | rfl | (simp; done) | (simp [*]; done)), (by first | rfl | (simp; done) | (simp [*]; done)), (by first | rfl | (simp; done) | (simp [*]; done)), (by first | rfl | (simp; done) | (simp [*]; done)), (by first | rfl | (simp; done) | (simp [*]; done)), H', ⟨by have := HK1.out; have := HJ8.out; have := HJ45.out; omega⟩, ⟨by (with_reducible repeat (first | apply Kd.S_alloc | apply Kd.S_drewN | apply Kd.S_drew)); exact Kd.S_mono HO766.out (fun _ hk => trivial)⟩, ⟨by repeat (first | (with_reducible first | exact HB.out | apply below_alloc | apply pw_below_drewN | apply below_drew1 | refine below_set ?_ GE738.out | refine below_set ?_ GE739.out) | exact HB.out)⟩⟩
                     ·rw [if_neg c88] at H
                      cases H
                    ·rw [if_neg c87] at H
                     cases H
                   ·rw [if_neg c86] at H
                    cases H
                  ·rw [if_neg c85] at H
                   cases H
                ·rw [if_neg c75] at H
                 have c75b0 : decide (((rd_T56 l0 x9_1).f2) < 0) = false := decide_eq_false c75
                 clear c75
                 by_cases c93 : ((rd_T56 l0 x9_1).f2) > (x6_1.size : Int)
                 ·rw [if_pos c93] at H
                  have c93b0 : decide ((x6_1.size : Int) < ((rd_T56 l0 x9_1).f2)) = true := decide_eq_true c93
                  clear c93
                  by_cases c94 : 0 ≤ (x6_1.size : Int)
                  ·rw [if_pos c94] at H
                   have c94b0 := eq_true c94
                   have c94b1 : decide (0 ≤ (x6_1.size : Int)) = true := decide_eq_true c94
                   clear c94
                   by_cases c95 : (x6_1.size : Int) ≤ (x6_1.size : Int)
                   ·rw [if_pos c95] at H
                    have c95b0 := eq_true c95
                    have c95b1 : decide ((x6_1.size : Int) ≤ (x6_1.size : Int)) = true := decide_eq_true c95
                    clear c95
                    by_cases c96 : x5_1.size + (x6_1.extract 0 ((x6_1.size : Int) : Int).toNat).size ≤ 9223372036854775807
                    ·rw [if_pos c96] at H
                     have c96b0 := eq_true c96
                     try (have c96b0z := c96b0; simp only [ByteArray.size_extract, Nat.min_self] at c96b0z)
                     have c96b1 : decide (x5_1.size + (x6_1.extract 0 ((x6_1.size : Int) : Int).toNat).size ≤ 9223372036854775807) = true := decide_eq_true c96
                     try (have c96b1z := c96b1; simp only [ByteArray.size_extract, Nat.min_self] at c96b1z)
                     try have c96b2 : (9223372036854775807 < x5_1.size + (x6_1.extract 0 ((x6_1.size : Int) : Int).toNat).size) = False := eq_false (Nat.not_lt.2 c96)
                     have c96n : x5_1.size + x6_1.size ≤ 9223372036854775807 := by have h_ := c96; simp only [Int.toNat_natCast, ByteArray.size_extract] at h_; omega
                     have c96n0 := eq_true c96n
                     have c96n1 : decide (x5_1.size + x6_1.size ≤ 9223372036854775807) = true := decide_eq_true c96n
                     have c96n2 : (9223372036854775807 < x5_1.size + x6_1.size) = False := eq_false (Nat.not_lt.2 c96n)
                     try (have c96b3 := c96b2; simp only [ByteArray.size_append] at c96b3)
                     by_cases c97 : x4_1.length < 3518437208883
                     ·rw [if_pos c97] at H
                      have LMc97 := Aside0.mk c97
                      clear c97
                      obtain ⟨y767, hy767⟩ : ∃ y_ : List (S54), y_ = (x4_1 ++ [(⟨0, 0, ([] : List (S45))⟩ : S54)]) := ⟨_, rfl⟩
                      replace H : (spec_DiskRun.l0 kj45 l0 y767 (x5_1 ++ (x6_1.extract 0 ((x6_1.size : Int) : Int).toNat)) (⟨#[]⟩ : ByteArray) x7_1 false (wrap64 (x9_1 + 1))) = some (r1, r2) := by first | (rw [hy767]; with_reducible exact H) | (have H2_ := (Option.bind_some _ _).symm.trans H; rw [hy767]; with_reducible exact H2_) | (have H2_ := (Option.bind_some _ _).symm.trans H; with_reducible exact H2_) | with_reducible exact H | (rw [hy767]; exact H) | exact H
                      have Ny767 := Aside0.mk hy767
                      clear hy767
                      have H' := Aside0.mk H
                      clear H
                      have hnb98 := NB738_739.out
                      have hnc98 := NB739_738.out
                      have hcz99_0 : wc.cell? ⟨gb738, 0, none⟩ = some (.int .i64 ((rd_T56 l0 x9_1).f0)) := (blk_cell BK738.out 0).trans rfl
                      have hcz99_1 : wc.cell? ⟨gb738, 1, none⟩ = some (.int .i64 ((rd_T56 l0 x9_1).f1.f0)) := (blk_cell BK738.out 1).trans rfl
                      have hcz99_2 : wc.cell? ⟨gb738, 2, none⟩ = some (.string ((rd_T56 l0 x9_1).f1.f1)) := (blk_cell BK738.out 2).trans rfl
                      have hcz99_3 : wc.cell? ⟨gb738, 3, none⟩ = some (.int .i64 ((rd_T56 l0 x9_1).f2)) := (blk_cell BK738.out 3).trans rfl
                      have hfz99_0 := blk_frozen BK738.out 0
                      have hfz99_1 := blk_frozen BK738.out 1
                      have hfz99_2 := blk_frozen BK738.out 2
                      have hfz99_3 := blk_frozen BK738.out 3
                      have hcz100_0 : wc.cell? ⟨gb739, 0, none⟩ = some (.int .i64 0) := (blk_cell BK739.out 0).trans rfl
                      have hcz100_1 : wc.cell? ⟨gb739, 1, none⟩ = some (.int .i64 0) := (blk_cell BK739.out 1).trans rfl
                      have hcz100_2 : wc.cell? ⟨gb739, 2, none⟩ = some (.slice none 0 0) := (blk_cell BK739.out 2).trans rfl
                      have hfz100_0 := blk_frozen BK739.out 0
                      have hfz100_1 := blk_frozen BK739.out 1
                      have hfz100_2 := blk_frozen BK739.out 2
                      go_wp2_with (first | ((with_reducible refine gate_builtin (b := .append) (xs := #[.tmp 119, .tmp 121]) rfl ?_); at_builtin; refine Kd.S_append k54 (w0 := w) w.heap.size rfl (.tmp 119) (.tmp 121) 50 54 (.agg #[(.int .i64 0), (.int .i64 0), (.slice none 0 0)]) 40 rfl Try.underlying50 info54 rfl (by decide) (by omega) u4 x4_1 (⟨0, 0, ([] : List (S45))⟩ : S54) [.int .i64 0, .int .i64 0, .slice none 0 0] (fun k_ => k_ ≠ gb739) (fun _ => False) rfl rfl ?aP (fun k_ hk_ => hk_.elim) ?aF ?aO ?aB ?aS ?aL ?_; (case aP => exact k54_mkM _ _ _ (⟨0, 0, ([] : List (S45))⟩ : S54) (Kd.R_nil _ _ _ _ _)); (case aB => exact (by repeat (first | (with_reducible first | exact HB.out | apply below_alloc | apply pw_below_drewN | apply below_drew1 | refine below_set ?_ GE738.out | refine below_set ?_ GE739.out) | exact HB.out))); (case aF => exact (fun k_ hk => Kd.freshB (g := gb739) (o := .cells #[.int .i64 0, .int .i64 0, .slice none 0 0] 54 (0, 0)) (zk BK739.out) k_ hk)); (case aO => exact (by (with_reducible repeat (first | apply Kd.S_alloc | apply Kd.S_drewN | apply Kd.S_drew)); exact Kd.S_mono HO_4.out (fun k_ hk => ⟨hk, fun e_ => e_⟩))); (case aS => exact (below_size (by repeat (first | (with_reducible first | exact HB.out | apply below_alloc | apply pw_below_drewN | apply below_drew1 | refine below_set ?_ GE738.out | refine below_set ?_ GE739.out) | exact HB.out)))); (case aL => have := LMc97.out; omega); intro v768 w101 ho hb hg hat; rw [← Ny767.out] at ho; have n0_ := Aside0.mk (blk_grown (g := gb738) (o := .cells #[.int .i64 ((rd_T56 l0 x9_1).f0), .int .i64 ((rd_T56 l0 x9_1).f1.f0), .string ((rd_T56 l0 x9_1).f1.f1), .int .i64 ((rd_T56 l0 x9_1).f2)] 56 (0, 0)) (zk BK738.out) hg (Kd.S_ne HO_4.out BK738.out (by decide))); have n1_ := Aside0.mk (blk_grown (g := gb739) (o := .cells #[.int .i64 0, .int .i64 0, .slice none 0 0] 54 (0, 0)) (zk BK739.out) hg (Kd.S_away HO_4.out (fun _ hk => hk))); have n2_ := Aside0.mk (hb); have n3_ := Aside0.mk (ho); clear BK738; clear BK739; clear HB; clear HO_4; have BK738 := n0_; have BK739 := n1_; have HB := n2_; have HO769 := n3_; clear n0_ n1_ n2_ n3_; clear ho hb hg hat))
                      go_roundg kj45
                      case measure => have := HK1.out; have := HJ8.out; have := HJ45.out; omega
                      case rel => exact ⟨(y767), (x5_1 ++ (x6_1.extract 0 ((x6_1.size : Int) : Int).toNat)), ((⟨#[]⟩ : ByteArray)), (x7_1), (false), (wrap64 (x9_1 + 1)), (by first | rfl | (simp; done) | (simp [*]; done)), (by first | rfl | (simp; done) | (simp [*]; done)), (by first | rfl | (simp; done) | (simp [*]; done)), (by first | rfl | (simp; done) | (simp [*]; done)), (by first | rfl | (simp; done) | (simp [*]; done)), H', ⟨by have := HK1.out; have := HJ8.out; have := HJ45.out; omega⟩, ⟨by (with_reducible repeat (first | apply Kd.S_alloc | apply Kd.S_drewN | apply Kd.S_drew)); exact Kd.S_mono HO769.out (fun _ hk => trivial)⟩, ⟨by repeat (first | (with_reducible first | exact HB.out | apply below_alloc | apply pw_below_drewN | apply below_drew1 | refine below_set ?_ GE738.out | refine below_set ?_ GE739.out) | exact HB.out)⟩⟩
                     ·rw [if_neg c97] at H
                      cases H
                    ·rw [if_neg c96] at H
                     cases H
                   ·rw [if_neg c95] at H
                    cases H
                  ·rw [if_neg c94] at H
                   cases H
                 ·rw [if_neg c93] at H
                  have c93b0 : decide ((x6_1.size : Int) < ((rd_T56 l0 x9_1).f2)) = false := decide_eq_false c93
                  clear c93
                  by_cases c102 : 0 ≤ ((rd_T56 l0 x9_1).f2)
                  ·rw [if_pos c102] at H
                   have c102b0 := eq_true c102
                   have c102b1 : decide (0 ≤ ((rd_T56 l0 x9_1).f2)) = true := decide_eq_true c102
                   clear c102
                   by_cases c103 : ((rd_T56 l0 x9_1).f2) ≤ (x6_1.size : Int)
                   ·rw [if_pos c103] at H
                    have c103b0 := eq_true c103
                    have c103b1 : decide (((rd_T56 l0 x9_1).f2) ≤ (x6_1.size : Int)) = true := decide_eq_true c103
                    clear c103
                    by_cases c104 : x5_1.size + (x6_1.extract 0 (((rd_T56 l0 x9_1).f2) : Int).toNat).size ≤ 9223372036854775807
                    ·rw [if_pos c104] at H
                     have c104b0 := eq_true c104
                     try (have c104b0z := c104b0; simp only [ByteArray.size_extract, Nat.min_self] at c104b0z)
                     have c104b1 : decide (x5_1.size + (x6_1.extract 0 (((rd_T56 l0 x9_1).f2) : Int).toNat).size ≤ 9223372036854775807) = true := decide_eq_true c104
                     try (have c104b1z := c104b1; simp only [ByteArray.size_extract, Nat.min_self] at c104b1z)
                     try have c104b2 : (9223372036854775807 < x5_1.size + (x6_1.extract 0 (((rd_T56 l0 x9_1).f2) : Int).toNat).size) = False := eq_false (Nat.not_lt.2 c104)
                     try (have c104b3 := c104b2; simp only [ByteArray.size_append] at c104b3)
                     by_cases c105 : x4_1.length < 3518437208883
                     ·rw [if_pos c105] at H
                      have LMc105 := Aside0.mk c105
                      clear c105
                      obtain ⟨y770, hy770⟩ : ∃ y_ : List (S54), y_ = (x4_1 ++ [(⟨0, 0, ([] : List (S45))⟩ : S54)]) := ⟨_, rfl⟩
                      replace H : (spec_DiskRun.l0 kj45 l0 y770 (x5_1 ++ (x6_1.extract 0 (((rd_T56 l0 x9_1).f2) : Int).toNat)) (⟨#[]⟩ : ByteArray) x7_1 false (wrap64 (x9_1 + 1))) = some (r1, r2) := by first | (rw [hy770]; with_reducible exact H) | (have H2_ := (Option.bind_some _ _).symm.trans H; rw [hy770]; with_reducible exact H2_) | (have H2_ := (Option.bind_some _ _).symm.trans H; with_reducible exact H2_) | with_reducible exact H | (rw [hy770]; exact H) | exact H
                      have Ny770 := Aside0.mk hy770
                      clear hy770
                      have H' := Aside0.mk H
                      clear H
                      have hnb106 := NB738_739.out
                      have hnc106 := NB739_738.out
                      have hcz107_0 : wc.cell? ⟨gb738, 0, none⟩ = some (.int .i64 ((rd_T56 l0 x9_1).f0)) := (blk_cell BK738.out 0).trans rfl
                      have hcz107_1 : wc.cell? ⟨gb738, 1, none⟩ = some (.int .i64 ((rd_T56 l0 x9_1).f1.f0)) := (blk_cell BK738.out 1).trans rfl
                      have hcz107_2 : wc.cell? ⟨gb738, 2, none⟩ = some (.string ((rd_T56 l0 x9_1).f1.f1)) := (blk_cell BK738.out 2).trans rfl
                      have hcz107_3 : wc.cell? ⟨gb738, 3, none⟩ = some (.int .i64 ((rd_T56 l0 x9_1).f2)) := (blk_cell BK738.out 3).trans rfl
                      have hfz107_0 := blk_frozen BK738.out 0
                      have hfz107_1 := blk_frozen BK738.out 1
                      have hfz107_2 := blk_frozen BK738.out 2
                      have hfz107_3 := blk_frozen BK738.out 3
                      have hcz108_0 : wc.cell? ⟨gb739, 0, none⟩ = some (.int .i64 0) := (blk_cell BK739.out 0).trans rfl
                      have hcz108_1 : wc.cell? ⟨gb739, 1, none⟩ = some (.int .i64 0) := (blk_cell BK739.out 1).trans rfl
                      have hcz108_2 : wc.cell? ⟨gb739, 2, none⟩ = some (.slice none 0 0) := (blk_cell BK739.out 2).trans rfl
                      have hfz108_0 := blk_frozen BK739.out 0
                      have hfz108_1 := blk_frozen BK739.out 1
                      have hfz108_2 := blk_frozen BK739.out 2
                      go_wp2_with (first | ((with_reducible refine gate_builtin (b := .append) (xs := #[.tmp 119, .tmp 121]) rfl ?_); at_builtin; refine Kd.S_append k54 (w0 := w) w.heap.size rfl (.tmp 119) (.tmp 121) 50 54 (.agg #[(.int .i64 0), (.int .i64 0), (.slice none 0 0)]) 40 rfl Try.underlying50 info54 rfl (by decide) (by omega) u4 x4_1 (⟨0, 0, ([] : List (S45))⟩ : S54) [.int .i64 0, .int .i64 0, .slice none 0 0] (fun k_ => k_ ≠ gb739) (fun _ => False) rfl rfl ?aP (fun k_ hk_ => hk_.elim) ?aF ?aO ?aB ?aS ?aL ?_; (case aP => exact k54_mkM _ _ _ (⟨0, 0, ([] : List (S45))⟩ : S54) (Kd.R_nil _ _ _ _ _)); (case aB => exact (by repeat (first | (with_reducible first | exact HB.out | apply below_alloc | apply pw_below_drewN | apply below_drew1 | refine below_set ?_ GE738.out | refine below_set ?_ GE739.out) | exact HB.out))); (case aF => exact (fun k_ hk => Kd.freshB (g := gb739) (o := .cells #[.int .i64 0, .int .i64 0, .slice none 0 0] 54 (0, 0)) (zk BK739.out) k_ hk)); (case aO => exact (by (with_reducible repeat (first | apply Kd.S_alloc | apply Kd.S_drewN | apply Kd.S_drew)); exact Kd.S_mono HO_4.out (fun k_ hk => ⟨hk, fun e_ => e_⟩))); (case aS => exact (below_size (by repeat (first | (with_reducible first | exact HB.out | apply below_alloc | apply pw_below_drewN | apply below_drew1 | refine below_set ?_ GE738.out | refine below_set ?_ GE739.out) | exact HB.out)))); (case aL => have := LMc105.out; omega); intro v771 w109 ho hb hg hat; rw [← Ny770.out] at ho; have n0_ := Aside0.mk (blk_grown (g := gb738) (o := .cells #[.int .i64 ((rd_T56 l0 x9_1).f0), .int .i64 ((rd_T56 l0 x9_1).f1.f0), .string ((rd_T56 l0 x9_1).f1.f1), .int .i64 ((rd_T56 l0 x9_1).f2)] 56 (0, 0)) (zk BK738.out) hg (Kd.S_ne HO_4.out BK738.out (by decide))); have n1_ := Aside0.mk (blk_grown (g := gb739) (o := .cells #[.int .i64 0, .int .i64 0, .slice none 0 0] 54 (0, 0)) (zk BK739.out) hg (Kd.S_away HO_4.out (fun _ hk => hk))); have n2_ := Aside0.mk (hb); have n3_ := Aside0.mk (ho); clear BK738; clear BK739; clear HB; clear HO_4; have BK738 := n0_; have BK739 := n1_; have HB := n2_; have HO772 := n3_; clear n0_ n1_ n2_ n3_; clear ho hb hg hat))
                      go_roundg kj45
                      case measure => have := HK1.out; have := HJ8.out; have := HJ45.out; omega
                      case rel => exact ⟨(y770), (x5_1 ++ (x6_1.extract 0 (((rd_T56 l0 x9_1).f2) : Int).toNat)), ((⟨#[]⟩ : ByteArray)), (x7_1), (false), (wrap64 (x9_1 + 1)), (by first | rfl | (simp; done) | (simp [*]; done)), (by first | rfl | (simp; done) | (simp [*]; done)), (by first | rfl | (simp; done) | (simp [*]; done)), (by first | rfl | (simp; done) | (simp [*]; done)), (by first | rfl | (simp; done) | (simp [*]; done)), H', ⟨by have := HK1.out; have := HJ8.out; have := HJ45.out; omega⟩, ⟨by (with_reducible repeat (first | apply Kd.S_alloc | apply Kd.S_drewN | apply Kd.S_drew)); exact Kd.S_mono HO772.out (fun _ hk => trivial)⟩, ⟨by repeat (first | (with_reducible first | exact HB.out | apply below_alloc | apply pw_below_drewN | apply below_drew1 | refine below_set ?_ GE738.out | refine below_set ?_ GE739.out) | exact HB.out)⟩⟩
                     ·rw [if_neg c105] at H
                      cases H
                    ·rw [if_neg c104] at H
                     cases H
                   ·rw [if_neg c103] at H
                    cases H
                  ·rw [if_neg c102] at H
                   cases H
          ·replace c45 := Bool.eq_false_iff.mpr c45
           subst c45
           have H1 : (if x4_1.length < 3518437208883 then (spec_DiskRun.l0 kj8 l0 (x4_1 ++ [(⟨11, 0, ([] : List (S45))⟩ : S54)]) x5_1 x6_1 x7_1 false (wrap64 (x9_1 + 1))) else (none)) = some (r1, r2) := by rw [if_neg (show ¬ (false = true) by decide)] at H; exact H
           clear H
           have H := H1
           clear H1
           by_cases c110 : x4_1.length < 3518437208883
           ·rw [if_pos c110] at H
            have LMc110 := Aside0.mk c110
            clear c110
            obtain ⟨y773, hy773⟩ : ∃ y_ : List (S54), y_ = (x4_1 ++ [(⟨11, 0, ([] : List (S45))⟩ : S54)]) := ⟨_, rfl⟩
            replace H : (spec_DiskRun.l0 kj8 l0 y773 x5_1 x6_1 x7_1 false (wrap64 (x9_1 + 1))) = some (r1, r2) := by first | (rw [hy773]; with_reducible exact H) | (have H2_ := (Option.bind_some _ _).symm.trans H; rw [hy773]; with_reducible exact H2_) | (have H2_ := (Option.bind_some _ _).symm.trans H; with_reducible exact H2_) | with_reducible exact H | (rw [hy773]; exact H) | exact H
            have Ny773 := Aside0.mk hy773
            clear hy773
            have H' := Aside0.mk H
            clear H
            have hnb111 := NB738_739.out
            have hnc111 := NB739_738.out
            have hcz112_0 : wc.cell? ⟨gb738, 0, none⟩ = some (.int .i64 ((rd_T56 l0 x9_1).f0)) := (blk_cell BK738.out 0).trans rfl
            have hcz112_1 : wc.cell? ⟨gb738, 1, none⟩ = some (.int .i64 ((rd_T56 l0 x9_1).f1.f0)) := (blk_cell BK738.out 1).trans rfl
            have hcz112_2 : wc.cell? ⟨gb738, 2, none⟩ = some (.string ((rd_T56 l0 x9_1).f1.f1)) := (blk_cell BK738.out 2).trans rfl
            have hcz112_3 : wc.cell? ⟨gb738, 3, none⟩ = some (.int .i64 ((rd_T56 l0 x9_1).f2)) := (blk_cell BK738.out 3).trans rfl
            have hfz112_0 := blk_frozen BK738.out 0
            have hfz112_1 := blk_frozen BK738.out 1
            have hfz112_2 := blk_frozen BK738.out 2
            have hfz112_3 := blk_frozen BK738.out 3
            have hcz113_0 : wc.cell? ⟨gb739, 0, none⟩ = some (.int .i64 0) := (blk_cell BK739.out 0).trans rfl
            have hcz113_1 : wc.cell? ⟨gb739, 1, none⟩ = some (.int .i64 0) := (blk_cell BK739.out 1).trans rfl
            have hcz113_2 : wc.cell? ⟨gb739, 2, none⟩ = some (.slice none 0 0) := (blk_cell BK739.out 2).trans rfl
            have hfz113_0 := blk_frozen BK739.out 0
            have hfz113_1 := blk_frozen BK739.out 1
            have hfz113_2 := blk_frozen BK739.out 2
            go_wp2_with (first | ((with_reducible refine gate_builtin (b := .append) (xs := #[.tmp 119, .tmp 121]) rfl ?_); at_builtin; refine Kd.S_append k54 (w0 := w) w.heap.size rfl (.tmp 119) (.tmp 121) 50 54 (.agg #[(.int .i64 0), (.int .i64 0), (.slice none 0 0)]) 40 rfl Try.underlying50 info54 rfl (by decide) (by omega) u4 x4_1 (⟨11, 0, ([] : List (S45))⟩ : S54) [.int .i64 11, .int .i64 0, .slice none 0 0] (fun k_ => k_ ≠ gb739) (fun _ => False) rfl (by first | (go_simp; done) | (go_simp; rfl)) ?aP (fun k_ hk_ => hk_.elim) ?aF ?aO ?aB ?aS ?aL ?_; (case aP => exact k54_mkM _ _ _ (⟨11, 0, ([] : List (S45))⟩ : S54) (Kd.R_nil _ _ _ _ _)); (case aB => exact (by repeat (first | (with_reducible first | exact HB.out | apply below_alloc | apply pw_below_drewN | apply below_drew1 | refine below_set ?_ GE738.out | refine below_set ?_ GE739.out) | exact HB.out))); (case aF => exact (fun k_ hk => Kd.freshB (g := gb739) (o := .cells #[.int .i64 11, .int .i64 0, .slice none 0 0] 54 (0, 0)) (by (with_reducible repeat (first | refine blk_drewN ?_ _ | refine blk_drew ?_ | refine blk_alloc ?_ _)); refine blk_put (cs := #[.int .i64 0, .int .i64 0, .slice none 0 0]) ?_ 0 _ rfl; (with_reducible repeat (first | refine blk_drewN ?_ _ | refine blk_drew ?_ | refine blk_alloc ?_ _)); exact BK739.out) k_ hk)); (case aO => exact (by (with_reducible repeat (first | apply Kd.S_alloc | apply Kd.S_drewN | apply Kd.S_drew)); exact Kd.S_mono (Kd.S_far (p := ⟨gb739, 0, none⟩) (Kd.S_mono HO_4.out (fun k_ hk => (⟨hk, hk⟩ : _ ∧ k_ ≠ gb739))) (fun _ hk => hk.2) (.int .i64 11)) (fun k_ hk => ⟨hk.1, fun e_ => e_⟩))); (case aS => exact (below_size (by repeat (first | (with_reducible first | exact HB.out | apply below_alloc | apply pw_below_drewN | apply below_drew1 | refine below_set ?_ GE738.out | refine below_set ?_ GE739.out) | exact HB.out)))); (case aL => have := LMc110.out; omega); intro v774 w114 ho hb hg hat; rw [← Ny773.out] at ho; have n0_ := Aside0.mk (blk_grown (g := gb738) (o := .cells #[.int .i64 ((rd_T56 l0 x9_1).f0), .int .i64 ((rd_T56 l0 x9_1).f1.f0), .string ((rd_T56 l0 x9_1).f1.f1), .int .i64 ((rd_T56 l0 x9_1).f2)] 56 (0, 0)) (by (with_reducible repeat (first | refine blk_drewN ?_ _ | refine blk_drew ?_ | refine blk_alloc ?_ _)); refine blk_far ?_ NB738_739.out _; (with_reducible repeat (first | refine blk_drewN ?_ _ | refine blk_drew ?_ | refine blk_alloc ?_ _)); exact BK738.out) hg (Kd.S_ne HO_4.out BK738.out (by decide))); have n1_ := Aside0.mk (blk_grown (g := gb739) (o := .cells #[.int .i64 11, .int .i64 0, .slice none 0 0] 54 (0, 0)) (by (with_reducible repeat (first | refine blk_drewN ?_ _ | refine blk_drew ?_ | refine blk_alloc ?_ _)); refine blk_put (cs := #[.int .i64 0, .int .i64 0, .slice none 0 0]) ?_ 0 _ rfl; (with_reducible repeat (first | refine blk_drewN ?_ _ | refine blk_drew ?_ | refine blk_alloc ?_ _)); exact BK739.out) hg (Kd.S_away HO_4.out (fun _ hk => hk))); have n2_ := Aside0.mk (hb); have n3_ := Aside0.mk (ho); clear BK738; clear BK739; clear HB; clear HO_4; have BK738 := n0_; have BK739 := n1_; have HB := n2_; have HO775 := n3_; clear n0_ n1_ n2_ n3_; clear ho hb hg hat))
            go_roundg kj8
            case measure => have := HK1.out; have := HJ8.out; omega
            case rel => exact ⟨(y773), (x5_1), (x6_1), (x7_1), (false), (wrap64 (x9_1 + 1)), (by first | rfl | (simp; done) | (simp [*]; done)), (by first | rfl | (simp; done) | (simp [*]; done)), (by first | rfl | (simp; done) | (simp [*]; done)), (by first | rfl | (simp; done) | (simp [*]; done)), (by first | rfl | (simp; done) | (simp [*]; done)), H', ⟨by have := HK1.out; have := HJ8.out; omega⟩, ⟨by (with_reducible repeat (first | apply Kd.S_alloc | apply Kd.S_drewN | apply Kd.S_drew)); exact Kd.S_mono HO775.out (fun _ hk => trivial)⟩, ⟨by repeat (first | (with_reducible first | exact HB.out | apply below_alloc | apply pw_below_drewN | apply below_drew1 | refine below_set ?_ GE738.out | refine below_set ?_ GE739.out) | exact HB.out)⟩⟩
           ·rw [if_neg c110] at H
            cases H
     ·rw [if_neg c8] at H
      cases H
    ·rw [if_neg c7] at H
     have c7b0 : decide (x9_1 < (l0.length : Int)) = false := decide_eq_false c7
     clear c7
     simp only [Option.some.injEq, Prod.mk.injEq] at H
     obtain ⟨rfl, rfl⟩ := H
     go_wp2
     go_ret2
     exact ⟨_, by first | rfl | (simp [errW_none, errW_some] <;> rfl) | (simp [*, errW_none, errW_some] <;> rfl), by (with_reducible repeat (first | apply Kd.S_alloc | apply Kd.S_drewN | apply Kd.S_drew)); exact HO_4.out, zb⟩

end Go.Proofs.Ytnicllekmkkhlaa.QFnDiskSafe
