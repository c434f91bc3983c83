/- A group's node: the program's members and term: written by a program of this session and, where no program prints it, by hand. No condition. -/
import Derived.Test.YtkfjgloalfpcmaaYsA
namespace Go.Proofs.Ytkfjgloalfpcmaa.QFnExactNodeOK
open Go.RowKit Go.Proofs.YtkfjgloalfpcmaaW.PrintWords Go.Proofs.YtkfjgloalfpcmaaW.PrintLast Go.Proofs.YtkfjgloalfpcmaaW.PrintMore
attribute [local go_sem] max2_int min2_int max_two min_two max_three min_three max_four min_four str_gtr str_leq str_geq pw_at_slice
set_option linter.unusedVariables false
set_option linter.unusedSimpArgs false
def impl_NodeCompact.m0 : Nat → List (S54) → Int → Int → Int → Int → Option (Int × Int × Int)
 | 0, _, _, _, _, _ => none
 | k + 1, l, b, bo, bn, i => if i > b then (if 0 ≤ (wrap64 ((wrap64 (i - b)) - 1)) then (if (wrap64 ((wrap64 (i - b)) - 1)) < (l.length : Int) then (if (rd_T54 l (wrap64 ((wrap64 (i - b)) - 1))).f1 = 3 then some ((rd_T54 l (wrap64 ((wrap64 (i - b)) - 1))).f3, (rd_T54 l (wrap64 ((wrap64 (i - b)) - 1))).f4, i) else impl_NodeCompact.m0 k l b bo bn (wrap64 (i - 1))) else none) else none) else some (bo, bn, b)
set_option maxHeartbeats 8000000 in
set_option maxRecDepth 100000 in
theorem impl_NodeCompact.mcalls (k g : Nat) (A : Option Addr) (c : Nat) (l : List (S54)) (b bo bn u r1 r2 r3 : Int) (w : World) (h5 : w.cell? ⟨g, 5, none⟩ = some (.slice A l.length c)) (h6 : w.cell? ⟨g, 6, none⟩ = some (.int .i64 b)) (h8 : w.cell? ⟨g, 8, none⟩ = some (.int .i64 bo)) (h9 : w.cell? ⟨g, 9, none⟩ = some (.int .i64 bn)) (hr5 : Kd.C k54 w A l.length l) (h : impl_NodeCompact.m0 k l b bo bn u = some (r1, r2, r3)) :
  Calls Try.prog 49 #[.pointer (some ⟨g, 0, none⟩), .int .i64 u] w fun e w' => e = .returned (.tuple #[.int .i64 r1, .int .i64 r2, .int .i64 r3]) ∧ Below w.heap.size w w' := by
 have hu54 := Try.underlying54
 have HR5 := Aside0.mk hr5
 have H5 := Aside0.mk h5
 have H6 := Aside0.mk h6
 have H8 := Aside0.mk h8
 have H9 := Aside0.mk h9
 clear hr5
 have HB := Aside0.mk (Below.refl w.heap.size w)
 have H' := Aside0.mk h
 clear h
 go_enter Try.func49, Try.ntmps49
 go_wp2
 go_loopg [7] k (fun kq v7 w' => ∃ (i : Int), v7 = .int .i64 i ∧ Aside0 (impl_NodeCompact.m0 kq l b bo bn i = some (r1, r2, r3)) ∧ Aside0 (kq ≤ k) ∧ Aside0 (Below w.heap.size w w'))
 case atStart => exact ⟨u, (by first | rfl | (simp; done) | (simp [*]; done)), H', ⟨Nat.le_refl _⟩, ⟨zb⟩⟩
 case round =>
  clear H' h5 h6 h8 h9 HB
  obtain ⟨i, rfl, HA, HK1, HB⟩ := hrel
  cases gk with
  | zero => exact absurd HA.out (by simp [impl_NodeCompact.m0])
  | succ k1 =>
   have H := HA.out
   clear HA
   simp only [impl_NodeCompact.m0] at H
   have h6 := (HB.out.cell (World.block_lt_of_cell? w _ H6.out)).trans H6.out
   by_cases c4 : i > b
   ·rw [if_pos c4] at H
    have c4b0 : decide (i > b) = true := decide_eq_true c4
    have c4b1 : decide (b < i) = true := decide_eq_true c4
    clear c4
    obtain ⟨ji, hji⟩ : ∃ j_ : Int, wrap64 ((wrap64 (i - b)) - 1) = j_ := ⟨_, rfl⟩
    rw [hji] at H
    by_cases c6 : 0 ≤ ji
    ·rw [if_pos c6] at H
     by_cases c7 : ji < (l.length : Int)
     ·rw [if_pos c7] at H
      have HH := Aside0.mk H
      clear H
      obtain ⟨ad, e_, hx_0, hx_1, hx_2, hx_3, hx_4⟩ := at_T54 HR5.out ji c6 c7
      cases e_
      replace hx_0 := (HB.out.cell (World.block_lt_of_cell? w _ hx_0)).trans hx_0
      replace hx_1 := (HB.out.cell (World.block_lt_of_cell? w _ hx_1)).trans hx_1
      replace hx_2 := (HB.out.cell (World.block_lt_of_cell? w _ hx_2)).trans hx_2
      replace hx_3 := (HB.out.cell (World.block_lt_of_cell? w _ hx_3)).trans hx_3
      replace hx_4 := (HB.out.cell (World.block_lt_of_cell? w _ hx_4)).trans hx_4
      have h5 := (HB.out.cell (World.block_lt_of_cell? w _ H5.out)).trans H5.out
      replace c6 := eq_true c6
      replace c7 := eq_true c7
      go_upto_region 4 with (fail)
      refine start_ (n := 15) (S := fun w' => w'.cell? ⟨g, 5, none⟩ = some (.slice (some ad) l.length c) ∧ w'.cell? ⟨g, 6, none⟩ = some (.int .i64 b) ∧ w'.cell? (ad.add (ji.toNat * 5)) = some (.int .i64 (rd_T54 l ji).f0) ∧ w'.cell? ⟨(ad.add (ji.toNat * 5)).block, (ad.add (ji.toNat * 5)).off + 1, none⟩ = some (.int .i64 (rd_T54 l ji).f1) ∧ w'.cell? ⟨(ad.add (ji.toNat * 5)).block, (ad.add (ji.toNat * 5)).off + 2, none⟩ = some (.string (rd_T54 l ji).f2) ∧ w'.cell? ⟨(ad.add (ji.toNat * 5)).block, (ad.add (ji.toNat * 5)).off + 3, none⟩ = some (.int .i64 (rd_T54 l ji).f3) ∧ w'.cell? ⟨(ad.add (ji.toNat * 5)).block, (ad.add (ji.toNat * 5)).off + 4, none⟩ = some (.int .i64 (rd_T54 l ji).f4)) (ds := [14]) #[false, false, false, false, false, false, false, false, false, false, false, false, false, false, false] (by kernel_rfl) rfl rfl ⟨h5, h6, hx_0, hx_1, hx_2, hx_3, hx_4⟩ (fun hHeld => ?_)
      have n0_ := Aside0.mk (below_drew1 HB.out)
      clear HB h5 h6 hx_0 hx_1 hx_2 hx_3 hx_4
      have HB := n0_
      clear n0_
      generalize wr.drew = w5 at HB hHeld ⊢
      refine zp 0 18 ?_ (hc := by kernel_rfl)
      refine zp 1 19 ?_ (hc := by kernel_rfl)
      refine zp 2 20 ?_ (hc := by kernel_rfl)
      refine zt 3 21 ?_ (hc := by kernel_rfl) (hr := by rintro w' ⟨s5, s6, s0, s1, s2, s3, s4⟩; go_simp; with_reducible rfl)
      refine zp 4 22 ?_ (hc := by kernel_rfl)
      refine zp 5 23 ?_ (hc := by kernel_rfl)
      refine zp 6 24 ?_ (hc := by kernel_rfl)
      refine zp 7 25 ?_ (hc := by kernel_rfl)
      refine zt 8 26 ?_ (hc := by kernel_rfl) (hr := by rintro w' ⟨s5, s6, s0, s1, s2, s3, s4⟩; go_simp; with_reducible rfl)
      refine zp 9 27 ?_ (hc := by kernel_rfl)
      refine zp 10 28 ?_ (hc := by kernel_rfl)
      rw [hji]
      refine zp 11 29 ?_ (hc := by kernel_rfl)
      refine zt 12 30 ?_ (hc := by kernel_rfl) (hr := by rintro w' ⟨s5, s6, s0, s1, s2, s3, s4⟩; go_simp; with_reducible rfl)
      refine one_ (i := 13) (N := some 8) #[true, true, true, true, true, true, true, true, true, true, true, true, true, true, false] rfl rfl (by kernel_rfl) (by decide) (fun K hK => ?_)
      refine impl_NodeSum.val_ (by rfl) (v := .pointer (some ⟨w5.heap.size, 0, none⟩)) (W' := w5.alloc (.cells #[.int .i64 0, .int .i64 0, .string (⟨#[]⟩ : ByteArray), .int .i64 0, .int .i64 0] 54 (0, 0))) (by first | (go_simp; done) | (go_simp; rfl)) ?_
      have ha : Below w5.heap.size w5 (w5.alloc (.cells #[.int .i64 0, .int .i64 0, .string (⟨#[]⟩ : ByteArray), .int .i64 0, .int .i64 0] 54 (0, 0))) := below_alloc (Below.refl _ _) _
      refine hK.out _ _ ⟨(ha.cell (World.block_lt_of_cell? w5 _ hHeld.1)).trans hHeld.1, (ha.cell (World.block_lt_of_cell? w5 _ hHeld.2.1)).trans hHeld.2.1, (ha.cell (World.block_lt_of_cell? w5 _ hHeld.2.2.1)).trans hHeld.2.2.1, (ha.cell (World.block_lt_of_cell? w5 _ hHeld.2.2.2.1)).trans hHeld.2.2.2.1, (ha.cell (World.block_lt_of_cell? w5 _ hHeld.2.2.2.2.1)).trans hHeld.2.2.2.2.1, (ha.cell (World.block_lt_of_cell? w5 _ hHeld.2.2.2.2.2.1)).trans hHeld.2.2.2.2.2.1, (ha.cell (World.block_lt_of_cell? w5 _ hHeld.2.2.2.2.2.2)).trans hHeld.2.2.2.2.2.2⟩ (fun hHeld => ?_)
      clear hK K
      refine norm_ (a' := ?_) ?_ ?_
      rotate_left
      ·show Act.put _ (some 8) _ = _
       simp only [Act.put, List.setIfInBounds_toArray, List.set_cons_zero, List.set_cons_succ, i64_w, i32_w]
       rfl
      refine last_ (i := 14) (N := none) #[true, true, true, true, true, true, true, true, true, true, true, true, true, true, true] rfl rfl (by kernel_rfl) (by decide) (fun K hK => ?_)
      refine impl_NodeSum.skip_ (by rfl) (W' := w5.alloc (.cells #[.int .i64 ((rd_T54 l ji).f0), .int .i64 ((rd_T54 l ji).f1), .string ((rd_T54 l ji).f2), .int .i64 ((rd_T54 l ji).f3), .int .i64 ((rd_T54 l ji).f4)] 54 (0, 0))) (by first | (go_simp; done) | (go_simp; rfl)) ?_
      refine hK.out _ _ ?_
      clear hK K
      refine done_ (by kernel_rfl) ?_
      obtain ⟨g7, hg7⟩ : ∃ g7, w5.heap.size = g7 := ⟨_, rfl⟩
      have Bg7 : Aside0 ((w5.alloc (.cells #[.int .i64 ((rd_T54 l ji).f0), .int .i64 ((rd_T54 l ji).f1), .string ((rd_T54 l ji).f2), .int .i64 ((rd_T54 l ji).f3), .int .i64 ((rd_T54 l ji).f4)] 54 (0, 0))).heap[g7]? = some (.cells #[.int .i64 ((rd_T54 l ji).f0), .int .i64 ((rd_T54 l ji).f1), .string ((rd_T54 l ji).f2), .int .i64 ((rd_T54 l ji).f3), .int .i64 ((rd_T54 l ji).f4)] 54 (0, 0))) := ⟨by rw [← hg7]; exact blk_new _ _⟩
      have n0_ : Aside0 (Below w.heap.size w (w5.alloc (.cells #[.int .i64 ((rd_T54 l ji).f0), .int .i64 ((rd_T54 l ji).f1), .string ((rd_T54 l ji).f2), .int .i64 ((rd_T54 l ji).f3), .int .i64 ((rd_T54 l ji).f4)] 54 (0, 0)))) := ⟨below_alloc HB.out _⟩
      clear HB hHeld ha
      have HB := n0_
      clear n0_
      rw [hg7]
      generalize w5.alloc (.cells #[.int .i64 ((rd_T54 l ji).f0), .int .i64 ((rd_T54 l ji).f1), .string ((rd_T54 l ji).f2), .int .i64 ((rd_T54 l ji).f3), .int .i64 ((rd_T54 l ji).f4)] 54 (0, 0)) = w6 at HB Bg7 ⊢
      clear hg7
      have hc_0 : w6.cell? ⟨g7, 0, none⟩ = some (.int .i64 ((rd_T54 l ji).f0)) := (blk_cell Bg7.out 0).trans rfl; have hf_0 := blk_frozen Bg7.out 0
      have hc_1 : w6.cell? ⟨g7, 1, none⟩ = some (.int .i64 ((rd_T54 l ji).f1)) := (blk_cell Bg7.out 1).trans rfl; have hf_1 := blk_frozen Bg7.out 1
      have hc_2 : w6.cell? ⟨g7, 2, none⟩ = some (.string ((rd_T54 l ji).f2)) := (blk_cell Bg7.out 2).trans rfl; have hf_2 := blk_frozen Bg7.out 2
      have hc_3 : w6.cell? ⟨g7, 3, none⟩ = some (.int .i64 ((rd_T54 l ji).f3)) := (blk_cell Bg7.out 3).trans rfl; have hf_3 := blk_frozen Bg7.out 3
      have hc_4 : w6.cell? ⟨g7, 4, none⟩ = some (.int .i64 ((rd_T54 l ji).f4)) := (blk_cell Bg7.out 4).trans rfl; have hf_4 := blk_frozen Bg7.out 4
      have H := HH.out
      clear HH
      by_cases c8 : (rd_T54 l ji).f1 = 3
      ·rw [if_pos c8] at H
       have c8b0 : ((rd_T54 l ji).f1 == 3) = true := beq_iff_eq.mpr c8
       clear c8
       simp only [Option.some.injEq, Prod.mk.injEq] at H
       obtain ⟨rfl, rfl, rfl⟩ := H
       go_wp2
       go_quiet (fail)
       go_wp2
       go_ret3
       exact ⟨by first | rfl | (simp; done) | (simp [*]; done), zb⟩
      ·rw [if_neg c8] at H
       have c8b0 : ((rd_T54 l ji).f1 == 3) = false := beq_eq_false_iff_ne.mpr c8
       clear c8
       have H' := Aside0.mk H
       clear H
       go_wp2
       go_roundg k1
       case measure => have := HK1.out; omega
       case rel => exact ⟨wrap64 (i - 1), (by first | rfl | (simp; done) | (simp [*]; done)), H', ⟨by have := HK1.out; omega⟩, ⟨zb⟩⟩
     ·rw [if_neg c7] at H
      cases H
    ·rw [if_neg c6] at H
     cases H
   ·rw [if_neg c4] at H
    have c4b0 : decide (i > b) = false := decide_eq_false c4
    have c4b1 : decide (b < i) = false := decide_eq_false c4
    clear c4
    simp only [Option.some.injEq, Prod.mk.injEq] at H
    obtain ⟨rfl, rfl, rfl⟩ := H
    have h8 := (HB.out.cell (World.block_lt_of_cell? w _ H8.out)).trans H8.out
    have h9 := (HB.out.cell (World.block_lt_of_cell? w _ H9.out)).trans H9.out
    go_wp2
    go_quiet (fail)
    go_wp2
    go_ret3
    exact ⟨by first | rfl | (simp; done) | (simp [*]; done), zb⟩
def impl_NodeCompact.t (l : List (S54)) (b bt i : Int) : Option Int := if i = b then some bt else (if 0 ≤ (wrap64 ((wrap64 (i - b)) - 1)) then (if (wrap64 ((wrap64 (i - b)) - 1)) < (l.length : Int) then some (rd_T54 l (wrap64 ((wrap64 (i - b)) - 1))).f0 else none) else none)
set_option maxHeartbeats 8000000 in
set_option maxRecDepth 100000 in
theorem impl_NodeCompact.tcalls (g : Nat) (A : Option Addr) (c : Nat) (l : List (S54)) (b bt i r : Int) (w : World) (h5 : w.cell? ⟨g, 5, none⟩ = some (.slice A l.length c)) (h6 : w.cell? ⟨g, 6, none⟩ = some (.int .i64 b)) (h7 : w.cell? ⟨g, 7, none⟩ = some (.int .i64 bt)) (hr5 : Kd.C k54 w A l.length l) (h : impl_NodeCompact.t l b bt i = some r) :
  Calls Try.prog 50 #[.pointer (some ⟨g, 0, none⟩), .int .i64 i] w fun e w' => e = .returned (.int .i64 r) ∧ Below w.heap.size w w' := by
 have HB := Aside0.mk (Below.refl w.heap.size w)
 unfold impl_NodeCompact.t at h
 by_cases c1 : i = b
 ·rw [if_pos c1] at h
  have c1b : (i == b) = true := beq_iff_eq.mpr c1
  clear c1
  simp only [Option.some.injEq] at h
  obtain rfl := h
  go_enter Try.func50, Try.ntmps50
  go_wp2
  go_ret
  exact ⟨by first | rfl | (simp; done) | (simp [*]; done), zb⟩
 ·rw [if_neg c1] at h
  have c1b : (i == b) = false := beq_eq_false_iff_ne.mpr c1
  clear c1
  obtain ⟨ji, hji⟩ : ∃ j_ : Int, wrap64 ((wrap64 (i - b)) - 1) = j_ := ⟨_, rfl⟩
  rw [hji] at h
  have hjw : IntKind.i64.wrap ((IntKind.i64.wrap (i - b)) - 1) = ji := by rw [i64_w, i64_w]; exact hji
  by_cases c6 : 0 ≤ ji
  ·rw [if_pos c6] at h
   by_cases c7 : ji < (l.length : Int)
   ·rw [if_pos c7] at h
    simp only [Option.some.injEq] at h
    obtain rfl := h
    obtain ⟨ad, e_, hx_0, hx_1, hx_2, hx_3, hx_4⟩ := at_T54 hr5 ji c6 c7
    cases e_
    replace c6 := eq_true c6
    replace c7 := eq_true c7
    go_enter Try.func50, Try.ntmps50
    go_wp2
    go_quiet (fail)
    go_wp2
    go_ret
    exact ⟨by first | rfl | (simp; done) | (simp [*]; done), zb⟩
   ·rw [if_neg c7] at h
    exact absurd h (by simp)
  ·rw [if_neg c6] at h
   exact absurd h (by simp)

end Go.Proofs.Ytkfjgloalfpcmaa.QFnExactNodeOK
