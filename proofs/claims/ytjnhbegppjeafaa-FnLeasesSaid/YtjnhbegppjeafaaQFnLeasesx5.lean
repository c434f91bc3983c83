/- The functions that the law reaches, each as a plain Lean function with the proof that the Go code comes to its answers: written by a program of this session. No condition. -/
import Derived.Test.YtjnhbegppjeafaaQFnLeasesx0
import Derived.Test.YtjnhbegppjeafaaQFnLeasesx4
namespace Go.Proofs.Ytjnhbegppjeafaa.QFnLeases
open Go.RowKit Go.Proofs.YtjnhbegppjeafaaW.PrintWords Go.Proofs.YtjnhbegppjeafaaW.PrintLast Go.Proofs.YtjnhbegppjeafaaW.PrintMore
attribute [local go_sem] max2_int min2_int max_two min_two max_three min_three max_four min_four str_gtr str_leq str_geq pw_at_slice   -- for this text's walks alone
set_option linter.unusedVariables false
set_option linter.unusedSimpArgs false

/-! ### impl_LeaseRun: function 17 -/
set_option maxRecDepth 100000 in
mutual
def impl_LeaseRun.l0 : Nat → Int → Int → List Int → List Int → List (S37) → List (S39) → Int → Int → Option ((List (S37)) × Int)
 | 0, _, _, _, _, _, _, _, _ => none
 | k + 1, x4, x5, x6, x7, x8, x17, x18, x19 => if x19 < x18 then (if 0 ≤ x19 then (if x19 < (x17.length : Int) then (if ((rd_T39 x17 x19).f0) = 2 then (impl_LeaseRun.j1 k x4 x5 x6 x7 x8 true x17 x18 x19 ((rd_T39 x17 x19).f0) ((rd_T39 x17 x19).f1) ((rd_T39 x17 x19).f2) 0 0) else (if ((rd_T39 x17 x19).f0) = 3 then (impl_LeaseRun.j1 k x4 x5 x6 x7 x8 true x17 x18 x19 ((rd_T39 x17 x19).f0) ((rd_T39 x17 x19).f1) ((rd_T39 x17 x19).f2) 0 0) else (impl_LeaseRun.j1 k x4 x5 x6 x7 x8 (((rd_T39 x17 x19).f0) == 4) x17 x18 x19 ((rd_T39 x17 x19).f0) ((rd_T39 x17 x19).f1) ((rd_T39 x17 x19).f2) 0 0))) else (none)) else (none)) else (some (x8, 0))
def impl_LeaseRun.j1 : Nat → Int → Int → List Int → List Int → List (S37) → Bool → List (S39) → Int → Int → Int → Int → Int → Int → Int → Option ((List (S37)) × Int)
 | 0, _, _, _, _, _, _, _, _, _, _, _, _, _, _ => none
 | k + 1, x4, x5, x6, x7, x8, x12, x17, x18, x19, x719000, x719001, x719002, x720000, x720001 => if x719000 < 1 then (impl_LeaseRun.j2 k x4 x5 x6 x7 x8 x17 x18 x19 true x719000 x719001 x719002 x720000 x720001) else (if x719000 > 5 then (impl_LeaseRun.j2 k x4 x5 x6 x7 x8 x17 x18 x19 true x719000 x719001 x719002 x720000 x720001) else (if x12 = true then ((impl_kWithin.f x719001 0 7).bind fun t720 => (if t720 = true then (if x719000 = 1 then ((impl_kWithin.f x719002 0 1000).bind fun t721 => (impl_LeaseRun.j2 k x4 x5 x6 x7 x8 x17 x18 x19 (!t721) x719000 x719001 x719002 x720000 x720001)) else (impl_LeaseRun.j2 k x4 x5 x6 x7 x8 x17 x18 x19 false x719000 x719001 x719002 x720000 x720001)) else (impl_LeaseRun.j2 k x4 x5 x6 x7 x8 x17 x18 x19 true x719000 x719001 x719002 x720000 x720001))) else (if x719000 = 1 then ((impl_kWithin.f x719002 0 1000).bind fun t722 => (impl_LeaseRun.j2 k x4 x5 x6 x7 x8 x17 x18 x19 (!t722) x719000 x719001 x719002 x720000 x720001)) else (impl_LeaseRun.j2 k x4 x5 x6 x7 x8 x17 x18 x19 false x719000 x719001 x719002 x720000 x720001))))
def impl_LeaseRun.j2 : Nat → Int → Int → List Int → List Int → List (S37) → List (S39) → Int → Int → Bool → Int → Int → Int → Int → Int → Option ((List (S37)) × Int)
 | 0, _, _, _, _, _, _, _, _, _, _, _, _, _, _ => none
 | k + 1, x4, x5, x6, x7, x8, x17, x18, x19, x67, x719000, x719001, x719002, x720000, x720001 => if x67 = true then (if x8.length < 8796093022208 then (impl_LeaseRun.l0 k x4 x5 x6 x7 (x8 ++ [(⟨1, x720001⟩ : S37)]) x17 x18 (wrap64 (x19 + 1))) else (none)) else (if x719000 = 1 then (if x8.length < 8796093022208 then (impl_LeaseRun.l0 k (wrap64 (x4 + x719002)) x5 x6 x7 (x8 ++ [(⟨x720000, x720001⟩ : S37)]) x17 x18 (wrap64 (x19 + 1))) else (none)) else (if x719000 = 2 then (if 0 ≤ x719001 then (if x719001 < 8 then (if x719001 < (x6.length : Int) then (if x719001 < (x7.length : Int) then (if x8.length < 8796093022208 then (impl_LeaseRun.l0 k x4 x5 (x6.set (x719001 : Int).toNat x5) (x7.set (x719001 : Int).toNat (wrap64 (x4 + 10))) (x8 ++ [(⟨x720000, x5⟩ : S37)]) x17 x18 (wrap64 (x19 + 1))) else (none)) else (none)) else (none)) else (none)) else (none)) else (if x719000 = 3 then (if 0 ≤ x719001 then (if x719001 < 8 then (if x719001 < (x6.length : Int) then (if (rd x6 x719001) = 0 then (if x8.length < 8796093022208 then (impl_LeaseRun.l0 k x4 x5 x6 x7 (x8 ++ [(⟨10, x720001⟩ : S37)]) x17 x18 (wrap64 (x19 + 1))) else (none)) else (if x719001 < (x7.length : Int) then (if x4 ≥ (rd x7 x719001) then (if x8.length < 8796093022208 then (impl_LeaseRun.l0 k x4 x5 x6 x7 (x8 ++ [(⟨10, x720001⟩ : S37)]) x17 x18 (wrap64 (x19 + 1))) else (none)) else (if x8.length < 8796093022208 then (impl_LeaseRun.l0 k x4 x5 x6 x7 (x8 ++ [(⟨x720000, rd x6 x719001⟩ : S37)]) x17 x18 (wrap64 (x19 + 1))) else (none))) else (none))) else (none)) else (none)) else (none)) else (if x719000 = 4 then (if 0 ≤ x719001 then (if x719001 < 8 then (if x719001 < (x6.length : Int) then (if x8.length < 8796093022208 then (impl_LeaseRun.l0 k x4 x5 (x6.set (x719001 : Int).toNat 0) x7 (x8 ++ [(⟨x720000, x720001⟩ : S37)]) x17 x18 (wrap64 (x19 + 1))) else (none)) else (none)) else (none)) else (none)) else (impl_LeaseRun.l1 k x4 x5 x6 x7 x8 x17 x18 x19 0 x720000 x720001)))))
def impl_LeaseRun.l1 : Nat → Int → Int → List Int → List Int → List (S37) → List (S39) → Int → Int → Int → Int → Int → Option ((List (S37)) × Int)
 | 0, _, _, _, _, _, _, _, _, _, _, _ => none
 | k + 1, x4, x5, x6, x7, x8, x17, x18, x19, x37, x720000, x720001 => if x37 < 8 then (if 0 ≤ x37 then (if x37 < (x6.length : Int) then (if (rd x6 x37) > 0 then (if (rd x6 x37) < x5 then (if x37 < (x7.length : Int) then (if x4 < (rd x7 x37) then (impl_LeaseRun.l1 k x4 x5 x6 x7 x8 x17 x18 x19 (wrap64 (x37 + 1)) 13 x720001) else (impl_LeaseRun.l1 k x4 x5 x6 x7 x8 x17 x18 x19 (wrap64 (x37 + 1)) x720000 x720001)) else (none)) else (impl_LeaseRun.l1 k x4 x5 x6 x7 x8 x17 x18 x19 (wrap64 (x37 + 1)) x720000 x720001)) else (impl_LeaseRun.l1 k x4 x5 x6 x7 x8 x17 x18 x19 (wrap64 (x37 + 1)) x720000 x720001)) else (none)) else (none)) else (if x720000 = 0 then (if x8.length < 8796093022208 then (impl_LeaseRun.l0 k x4 (wrap64 (x5 + 1)) x6 x7 (x8 ++ [(⟨x720000, wrap64 (x5 + 1)⟩ : S37)]) x17 x18 (wrap64 (x19 + 1))) else (none)) else (if x8.length < 8796093022208 then (impl_LeaseRun.l0 k x4 x5 x6 x7 (x8 ++ [(⟨x720000, x720001⟩ : S37)]) x17 x18 (wrap64 (x19 + 1))) else (none)))
end
def impl_LeaseRun.f (k : Nat) (l0 : List (S39)) : Option ((List (S37)) × Int) := if (l0.length : Int) > 500 then (some (([] : List (S37)), 1)) else (impl_LeaseRun.l0 k 0 1 (([0, 0, 0, 0, 0, 0, 0, 0] : List Int)) (([0, 0, 0, 0, 0, 0, 0, 0] : List Int)) ([] : List (S37)) l0 (l0.length : Int) 0)
theorem impl_LeaseRun.mono_l : ∀ k, (∀ y0 y1 y2 y3 y4 y5 y6 y7, LeO (impl_LeaseRun.l0 k y0 y1 y2 y3 y4 y5 y6 y7) (impl_LeaseRun.l0 (k + 1) y0 y1 y2 y3 y4 y5 y6 y7)) ∧ (∀ y0 y1 y2 y3 y4 y5 y6 y7 y8 y9 y10 y11 y12 y13, LeO (impl_LeaseRun.j1 k y0 y1 y2 y3 y4 y5 y6 y7 y8 y9 y10 y11 y12 y13) (impl_LeaseRun.j1 (k + 1) y0 y1 y2 y3 y4 y5 y6 y7 y8 y9 y10 y11 y12 y13)) ∧ (∀ y0 y1 y2 y3 y4 y5 y6 y7 y8 y9 y10 y11 y12 y13, LeO (impl_LeaseRun.j2 k y0 y1 y2 y3 y4 y5 y6 y7 y8 y9 y10 y11 y12 y13) (impl_LeaseRun.j2 (k + 1) y0 y1 y2 y3 y4 y5 y6 y7 y8 y9 y10 y11 y12 y13)) ∧ (∀ y0 y1 y2 y3 y4 y5 y6 y7 y8 y9 y10, LeO (impl_LeaseRun.l1 k y0 y1 y2 y3 y4 y5 y6 y7 y8 y9 y10) (impl_LeaseRun.l1 (k + 1) y0 y1 y2 y3 y4 y5 y6 y7 y8 y9 y10))
 | 0 => ⟨fun _ _ _ _ _ _ _ _ r h => by simp [impl_LeaseRun.l0] at h, fun _ _ _ _ _ _ _ _ _ _ _ _ _ _ r h => by simp [impl_LeaseRun.j1] at h, fun _ _ _ _ _ _ _ _ _ _ _ _ _ _ r h => by simp [impl_LeaseRun.j2] at h, fun _ _ _ _ _ _ _ _ _ _ _ r h => by simp [impl_LeaseRun.l1] at h⟩
 | k + 1 => by
  obtain ⟨ih0, ih1, ih2, ih3⟩ := impl_LeaseRun.mono_l k
  refine ⟨?_, ?_, ?_, ?_⟩
  ·intro y0 y1 y2 y3 y4 y5 y6 y7
   unfold impl_LeaseRun.l0
   repeat' first
   | (with_reducible exact ih0 _ _ _ _ _ _ _ _)
   | (with_reducible exact ih1 _ _ _ _ _ _ _ _ _ _ _ _ _ _)
   | (with_reducible exact ih2 _ _ _ _ _ _ _ _ _ _ _ _ _ _)
   | (with_reducible exact ih3 _ _ _ _ _ _ _ _ _ _ _)
   | (with_reducible exact LeO.refl _)
   | (with_reducible exact LeO.none _)
   | (with_reducible refine LeO.ite ?_ ?_)
   | (with_reducible refine LeO.bind ?_ (fun _ => ?_))
   | exact ih0 _ _ _ _ _ _ _ _
   | exact ih1 _ _ _ _ _ _ _ _ _ _ _ _ _ _
   | exact ih2 _ _ _ _ _ _ _ _ _ _ _ _ _ _
   | exact ih3 _ _ _ _ _ _ _ _ _ _ _
   | exact LeO.none _
   | refine LeO.ite ?_ ?_
   | refine LeO.bind ?_ (fun _ => ?_)
  ·intro y0 y1 y2 y3 y4 y5 y6 y7 y8 y9 y10 y11 y12 y13
   unfold impl_LeaseRun.j1
   repeat' first
   | (with_reducible exact ih0 _ _ _ _ _ _ _ _)
   | (with_reducible exact ih1 _ _ _ _ _ _ _ _ _ _ _ _ _ _)
   | (with_reducible exact ih2 _ _ _ _ _ _ _ _ _ _ _ _ _ _)
   | (with_reducible exact ih3 _ _ _ _ _ _ _ _ _ _ _)
   | (with_reducible exact LeO.refl _)
   | (with_reducible exact LeO.none _)
   | (with_reducible refine LeO.ite ?_ ?_)
   | (with_reducible refine LeO.bind ?_ (fun _ => ?_))
   | exact ih0 _ _ _ _ _ _ _ _
   | exact ih1 _ _ _ _ _ _ _ _ _ _ _ _ _ _
   | exact ih2 _ _ _ _ _ _ _ _ _ _ _ _ _ _
   | exact ih3 _ _ _ _ _ _ _ _ _ _ _
   | exact LeO.none _
   | refine LeO.ite ?_ ?_
   | refine LeO.bind ?_ (fun _ => ?_)
  ·intro y0 y1 y2 y3 y4 y5 y6 y7 y8 y9 y10 y11 y12 y13
   unfold impl_LeaseRun.j2
   repeat' first
   | (with_reducible exact ih0 _ _ _ _ _ _ _ _)
   | (with_reducible exact ih1 _ _ _ _ _ _ _ _ _ _ _ _ _ _)
   | (with_reducible exact ih2 _ _ _ _ _ _ _ _ _ _ _ _ _ _)
   | (with_reducible exact ih3 _ _ _ _ _ _ _ _ _ _ _)
   | (with_reducible exact LeO.refl _)
   | (with_reducible exact LeO.none _)
   | (with_reducible refine LeO.ite ?_ ?_)
   | (with_reducible refine LeO.bind ?_ (fun _ => ?_))
   | exact ih0 _ _ _ _ _ _ _ _
   | exact ih1 _ _ _ _ _ _ _ _ _ _ _ _ _ _
   | exact ih2 _ _ _ _ _ _ _ _ _ _ _ _ _ _
   | exact ih3 _ _ _ _ _ _ _ _ _ _ _
   | exact LeO.none _
   | refine LeO.ite ?_ ?_
   | refine LeO.bind ?_ (fun _ => ?_)
  ·intro y0 y1 y2 y3 y4 y5 y6 y7 y8 y9 y10
   unfold impl_LeaseRun.l1
   repeat' first
   | (with_reducible exact ih0 _ _ _ _ _ _ _ _)
   | (with_reducible exact ih1 _ _ _ _ _ _ _ _ _ _ _ _ _ _)
   | (with_reducible exact ih2 _ _ _ _ _ _ _ _ _ _ _ _ _ _)
   | (with_reducible exact ih3 _ _ _ _ _ _ _ _ _ _ _)
   | (with_reducible exact LeO.refl _)
   | (with_reducible exact LeO.none _)
   | (with_reducible refine LeO.ite ?_ ?_)
   | (with_reducible refine LeO.bind ?_ (fun _ => ?_))
   | exact ih0 _ _ _ _ _ _ _ _
   | exact ih1 _ _ _ _ _ _ _ _ _ _ _ _ _ _
   | exact ih2 _ _ _ _ _ _ _ _ _ _ _ _ _ _
   | exact ih3 _ _ _ _ _ _ _ _ _ _ _
   | exact LeO.none _
   | refine LeO.ite ?_ ?_
   | refine LeO.bind ?_ (fun _ => ?_)
theorem impl_LeaseRun.mono : ∀ a0 k, LeO (impl_LeaseRun.f k a0) (impl_LeaseRun.f (k + 1) a0) := by
 intro a0 k
 obtain ⟨ih0, ih1, ih2, ih3⟩ := impl_LeaseRun.mono_l k
 unfold impl_LeaseRun.f
 repeat' first
   | (with_reducible exact ih0 _ _ _ _ _ _ _ _)
   | (with_reducible exact ih1 _ _ _ _ _ _ _ _ _ _ _ _ _ _)
   | (with_reducible exact ih2 _ _ _ _ _ _ _ _ _ _ _ _ _ _)
   | (with_reducible exact ih3 _ _ _ _ _ _ _ _ _ _ _)
   | (with_reducible exact LeO.refl _)
   | (with_reducible exact LeO.none _)
   | (with_reducible refine LeO.ite ?_ ?_)
   | (with_reducible refine LeO.bind ?_ (fun _ => ?_))
   | exact ih0 _ _ _ _ _ _ _ _
   | exact ih1 _ _ _ _ _ _ _ _ _ _ _ _ _ _
   | exact ih2 _ _ _ _ _ _ _ _ _ _ _ _ _ _
   | exact ih3 _ _ _ _ _ _ _ _ _ _ _
   | exact LeO.none _
   | refine LeO.ite ?_ ?_
   | refine LeO.bind ?_ (fun _ => ?_)
set_option maxHeartbeats 8000000 in
set_option maxRecDepth 100000 in
theorem impl_LeaseRun.calls (k : Nat) (A0 : Option Addr) (c0 : Nat) (l0 : List (S39)) (r1 : List (S37)) (r2 : Int) (w : World) (hr0 : Kd.C k39 w A0 l0.length l0) (hc0 : l0.length ≤ c0) (h : impl_LeaseRun.f k l0 = some (r1, r2)) :
  Calls Try.prog 17 #[.slice A0 l0.length c0] w fun e w' => ∃ v0_ : Value, e = .returned (.tuple #[v0_, .int .i64 r2]) ∧ Kd.R k37 37 w' w.heap.size (fun _ => True) v0_ r1 ∧ Below w.heap.size w w' := by
 have hu39 := Try.underlying39
 have hu37 := Try.underlying37
 have HR0 := Aside0.mk hr0
 have HC0 := Aside0.mk hc0
 clear hr0 hc0
 have HB := Aside0.mk (Below.refl w.heap.size w)
 have H : (if (l0.length : Int) > 500 then (some (([] : List (S37)), 1)) else (impl_LeaseRun.l0 k 0 1 (([0, 0, 0, 0, 0, 0, 0, 0] : List Int)) (([0, 0, 0, 0, 0, 0, 0, 0] : List Int)) ([] : List (S37)) l0 (l0.length : Int) 0)) = some (r1, r2) := h
 clear h
 by_cases c2 : (l0.length : Int) > 500
 ·rw [if_pos c2] at H
  have c2b0 : decide (500 < (l0.length : Int)) = true := decide_eq_true c2
  have c2b1 : decide (500 < l0.length) = true := decide_eq_true (by omega)
  clear c2
  simp only [Option.some.injEq, Prod.mk.injEq] at H
  obtain ⟨rfl, rfl⟩ := H
  go_enter Try.func17, Try.ntmps17
  as_aux_lemma =>
  go_wp2
  go_ret2
  exact ⟨_, by first | rfl | (simp [errW_none, errW_some] <;> rfl) | (simp [*, errW_none, errW_some] <;> rfl), by first | exact Kd.R_nil _ _ _ _ _ | exact Kd.N_nil _ _ _ _ _ | exact Kd.V_nil _ _ _ _ _ | exact Kd.Q_nil _ _ _ _ _ | exact Kd.S_nil _ _ _ _ _, zb⟩
 ·rw [if_neg c2] at H
  have c2b0 : decide (500 < (l0.length : Int)) = false := decide_eq_false c2
  have c2b1 : decide (500 < l0.length) = false := decide_eq_false (by omega)
  clear c2
  obtain ⟨y711, hy711⟩ : ∃ y_ : List Int, y_ = (([0, 0, 0, 0, 0, 0, 0, 0] : List Int)) := ⟨_, rfl⟩
  replace H : (impl_LeaseRun.l0 k 0 1 y711 (([0, 0, 0, 0, 0, 0, 0, 0] : List Int)) ([] : List (S37)) l0 (l0.length : Int) 0) = some (r1, r2) := by first | (rw [hy711]; with_reducible exact H) | (have H2_ := (Option.bind_some _ _).symm.trans H; rw [hy711]; with_reducible exact H2_) | (have H2_ := (Option.bind_some _ _).symm.trans H; with_reducible exact H2_) | with_reducible exact H | (rw [hy711]; exact H) | exact H
  have Ny711 := Aside0.mk hy711
  clear hy711
  obtain ⟨y714, hy714⟩ : ∃ y_ : List Int, y_ = (([0, 0, 0, 0, 0, 0, 0, 0] : List Int)) := ⟨_, rfl⟩
  replace H : (impl_LeaseRun.l0 k 0 1 y711 y714 ([] : List (S37)) l0 (l0.length : Int) 0) = some (r1, r2) := by first | (rw [hy714]; with_reducible exact H) | (have H2_ := (Option.bind_some _ _).symm.trans H; rw [hy714]; with_reducible exact H2_) | (have H2_ := (Option.bind_some _ _).symm.trans H; with_reducible exact H2_) | with_reducible exact H | (rw [hy714]; exact H) | exact H
  have Ny714 := Aside0.mk hy714
  clear hy714
  have H' := Aside0.mk H
  clear H
  go_enter Try.func17, Try.ntmps17
  as_aux_lemma =>
  go_wp2_with (first | ((with_reducible refine gate_dst (N := 6) rfl ?_); refine arr_event (Kd.int .i64) _ 70 ?hg (N := 6) ?hd (xs := ([0, 0, 0, 0, 0, 0, 0, 0] : List Int)) (inner := [.int .i64 0, .int .i64 0, .int .i64 0, .int .i64 0, .int .i64 0, .int .i64 0, .int .i64 0, .int .i64 0]) (ok := fun _ => True) (okp := fun _ => True) ?hr ?hp (fun _ hk => hk) trivial (Below.refl _ _) (Nat.le_refl _) (by decide) ?_; (case hd => rfl); (case hg => rfl); (case hr => first | (go_simp; done) | (go_simp; rfl)); (case hp => exact (Reps.one rfl (Reps.one rfl (Reps.one rfl (Reps.one rfl (Reps.one rfl (Reps.one rfl (Reps.one rfl (Reps.one rfl (Reps.none _ _)))))))))); intro v712 w3 ho4 hb hg_ hnew_; clear hg_ hnew_; (first | rw [← Ny711.out] at ho4 | (simp only [Int.reduceToNat] at ho4; rw [← Ny711.out] at ho4)); have n0_ := Aside0.mk (Kd.R_lower ho4 (below_size zb)); have n1_ := Aside0.mk (below_step zb hb); clear HB; have HO713 := n0_; have HB := n1_; clear n0_ n1_; clear hb ho4) | ((with_reducible refine gate_dst (N := 7) rfl ?_); refine arr_event (Kd.int .i64) _ 70 ?hg (N := 7) ?hd (xs := ([0, 0, 0, 0, 0, 0, 0, 0] : List Int)) (inner := [.int .i64 0, .int .i64 0, .int .i64 0, .int .i64 0, .int .i64 0, .int .i64 0, .int .i64 0, .int .i64 0]) (ok := fun _ => True) (okp := fun _ => True) ?hr ?hp (fun _ hk => hk) trivial (Below.refl _ _) (Nat.le_refl _) (by decide) ?_; (case hd => rfl); (case hg => rfl); (case hr => first | (go_simp; done) | (go_simp; rfl)); (case hp => exact (Reps.one rfl (Reps.one rfl (Reps.one rfl (Reps.one rfl (Reps.one rfl (Reps.one rfl (Reps.one rfl (Reps.one rfl (Reps.none _ _)))))))))); intro v715 w5 ho6 hb hg_ hnew_; clear hg_ hnew_; (first | rw [← Ny714.out] at ho6 | (simp only [Int.reduceToNat] at ho6; rw [← Ny714.out] at ho6)); have n0_ := Aside0.mk (Kd.R_elder' (zr HO713.out) (Kd.R_base ho6) hb); have n1_ := Aside0.mk (Kd.R_lower (Kd.R_new' ho6 (Kd.R_lt (zr HO713.out))) (below_size zb)); have n2_ := Aside0.mk (below_step zb hb); clear HO713; clear HB; have HO713 := n0_; have HO716 := n1_; have HB := n2_; clear n0_ n1_ n2_; clear hb ho6))
  go_loopg [4, 5, 8, 19] k (fun kq v4 v5 v8 v19 w' => ∃ (x4_1 : Int) (x5_1 : Int) (x6_1 : List Int) (x7_1 : List Int) (x8_1 : List (S37)) (x19_1 : Int), v4 = .int .i64 x4_1 ∧ v5 = .int .i64 x5_1 ∧ v19 = .int .i64 x19_1 ∧ Aside0 (impl_LeaseRun.l0 kq x4_1 x5_1 x6_1 x7_1 x8_1 l0 (l0.length : Int) x19_1 = some (r1, r2)) ∧ Aside0 (kq ≤ k) ∧ Aside0 (Kd.R (Kd.int .i64) 70 w' w.heap.size (fun k_ => some k_ ≠ (v715 : Value).ownBlock) v712 x6_1) ∧ Aside0 (Kd.R (Kd.int .i64) 70 w' w.heap.size (fun k_ => some k_ ≠ (v712 : Value).ownBlock) v715 x7_1) ∧ Aside0 (Kd.R k37 37 w' w.heap.size (fun _ => True) v8 x8_1) ∧ Aside0 (Below w.heap.size w w'))
  case atStart => exact ⟨(0), (1), (y711), (y714), (([] : List (S37))), (0), (by first | rfl | (simp; done) | (simp [*]; done)), (by first | rfl | (simp; done) | (simp [*]; done)), (by first | rfl | (simp; done) | (simp [*]; done)), H', ⟨Nat.le_refl _⟩, ⟨by (with_reducible repeat (first | apply Kd.R_alloc | apply Kd.R_drewN | apply Kd.R_drew)); exact Kd.R_mono HO713.out (fun _ hk => hk.2)⟩, ⟨by (with_reducible repeat (first | apply Kd.R_alloc | apply Kd.R_drewN | apply Kd.R_drew)); exact Kd.R_mono HO716.out (fun _ hk => hk.2)⟩, ⟨by first | exact Kd.R_nil _ _ _ _ _ | exact Kd.N_nil _ _ _ _ _ | exact Kd.V_nil _ _ _ _ _ | exact Kd.Q_nil _ _ _ _ _ | exact Kd.S_nil _ _ _ _ _⟩, ⟨zb⟩⟩
  case round =>
   clear H'
   try clear c2
   try clear c2b0
   try clear c2b1
   obtain ⟨x4_1, x5_1, x6_1, x7_1, x8_1, x19_1, rfl, rfl, rfl, HA, HK1, HO_6, HO_7, HO_8, HB⟩ := hrel
   cases gk with
   | zero => exact absurd HA.out (by simp [impl_LeaseRun.l0])
   | succ k1 =>
    have H := HA.out
    clear HA
    simp only [impl_LeaseRun.l0] at H
    by_cases c7 : x19_1 < (l0.length : Int)
    ·rw [if_pos c7] at H
     have c7b0 : decide (x19_1 < (l0.length : Int)) = true := decide_eq_true c7
     clear c7
     by_cases c8 : 0 ≤ x19_1
     ·rw [if_pos c8] at H
      have c8b0 : decide (0 ≤ x19_1) = true := decide_eq_true c8
      clear c8
      by_cases c9 : x19_1 < (l0.length : Int)
      ·rw [if_pos c9] at H
       have c9b0 : decide (x19_1 < (l0.length : Int)) = true := decide_eq_true c9
       clear c9
       have HC10 := Aside0.mk H
       clear H
       have p717 : 0 ≤ (x19_1 : Int) := of_decide_eq_true (by first | (with_reducible assumption) | assumption)
       have q717 : x19_1 < (l0.length : Int) := of_decide_eq_true (by first | (with_reducible assumption) | assumption)
       obtain ⟨ad717, e717, hx717_0, hx717_1, hx717_2⟩ := at_T39 HR0.out x19_1 p717 q717
       cases e717
       replace hx717_0 := (HB.out.cell (World.block_lt_of_cell? w _ hx717_0)).trans hx717_0
       replace hx717_1 := (HB.out.cell (World.block_lt_of_cell? w _ hx717_1)).trans hx717_1
       replace hx717_2 := (HB.out.cell (World.block_lt_of_cell? w _ hx717_2)).trans hx717_2
       replace p717 := eq_true p717
       replace q717 := eq_true q717
       as_aux_lemma =>
       go_upto_region 10 with (first | ((with_reducible refine gate_dst (N := 10) rfl ?_); refine box_event ?hg (N := 10) ?hd (cs := #[.int .i64 0, .int .i64 0, .int .i64 0]) (t := 39) ?hr ?_; (case hd => rfl); (case hg => rfl); (case hr => first | (go_simp; done) | (go_simp; rfl)); intro gb718 hg w11 hbox hb; have n0_ := Aside0.mk (Kd.R_below (zr HO_6.out) hb); have n1_ := Aside0.mk (Kd.R_below (zr HO_7.out) hb); have n2_ := Aside0.mk (Kd.R_below (zr HO_8.out) hb); have n3_ := Aside0.mk (below_step zb hb); have n4_ := Aside0.mk (hbox); have n5_ := Aside0.mk ((by rw [hg]; exact (below_size zb) : w.heap.size ≤ gb718)); have n6_ := Aside0.mk ((by rw [hg]; exact (below_size zb) : w.heap.size ≤ gb718)); clear HO_6; clear HO_7; clear HO_8; clear HB; have HO_6 := n0_; have HO_7 := n1_; have HO_8 := n2_; have HB := n3_; have BK718 := n4_; have GW718 := n5_; have GE718 := n6_; clear n0_ n1_ n2_ n3_ n4_ n5_ n6_; clear hb hbox hg; have hcz12_0 : w11.cell? ⟨gb718, 0, none⟩ = some (.int .i64 0) := (blk_cell BK718.out 0).trans rfl; have hcz12_1 : w11.cell? ⟨gb718, 1, none⟩ = some (.int .i64 0) := (blk_cell BK718.out 1).trans rfl; have hcz12_2 : w11.cell? ⟨gb718, 2, none⟩ = some (.int .i64 0) := (blk_cell BK718.out 2).trans rfl; have hfz12_0 := blk_frozen BK718.out 0; have hfz12_1 := blk_frozen BK718.out 1; have hfz12_2 := blk_frozen BK718.out 2) | ((with_reducible refine gate_dst (N := 11) rfl ?_); refine box_event ?hg (N := 11) ?hd (cs := #[.int .i64 0, .int .i64 0]) (t := 37) ?hr ?_; (case hd => rfl); (case hg => rfl); (case hr => first | (go_simp; done) | (go_simp; rfl)); intro gb719 hg w13 hbox hb; have n0_ := Aside0.mk (Kd.R_below (by (with_reducible repeat (first | apply Kd.R_alloc | apply Kd.R_drewN | apply Kd.R_drew)); exact (Kd.R_mono (Kd.R_far (p := ⟨gb718, 2, none⟩) (Kd.R_far (p := ⟨gb718, 1, none⟩) (Kd.R_far (p := ⟨gb718, 0, none⟩) (Kd.R_types HO_6.out BK718.out (by decide)) (fun _ hk => hk.2) (.int .i64 ((rd_T39 l0 x19_1).f0))) (fun _ hk => hk.2) (.int .i64 ((rd_T39 l0 x19_1).f1))) (fun _ hk => hk.2) (.int .i64 ((rd_T39 l0 x19_1).f2))) (fun _ h_ => h_.1))) hb); have n1_ := Aside0.mk (Kd.R_below (by (with_reducible repeat (first | apply Kd.R_alloc | apply Kd.R_drewN | apply Kd.R_drew)); exact (Kd.R_mono (Kd.R_far (p := ⟨gb718, 2, none⟩) (Kd.R_far (p := ⟨gb718, 1, none⟩) (Kd.R_far (p := ⟨gb718, 0, none⟩) (Kd.R_types HO_7.out BK718.out (by decide)) (fun _ hk => hk.2) (.int .i64 ((rd_T39 l0 x19_1).f0))) (fun _ hk => hk.2) (.int .i64 ((rd_T39 l0 x19_1).f1))) (fun _ hk => hk.2) (.int .i64 ((rd_T39 l0 x19_1).f2))) (fun _ h_ => h_.1))) hb); have n2_ := Aside0.mk (Kd.R_below (Kd.R_elderB (by (with_reducible repeat (first | apply Kd.R_alloc | apply Kd.R_drewN | apply Kd.R_drew)); exact (Kd.R_mono (Kd.R_far (p := ⟨gb718, 2, none⟩) (Kd.R_far (p := ⟨gb718, 1, none⟩) (Kd.R_far (p := ⟨gb718, 0, none⟩) (Kd.R_types HO_8.out BK718.out (by decide)) (fun _ hk => hk.2) (.int .i64 ((rd_T39 l0 x19_1).f0))) (fun _ hk => hk.2) (.int .i64 ((rd_T39 l0 x19_1).f1))) (fun _ hk => hk.2) (.int .i64 ((rd_T39 l0 x19_1).f2))) (fun _ h_ => h_.1))) gb719 (Nat.le_of_eq hg.symm)) hb); have n3_ := Aside0.mk (blk_below (g := gb718) (o := .cells #[.int .i64 ((rd_T39 l0 x19_1).f0), .int .i64 ((rd_T39 l0 x19_1).f1), .int .i64 ((rd_T39 l0 x19_1).f2)] 39 (0, 0)) (by (with_reducible repeat (first | refine blk_drewN ?_ _ | refine blk_drew ?_ | refine blk_alloc ?_ _)); refine blk_put (cs := #[.int .i64 ((rd_T39 l0 x19_1).f0), .int .i64 ((rd_T39 l0 x19_1).f1), .int .i64 0]) ?_ 2 _ rfl; (with_reducible repeat (first | refine blk_drewN ?_ _ | refine blk_drew ?_ | refine blk_alloc ?_ _)); refine blk_put (cs := #[.int .i64 ((rd_T39 l0 x19_1).f0), .int .i64 0, .int .i64 0]) ?_ 1 _ rfl; (with_reducible repeat (first | refine blk_drewN ?_ _ | refine blk_drew ?_ | refine blk_alloc ?_ _)); refine blk_put (cs := #[.int .i64 0, .int .i64 0, .int .i64 0]) ?_ 0 _ rfl; (with_reducible repeat (first | refine blk_drewN ?_ _ | refine blk_drew ?_ | refine blk_alloc ?_ _)); exact BK718.out) hb); have n4_ := Aside0.mk (below_step (by repeat (first | (with_reducible first | exact HB.out | apply below_alloc | apply pw_below_drewN | apply below_drew1 | refine below_set ?_ GE718.out) | exact HB.out)) hb); have n5_ := Aside0.mk (hbox); have n6_ := Aside0.mk ((by rw [hg]; exact (below_size (by repeat (first | (with_reducible first | exact HB.out | apply below_alloc | apply pw_below_drewN | apply below_drew1 | refine below_set ?_ GE718.out) | exact HB.out))) : w.heap.size ≤ gb719)); have n7_ := Aside0.mk ((by rw [hg]; exact (below_size (by repeat (first | (with_reducible first | exact HB.out | apply below_alloc | apply pw_below_drewN | apply below_drew1 | refine below_set ?_ GE718.out) | exact HB.out))) : w.heap.size ≤ gb719)); have n8_ := Aside0.mk ((by rw [hg]; exact Nat.ne_of_lt (blk_lt (g := gb718) (o := .cells #[.int .i64 ((rd_T39 l0 x19_1).f0), .int .i64 ((rd_T39 l0 x19_1).f1), .int .i64 ((rd_T39 l0 x19_1).f2)] 39 (0, 0)) (by (with_reducible repeat (first | refine blk_drewN ?_ _ | refine blk_drew ?_ | refine blk_alloc ?_ _)); refine blk_put (cs := #[.int .i64 ((rd_T39 l0 x19_1).f0), .int .i64 ((rd_T39 l0 x19_1).f1), .int .i64 0]) ?_ 2 _ rfl; (with_reducible repeat (first | refine blk_drewN ?_ _ | refine blk_drew ?_ | refine blk_alloc ?_ _)); refine blk_put (cs := #[.int .i64 ((rd_T39 l0 x19_1).f0), .int .i64 0, .int .i64 0]) ?_ 1 _ rfl; (with_reducible repeat (first | refine blk_drewN ?_ _ | refine blk_drew ?_ | refine blk_alloc ?_ _)); refine blk_put (cs := #[.int .i64 0, .int .i64 0, .int .i64 0]) ?_ 0 _ rfl; (with_reducible repeat (first | refine blk_drewN ?_ _ | refine blk_drew ?_ | refine blk_alloc ?_ _)); exact BK718.out)) : gb718 ≠ gb719)); have n9_ := Aside0.mk ((by rw [hg]; exact Nat.ne_of_gt (blk_lt (g := gb718) (o := .cells #[.int .i64 ((rd_T39 l0 x19_1).f0), .int .i64 ((rd_T39 l0 x19_1).f1), .int .i64 ((rd_T39 l0 x19_1).f2)] 39 (0, 0)) (by (with_reducible repeat (first | refine blk_drewN ?_ _ | refine blk_drew ?_ | refine blk_alloc ?_ _)); refine blk_put (cs := #[.int .i64 ((rd_T39 l0 x19_1).f0), .int .i64 ((rd_T39 l0 x19_1).f1), .int .i64 0]) ?_ 2 _ rfl; (with_reducible repeat (first | refine blk_drewN ?_ _ | refine blk_drew ?_ | refine blk_alloc ?_ _)); refine blk_put (cs := #[.int .i64 ((rd_T39 l0 x19_1).f0), .int .i64 0, .int .i64 0]) ?_ 1 _ rfl; (with_reducible repeat (first | refine blk_drewN ?_ _ | refine blk_drew ?_ | refine blk_alloc ?_ _)); refine blk_put (cs := #[.int .i64 0, .int .i64 0, .int .i64 0]) ?_ 0 _ rfl; (with_reducible repeat (first | refine blk_drewN ?_ _ | refine blk_drew ?_ | refine blk_alloc ?_ _)); exact BK718.out)) : gb719 ≠ gb718)); clear HO_6; clear HO_7; clear HO_8; clear BK718; clear HB; have HO_6 := n0_; have HO_7 := n1_; have HO_8 := n2_; have BK718 := n3_; have HB := n4_; have BK719 := n5_; have GW719 := n6_; have GE719 := n7_; have NB718_719 := n8_; have NB719_718 := n9_; clear n0_ n1_ n2_ n3_ n4_ n5_ n6_ n7_ n8_ n9_; clear hb hbox hg; have hnb14 := NB719_718.out; have hnc14 := NB718_719.out; have hcz15_0 : w13.cell? ⟨gb719, 0, none⟩ = some (.int .i64 0) := (blk_cell BK719.out 0).trans rfl; have hcz15_1 : w13.cell? ⟨gb719, 1, none⟩ = some (.int .i64 0) := (blk_cell BK719.out 1).trans rfl; have hfz15_0 := blk_frozen BK719.out 0; have hfz15_1 := blk_frozen BK719.out 1))
       (try simp only [Act.put, List.setIfInBounds_toArray, List.set_cons_zero, List.set_cons_succ])
       go_cut [12] (fun v12 wc => ∃ (kq : Nat) (x12_9 : Bool), v12 = .bool x12_9 ∧ Aside0 (impl_LeaseRun.j1 kq x4_1 x5_1 x6_1 x7_1 x8_1 x12_9 l0 (l0.length : Int) x19_1 ((rd_T39 l0 x19_1).f0) ((rd_T39 l0 x19_1).f1) ((rd_T39 l0 x19_1).f2) 0 0 = some (r1, r2)) ∧ Aside0 (kq ≤ k1) ∧ Aside0 (Kd.R (Kd.int .i64) 70 wc w.heap.size (fun k_ => some k_ ≠ (v715 : Value).ownBlock) v712 x6_1) ∧ Aside0 (Kd.R (Kd.int .i64) 70 wc w.heap.size (fun k_ => some k_ ≠ (v712 : Value).ownBlock) v715 x7_1) ∧ Aside0 (Kd.R k37 37 wc w.heap.size (fun k_ => k_ ≠ gb719) u8 x8_1) ∧ Aside0 (wc.heap[gb718]? = some (.cells #[.int .i64 ((rd_T39 l0 x19_1).f0), .int .i64 ((rd_T39 l0 x19_1).f1), .int .i64 ((rd_T39 l0 x19_1).f2)] 39 (0, 0))) ∧ Aside0 (wc.heap[gb719]? = some (.cells #[.int .i64 0, .int .i64 0] 37 (0, 0))) ∧ Aside0 (Below w.heap.size w wc))
       case first =>
        have H := HC10.out
        clear HC10
        by_cases c16 : ((rd_T39 l0 x19_1).f0) = 2
        ·rw [if_pos c16] at H
         have c16b0 : (((rd_T39 l0 x19_1).f0) == 2) = true := beq_iff_eq.mpr c16
         have c16b1 : (((rd_T39 l0 x19_1).f0) != 2) = false := bne_eq_false_iff_eq.mpr c16
         clear c16
         (first | rw [c16b0] | (simp only [i64_w, i32_w]; rw [c16b0]) | skip)
         have H' := Aside0.mk H
         clear H
         have hnb17 := NB718_719.out
         have hnc17 := NB719_718.out
         have hcz18_0 : w13.cell? ⟨gb718, 0, none⟩ = some (.int .i64 ((rd_T39 l0 x19_1).f0)) := (blk_cell BK718.out 0).trans rfl
         have hcz18_1 : w13.cell? ⟨gb718, 1, none⟩ = some (.int .i64 ((rd_T39 l0 x19_1).f1)) := (blk_cell BK718.out 1).trans rfl
         have hcz18_2 : w13.cell? ⟨gb718, 2, none⟩ = some (.int .i64 ((rd_T39 l0 x19_1).f2)) := (blk_cell BK718.out 2).trans rfl
         have hfz18_0 := blk_frozen BK718.out 0
         have hfz18_1 := blk_frozen BK718.out 1
         have hfz18_2 := blk_frozen BK718.out 2
         as_aux_lemma =>
         go_wp2
         go_meet
         case rel => exact ⟨_, (true), (by first | rfl | (simp; done) | (simp [*]; done)), H', ⟨by have := HK1.out; first | omega | exact Nat.le_refl _⟩, ⟨by (with_reducible repeat (first | apply Kd.R_alloc | apply Kd.R_drewN | apply Kd.R_drew)); exact Kd.R_mono (Kd.R_far (p := ⟨gb719, 1, none⟩) (Kd.R_far (p := ⟨gb719, 0, none⟩) (Kd.R_types HO_6.out BK719.out (by decide)) (fun _ hk => hk.2) (.int .i64 0)) (fun _ hk => hk.2) (.int .i64 0)) (fun _ hk => hk.1)⟩, ⟨by (with_reducible repeat (first | apply Kd.R_alloc | apply Kd.R_drewN | apply Kd.R_drew)); exact Kd.R_mono (Kd.R_far (p := ⟨gb719, 1, none⟩) (Kd.R_far (p := ⟨gb719, 0, none⟩) (Kd.R_types HO_7.out BK719.out (by decide)) (fun _ hk => hk.2) (.int .i64 0)) (fun _ hk => hk.2) (.int .i64 0)) (fun _ hk => hk.1)⟩, ⟨by (with_reducible repeat (first | apply Kd.R_alloc | apply Kd.R_drewN | apply Kd.R_drew)); exact Kd.R_mono (Kd.R_far (p := ⟨gb719, 1, none⟩) (Kd.R_far (p := ⟨gb719, 0, none⟩) (Kd.R_mono HO_8.out (fun k_ hk => (⟨hk, hk.2⟩ : _ ∧ k_ ≠ gb719))) (fun _ hk => hk.2) (.int .i64 0)) (fun _ hk => hk.2) (.int .i64 0)) (fun _ hk => hk.1.2)⟩, ⟨by (with_reducible repeat (first | refine blk_drewN ?_ _ | refine blk_drew ?_ | refine blk_alloc ?_ _)); refine blk_far ?_ NB718_719.out _; (with_reducible repeat (first | refine blk_drewN ?_ _ | refine blk_drew ?_ | refine blk_alloc ?_ _)); refine blk_far ?_ NB718_719.out _; (with_reducible repeat (first | refine blk_drewN ?_ _ | refine blk_drew ?_ | refine blk_alloc ?_ _)); exact BK718.out⟩, ⟨by (with_reducible repeat (first | refine blk_drewN ?_ _ | refine blk_drew ?_ | refine blk_alloc ?_ _)); refine blk_put (cs := #[.int .i64 0, .int .i64 0]) ?_ 1 _ rfl; (with_reducible repeat (first | refine blk_drewN ?_ _ | refine blk_drew ?_ | refine blk_alloc ?_ _)); refine blk_put (cs := #[.int .i64 0, .int .i64 0]) ?_ 0 _ rfl; (with_reducible repeat (first | refine blk_drewN ?_ _ | refine blk_drew ?_ | refine blk_alloc ?_ _)); exact BK719.out⟩, ⟨by repeat (first | (with_reducible first | exact HB.out | apply below_alloc | apply pw_below_drewN | apply below_drew1 | refine below_set ?_ GE718.out | refine below_set ?_ GE719.out) | exact HB.out)⟩⟩
        ·rw [if_neg c16] at H
         have c16b0 : (((rd_T39 l0 x19_1).f0) == 2) = false := beq_eq_false_iff_ne.mpr c16
         have c16b1 : (((rd_T39 l0 x19_1).f0) != 2) = true := bne_iff_ne.mpr c16
         (first | rw [c16b0] | (simp only [i64_w, i32_w]; rw [c16b0]) | skip)
         by_cases c19 : ((rd_T39 l0 x19_1).f0) = 3
         ·rw [if_pos c19] at H
          have c19b0 : (((rd_T39 l0 x19_1).f0) == 3) = true := beq_iff_eq.mpr c19
          have c19b1 : (((rd_T39 l0 x19_1).f0) != 3) = false := bne_eq_false_iff_eq.mpr c19
          clear c19
          have H' := Aside0.mk H
          clear H
          have hnb20 := NB718_719.out
          have hnc20 := NB719_718.out
          have hcz21_0 : w13.cell? ⟨gb718, 0, none⟩ = some (.int .i64 ((rd_T39 l0 x19_1).f0)) := (blk_cell BK718.out 0).trans rfl
          have hcz21_1 : w13.cell? ⟨gb718, 1, none⟩ = some (.int .i64 ((rd_T39 l0 x19_1).f1)) := (blk_cell BK718.out 1).trans rfl
          have hcz21_2 : w13.cell? ⟨gb718, 2, none⟩ = some (.int .i64 ((rd_T39 l0 x19_1).f2)) := (blk_cell BK718.out 2).trans rfl
          have hfz21_0 := blk_frozen BK718.out 0
          have hfz21_1 := blk_frozen BK718.out 1
          have hfz21_2 := blk_frozen BK718.out 2
          as_aux_lemma =>
          go_wp2
          go_meet
          case rel => exact ⟨_, (true), (by first | rfl | (simp; done) | (simp [*]; done)), H', ⟨by have := HK1.out; first | omega | exact Nat.le_refl _⟩, ⟨by (with_reducible repeat (first | apply Kd.R_alloc | apply Kd.R_drewN | apply Kd.R_drew)); exact Kd.R_mono (Kd.R_far (p := ⟨gb719, 1, none⟩) (Kd.R_far (p := ⟨gb719, 0, none⟩) (Kd.R_types HO_6.out BK719.out (by decide)) (fun _ hk => hk.2) (.int .i64 0)) (fun _ hk => hk.2) (.int .i64 0)) (fun _ hk => hk.1)⟩, ⟨by (with_reducible repeat (first | apply Kd.R_alloc | apply Kd.R_drewN | apply Kd.R_drew)); exact Kd.R_mono (Kd.R_far (p := ⟨gb719, 1, none⟩) (Kd.R_far (p := ⟨gb719, 0, none⟩) (Kd.R_types HO_7.out BK719.out (by decide)) (fun _ hk => hk.2) (.int .i64 0)) (fun _ hk => hk.2) (.int .i64 0)) (fun _ hk => hk.1)⟩, ⟨by (with_reducible repeat (first | apply Kd.R_alloc | apply Kd.R_drewN | apply Kd.R_drew)); exact Kd.R_mono (Kd.R_far (p := ⟨gb719, 1, none⟩) (Kd.R_far (p := ⟨gb719, 0, none⟩) (Kd.R_mono HO_8.out (fun k_ hk => (⟨hk, hk.2⟩ : _ ∧ k_ ≠ gb719))) (fun _ hk => hk.2) (.int .i64 0)) (fun _ hk => hk.2) (.int .i64 0)) (fun _ hk => hk.1.2)⟩, ⟨by (with_reducible repeat (first | refine blk_drewN ?_ _ | refine blk_drew ?_ | refine blk_alloc ?_ _)); refine blk_far ?_ NB718_719.out _; (with_reducible repeat (first | refine blk_drewN ?_ _ | refine blk_drew ?_ | refine blk_alloc ?_ _)); refine blk_far ?_ NB718_719.out _; (with_reducible repeat (first | refine blk_drewN ?_ _ | refine blk_drew ?_ | refine blk_alloc ?_ _)); exact BK718.out⟩, ⟨by (with_reducible repeat (first | refine blk_drewN ?_ _ | refine blk_drew ?_ | refine blk_alloc ?_ _)); refine blk_put (cs := #[.int .i64 0, .int .i64 0]) ?_ 1 _ rfl; (with_reducible repeat (first | refine blk_drewN ?_ _ | refine blk_drew ?_ | refine blk_alloc ?_ _)); refine blk_put (cs := #[.int .i64 0, .int .i64 0]) ?_ 0 _ rfl; (with_reducible repeat (first | refine blk_drewN ?_ _ | refine blk_drew ?_ | refine blk_alloc ?_ _)); exact BK719.out⟩, ⟨by repeat (first | (with_reducible first | exact HB.out | apply below_alloc | apply pw_below_drewN | apply below_drew1 | refine below_set ?_ GE718.out | refine below_set ?_ GE719.out) | exact HB.out)⟩⟩
         ·rw [if_neg c19] at H
          have c19b0 : (((rd_T39 l0 x19_1).f0) == 3) = false := beq_eq_false_iff_ne.mpr c19
          have c19b1 : (((rd_T39 l0 x19_1).f0) != 3) = true := bne_iff_ne.mpr c19
          have H' := Aside0.mk H
          clear H
          have hnb22 := NB718_719.out
          have hnc22 := NB719_718.out
          have hcz23_0 : w13.cell? ⟨gb718, 0, none⟩ = some (.int .i64 ((rd_T39 l0 x19_1).f0)) := (blk_cell BK718.out 0).trans rfl
          have hcz23_1 : w13.cell? ⟨gb718, 1, none⟩ = some (.int .i64 ((rd_T39 l0 x19_1).f1)) := (blk_cell BK718.out 1).trans rfl
          have hcz23_2 : w13.cell? ⟨gb718, 2, none⟩ = some (.int .i64 ((rd_T39 l0 x19_1).f2)) := (blk_cell BK718.out 2).trans rfl
          have hfz23_0 := blk_frozen BK718.out 0
          have hfz23_1 := blk_frozen BK718.out 1
          have hfz23_2 := blk_frozen BK718.out 2
          as_aux_lemma =>
          go_wp2
          go_meet
          case rel => exact ⟨_, ((((rd_T39 l0 x19_1).f0) == 4)), (by first | rfl | (simp; done) | (simp [*]; done)), H', ⟨by have := HK1.out; first | omega | exact Nat.le_refl _⟩, ⟨by (with_reducible repeat (first | apply Kd.R_alloc | apply Kd.R_drewN | apply Kd.R_drew)); exact Kd.R_mono (Kd.R_far (p := ⟨gb719, 1, none⟩) (Kd.R_far (p := ⟨gb719, 0, none⟩) (Kd.R_types HO_6.out BK719.out (by decide)) (fun _ hk => hk.2) (.int .i64 0)) (fun _ hk => hk.2) (.int .i64 0)) (fun _ hk => hk.1)⟩, ⟨by (with_reducible repeat (first | apply Kd.R_alloc | apply Kd.R_drewN | apply Kd.R_drew)); exact Kd.R_mono (Kd.R_far (p := ⟨gb719, 1, none⟩) (Kd.R_far (p := ⟨gb719, 0, none⟩) (Kd.R_types HO_7.out BK719.out (by decide)) (fun _ hk => hk.2) (.int .i64 0)) (fun _ hk => hk.2) (.int .i64 0)) (fun _ hk => hk.1)⟩, ⟨by (with_reducible repeat (first | apply Kd.R_alloc | apply Kd.R_drewN | apply Kd.R_drew)); exact Kd.R_mono (Kd.R_far (p := ⟨gb719, 1, none⟩) (Kd.R_far (p := ⟨gb719, 0, none⟩) (Kd.R_mono HO_8.out (fun k_ hk => (⟨hk, hk.2⟩ : _ ∧ k_ ≠ gb719))) (fun _ hk => hk.2) (.int .i64 0)) (fun _ hk => hk.2) (.int .i64 0)) (fun _ hk => hk.1.2)⟩, ⟨by (with_reducible repeat (first | refine blk_drewN ?_ _ | refine blk_drew ?_ | refine blk_alloc ?_ _)); refine blk_far ?_ NB718_719.out _; (with_reducible repeat (first | refine blk_drewN ?_ _ | refine blk_drew ?_ | refine blk_alloc ?_ _)); refine blk_far ?_ NB718_719.out _; (with_reducible repeat (first | refine blk_drewN ?_ _ | refine blk_drew ?_ | refine blk_alloc ?_ _)); exact BK718.out⟩, ⟨by (with_reducible repeat (first | refine blk_drewN ?_ _ | refine blk_drew ?_ | refine blk_alloc ?_ _)); refine blk_put (cs := #[.int .i64 0, .int .i64 0]) ?_ 1 _ rfl; (with_reducible repeat (first | refine blk_drewN ?_ _ | refine blk_drew ?_ | refine blk_alloc ?_ _)); refine blk_put (cs := #[.int .i64 0, .int .i64 0]) ?_ 0 _ rfl; (with_reducible repeat (first | refine blk_drewN ?_ _ | refine blk_drew ?_ | refine blk_alloc ?_ _)); exact BK719.out⟩, ⟨by repeat (first | (with_reducible first | exact HB.out | apply below_alloc | apply pw_below_drewN | apply below_drew1 | refine below_set ?_ GE718.out | refine below_set ?_ GE719.out) | exact HB.out)⟩⟩
       case rest =>
        clear HC10
        try clear c2
        try clear c2b0
        try clear c2b1
        try clear c7
        try clear c7b0
        try clear c8
        try clear c8b0
        try clear c9
        try clear c9b0
        try clear hcz12_0
        try clear hcz12_1
        try clear hcz12_2
        try clear hcz15_0
        try clear hcz15_1
        try clear hfz12_0
        try clear hfz12_1
        try clear hfz12_2
        try clear hfz15_0
        try clear hfz15_1
        try clear hx717_0
        try clear hx717_1
        try clear hx717_2
        try clear p717
        try clear q717
        obtain ⟨kq, x12_9, rfl, HA, HJ9, HO_6, HO_7, HO_8, BK718, BK719, HB⟩ := hcut
        cases kq with
        | zero => exact absurd HA.out (by simp [impl_LeaseRun.j1])
        | succ kj9 =>
         have H := HA.out
         clear HA
         simp only [impl_LeaseRun.j1] at H
         have HC24 := Aside0.mk H
         clear H
         as_aux_lemma =>
         go_upto_region 20 with (fail)
         go_cut [67] (fun v67 wc => ∃ (kq : Nat) (x67_23 : Bool), v67 = .bool x67_23 ∧ Aside0 (impl_LeaseRun.j2 kq x4_1 x5_1 x6_1 x7_1 x8_1 l0 (l0.length : Int) x19_1 x67_23 ((rd_T39 l0 x19_1).f0) ((rd_T39 l0 x19_1).f1) ((rd_T39 l0 x19_1).f2) 0 0 = some (r1, r2)) ∧ Aside0 (kq ≤ kj9) ∧ Aside0 (Kd.R (Kd.int .i64) 70 wc w.heap.size (fun k_ => some k_ ≠ (v715 : Value).ownBlock) v712 x6_1) ∧ Aside0 (Kd.R (Kd.int .i64) 70 wc w.heap.size (fun k_ => some k_ ≠ (v712 : Value).ownBlock) v715 x7_1) ∧ Aside0 (Kd.R k37 37 wc w.heap.size (fun k_ => k_ ≠ gb719) u8 x8_1) ∧ Aside0 (wc.heap[gb718]? = some (.cells #[.int .i64 ((rd_T39 l0 x19_1).f0), .int .i64 ((rd_T39 l0 x19_1).f1), .int .i64 ((rd_T39 l0 x19_1).f2)] 39 (0, 0))) ∧ Aside0 (wc.heap[gb719]? = some (.cells #[.int .i64 0, .int .i64 0] 37 (0, 0))) ∧ Aside0 (Below w.heap.size w wc))
         case first =>
          have H := HC24.out
          clear HC24
          by_cases c25 : ((rd_T39 l0 x19_1).f0) < 1
          ·rw [if_pos c25] at H
           have c25b0 : decide (((rd_T39 l0 x19_1).f0) < 1) = true := decide_eq_true c25
           clear c25
           (first | rw [c25b0] | (simp only [i64_w, i32_w]; rw [c25b0]) | skip)
           have H' := Aside0.mk H
           clear H
           have hnb26 := NB718_719.out
           have hnc26 := NB719_718.out
           have hcz27_0 : wc.cell? ⟨gb718, 0, none⟩ = some (.int .i64 ((rd_T39 l0 x19_1).f0)) := (blk_cell BK718.out 0).trans rfl
           have hcz27_1 : wc.cell? ⟨gb718, 1, none⟩ = some (.int .i64 ((rd_T39 l0 x19_1).f1)) := (blk_cell BK718.out 1).trans rfl
           have hcz27_2 : wc.cell? ⟨gb718, 2, none⟩ = some (.int .i64 ((rd_T39 l0 x19_1).f2)) := (blk_cell BK718.out 2).trans rfl
           have hfz27_0 := blk_frozen BK718.out 0
           have hfz27_1 := blk_frozen BK718.out 1
           have hfz27_2 := blk_frozen BK718.out 2
           as_aux_lemma =>
           go_wp2
           go_meet
           case rel => exact ⟨_, (true), (by first | rfl | (simp; done) | (simp [*]; done)), H', ⟨by have := HK1.out; have := HJ9.out; first | omega | exact Nat.le_refl _⟩, ⟨zr HO_6.out⟩, ⟨zr HO_7.out⟩, ⟨zr HO_8.out⟩, ⟨by (with_reducible repeat (first | refine blk_drewN ?_ _ | refine blk_drew ?_ | refine blk_alloc ?_ _)); exact BK718.out⟩, ⟨by (with_reducible repeat (first | refine blk_drewN ?_ _ | refine blk_drew ?_ | refine blk_alloc ?_ _)); exact BK719.out⟩, ⟨by repeat (first | (with_reducible first | exact HB.out | apply below_alloc | apply pw_below_drewN | apply below_drew1 | refine below_set ?_ GE718.out | refine below_set ?_ GE719.out) | exact HB.out)⟩⟩
          ·rw [if_neg c25] at H
           have c25b0 : decide (((rd_T39 l0 x19_1).f0) < 1) = false := decide_eq_false c25
           clear c25
           (first | rw [c25b0] | (simp only [i64_w, i32_w]; rw [c25b0]) | skip)
           by_cases c28 : ((rd_T39 l0 x19_1).f0) > 5
           ·rw [if_pos c28] at H
            have c28b0 : decide (5 < ((rd_T39 l0 x19_1).f0)) = true := decide_eq_true c28
            clear c28
            have H' := Aside0.mk H
            clear H
            have hnb29 := NB718_719.out
            have hnc29 := NB719_718.out
            have hcz30_0 : wc.cell? ⟨gb718, 0, none⟩ = some (.int .i64 ((rd_T39 l0 x19_1).f0)) := (blk_cell BK718.out 0).trans rfl
            have hcz30_1 : wc.cell? ⟨gb718, 1, none⟩ = some (.int .i64 ((rd_T39 l0 x19_1).f1)) := (blk_cell BK718.out 1).trans rfl
            have hcz30_2 : wc.cell? ⟨gb718, 2, none⟩ = some (.int .i64 ((rd_T39 l0 x19_1).f2)) := (blk_cell BK718.out 2).trans rfl
            have hfz30_0 := blk_frozen BK718.out 0
            have hfz30_1 := blk_frozen BK718.out 1
            have hfz30_2 := blk_frozen BK718.out 2
            as_aux_lemma =>
            go_wp2
            go_meet
            case rel => exact ⟨_, (true), (by first | rfl | (simp; done) | (simp [*]; done)), H', ⟨by have := HK1.out; have := HJ9.out; first | omega | exact Nat.le_refl _⟩, ⟨zr HO_6.out⟩, ⟨zr HO_7.out⟩, ⟨zr HO_8.out⟩, ⟨by (with_reducible repeat (first | refine blk_drewN ?_ _ | refine blk_drew ?_ | refine blk_alloc ?_ _)); exact BK718.out⟩, ⟨by (with_reducible repeat (first | refine blk_drewN ?_ _ | refine blk_drew ?_ | refine blk_alloc ?_ _)); exact BK719.out⟩, ⟨by repeat (first | (with_reducible first | exact HB.out | apply below_alloc | apply pw_below_drewN | apply below_drew1 | refine below_set ?_ GE718.out | refine below_set ?_ GE719.out) | exact HB.out)⟩⟩
           ·rw [if_neg c28] at H
            have c28b0 : decide (5 < ((rd_T39 l0 x19_1).f0)) = false := decide_eq_false c28
            clear c28
            by_cases c31 : x12_9 = true
            ·subst c31
             have H1 : ((impl_kWithin.f ((rd_T39 l0 x19_1).f1) 0 7).bind fun t720 => (if t720 = true then (if ((rd_T39 l0 x19_1).f0) = 1 then ((impl_kWithin.f ((rd_T39 l0 x19_1).f2) 0 1000).bind fun t721 => (impl_LeaseRun.j2 kj9 x4_1 x5_1 x6_1 x7_1 x8_1 l0 (l0.length : Int) x19_1 (!t721) ((rd_T39 l0 x19_1).f0) ((rd_T39 l0 x19_1).f1) ((rd_T39 l0 x19_1).f2) 0 0)) else (impl_LeaseRun.j2 kj9 x4_1 x5_1 x6_1 x7_1 x8_1 l0 (l0.length : Int) x19_1 false ((rd_T39 l0 x19_1).f0) ((rd_T39 l0 x19_1).f1) ((rd_T39 l0 x19_1).f2) 0 0)) else (impl_LeaseRun.j2 kj9 x4_1 x5_1 x6_1 x7_1 x8_1 l0 (l0.length : Int) x19_1 true ((rd_T39 l0 x19_1).f0) ((rd_T39 l0 x19_1).f1) ((rd_T39 l0 x19_1).f2) 0 0))) = some (r1, r2) := by rw [if_pos rfl] at H; exact H
             clear H
             have H := H1
             clear H1
             replace H := Option.bind_eq_some_iff.mp H
             obtain ⟨t720, A320, H⟩ := H
             replace H : (if t720 = true then (if ((rd_T39 l0 x19_1).f0) = 1 then ((impl_kWithin.f ((rd_T39 l0 x19_1).f2) 0 1000).bind fun t721 => (impl_LeaseRun.j2 kj9 x4_1 x5_1 x6_1 x7_1 x8_1 l0 (l0.length : Int) x19_1 (!t721) ((rd_T39 l0 x19_1).f0) ((rd_T39 l0 x19_1).f1) ((rd_T39 l0 x19_1).f2) 0 0)) else (impl_LeaseRun.j2 kj9 x4_1 x5_1 x6_1 x7_1 x8_1 l0 (l0.length : Int) x19_1 false ((rd_T39 l0 x19_1).f0) ((rd_T39 l0 x19_1).f1) ((rd_T39 l0 x19_1).f2) 0 0)) else (impl_LeaseRun.j2 kj9 x4_1 x5_1 x6_1 x7_1 x8_1 l0 (l0.length : Int) x19_1 true ((rd_T39 l0 x19_1).f0) ((rd_T39 l0 x19_1).f1) ((rd_T39 l0 x19_1).f2) 0 0)) = some (r1, r2) := H
             have A32 := Aside0.mk A320
             clear A320
             by_cases c33 : t720 = true
             ·subst c33
              have H1 : (if ((rd_T39 l0 x19_1).f0) = 1 then ((impl_kWithin.f ((rd_T39 l0 x19_1).f2) 0 1000).bind fun t721 => (impl_LeaseRun.j2 kj9 x4_1 x5_1 x6_1 x7_1 x8_1 l0 (l0.length : Int) x19_1 (!t721) ((rd_T39 l0 x19_1).f0) ((rd_T39 l0 x19_1).f1) ((rd_T39 l0 x19_1).f2) 0 0)) else (impl_LeaseRun.j2 kj9 x4_1 x5_1 x6_1 x7_1 x8_1 l0 (l0.length : Int) x19_1 false ((rd_T39 l0 x19_1).f0) ((rd_T39 l0 x19_1).f1) ((rd_T39 l0 x19_1).f2) 0 0)) = some (r1, r2) := by rw [if_pos rfl] at H; exact H
              clear H
              have H := H1
              clear H1
              by_cases c34 : ((rd_T39 l0 x19_1).f0) = 1
              ·rw [if_pos c34] at H
               have c34b0 : (((rd_T39 l0 x19_1).f0) == 1) = true := beq_iff_eq.mpr c34
               have c34b1 : (((rd_T39 l0 x19_1).f0) != 1) = false := bne_eq_false_iff_eq.mpr c34
               clear c34
               replace H := Option.bind_eq_some_iff.mp H
               obtain ⟨t721, A350, H⟩ := H
               replace H : (impl_LeaseRun.j2 kj9 x4_1 x5_1 x6_1 x7_1 x8_1 l0 (l0.length : Int) x19_1 (!t721) ((rd_T39 l0 x19_1).f0) ((rd_T39 l0 x19_1).f1) ((rd_T39 l0 x19_1).f2) 0 0) = some (r1, r2) := H
               have A35 := Aside0.mk A350
               clear A350
               have H' := Aside0.mk H
               clear H
               have hnb36 := NB718_719.out
               have hnc36 := NB719_718.out
               have hcz37_0 : wc.cell? ⟨gb718, 0, none⟩ = some (.int .i64 ((rd_T39 l0 x19_1).f0)) := (blk_cell BK718.out 0).trans rfl
               have hcz37_1 : wc.cell? ⟨gb718, 1, none⟩ = some (.int .i64 ((rd_T39 l0 x19_1).f1)) := (blk_cell BK718.out 1).trans rfl
               have hcz37_2 : wc.cell? ⟨gb718, 2, none⟩ = some (.int .i64 ((rd_T39 l0 x19_1).f2)) := (blk_cell BK718.out 2).trans rfl
               have hfz37_0 := blk_frozen BK718.out 0
               have hfz37_1 := blk_frozen BK718.out 1
               have hfz37_2 := blk_frozen BK718.out 2
               as_aux_lemma =>
               go_wp2_with (first | (go_at_call 38; (with_reducible refine (impl_kWithin.calls ((rd_T39 l0 x19_1).f1) 0 7 true _ A32.out).mono ?_); rintro e w' ⟨rfl, ⟨nd, rfl⟩⟩) | (go_at_call 38; (with_reducible refine (impl_kWithin.calls ((rd_T39 l0 x19_1).f2) 0 1000 t721 _ A35.out).mono ?_); rintro e w' ⟨rfl, ⟨nd, rfl⟩⟩))
               go_meet
               case rel => exact ⟨_, (!t721), (by first | rfl | (simp; done) | (simp [*]; done)), H', ⟨by have := HK1.out; have := HJ9.out; first | omega | exact Nat.le_refl _⟩, ⟨zr HO_6.out⟩, ⟨zr HO_7.out⟩, ⟨zr HO_8.out⟩, ⟨by (with_reducible repeat (first | refine blk_drewN ?_ _ | refine blk_drew ?_ | refine blk_alloc ?_ _)); exact BK718.out⟩, ⟨by (with_reducible repeat (first | refine blk_drewN ?_ _ | refine blk_drew ?_ | refine blk_alloc ?_ _)); exact BK719.out⟩, ⟨by repeat (first | (with_reducible first | exact HB.out | apply below_alloc | apply pw_below_drewN | apply below_drew1 | refine below_set ?_ GE718.out | refine below_set ?_ GE719.out) | exact HB.out)⟩⟩
              ·rw [if_neg c34] at H
               have c34b0 : (((rd_T39 l0 x19_1).f0) == 1) = false := beq_eq_false_iff_ne.mpr c34
               have c34b1 : (((rd_T39 l0 x19_1).f0) != 1) = true := bne_iff_ne.mpr c34
               have H' := Aside0.mk H
               clear H
               have hnb38 := NB718_719.out
               have hnc38 := NB719_718.out
               have hcz39_0 : wc.cell? ⟨gb718, 0, none⟩ = some (.int .i64 ((rd_T39 l0 x19_1).f0)) := (blk_cell BK718.out 0).trans rfl
               have hcz39_1 : wc.cell? ⟨gb718, 1, none⟩ = some (.int .i64 ((rd_T39 l0 x19_1).f1)) := (blk_cell BK718.out 1).trans rfl
               have hcz39_2 : wc.cell? ⟨gb718, 2, none⟩ = some (.int .i64 ((rd_T39 l0 x19_1).f2)) := (blk_cell BK718.out 2).trans rfl
               have hfz39_0 := blk_frozen BK718.out 0
               have hfz39_1 := blk_frozen BK718.out 1
               have hfz39_2 := blk_frozen BK718.out 2
               as_aux_lemma =>
               go_wp2_with (first | (go_at_call 38; (with_reducible refine (impl_kWithin.calls ((rd_T39 l0 x19_1).f1) 0 7 true _ A32.out).mono ?_); rintro e w' ⟨rfl, ⟨nd, rfl⟩⟩))
               go_meet
               case rel => exact ⟨_, (false), (by first | rfl | (simp; done) | (simp [*]; done)), H', ⟨by have := HK1.out; have := HJ9.out; first | omega | exact Nat.le_refl _⟩, ⟨zr HO_6.out⟩, ⟨zr HO_7.out⟩, ⟨zr HO_8.out⟩, ⟨by (with_reducible repeat (first | refine blk_drewN ?_ _ | refine blk_drew ?_ | refine blk_alloc ?_ _)); exact BK718.out⟩, ⟨by (with_reducible repeat (first | refine blk_drewN ?_ _ | refine blk_drew ?_ | refine blk_alloc ?_ _)); exact BK719.out⟩, ⟨by repeat (first | (with_reducible first | exact HB.out | apply below_alloc | apply pw_below_drewN | apply below_drew1 | refine below_set ?_ GE718.out | refine below_set ?_ GE719.out) | exact HB.out)⟩⟩
             ·replace c33 := Bool.eq_false_iff.mpr c33
              subst c33
              have H1 : (impl_LeaseRun.j2 kj9 x4_1 x5_1 x6_1 x7_1 x8_1 l0 (l0.length : Int) x19_1 true ((rd_T39 l0 x19_1).f0) ((rd_T39 l0 x19_1).f1) ((rd_T39 l0 x19_1).f2) 0 0) = some (r1, r2) := by rw [if_neg (show ¬ (false = true) by decide)] at H; exact H
              clear H
              have H := H1
              clear H1
              have H' := Aside0.mk H
              clear H
              have hnb40 := NB718_719.out
              have hnc40 := NB719_718.out
              have hcz41_0 : wc.cell? ⟨gb718, 0, none⟩ = some (.int .i64 ((rd_T39 l0 x19_1).f0)) := (blk_cell BK718.out 0).trans rfl
              have hcz41_1 : wc.cell? ⟨gb718, 1, none⟩ = some (.int .i64 ((rd_T39 l0 x19_1).f1)) := (blk_cell BK718.out 1).trans rfl
              have hcz41_2 : wc.cell? ⟨gb718, 2, none⟩ = some (.int .i64 ((rd_T39 l0 x19_1).f2)) := (blk_cell BK718.out 2).trans rfl
              have hfz41_0 := blk_frozen BK718.out 0
              have hfz41_1 := blk_frozen BK718.out 1
              have hfz41_2 := blk_frozen BK718.out 2
              as_aux_lemma =>
              go_wp2_with (first | (go_at_call 38; (with_reducible refine (impl_kWithin.calls ((rd_T39 l0 x19_1).f1) 0 7 false _ A32.out).mono ?_); rintro e w' ⟨rfl, ⟨nd, rfl⟩⟩))
              go_meet
              case rel => exact ⟨_, (true), (by first | rfl | (simp; done) | (simp [*]; done)), H', ⟨by have := HK1.out; have := HJ9.out; first | omega | exact Nat.le_refl _⟩, ⟨zr HO_6.out⟩, ⟨zr HO_7.out⟩, ⟨zr HO_8.out⟩, ⟨by (with_reducible repeat (first | refine blk_drewN ?_ _ | refine blk_drew ?_ | refine blk_alloc ?_ _)); exact BK718.out⟩, ⟨by (with_reducible repeat (first | refine blk_drewN ?_ _ | refine blk_drew ?_ | refine blk_alloc ?_ _)); exact BK719.out⟩, ⟨by repeat (first | (with_reducible first | exact HB.out | apply below_alloc | apply pw_below_drewN | apply below_drew1 | refine below_set ?_ GE718.out | refine below_set ?_ GE719.out) | exact HB.out)⟩⟩
            ·replace c31 := Bool.eq_false_iff.mpr c31
             subst c31
             have H1 : (if ((rd_T39 l0 x19_1).f0) = 1 then ((impl_kWithin.f ((rd_T39 l0 x19_1).f2) 0 1000).bind fun t722 => (impl_LeaseRun.j2 kj9 x4_1 x5_1 x6_1 x7_1 x8_1 l0 (l0.length : Int) x19_1 (!t722) ((rd_T39 l0 x19_1).f0) ((rd_T39 l0 x19_1).f1) ((rd_T39 l0 x19_1).f2) 0 0)) else (impl_LeaseRun.j2 kj9 x4_1 x5_1 x6_1 x7_1 x8_1 l0 (l0.length : Int) x19_1 false ((rd_T39 l0 x19_1).f0) ((rd_T39 l0 x19_1).f1) ((rd_T39 l0 x19_1).f2) 0 0)) = some (r1, r2) := by rw [if_neg (show ¬ (false = true) by decide)] at H; exact H
             clear H
             have H := H1
             clear H1
             by_cases c42 : ((rd_T39 l0 x19_1).f0) = 1
             ·rw [if_pos c42] at H
              have c42b0 : (((rd_T39 l0 x19_1).f0) == 1) = true := beq_iff_eq.mpr c42
              have c42b1 : (((rd_T39 l0 x19_1).f0) != 1) = false := bne_eq_false_iff_eq.mpr c42
              clear c42
              replace H := Option.bind_eq_some_iff.mp H
              obtain ⟨t722, A430, H⟩ := H
              replace H : (impl_LeaseRun.j2 kj9 x4_1 x5_1 x6_1 x7_1 x8_1 l0 (l0.length : Int) x19_1 (!t722) ((rd_T39 l0 x19_1).f0) ((rd_T39 l0 x19_1).f1) ((rd_T39 l0 x19_1).f2) 0 0) = some (r1, r2) := H
              have A43 := Aside0.mk A430
              clear A430
              have H' := Aside0.mk H
              clear H
              have hnb44 := NB718_719.out
              have hnc44 := NB719_718.out
              have hcz45_0 : wc.cell? ⟨gb718, 0, none⟩ = some (.int .i64 ((rd_T39 l0 x19_1).f0)) := (blk_cell BK718.out 0).trans rfl
              have hcz45_1 : wc.cell? ⟨gb718, 1, none⟩ = some (.int .i64 ((rd_T39 l0 x19_1).f1)) := (blk_cell BK718.out 1).trans rfl
              have hcz45_2 : wc.cell? ⟨gb718, 2, none⟩ = some (.int .i64 ((rd_T39 l0 x19_1).f2)) := (blk_cell BK718.out 2).trans rfl
              have hfz45_0 := blk_frozen BK718.out 0
              have hfz45_1 := blk_frozen BK718.out 1
              have hfz45_2 := blk_frozen BK718.out 2
              as_aux_lemma =>
              go_wp2_with (first | (go_at_call 38; (with_reducible refine (impl_kWithin.calls ((rd_T39 l0 x19_1).f2) 0 1000 t722 _ A43.out).mono ?_); rintro e w' ⟨rfl, ⟨nd, rfl⟩⟩))
              go_meet
              case rel => exact ⟨_, (!t722), (by first | rfl | (simp; done) | (simp [*]; done)), H', ⟨by have := HK1.out; have := HJ9.out; first | omega | exact Nat.le_refl _⟩, ⟨zr HO_6.out⟩, ⟨zr HO_7.out⟩, ⟨zr HO_8.out⟩, ⟨by (with_reducible repeat (first | refine blk_drewN ?_ _ | refine blk_drew ?_ | refine blk_alloc ?_ _)); exact BK718.out⟩, ⟨by (with_reducible repeat (first | refine blk_drewN ?_ _ | refine blk_drew ?_ | refine blk_alloc ?_ _)); exact BK719.out⟩, ⟨by repeat (first | (with_reducible first | exact HB.out | apply below_alloc | apply pw_below_drewN | apply below_drew1 | refine below_set ?_ GE718.out | refine below_set ?_ GE719.out) | exact HB.out)⟩⟩
             ·rw [if_neg c42] at H
              have c42b0 : (((rd_T39 l0 x19_1).f0) == 1) = false := beq_eq_false_iff_ne.mpr c42
              have c42b1 : (((rd_T39 l0 x19_1).f0) != 1) = true := bne_iff_ne.mpr c42
              have H' := Aside0.mk H
              clear H
              have hnb46 := NB718_719.out
              have hnc46 := NB719_718.out
              have hcz47_0 : wc.cell? ⟨gb718, 0, none⟩ = some (.int .i64 ((rd_T39 l0 x19_1).f0)) := (blk_cell BK718.out 0).trans rfl
              have hcz47_1 : wc.cell? ⟨gb718, 1, none⟩ = some (.int .i64 ((rd_T39 l0 x19_1).f1)) := (blk_cell BK718.out 1).trans rfl
              have hcz47_2 : wc.cell? ⟨gb718, 2, none⟩ = some (.int .i64 ((rd_T39 l0 x19_1).f2)) := (blk_cell BK718.out 2).trans rfl
              have hfz47_0 := blk_frozen BK718.out 0
              have hfz47_1 := blk_frozen BK718.out 1
              have hfz47_2 := blk_frozen BK718.out 2
              as_aux_lemma =>
              go_wp2
              go_meet
              case rel => exact ⟨_, (false), (by first | rfl | (simp; done) | (simp [*]; done)), H', ⟨by have := HK1.out; have := HJ9.out; first | omega | exact Nat.le_refl _⟩, ⟨zr HO_6.out⟩, ⟨zr HO_7.out⟩, ⟨zr HO_8.out⟩, ⟨by (with_reducible repeat (first | refine blk_drewN ?_ _ | refine blk_drew ?_ | refine blk_alloc ?_ _)); exact BK718.out⟩, ⟨by (with_reducible repeat (first | refine blk_drewN ?_ _ | refine blk_drew ?_ | refine blk_alloc ?_ _)); exact BK719.out⟩, ⟨by repeat (first | (with_reducible first | exact HB.out | apply below_alloc | apply pw_below_drewN | apply below_drew1 | refine below_set ?_ GE718.out | refine below_set ?_ GE719.out) | exact HB.out)⟩⟩
         case rest =>
          clear HC24
          try clear c2
          try clear c2b0
          try clear c2b1
          try clear c7
          try clear c7b0
          try clear c8
          try clear c8b0
          try clear c9
          try clear c9b0
          try clear hcz12_0
          try clear hcz12_1
          try clear hcz12_2
          try clear hcz15_0
          try clear hcz15_1
          try clear hfz12_0
          try clear hfz12_1
          try clear hfz12_2
          try clear hfz15_0
          try clear hfz15_1
          try clear hx717_0
          try clear hx717_1
          try clear hx717_2
          try clear p717
          try clear q717
          obtain ⟨kq, x67_23, rfl, HA, HJ23, HO_6, HO_7, HO_8, BK718, BK719, HB⟩ := hcut
          cases kq with
          | zero => exact absurd HA.out (by simp [impl_LeaseRun.j2])
          | succ kj23 =>
           have H := HA.out
           clear HA
           simp only [impl_LeaseRun.j2] at H
           by_cases c48 : x67_23 = true
           ·subst c48
            have H1 : (if x8_1.length < 8796093022208 then (impl_LeaseRun.l0 kj23 x4_1 x5_1 x6_1 x7_1 (x8_1 ++ [(⟨1, 0⟩ : S37)]) l0 (l0.length : Int) (wrap64 (x19_1 + 1))) else (none)) = some (r1, r2) := by rw [if_pos rfl] at H; exact H
            clear H
            have H := H1
            clear H1
            by_cases c49 : x8_1.length < 8796093022208
            ·rw [if_pos c49] at H
             have LMc49 := Aside0.mk c49
             clear c49
             obtain ⟨y723, hy723⟩ : ∃ y_ : List (S37), y_ = (x8_1 ++ [(⟨1, 0⟩ : S37)]) := ⟨_, rfl⟩
             replace H : (impl_LeaseRun.l0 kj23 x4_1 x5_1 x6_1 x7_1 y723 l0 (l0.length : Int) (wrap64 (x19_1 + 1))) = some (r1, r2) := by first | (rw [hy723]; with_reducible exact H) | (have H2_ := (Option.bind_some _ _).symm.trans H; rw [hy723]; with_reducible exact H2_) | (have H2_ := (Option.bind_some _ _).symm.trans H; with_reducible exact H2_) | with_reducible exact H | (rw [hy723]; exact H) | exact H
             have Ny723 := Aside0.mk hy723
             clear hy723
             have H' := Aside0.mk H
             clear H
             have hnb50 := NB719_718.out
             have hnc50 := NB718_719.out
             have hcz51_0 : wc.cell? ⟨gb719, 0, none⟩ = some (.int .i64 0) := (blk_cell BK719.out 0).trans rfl
             have hcz51_1 : wc.cell? ⟨gb719, 1, none⟩ = some (.int .i64 0) := (blk_cell BK719.out 1).trans rfl
             have hfz51_0 := blk_frozen BK719.out 0
             have hfz51_1 := blk_frozen BK719.out 1
             as_aux_lemma =>
             go_wp2_with (first | ((with_reducible refine gate_builtin (b := .append) (xs := #[.tmp 150, .tmp 152]) rfl ?_); at_builtin; refine Kd.R_append k37 (w0 := w) w.heap.size rfl (.tmp 150) (.tmp 152) 33 37 (.agg #[(.int .i64 0), (.int .i64 0)]) 16 rfl Try.underlying33 info37 rfl (by decide) (by omega) u8 x8_1 (⟨1, 0⟩ : S37) [.int .i64 1, .int .i64 0] (fun k_ => k_ ≠ gb719) (fun _ => False) rfl (by first | (go_simp; done) | (go_simp; rfl)) ?aP (fun _ hk => hk.elim) ?aF ?aO ?aB ?aS ?aL ?_; (case aP => exact k37_mkM _ _ _ (⟨1, 0⟩ : S37)); (case aB => exact (by repeat (first | (with_reducible first | exact HB.out | apply below_alloc | apply pw_below_drewN | apply below_drew1 | refine below_set ?_ GE718.out | refine below_set ?_ GE719.out) | exact HB.out))); (case aF => exact (fun k_ hk => Kd.freshB (g := gb719) (o := .cells #[.int .i64 1, .int .i64 0] 37 (0, 0)) (by (with_reducible repeat (first | refine blk_drewN ?_ _ | refine blk_drew ?_ | refine blk_alloc ?_ _)); refine blk_put (cs := #[.int .i64 0, .int .i64 0]) ?_ 0 _ rfl; (with_reducible repeat (first | refine blk_drewN ?_ _ | refine blk_drew ?_ | refine blk_alloc ?_ _)); exact BK719.out) k_ hk)); (case aO => exact (by (with_reducible repeat (first | apply Kd.R_alloc | apply Kd.R_drewN | apply Kd.R_drew)); exact Kd.R_mono (Kd.R_far (p := ⟨gb719, 0, none⟩) (Kd.R_mono HO_8.out (fun k_ hk => (⟨hk, hk⟩ : _ ∧ k_ ≠ gb719))) (fun _ hk => hk.2) (.int .i64 1)) (fun _ hk => hk.1))); (case aS => exact (below_size (by repeat (first | (with_reducible first | exact HB.out | apply below_alloc | apply pw_below_drewN | apply below_drew1 | refine below_set ?_ GE718.out | refine below_set ?_ GE719.out) | exact HB.out)))); (case aL => have := LMc49.out; omega); intro v724 w52 ho hb hg hat; rw [← Ny723.out] at ho; have n0_ := Aside0.mk (Kd.R_over' (by (with_reducible repeat (first | apply Kd.R_alloc | apply Kd.R_drewN | apply Kd.R_drew)); exact (Kd.R_mono (Kd.R_far (p := ⟨gb719, 0, none⟩) (Kd.R_types HO_6.out BK719.out (by decide)) (fun _ hk => hk.2) (.int .i64 1)) (fun _ h_ => h_.1))) (Kd.R_typed (by (with_reducible repeat (first | apply Kd.R_alloc | apply Kd.R_drewN | apply Kd.R_drew)); exact (Kd.R_mono (Kd.R_far (p := ⟨gb719, 0, none⟩) (Kd.R_mono HO_8.out (fun k_ hk => (⟨hk, hk⟩ : _ ∧ k_ ≠ gb719))) (fun _ hk => hk.2) (.int .i64 1)) (fun _ h_ => h_.1)))) (by decide) hg); have n1_ := Aside0.mk (Kd.R_over' (by (with_reducible repeat (first | apply Kd.R_alloc | apply Kd.R_drewN | apply Kd.R_drew)); exact (Kd.R_mono (Kd.R_far (p := ⟨gb719, 0, none⟩) (Kd.R_types HO_7.out BK719.out (by decide)) (fun _ hk => hk.2) (.int .i64 1)) (fun _ h_ => h_.1))) (Kd.R_typed (by (with_reducible repeat (first | apply Kd.R_alloc | apply Kd.R_drewN | apply Kd.R_drew)); exact (Kd.R_mono (Kd.R_far (p := ⟨gb719, 0, none⟩) (Kd.R_mono HO_8.out (fun k_ hk => (⟨hk, hk⟩ : _ ∧ k_ ≠ gb719))) (fun _ hk => hk.2) (.int .i64 1)) (fun _ h_ => h_.1)))) (by decide) hg); have n2_ := Aside0.mk (blk_grown (g := gb718) (o := .cells #[.int .i64 ((rd_T39 l0 x19_1).f0), .int .i64 ((rd_T39 l0 x19_1).f1), .int .i64 ((rd_T39 l0 x19_1).f2)] 39 (0, 0)) (by (with_reducible repeat (first | refine blk_drewN ?_ _ | refine blk_drew ?_ | refine blk_alloc ?_ _)); refine blk_far ?_ NB718_719.out _; (with_reducible repeat (first | refine blk_drewN ?_ _ | refine blk_drew ?_ | refine blk_alloc ?_ _)); exact BK718.out) hg (Kd.R_ne HO_8.out BK718.out (by decide))); have n3_ := Aside0.mk (blk_grown (g := gb719) (o := .cells #[.int .i64 1, .int .i64 0] 37 (0, 0)) (by (with_reducible repeat (first | refine blk_drewN ?_ _ | refine blk_drew ?_ | refine blk_alloc ?_ _)); refine blk_put (cs := #[.int .i64 0, .int .i64 0]) ?_ 0 _ rfl; (with_reducible repeat (first | refine blk_drewN ?_ _ | refine blk_drew ?_ | refine blk_alloc ?_ _)); exact BK719.out) hg (Kd.R_away HO_8.out (fun _ hk => hk))); have n4_ := Aside0.mk (hb); have n5_ := Aside0.mk (ho); clear HO_6; clear HO_7; clear BK718; clear BK719; clear HB; clear HO_8; have HO_6 := n0_; have HO_7 := n1_; have BK718 := n2_; have BK719 := n3_; have HB := n4_; have HO725 := n5_; clear n0_ n1_ n2_ n3_ n4_ n5_; clear ho hb hg hat))
             go_roundg kj23
             case measure => have := HK1.out; have := HJ9.out; have := HJ23.out; omega
             case rel => exact ⟨(x4_1), (x5_1), (x6_1), (x7_1), (y723), (wrap64 (x19_1 + 1)), (by first | rfl | (simp; done) | (simp [*]; done)), (by first | rfl | (simp; done) | (simp [*]; done)), (by first | rfl | (simp; done) | (simp [*]; done)), H', ⟨by have := HK1.out; have := HJ9.out; have := HJ23.out; omega⟩, ⟨zr HO_6.out⟩, ⟨zr HO_7.out⟩, ⟨by (with_reducible repeat (first | apply Kd.R_alloc | apply Kd.R_drewN | apply Kd.R_drew)); exact Kd.R_mono HO725.out (fun _ hk => trivial)⟩, ⟨by repeat (first | (with_reducible first | exact HB.out | apply below_alloc | apply pw_below_drewN | apply below_drew1 | refine below_set ?_ GE718.out | refine below_set ?_ GE719.out) | exact HB.out)⟩⟩
            ·rw [if_neg c49] at H
             cases H
           ·replace c48 := Bool.eq_false_iff.mpr c48
            subst c48
            have H1 : (if ((rd_T39 l0 x19_1).f0) = 1 then (if x8_1.length < 8796093022208 then (impl_LeaseRun.l0 kj23 (wrap64 (x4_1 + ((rd_T39 l0 x19_1).f2))) x5_1 x6_1 x7_1 (x8_1 ++ [(⟨0, 0⟩ : S37)]) l0 (l0.length : Int) (wrap64 (x19_1 + 1))) else (none)) else (if ((rd_T39 l0 x19_1).f0) = 2 then (if 0 ≤ ((rd_T39 l0 x19_1).f1) then (if ((rd_T39 l0 x19_1).f1) < 8 then (if ((rd_T39 l0 x19_1).f1) < (x6_1.length : Int) then (if ((rd_T39 l0 x19_1).f1) < (x7_1.length : Int) then (if x8_1.length < 8796093022208 then (impl_LeaseRun.l0 kj23 x4_1 x5_1 (x6_1.set (((rd_T39 l0 x19_1).f1) : Int).toNat x5_1) (x7_1.set (((rd_T39 l0 x19_1).f1) : Int).toNat (wrap64 (x4_1 + 10))) (x8_1 ++ [(⟨0, x5_1⟩ : S37)]) l0 (l0.length : Int) (wrap64 (x19_1 + 1))) else (none)) else (none)) else (none)) else (none)) else (none)) else (if ((rd_T39 l0 x19_1).f0) = 3 then (if 0 ≤ ((rd_T39 l0 x19_1).f1) then (if ((rd_T39 l0 x19_1).f1) < 8 then (if ((rd_T39 l0 x19_1).f1) < (x6_1.length : Int) then (if (rd x6_1 ((rd_T39 l0 x19_1).f1)) = 0 then (if x8_1.length < 8796093022208 then (impl_LeaseRun.l0 kj23 x4_1 x5_1 x6_1 x7_1 (x8_1 ++ [(⟨10, 0⟩ : S37)]) l0 (l0.length : Int) (wrap64 (x19_1 + 1))) else (none)) else (if ((rd_T39 l0 x19_1).f1) < (x7_1.length : Int) then (if x4_1 ≥ (rd x7_1 ((rd_T39 l0 x19_1).f1)) then (if x8_1.length < 8796093022208 then (impl_LeaseRun.l0 kj23 x4_1 x5_1 x6_1 x7_1 (x8_1 ++ [(⟨10, 0⟩ : S37)]) l0 (l0.length : Int) (wrap64 (x19_1 + 1))) else (none)) else (if x8_1.length < 8796093022208 then (impl_LeaseRun.l0 kj23 x4_1 x5_1 x6_1 x7_1 (x8_1 ++ [(⟨0, rd x6_1 ((rd_T39 l0 x19_1).f1)⟩ : S37)]) l0 (l0.length : Int) (wrap64 (x19_1 + 1))) else (none))) else (none))) else (none)) else (none)) else (none)) else (if ((rd_T39 l0 x19_1).f0) = 4 then (if 0 ≤ ((rd_T39 l0 x19_1).f1) then (if ((rd_T39 l0 x19_1).f1) < 8 then (if ((rd_T39 l0 x19_1).f1) < (x6_1.length : Int) then (if x8_1.length < 8796093022208 then (impl_LeaseRun.l0 kj23 x4_1 x5_1 (x6_1.set (((rd_T39 l0 x19_1).f1) : Int).toNat 0) x7_1 (x8_1 ++ [(⟨0, 0⟩ : S37)]) l0 (l0.length : Int) (wrap64 (x19_1 + 1))) else (none)) else (none)) else (none)) else (none)) else (impl_LeaseRun.l1 kj23 x4_1 x5_1 x6_1 x7_1 x8_1 l0 (l0.length : Int) x19_1 0 0 0))))) = some (r1, r2) := by rw [if_neg (show ¬ (false = true) by decide)] at H; exact H
            clear H
            have H := H1
            clear H1
            by_cases c53 : ((rd_T39 l0 x19_1).f0) = 1
            ·rw [if_pos c53] at H
             have c53b0 : (((rd_T39 l0 x19_1).f0) == 1) = true := beq_iff_eq.mpr c53
             have c53b1 : (((rd_T39 l0 x19_1).f0) != 1) = false := bne_eq_false_iff_eq.mpr c53
             clear c53
             by_cases c54 : x8_1.length < 8796093022208
             ·rw [if_pos c54] at H
              have LMc54 := Aside0.mk c54
              clear c54
              obtain ⟨y726, hy726⟩ : ∃ y_ : List (S37), y_ = (x8_1 ++ [(⟨0, 0⟩ : S37)]) := ⟨_, rfl⟩
              replace H : (impl_LeaseRun.l0 kj23 (wrap64 (x4_1 + ((rd_T39 l0 x19_1).f2))) x5_1 x6_1 x7_1 y726 l0 (l0.length : Int) (wrap64 (x19_1 + 1))) = some (r1, r2) := by first | (rw [hy726]; with_reducible exact H) | (have H2_ := (Option.bind_some _ _).symm.trans H; rw [hy726]; with_reducible exact H2_) | (have H2_ := (Option.bind_some _ _).symm.trans H; with_reducible exact H2_) | with_reducible exact H | (rw [hy726]; exact H) | exact H
              have Ny726 := Aside0.mk hy726
              clear hy726
              have H' := Aside0.mk H
              clear H
              have hnb55 := NB718_719.out
              have hnc55 := NB719_718.out
              have hcz56_0 : wc.cell? ⟨gb718, 0, none⟩ = some (.int .i64 ((rd_T39 l0 x19_1).f0)) := (blk_cell BK718.out 0).trans rfl
              have hcz56_1 : wc.cell? ⟨gb718, 1, none⟩ = some (.int .i64 ((rd_T39 l0 x19_1).f1)) := (blk_cell BK718.out 1).trans rfl
              have hcz56_2 : wc.cell? ⟨gb718, 2, none⟩ = some (.int .i64 ((rd_T39 l0 x19_1).f2)) := (blk_cell BK718.out 2).trans rfl
              have hfz56_0 := blk_frozen BK718.out 0
              have hfz56_1 := blk_frozen BK718.out 1
              have hfz56_2 := blk_frozen BK718.out 2
              have hcz57_0 : wc.cell? ⟨gb719, 0, none⟩ = some (.int .i64 0) := (blk_cell BK719.out 0).trans rfl
              have hcz57_1 : wc.cell? ⟨gb719, 1, none⟩ = some (.int .i64 0) := (blk_cell BK719.out 1).trans rfl
              have hfz57_0 := blk_frozen BK719.out 0
              have hfz57_1 := blk_frozen BK719.out 1
              as_aux_lemma =>
              go_wp2_with (first | ((with_reducible refine gate_builtin (b := .append) (xs := #[.tmp 150, .tmp 152]) rfl ?_); at_builtin; refine Kd.R_append k37 (w0 := w) w.heap.size rfl (.tmp 150) (.tmp 152) 33 37 (.agg #[(.int .i64 0), (.int .i64 0)]) 16 rfl Try.underlying33 info37 rfl (by decide) (by omega) u8 x8_1 (⟨0, 0⟩ : S37) [.int .i64 0, .int .i64 0] (fun k_ => k_ ≠ gb719) (fun _ => False) rfl rfl ?aP (fun _ hk => hk.elim) ?aF ?aO ?aB ?aS ?aL ?_; (case aP => exact k37_mkM _ _ _ (⟨0, 0⟩ : S37)); (case aB => exact (by repeat (first | (with_reducible first | exact HB.out | apply below_alloc | apply pw_below_drewN | apply below_drew1 | refine below_set ?_ GE718.out | refine below_set ?_ GE719.out) | exact HB.out))); (case aF => exact (fun k_ hk => Kd.freshB (g := gb719) (o := .cells #[.int .i64 0, .int .i64 0] 37 (0, 0)) (zk BK719.out) k_ hk)); (case aO => exact (zr HO_8.out)); (case aS => exact (below_size (by repeat (first | (with_reducible first | exact HB.out | apply below_alloc | apply pw_below_drewN | apply below_drew1 | refine below_set ?_ GE718.out | refine below_set ?_ GE719.out) | exact HB.out)))); (case aL => have := LMc54.out; omega); intro v727 w58 ho hb hg hat; rw [← Ny726.out] at ho; have n0_ := Aside0.mk (Kd.R_over' (zr HO_6.out) (Kd.R_typed (zr HO_8.out)) (by decide) hg); have n1_ := Aside0.mk (Kd.R_over' (zr HO_7.out) (Kd.R_typed (zr HO_8.out)) (by decide) hg); have n2_ := Aside0.mk (blk_grown (g := gb718) (o := .cells #[.int .i64 ((rd_T39 l0 x19_1).f0), .int .i64 ((rd_T39 l0 x19_1).f1), .int .i64 ((rd_T39 l0 x19_1).f2)] 39 (0, 0)) (zk BK718.out) hg (Kd.R_ne HO_8.out BK718.out (by decide))); have n3_ := Aside0.mk (blk_grown (g := gb719) (o := .cells #[.int .i64 0, .int .i64 0] 37 (0, 0)) (zk BK719.out) hg (Kd.R_away HO_8.out (fun _ hk => hk))); have n4_ := Aside0.mk (hb); have n5_ := Aside0.mk (ho); clear HO_6; clear HO_7; clear BK718; clear BK719; clear HB; clear HO_8; have HO_6 := n0_; have HO_7 := n1_; have BK718 := n2_; have BK719 := n3_; have HB := n4_; have HO728 := n5_; clear n0_ n1_ n2_ n3_ n4_ n5_; clear ho hb hg hat))
              go_roundg kj23
              case measure => have := HK1.out; have := HJ9.out; have := HJ23.out; omega
              case rel => exact ⟨(wrap64 (x4_1 + ((rd_T39 l0 x19_1).f2))), (x5_1), (x6_1), (x7_1), (y726), (wrap64 (x19_1 + 1)), (by first | rfl | (simp; done) | (simp [*]; done)), (by first | rfl | (simp; done) | (simp [*]; done)), (by first | rfl | (simp; done) | (simp [*]; done)), H', ⟨by have := HK1.out; have := HJ9.out; have := HJ23.out; omega⟩, ⟨zr HO_6.out⟩, ⟨zr HO_7.out⟩, ⟨by (with_reducible repeat (first | apply Kd.R_alloc | apply Kd.R_drewN | apply Kd.R_drew)); exact Kd.R_mono HO728.out (fun _ hk => trivial)⟩, ⟨by repeat (first | (with_reducible first | exact HB.out | apply below_alloc | apply pw_below_drewN | apply below_drew1 | refine below_set ?_ GE718.out | refine below_set ?_ GE719.out) | exact HB.out)⟩⟩
             ·rw [if_neg c54] at H
              cases H
            ·rw [if_neg c53] at H
             have c53b0 : (((rd_T39 l0 x19_1).f0) == 1) = false := beq_eq_false_iff_ne.mpr c53
             have c53b1 : (((rd_T39 l0 x19_1).f0) != 1) = true := bne_iff_ne.mpr c53
             by_cases c59 : ((rd_T39 l0 x19_1).f0) = 2
             ·rw [if_pos c59] at H
              have c59b0 : (((rd_T39 l0 x19_1).f0) == 2) = true := beq_iff_eq.mpr c59
              have c59b1 : (((rd_T39 l0 x19_1).f0) != 2) = false := bne_eq_false_iff_eq.mpr c59
              clear c59
              by_cases c60 : 0 ≤ ((rd_T39 l0 x19_1).f1)
              ·rw [if_pos c60] at H
               have c60b0 : decide (0 ≤ ((rd_T39 l0 x19_1).f1)) = true := decide_eq_true c60
               clear c60
               by_cases c61 : ((rd_T39 l0 x19_1).f1) < 8
               ·rw [if_pos c61] at H
                have c61b0 : decide (((rd_T39 l0 x19_1).f1) < 8) = true := decide_eq_true c61
                have c61b9 := eq_true c61
                clear c61
                by_cases c62 : ((rd_T39 l0 x19_1).f1) < (x6_1.length : Int)
                ·rw [if_pos c62] at H
                 have c62b0 : decide (((rd_T39 l0 x19_1).f1) < (x6_1.length : Int)) = true := decide_eq_true c62
                 clear c62
                 obtain ⟨y729, hy729⟩ : ∃ y_ : List Int, y_ = (x6_1.set (((rd_T39 l0 x19_1).f1) : Int).toNat x5_1) := ⟨_, rfl⟩
                 replace H : (if ((rd_T39 l0 x19_1).f1) < (x7_1.length : Int) then (if x8_1.length < 8796093022208 then (impl_LeaseRun.l0 kj23 x4_1 x5_1 y729 (x7_1.set (((rd_T39 l0 x19_1).f1) : Int).toNat (wrap64 (x4_1 + 10))) (x8_1 ++ [(⟨0, x5_1⟩ : S37)]) l0 (l0.length : Int) (wrap64 (x19_1 + 1))) else (none)) else (none)) = some (r1, r2) := by first | (rw [hy729]; with_reducible exact H) | (have H2_ := (Option.bind_some _ _).symm.trans H; rw [hy729]; with_reducible exact H2_) | (have H2_ := (Option.bind_some _ _).symm.trans H; with_reducible exact H2_) | with_reducible exact H | (rw [hy729]; exact H) | exact H
                 have Ny729 := Aside0.mk hy729
                 clear hy729
                 by_cases c64 : ((rd_T39 l0 x19_1).f1) < (x7_1.length : Int)
                 ·rw [if_pos c64] at H
                  have c64b0 : decide (((rd_T39 l0 x19_1).f1) < (x7_1.length : Int)) = true := decide_eq_true c64
                  clear c64
                  obtain ⟨y730, hy730⟩ : ∃ y_ : List Int, y_ = (x7_1.set (((rd_T39 l0 x19_1).f1) : Int).toNat (wrap64 (x4_1 + 10))) := ⟨_, rfl⟩
                  replace H : (if x8_1.length < 8796093022208 then (impl_LeaseRun.l0 kj23 x4_1 x5_1 y729 y730 (x8_1 ++ [(⟨0, x5_1⟩ : S37)]) l0 (l0.length : Int) (wrap64 (x19_1 + 1))) else (none)) = some (r1, r2) := by first | (rw [hy730]; with_reducible exact H) | (have H2_ := (Option.bind_some _ _).symm.trans H; rw [hy730]; with_reducible exact H2_) | (have H2_ := (Option.bind_some _ _).symm.trans H; with_reducible exact H2_) | with_reducible exact H | (rw [hy730]; exact H) | exact H
                  have Ny730 := Aside0.mk hy730
                  clear hy730
                  by_cases c66 : x8_1.length < 8796093022208
                  ·rw [if_pos c66] at H
                   have LMc66 := Aside0.mk c66
                   clear c66
                   obtain ⟨y731, hy731⟩ : ∃ y_ : List (S37), y_ = (x8_1 ++ [(⟨0, x5_1⟩ : S37)]) := ⟨_, rfl⟩
                   replace H : (impl_LeaseRun.l0 kj23 x4_1 x5_1 y729 y730 y731 l0 (l0.length : Int) (wrap64 (x19_1 + 1))) = some (r1, r2) := by first | (rw [hy731]; with_reducible exact H) | (have H2_ := (Option.bind_some _ _).symm.trans H; rw [hy731]; with_reducible exact H2_) | (have H2_ := (Option.bind_some _ _).symm.trans H; with_reducible exact H2_) | with_reducible exact H | (rw [hy731]; exact H) | exact H
                   have Ny731 := Aside0.mk hy731
                   clear hy731
                   have H' := Aside0.mk H
                   clear H
                   have hnb67 := NB718_719.out
                   have hnc67 := NB719_718.out
                   have hcz68_0 : wc.cell? ⟨gb718, 0, none⟩ = some (.int .i64 ((rd_T39 l0 x19_1).f0)) := (blk_cell BK718.out 0).trans rfl
                   have hcz68_1 : wc.cell? ⟨gb718, 1, none⟩ = some (.int .i64 ((rd_T39 l0 x19_1).f1)) := (blk_cell BK718.out 1).trans rfl
                   have hcz68_2 : wc.cell? ⟨gb718, 2, none⟩ = some (.int .i64 ((rd_T39 l0 x19_1).f2)) := (blk_cell BK718.out 2).trans rfl
                   have hfz68_0 := blk_frozen BK718.out 0
                   have hfz68_1 := blk_frozen BK718.out 1
                   have hfz68_2 := blk_frozen BK718.out 2
                   have p63 : 0 ≤ (((rd_T39 l0 x19_1).f1) : Int) := of_decide_eq_true (by first | (with_reducible assumption) | assumption)
                   have q63 : (((rd_T39 l0 x19_1).f1) : Int) < ((x6_1.length : Int) : Int) := of_decide_eq_true (by first | (with_reducible assumption) | assumption)
                   obtain ⟨go63, co63, eo63, gb63, gl63, cl63, HG63⟩ := Kd.R_form HO_6.out (by omega)
                   (first | cases eo63 | (injection eo63 with ea_ en_ ec_; (first | subst ea_ | (injection ea_ with ea_; subst ea_)); subst ec_; clear en_))
                   have GB63 := Aside0.mk gb63
                   have GG63 := Aside0.mk HG63
                   clear gb63 gl63 HG63
                   obtain ⟨hx63_0, hf63_0⟩ := Kd.R_celln 0 HO_6.out (((rd_T39 l0 x19_1).f1) : Int) p63 q63
                   replace p63 := eq_true p63
                   replace q63 := eq_true q63
                   have HP69 := Kd.R_putg HO_6.out (((rd_T39 l0 x19_1).f1) : Int) x5_1
                   have p9_ : 0 ≤ (((rd_T39 l0 x19_1).f1) : Int) := of_decide_eq_true (by first | (with_reducible assumption) | assumption)
                   have q9_ : (((rd_T39 l0 x19_1).f1) : Int) < ((x7_1.length : Int) : Int) := of_decide_eq_true (by first | (with_reducible assumption) | assumption)
                   have n9_ : (((rd_T39 l0 x19_1).f1) : Int) < 8 := of_decide_eq_true (by first | (with_reducible assumption) | assumption)
                   obtain ⟨go65, co65, eo65, gb65, gl65, cl65, HG65⟩ := Kd.R_form HO_7.out (by omega)
                   (first | cases eo65 | (injection eo65 with ea_ en_ ec_; (first | subst ea_ | (injection ea_ with ea_; subst ea_)); subst ec_; clear en_))
                   have GB65 := Aside0.mk gb65
                   have GG65 := Aside0.mk HG65
                   obtain ⟨hx9_, hf9_⟩ := Kd.R_celln 0 HO_7.out (((rd_T39 l0 x19_1).f1) : Int) p9_ q9_
                   have ne_ : go63 ≠ go65 := fun e => HO_7.out.1 go65 rfl (by rw [← e]; rfl)
                   have ne0_ : go65 ≠ go63 := fun e => ne_ e.symm
                   have ne1a_ : go63 ≠ gb718 := blk_ne GG63.out BK718.out (by decide)
                   have ne1b_ : gb718 ≠ go63 := fun e => ne1a_ e.symm
                   have ne1c_ : go65 ≠ gb718 := blk_ne GG65.out BK718.out (by decide)
                   have ne1d_ : gb718 ≠ go65 := fun e => ne1c_ e.symm
                   clear gb65 gl65 HG65 q9_
                   as_aux_lemma =>
                   go_upto_region 25 with (fail)
                   simp only [pw_at_slice]
                   go_region
                   clear p9_ n9_ hx9_ hf9_ ne_ ne0_ ne1a_ ne1b_ ne1c_ ne1d_
                   obtain ⟨w70, hw0_⟩ : ∃ w_, (wc.setCell ⟨go63, (((rd_T39 l0 x19_1).f1) : Int).toNat, none⟩ (.int .i64 x5_1)) = w_ := ⟨_, rfl⟩
                   have hw := hw0_.symm
                   rw [hw0_]
                   clear hw0_
                   have hg : wc.grownBy w70 (some go63) := (by rw [hw]; exact HP69.2)
                   have hp_ : Kd.R (Kd.int .i64) 70 w70 w.heap.size (fun k_ => some k_ ≠ (.slice (some ⟨go65, 0, none⟩) x7_1.length co65 : Value).ownBlock) (.slice (some ⟨go63, 0, none⟩) x6_1.length co63) y729 := (by rw [hw, Ny729.out]; exact HP69.1)
                   clear HP69
                   have n0_ := Aside0.mk (hp_)
                   have n1_ := Aside0.mk (Kd.R_after (v := (.slice (some ⟨go63, 0, none⟩) x6_1.length co63)) (v1 := (.slice (some ⟨go63, 0, none⟩) x6_1.length co63)) (ok := (fun _ => True)) (by (with_reducible repeat (first | apply Kd.R_alloc | apply Kd.R_drewN | apply Kd.R_drew)); exact Kd.R_mono HO_7.out (fun _ hk => ⟨trivial, hk⟩)) hg (.inl rfl))
                   have n2_ := Aside0.mk (Kd.R_over' (v := (.slice (some ⟨go63, 0, none⟩) x6_1.length co63)) (zr HO_8.out) (Kd.R_typed HO_6.out) (by decide) hg)
                   have n3_ := Aside0.mk (blk_grown (g := gb718) (o := .cells #[.int .i64 ((rd_T39 l0 x19_1).f0), .int .i64 ((rd_T39 l0 x19_1).f1), .int .i64 ((rd_T39 l0 x19_1).f2)] 39 (0, 0)) (zk BK718.out) hg (Kd.R_ne HO_6.out BK718.out (by decide)))
                   have n4_ := Aside0.mk (blk_grown (g := gb719) (o := .cells #[.int .i64 0, .int .i64 0] 37 (0, 0)) (zk BK719.out) hg (Kd.R_ne HO_6.out BK719.out (by decide)))
                   have n5_ := Aside0.mk ((by rw [hw]; exact below_set (HB.out) GB63.out : Below w.heap.size w w70))
                   clear HO_6
                   clear HO_7
                   clear HO_8
                   clear BK718
                   clear BK719
                   clear HB
                   have HO_6 := n0_
                   have HO_7 := n1_
                   have HO_8 := n2_
                   have BK718 := n3_
                   have BK719 := n4_
                   have HB := n5_
                   clear n0_ n1_ n2_ n3_ n4_ n5_
                   clear hg hw hp_
                   have p65 : 0 ≤ (((rd_T39 l0 x19_1).f1) : Int) := of_decide_eq_true (by first | (with_reducible assumption) | assumption)
                   have q65 : (((rd_T39 l0 x19_1).f1) : Int) < ((x7_1.length : Int) : Int) := of_decide_eq_true (by first | (with_reducible assumption) | assumption)
                   obtain ⟨hx65_0, hf65_0⟩ := Kd.R_celln 0 HO_7.out (((rd_T39 l0 x19_1).f1) : Int) p65 q65
                   replace p65 := eq_true p65
                   replace q65 := eq_true q65
                   have n_ := Aside0.mk (Kd.R_mono (ok' := (fun k_ => some k_ ≠ (.slice (some ⟨go63, 0, none⟩) x6_1.length co63 : Value).ownBlock)) HO_7.out (fun k_ hk => hk.2))
                   clear HO_7
                   have HO_7 := n_
                   clear n_
                   obtain ⟨hy71_, hz71_⟩ := Kd.R_celln 0 HO_7.out (((rd_T39 l0 x19_1).f1) : Int) (of_decide_eq_true (by first | (with_reducible assumption) | assumption)) (of_decide_eq_true (by first | (with_reducible assumption) | assumption))
                   have HP71 := Kd.R_putg HO_7.out (((rd_T39 l0 x19_1).f1) : Int) (wrap64 (x4_1 + 10))
                   obtain ⟨w72, hw0_⟩ : ∃ w_, World.drew (w70.setCell ⟨go65, (((rd_T39 l0 x19_1).f1) : Int).toNat, none⟩ (.int .i64 (wrap64 (x4_1 + 10)))) = w_ := ⟨_, rfl⟩
                   have hw := hw0_.symm
                   rw [hw0_]
                   clear hw0_
                   have hg : w70.grownBy w72 (some go65) := (by rw [hw]; exact ⟨HP71.2.os, HP71.2.tape, HP71.2.output, HP71.2.size, HP71.2.block⟩)
                   have hp_ : Kd.R (Kd.int .i64) 70 w72 w.heap.size (fun k_ => some k_ ≠ (.slice (some ⟨go63, 0, none⟩) x6_1.length co63 : Value).ownBlock) (.slice (some ⟨go65, 0, none⟩) x7_1.length co65) y730 := (by rw [hw, Ny730.out]; exact Kd.R_drew HP71.1)
                   clear HP71
                   have n0_ := Aside0.mk (Kd.R_after (v := (.slice (some ⟨go65, 0, none⟩) x7_1.length co65)) (v1 := (.slice (some ⟨go65, 0, none⟩) x7_1.length co65)) (ok := (fun _ => True)) (by (with_reducible repeat (first | apply Kd.R_alloc | apply Kd.R_drewN | apply Kd.R_drew)); exact Kd.R_mono HO_6.out (fun _ hk => ⟨trivial, hk⟩)) hg (.inl rfl))
                   have n1_ := Aside0.mk (hp_)
                   have n2_ := Aside0.mk (Kd.R_over' (v := (.slice (some ⟨go65, 0, none⟩) x7_1.length co65)) (zr HO_8.out) (Kd.R_typed HO_7.out) (by decide) hg)
                   have n3_ := Aside0.mk (blk_grown (g := gb718) (o := .cells #[.int .i64 ((rd_T39 l0 x19_1).f0), .int .i64 ((rd_T39 l0 x19_1).f1), .int .i64 ((rd_T39 l0 x19_1).f2)] 39 (0, 0)) (zk BK718.out) hg (Kd.R_ne HO_7.out BK718.out (by decide)))
                   have n4_ := Aside0.mk (blk_grown (g := gb719) (o := .cells #[.int .i64 0, .int .i64 0] 37 (0, 0)) (zk BK719.out) hg (Kd.R_ne HO_7.out BK719.out (by decide)))
                   have n5_ := Aside0.mk ((by rw [hw]; refine below_drew ?_; exact below_set (HB.out) GB65.out : Below w.heap.size w w72))
                   clear HO_6
                   clear HO_7
                   clear HO_8
                   clear BK718
                   clear BK719
                   clear HB
                   have HO_6 := n0_
                   have HO_7 := n1_
                   have HO_8 := n2_
                   have BK718 := n3_
                   have BK719 := n4_
                   have HB := n5_
                   clear n0_ n1_ n2_ n3_ n4_ n5_
                   clear hg hw hp_
                   have hcz73_0 : w72.cell? ⟨gb719, 0, none⟩ = some (.int .i64 0) := (blk_cell BK719.out 0).trans rfl
                   have hcz73_1 : w72.cell? ⟨gb719, 1, none⟩ = some (.int .i64 0) := (blk_cell BK719.out 1).trans rfl
                   have hfz73_0 := blk_frozen BK719.out 0
                   have hfz73_1 := blk_frozen BK719.out 1
                   go_wp2_with (first | ((with_reducible refine gate_builtin (b := .append) (xs := #[.tmp 150, .tmp 152]) rfl ?_); at_builtin; refine Kd.R_append k37 (w0 := w) w.heap.size rfl (.tmp 150) (.tmp 152) 33 37 (.agg #[(.int .i64 0), (.int .i64 0)]) 16 rfl Try.underlying33 info37 rfl (by decide) (by omega) u8 x8_1 (⟨0, x5_1⟩ : S37) [.int .i64 0, .int .i64 x5_1] (fun k_ => k_ ≠ gb719) (fun _ => False) rfl (by first | (go_simp; done) | (go_simp; rfl)) ?aP (fun _ hk => hk.elim) ?aF ?aO ?aB ?aS ?aL ?_; (case aP => exact k37_mkM _ _ _ (⟨0, x5_1⟩ : S37)); (case aB => exact (by repeat (first | (with_reducible first | exact HB.out | apply below_alloc | apply pw_below_drewN | apply below_drew1 | refine below_set ?_ GE718.out | refine below_set ?_ GE719.out) | exact HB.out))); (case aF => exact (fun k_ hk => Kd.freshB (g := gb719) (o := .cells #[.int .i64 0, .int .i64 x5_1] 37 (0, 0)) (by (with_reducible repeat (first | refine blk_drewN ?_ _ | refine blk_drew ?_ | refine blk_alloc ?_ _)); refine blk_put (cs := #[.int .i64 0, .int .i64 0]) ?_ 1 _ rfl; (with_reducible repeat (first | refine blk_drewN ?_ _ | refine blk_drew ?_ | refine blk_alloc ?_ _)); exact BK719.out) k_ hk)); (case aO => exact (by (with_reducible repeat (first | apply Kd.R_alloc | apply Kd.R_drewN | apply Kd.R_drew)); exact Kd.R_mono (Kd.R_far (p := ⟨gb719, 1, none⟩) (Kd.R_mono HO_8.out (fun k_ hk => (⟨hk, hk⟩ : _ ∧ k_ ≠ gb719))) (fun _ hk => hk.2) (.int .i64 x5_1)) (fun _ hk => hk.1))); (case aS => exact (below_size (by repeat (first | (with_reducible first | exact HB.out | apply below_alloc | apply pw_below_drewN | apply below_drew1 | refine below_set ?_ GE718.out | refine below_set ?_ GE719.out) | exact HB.out)))); (case aL => have := LMc66.out; omega); intro v732 w74 ho hb hg hat; rw [← Ny731.out] at ho; have n0_ := Aside0.mk (Kd.R_over' (by (with_reducible repeat (first | apply Kd.R_alloc | apply Kd.R_drewN | apply Kd.R_drew)); exact (Kd.R_mono (Kd.R_far (p := ⟨gb719, 1, none⟩) (Kd.R_types HO_6.out BK719.out (by decide)) (fun _ hk => hk.2) (.int .i64 x5_1)) (fun _ h_ => h_.1))) (Kd.R_typed (by (with_reducible repeat (first | apply Kd.R_alloc | apply Kd.R_drewN | apply Kd.R_drew)); exact (Kd.R_mono (Kd.R_far (p := ⟨gb719, 1, none⟩) (Kd.R_mono HO_8.out (fun k_ hk => (⟨hk, hk⟩ : _ ∧ k_ ≠ gb719))) (fun _ hk => hk.2) (.int .i64 x5_1)) (fun _ h_ => h_.1)))) (by decide) hg); have n1_ := Aside0.mk (Kd.R_over' (by (with_reducible repeat (first | apply Kd.R_alloc | apply Kd.R_drewN | apply Kd.R_drew)); exact (Kd.R_mono (Kd.R_far (p := ⟨gb719, 1, none⟩) (Kd.R_types HO_7.out BK719.out (by decide)) (fun _ hk => hk.2) (.int .i64 x5_1)) (fun _ h_ => h_.1))) (Kd.R_typed (by (with_reducible repeat (first | apply Kd.R_alloc | apply Kd.R_drewN | apply Kd.R_drew)); exact (Kd.R_mono (Kd.R_far (p := ⟨gb719, 1, none⟩) (Kd.R_mono HO_8.out (fun k_ hk => (⟨hk, hk⟩ : _ ∧ k_ ≠ gb719))) (fun _ hk => hk.2) (.int .i64 x5_1)) (fun _ h_ => h_.1)))) (by decide) hg); have n2_ := Aside0.mk (blk_grown (g := gb718) (o := .cells #[.int .i64 ((rd_T39 l0 x19_1).f0), .int .i64 ((rd_T39 l0 x19_1).f1), .int .i64 ((rd_T39 l0 x19_1).f2)] 39 (0, 0)) (by (with_reducible repeat (first | refine blk_drewN ?_ _ | refine blk_drew ?_ | refine blk_alloc ?_ _)); refine blk_far ?_ NB718_719.out _; (with_reducible repeat (first | refine blk_drewN ?_ _ | refine blk_drew ?_ | refine blk_alloc ?_ _)); exact BK718.out) hg (Kd.R_ne HO_8.out BK718.out (by decide))); have n3_ := Aside0.mk (blk_grown (g := gb719) (o := .cells #[.int .i64 0, .int .i64 x5_1] 37 (0, 0)) (by (with_reducible repeat (first | refine blk_drewN ?_ _ | refine blk_drew ?_ | refine blk_alloc ?_ _)); refine blk_put (cs := #[.int .i64 0, .int .i64 0]) ?_ 1 _ rfl; (with_reducible repeat (first | refine blk_drewN ?_ _ | refine blk_drew ?_ | refine blk_alloc ?_ _)); exact BK719.out) hg (Kd.R_away HO_8.out (fun _ hk => hk))); have n4_ := Aside0.mk (hb); have n5_ := Aside0.mk (ho); clear HO_6; clear HO_7; clear BK718; clear BK719; clear HB; clear HO_8; have HO_6 := n0_; have HO_7 := n1_; have BK718 := n2_; have BK719 := n3_; have HB := n4_; have HO733 := n5_; clear n0_ n1_ n2_ n3_ n4_ n5_; clear ho hb hg hat))
                   go_roundg kj23
                   case measure => have := HK1.out; have := HJ9.out; have := HJ23.out; omega
                   case rel => exact ⟨(x4_1), (x5_1), (y729), (y730), (y731), (wrap64 (x19_1 + 1)), (by first | rfl | (simp; done) | (simp [*]; done)), (by first | rfl | (simp; done) | (simp [*]; done)), (by first | rfl | (simp; done) | (simp [*]; done)), H', ⟨by have := HK1.out; have := HJ9.out; have := HJ23.out; omega⟩, ⟨by (with_reducible repeat (first | apply Kd.R_alloc | apply Kd.R_drewN | apply Kd.R_drew)); exact Kd.R_mono HO_6.out (fun _ hk => hk.2)⟩, ⟨zr HO_7.out⟩, ⟨by (with_reducible repeat (first | apply Kd.R_alloc | apply Kd.R_drewN | apply Kd.R_drew)); exact Kd.R_mono HO733.out (fun _ hk => trivial)⟩, ⟨by repeat (first | (with_reducible first | exact HB.out | apply below_alloc | apply pw_below_drewN | apply below_drew1 | refine below_set ?_ GE718.out | refine below_set ?_ GE719.out) | exact HB.out)⟩⟩
                  ·rw [if_neg c66] at H
                   cases H
                 ·rw [if_neg c64] at H
                  cases H
                ·rw [if_neg c62] at H
                 cases H
               ·rw [if_neg c61] at H
                cases H
              ·rw [if_neg c60] at H
               cases H
             ·rw [if_neg c59] at H
              have c59b0 : (((rd_T39 l0 x19_1).f0) == 2) = false := beq_eq_false_iff_ne.mpr c59
              have c59b1 : (((rd_T39 l0 x19_1).f0) != 2) = true := bne_iff_ne.mpr c59
              by_cases c75 : ((rd_T39 l0 x19_1).f0) = 3
              ·rw [if_pos c75] at H
               have c75b0 : (((rd_T39 l0 x19_1).f0) == 3) = true := beq_iff_eq.mpr c75
               have c75b1 : (((rd_T39 l0 x19_1).f0) != 3) = false := bne_eq_false_iff_eq.mpr c75
               clear c75
               by_cases c76 : 0 ≤ ((rd_T39 l0 x19_1).f1)
               ·rw [if_pos c76] at H
                have c76b0 : decide (0 ≤ ((rd_T39 l0 x19_1).f1)) = true := decide_eq_true c76
                clear c76
                by_cases c77 : ((rd_T39 l0 x19_1).f1) < 8
                ·rw [if_pos c77] at H
                 have c77b0 : decide (((rd_T39 l0 x19_1).f1) < 8) = true := decide_eq_true c77
                 have c77b9 := eq_true c77
                 clear c77
                 by_cases c78 : ((rd_T39 l0 x19_1).f1) < (x6_1.length : Int)
                 ·rw [if_pos c78] at H
                  have c78b0 : decide (((rd_T39 l0 x19_1).f1) < (x6_1.length : Int)) = true := decide_eq_true c78
                  clear c78
                  by_cases c79 : (rd x6_1 ((rd_T39 l0 x19_1).f1)) = 0
                  ·rw [if_pos c79] at H
                   have c79b0 : ((rd x6_1 ((rd_T39 l0 x19_1).f1)) == 0) = true := beq_iff_eq.mpr c79
                   have c79b1 : ((rd x6_1 ((rd_T39 l0 x19_1).f1)) != 0) = false := bne_eq_false_iff_eq.mpr c79
                   clear c79
                   by_cases c80 : x8_1.length < 8796093022208
                   ·rw [if_pos c80] at H
                    have LMc80 := Aside0.mk c80
                    clear c80
                    obtain ⟨y735, hy735⟩ : ∃ y_ : List (S37), y_ = (x8_1 ++ [(⟨10, 0⟩ : S37)]) := ⟨_, rfl⟩
                    replace H : (impl_LeaseRun.l0 kj23 x4_1 x5_1 x6_1 x7_1 y735 l0 (l0.length : Int) (wrap64 (x19_1 + 1))) = some (r1, r2) := by first | (rw [hy735]; with_reducible exact H) | (have H2_ := (Option.bind_some _ _).symm.trans H; rw [hy735]; with_reducible exact H2_) | (have H2_ := (Option.bind_some _ _).symm.trans H; with_reducible exact H2_) | with_reducible exact H | (rw [hy735]; exact H) | exact H
                    have Ny735 := Aside0.mk hy735
                    clear hy735
                    have H' := Aside0.mk H
                    clear H
                    have hnb81 := NB718_719.out
                    have hnc81 := NB719_718.out
                    have hcz82_0 : wc.cell? ⟨gb718, 0, none⟩ = some (.int .i64 ((rd_T39 l0 x19_1).f0)) := (blk_cell BK718.out 0).trans rfl
                    have hcz82_1 : wc.cell? ⟨gb718, 1, none⟩ = some (.int .i64 ((rd_T39 l0 x19_1).f1)) := (blk_cell BK718.out 1).trans rfl
                    have hcz82_2 : wc.cell? ⟨gb718, 2, none⟩ = some (.int .i64 ((rd_T39 l0 x19_1).f2)) := (blk_cell BK718.out 2).trans rfl
                    have hfz82_0 := blk_frozen BK718.out 0
                    have hfz82_1 := blk_frozen BK718.out 1
                    have hfz82_2 := blk_frozen BK718.out 2
                    obtain ⟨Ao83, co83, eo83⟩ := Kd.R_slice HO_6.out
                    subst eo83
                    have p734 : 0 ≤ (((rd_T39 l0 x19_1).f1) : Int) := of_decide_eq_true (by first | (with_reducible assumption) | assumption)
                    have q734 : ((rd_T39 l0 x19_1).f1) < (x6_1.length : Int) := of_decide_eq_true (by first | (with_reducible assumption) | assumption)
                    obtain ⟨ad734, e734, hx734_0⟩ := Kd.at_int (Kd.R_reads' HO_6.out).2.2 ((rd_T39 l0 x19_1).f1) p734 q734
                    cases e734
                    replace p734 := eq_true p734
                    replace q734 := eq_true q734
                    have hcz84_0 : wc.cell? ⟨gb719, 0, none⟩ = some (.int .i64 0) := (blk_cell BK719.out 0).trans rfl
                    have hcz84_1 : wc.cell? ⟨gb719, 1, none⟩ = some (.int .i64 0) := (blk_cell BK719.out 1).trans rfl
                    have hfz84_0 := blk_frozen BK719.out 0
                    have hfz84_1 := blk_frozen BK719.out 1
                    as_aux_lemma =>
                    go_wp2_with (first | ((with_reducible refine gate_builtin (b := .append) (xs := #[.tmp 150, .tmp 152]) rfl ?_); at_builtin; refine Kd.R_append k37 (w0 := w) w.heap.size rfl (.tmp 150) (.tmp 152) 33 37 (.agg #[(.int .i64 0), (.int .i64 0)]) 16 rfl Try.underlying33 info37 rfl (by decide) (by omega) u8 x8_1 (⟨10, 0⟩ : S37) [.int .i64 10, .int .i64 0] (fun k_ => k_ ≠ gb719) (fun _ => False) rfl (by first | (go_simp; done) | (go_simp; rfl)) ?aP (fun _ hk => hk.elim) ?aF ?aO ?aB ?aS ?aL ?_; (case aP => exact k37_mkM _ _ _ (⟨10, 0⟩ : S37)); (case aB => exact (by repeat (first | (with_reducible first | exact HB.out | apply below_alloc | apply pw_below_drewN | apply below_drew1 | refine below_set ?_ GE718.out | refine below_set ?_ GE719.out) | exact HB.out))); (case aF => exact (fun k_ hk => Kd.freshB (g := gb719) (o := .cells #[.int .i64 10, .int .i64 0] 37 (0, 0)) (by (with_reducible repeat (first | refine blk_drewN ?_ _ | refine blk_drew ?_ | refine blk_alloc ?_ _)); refine blk_put (cs := #[.int .i64 0, .int .i64 0]) ?_ 0 _ rfl; (with_reducible repeat (first | refine blk_drewN ?_ _ | refine blk_drew ?_ | refine blk_alloc ?_ _)); exact BK719.out) k_ hk)); (case aO => exact (by (with_reducible repeat (first | apply Kd.R_alloc | apply Kd.R_drewN | apply Kd.R_drew)); exact Kd.R_mono (Kd.R_far (p := ⟨gb719, 0, none⟩) (Kd.R_mono HO_8.out (fun k_ hk => (⟨hk, hk⟩ : _ ∧ k_ ≠ gb719))) (fun _ hk => hk.2) (.int .i64 10)) (fun _ hk => hk.1))); (case aS => exact (below_size (by repeat (first | (with_reducible first | exact HB.out | apply below_alloc | apply pw_below_drewN | apply below_drew1 | refine below_set ?_ GE718.out | refine below_set ?_ GE719.out) | exact HB.out)))); (case aL => have := LMc80.out; omega); intro v736 w85 ho hb hg hat; rw [← Ny735.out] at ho; have n0_ := Aside0.mk (Kd.R_over' (by (with_reducible repeat (first | apply Kd.R_alloc | apply Kd.R_drewN | apply Kd.R_drew)); exact (Kd.R_mono (Kd.R_far (p := ⟨gb719, 0, none⟩) (Kd.R_types HO_6.out BK719.out (by decide)) (fun _ hk => hk.2) (.int .i64 10)) (fun _ h_ => h_.1))) (Kd.R_typed (by (with_reducible repeat (first | apply Kd.R_alloc | apply Kd.R_drewN | apply Kd.R_drew)); exact (Kd.R_mono (Kd.R_far (p := ⟨gb719, 0, none⟩) (Kd.R_mono HO_8.out (fun k_ hk => (⟨hk, hk⟩ : _ ∧ k_ ≠ gb719))) (fun _ hk => hk.2) (.int .i64 10)) (fun _ h_ => h_.1)))) (by decide) hg); have n1_ := Aside0.mk (Kd.R_over' (by (with_reducible repeat (first | apply Kd.R_alloc | apply Kd.R_drewN | apply Kd.R_drew)); exact (Kd.R_mono (Kd.R_far (p := ⟨gb719, 0, none⟩) (Kd.R_types HO_7.out BK719.out (by decide)) (fun _ hk => hk.2) (.int .i64 10)) (fun _ h_ => h_.1))) (Kd.R_typed (by (with_reducible repeat (first | apply Kd.R_alloc | apply Kd.R_drewN | apply Kd.R_drew)); exact (Kd.R_mono (Kd.R_far (p := ⟨gb719, 0, none⟩) (Kd.R_mono HO_8.out (fun k_ hk => (⟨hk, hk⟩ : _ ∧ k_ ≠ gb719))) (fun _ hk => hk.2) (.int .i64 10)) (fun _ h_ => h_.1)))) (by decide) hg); have n2_ := Aside0.mk (blk_grown (g := gb718) (o := .cells #[.int .i64 ((rd_T39 l0 x19_1).f0), .int .i64 ((rd_T39 l0 x19_1).f1), .int .i64 ((rd_T39 l0 x19_1).f2)] 39 (0, 0)) (by (with_reducible repeat (first | refine blk_drewN ?_ _ | refine blk_drew ?_ | refine blk_alloc ?_ _)); refine blk_far ?_ NB718_719.out _; (with_reducible repeat (first | refine blk_drewN ?_ _ | refine blk_drew ?_ | refine blk_alloc ?_ _)); exact BK718.out) hg (Kd.R_ne HO_8.out BK718.out (by decide))); have n3_ := Aside0.mk (blk_grown (g := gb719) (o := .cells #[.int .i64 10, .int .i64 0] 37 (0, 0)) (by (with_reducible repeat (first | refine blk_drewN ?_ _ | refine blk_drew ?_ | refine blk_alloc ?_ _)); refine blk_put (cs := #[.int .i64 0, .int .i64 0]) ?_ 0 _ rfl; (with_reducible repeat (first | refine blk_drewN ?_ _ | refine blk_drew ?_ | refine blk_alloc ?_ _)); exact BK719.out) hg (Kd.R_away HO_8.out (fun _ hk => hk))); have n4_ := Aside0.mk (hb); have n5_ := Aside0.mk (ho); clear HO_6; clear HO_7; clear BK718; clear BK719; clear HB; clear HO_8; have HO_6 := n0_; have HO_7 := n1_; have BK718 := n2_; have BK719 := n3_; have HB := n4_; have HO737 := n5_; clear n0_ n1_ n2_ n3_ n4_ n5_; clear ho hb hg hat))
                    go_roundg kj23
                    case measure => have := HK1.out; have := HJ9.out; have := HJ23.out; omega
                    case rel => exact ⟨(x4_1), (x5_1), (x6_1), (x7_1), (y735), (wrap64 (x19_1 + 1)), (by first | rfl | (simp; done) | (simp [*]; done)), (by first | rfl | (simp; done) | (simp [*]; done)), (by first | rfl | (simp; done) | (simp [*]; done)), H', ⟨by have := HK1.out; have := HJ9.out; have := HJ23.out; omega⟩, ⟨zr HO_6.out⟩, ⟨zr HO_7.out⟩, ⟨by (with_reducible repeat (first | apply Kd.R_alloc | apply Kd.R_drewN | apply Kd.R_drew)); exact Kd.R_mono HO737.out (fun _ hk => trivial)⟩, ⟨by repeat (first | (with_reducible first | exact HB.out | apply below_alloc | apply pw_below_drewN | apply below_drew1 | refine below_set ?_ GE718.out | refine below_set ?_ GE719.out) | exact HB.out)⟩⟩
                   ·rw [if_neg c80] at H
                    cases H
                  ·rw [if_neg c79] at H
                   have c79b0 : ((rd x6_1 ((rd_T39 l0 x19_1).f1)) == 0) = false := beq_eq_false_iff_ne.mpr c79
                   have c79b1 : ((rd x6_1 ((rd_T39 l0 x19_1).f1)) != 0) = true := bne_iff_ne.mpr c79
                   by_cases c86 : ((rd_T39 l0 x19_1).f1) < (x7_1.length : Int)
                   ·rw [if_pos c86] at H
                    have c86b0 : decide (((rd_T39 l0 x19_1).f1) < (x7_1.length : Int)) = true := decide_eq_true c86
                    clear c86
                    by_cases c87 : x4_1 ≥ (rd x7_1 ((rd_T39 l0 x19_1).f1))
                    ·rw [if_pos c87] at H
                     have c87b0 : decide ((rd x7_1 ((rd_T39 l0 x19_1).f1)) ≤ x4_1) = true := decide_eq_true c87
                     clear c87
                     by_cases c88 : x8_1.length < 8796093022208
                     ·rw [if_pos c88] at H
                      have LMc88 := Aside0.mk c88
                      clear c88
                      obtain ⟨y739, hy739⟩ : ∃ y_ : List (S37), y_ = (x8_1 ++ [(⟨10, 0⟩ : S37)]) := ⟨_, rfl⟩
                      replace H : (impl_LeaseRun.l0 kj23 x4_1 x5_1 x6_1 x7_1 y739 l0 (l0.length : Int) (wrap64 (x19_1 + 1))) = some (r1, r2) := by first | (rw [hy739]; with_reducible exact H) | (have H2_ := (Option.bind_some _ _).symm.trans H; rw [hy739]; with_reducible exact H2_) | (have H2_ := (Option.bind_some _ _).symm.trans H; with_reducible exact H2_) | with_reducible exact H | (rw [hy739]; exact H) | exact H
                      have Ny739 := Aside0.mk hy739
                      clear hy739
                      have H' := Aside0.mk H
                      clear H
                      have hnb89 := NB718_719.out
                      have hnc89 := NB719_718.out
                      have hcz90_0 : wc.cell? ⟨gb718, 0, none⟩ = some (.int .i64 ((rd_T39 l0 x19_1).f0)) := (blk_cell BK718.out 0).trans rfl
                      have hcz90_1 : wc.cell? ⟨gb718, 1, none⟩ = some (.int .i64 ((rd_T39 l0 x19_1).f1)) := (blk_cell BK718.out 1).trans rfl
                      have hcz90_2 : wc.cell? ⟨gb718, 2, none⟩ = some (.int .i64 ((rd_T39 l0 x19_1).f2)) := (blk_cell BK718.out 2).trans rfl
                      have hfz90_0 := blk_frozen BK718.out 0
                      have hfz90_1 := blk_frozen BK718.out 1
                      have hfz90_2 := blk_frozen BK718.out 2
                      obtain ⟨Ao91, co91, eo91⟩ := Kd.R_slice HO_6.out
                      subst eo91
                      have p734 : 0 ≤ (((rd_T39 l0 x19_1).f1) : Int) := of_decide_eq_true (by first | (with_reducible assumption) | assumption)
                      have q734 : ((rd_T39 l0 x19_1).f1) < (x6_1.length : Int) := of_decide_eq_true (by first | (with_reducible assumption) | assumption)
                      obtain ⟨ad734, e734, hx734_0⟩ := Kd.at_int (Kd.R_reads' HO_6.out).2.2 ((rd_T39 l0 x19_1).f1) p734 q734
                      cases e734
                      replace p734 := eq_true p734
                      replace q734 := eq_true q734
                      obtain ⟨Ao92, co92, eo92⟩ := Kd.R_slice HO_7.out
                      subst eo92
                      have p738 : 0 ≤ (((rd_T39 l0 x19_1).f1) : Int) := of_decide_eq_true (by first | (with_reducible assumption) | assumption)
                      have q738 : ((rd_T39 l0 x19_1).f1) < (x7_1.length : Int) := of_decide_eq_true (by first | (with_reducible assumption) | assumption)
                      obtain ⟨ad738, e738, hx738_0⟩ := Kd.at_int (Kd.R_reads' HO_7.out).2.2 ((rd_T39 l0 x19_1).f1) p738 q738
                      cases e738
                      replace p738 := eq_true p738
                      replace q738 := eq_true q738
                      have hcz93_0 : wc.cell? ⟨gb719, 0, none⟩ = some (.int .i64 0) := (blk_cell BK719.out 0).trans rfl
                      have hcz93_1 : wc.cell? ⟨gb719, 1, none⟩ = some (.int .i64 0) := (blk_cell BK719.out 1).trans rfl
                      have hfz93_0 := blk_frozen BK719.out 0
                      have hfz93_1 := blk_frozen BK719.out 1
                      as_aux_lemma =>
                      go_wp2_with (first | ((with_reducible refine gate_builtin (b := .append) (xs := #[.tmp 150, .tmp 152]) rfl ?_); at_builtin; refine Kd.R_append k37 (w0 := w) w.heap.size rfl (.tmp 150) (.tmp 152) 33 37 (.agg #[(.int .i64 0), (.int .i64 0)]) 16 rfl Try.underlying33 info37 rfl (by decide) (by omega) u8 x8_1 (⟨10, 0⟩ : S37) [.int .i64 10, .int .i64 0] (fun k_ => k_ ≠ gb719) (fun _ => False) rfl (by first | (go_simp; done) | (go_simp; rfl)) ?aP (fun _ hk => hk.elim) ?aF ?aO ?aB ?aS ?aL ?_; (case aP => exact k37_mkM _ _ _ (⟨10, 0⟩ : S37)); (case aB => exact (by repeat (first | (with_reducible first | exact HB.out | apply below_alloc | apply pw_below_drewN | apply below_drew1 | refine below_set ?_ GE718.out | refine below_set ?_ GE719.out) | exact HB.out))); (case aF => exact (fun k_ hk => Kd.freshB (g := gb719) (o := .cells #[.int .i64 10, .int .i64 0] 37 (0, 0)) (by (with_reducible repeat (first | refine blk_drewN ?_ _ | refine blk_drew ?_ | refine blk_alloc ?_ _)); refine blk_put (cs := #[.int .i64 0, .int .i64 0]) ?_ 0 _ rfl; (with_reducible repeat (first | refine blk_drewN ?_ _ | refine blk_drew ?_ | refine blk_alloc ?_ _)); exact BK719.out) k_ hk)); (case aO => exact (by (with_reducible repeat (first | apply Kd.R_alloc | apply Kd.R_drewN | apply Kd.R_drew)); exact Kd.R_mono (Kd.R_far (p := ⟨gb719, 0, none⟩) (Kd.R_mono HO_8.out (fun k_ hk => (⟨hk, hk⟩ : _ ∧ k_ ≠ gb719))) (fun _ hk => hk.2) (.int .i64 10)) (fun _ hk => hk.1))); (case aS => exact (below_size (by repeat (first | (with_reducible first | exact HB.out | apply below_alloc | apply pw_below_drewN | apply below_drew1 | refine below_set ?_ GE718.out | refine below_set ?_ GE719.out) | exact HB.out)))); (case aL => have := LMc88.out; omega); intro v740 w94 ho hb hg hat; rw [← Ny739.out] at ho; have n0_ := Aside0.mk (Kd.R_over' (by (with_reducible repeat (first | apply Kd.R_alloc | apply Kd.R_drewN | apply Kd.R_drew)); exact (Kd.R_mono (Kd.R_far (p := ⟨gb719, 0, none⟩) (Kd.R_types HO_6.out BK719.out (by decide)) (fun _ hk => hk.2) (.int .i64 10)) (fun _ h_ => h_.1))) (Kd.R_typed (by (with_reducible repeat (first | apply Kd.R_alloc | apply Kd.R_drewN | apply Kd.R_drew)); exact (Kd.R_mono (Kd.R_far (p := ⟨gb719, 0, none⟩) (Kd.R_mono HO_8.out (fun k_ hk => (⟨hk, hk⟩ : _ ∧ k_ ≠ gb719))) (fun _ hk => hk.2) (.int .i64 10)) (fun _ h_ => h_.1)))) (by decide) hg); have n1_ := Aside0.mk (Kd.R_over' (by (with_reducible repeat (first | apply Kd.R_alloc | apply Kd.R_drewN | apply Kd.R_drew)); exact (Kd.R_mono (Kd.R_far (p := ⟨gb719, 0, none⟩) (Kd.R_types HO_7.out BK719.out (by decide)) (fun _ hk => hk.2) (.int .i64 10)) (fun _ h_ => h_.1))) (Kd.R_typed (by (with_reducible repeat (first | apply Kd.R_alloc | apply Kd.R_drewN | apply Kd.R_drew)); exact (Kd.R_mono (Kd.R_far (p := ⟨gb719, 0, none⟩) (Kd.R_mono HO_8.out (fun k_ hk => (⟨hk, hk⟩ : _ ∧ k_ ≠ gb719))) (fun _ hk => hk.2) (.int .i64 10)) (fun _ h_ => h_.1)))) (by decide) hg); have n2_ := Aside0.mk (blk_grown (g := gb718) (o := .cells #[.int .i64 ((rd_T39 l0 x19_1).f0), .int .i64 ((rd_T39 l0 x19_1).f1), .int .i64 ((rd_T39 l0 x19_1).f2)] 39 (0, 0)) (by (with_reducible repeat (first | refine blk_drewN ?_ _ | refine blk_drew ?_ | refine blk_alloc ?_ _)); refine blk_far ?_ NB718_719.out _; (with_reducible repeat (first | refine blk_drewN ?_ _ | refine blk_drew ?_ | refine blk_alloc ?_ _)); exact BK718.out) hg (Kd.R_ne HO_8.out BK718.out (by decide))); have n3_ := Aside0.mk (blk_grown (g := gb719) (o := .cells #[.int .i64 10, .int .i64 0] 37 (0, 0)) (by (with_reducible repeat (first | refine blk_drewN ?_ _ | refine blk_drew ?_ | refine blk_alloc ?_ _)); refine blk_put (cs := #[.int .i64 0, .int .i64 0]) ?_ 0 _ rfl; (with_reducible repeat (first | refine blk_drewN ?_ _ | refine blk_drew ?_ | refine blk_alloc ?_ _)); exact BK719.out) hg (Kd.R_away HO_8.out (fun _ hk => hk))); have n4_ := Aside0.mk (hb); have n5_ := Aside0.mk (ho); clear HO_6; clear HO_7; clear BK718; clear BK719; clear HB; clear HO_8; have HO_6 := n0_; have HO_7 := n1_; have BK718 := n2_; have BK719 := n3_; have HB := n4_; have HO741 := n5_; clear n0_ n1_ n2_ n3_ n4_ n5_; clear ho hb hg hat))
                      go_roundg kj23
                      case measure => have := HK1.out; have := HJ9.out; have := HJ23.out; omega
                      case rel => exact ⟨(x4_1), (x5_1), (x6_1), (x7_1), (y739), (wrap64 (x19_1 + 1)), (by first | rfl | (simp; done) | (simp [*]; done)), (by first | rfl | (simp; done) | (simp [*]; done)), (by first | rfl | (simp; done) | (simp [*]; done)), H', ⟨by have := HK1.out; have := HJ9.out; have := HJ23.out; omega⟩, ⟨zr HO_6.out⟩, ⟨zr HO_7.out⟩, ⟨by (with_reducible repeat (first | apply Kd.R_alloc | apply Kd.R_drewN | apply Kd.R_drew)); exact Kd.R_mono HO741.out (fun _ hk => trivial)⟩, ⟨by repeat (first | (with_reducible first | exact HB.out | apply below_alloc | apply pw_below_drewN | apply below_drew1 | refine below_set ?_ GE718.out | refine below_set ?_ GE719.out) | exact HB.out)⟩⟩
                     ·rw [if_neg c88] at H
                      cases H
                    ·rw [if_neg c87] at H
                     have c87b0 : decide ((rd x7_1 ((rd_T39 l0 x19_1).f1)) ≤ x4_1) = false := decide_eq_false c87
                     clear c87
                     by_cases c95 : x8_1.length < 8796093022208
                     ·rw [if_pos c95] at H
                      have LMc95 := Aside0.mk c95
                      clear c95
                      obtain ⟨y743, hy743⟩ : ∃ y_ : List (S37), y_ = (x8_1 ++ [(⟨0, rd x6_1 ((rd_T39 l0 x19_1).f1)⟩ : S37)]) := ⟨_, rfl⟩
                      replace H : (impl_LeaseRun.l0 kj23 x4_1 x5_1 x6_1 x7_1 y743 l0 (l0.length : Int) (wrap64 (x19_1 + 1))) = some (r1, r2) := by first | (rw [hy743]; with_reducible exact H) | (have H2_ := (Option.bind_some _ _).symm.trans H; rw [hy743]; with_reducible exact H2_) | (have H2_ := (Option.bind_some _ _).symm.trans H; with_reducible exact H2_) | with_reducible exact H | (rw [hy743]; exact H) | exact H
                      have Ny743 := Aside0.mk hy743
                      clear hy743
                      have H' := Aside0.mk H
                      clear H
                      have hnb96 := NB718_719.out
                      have hnc96 := NB719_718.out
                      have hcz97_0 : wc.cell? ⟨gb718, 0, none⟩ = some (.int .i64 ((rd_T39 l0 x19_1).f0)) := (blk_cell BK718.out 0).trans rfl
                      have hcz97_1 : wc.cell? ⟨gb718, 1, none⟩ = some (.int .i64 ((rd_T39 l0 x19_1).f1)) := (blk_cell BK718.out 1).trans rfl
                      have hcz97_2 : wc.cell? ⟨gb718, 2, none⟩ = some (.int .i64 ((rd_T39 l0 x19_1).f2)) := (blk_cell BK718.out 2).trans rfl
                      have hfz97_0 := blk_frozen BK718.out 0
                      have hfz97_1 := blk_frozen BK718.out 1
                      have hfz97_2 := blk_frozen BK718.out 2
                      obtain ⟨Ao98, co98, eo98⟩ := Kd.R_slice HO_6.out
                      subst eo98
                      have p734 : 0 ≤ (((rd_T39 l0 x19_1).f1) : Int) := of_decide_eq_true (by first | (with_reducible assumption) | assumption)
                      have q734 : ((rd_T39 l0 x19_1).f1) < (x6_1.length : Int) := of_decide_eq_true (by first | (with_reducible assumption) | assumption)
                      obtain ⟨ad734, e734, hx734_0⟩ := Kd.at_int (Kd.R_reads' HO_6.out).2.2 ((rd_T39 l0 x19_1).f1) p734 q734
                      cases e734
                      replace p734 := eq_true p734
                      replace q734 := eq_true q734
                      obtain ⟨Ao99, co99, eo99⟩ := Kd.R_slice HO_7.out
                      subst eo99
                      have p738 : 0 ≤ (((rd_T39 l0 x19_1).f1) : Int) := of_decide_eq_true (by first | (with_reducible assumption) | assumption)
                      have q738 : ((rd_T39 l0 x19_1).f1) < (x7_1.length : Int) := of_decide_eq_true (by first | (with_reducible assumption) | assumption)
                      obtain ⟨ad738, e738, hx738_0⟩ := Kd.at_int (Kd.R_reads' HO_7.out).2.2 ((rd_T39 l0 x19_1).f1) p738 q738
                      cases e738
                      replace p738 := eq_true p738
                      replace q738 := eq_true q738
                      have p742 : 0 ≤ (((rd_T39 l0 x19_1).f1) : Int) := of_decide_eq_true (by first | (with_reducible assumption) | assumption)
                      have q742 : ((rd_T39 l0 x19_1).f1) < (x6_1.length : Int) := of_decide_eq_true (by first | (with_reducible assumption) | assumption)
                      obtain ⟨ad742, e742, hx742_0⟩ := Kd.at_int (Kd.R_reads' HO_6.out).2.2 ((rd_T39 l0 x19_1).f1) p742 q742
                      obtain rfl : ad734 = ad742 := (by injection e742)
                      replace p742 := eq_true p742
                      replace q742 := eq_true q742
                      have hcz100_0 : wc.cell? ⟨gb719, 0, none⟩ = some (.int .i64 0) := (blk_cell BK719.out 0).trans rfl
                      have hcz100_1 : wc.cell? ⟨gb719, 1, none⟩ = some (.int .i64 0) := (blk_cell BK719.out 1).trans rfl
                      have hfz100_0 := blk_frozen BK719.out 0
                      have hfz100_1 := blk_frozen BK719.out 1
                      as_aux_lemma =>
                      go_wp2_with (first | ((with_reducible refine gate_builtin (b := .append) (xs := #[.tmp 150, .tmp 152]) rfl ?_); at_builtin; refine Kd.R_append k37 (w0 := w) w.heap.size rfl (.tmp 150) (.tmp 152) 33 37 (.agg #[(.int .i64 0), (.int .i64 0)]) 16 rfl Try.underlying33 info37 rfl (by decide) (by omega) u8 x8_1 (⟨0, rd x6_1 ((rd_T39 l0 x19_1).f1)⟩ : S37) [.int .i64 0, .int .i64 (rd x6_1 ((rd_T39 l0 x19_1).f1))] (fun k_ => k_ ≠ gb719) (fun _ => False) rfl (by first | (go_simp; done) | (go_simp; rfl)) ?aP (fun _ hk => hk.elim) ?aF ?aO ?aB ?aS ?aL ?_; (case aP => exact k37_mkM _ _ _ (⟨0, rd x6_1 ((rd_T39 l0 x19_1).f1)⟩ : S37)); (case aB => exact (by repeat (first | (with_reducible first | exact HB.out | apply below_alloc | apply pw_below_drewN | apply below_drew1 | refine below_set ?_ GE718.out | refine below_set ?_ GE719.out) | exact HB.out))); (case aF => exact (fun k_ hk => Kd.freshB (g := gb719) (o := .cells #[.int .i64 0, .int .i64 (rd x6_1 ((rd_T39 l0 x19_1).f1))] 37 (0, 0)) (by (with_reducible repeat (first | refine blk_drewN ?_ _ | refine blk_drew ?_ | refine blk_alloc ?_ _)); refine blk_put (cs := #[.int .i64 0, .int .i64 0]) ?_ 1 _ rfl; (with_reducible repeat (first | refine blk_drewN ?_ _ | refine blk_drew ?_ | refine blk_alloc ?_ _)); exact BK719.out) k_ hk)); (case aO => exact (by (with_reducible repeat (first | apply Kd.R_alloc | apply Kd.R_drewN | apply Kd.R_drew)); exact Kd.R_mono (Kd.R_far (p := ⟨gb719, 1, none⟩) (Kd.R_mono HO_8.out (fun k_ hk => (⟨hk, hk⟩ : _ ∧ k_ ≠ gb719))) (fun _ hk => hk.2) (.int .i64 (rd x6_1 ((rd_T39 l0 x19_1).f1)))) (fun _ hk => hk.1))); (case aS => exact (below_size (by repeat (first | (with_reducible first | exact HB.out | apply below_alloc | apply pw_below_drewN | apply below_drew1 | refine below_set ?_ GE718.out | refine below_set ?_ GE719.out) | exact HB.out)))); (case aL => have := LMc95.out; omega); intro v744 w101 ho hb hg hat; rw [← Ny743.out] at ho; have n0_ := Aside0.mk (Kd.R_over' (by (with_reducible repeat (first | apply Kd.R_alloc | apply Kd.R_drewN | apply Kd.R_drew)); exact (Kd.R_mono (Kd.R_far (p := ⟨gb719, 1, none⟩) (Kd.R_types HO_6.out BK719.out (by decide)) (fun _ hk => hk.2) (.int .i64 (rd x6_1 ((rd_T39 l0 x19_1).f1)))) (fun _ h_ => h_.1))) (Kd.R_typed (by (with_reducible repeat (first | apply Kd.R_alloc | apply Kd.R_drewN | apply Kd.R_drew)); exact (Kd.R_mono (Kd.R_far (p := ⟨gb719, 1, none⟩) (Kd.R_mono HO_8.out (fun k_ hk => (⟨hk, hk⟩ : _ ∧ k_ ≠ gb719))) (fun _ hk => hk.2) (.int .i64 (rd x6_1 ((rd_T39 l0 x19_1).f1)))) (fun _ h_ => h_.1)))) (by decide) hg); have n1_ := Aside0.mk (Kd.R_over' (by (with_reducible repeat (first | apply Kd.R_alloc | apply Kd.R_drewN | apply Kd.R_drew)); exact (Kd.R_mono (Kd.R_far (p := ⟨gb719, 1, none⟩) (Kd.R_types HO_7.out BK719.out (by decide)) (fun _ hk => hk.2) (.int .i64 (rd x6_1 ((rd_T39 l0 x19_1).f1)))) (fun _ h_ => h_.1))) (Kd.R_typed (by (with_reducible repeat (first | apply Kd.R_alloc | apply Kd.R_drewN | apply Kd.R_drew)); exact (Kd.R_mono (Kd.R_far (p := ⟨gb719, 1, none⟩) (Kd.R_mono HO_8.out (fun k_ hk => (⟨hk, hk⟩ : _ ∧ k_ ≠ gb719))) (fun _ hk => hk.2) (.int .i64 (rd x6_1 ((rd_T39 l0 x19_1).f1)))) (fun _ h_ => h_.1)))) (by decide) hg); have n2_ := Aside0.mk (blk_grown (g := gb718) (o := .cells #[.int .i64 ((rd_T39 l0 x19_1).f0), .int .i64 ((rd_T39 l0 x19_1).f1), .int .i64 ((rd_T39 l0 x19_1).f2)] 39 (0, 0)) (by (with_reducible repeat (first | refine blk_drewN ?_ _ | refine blk_drew ?_ | refine blk_alloc ?_ _)); refine blk_far ?_ NB718_719.out _; (with_reducible repeat (first | refine blk_drewN ?_ _ | refine blk_drew ?_ | refine blk_alloc ?_ _)); exact BK718.out) hg (Kd.R_ne HO_8.out BK718.out (by decide))); have n3_ := Aside0.mk (blk_grown (g := gb719) (o := .cells #[.int .i64 0, .int .i64 (rd x6_1 ((rd_T39 l0 x19_1).f1))] 37 (0, 0)) (by (with_reducible repeat (first | refine blk_drewN ?_ _ | refine blk_drew ?_ | refine blk_alloc ?_ _)); refine blk_put (cs := #[.int .i64 0, .int .i64 0]) ?_ 1 _ rfl; (with_reducible repeat (first | refine blk_drewN ?_ _ | refine blk_drew ?_ | refine blk_alloc ?_ _)); exact BK719.out) hg (Kd.R_away HO_8.out (fun _ hk => hk))); have n4_ := Aside0.mk (hb); have n5_ := Aside0.mk (ho); clear HO_6; clear HO_7; clear BK718; clear BK719; clear HB; clear HO_8; have HO_6 := n0_; have HO_7 := n1_; have BK718 := n2_; have BK719 := n3_; have HB := n4_; have HO745 := n5_; clear n0_ n1_ n2_ n3_ n4_ n5_; clear ho hb hg hat))
                      go_roundg kj23
                      case measure => have := HK1.out; have := HJ9.out; have := HJ23.out; omega
                      case rel => exact ⟨(x4_1), (x5_1), (x6_1), (x7_1), (y743), (wrap64 (x19_1 + 1)), (by first | rfl | (simp; done) | (simp [*]; done)), (by first | rfl | (simp; done) | (simp [*]; done)), (by first | rfl | (simp; done) | (simp [*]; done)), H', ⟨by have := HK1.out; have := HJ9.out; have := HJ23.out; omega⟩, ⟨zr HO_6.out⟩, ⟨zr HO_7.out⟩, ⟨by (with_reducible repeat (first | apply Kd.R_alloc | apply Kd.R_drewN | apply Kd.R_drew)); exact Kd.R_mono HO745.out (fun _ hk => trivial)⟩, ⟨by repeat (first | (with_reducible first | exact HB.out | apply below_alloc | apply pw_below_drewN | apply below_drew1 | refine below_set ?_ GE718.out | refine below_set ?_ GE719.out) | exact HB.out)⟩⟩
                     ·rw [if_neg c95] at H
                      cases H
                   ·rw [if_neg c86] at H
                    cases H
                 ·rw [if_neg c78] at H
                  cases H
                ·rw [if_neg c77] at H
                 cases H
               ·rw [if_neg c76] at H
                cases H
              ·rw [if_neg c75] at H
               have c75b0 : (((rd_T39 l0 x19_1).f0) == 3) = false := beq_eq_false_iff_ne.mpr c75
               have c75b1 : (((rd_T39 l0 x19_1).f0) != 3) = true := bne_iff_ne.mpr c75
               by_cases c102 : ((rd_T39 l0 x19_1).f0) = 4
               ·rw [if_pos c102] at H
                have c102b0 : (((rd_T39 l0 x19_1).f0) == 4) = true := beq_iff_eq.mpr c102
                have c102b1 : (((rd_T39 l0 x19_1).f0) != 4) = false := bne_eq_false_iff_eq.mpr c102
                clear c102
                by_cases c103 : 0 ≤ ((rd_T39 l0 x19_1).f1)
                ·rw [if_pos c103] at H
                 have c103b0 : decide (0 ≤ ((rd_T39 l0 x19_1).f1)) = true := decide_eq_true c103
                 clear c103
                 by_cases c104 : ((rd_T39 l0 x19_1).f1) < 8
                 ·rw [if_pos c104] at H
                  have c104b0 : decide (((rd_T39 l0 x19_1).f1) < 8) = true := decide_eq_true c104
                  have c104b9 := eq_true c104
                  clear c104
                  by_cases c105 : ((rd_T39 l0 x19_1).f1) < (x6_1.length : Int)
                  ·rw [if_pos c105] at H
                   have c105b0 : decide (((rd_T39 l0 x19_1).f1) < (x6_1.length : Int)) = true := decide_eq_true c105
                   clear c105
                   obtain ⟨y746, hy746⟩ : ∃ y_ : List Int, y_ = (x6_1.set (((rd_T39 l0 x19_1).f1) : Int).toNat 0) := ⟨_, rfl⟩
                   replace H : (if x8_1.length < 8796093022208 then (impl_LeaseRun.l0 kj23 x4_1 x5_1 y746 x7_1 (x8_1 ++ [(⟨0, 0⟩ : S37)]) l0 (l0.length : Int) (wrap64 (x19_1 + 1))) else (none)) = some (r1, r2) := by first | (rw [hy746]; with_reducible exact H) | (have H2_ := (Option.bind_some _ _).symm.trans H; rw [hy746]; with_reducible exact H2_) | (have H2_ := (Option.bind_some _ _).symm.trans H; with_reducible exact H2_) | with_reducible exact H | (rw [hy746]; exact H) | exact H
                   have Ny746 := Aside0.mk hy746
                   clear hy746
                   by_cases c107 : x8_1.length < 8796093022208
                   ·rw [if_pos c107] at H
                    have LMc107 := Aside0.mk c107
                    clear c107
                    obtain ⟨y747, hy747⟩ : ∃ y_ : List (S37), y_ = (x8_1 ++ [(⟨0, 0⟩ : S37)]) := ⟨_, rfl⟩
                    replace H : (impl_LeaseRun.l0 kj23 x4_1 x5_1 y746 x7_1 y747 l0 (l0.length : Int) (wrap64 (x19_1 + 1))) = some (r1, r2) := by first | (rw [hy747]; with_reducible exact H) | (have H2_ := (Option.bind_some _ _).symm.trans H; rw [hy747]; with_reducible exact H2_) | (have H2_ := (Option.bind_some _ _).symm.trans H; with_reducible exact H2_) | with_reducible exact H | (rw [hy747]; exact H) | exact H
                    have Ny747 := Aside0.mk hy747
                    clear hy747
                    have H' := Aside0.mk H
                    clear H
                    have hnb108 := NB718_719.out
                    have hnc108 := NB719_718.out
                    have hcz109_0 : wc.cell? ⟨gb718, 0, none⟩ = some (.int .i64 ((rd_T39 l0 x19_1).f0)) := (blk_cell BK718.out 0).trans rfl
                    have hcz109_1 : wc.cell? ⟨gb718, 1, none⟩ = some (.int .i64 ((rd_T39 l0 x19_1).f1)) := (blk_cell BK718.out 1).trans rfl
                    have hcz109_2 : wc.cell? ⟨gb718, 2, none⟩ = some (.int .i64 ((rd_T39 l0 x19_1).f2)) := (blk_cell BK718.out 2).trans rfl
                    have hfz109_0 := blk_frozen BK718.out 0
                    have hfz109_1 := blk_frozen BK718.out 1
                    have hfz109_2 := blk_frozen BK718.out 2
                    have p106 : 0 ≤ (((rd_T39 l0 x19_1).f1) : Int) := of_decide_eq_true (by first | (with_reducible assumption) | assumption)
                    have q106 : (((rd_T39 l0 x19_1).f1) : Int) < ((x6_1.length : Int) : Int) := of_decide_eq_true (by first | (with_reducible assumption) | assumption)
                    obtain ⟨go106, co106, eo106, gb106, gl106, cl106, HG106⟩ := Kd.R_form HO_6.out (by omega)
                    (first | cases eo106 | (injection eo106 with ea_ en_ ec_; (first | subst ea_ | (injection ea_ with ea_; subst ea_)); subst ec_; clear en_))
                    have GB106 := Aside0.mk gb106
                    have GG106 := Aside0.mk HG106
                    clear gb106 gl106 HG106
                    obtain ⟨hx106_0, hf106_0⟩ := Kd.R_celln 0 HO_6.out (((rd_T39 l0 x19_1).f1) : Int) p106 q106
                    replace p106 := eq_true p106
                    replace q106 := eq_true q106
                    have HP110 := Kd.R_putg HO_6.out (((rd_T39 l0 x19_1).f1) : Int) 0
                    as_aux_lemma =>
                    go_wp2_with (first | ((with_reducible refine gate_store (t := 3) (p := 149) rfl ?_); refine store_event (t := 3) (p := 149) (v := ?vo_w111) (w1 := (wc.setCell ⟨go106, (((rd_T39 l0 x19_1).f1) : Int).toNat, none⟩ (.int .i64 0))) ?hg ?ho ?hn ?hr ?_; (case ho => rfl); (case hg => rfl); (case hn => rfl); (case hr => first | (go_simp; done) | (go_simp; rfl)); intro w111 hw; have hg : wc.grownBy w111 (some go106) := (by rw [hw]; exact HP110.2); have hp_ : Kd.R (Kd.int .i64) 70 w111 w.heap.size (fun k_ => some k_ ≠ (v715 : Value).ownBlock) (.slice (some ⟨go106, 0, none⟩) x6_1.length co106) y746 := (by rw [hw, Ny746.out]; exact HP110.1); clear HP110; have n0_ := Aside0.mk (hp_); have n1_ := Aside0.mk (Kd.R_after (v := (.slice (some ⟨go106, 0, none⟩) x6_1.length co106)) (v1 := (.slice (some ⟨go106, 0, none⟩) x6_1.length co106)) (ok := (fun _ => True)) (by (with_reducible repeat (first | apply Kd.R_alloc | apply Kd.R_drewN | apply Kd.R_drew)); exact Kd.R_mono HO_7.out (fun _ hk => ⟨trivial, hk⟩)) hg (.inl rfl)); have n2_ := Aside0.mk (Kd.R_over' (v := (.slice (some ⟨go106, 0, none⟩) x6_1.length co106)) (zr HO_8.out) (Kd.R_typed HO_6.out) (by decide) hg); have n3_ := Aside0.mk (blk_grown (g := gb718) (o := .cells #[.int .i64 ((rd_T39 l0 x19_1).f0), .int .i64 ((rd_T39 l0 x19_1).f1), .int .i64 ((rd_T39 l0 x19_1).f2)] 39 (0, 0)) (zk BK718.out) hg (Kd.R_ne HO_6.out BK718.out (by decide))); have n4_ := Aside0.mk (blk_grown (g := gb719) (o := .cells #[.int .i64 0, .int .i64 0] 37 (0, 0)) (zk BK719.out) hg (Kd.R_ne HO_6.out BK719.out (by decide))); have n5_ := Aside0.mk ((by rw [hw]; exact below_set (HB.out) GB106.out : Below w.heap.size w w111)); clear HO_6; clear HO_7; clear HO_8; clear BK718; clear BK719; clear HB; have HO_6 := n0_; have HO_7 := n1_; have HO_8 := n2_; have BK718 := n3_; have BK719 := n4_; have HB := n5_; clear n0_ n1_ n2_ n3_ n4_ n5_; clear hg hw hp_; have hcz112_0 : w111.cell? ⟨gb719, 0, none⟩ = some (.int .i64 0) := (blk_cell BK719.out 0).trans rfl; have hcz112_1 : w111.cell? ⟨gb719, 1, none⟩ = some (.int .i64 0) := (blk_cell BK719.out 1).trans rfl; have hfz112_0 := blk_frozen BK719.out 0; have hfz112_1 := blk_frozen BK719.out 1) | ((with_reducible refine gate_builtin (b := .append) (xs := #[.tmp 150, .tmp 152]) rfl ?_); at_builtin; refine Kd.R_append k37 (w0 := w) w.heap.size rfl (.tmp 150) (.tmp 152) 33 37 (.agg #[(.int .i64 0), (.int .i64 0)]) 16 rfl Try.underlying33 info37 rfl (by decide) (by omega) u8 x8_1 (⟨0, 0⟩ : S37) [.int .i64 0, .int .i64 0] (fun k_ => k_ ≠ gb719) (fun _ => False) rfl rfl ?aP (fun _ hk => hk.elim) ?aF ?aO ?aB ?aS ?aL ?_; (case aP => exact k37_mkM _ _ _ (⟨0, 0⟩ : S37)); (case aB => exact (by repeat (first | (with_reducible first | exact HB.out | apply below_alloc | apply pw_below_drewN | apply below_drew1 | refine below_set ?_ GE718.out | refine below_set ?_ GE719.out) | exact HB.out))); (case aF => exact (fun k_ hk => Kd.freshB (g := gb719) (o := .cells #[.int .i64 0, .int .i64 0] 37 (0, 0)) (zk BK719.out) k_ hk)); (case aO => exact (zr HO_8.out)); (case aS => exact (below_size (by repeat (first | (with_reducible first | exact HB.out | apply below_alloc | apply pw_below_drewN | apply below_drew1 | refine below_set ?_ GE718.out | refine below_set ?_ GE719.out) | exact HB.out)))); (case aL => have := LMc107.out; omega); intro v748 w113 ho hb hg hat; rw [← Ny747.out] at ho; have n0_ := Aside0.mk (Kd.R_over' (zr HO_6.out) (Kd.R_typed (zr HO_8.out)) (by decide) hg); have n1_ := Aside0.mk (Kd.R_over' (zr HO_7.out) (Kd.R_typed (zr HO_8.out)) (by decide) hg); have n2_ := Aside0.mk (blk_grown (g := gb718) (o := .cells #[.int .i64 ((rd_T39 l0 x19_1).f0), .int .i64 ((rd_T39 l0 x19_1).f1), .int .i64 ((rd_T39 l0 x19_1).f2)] 39 (0, 0)) (zk BK718.out) hg (Kd.R_ne HO_8.out BK718.out (by decide))); have n3_ := Aside0.mk (blk_grown (g := gb719) (o := .cells #[.int .i64 0, .int .i64 0] 37 (0, 0)) (zk BK719.out) hg (Kd.R_away HO_8.out (fun _ hk => hk))); have n4_ := Aside0.mk (hb); have n5_ := Aside0.mk (ho); clear HO_6; clear HO_7; clear BK718; clear BK719; clear HB; clear HO_8; have HO_6 := n0_; have HO_7 := n1_; have BK718 := n2_; have BK719 := n3_; have HB := n4_; have HO749 := n5_; clear n0_ n1_ n2_ n3_ n4_ n5_; clear ho hb hg hat))
                    go_roundg kj23
                    case measure => have := HK1.out; have := HJ9.out; have := HJ23.out; omega
                    case rel => exact ⟨(x4_1), (x5_1), (y746), (x7_1), (y747), (wrap64 (x19_1 + 1)), (by first | rfl | (simp; done) | (simp [*]; done)), (by first | rfl | (simp; done) | (simp [*]; done)), (by first | rfl | (simp; done) | (simp [*]; done)), H', ⟨by have := HK1.out; have := HJ9.out; have := HJ23.out; omega⟩, ⟨zr HO_6.out⟩, ⟨by (with_reducible repeat (first | apply Kd.R_alloc | apply Kd.R_drewN | apply Kd.R_drew)); exact Kd.R_mono HO_7.out (fun _ hk => hk.2)⟩, ⟨by (with_reducible repeat (first | apply Kd.R_alloc | apply Kd.R_drewN | apply Kd.R_drew)); exact Kd.R_mono HO749.out (fun _ hk => trivial)⟩, ⟨by repeat (first | (with_reducible first | exact HB.out | apply below_alloc | apply pw_below_drewN | apply below_drew1 | refine below_set ?_ GE718.out | refine below_set ?_ GE719.out) | exact HB.out)⟩⟩
                   ·rw [if_neg c107] at H
                    cases H
                  ·rw [if_neg c105] at H
                   cases H
                 ·rw [if_neg c104] at H
                  cases H
                ·rw [if_neg c103] at H
                 cases H
               ·rw [if_neg c102] at H
                have c102b0 : (((rd_T39 l0 x19_1).f0) == 4) = false := beq_eq_false_iff_ne.mpr c102
                have c102b1 : (((rd_T39 l0 x19_1).f0) != 4) = true := bne_iff_ne.mpr c102
                have H' := Aside0.mk H
                clear H
                have hnb114 := NB718_719.out
                have hnc114 := NB719_718.out
                have hcz115_0 : wc.cell? ⟨gb718, 0, none⟩ = some (.int .i64 ((rd_T39 l0 x19_1).f0)) := (blk_cell BK718.out 0).trans rfl
                have hcz115_1 : wc.cell? ⟨gb718, 1, none⟩ = some (.int .i64 ((rd_T39 l0 x19_1).f1)) := (blk_cell BK718.out 1).trans rfl
                have hcz115_2 : wc.cell? ⟨gb718, 2, none⟩ = some (.int .i64 ((rd_T39 l0 x19_1).f2)) := (blk_cell BK718.out 2).trans rfl
                have hfz115_0 := blk_frozen BK718.out 0
                have hfz115_1 := blk_frozen BK718.out 1
                have hfz115_2 := blk_frozen BK718.out 2
                as_aux_lemma =>
                go_wp2
                go_loopg [37] kj23 (fun kq v37 w' => ∃ (x37_4 : Int) (x720000_4 : Int), v37 = .int .i64 x37_4 ∧ Aside0 (impl_LeaseRun.l1 kq x4_1 x5_1 x6_1 x7_1 x8_1 l0 (l0.length : Int) x19_1 x37_4 x720000_4 0 = some (r1, r2)) ∧ Aside0 (kq ≤ kj23) ∧ Aside0 (Kd.R (Kd.int .i64) 70 w' w.heap.size (fun k_ => some k_ ≠ (v715 : Value).ownBlock) v712 x6_1) ∧ Aside0 (Kd.R (Kd.int .i64) 70 w' w.heap.size (fun k_ => some k_ ≠ (v712 : Value).ownBlock) v715 x7_1) ∧ Aside0 (Kd.R k37 37 w' w.heap.size (fun k_ => k_ ≠ gb719) u8 x8_1) ∧ Aside0 (w'.heap[gb718]? = some (.cells #[.int .i64 ((rd_T39 l0 x19_1).f0), .int .i64 ((rd_T39 l0 x19_1).f1), .int .i64 ((rd_T39 l0 x19_1).f2)] 39 (0, 0))) ∧ Aside0 (w'.heap[gb719]? = some (.cells #[.int .i64 x720000_4, .int .i64 0] 37 (0, 0))) ∧ Aside0 (Below w.heap.size w w'))
                case atStart => exact ⟨(0), (0), (by first | rfl | (simp; done) | (simp [*]; done)), H', ⟨Nat.le_refl _⟩, ⟨zr HO_6.out⟩, ⟨zr HO_7.out⟩, ⟨zr HO_8.out⟩, ⟨by (with_reducible repeat (first | refine blk_drewN ?_ _ | refine blk_drew ?_ | refine blk_alloc ?_ _)); exact BK718.out⟩, ⟨by (with_reducible repeat (first | refine blk_drewN ?_ _ | refine blk_drew ?_ | refine blk_alloc ?_ _)); exact BK719.out⟩, ⟨by repeat (first | (with_reducible first | exact HB.out | apply below_alloc | apply pw_below_drewN | apply below_drew1 | refine below_set ?_ GE718.out | refine below_set ?_ GE719.out) | exact HB.out)⟩⟩
                case round =>
                 clear H'
                 try clear c2
                 try clear c2b0
                 try clear c2b1
                 try clear c7
                 try clear c7b0
                 try clear c8
                 try clear c8b0
                 try clear c9
                 try clear c9b0
                 try clear c48
                 try clear c53
                 try clear c53b0
                 try clear c53b1
                 try clear c59
                 try clear c59b0
                 try clear c59b1
                 try clear c75
                 try clear c75b0
                 try clear c75b1
                 try clear c102
                 try clear c102b0
                 try clear c102b1
                 try clear hcz115_0
                 try clear hcz115_1
                 try clear hcz115_2
                 try clear hcz12_0
                 try clear hcz12_1
                 try clear hcz12_2
                 try clear hcz15_0
                 try clear hcz15_1
                 try clear hfz115_0
                 try clear hfz115_1
                 try clear hfz115_2
                 try clear hfz12_0
                 try clear hfz12_1
                 try clear hfz12_2
                 try clear hfz15_0
                 try clear hfz15_1
                 try clear hx717_0
                 try clear hx717_1
                 try clear hx717_2
                 try clear p717
                 try clear q717
                 obtain ⟨x37_4, x720000_4, rfl, HA, HK4, HO_6, HO_7, HO_8, BK718, BK719, HB⟩ := hrel
                 cases gk with
                 | zero => exact absurd HA.out (by simp [impl_LeaseRun.l1])
                 | succ k4 =>
                  have H := HA.out
                  clear HA
                  simp only [impl_LeaseRun.l1] at H
                  by_cases c116 : x37_4 < 8
                  ·rw [if_pos c116] at H
                   have c116b0 : decide (x37_4 < 8) = true := decide_eq_true c116
                   have c116b9 := eq_true c116
                   clear c116
                   by_cases c117 : 0 ≤ x37_4
                   ·rw [if_pos c117] at H
                    have c117b0 : decide (0 ≤ x37_4) = true := decide_eq_true c117
                    clear c117
                    by_cases c118 : x37_4 < (x6_1.length : Int)
                    ·rw [if_pos c118] at H
                     have c118b0 : decide (x37_4 < (x6_1.length : Int)) = true := decide_eq_true c118
                     clear c118
                     by_cases c119 : (rd x6_1 x37_4) > 0
                     ·rw [if_pos c119] at H
                      have c119b0 : decide (0 < (rd x6_1 x37_4)) = true := decide_eq_true c119
                      clear c119
                      by_cases c120 : (rd x6_1 x37_4) < x5_1
                      ·rw [if_pos c120] at H
                       have c120b0 : decide ((rd x6_1 x37_4) < x5_1) = true := decide_eq_true c120
                       clear c120
                       by_cases c121 : x37_4 < (x7_1.length : Int)
                       ·rw [if_pos c121] at H
                        have c121b0 : decide (x37_4 < (x7_1.length : Int)) = true := decide_eq_true c121
                        clear c121
                        by_cases c122 : x4_1 < (rd x7_1 x37_4)
                        ·rw [if_pos c122] at H
                         have c122b0 : decide (x4_1 < (rd x7_1 x37_4)) = true := decide_eq_true c122
                         clear c122
                         have H' := Aside0.mk H
                         clear H
                         obtain ⟨Ao123, co123, eo123⟩ := Kd.R_slice HO_6.out
                         subst eo123
                         have p750 : 0 ≤ (x37_4 : Int) := of_decide_eq_true (by first | (with_reducible assumption) | assumption)
                         have q750 : x37_4 < (x6_1.length : Int) := of_decide_eq_true (by first | (with_reducible assumption) | assumption)
                         obtain ⟨ad750, e750, hx750_0⟩ := Kd.at_int (Kd.R_reads' HO_6.out).2.2 x37_4 p750 q750
                         cases e750
                         replace p750 := eq_true p750
                         replace q750 := eq_true q750
                         have p751 : 0 ≤ (x37_4 : Int) := of_decide_eq_true (by first | (with_reducible assumption) | assumption)
                         have q751 : x37_4 < (x6_1.length : Int) := of_decide_eq_true (by first | (with_reducible assumption) | assumption)
                         obtain ⟨ad751, e751, hx751_0⟩ := Kd.at_int (Kd.R_reads' HO_6.out).2.2 x37_4 p751 q751
                         obtain rfl : ad750 = ad751 := (by injection e751)
                         replace p751 := eq_true p751
                         replace q751 := eq_true q751
                         obtain ⟨Ao124, co124, eo124⟩ := Kd.R_slice HO_7.out
                         subst eo124
                         have p752 : 0 ≤ (x37_4 : Int) := of_decide_eq_true (by first | (with_reducible assumption) | assumption)
                         have q752 : x37_4 < (x7_1.length : Int) := of_decide_eq_true (by first | (with_reducible assumption) | assumption)
                         obtain ⟨ad752, e752, hx752_0⟩ := Kd.at_int (Kd.R_reads' HO_7.out).2.2 x37_4 p752 q752
                         cases e752
                         replace p752 := eq_true p752
                         replace q752 := eq_true q752
                         have hnb125 := NB719_718.out
                         have hnc125 := NB718_719.out
                         have hcz126_0 : wr.cell? ⟨gb719, 0, none⟩ = some (.int .i64 x720000_4) := (blk_cell BK719.out 0).trans rfl
                         have hcz126_1 : wr.cell? ⟨gb719, 1, none⟩ = some (.int .i64 0) := (blk_cell BK719.out 1).trans rfl
                         have hfz126_0 := blk_frozen BK719.out 0
                         have hfz126_1 := blk_frozen BK719.out 1
                         as_aux_lemma =>
                         go_wp2
                         go_roundg k4
                         case measure => have := HK1.out; have := HJ9.out; have := HJ23.out; have := HK4.out; omega
                         case rel => exact ⟨(wrap64 (x37_4 + 1)), (13), (by first | rfl | (simp; done) | (simp [*]; done)), H', ⟨by have := HK1.out; have := HJ9.out; have := HJ23.out; have := HK4.out; omega⟩, ⟨by (with_reducible repeat (first | apply Kd.R_alloc | apply Kd.R_drewN | apply Kd.R_drew)); exact Kd.R_mono (Kd.R_far (p := ⟨gb719, 0, none⟩) (Kd.R_types HO_6.out BK719.out (by decide)) (fun _ hk => hk.2) (.int .i64 13)) (fun _ hk => hk.1)⟩, ⟨by (with_reducible repeat (first | apply Kd.R_alloc | apply Kd.R_drewN | apply Kd.R_drew)); exact Kd.R_mono (Kd.R_far (p := ⟨gb719, 0, none⟩) (Kd.R_types HO_7.out BK719.out (by decide)) (fun _ hk => hk.2) (.int .i64 13)) (fun _ hk => hk.1)⟩, ⟨by (with_reducible repeat (first | apply Kd.R_alloc | apply Kd.R_drewN | apply Kd.R_drew)); exact Kd.R_mono (Kd.R_far (p := ⟨gb719, 0, none⟩) (Kd.R_mono HO_8.out (fun k_ hk => (⟨hk, hk⟩ : _ ∧ k_ ≠ gb719))) (fun _ hk => hk.2) (.int .i64 13)) (fun _ hk => hk.1)⟩, ⟨by (with_reducible repeat (first | refine blk_drewN ?_ _ | refine blk_drew ?_ | refine blk_alloc ?_ _)); refine blk_far ?_ NB718_719.out _; (with_reducible repeat (first | refine blk_drewN ?_ _ | refine blk_drew ?_ | refine blk_alloc ?_ _)); exact BK718.out⟩, ⟨by (with_reducible repeat (first | refine blk_drewN ?_ _ | refine blk_drew ?_ | refine blk_alloc ?_ _)); refine blk_put (cs := #[.int .i64 x720000_4, .int .i64 0]) ?_ 0 _ rfl; (with_reducible repeat (first | refine blk_drewN ?_ _ | refine blk_drew ?_ | refine blk_alloc ?_ _)); exact BK719.out⟩, ⟨by repeat (first | (with_reducible first | exact HB.out | apply below_alloc | apply pw_below_drewN | apply below_drew1 | refine below_set ?_ GE718.out | refine below_set ?_ GE719.out) | exact HB.out)⟩⟩
                        ·rw [if_neg c122] at H
                         have c122b0 : decide (x4_1 < (rd x7_1 x37_4)) = false := decide_eq_false c122
                         clear c122
                         have H' := Aside0.mk H
                         clear H
                         obtain ⟨Ao127, co127, eo127⟩ := Kd.R_slice HO_6.out
                         subst eo127
                         have p750 : 0 ≤ (x37_4 : Int) := of_decide_eq_true (by first | (with_reducible assumption) | assumption)
                         have q750 : x37_4 < (x6_1.length : Int) := of_decide_eq_true (by first | (with_reducible assumption) | assumption)
                         obtain ⟨ad750, e750, hx750_0⟩ := Kd.at_int (Kd.R_reads' HO_6.out).2.2 x37_4 p750 q750
                         cases e750
                         replace p750 := eq_true p750
                         replace q750 := eq_true q750
                         have p751 : 0 ≤ (x37_4 : Int) := of_decide_eq_true (by first | (with_reducible assumption) | assumption)
                         have q751 : x37_4 < (x6_1.length : Int) := of_decide_eq_true (by first | (with_reducible assumption) | assumption)
                         obtain ⟨ad751, e751, hx751_0⟩ := Kd.at_int (Kd.R_reads' HO_6.out).2.2 x37_4 p751 q751
                         obtain rfl : ad750 = ad751 := (by injection e751)
                         replace p751 := eq_true p751
                         replace q751 := eq_true q751
                         obtain ⟨Ao128, co128, eo128⟩ := Kd.R_slice HO_7.out
                         subst eo128
                         have p752 : 0 ≤ (x37_4 : Int) := of_decide_eq_true (by first | (with_reducible assumption) | assumption)
                         have q752 : x37_4 < (x7_1.length : Int) := of_decide_eq_true (by first | (with_reducible assumption) | assumption)
                         obtain ⟨ad752, e752, hx752_0⟩ := Kd.at_int (Kd.R_reads' HO_7.out).2.2 x37_4 p752 q752
                         cases e752
                         replace p752 := eq_true p752
                         replace q752 := eq_true q752
                         as_aux_lemma =>
                         go_wp2
                         go_roundg k4
                         case measure => have := HK1.out; have := HJ9.out; have := HJ23.out; have := HK4.out; omega
                         case rel => exact ⟨(wrap64 (x37_4 + 1)), (x720000_4), (by first | rfl | (simp; done) | (simp [*]; done)), H', ⟨by have := HK1.out; have := HJ9.out; have := HJ23.out; have := HK4.out; omega⟩, ⟨zr HO_6.out⟩, ⟨zr HO_7.out⟩, ⟨zr HO_8.out⟩, ⟨by (with_reducible repeat (first | refine blk_drewN ?_ _ | refine blk_drew ?_ | refine blk_alloc ?_ _)); exact BK718.out⟩, ⟨by (with_reducible repeat (first | refine blk_drewN ?_ _ | refine blk_drew ?_ | refine blk_alloc ?_ _)); exact BK719.out⟩, ⟨by repeat (first | (with_reducible first | exact HB.out | apply below_alloc | apply pw_below_drewN | apply below_drew1 | refine below_set ?_ GE718.out | refine below_set ?_ GE719.out) | exact HB.out)⟩⟩
                       ·rw [if_neg c121] at H
                        cases H
                      ·rw [if_neg c120] at H
                       have c120b0 : decide ((rd x6_1 x37_4) < x5_1) = false := decide_eq_false c120
                       clear c120
                       have H' := Aside0.mk H
                       clear H
                       obtain ⟨Ao129, co129, eo129⟩ := Kd.R_slice HO_6.out
                       subst eo129
                       have p750 : 0 ≤ (x37_4 : Int) := of_decide_eq_true (by first | (with_reducible assumption) | assumption)
                       have q750 : x37_4 < (x6_1.length : Int) := of_decide_eq_true (by first | (with_reducible assumption) | assumption)
                       obtain ⟨ad750, e750, hx750_0⟩ := Kd.at_int (Kd.R_reads' HO_6.out).2.2 x37_4 p750 q750
                       cases e750
                       replace p750 := eq_true p750
                       replace q750 := eq_true q750
                       have p751 : 0 ≤ (x37_4 : Int) := of_decide_eq_true (by first | (with_reducible assumption) | assumption)
                       have q751 : x37_4 < (x6_1.length : Int) := of_decide_eq_true (by first | (with_reducible assumption) | assumption)
                       obtain ⟨ad751, e751, hx751_0⟩ := Kd.at_int (Kd.R_reads' HO_6.out).2.2 x37_4 p751 q751
                       obtain rfl : ad750 = ad751 := (by injection e751)
                       replace p751 := eq_true p751
                       replace q751 := eq_true q751
                       as_aux_lemma =>
                       go_wp2
                       go_roundg k4
                       case measure => have := HK1.out; have := HJ9.out; have := HJ23.out; have := HK4.out; omega
                       case rel => exact ⟨(wrap64 (x37_4 + 1)), (x720000_4), (by first | rfl | (simp; done) | (simp [*]; done)), H', ⟨by have := HK1.out; have := HJ9.out; have := HJ23.out; have := HK4.out; omega⟩, ⟨zr HO_6.out⟩, ⟨zr HO_7.out⟩, ⟨zr HO_8.out⟩, ⟨by (with_reducible repeat (first | refine blk_drewN ?_ _ | refine blk_drew ?_ | refine blk_alloc ?_ _)); exact BK718.out⟩, ⟨by (with_reducible repeat (first | refine blk_drewN ?_ _ | refine blk_drew ?_ | refine blk_alloc ?_ _)); exact BK719.out⟩, ⟨by repeat (first | (with_reducible first | exact HB.out | apply below_alloc | apply pw_below_drewN | apply below_drew1 | refine below_set ?_ GE718.out | refine below_set ?_ GE719.out) | exact HB.out)⟩⟩
                     ·rw [if_neg c119] at H
                      have c119b0 : decide (0 < (rd x6_1 x37_4)) = false := decide_eq_false c119
                      clear c119
                      have H' := Aside0.mk H
                      clear H
                      obtain ⟨Ao130, co130, eo130⟩ := Kd.R_slice HO_6.out
                      subst eo130
                      have p750 : 0 ≤ (x37_4 : Int) := of_decide_eq_true (by first | (with_reducible assumption) | assumption)
                      have q750 : x37_4 < (x6_1.length : Int) := of_decide_eq_true (by first | (with_reducible assumption) | assumption)
                      obtain ⟨ad750, e750, hx750_0⟩ := Kd.at_int (Kd.R_reads' HO_6.out).2.2 x37_4 p750 q750
                      cases e750
                      replace p750 := eq_true p750
                      replace q750 := eq_true q750
                      as_aux_lemma =>
                      go_wp2
                      go_roundg k4
                      case measure => have := HK1.out; have := HJ9.out; have := HJ23.out; have := HK4.out; omega
                      case rel => exact ⟨(wrap64 (x37_4 + 1)), (x720000_4), (by first | rfl | (simp; done) | (simp [*]; done)), H', ⟨by have := HK1.out; have := HJ9.out; have := HJ23.out; have := HK4.out; omega⟩, ⟨zr HO_6.out⟩, ⟨zr HO_7.out⟩, ⟨zr HO_8.out⟩, ⟨by (with_reducible repeat (first | refine blk_drewN ?_ _ | refine blk_drew ?_ | refine blk_alloc ?_ _)); exact BK718.out⟩, ⟨by (with_reducible repeat (first | refine blk_drewN ?_ _ | refine blk_drew ?_ | refine blk_alloc ?_ _)); exact BK719.out⟩, ⟨by repeat (first | (with_reducible first | exact HB.out | apply below_alloc | apply pw_below_drewN | apply below_drew1 | refine below_set ?_ GE718.out | refine below_set ?_ GE719.out) | exact HB.out)⟩⟩
                    ·rw [if_neg c118] at H
                     cases H
                   ·rw [if_neg c117] at H
                    cases H
                  ·rw [if_neg c116] at H
                   have c116b0 : decide (x37_4 < 8) = false := decide_eq_false c116
                   clear c116
                   by_cases c131 : x720000_4 = 0
                   ·rw [if_pos c131] at H
                    have c131b0 : (x720000_4 == 0) = true := beq_iff_eq.mpr c131
                    have c131b1 : (x720000_4 != 0) = false := bne_eq_false_iff_eq.mpr c131
                    clear c131
                    by_cases c132 : x8_1.length < 8796093022208
                    ·rw [if_pos c132] at H
                     have LMc132 := Aside0.mk c132
                     clear c132
                     obtain ⟨y753, hy753⟩ : ∃ y_ : List (S37), y_ = (x8_1 ++ [(⟨x720000_4, wrap64 (x5_1 + 1)⟩ : S37)]) := ⟨_, rfl⟩
                     replace H : (impl_LeaseRun.l0 k4 x4_1 (wrap64 (x5_1 + 1)) x6_1 x7_1 y753 l0 (l0.length : Int) (wrap64 (x19_1 + 1))) = some (r1, r2) := by first | (rw [hy753]; with_reducible exact H) | (have H2_ := (Option.bind_some _ _).symm.trans H; rw [hy753]; with_reducible exact H2_) | (have H2_ := (Option.bind_some _ _).symm.trans H; with_reducible exact H2_) | with_reducible exact H | (rw [hy753]; exact H) | exact H
                     have Ny753 := Aside0.mk hy753
                     clear hy753
                     have H' := Aside0.mk H
                     clear H
                     have hnb133 := NB719_718.out
                     have hnc133 := NB718_719.out
                     have hcz134_0 : wr.cell? ⟨gb719, 0, none⟩ = some (.int .i64 x720000_4) := (blk_cell BK719.out 0).trans rfl
                     have hcz134_1 : wr.cell? ⟨gb719, 1, none⟩ = some (.int .i64 0) := (blk_cell BK719.out 1).trans rfl
                     have hfz134_0 := blk_frozen BK719.out 0
                     have hfz134_1 := blk_frozen BK719.out 1
                     as_aux_lemma =>
                     go_wp2_with (first | ((with_reducible refine gate_builtin (b := .append) (xs := #[.tmp 150, .tmp 152]) rfl ?_); at_builtin; refine Kd.R_append k37 (w0 := w) w.heap.size rfl (.tmp 150) (.tmp 152) 33 37 (.agg #[(.int .i64 0), (.int .i64 0)]) 16 rfl Try.underlying33 info37 rfl (by decide) (by omega) u8 x8_1 (⟨x720000_4, wrap64 (x5_1 + 1)⟩ : S37) [.int .i64 x720000_4, .int .i64 (wrap64 (x5_1 + 1))] (fun k_ => k_ ≠ gb719) (fun _ => False) rfl (by first | (go_simp; done) | (go_simp; rfl)) ?aP (fun _ hk => hk.elim) ?aF ?aO ?aB ?aS ?aL ?_; (case aP => exact k37_mkM _ _ _ (⟨x720000_4, wrap64 (x5_1 + 1)⟩ : S37)); (case aB => exact (by repeat (first | (with_reducible first | exact HB.out | apply below_alloc | apply pw_below_drewN | apply below_drew1 | refine below_set ?_ GE718.out | refine below_set ?_ GE719.out) | exact HB.out))); (case aF => exact (fun k_ hk => Kd.freshB (g := gb719) (o := .cells #[.int .i64 x720000_4, .int .i64 (wrap64 (x5_1 + 1))] 37 (0, 0)) (by (with_reducible repeat (first | refine blk_drewN ?_ _ | refine blk_drew ?_ | refine blk_alloc ?_ _)); refine blk_put (cs := #[.int .i64 x720000_4, .int .i64 0]) ?_ 1 _ rfl; (with_reducible repeat (first | refine blk_drewN ?_ _ | refine blk_drew ?_ | refine blk_alloc ?_ _)); exact BK719.out) k_ hk)); (case aO => exact (by (with_reducible repeat (first | apply Kd.R_alloc | apply Kd.R_drewN | apply Kd.R_drew)); exact Kd.R_mono (Kd.R_far (p := ⟨gb719, 1, none⟩) (Kd.R_mono HO_8.out (fun k_ hk => (⟨hk, hk⟩ : _ ∧ k_ ≠ gb719))) (fun _ hk => hk.2) (.int .i64 (wrap64 (x5_1 + 1)))) (fun _ hk => hk.1))); (case aS => exact (below_size (by repeat (first | (with_reducible first | exact HB.out | apply below_alloc | apply pw_below_drewN | apply below_drew1 | refine below_set ?_ GE718.out | refine below_set ?_ GE719.out) | exact HB.out)))); (case aL => have := LMc132.out; omega); intro v754 w135 ho hb hg hat; rw [← Ny753.out] at ho; have n0_ := Aside0.mk (Kd.R_over' (by (with_reducible repeat (first | apply Kd.R_alloc | apply Kd.R_drewN | apply Kd.R_drew)); exact (Kd.R_mono (Kd.R_far (p := ⟨gb719, 1, none⟩) (Kd.R_types HO_6.out BK719.out (by decide)) (fun _ hk => hk.2) (.int .i64 (wrap64 (x5_1 + 1)))) (fun _ h_ => h_.1))) (Kd.R_typed (by (with_reducible repeat (first | apply Kd.R_alloc | apply Kd.R_drewN | apply Kd.R_drew)); exact (Kd.R_mono (Kd.R_far (p := ⟨gb719, 1, none⟩) (Kd.R_mono HO_8.out (fun k_ hk => (⟨hk, hk⟩ : _ ∧ k_ ≠ gb719))) (fun _ hk => hk.2) (.int .i64 (wrap64 (x5_1 + 1)))) (fun _ h_ => h_.1)))) (by decide) hg); have n1_ := Aside0.mk (Kd.R_over' (by (with_reducible repeat (first | apply Kd.R_alloc | apply Kd.R_drewN | apply Kd.R_drew)); exact (Kd.R_mono (Kd.R_far (p := ⟨gb719, 1, none⟩) (Kd.R_types HO_7.out BK719.out (by decide)) (fun _ hk => hk.2) (.int .i64 (wrap64 (x5_1 + 1)))) (fun _ h_ => h_.1))) (Kd.R_typed (by (with_reducible repeat (first | apply Kd.R_alloc | apply Kd.R_drewN | apply Kd.R_drew)); exact (Kd.R_mono (Kd.R_far (p := ⟨gb719, 1, none⟩) (Kd.R_mono HO_8.out (fun k_ hk => (⟨hk, hk⟩ : _ ∧ k_ ≠ gb719))) (fun _ hk => hk.2) (.int .i64 (wrap64 (x5_1 + 1)))) (fun _ h_ => h_.1)))) (by decide) hg); have n2_ := Aside0.mk (blk_grown (g := gb718) (o := .cells #[.int .i64 ((rd_T39 l0 x19_1).f0), .int .i64 ((rd_T39 l0 x19_1).f1), .int .i64 ((rd_T39 l0 x19_1).f2)] 39 (0, 0)) (by (with_reducible repeat (first | refine blk_drewN ?_ _ | refine blk_drew ?_ | refine blk_alloc ?_ _)); refine blk_far ?_ NB718_719.out _; (with_reducible repeat (first | refine blk_drewN ?_ _ | refine blk_drew ?_ | refine blk_alloc ?_ _)); exact BK718.out) hg (Kd.R_ne HO_8.out BK718.out (by decide))); have n3_ := Aside0.mk (blk_grown (g := gb719) (o := .cells #[.int .i64 x720000_4, .int .i64 (wrap64 (x5_1 + 1))] 37 (0, 0)) (by (with_reducible repeat (first | refine blk_drewN ?_ _ | refine blk_drew ?_ | refine blk_alloc ?_ _)); refine blk_put (cs := #[.int .i64 x720000_4, .int .i64 0]) ?_ 1 _ rfl; (with_reducible repeat (first | refine blk_drewN ?_ _ | refine blk_drew ?_ | refine blk_alloc ?_ _)); exact BK719.out) hg (Kd.R_away HO_8.out (fun _ hk => hk))); have n4_ := Aside0.mk (hb); have n5_ := Aside0.mk (ho); clear HO_6; clear HO_7; clear BK718; clear BK719; clear HB; clear HO_8; have HO_6 := n0_; have HO_7 := n1_; have BK718 := n2_; have BK719 := n3_; have HB := n4_; have HO755 := n5_; clear n0_ n1_ n2_ n3_ n4_ n5_; clear ho hb hg hat))
                     go_roundg k4
                     case measure => have := HK1.out; have := HJ9.out; have := HJ23.out; have := HK4.out; omega
                     case rel => exact ⟨(x4_1), (wrap64 (x5_1 + 1)), (x6_1), (x7_1), (y753), (wrap64 (x19_1 + 1)), (by first | rfl | (simp; done) | (simp [*]; done)), (by first | rfl | (simp; done) | (simp [*]; done)), (by first | rfl | (simp; done) | (simp [*]; done)), H', ⟨by have := HK1.out; have := HJ9.out; have := HJ23.out; have := HK4.out; omega⟩, ⟨zr HO_6.out⟩, ⟨zr HO_7.out⟩, ⟨by (with_reducible repeat (first | apply Kd.R_alloc | apply Kd.R_drewN | apply Kd.R_drew)); exact Kd.R_mono HO755.out (fun _ hk => trivial)⟩, ⟨by repeat (first | (with_reducible first | exact HB.out | apply below_alloc | apply pw_below_drewN | apply below_drew1 | refine below_set ?_ GE718.out | refine below_set ?_ GE719.out) | exact HB.out)⟩⟩
                    ·rw [if_neg c132] at H
                     cases H
                   ·rw [if_neg c131] at H
                    have c131b0 : (x720000_4 == 0) = false := beq_eq_false_iff_ne.mpr c131
                    have c131b1 : (x720000_4 != 0) = true := bne_iff_ne.mpr c131
                    by_cases c136 : x8_1.length < 8796093022208
                    ·rw [if_pos c136] at H
                     have LMc136 := Aside0.mk c136
                     clear c136
                     obtain ⟨y756, hy756⟩ : ∃ y_ : List (S37), y_ = (x8_1 ++ [(⟨x720000_4, 0⟩ : S37)]) := ⟨_, rfl⟩
                     replace H : (impl_LeaseRun.l0 k4 x4_1 x5_1 x6_1 x7_1 y756 l0 (l0.length : Int) (wrap64 (x19_1 + 1))) = some (r1, r2) := by first | (rw [hy756]; with_reducible exact H) | (have H2_ := (Option.bind_some _ _).symm.trans H; rw [hy756]; with_reducible exact H2_) | (have H2_ := (Option.bind_some _ _).symm.trans H; with_reducible exact H2_) | with_reducible exact H | (rw [hy756]; exact H) | exact H
                     have Ny756 := Aside0.mk hy756
                     clear hy756
                     have H' := Aside0.mk H
                     clear H
                     have hnb137 := NB719_718.out
                     have hnc137 := NB718_719.out
                     have hcz138_0 : wr.cell? ⟨gb719, 0, none⟩ = some (.int .i64 x720000_4) := (blk_cell BK719.out 0).trans rfl
                     have hcz138_1 : wr.cell? ⟨gb719, 1, none⟩ = some (.int .i64 0) := (blk_cell BK719.out 1).trans rfl
                     have hfz138_0 := blk_frozen BK719.out 0
                     have hfz138_1 := blk_frozen BK719.out 1
                     as_aux_lemma =>
                     go_wp2_with (first | ((with_reducible refine gate_builtin (b := .append) (xs := #[.tmp 150, .tmp 152]) rfl ?_); at_builtin; refine Kd.R_append k37 (w0 := w) w.heap.size rfl (.tmp 150) (.tmp 152) 33 37 (.agg #[(.int .i64 0), (.int .i64 0)]) 16 rfl Try.underlying33 info37 rfl (by decide) (by omega) u8 x8_1 (⟨x720000_4, 0⟩ : S37) [.int .i64 x720000_4, .int .i64 0] (fun k_ => k_ ≠ gb719) (fun _ => False) rfl rfl ?aP (fun _ hk => hk.elim) ?aF ?aO ?aB ?aS ?aL ?_; (case aP => exact k37_mkM _ _ _ (⟨x720000_4, 0⟩ : S37)); (case aB => exact (by repeat (first | (with_reducible first | exact HB.out | apply below_alloc | apply pw_below_drewN | apply below_drew1 | refine below_set ?_ GE718.out | refine below_set ?_ GE719.out) | exact HB.out))); (case aF => exact (fun k_ hk => Kd.freshB (g := gb719) (o := .cells #[.int .i64 x720000_4, .int .i64 0] 37 (0, 0)) (zk BK719.out) k_ hk)); (case aO => exact (zr HO_8.out)); (case aS => exact (below_size (by repeat (first | (with_reducible first | exact HB.out | apply below_alloc | apply pw_below_drewN | apply below_drew1 | refine below_set ?_ GE718.out | refine below_set ?_ GE719.out) | exact HB.out)))); (case aL => have := LMc136.out; omega); intro v757 w139 ho hb hg hat; rw [← Ny756.out] at ho; have n0_ := Aside0.mk (Kd.R_over' (zr HO_6.out) (Kd.R_typed (zr HO_8.out)) (by decide) hg); have n1_ := Aside0.mk (Kd.R_over' (zr HO_7.out) (Kd.R_typed (zr HO_8.out)) (by decide) hg); have n2_ := Aside0.mk (blk_grown (g := gb718) (o := .cells #[.int .i64 ((rd_T39 l0 x19_1).f0), .int .i64 ((rd_T39 l0 x19_1).f1), .int .i64 ((rd_T39 l0 x19_1).f2)] 39 (0, 0)) (zk BK718.out) hg (Kd.R_ne HO_8.out BK718.out (by decide))); have n3_ := Aside0.mk (blk_grown (g := gb719) (o := .cells #[.int .i64 x720000_4, .int .i64 0] 37 (0, 0)) (zk BK719.out) hg (Kd.R_away HO_8.out (fun _ hk => hk))); have n4_ := Aside0.mk (hb); have n5_ := Aside0.mk (ho); clear HO_6; clear HO_7; clear BK718; clear BK719; clear HB; clear HO_8; have HO_6 := n0_; have HO_7 := n1_; have BK718 := n2_; have BK719 := n3_; have HB := n4_; have HO758 := n5_; clear n0_ n1_ n2_ n3_ n4_ n5_; clear ho hb hg hat))
                     go_roundg k4
                     case measure => have := HK1.out; have := HJ9.out; have := HJ23.out; have := HK4.out; omega
                     case rel => exact ⟨(x4_1), (x5_1), (x6_1), (x7_1), (y756), (wrap64 (x19_1 + 1)), (by first | rfl | (simp; done) | (simp [*]; done)), (by first | rfl | (simp; done) | (simp [*]; done)), (by first | rfl | (simp; done) | (simp [*]; done)), H', ⟨by have := HK1.out; have := HJ9.out; have := HJ23.out; have := HK4.out; omega⟩, ⟨zr HO_6.out⟩, ⟨zr HO_7.out⟩, ⟨by (with_reducible repeat (first | apply Kd.R_alloc | apply Kd.R_drewN | apply Kd.R_drew)); exact Kd.R_mono HO758.out (fun _ hk => trivial)⟩, ⟨by repeat (first | (with_reducible first | exact HB.out | apply below_alloc | apply pw_below_drewN | apply below_drew1 | refine below_set ?_ GE718.out | refine below_set ?_ GE719.out) | exact HB.out)⟩⟩
                    ·rw [if_neg c136] at H
                     cases H
      ·rw [if_neg c9] at H
       cases H
     ·rw [if_neg c8] at H
      cases H
    ·rw [if_neg c7] at H
     have c7b0 : decide (x19_1 < (l0.length : Int)) = false := decide_eq_false c7
     clear c7
     simp only [Option.some.injEq, Prod.mk.injEq] at H
     obtain ⟨rfl, rfl⟩ := H
     as_aux_lemma =>
     go_wp2
     go_ret2
     exact ⟨_, by first | rfl | (simp [errW_none, errW_some] <;> rfl) | (simp [*, errW_none, errW_some] <;> rfl), by (with_reducible repeat (first | apply Kd.R_alloc | apply Kd.R_drewN | apply Kd.R_drew)); exact HO_8.out, zb⟩

end Go.Proofs.Ytjnhbegppjeafaa.QFnLeases
