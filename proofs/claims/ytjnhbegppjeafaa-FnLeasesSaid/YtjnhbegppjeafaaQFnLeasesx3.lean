/- The functions that the law reaches, each as a plain Lean function with the proof that the Go code comes to its answers: written by a program of this session. No condition. -/
import Derived.Test.YtjnhbegppjeafaaQFnLeasesx0
namespace Go.Proofs.Ytjnhbegppjeafaa.QFnLeases
open Go.RowKit Go.Proofs.YtjnhbegppjeafaaW.PrintWords Go.Proofs.YtjnhbegppjeafaaW.PrintLast Go.Proofs.YtjnhbegppjeafaaW.PrintMore
attribute [local go_sem] max2_int min2_int max_two min_two max_three min_three max_four min_four str_gtr str_leq str_geq pw_at_slice   -- for this text's walks alone
set_option linter.unusedVariables false
set_option linter.unusedSimpArgs false

/-! ### spec_LeaseRun: function 16 -/
set_option maxRecDepth 100000 in
mutual
def spec_LeaseRun.l0 : Nat → List (S39) → List (S37) → Int → Int → List Int → List Int → Int → Option ((List (S37)) × Int)
 | 0, _, _, _, _, _, _, _ => none
 | k + 1, x0, x4, x5, x6, x7, x8, x9 => if x9 < (x0.length : Int) then (if 0 ≤ x9 then (if ((rd_T39 x0 x9).f1) ≥ 0 then (spec_LeaseRun.j1 k x0 x4 x5 x6 x7 x8 x9 (decide (((rd_T39 x0 x9).f1) < 8)) ((rd_T39 x0 x9).f0) ((rd_T39 x0 x9).f1) ((rd_T39 x0 x9).f2) 0 0) else (spec_LeaseRun.j1 k x0 x4 x5 x6 x7 x8 x9 false ((rd_T39 x0 x9).f0) ((rd_T39 x0 x9).f1) ((rd_T39 x0 x9).f2) 0 0)) else (none)) else (some (x4, 0))
def spec_LeaseRun.j1 : Nat → List (S39) → List (S37) → Int → Int → List Int → List Int → Int → Bool → Int → Int → Int → Int → Int → Option ((List (S37)) × Int)
 | 0, _, _, _, _, _, _, _, _, _, _, _, _, _ => none
 | k + 1, x0, x4, x5, x6, x7, x8, x9, x12, x674000, x674001, x674002, x675000, x675001 => if x674000 = 1 then (if x674002 ≥ 0 then (spec_LeaseRun.j2 k x0 x4 x5 x6 x7 x8 x9 x12 (decide (x674002 ≤ 1000)) x674000 x674001 x674002 x675000 x675001) else (spec_LeaseRun.j2 k x0 x4 x5 x6 x7 x8 x9 x12 false x674000 x674001 x674002 x675000 x675001)) else (spec_LeaseRun.j2 k x0 x4 x5 x6 x7 x8 x9 x12 false x674000 x674001 x674002 x675000 x675001)
def spec_LeaseRun.j2 : Nat → List (S39) → List (S37) → Int → Int → List Int → List Int → Int → Bool → Bool → Int → Int → Int → Int → Int → Option ((List (S37)) × Int)
 | 0, _, _, _, _, _, _, _, _, _, _, _, _, _, _ => none
 | k + 1, x0, x4, x5, x6, x7, x8, x9, x12, x41, x674000, x674001, x674002, x675000, x675001 => if x41 = true then (if x4.length < 8796093022208 then (spec_LeaseRun.l0 k x0 (x4 ++ [(⟨x675000, x675001⟩ : S37)]) (wrap64 (x5 + x674002)) x6 x7 x8 (wrap64 (x9 + 1))) else (none)) else (if x674000 = 2 then (spec_LeaseRun.j3 k x0 x4 x5 x6 x7 x8 x9 x12 x12 x674000 x674001 x674002 x675000 x675001) else (spec_LeaseRun.j3 k x0 x4 x5 x6 x7 x8 x9 x12 false x674000 x674001 x674002 x675000 x675001))
def spec_LeaseRun.j3 : Nat → List (S39) → List (S37) → Int → Int → List Int → List Int → Int → Bool → Bool → Int → Int → Int → Int → Int → Option ((List (S37)) × Int)
 | 0, _, _, _, _, _, _, _, _, _, _, _, _, _, _ => none
 | k + 1, x0, x4, x5, x6, x7, x8, x9, x12, x59, x674000, x674001, x674002, x675000, x675001 => if x59 = true then (if 0 ≤ x674001 then (if x674001 < (x7.length : Int) then (if x674001 < (x8.length : Int) then (if x4.length < 8796093022208 then (spec_LeaseRun.l0 k x0 (x4 ++ [(⟨x675000, x6⟩ : S37)]) x5 x6 (x7.set (x674001 : Int).toNat x6) (x8.set (x674001 : Int).toNat (wrap64 (x5 + 10))) (wrap64 (x9 + 1))) else (none)) else (none)) else (none)) else (none)) else (if x674000 = 3 then (spec_LeaseRun.j4 k x0 x4 x5 x6 x7 x8 x9 x12 x12 x674000 x674001 x674002 x675000 x675001) else (spec_LeaseRun.j4 k x0 x4 x5 x6 x7 x8 x9 x12 false x674000 x674001 x674002 x675000 x675001))
def spec_LeaseRun.j4 : Nat → List (S39) → List (S37) → Int → Int → List Int → List Int → Int → Bool → Bool → Int → Int → Int → Int → Int → Option ((List (S37)) × Int)
 | 0, _, _, _, _, _, _, _, _, _, _, _, _, _, _ => none
 | k + 1, x0, x4, x5, x6, x7, x8, x9, x12, x79, x674000, x674001, x674002, x675000, x675001 => if x79 = true then (if 0 ≤ x674001 then (if x674001 < (x7.length : Int) then (if (rd x7 x674001) = 0 then (if x4.length < 8796093022208 then (spec_LeaseRun.l0 k x0 (x4 ++ [(⟨10, x675001⟩ : S37)]) x5 x6 x7 x8 (wrap64 (x9 + 1))) else (none)) else (if x674001 < (x8.length : Int) then (if (rd x8 x674001) ≤ x5 then (if x4.length < 8796093022208 then (spec_LeaseRun.l0 k x0 (x4 ++ [(⟨10, x675001⟩ : S37)]) x5 x6 x7 x8 (wrap64 (x9 + 1))) else (none)) else (if x4.length < 8796093022208 then (spec_LeaseRun.l0 k x0 (x4 ++ [(⟨x675000, rd x7 x674001⟩ : S37)]) x5 x6 x7 x8 (wrap64 (x9 + 1))) else (none))) else (none))) else (none)) else (none)) else (if x674000 = 4 then (spec_LeaseRun.j5 k x0 x4 x5 x6 x7 x8 x9 x12 x674000 x674001 x674002 x675000 x675001) else (spec_LeaseRun.j5 k x0 x4 x5 x6 x7 x8 x9 false x674000 x674001 x674002 x675000 x675001))
def spec_LeaseRun.j5 : Nat → List (S39) → List (S37) → Int → Int → List Int → List Int → Int → Bool → Int → Int → Int → Int → Int → Option ((List (S37)) × Int)
 | 0, _, _, _, _, _, _, _, _, _, _, _, _, _ => none
 | k + 1, x0, x4, x5, x6, x7, x8, x9, x108, x674000, x674001, x674002, x675000, x675001 => if x108 = true then (if 0 ≤ x674001 then (if x674001 < (x7.length : Int) then (if x4.length < 8796093022208 then (spec_LeaseRun.l0 k x0 (x4 ++ [(⟨x675000, x675001⟩ : S37)]) x5 x6 (x7.set (x674001 : Int).toNat 0) x8 (wrap64 (x9 + 1))) else (none)) else (none)) else (none)) else (if x674000 = 5 then (spec_LeaseRun.l1 k x0 x4 x5 x6 x7 x8 x9 0 x675000 x675001) else (if x4.length < 8796093022208 then (spec_LeaseRun.l0 k x0 (x4 ++ [(⟨1, x675001⟩ : S37)]) x5 x6 x7 x8 (wrap64 (x9 + 1))) else (none)))
def spec_LeaseRun.l1 : Nat → List (S39) → List (S37) → Int → Int → List Int → List Int → Int → Int → Int → Int → Option ((List (S37)) × Int)
 | 0, _, _, _, _, _, _, _, _, _, _ => none
 | k + 1, x0, x4, x5, x6, x7, x8, x9, x13, x675000, x675001 => if x13 < 8 then (if 0 ≤ x13 then (if x13 < (x7.length : Int) then (if (rd x7 x13) > 0 then (if (rd x7 x13) < x6 then (if x13 < (x8.length : Int) then (if (rd x8 x13) > x5 then (spec_LeaseRun.l1 k x0 x4 x5 x6 x7 x8 x9 (wrap64 (x13 + 1)) 13 x675001) else (spec_LeaseRun.l1 k x0 x4 x5 x6 x7 x8 x9 (wrap64 (x13 + 1)) x675000 x675001)) else (none)) else (spec_LeaseRun.l1 k x0 x4 x5 x6 x7 x8 x9 (wrap64 (x13 + 1)) x675000 x675001)) else (spec_LeaseRun.l1 k x0 x4 x5 x6 x7 x8 x9 (wrap64 (x13 + 1)) x675000 x675001)) else (none)) else (none)) else (if x675000 = 0 then (if x4.length < 8796093022208 then (spec_LeaseRun.l0 k x0 (x4 ++ [(⟨x675000, wrap64 (x6 + 1)⟩ : S37)]) x5 (wrap64 (x6 + 1)) x7 x8 (wrap64 (x9 + 1))) else (none)) else (if x4.length < 8796093022208 then (spec_LeaseRun.l0 k x0 (x4 ++ [(⟨x675000, x675001⟩ : S37)]) x5 x6 x7 x8 (wrap64 (x9 + 1))) else (none)))
end
def spec_LeaseRun.f (k : Nat) (l0 : List (S39)) : Option ((List (S37)) × Int) := (some (([] : List (S37)) : List (S37))).bind fun y663 => (if (l0.length : Int) > 500 then (some (y663, 1)) else (if 8 ≤ 35184372088832 then (spec_LeaseRun.l0 k l0 y663 0 1 (List.replicate 8 0) (List.replicate 8 0) 0) else (none)))
theorem spec_LeaseRun.mono_l : ∀ k, (∀ y0 y1 y2 y3 y4 y5 y6, LeO (spec_LeaseRun.l0 k y0 y1 y2 y3 y4 y5 y6) (spec_LeaseRun.l0 (k + 1) y0 y1 y2 y3 y4 y5 y6)) ∧ (∀ y0 y1 y2 y3 y4 y5 y6 y7 y8 y9 y10 y11 y12, LeO (spec_LeaseRun.j1 k y0 y1 y2 y3 y4 y5 y6 y7 y8 y9 y10 y11 y12) (spec_LeaseRun.j1 (k + 1) y0 y1 y2 y3 y4 y5 y6 y7 y8 y9 y10 y11 y12)) ∧ (∀ y0 y1 y2 y3 y4 y5 y6 y7 y8 y9 y10 y11 y12 y13, LeO (spec_LeaseRun.j2 k y0 y1 y2 y3 y4 y5 y6 y7 y8 y9 y10 y11 y12 y13) (spec_LeaseRun.j2 (k + 1) y0 y1 y2 y3 y4 y5 y6 y7 y8 y9 y10 y11 y12 y13)) ∧ (∀ y0 y1 y2 y3 y4 y5 y6 y7 y8 y9 y10 y11 y12 y13, LeO (spec_LeaseRun.j3 k y0 y1 y2 y3 y4 y5 y6 y7 y8 y9 y10 y11 y12 y13) (spec_LeaseRun.j3 (k + 1) y0 y1 y2 y3 y4 y5 y6 y7 y8 y9 y10 y11 y12 y13)) ∧ (∀ y0 y1 y2 y3 y4 y5 y6 y7 y8 y9 y10 y11 y12 y13, LeO (spec_LeaseRun.j4 k y0 y1 y2 y3 y4 y5 y6 y7 y8 y9 y10 y11 y12 y13) (spec_LeaseRun.j4 (k + 1) y0 y1 y2 y3 y4 y5 y6 y7 y8 y9 y10 y11 y12 y13)) ∧ (∀ y0 y1 y2 y3 y4 y5 y6 y7 y8 y9 y10 y11 y12, LeO (spec_LeaseRun.j5 k y0 y1 y2 y3 y4 y5 y6 y7 y8 y9 y10 y11 y12) (spec_LeaseRun.j5 (k + 1) y0 y1 y2 y3 y4 y5 y6 y7 y8 y9 y10 y11 y12)) ∧ (∀ y0 y1 y2 y3 y4 y5 y6 y7 y8 y9, LeO (spec_LeaseRun.l1 k y0 y1 y2 y3 y4 y5 y6 y7 y8 y9) (spec_LeaseRun.l1 (k + 1) y0 y1 y2 y3 y4 y5 y6 y7 y8 y9))
 | 0 => ⟨fun _ _ _ _ _ _ _ r h => by simp [spec_LeaseRun.l0] at h, fun _ _ _ _ _ _ _ _ _ _ _ _ _ r h => by simp [spec_LeaseRun.j1] at h, fun _ _ _ _ _ _ _ _ _ _ _ _ _ _ r h => by simp [spec_LeaseRun.j2] at h, fun _ _ _ _ _ _ _ _ _ _ _ _ _ _ r h => by simp [spec_LeaseRun.j3] at h, fun _ _ _ _ _ _ _ _ _ _ _ _ _ _ r h => by simp [spec_LeaseRun.j4] at h, fun _ _ _ _ _ _ _ _ _ _ _ _ _ r h => by simp [spec_LeaseRun.j5] at h, fun _ _ _ _ _ _ _ _ _ _ r h => by simp [spec_LeaseRun.l1] at h⟩
 | k + 1 => by
  obtain ⟨ih0, ih1, ih2, ih3, ih4, ih5, ih6⟩ := spec_LeaseRun.mono_l k
  refine ⟨?_, ?_, ?_, ?_, ?_, ?_, ?_⟩
  ·intro y0 y1 y2 y3 y4 y5 y6
   unfold spec_LeaseRun.l0
   repeat' first
   | (with_reducible exact ih0 _ _ _ _ _ _ _)
   | (with_reducible exact ih1 _ _ _ _ _ _ _ _ _ _ _ _ _)
   | (with_reducible exact ih2 _ _ _ _ _ _ _ _ _ _ _ _ _ _)
   | (with_reducible exact ih3 _ _ _ _ _ _ _ _ _ _ _ _ _ _)
   | (with_reducible exact ih4 _ _ _ _ _ _ _ _ _ _ _ _ _ _)
   | (with_reducible exact ih5 _ _ _ _ _ _ _ _ _ _ _ _ _)
   | (with_reducible exact ih6 _ _ _ _ _ _ _ _ _ _)
   | (with_reducible exact LeO.refl _)
   | (with_reducible exact LeO.none _)
   | (with_reducible refine LeO.ite ?_ ?_)
   | (with_reducible refine LeO.bind ?_ (fun _ => ?_))
   | exact ih0 _ _ _ _ _ _ _
   | exact ih1 _ _ _ _ _ _ _ _ _ _ _ _ _
   | exact ih2 _ _ _ _ _ _ _ _ _ _ _ _ _ _
   | exact ih3 _ _ _ _ _ _ _ _ _ _ _ _ _ _
   | exact ih4 _ _ _ _ _ _ _ _ _ _ _ _ _ _
   | exact ih5 _ _ _ _ _ _ _ _ _ _ _ _ _
   | exact ih6 _ _ _ _ _ _ _ _ _ _
   | exact LeO.none _
   | refine LeO.ite ?_ ?_
   | refine LeO.bind ?_ (fun _ => ?_)
  ·intro y0 y1 y2 y3 y4 y5 y6 y7 y8 y9 y10 y11 y12
   unfold spec_LeaseRun.j1
   repeat' first
   | (with_reducible exact ih0 _ _ _ _ _ _ _)
   | (with_reducible exact ih1 _ _ _ _ _ _ _ _ _ _ _ _ _)
   | (with_reducible exact ih2 _ _ _ _ _ _ _ _ _ _ _ _ _ _)
   | (with_reducible exact ih3 _ _ _ _ _ _ _ _ _ _ _ _ _ _)
   | (with_reducible exact ih4 _ _ _ _ _ _ _ _ _ _ _ _ _ _)
   | (with_reducible exact ih5 _ _ _ _ _ _ _ _ _ _ _ _ _)
   | (with_reducible exact ih6 _ _ _ _ _ _ _ _ _ _)
   | (with_reducible exact LeO.refl _)
   | (with_reducible exact LeO.none _)
   | (with_reducible refine LeO.ite ?_ ?_)
   | (with_reducible refine LeO.bind ?_ (fun _ => ?_))
   | exact ih0 _ _ _ _ _ _ _
   | exact ih1 _ _ _ _ _ _ _ _ _ _ _ _ _
   | exact ih2 _ _ _ _ _ _ _ _ _ _ _ _ _ _
   | exact ih3 _ _ _ _ _ _ _ _ _ _ _ _ _ _
   | exact ih4 _ _ _ _ _ _ _ _ _ _ _ _ _ _
   | exact ih5 _ _ _ _ _ _ _ _ _ _ _ _ _
   | exact ih6 _ _ _ _ _ _ _ _ _ _
   | exact LeO.none _
   | refine LeO.ite ?_ ?_
   | refine LeO.bind ?_ (fun _ => ?_)
  ·intro y0 y1 y2 y3 y4 y5 y6 y7 y8 y9 y10 y11 y12 y13
   unfold spec_LeaseRun.j2
   repeat' first
   | (with_reducible exact ih0 _ _ _ _ _ _ _)
   | (with_reducible exact ih1 _ _ _ _ _ _ _ _ _ _ _ _ _)
   | (with_reducible exact ih2 _ _ _ _ _ _ _ _ _ _ _ _ _ _)
   | (with_reducible exact ih3 _ _ _ _ _ _ _ _ _ _ _ _ _ _)
   | (with_reducible exact ih4 _ _ _ _ _ _ _ _ _ _ _ _ _ _)
   | (with_reducible exact ih5 _ _ _ _ _ _ _ _ _ _ _ _ _)
   | (with_reducible exact ih6 _ _ _ _ _ _ _ _ _ _)
   | (with_reducible exact LeO.refl _)
   | (with_reducible exact LeO.none _)
   | (with_reducible refine LeO.ite ?_ ?_)
   | (with_reducible refine LeO.bind ?_ (fun _ => ?_))
   | exact ih0 _ _ _ _ _ _ _
   | exact ih1 _ _ _ _ _ _ _ _ _ _ _ _ _
   | exact ih2 _ _ _ _ _ _ _ _ _ _ _ _ _ _
   | exact ih3 _ _ _ _ _ _ _ _ _ _ _ _ _ _
   | exact ih4 _ _ _ _ _ _ _ _ _ _ _ _ _ _
   | exact ih5 _ _ _ _ _ _ _ _ _ _ _ _ _
   | exact ih6 _ _ _ _ _ _ _ _ _ _
   | exact LeO.none _
   | refine LeO.ite ?_ ?_
   | refine LeO.bind ?_ (fun _ => ?_)
  ·intro y0 y1 y2 y3 y4 y5 y6 y7 y8 y9 y10 y11 y12 y13
   unfold spec_LeaseRun.j3
   repeat' first
   | (with_reducible exact ih0 _ _ _ _ _ _ _)
   | (with_reducible exact ih1 _ _ _ _ _ _ _ _ _ _ _ _ _)
   | (with_reducible exact ih2 _ _ _ _ _ _ _ _ _ _ _ _ _ _)
   | (with_reducible exact ih3 _ _ _ _ _ _ _ _ _ _ _ _ _ _)
   | (with_reducible exact ih4 _ _ _ _ _ _ _ _ _ _ _ _ _ _)
   | (with_reducible exact ih5 _ _ _ _ _ _ _ _ _ _ _ _ _)
   | (with_reducible exact ih6 _ _ _ _ _ _ _ _ _ _)
   | (with_reducible exact LeO.refl _)
   | (with_reducible exact LeO.none _)
   | (with_reducible refine LeO.ite ?_ ?_)
   | (with_reducible refine LeO.bind ?_ (fun _ => ?_))
   | exact ih0 _ _ _ _ _ _ _
   | exact ih1 _ _ _ _ _ _ _ _ _ _ _ _ _
   | exact ih2 _ _ _ _ _ _ _ _ _ _ _ _ _ _
   | exact ih3 _ _ _ _ _ _ _ _ _ _ _ _ _ _
   | exact ih4 _ _ _ _ _ _ _ _ _ _ _ _ _ _
   | exact ih5 _ _ _ _ _ _ _ _ _ _ _ _ _
   | exact ih6 _ _ _ _ _ _ _ _ _ _
   | exact LeO.none _
   | refine LeO.ite ?_ ?_
   | refine LeO.bind ?_ (fun _ => ?_)
  ·intro y0 y1 y2 y3 y4 y5 y6 y7 y8 y9 y10 y11 y12 y13
   unfold spec_LeaseRun.j4
   repeat' first
   | (with_reducible exact ih0 _ _ _ _ _ _ _)
   | (with_reducible exact ih1 _ _ _ _ _ _ _ _ _ _ _ _ _)
   | (with_reducible exact ih2 _ _ _ _ _ _ _ _ _ _ _ _ _ _)
   | (with_reducible exact ih3 _ _ _ _ _ _ _ _ _ _ _ _ _ _)
   | (with_reducible exact ih4 _ _ _ _ _ _ _ _ _ _ _ _ _ _)
   | (with_reducible exact ih5 _ _ _ _ _ _ _ _ _ _ _ _ _)
   | (with_reducible exact ih6 _ _ _ _ _ _ _ _ _ _)
   | (with_reducible exact LeO.refl _)
   | (with_reducible exact LeO.none _)
   | (with_reducible refine LeO.ite ?_ ?_)
   | (with_reducible refine LeO.bind ?_ (fun _ => ?_))
   | exact ih0 _ _ _ _ _ _ _
   | exact ih1 _ _ _ _ _ _ _ _ _ _ _ _ _
   | exact ih2 _ _ _ _ _ _ _ _ _ _ _ _ _ _
   | exact ih3 _ _ _ _ _ _ _ _ _ _ _ _ _ _
   | exact ih4 _ _ _ _ _ _ _ _ _ _ _ _ _ _
   | exact ih5 _ _ _ _ _ _ _ _ _ _ _ _ _
   | exact ih6 _ _ _ _ _ _ _ _ _ _
   | exact LeO.none _
   | refine LeO.ite ?_ ?_
   | refine LeO.bind ?_ (fun _ => ?_)
  ·intro y0 y1 y2 y3 y4 y5 y6 y7 y8 y9 y10 y11 y12
   unfold spec_LeaseRun.j5
   repeat' first
   | (with_reducible exact ih0 _ _ _ _ _ _ _)
   | (with_reducible exact ih1 _ _ _ _ _ _ _ _ _ _ _ _ _)
   | (with_reducible exact ih2 _ _ _ _ _ _ _ _ _ _ _ _ _ _)
   | (with_reducible exact ih3 _ _ _ _ _ _ _ _ _ _ _ _ _ _)
   | (with_reducible exact ih4 _ _ _ _ _ _ _ _ _ _ _ _ _ _)
   | (with_reducible exact ih5 _ _ _ _ _ _ _ _ _ _ _ _ _)
   | (with_reducible exact ih6 _ _ _ _ _ _ _ _ _ _)
   | (with_reducible exact LeO.refl _)
   | (with_reducible exact LeO.none _)
   | (with_reducible refine LeO.ite ?_ ?_)
   | (with_reducible refine LeO.bind ?_ (fun _ => ?_))
   | exact ih0 _ _ _ _ _ _ _
   | exact ih1 _ _ _ _ _ _ _ _ _ _ _ _ _
   | exact ih2 _ _ _ _ _ _ _ _ _ _ _ _ _ _
   | exact ih3 _ _ _ _ _ _ _ _ _ _ _ _ _ _
   | exact ih4 _ _ _ _ _ _ _ _ _ _ _ _ _ _
   | exact ih5 _ _ _ _ _ _ _ _ _ _ _ _ _
   | exact ih6 _ _ _ _ _ _ _ _ _ _
   | exact LeO.none _
   | refine LeO.ite ?_ ?_
   | refine LeO.bind ?_ (fun _ => ?_)
  ·intro y0 y1 y2 y3 y4 y5 y6 y7 y8 y9
   unfold spec_LeaseRun.l1
   repeat' first
   | (with_reducible exact ih0 _ _ _ _ _ _ _)
   | (with_reducible exact ih1 _ _ _ _ _ _ _ _ _ _ _ _ _)
   | (with_reducible exact ih2 _ _ _ _ _ _ _ _ _ _ _ _ _ _)
   | (with_reducible exact ih3 _ _ _ _ _ _ _ _ _ _ _ _ _ _)
   | (with_reducible exact ih4 _ _ _ _ _ _ _ _ _ _ _ _ _ _)
   | (with_reducible exact ih5 _ _ _ _ _ _ _ _ _ _ _ _ _)
   | (with_reducible exact ih6 _ _ _ _ _ _ _ _ _ _)
   | (with_reducible exact LeO.refl _)
   | (with_reducible exact LeO.none _)
   | (with_reducible refine LeO.ite ?_ ?_)
   | (with_reducible refine LeO.bind ?_ (fun _ => ?_))
   | exact ih0 _ _ _ _ _ _ _
   | exact ih1 _ _ _ _ _ _ _ _ _ _ _ _ _
   | exact ih2 _ _ _ _ _ _ _ _ _ _ _ _ _ _
   | exact ih3 _ _ _ _ _ _ _ _ _ _ _ _ _ _
   | exact ih4 _ _ _ _ _ _ _ _ _ _ _ _ _ _
   | exact ih5 _ _ _ _ _ _ _ _ _ _ _ _ _
   | exact ih6 _ _ _ _ _ _ _ _ _ _
   | exact LeO.none _
   | refine LeO.ite ?_ ?_
   | refine LeO.bind ?_ (fun _ => ?_)
theorem spec_LeaseRun.mono : ∀ a0 k, LeO (spec_LeaseRun.f k a0) (spec_LeaseRun.f (k + 1) a0) := by
 intro a0 k
 obtain ⟨ih0, ih1, ih2, ih3, ih4, ih5, ih6⟩ := spec_LeaseRun.mono_l k
 unfold spec_LeaseRun.f
 repeat' first
   | (with_reducible exact ih0 _ _ _ _ _ _ _)
   | (with_reducible exact ih1 _ _ _ _ _ _ _ _ _ _ _ _ _)
   | (with_reducible exact ih2 _ _ _ _ _ _ _ _ _ _ _ _ _ _)
   | (with_reducible exact ih3 _ _ _ _ _ _ _ _ _ _ _ _ _ _)
   | (with_reducible exact ih4 _ _ _ _ _ _ _ _ _ _ _ _ _ _)
   | (with_reducible exact ih5 _ _ _ _ _ _ _ _ _ _ _ _ _)
   | (with_reducible exact ih6 _ _ _ _ _ _ _ _ _ _)
   | (with_reducible exact LeO.refl _)
   | (with_reducible exact LeO.none _)
   | (with_reducible refine LeO.ite ?_ ?_)
   | (with_reducible refine LeO.bind ?_ (fun _ => ?_))
   | exact ih0 _ _ _ _ _ _ _
   | exact ih1 _ _ _ _ _ _ _ _ _ _ _ _ _
   | exact ih2 _ _ _ _ _ _ _ _ _ _ _ _ _ _
   | exact ih3 _ _ _ _ _ _ _ _ _ _ _ _ _ _
   | exact ih4 _ _ _ _ _ _ _ _ _ _ _ _ _ _
   | exact ih5 _ _ _ _ _ _ _ _ _ _ _ _ _
   | exact ih6 _ _ _ _ _ _ _ _ _ _
   | exact LeO.none _
   | refine LeO.ite ?_ ?_
   | refine LeO.bind ?_ (fun _ => ?_)
set_option maxHeartbeats 8000000 in
set_option maxRecDepth 100000 in
theorem spec_LeaseRun.calls (k : Nat) (A0 : Option Addr) (c0 : Nat) (l0 : List (S39)) (r1 : List (S37)) (r2 : Int) (w : World) (hr0 : Kd.C k39 w A0 l0.length l0) (hc0 : l0.length ≤ c0) (h : spec_LeaseRun.f k l0 = some (r1, r2)) :
  Calls Try.prog 16 #[.slice A0 l0.length c0] w fun e w' => ∃ v0_ : Value, e = .returned (.tuple #[v0_, .int .i64 r2]) ∧ Kd.R k37 37 w' w.heap.size (fun _ => True) v0_ r1 ∧ Below w.heap.size w w' := by
 have hu39 := Try.underlying39
 have hu37 := Try.underlying37
 have HR0 := Aside0.mk hr0
 have HC0 := Aside0.mk hc0
 clear hr0 hc0
 have HB := Aside0.mk (Below.refl w.heap.size w)
 have H : ((some (([] : List (S37)) : List (S37))).bind fun y663 => (if (l0.length : Int) > 500 then (some (y663, 1)) else (if 8 ≤ 35184372088832 then (spec_LeaseRun.l0 k l0 y663 0 1 (List.replicate 8 0) (List.replicate 8 0) 0) else (none)))) = some (r1, r2) := h
 clear h
 obtain ⟨y663, hy663⟩ : ∃ y_ : List (S37), y_ = (([] : List (S37))) := ⟨_, rfl⟩
 replace H : (if (l0.length : Int) > 500 then (some (y663, 1)) else (if 8 ≤ 35184372088832 then (spec_LeaseRun.l0 k l0 y663 0 1 (List.replicate 8 0) (List.replicate 8 0) 0) else (none))) = some (r1, r2) := by first | (rw [hy663]; with_reducible exact H) | (have H2_ := (Option.bind_some _ _).symm.trans H; rw [hy663]; with_reducible exact H2_) | (have H2_ := (Option.bind_some _ _).symm.trans H; with_reducible exact H2_) | with_reducible exact H | (rw [hy663]; exact H) | exact H
 have Ny663 := Aside0.mk hy663
 clear hy663
 by_cases c2 : (l0.length : Int) > 500
 ·rw [if_pos c2] at H
  have c2b0 : decide (500 < (l0.length : Int)) = true := decide_eq_true c2
  have c2b1 : decide (500 < l0.length) = true := decide_eq_true (by omega)
  clear c2
  simp only [Option.some.injEq, Prod.mk.injEq] at H
  obtain ⟨rfl, rfl⟩ := H
  go_enter Try.func16, Try.ntmps16
  as_aux_lemma =>
  go_wp2_with (first | ((with_reducible refine gate_dst (N := 14) rfl ?_); refine Kd.R_lit k37 _ 37 ?hg (N := 14) ?hd (xs := ([] : List (S37))) (inner := []) (ok := fun _ => True) (okp := fun _ => True) ?hr ?hp (fun _ hk => hk) trivial (Below.refl _ _) (Nat.le_refl _) (by simp) ?_; (case hd => rfl); (case hg => rfl); (case hr => first | (go_simp; done) | (go_simp; rfl)); (case hp => exact (Reps.none _ _)); intro v664 w3 ho4 hb hg_ hnew_; clear hg_ hnew_; (first | rw [← Ny663.out] at ho4 | (simp only [Int.reduceToNat] at ho4; rw [← Ny663.out] at ho4)); have n0_ := Aside0.mk (Kd.R_lower ho4 (below_size zb)); have n1_ := Aside0.mk (below_step zb hb); clear HB; have HO665 := n0_; have HB := n1_; clear n0_ n1_; clear hb ho4))
  go_ret2
  exact ⟨_, by first | rfl | (simp [errW_none, errW_some] <;> rfl) | (simp [*, errW_none, errW_some] <;> rfl), by (with_reducible repeat (first | apply Kd.R_alloc | apply Kd.R_drewN | apply Kd.R_drew)); exact HO665.out, zb⟩
 ·rw [if_neg c2] at H
  have c2b0 : decide (500 < (l0.length : Int)) = false := decide_eq_false c2
  have c2b1 : decide (500 < l0.length) = false := decide_eq_false (by omega)
  clear c2
  by_cases c5 : 8 ≤ 35184372088832
  ·rw [if_pos c5] at H
   have c5b0 := eq_true c5
   have c5b1 : decide (8 ≤ 35184372088832) = true := decide_eq_true c5
   clear c5
   obtain ⟨y666, hy666⟩ : ∃ y_ : List Int, y_ = (List.replicate 8 0) := ⟨_, rfl⟩
   replace H : (spec_LeaseRun.l0 k l0 y663 0 1 y666 (List.replicate 8 0) 0) = some (r1, r2) := by first | (rw [hy666]; with_reducible exact H) | (have H2_ := (Option.bind_some _ _).symm.trans H; rw [hy666]; with_reducible exact H2_) | (have H2_ := (Option.bind_some _ _).symm.trans H; with_reducible exact H2_) | with_reducible exact H | (rw [hy666]; exact H) | exact H
   have Ny666 := Aside0.mk hy666
   clear hy666
   obtain ⟨y669, hy669⟩ : ∃ y_ : List Int, y_ = (List.replicate 8 0) := ⟨_, rfl⟩
   replace H : (spec_LeaseRun.l0 k l0 y663 0 1 y666 y669 0) = some (r1, r2) := by first | (rw [hy669]; with_reducible exact H) | (have H2_ := (Option.bind_some _ _).symm.trans H; rw [hy669]; with_reducible exact H2_) | (have H2_ := (Option.bind_some _ _).symm.trans H; with_reducible exact H2_) | with_reducible exact H | (rw [hy669]; exact H) | exact H
   have Ny669 := Aside0.mk hy669
   clear hy669
   have H' := Aside0.mk H
   clear H
   go_enter Try.func16, Try.ntmps16
   as_aux_lemma =>
   go_wp2_with (first | ((with_reducible refine gate_dst (N := 14) rfl ?_); refine Kd.R_lit k37 _ 37 ?hg (N := 14) ?hd (xs := ([] : List (S37))) (inner := []) (ok := fun _ => True) (okp := fun _ => True) ?hr ?hp (fun _ hk => hk) trivial (Below.refl _ _) (Nat.le_refl _) (by simp) ?_; (case hd => rfl); (case hg => rfl); (case hr => first | (go_simp; done) | (go_simp; rfl)); (case hp => exact (Reps.none _ _)); intro v664 w6 ho7 hb hg_ hnew_; clear hg_ hnew_; (first | rw [← Ny663.out] at ho7 | (simp only [Int.reduceToNat] at ho7; rw [← Ny663.out] at ho7)); have n0_ := Aside0.mk (Kd.R_lower ho7 (below_size zb)); have n1_ := Aside0.mk (below_step zb hb); clear HB; have HO665 := n0_; have HB := n1_; clear n0_ n1_; clear hb ho7) | ((with_reducible refine gate_dst (N := 19) rfl ?_); refine Kd.R_make (Kd.int .i64) _ 3 rfl (N := 19) rfl 24 _ _ rfl 8 rfl rfl Try.underlying24 (.int .i64 0) 8 info3 rfl (by decide) (by omega) 0 (ok := fun _ => True) (okp := fun _ => True) rfl (fun _ hk => hk) trivial (by omega) (by omega) (Below.refl _ _) (Nat.le_refl _) ?_; intro v667 w8 ho9 hb hg_ hnew_; clear hg_ hnew_; (first | rw [← Ny666.out] at ho9 | (simp only [Int.reduceToNat] at ho9; rw [← Ny666.out] at ho9)); have n0_ := Aside0.mk (Kd.R_below (zr HO665.out) hb); have n1_ := Aside0.mk (Kd.R_lower ho9 (below_size zb)); have n2_ := Aside0.mk (below_step zb hb); clear HO665; clear HB; have HO665 := n0_; have HO668 := n1_; have HB := n2_; clear n0_ n1_ n2_; clear hb ho9) | ((with_reducible refine gate_dst (N := 20) rfl ?_); refine Kd.R_make (Kd.int .i64) _ 3 rfl (N := 20) rfl 24 _ _ rfl 8 rfl rfl Try.underlying24 (.int .i64 0) 8 info3 rfl (by decide) (by omega) 0 (ok := fun _ => True) (okp := fun _ => True) rfl (fun _ hk => hk) trivial (by omega) (by omega) (Below.refl _ _) (Nat.le_refl _) ?_; intro v670 w10 ho11 hb hg_ hnew_; clear hg_ hnew_; (first | rw [← Ny669.out] at ho11 | (simp only [Int.reduceToNat] at ho11; rw [← Ny669.out] at ho11)); have n0_ := Aside0.mk (Kd.R_below (zr HO665.out) hb); have n1_ := Aside0.mk (Kd.R_elder' (zr HO668.out) (Kd.R_base ho11) hb); have n2_ := Aside0.mk (Kd.R_lower (Kd.R_new' ho11 (Kd.R_lt (zr HO668.out))) (below_size zb)); have n3_ := Aside0.mk (below_step zb hb); clear HO665; clear HO668; clear HB; have HO665 := n0_; have HO668 := n1_; have HO671 := n2_; have HB := n3_; clear n0_ n1_ n2_ n3_; clear hb ho11))
   go_loopg [4, 5, 6, 9] k (fun kq v4 v5 v6 v9 w' => ∃ (x4_1 : List (S37)) (x5_1 : Int) (x6_1 : Int) (x7_1 : List Int) (x8_1 : List Int) (x9_1 : Int), v5 = .int .i64 x5_1 ∧ v6 = .int .i64 x6_1 ∧ v9 = .int .i64 x9_1 ∧ Aside0 (spec_LeaseRun.l0 kq l0 x4_1 x5_1 x6_1 x7_1 x8_1 x9_1 = some (r1, r2)) ∧ Aside0 (kq ≤ k) ∧ Aside0 (Kd.R k37 37 w' w.heap.size (fun _ => True) v4 x4_1) ∧ Aside0 (Kd.R (Kd.int .i64) 3 w' w.heap.size (fun k_ => some k_ ≠ (v670 : Value).ownBlock) v667 x7_1) ∧ Aside0 (Kd.R (Kd.int .i64) 3 w' w.heap.size (fun k_ => some k_ ≠ (v667 : Value).ownBlock) v670 x8_1) ∧ Aside0 (Below w.heap.size w w'))
   case atStart => exact ⟨(y663), (0), (1), (y666), (y669), (0), (by first | rfl | (simp; done) | (simp [*]; done)), (by first | rfl | (simp; done) | (simp [*]; done)), (by first | rfl | (simp; done) | (simp [*]; done)), H', ⟨Nat.le_refl _⟩, ⟨zr HO665.out⟩, ⟨by (with_reducible repeat (first | apply Kd.R_alloc | apply Kd.R_drewN | apply Kd.R_drew)); exact Kd.R_mono HO668.out (fun _ hk => hk.2)⟩, ⟨by (with_reducible repeat (first | apply Kd.R_alloc | apply Kd.R_drewN | apply Kd.R_drew)); exact Kd.R_mono HO671.out (fun _ hk => hk.2)⟩, ⟨zb⟩⟩
   case round =>
    clear H'
    try clear c2
    try clear c2b0
    try clear c2b1
    try clear c5
    try clear c5b0
    try clear c5b1
    obtain ⟨x4_1, x5_1, x6_1, x7_1, x8_1, x9_1, rfl, rfl, rfl, HA, HK1, HO_4, HO_7, HO_8, HB⟩ := hrel
    cases gk with
    | zero => exact absurd HA.out (by simp [spec_LeaseRun.l0])
    | succ k1 =>
     have H := HA.out
     clear HA
     simp only [spec_LeaseRun.l0] at H
     by_cases c12 : x9_1 < (l0.length : Int)
     ·rw [if_pos c12] at H
      have c12b0 : decide (x9_1 < (l0.length : Int)) = true := decide_eq_true c12
      clear c12
      by_cases c13 : 0 ≤ x9_1
      ·rw [if_pos c13] at H
       have c13b0 : decide (0 ≤ x9_1) = true := decide_eq_true c13
       clear c13
       have HC14 := Aside0.mk H
       clear H
       have p672 : 0 ≤ (x9_1 : Int) := of_decide_eq_true (by first | (with_reducible assumption) | assumption)
       have q672 : x9_1 < (l0.length : Int) := of_decide_eq_true (by first | (with_reducible assumption) | assumption)
       obtain ⟨ad672, e672, hx672_0, hx672_1, hx672_2⟩ := at_T39 HR0.out x9_1 p672 q672
       cases e672
       replace hx672_0 := (HB.out.cell (World.block_lt_of_cell? w _ hx672_0)).trans hx672_0
       replace hx672_1 := (HB.out.cell (World.block_lt_of_cell? w _ hx672_1)).trans hx672_1
       replace hx672_2 := (HB.out.cell (World.block_lt_of_cell? w _ hx672_2)).trans hx672_2
       replace p672 := eq_true p672
       replace q672 := eq_true q672
       as_aux_lemma =>
       go_upto_region 13 with (first | ((with_reducible refine gate_dst (N := 10) rfl ?_); refine box_event ?hg (N := 10) ?hd (cs := #[.int .i64 0, .int .i64 0, .int .i64 0]) (t := 39) ?hr ?_; (case hd => rfl); (case hg => rfl); (case hr => first | (go_simp; done) | (go_simp; rfl)); intro gb673 hg w15 hbox hb; have n0_ := Aside0.mk (Kd.R_below (zr HO_4.out) hb); have n1_ := Aside0.mk (Kd.R_below (zr HO_7.out) hb); have n2_ := Aside0.mk (Kd.R_below (zr HO_8.out) hb); have n3_ := Aside0.mk (below_step zb hb); have n4_ := Aside0.mk (hbox); have n5_ := Aside0.mk ((by rw [hg]; exact (below_size zb) : w.heap.size ≤ gb673)); have n6_ := Aside0.mk ((by rw [hg]; exact (below_size zb) : w.heap.size ≤ gb673)); clear HO_4; clear HO_7; clear HO_8; clear HB; have HO_4 := n0_; have HO_7 := n1_; have HO_8 := n2_; have HB := n3_; have BK673 := n4_; have GW673 := n5_; have GE673 := n6_; clear n0_ n1_ n2_ n3_ n4_ n5_ n6_; clear hb hbox hg; have hcz16_0 : w15.cell? ⟨gb673, 0, none⟩ = some (.int .i64 0) := (blk_cell BK673.out 0).trans rfl; have hcz16_1 : w15.cell? ⟨gb673, 1, none⟩ = some (.int .i64 0) := (blk_cell BK673.out 1).trans rfl; have hcz16_2 : w15.cell? ⟨gb673, 2, none⟩ = some (.int .i64 0) := (blk_cell BK673.out 2).trans rfl; have hfz16_0 := blk_frozen BK673.out 0; have hfz16_1 := blk_frozen BK673.out 1; have hfz16_2 := blk_frozen BK673.out 2) | ((with_reducible refine gate_dst (N := 11) rfl ?_); refine box_event ?hg (N := 11) ?hd (cs := #[.int .i64 0, .int .i64 0]) (t := 37) ?hr ?_; (case hd => rfl); (case hg => rfl); (case hr => first | (go_simp; done) | (go_simp; rfl)); intro gb674 hg w17 hbox hb; have n0_ := Aside0.mk (Kd.R_below (Kd.R_elderB (by (with_reducible repeat (first | apply Kd.R_alloc | apply Kd.R_drewN | apply Kd.R_drew)); exact (Kd.R_mono (Kd.R_far (p := ⟨gb673, 2, none⟩) (Kd.R_far (p := ⟨gb673, 1, none⟩) (Kd.R_far (p := ⟨gb673, 0, none⟩) (Kd.R_types HO_4.out BK673.out (by decide)) (fun _ hk => hk.2) (.int .i64 ((rd_T39 l0 x9_1).f0))) (fun _ hk => hk.2) (.int .i64 ((rd_T39 l0 x9_1).f1))) (fun _ hk => hk.2) (.int .i64 ((rd_T39 l0 x9_1).f2))) (fun _ h_ => h_.1))) gb674 (Nat.le_of_eq hg.symm)) hb); have n1_ := Aside0.mk (Kd.R_below (by (with_reducible repeat (first | apply Kd.R_alloc | apply Kd.R_drewN | apply Kd.R_drew)); exact (Kd.R_mono (Kd.R_far (p := ⟨gb673, 2, none⟩) (Kd.R_far (p := ⟨gb673, 1, none⟩) (Kd.R_far (p := ⟨gb673, 0, none⟩) (Kd.R_types HO_7.out BK673.out (by decide)) (fun _ hk => hk.2) (.int .i64 ((rd_T39 l0 x9_1).f0))) (fun _ hk => hk.2) (.int .i64 ((rd_T39 l0 x9_1).f1))) (fun _ hk => hk.2) (.int .i64 ((rd_T39 l0 x9_1).f2))) (fun _ h_ => h_.1))) hb); have n2_ := Aside0.mk (Kd.R_below (by (with_reducible repeat (first | apply Kd.R_alloc | apply Kd.R_drewN | apply Kd.R_drew)); exact (Kd.R_mono (Kd.R_far (p := ⟨gb673, 2, none⟩) (Kd.R_far (p := ⟨gb673, 1, none⟩) (Kd.R_far (p := ⟨gb673, 0, none⟩) (Kd.R_types HO_8.out BK673.out (by decide)) (fun _ hk => hk.2) (.int .i64 ((rd_T39 l0 x9_1).f0))) (fun _ hk => hk.2) (.int .i64 ((rd_T39 l0 x9_1).f1))) (fun _ hk => hk.2) (.int .i64 ((rd_T39 l0 x9_1).f2))) (fun _ h_ => h_.1))) hb); have n3_ := Aside0.mk (blk_below (g := gb673) (o := .cells #[.int .i64 ((rd_T39 l0 x9_1).f0), .int .i64 ((rd_T39 l0 x9_1).f1), .int .i64 ((rd_T39 l0 x9_1).f2)] 39 (0, 0)) (by (with_reducible repeat (first | refine blk_drewN ?_ _ | refine blk_drew ?_ | refine blk_alloc ?_ _)); refine blk_put (cs := #[.int .i64 ((rd_T39 l0 x9_1).f0), .int .i64 ((rd_T39 l0 x9_1).f1), .int .i64 0]) ?_ 2 _ rfl; (with_reducible repeat (first | refine blk_drewN ?_ _ | refine blk_drew ?_ | refine blk_alloc ?_ _)); refine blk_put (cs := #[.int .i64 ((rd_T39 l0 x9_1).f0), .int .i64 0, .int .i64 0]) ?_ 1 _ rfl; (with_reducible repeat (first | refine blk_drewN ?_ _ | refine blk_drew ?_ | refine blk_alloc ?_ _)); refine blk_put (cs := #[.int .i64 0, .int .i64 0, .int .i64 0]) ?_ 0 _ rfl; (with_reducible repeat (first | refine blk_drewN ?_ _ | refine blk_drew ?_ | refine blk_alloc ?_ _)); exact BK673.out) hb); have n4_ := Aside0.mk (below_step (by repeat (first | (with_reducible first | exact HB.out | apply below_alloc | apply pw_below_drewN | apply below_drew1 | refine below_set ?_ GE673.out) | exact HB.out)) hb); have n5_ := Aside0.mk (hbox); have n6_ := Aside0.mk ((by rw [hg]; exact (below_size (by repeat (first | (with_reducible first | exact HB.out | apply below_alloc | apply pw_below_drewN | apply below_drew1 | refine below_set ?_ GE673.out) | exact HB.out))) : w.heap.size ≤ gb674)); have n7_ := Aside0.mk ((by rw [hg]; exact (below_size (by repeat (first | (with_reducible first | exact HB.out | apply below_alloc | apply pw_below_drewN | apply below_drew1 | refine below_set ?_ GE673.out) | exact HB.out))) : w.heap.size ≤ gb674)); have n8_ := Aside0.mk ((by rw [hg]; exact Nat.ne_of_lt (blk_lt (g := gb673) (o := .cells #[.int .i64 ((rd_T39 l0 x9_1).f0), .int .i64 ((rd_T39 l0 x9_1).f1), .int .i64 ((rd_T39 l0 x9_1).f2)] 39 (0, 0)) (by (with_reducible repeat (first | refine blk_drewN ?_ _ | refine blk_drew ?_ | refine blk_alloc ?_ _)); refine blk_put (cs := #[.int .i64 ((rd_T39 l0 x9_1).f0), .int .i64 ((rd_T39 l0 x9_1).f1), .int .i64 0]) ?_ 2 _ rfl; (with_reducible repeat (first | refine blk_drewN ?_ _ | refine blk_drew ?_ | refine blk_alloc ?_ _)); refine blk_put (cs := #[.int .i64 ((rd_T39 l0 x9_1).f0), .int .i64 0, .int .i64 0]) ?_ 1 _ rfl; (with_reducible repeat (first | refine blk_drewN ?_ _ | refine blk_drew ?_ | refine blk_alloc ?_ _)); refine blk_put (cs := #[.int .i64 0, .int .i64 0, .int .i64 0]) ?_ 0 _ rfl; (with_reducible repeat (first | refine blk_drewN ?_ _ | refine blk_drew ?_ | refine blk_alloc ?_ _)); exact BK673.out)) : gb673 ≠ gb674)); have n9_ := Aside0.mk ((by rw [hg]; exact Nat.ne_of_gt (blk_lt (g := gb673) (o := .cells #[.int .i64 ((rd_T39 l0 x9_1).f0), .int .i64 ((rd_T39 l0 x9_1).f1), .int .i64 ((rd_T39 l0 x9_1).f2)] 39 (0, 0)) (by (with_reducible repeat (first | refine blk_drewN ?_ _ | refine blk_drew ?_ | refine blk_alloc ?_ _)); refine blk_put (cs := #[.int .i64 ((rd_T39 l0 x9_1).f0), .int .i64 ((rd_T39 l0 x9_1).f1), .int .i64 0]) ?_ 2 _ rfl; (with_reducible repeat (first | refine blk_drewN ?_ _ | refine blk_drew ?_ | refine blk_alloc ?_ _)); refine blk_put (cs := #[.int .i64 ((rd_T39 l0 x9_1).f0), .int .i64 0, .int .i64 0]) ?_ 1 _ rfl; (with_reducible repeat (first | refine blk_drewN ?_ _ | refine blk_drew ?_ | refine blk_alloc ?_ _)); refine blk_put (cs := #[.int .i64 0, .int .i64 0, .int .i64 0]) ?_ 0 _ rfl; (with_reducible repeat (first | refine blk_drewN ?_ _ | refine blk_drew ?_ | refine blk_alloc ?_ _)); exact BK673.out)) : gb674 ≠ gb673)); clear HO_4; clear HO_7; clear HO_8; clear BK673; clear HB; have HO_4 := n0_; have HO_7 := n1_; have HO_8 := n2_; have BK673 := n3_; have HB := n4_; have BK674 := n5_; have GW674 := n6_; have GE674 := n7_; have NB673_674 := n8_; have NB674_673 := n9_; clear n0_ n1_ n2_ n3_ n4_ n5_ n6_ n7_ n8_ n9_; clear hb hbox hg; have hnb18 := NB674_673.out; have hnc18 := NB673_674.out; have hcz19_0 : w17.cell? ⟨gb674, 0, none⟩ = some (.int .i64 0) := (blk_cell BK674.out 0).trans rfl; have hcz19_1 : w17.cell? ⟨gb674, 1, none⟩ = some (.int .i64 0) := (blk_cell BK674.out 1).trans rfl; have hfz19_0 := blk_frozen BK674.out 0; have hfz19_1 := blk_frozen BK674.out 1))
       (try simp only [Act.put, List.setIfInBounds_toArray, List.set_cons_zero, List.set_cons_succ])
       go_cut [12] (fun v12 wc => ∃ (kq : Nat) (x12_13 : Bool), v12 = .bool x12_13 ∧ Aside0 (spec_LeaseRun.j1 kq l0 x4_1 x5_1 x6_1 x7_1 x8_1 x9_1 x12_13 ((rd_T39 l0 x9_1).f0) ((rd_T39 l0 x9_1).f1) ((rd_T39 l0 x9_1).f2) 0 0 = some (r1, r2)) ∧ Aside0 (kq ≤ k1) ∧ Aside0 (Kd.R k37 37 wc w.heap.size (fun k_ => k_ ≠ gb674) u4 x4_1) ∧ Aside0 (Kd.R (Kd.int .i64) 3 wc w.heap.size (fun k_ => some k_ ≠ (v670 : Value).ownBlock) v667 x7_1) ∧ Aside0 (Kd.R (Kd.int .i64) 3 wc w.heap.size (fun k_ => some k_ ≠ (v667 : Value).ownBlock) v670 x8_1) ∧ Aside0 (wc.heap[gb673]? = some (.cells #[.int .i64 ((rd_T39 l0 x9_1).f0), .int .i64 ((rd_T39 l0 x9_1).f1), .int .i64 ((rd_T39 l0 x9_1).f2)] 39 (0, 0))) ∧ Aside0 (wc.heap[gb674]? = some (.cells #[.int .i64 0, .int .i64 0] 37 (0, 0))) ∧ Aside0 (Below w.heap.size w wc))
       case first =>
        have H := HC14.out
        clear HC14
        by_cases c20 : ((rd_T39 l0 x9_1).f1) ≥ 0
        ·rw [if_pos c20] at H
         have c20b0 : decide (0 ≤ ((rd_T39 l0 x9_1).f1)) = true := decide_eq_true c20
         clear c20
         (first | rw [c20b0] | (simp only [i64_w, i32_w]; rw [c20b0]) | skip)
         have H' := Aside0.mk H
         clear H
         have hnb21 := NB673_674.out
         have hnc21 := NB674_673.out
         have hcz22_0 : w17.cell? ⟨gb673, 0, none⟩ = some (.int .i64 ((rd_T39 l0 x9_1).f0)) := (blk_cell BK673.out 0).trans rfl
         have hcz22_1 : w17.cell? ⟨gb673, 1, none⟩ = some (.int .i64 ((rd_T39 l0 x9_1).f1)) := (blk_cell BK673.out 1).trans rfl
         have hcz22_2 : w17.cell? ⟨gb673, 2, none⟩ = some (.int .i64 ((rd_T39 l0 x9_1).f2)) := (blk_cell BK673.out 2).trans rfl
         have hfz22_0 := blk_frozen BK673.out 0
         have hfz22_1 := blk_frozen BK673.out 1
         have hfz22_2 := blk_frozen BK673.out 2
         as_aux_lemma =>
         go_wp2
         go_meet
         case rel => exact ⟨_, (decide (((rd_T39 l0 x9_1).f1) < 8)), (by first | rfl | (simp; done) | (simp [*]; done)), H', ⟨by have := HK1.out; first | omega | exact Nat.le_refl _⟩, ⟨by (with_reducible repeat (first | apply Kd.R_alloc | apply Kd.R_drewN | apply Kd.R_drew)); exact Kd.R_mono (Kd.R_far (p := ⟨gb674, 1, none⟩) (Kd.R_far (p := ⟨gb674, 0, none⟩) (Kd.R_mono HO_4.out (fun k_ hk => (⟨hk, hk.2⟩ : _ ∧ k_ ≠ gb674))) (fun _ hk => hk.2) (.int .i64 0)) (fun _ hk => hk.2) (.int .i64 0)) (fun _ hk => hk.1.2)⟩, ⟨by (with_reducible repeat (first | apply Kd.R_alloc | apply Kd.R_drewN | apply Kd.R_drew)); exact Kd.R_mono (Kd.R_far (p := ⟨gb674, 1, none⟩) (Kd.R_far (p := ⟨gb674, 0, none⟩) (Kd.R_types HO_7.out BK674.out (by decide)) (fun _ hk => hk.2) (.int .i64 0)) (fun _ hk => hk.2) (.int .i64 0)) (fun _ hk => hk.1)⟩, ⟨by (with_reducible repeat (first | apply Kd.R_alloc | apply Kd.R_drewN | apply Kd.R_drew)); exact Kd.R_mono (Kd.R_far (p := ⟨gb674, 1, none⟩) (Kd.R_far (p := ⟨gb674, 0, none⟩) (Kd.R_types HO_8.out BK674.out (by decide)) (fun _ hk => hk.2) (.int .i64 0)) (fun _ hk => hk.2) (.int .i64 0)) (fun _ hk => hk.1)⟩, ⟨by (with_reducible repeat (first | refine blk_drewN ?_ _ | refine blk_drew ?_ | refine blk_alloc ?_ _)); refine blk_far ?_ NB673_674.out _; (with_reducible repeat (first | refine blk_drewN ?_ _ | refine blk_drew ?_ | refine blk_alloc ?_ _)); refine blk_far ?_ NB673_674.out _; (with_reducible repeat (first | refine blk_drewN ?_ _ | refine blk_drew ?_ | refine blk_alloc ?_ _)); exact BK673.out⟩, ⟨by (with_reducible repeat (first | refine blk_drewN ?_ _ | refine blk_drew ?_ | refine blk_alloc ?_ _)); refine blk_put (cs := #[.int .i64 0, .int .i64 0]) ?_ 1 _ rfl; (with_reducible repeat (first | refine blk_drewN ?_ _ | refine blk_drew ?_ | refine blk_alloc ?_ _)); refine blk_put (cs := #[.int .i64 0, .int .i64 0]) ?_ 0 _ rfl; (with_reducible repeat (first | refine blk_drewN ?_ _ | refine blk_drew ?_ | refine blk_alloc ?_ _)); exact BK674.out⟩, ⟨by repeat (first | (with_reducible first | exact HB.out | apply below_alloc | apply pw_below_drewN | apply below_drew1 | refine below_set ?_ GE673.out | refine below_set ?_ GE674.out) | exact HB.out)⟩⟩
        ·rw [if_neg c20] at H
         have c20b0 : decide (0 ≤ ((rd_T39 l0 x9_1).f1)) = false := decide_eq_false c20
         clear c20
         (first | rw [c20b0] | (simp only [i64_w, i32_w]; rw [c20b0]) | skip)
         have H' := Aside0.mk H
         clear H
         have hnb23 := NB673_674.out
         have hnc23 := NB674_673.out
         have hcz24_0 : w17.cell? ⟨gb673, 0, none⟩ = some (.int .i64 ((rd_T39 l0 x9_1).f0)) := (blk_cell BK673.out 0).trans rfl
         have hcz24_1 : w17.cell? ⟨gb673, 1, none⟩ = some (.int .i64 ((rd_T39 l0 x9_1).f1)) := (blk_cell BK673.out 1).trans rfl
         have hcz24_2 : w17.cell? ⟨gb673, 2, none⟩ = some (.int .i64 ((rd_T39 l0 x9_1).f2)) := (blk_cell BK673.out 2).trans rfl
         have hfz24_0 := blk_frozen BK673.out 0
         have hfz24_1 := blk_frozen BK673.out 1
         have hfz24_2 := blk_frozen BK673.out 2
         as_aux_lemma =>
         go_wp2
         go_meet
         case rel => exact ⟨_, (false), (by first | rfl | (simp; done) | (simp [*]; done)), H', ⟨by have := HK1.out; first | omega | exact Nat.le_refl _⟩, ⟨by (with_reducible repeat (first | apply Kd.R_alloc | apply Kd.R_drewN | apply Kd.R_drew)); exact Kd.R_mono (Kd.R_far (p := ⟨gb674, 1, none⟩) (Kd.R_far (p := ⟨gb674, 0, none⟩) (Kd.R_mono HO_4.out (fun k_ hk => (⟨hk, hk.2⟩ : _ ∧ k_ ≠ gb674))) (fun _ hk => hk.2) (.int .i64 0)) (fun _ hk => hk.2) (.int .i64 0)) (fun _ hk => hk.1.2)⟩, ⟨by (with_reducible repeat (first | apply Kd.R_alloc | apply Kd.R_drewN | apply Kd.R_drew)); exact Kd.R_mono (Kd.R_far (p := ⟨gb674, 1, none⟩) (Kd.R_far (p := ⟨gb674, 0, none⟩) (Kd.R_types HO_7.out BK674.out (by decide)) (fun _ hk => hk.2) (.int .i64 0)) (fun _ hk => hk.2) (.int .i64 0)) (fun _ hk => hk.1)⟩, ⟨by (with_reducible repeat (first | apply Kd.R_alloc | apply Kd.R_drewN | apply Kd.R_drew)); exact Kd.R_mono (Kd.R_far (p := ⟨gb674, 1, none⟩) (Kd.R_far (p := ⟨gb674, 0, none⟩) (Kd.R_types HO_8.out BK674.out (by decide)) (fun _ hk => hk.2) (.int .i64 0)) (fun _ hk => hk.2) (.int .i64 0)) (fun _ hk => hk.1)⟩, ⟨by (with_reducible repeat (first | refine blk_drewN ?_ _ | refine blk_drew ?_ | refine blk_alloc ?_ _)); refine blk_far ?_ NB673_674.out _; (with_reducible repeat (first | refine blk_drewN ?_ _ | refine blk_drew ?_ | refine blk_alloc ?_ _)); refine blk_far ?_ NB673_674.out _; (with_reducible repeat (first | refine blk_drewN ?_ _ | refine blk_drew ?_ | refine blk_alloc ?_ _)); exact BK673.out⟩, ⟨by (with_reducible repeat (first | refine blk_drewN ?_ _ | refine blk_drew ?_ | refine blk_alloc ?_ _)); refine blk_put (cs := #[.int .i64 0, .int .i64 0]) ?_ 1 _ rfl; (with_reducible repeat (first | refine blk_drewN ?_ _ | refine blk_drew ?_ | refine blk_alloc ?_ _)); refine blk_put (cs := #[.int .i64 0, .int .i64 0]) ?_ 0 _ rfl; (with_reducible repeat (first | refine blk_drewN ?_ _ | refine blk_drew ?_ | refine blk_alloc ?_ _)); exact BK674.out⟩, ⟨by repeat (first | (with_reducible first | exact HB.out | apply below_alloc | apply pw_below_drewN | apply below_drew1 | refine below_set ?_ GE673.out | refine below_set ?_ GE674.out) | exact HB.out)⟩⟩
       case rest =>
        clear HC14
        try clear c2
        try clear c2b0
        try clear c2b1
        try clear c5
        try clear c5b0
        try clear c5b1
        try clear c12
        try clear c12b0
        try clear c13
        try clear c13b0
        try clear hcz16_0
        try clear hcz16_1
        try clear hcz16_2
        try clear hcz19_0
        try clear hcz19_1
        try clear hfz16_0
        try clear hfz16_1
        try clear hfz16_2
        try clear hfz19_0
        try clear hfz19_1
        try clear hx672_0
        try clear hx672_1
        try clear hx672_2
        try clear p672
        try clear q672
        obtain ⟨kq, x12_13, rfl, HA, HJ13, HO_4, HO_7, HO_8, BK673, BK674, HB⟩ := hcut
        cases kq with
        | zero => exact absurd HA.out (by simp [spec_LeaseRun.j1])
        | succ kj13 =>
         have H := HA.out
         clear HA
         simp only [spec_LeaseRun.j1] at H
         have HC25 := Aside0.mk H
         clear H
         as_aux_lemma =>
         go_upto_region 15 with (fail)
         go_cut [41] (fun v41 wc => ∃ (kq : Nat) (x41_24 : Bool), v41 = .bool x41_24 ∧ Aside0 (spec_LeaseRun.j2 kq l0 x4_1 x5_1 x6_1 x7_1 x8_1 x9_1 x12_13 x41_24 ((rd_T39 l0 x9_1).f0) ((rd_T39 l0 x9_1).f1) ((rd_T39 l0 x9_1).f2) 0 0 = some (r1, r2)) ∧ Aside0 (kq ≤ kj13) ∧ Aside0 (Kd.R k37 37 wc w.heap.size (fun k_ => k_ ≠ gb674) u4 x4_1) ∧ Aside0 (Kd.R (Kd.int .i64) 3 wc w.heap.size (fun k_ => some k_ ≠ (v670 : Value).ownBlock) v667 x7_1) ∧ Aside0 (Kd.R (Kd.int .i64) 3 wc w.heap.size (fun k_ => some k_ ≠ (v667 : Value).ownBlock) v670 x8_1) ∧ Aside0 (wc.heap[gb673]? = some (.cells #[.int .i64 ((rd_T39 l0 x9_1).f0), .int .i64 ((rd_T39 l0 x9_1).f1), .int .i64 ((rd_T39 l0 x9_1).f2)] 39 (0, 0))) ∧ Aside0 (wc.heap[gb674]? = some (.cells #[.int .i64 0, .int .i64 0] 37 (0, 0))) ∧ Aside0 (Below w.heap.size w wc))
         case first =>
          have H := HC25.out
          clear HC25
          by_cases c26 : ((rd_T39 l0 x9_1).f0) = 1
          ·rw [if_pos c26] at H
           have c26b0 : (((rd_T39 l0 x9_1).f0) == 1) = true := beq_iff_eq.mpr c26
           have c26b1 : (((rd_T39 l0 x9_1).f0) != 1) = false := bne_eq_false_iff_eq.mpr c26
           clear c26
           (first | rw [c26b0] | (simp only [i64_w, i32_w]; rw [c26b0]) | skip)
           by_cases c27 : ((rd_T39 l0 x9_1).f2) ≥ 0
           ·rw [if_pos c27] at H
            have c27b0 : decide (0 ≤ ((rd_T39 l0 x9_1).f2)) = true := decide_eq_true c27
            clear c27
            have H' := Aside0.mk H
            clear H
            have hnb28 := NB673_674.out
            have hnc28 := NB674_673.out
            have hcz29_0 : wc.cell? ⟨gb673, 0, none⟩ = some (.int .i64 ((rd_T39 l0 x9_1).f0)) := (blk_cell BK673.out 0).trans rfl
            have hcz29_1 : wc.cell? ⟨gb673, 1, none⟩ = some (.int .i64 ((rd_T39 l0 x9_1).f1)) := (blk_cell BK673.out 1).trans rfl
            have hcz29_2 : wc.cell? ⟨gb673, 2, none⟩ = some (.int .i64 ((rd_T39 l0 x9_1).f2)) := (blk_cell BK673.out 2).trans rfl
            have hfz29_0 := blk_frozen BK673.out 0
            have hfz29_1 := blk_frozen BK673.out 1
            have hfz29_2 := blk_frozen BK673.out 2
            as_aux_lemma =>
            go_wp2
            go_meet
            case rel => exact ⟨_, (decide (((rd_T39 l0 x9_1).f2) ≤ 1000)), (by first | rfl | (simp; done) | (simp [*]; done)), H', ⟨by have := HK1.out; have := HJ13.out; first | omega | exact Nat.le_refl _⟩, ⟨zr HO_4.out⟩, ⟨zr HO_7.out⟩, ⟨zr HO_8.out⟩, ⟨by (with_reducible repeat (first | refine blk_drewN ?_ _ | refine blk_drew ?_ | refine blk_alloc ?_ _)); exact BK673.out⟩, ⟨by (with_reducible repeat (first | refine blk_drewN ?_ _ | refine blk_drew ?_ | refine blk_alloc ?_ _)); exact BK674.out⟩, ⟨by repeat (first | (with_reducible first | exact HB.out | apply below_alloc | apply pw_below_drewN | apply below_drew1 | refine below_set ?_ GE673.out | refine below_set ?_ GE674.out) | exact HB.out)⟩⟩
           ·rw [if_neg c27] at H
            have c27b0 : decide (0 ≤ ((rd_T39 l0 x9_1).f2)) = false := decide_eq_false c27
            clear c27
            have H' := Aside0.mk H
            clear H
            have hnb30 := NB673_674.out
            have hnc30 := NB674_673.out
            have hcz31_0 : wc.cell? ⟨gb673, 0, none⟩ = some (.int .i64 ((rd_T39 l0 x9_1).f0)) := (blk_cell BK673.out 0).trans rfl
            have hcz31_1 : wc.cell? ⟨gb673, 1, none⟩ = some (.int .i64 ((rd_T39 l0 x9_1).f1)) := (blk_cell BK673.out 1).trans rfl
            have hcz31_2 : wc.cell? ⟨gb673, 2, none⟩ = some (.int .i64 ((rd_T39 l0 x9_1).f2)) := (blk_cell BK673.out 2).trans rfl
            have hfz31_0 := blk_frozen BK673.out 0
            have hfz31_1 := blk_frozen BK673.out 1
            have hfz31_2 := blk_frozen BK673.out 2
            as_aux_lemma =>
            go_wp2
            go_meet
            case rel => exact ⟨_, (false), (by first | rfl | (simp; done) | (simp [*]; done)), H', ⟨by have := HK1.out; have := HJ13.out; first | omega | exact Nat.le_refl _⟩, ⟨zr HO_4.out⟩, ⟨zr HO_7.out⟩, ⟨zr HO_8.out⟩, ⟨by (with_reducible repeat (first | refine blk_drewN ?_ _ | refine blk_drew ?_ | refine blk_alloc ?_ _)); exact BK673.out⟩, ⟨by (with_reducible repeat (first | refine blk_drewN ?_ _ | refine blk_drew ?_ | refine blk_alloc ?_ _)); exact BK674.out⟩, ⟨by repeat (first | (with_reducible first | exact HB.out | apply below_alloc | apply pw_below_drewN | apply below_drew1 | refine below_set ?_ GE673.out | refine below_set ?_ GE674.out) | exact HB.out)⟩⟩
          ·rw [if_neg c26] at H
           have c26b0 : (((rd_T39 l0 x9_1).f0) == 1) = false := beq_eq_false_iff_ne.mpr c26
           have c26b1 : (((rd_T39 l0 x9_1).f0) != 1) = true := bne_iff_ne.mpr c26
           (first | rw [c26b0] | (simp only [i64_w, i32_w]; rw [c26b0]) | skip)
           have H' := Aside0.mk H
           clear H
           have hnb32 := NB673_674.out
           have hnc32 := NB674_673.out
           have hcz33_0 : wc.cell? ⟨gb673, 0, none⟩ = some (.int .i64 ((rd_T39 l0 x9_1).f0)) := (blk_cell BK673.out 0).trans rfl
           have hcz33_1 : wc.cell? ⟨gb673, 1, none⟩ = some (.int .i64 ((rd_T39 l0 x9_1).f1)) := (blk_cell BK673.out 1).trans rfl
           have hcz33_2 : wc.cell? ⟨gb673, 2, none⟩ = some (.int .i64 ((rd_T39 l0 x9_1).f2)) := (blk_cell BK673.out 2).trans rfl
           have hfz33_0 := blk_frozen BK673.out 0
           have hfz33_1 := blk_frozen BK673.out 1
           have hfz33_2 := blk_frozen BK673.out 2
           as_aux_lemma =>
           go_wp2
           go_meet
           case rel => exact ⟨_, (false), (by first | rfl | (simp; done) | (simp [*]; done)), H', ⟨by have := HK1.out; have := HJ13.out; first | omega | exact Nat.le_refl _⟩, ⟨zr HO_4.out⟩, ⟨zr HO_7.out⟩, ⟨zr HO_8.out⟩, ⟨by (with_reducible repeat (first | refine blk_drewN ?_ _ | refine blk_drew ?_ | refine blk_alloc ?_ _)); exact BK673.out⟩, ⟨by (with_reducible repeat (first | refine blk_drewN ?_ _ | refine blk_drew ?_ | refine blk_alloc ?_ _)); exact BK674.out⟩, ⟨by repeat (first | (with_reducible first | exact HB.out | apply below_alloc | apply pw_below_drewN | apply below_drew1 | refine below_set ?_ GE673.out | refine below_set ?_ GE674.out) | exact HB.out)⟩⟩
         case rest =>
          clear HC25
          try clear c2
          try clear c2b0
          try clear c2b1
          try clear c5
          try clear c5b0
          try clear c5b1
          try clear c12
          try clear c12b0
          try clear c13
          try clear c13b0
          try clear hcz16_0
          try clear hcz16_1
          try clear hcz16_2
          try clear hcz19_0
          try clear hcz19_1
          try clear hfz16_0
          try clear hfz16_1
          try clear hfz16_2
          try clear hfz19_0
          try clear hfz19_1
          try clear hx672_0
          try clear hx672_1
          try clear hx672_2
          try clear p672
          try clear q672
          obtain ⟨kq, x41_24, rfl, HA, HJ24, HO_4, HO_7, HO_8, BK673, BK674, HB⟩ := hcut
          cases kq with
          | zero => exact absurd HA.out (by simp [spec_LeaseRun.j2])
          | succ kj24 =>
           have H := HA.out
           clear HA
           simp only [spec_LeaseRun.j2] at H
           by_cases c34 : x41_24 = true
           ·subst c34
            have H1 : (if x4_1.length < 8796093022208 then (spec_LeaseRun.l0 kj24 l0 (x4_1 ++ [(⟨0, 0⟩ : S37)]) (wrap64 (x5_1 + ((rd_T39 l0 x9_1).f2))) x6_1 x7_1 x8_1 (wrap64 (x9_1 + 1))) else (none)) = some (r1, r2) := by rw [if_pos rfl] at H; exact H
            clear H
            have H := H1
            clear H1
            by_cases c35 : x4_1.length < 8796093022208
            ·rw [if_pos c35] at H
             have LMc35 := Aside0.mk c35
             clear c35
             obtain ⟨y675, hy675⟩ : ∃ y_ : List (S37), y_ = (x4_1 ++ [(⟨0, 0⟩ : S37)]) := ⟨_, rfl⟩
             replace H : (spec_LeaseRun.l0 kj24 l0 y675 (wrap64 (x5_1 + ((rd_T39 l0 x9_1).f2))) x6_1 x7_1 x8_1 (wrap64 (x9_1 + 1))) = some (r1, r2) := by first | (rw [hy675]; with_reducible exact H) | (have H2_ := (Option.bind_some _ _).symm.trans H; rw [hy675]; with_reducible exact H2_) | (have H2_ := (Option.bind_some _ _).symm.trans H; with_reducible exact H2_) | with_reducible exact H | (rw [hy675]; exact H) | exact H
             have Ny675 := Aside0.mk hy675
             clear hy675
             have H' := Aside0.mk H
             clear H
             have hnb36 := NB673_674.out
             have hnc36 := NB674_673.out
             have hcz37_0 : wc.cell? ⟨gb673, 0, none⟩ = some (.int .i64 ((rd_T39 l0 x9_1).f0)) := (blk_cell BK673.out 0).trans rfl
             have hcz37_1 : wc.cell? ⟨gb673, 1, none⟩ = some (.int .i64 ((rd_T39 l0 x9_1).f1)) := (blk_cell BK673.out 1).trans rfl
             have hcz37_2 : wc.cell? ⟨gb673, 2, none⟩ = some (.int .i64 ((rd_T39 l0 x9_1).f2)) := (blk_cell BK673.out 2).trans rfl
             have hfz37_0 := blk_frozen BK673.out 0
             have hfz37_1 := blk_frozen BK673.out 1
             have hfz37_2 := blk_frozen BK673.out 2
             have hcz38_0 : wc.cell? ⟨gb674, 0, none⟩ = some (.int .i64 0) := (blk_cell BK674.out 0).trans rfl
             have hcz38_1 : wc.cell? ⟨gb674, 1, none⟩ = some (.int .i64 0) := (blk_cell BK674.out 1).trans rfl
             have hfz38_0 := blk_frozen BK674.out 0
             have hfz38_1 := blk_frozen BK674.out 1
             as_aux_lemma =>
             go_wp2_with (first | ((with_reducible refine gate_builtin (b := .append) (xs := #[.tmp 156, .tmp 158]) rfl ?_); at_builtin; refine Kd.R_append k37 (w0 := w) w.heap.size rfl (.tmp 156) (.tmp 158) 33 37 (.agg #[(.int .i64 0), (.int .i64 0)]) 16 rfl Try.underlying33 info37 rfl (by decide) (by omega) u4 x4_1 (⟨0, 0⟩ : S37) [.int .i64 0, .int .i64 0] (fun k_ => k_ ≠ gb674) (fun _ => False) rfl rfl ?aP (fun _ hk => hk.elim) ?aF ?aO ?aB ?aS ?aL ?_; (case aP => exact k37_mkM _ _ _ (⟨0, 0⟩ : S37)); (case aB => exact (by repeat (first | (with_reducible first | exact HB.out | apply below_alloc | apply pw_below_drewN | apply below_drew1 | refine below_set ?_ GE673.out | refine below_set ?_ GE674.out) | exact HB.out))); (case aF => exact (fun k_ hk => Kd.freshB (g := gb674) (o := .cells #[.int .i64 0, .int .i64 0] 37 (0, 0)) (zk BK674.out) k_ hk)); (case aO => exact (zr HO_4.out)); (case aS => exact (below_size (by repeat (first | (with_reducible first | exact HB.out | apply below_alloc | apply pw_below_drewN | apply below_drew1 | refine below_set ?_ GE673.out | refine below_set ?_ GE674.out) | exact HB.out)))); (case aL => have := LMc35.out; omega); intro v676 w39 ho hb hg hat; rw [← Ny675.out] at ho; have n0_ := Aside0.mk (Kd.R_over' (zr HO_7.out) (Kd.R_typed (zr HO_4.out)) (by decide) hg); have n1_ := Aside0.mk (Kd.R_over' (zr HO_8.out) (Kd.R_typed (zr HO_4.out)) (by decide) hg); have n2_ := Aside0.mk (blk_grown (g := gb673) (o := .cells #[.int .i64 ((rd_T39 l0 x9_1).f0), .int .i64 ((rd_T39 l0 x9_1).f1), .int .i64 ((rd_T39 l0 x9_1).f2)] 39 (0, 0)) (zk BK673.out) hg (Kd.R_ne HO_4.out BK673.out (by decide))); have n3_ := Aside0.mk (blk_grown (g := gb674) (o := .cells #[.int .i64 0, .int .i64 0] 37 (0, 0)) (zk BK674.out) hg (Kd.R_away HO_4.out (fun _ hk => hk))); have n4_ := Aside0.mk (hb); have n5_ := Aside0.mk (ho); clear HO_7; clear HO_8; clear BK673; clear BK674; clear HB; clear HO_4; have HO_7 := n0_; have HO_8 := n1_; have BK673 := n2_; have BK674 := n3_; have HB := n4_; have HO677 := n5_; clear n0_ n1_ n2_ n3_ n4_ n5_; clear ho hb hg hat))
             go_roundg kj24
             case measure => have := HK1.out; have := HJ13.out; have := HJ24.out; omega
             case rel => exact ⟨(y675), (wrap64 (x5_1 + ((rd_T39 l0 x9_1).f2))), (x6_1), (x7_1), (x8_1), (wrap64 (x9_1 + 1)), (by first | rfl | (simp; done) | (simp [*]; done)), (by first | rfl | (simp; done) | (simp [*]; done)), (by first | rfl | (simp; done) | (simp [*]; done)), H', ⟨by have := HK1.out; have := HJ13.out; have := HJ24.out; omega⟩, ⟨by (with_reducible repeat (first | apply Kd.R_alloc | apply Kd.R_drewN | apply Kd.R_drew)); exact Kd.R_mono HO677.out (fun _ hk => trivial)⟩, ⟨zr HO_7.out⟩, ⟨zr HO_8.out⟩, ⟨by repeat (first | (with_reducible first | exact HB.out | apply below_alloc | apply pw_below_drewN | apply below_drew1 | refine below_set ?_ GE673.out | refine below_set ?_ GE674.out) | exact HB.out)⟩⟩
            ·rw [if_neg c35] at H
             cases H
           ·replace c34 := Bool.eq_false_iff.mpr c34
            subst c34
            have H1 : (if ((rd_T39 l0 x9_1).f0) = 2 then (spec_LeaseRun.j3 kj24 l0 x4_1 x5_1 x6_1 x7_1 x8_1 x9_1 x12_13 x12_13 ((rd_T39 l0 x9_1).f0) ((rd_T39 l0 x9_1).f1) ((rd_T39 l0 x9_1).f2) 0 0) else (spec_LeaseRun.j3 kj24 l0 x4_1 x5_1 x6_1 x7_1 x8_1 x9_1 x12_13 false ((rd_T39 l0 x9_1).f0) ((rd_T39 l0 x9_1).f1) ((rd_T39 l0 x9_1).f2) 0 0)) = some (r1, r2) := by rw [if_neg (show ¬ (false = true) by decide)] at H; exact H
            clear H
            have H := H1
            clear H1
            have HC40 := Aside0.mk H
            clear H
            as_aux_lemma =>
            go_upto_region 17 with (fail)
            go_cut [59] (fun v59 wc => ∃ (kq : Nat) (x59_39 : Bool), v59 = .bool x59_39 ∧ Aside0 (spec_LeaseRun.j3 kq l0 x4_1 x5_1 x6_1 x7_1 x8_1 x9_1 x12_13 x59_39 ((rd_T39 l0 x9_1).f0) ((rd_T39 l0 x9_1).f1) ((rd_T39 l0 x9_1).f2) 0 0 = some (r1, r2)) ∧ Aside0 (kq ≤ kj24) ∧ Aside0 (Kd.R k37 37 wc w.heap.size (fun k_ => k_ ≠ gb674) u4 x4_1) ∧ Aside0 (Kd.R (Kd.int .i64) 3 wc w.heap.size (fun k_ => some k_ ≠ (v670 : Value).ownBlock) v667 x7_1) ∧ Aside0 (Kd.R (Kd.int .i64) 3 wc w.heap.size (fun k_ => some k_ ≠ (v667 : Value).ownBlock) v670 x8_1) ∧ Aside0 (wc.heap[gb673]? = some (.cells #[.int .i64 ((rd_T39 l0 x9_1).f0), .int .i64 ((rd_T39 l0 x9_1).f1), .int .i64 ((rd_T39 l0 x9_1).f2)] 39 (0, 0))) ∧ Aside0 (wc.heap[gb674]? = some (.cells #[.int .i64 0, .int .i64 0] 37 (0, 0))) ∧ Aside0 (Below w.heap.size w wc))
            case first =>
             have H := HC40.out
             clear HC40
             by_cases c41 : ((rd_T39 l0 x9_1).f0) = 2
             ·rw [if_pos c41] at H
              have c41b0 : (((rd_T39 l0 x9_1).f0) == 2) = true := beq_iff_eq.mpr c41
              have c41b1 : (((rd_T39 l0 x9_1).f0) != 2) = false := bne_eq_false_iff_eq.mpr c41
              clear c41
              (first | rw [c41b0] | (simp only [i64_w, i32_w]; rw [c41b0]) | skip)
              have H' := Aside0.mk H
              clear H
              have hnb42 := NB673_674.out
              have hnc42 := NB674_673.out
              have hcz43_0 : wc.cell? ⟨gb673, 0, none⟩ = some (.int .i64 ((rd_T39 l0 x9_1).f0)) := (blk_cell BK673.out 0).trans rfl
              have hcz43_1 : wc.cell? ⟨gb673, 1, none⟩ = some (.int .i64 ((rd_T39 l0 x9_1).f1)) := (blk_cell BK673.out 1).trans rfl
              have hcz43_2 : wc.cell? ⟨gb673, 2, none⟩ = some (.int .i64 ((rd_T39 l0 x9_1).f2)) := (blk_cell BK673.out 2).trans rfl
              have hfz43_0 := blk_frozen BK673.out 0
              have hfz43_1 := blk_frozen BK673.out 1
              have hfz43_2 := blk_frozen BK673.out 2
              as_aux_lemma =>
              go_wp2
              go_meet
              case rel => exact ⟨_, (x12_13), (by first | rfl | (simp; done) | (simp [*]; done)), H', ⟨by have := HK1.out; have := HJ13.out; have := HJ24.out; first | omega | exact Nat.le_refl _⟩, ⟨zr HO_4.out⟩, ⟨zr HO_7.out⟩, ⟨zr HO_8.out⟩, ⟨by (with_reducible repeat (first | refine blk_drewN ?_ _ | refine blk_drew ?_ | refine blk_alloc ?_ _)); exact BK673.out⟩, ⟨by (with_reducible repeat (first | refine blk_drewN ?_ _ | refine blk_drew ?_ | refine blk_alloc ?_ _)); exact BK674.out⟩, ⟨by repeat (first | (with_reducible first | exact HB.out | apply below_alloc | apply pw_below_drewN | apply below_drew1 | refine below_set ?_ GE673.out | refine below_set ?_ GE674.out) | exact HB.out)⟩⟩
             ·rw [if_neg c41] at H
              have c41b0 : (((rd_T39 l0 x9_1).f0) == 2) = false := beq_eq_false_iff_ne.mpr c41
              have c41b1 : (((rd_T39 l0 x9_1).f0) != 2) = true := bne_iff_ne.mpr c41
              (first | rw [c41b0] | (simp only [i64_w, i32_w]; rw [c41b0]) | skip)
              have H' := Aside0.mk H
              clear H
              have hnb44 := NB673_674.out
              have hnc44 := NB674_673.out
              have hcz45_0 : wc.cell? ⟨gb673, 0, none⟩ = some (.int .i64 ((rd_T39 l0 x9_1).f0)) := (blk_cell BK673.out 0).trans rfl
              have hcz45_1 : wc.cell? ⟨gb673, 1, none⟩ = some (.int .i64 ((rd_T39 l0 x9_1).f1)) := (blk_cell BK673.out 1).trans rfl
              have hcz45_2 : wc.cell? ⟨gb673, 2, none⟩ = some (.int .i64 ((rd_T39 l0 x9_1).f2)) := (blk_cell BK673.out 2).trans rfl
              have hfz45_0 := blk_frozen BK673.out 0
              have hfz45_1 := blk_frozen BK673.out 1
              have hfz45_2 := blk_frozen BK673.out 2
              as_aux_lemma =>
              go_wp2
              go_meet
              case rel => exact ⟨_, (false), (by first | rfl | (simp; done) | (simp [*]; done)), H', ⟨by have := HK1.out; have := HJ13.out; have := HJ24.out; first | omega | exact Nat.le_refl _⟩, ⟨zr HO_4.out⟩, ⟨zr HO_7.out⟩, ⟨zr HO_8.out⟩, ⟨by (with_reducible repeat (first | refine blk_drewN ?_ _ | refine blk_drew ?_ | refine blk_alloc ?_ _)); exact BK673.out⟩, ⟨by (with_reducible repeat (first | refine blk_drewN ?_ _ | refine blk_drew ?_ | refine blk_alloc ?_ _)); exact BK674.out⟩, ⟨by repeat (first | (with_reducible first | exact HB.out | apply below_alloc | apply pw_below_drewN | apply below_drew1 | refine below_set ?_ GE673.out | refine below_set ?_ GE674.out) | exact HB.out)⟩⟩
            case rest =>
             clear HC40
             try clear c2
             try clear c2b0
             try clear c2b1
             try clear c5
             try clear c5b0
             try clear c5b1
             try clear c12
             try clear c12b0
             try clear c13
             try clear c13b0
             try clear c34
             try clear hcz16_0
             try clear hcz16_1
             try clear hcz16_2
             try clear hcz19_0
             try clear hcz19_1
             try clear hfz16_0
             try clear hfz16_1
             try clear hfz16_2
             try clear hfz19_0
             try clear hfz19_1
             try clear hx672_0
             try clear hx672_1
             try clear hx672_2
             try clear p672
             try clear q672
             obtain ⟨kq, x59_39, rfl, HA, HJ39, HO_4, HO_7, HO_8, BK673, BK674, HB⟩ := hcut
             cases kq with
             | zero => exact absurd HA.out (by simp [spec_LeaseRun.j3])
             | succ kj39 =>
              have H := HA.out
              clear HA
              simp only [spec_LeaseRun.j3] at H
              by_cases c46 : x59_39 = true
              ·subst c46
               have H1 : (if 0 ≤ ((rd_T39 l0 x9_1).f1) then (if ((rd_T39 l0 x9_1).f1) < (x7_1.length : Int) then (if ((rd_T39 l0 x9_1).f1) < (x8_1.length : Int) then (if x4_1.length < 8796093022208 then (spec_LeaseRun.l0 kj39 l0 (x4_1 ++ [(⟨0, x6_1⟩ : S37)]) x5_1 x6_1 (x7_1.set (((rd_T39 l0 x9_1).f1) : Int).toNat x6_1) (x8_1.set (((rd_T39 l0 x9_1).f1) : Int).toNat (wrap64 (x5_1 + 10))) (wrap64 (x9_1 + 1))) else (none)) else (none)) else (none)) else (none)) = some (r1, r2) := by rw [if_pos rfl] at H; exact H
               clear H
               have H := H1
               clear H1
               by_cases c47 : 0 ≤ ((rd_T39 l0 x9_1).f1)
               ·rw [if_pos c47] at H
                have c47b0 : decide (0 ≤ ((rd_T39 l0 x9_1).f1)) = true := decide_eq_true c47
                clear c47
                by_cases c48 : ((rd_T39 l0 x9_1).f1) < (x7_1.length : Int)
                ·rw [if_pos c48] at H
                 have c48b0 : decide (((rd_T39 l0 x9_1).f1) < (x7_1.length : Int)) = true := decide_eq_true c48
                 clear c48
                 obtain ⟨y678, hy678⟩ : ∃ y_ : List Int, y_ = (x7_1.set (((rd_T39 l0 x9_1).f1) : Int).toNat x6_1) := ⟨_, rfl⟩
                 replace H : (if ((rd_T39 l0 x9_1).f1) < (x8_1.length : Int) then (if x4_1.length < 8796093022208 then (spec_LeaseRun.l0 kj39 l0 (x4_1 ++ [(⟨0, x6_1⟩ : S37)]) x5_1 x6_1 y678 (x8_1.set (((rd_T39 l0 x9_1).f1) : Int).toNat (wrap64 (x5_1 + 10))) (wrap64 (x9_1 + 1))) else (none)) else (none)) = some (r1, r2) := by first | (rw [hy678]; with_reducible exact H) | (have H2_ := (Option.bind_some _ _).symm.trans H; rw [hy678]; with_reducible exact H2_) | (have H2_ := (Option.bind_some _ _).symm.trans H; with_reducible exact H2_) | with_reducible exact H | (rw [hy678]; exact H) | exact H
                 have Ny678 := Aside0.mk hy678
                 clear hy678
                 by_cases c50 : ((rd_T39 l0 x9_1).f1) < (x8_1.length : Int)
                 ·rw [if_pos c50] at H
                  have c50b0 : decide (((rd_T39 l0 x9_1).f1) < (x8_1.length : Int)) = true := decide_eq_true c50
                  clear c50
                  obtain ⟨y679, hy679⟩ : ∃ y_ : List Int, y_ = (x8_1.set (((rd_T39 l0 x9_1).f1) : Int).toNat (wrap64 (x5_1 + 10))) := ⟨_, rfl⟩
                  replace H : (if x4_1.length < 8796093022208 then (spec_LeaseRun.l0 kj39 l0 (x4_1 ++ [(⟨0, x6_1⟩ : S37)]) x5_1 x6_1 y678 y679 (wrap64 (x9_1 + 1))) else (none)) = some (r1, r2) := by first | (rw [hy679]; with_reducible exact H) | (have H2_ := (Option.bind_some _ _).symm.trans H; rw [hy679]; with_reducible exact H2_) | (have H2_ := (Option.bind_some _ _).symm.trans H; with_reducible exact H2_) | with_reducible exact H | (rw [hy679]; exact H) | exact H
                  have Ny679 := Aside0.mk hy679
                  clear hy679
                  by_cases c52 : x4_1.length < 8796093022208
                  ·rw [if_pos c52] at H
                   have LMc52 := Aside0.mk c52
                   clear c52
                   obtain ⟨y680, hy680⟩ : ∃ y_ : List (S37), y_ = (x4_1 ++ [(⟨0, x6_1⟩ : S37)]) := ⟨_, rfl⟩
                   replace H : (spec_LeaseRun.l0 kj39 l0 y680 x5_1 x6_1 y678 y679 (wrap64 (x9_1 + 1))) = some (r1, r2) := by first | (rw [hy680]; with_reducible exact H) | (have H2_ := (Option.bind_some _ _).symm.trans H; rw [hy680]; with_reducible exact H2_) | (have H2_ := (Option.bind_some _ _).symm.trans H; with_reducible exact H2_) | with_reducible exact H | (rw [hy680]; exact H) | exact H
                   have Ny680 := Aside0.mk hy680
                   clear hy680
                   have H' := Aside0.mk H
                   clear H
                   have hnb53 := NB673_674.out
                   have hnc53 := NB674_673.out
                   have hcz54_0 : wc.cell? ⟨gb673, 0, none⟩ = some (.int .i64 ((rd_T39 l0 x9_1).f0)) := (blk_cell BK673.out 0).trans rfl
                   have hcz54_1 : wc.cell? ⟨gb673, 1, none⟩ = some (.int .i64 ((rd_T39 l0 x9_1).f1)) := (blk_cell BK673.out 1).trans rfl
                   have hcz54_2 : wc.cell? ⟨gb673, 2, none⟩ = some (.int .i64 ((rd_T39 l0 x9_1).f2)) := (blk_cell BK673.out 2).trans rfl
                   have hfz54_0 := blk_frozen BK673.out 0
                   have hfz54_1 := blk_frozen BK673.out 1
                   have hfz54_2 := blk_frozen BK673.out 2
                   have p49 : 0 ≤ (((rd_T39 l0 x9_1).f1) : Int) := of_decide_eq_true (by first | (with_reducible assumption) | assumption)
                   have q49 : (((rd_T39 l0 x9_1).f1) : Int) < ((x7_1.length : Int) : Int) := of_decide_eq_true (by first | (with_reducible assumption) | assumption)
                   obtain ⟨go49, co49, eo49, gb49, gl49, cl49, HG49⟩ := Kd.R_form HO_7.out (by omega)
                   (first | cases eo49 | (injection eo49 with ea_ en_ ec_; (first | subst ea_ | (injection ea_ with ea_; subst ea_)); subst ec_; clear en_))
                   have GB49 := Aside0.mk gb49
                   have GG49 := Aside0.mk HG49
                   clear gb49 gl49 HG49
                   obtain ⟨hx49_0, hf49_0⟩ := Kd.R_celln 0 HO_7.out (((rd_T39 l0 x9_1).f1) : Int) p49 q49
                   replace p49 := eq_true p49
                   replace q49 := eq_true q49
                   have HP55 := Kd.R_putg HO_7.out (((rd_T39 l0 x9_1).f1) : Int) x6_1
                   as_aux_lemma =>
                   go_wp2_with (first | ((with_reducible refine gate_store (t := 3) (p := 70) rfl ?_); refine store_event (t := 3) (p := 70) (v := ?vo_w56) (w1 := (wc.setCell ⟨go49, (((rd_T39 l0 x9_1).f1) : Int).toNat, none⟩ (.int .i64 x6_1))) ?hg ?ho ?hn ?hr ?_; (case ho => rfl); (case hg => rfl); (case hn => rfl); (case hr => first | (go_simp; done) | (go_simp; rfl)); intro w56 hw; have hg : wc.grownBy w56 (some go49) := (by rw [hw]; exact HP55.2); have hp_ : Kd.R (Kd.int .i64) 3 w56 w.heap.size (fun k_ => some k_ ≠ (v670 : Value).ownBlock) (.slice (some ⟨go49, 0, none⟩) x7_1.length co49) y678 := (by rw [hw, Ny678.out]; exact HP55.1); clear HP55; have n0_ := Aside0.mk (Kd.R_over' (v := (.slice (some ⟨go49, 0, none⟩) x7_1.length co49)) (zr HO_4.out) (Kd.R_typed HO_7.out) (by decide) hg); have n1_ := Aside0.mk (hp_); have n2_ := Aside0.mk (Kd.R_after (v := (.slice (some ⟨go49, 0, none⟩) x7_1.length co49)) (v1 := (.slice (some ⟨go49, 0, none⟩) x7_1.length co49)) (ok := (fun _ => True)) (by (with_reducible repeat (first | apply Kd.R_alloc | apply Kd.R_drewN | apply Kd.R_drew)); exact Kd.R_mono HO_8.out (fun _ hk => ⟨trivial, hk⟩)) hg (.inl rfl)); have n3_ := Aside0.mk (blk_grown (g := gb673) (o := .cells #[.int .i64 ((rd_T39 l0 x9_1).f0), .int .i64 ((rd_T39 l0 x9_1).f1), .int .i64 ((rd_T39 l0 x9_1).f2)] 39 (0, 0)) (zk BK673.out) hg (Kd.R_ne HO_7.out BK673.out (by decide))); have n4_ := Aside0.mk (blk_grown (g := gb674) (o := .cells #[.int .i64 0, .int .i64 0] 37 (0, 0)) (zk BK674.out) hg (Kd.R_ne HO_7.out BK674.out (by decide))); have n5_ := Aside0.mk ((by rw [hw]; exact below_set (HB.out) GB49.out : Below w.heap.size w w56)); clear HO_4; clear HO_7; clear HO_8; clear BK673; clear BK674; clear HB; have HO_4 := n0_; have HO_7 := n1_; have HO_8 := n2_; have BK673 := n3_; have BK674 := n4_; have HB := n5_; clear n0_ n1_ n2_ n3_ n4_ n5_; clear hg hw hp_; have hcz57_0 : w56.cell? ⟨gb673, 0, none⟩ = some (.int .i64 ((rd_T39 l0 x9_1).f0)) := (blk_cell BK673.out 0).trans rfl; have hcz57_1 : w56.cell? ⟨gb673, 1, none⟩ = some (.int .i64 ((rd_T39 l0 x9_1).f1)) := (blk_cell BK673.out 1).trans rfl; have hcz57_2 : w56.cell? ⟨gb673, 2, none⟩ = some (.int .i64 ((rd_T39 l0 x9_1).f2)) := (blk_cell BK673.out 2).trans rfl; have hfz57_0 := blk_frozen BK673.out 0; have hfz57_1 := blk_frozen BK673.out 1; have hfz57_2 := blk_frozen BK673.out 2; have p51 : 0 ≤ (((rd_T39 l0 x9_1).f1) : Int) := of_decide_eq_true (by first | (with_reducible assumption) | assumption); have q51 : (((rd_T39 l0 x9_1).f1) : Int) < ((x8_1.length : Int) : Int) := of_decide_eq_true (by first | (with_reducible assumption) | assumption); obtain ⟨go51, co51, eo51, gb51, gl51, cl51, HG51⟩ := Kd.R_form HO_8.out (by omega); (first | cases eo51 | (injection eo51 with ea_ en_ ec_; (first | subst ea_ | (injection ea_ with ea_; subst ea_)); subst ec_; clear en_)); have GB51 := Aside0.mk gb51; have GG51 := Aside0.mk HG51; clear gb51 gl51 HG51; obtain ⟨hx51_0, hf51_0⟩ := Kd.R_celln 0 HO_8.out (((rd_T39 l0 x9_1).f1) : Int) p51 q51; replace p51 := eq_true p51; replace q51 := eq_true q51; have n_ := Aside0.mk (Kd.R_mono (ok' := (fun k_ => some k_ ≠ (.slice (some ⟨go49, 0, none⟩) x7_1.length co49 : Value).ownBlock)) HO_8.out (fun k_ hk => hk.2)); clear HO_8; have HO_8 := n_; clear n_; obtain ⟨hy58_, hz58_⟩ := Kd.R_celln 0 HO_8.out (((rd_T39 l0 x9_1).f1) : Int) (of_decide_eq_true (by first | (with_reducible assumption) | assumption)) (of_decide_eq_true (by first | (with_reducible assumption) | assumption)); have HP58 := Kd.R_putg HO_8.out (((rd_T39 l0 x9_1).f1) : Int) (wrap64 (x5_1 + 10))) | ((with_reducible refine gate_store (t := 3) (p := 76) rfl ?_); refine store_event (t := 3) (p := 76) (v := ?vo_w59) (w1 := (w56.setCell ⟨go51, (((rd_T39 l0 x9_1).f1) : Int).toNat, none⟩ (.int .i64 (wrap64 (x5_1 + 10))))) ?hg ?ho ?hn ?hr ?_; (case ho => rfl); (case hg => rfl); (case hn => rfl); (case hr => first | (go_simp; done) | (go_simp; rfl)); intro w59 hw; have hg : w56.grownBy w59 (some go51) := (by rw [hw]; exact HP58.2); have hp_ : Kd.R (Kd.int .i64) 3 w59 w.heap.size (fun k_ => some k_ ≠ (.slice (some ⟨go49, 0, none⟩) x7_1.length co49 : Value).ownBlock) (.slice (some ⟨go51, 0, none⟩) x8_1.length co51) y679 := (by rw [hw, Ny679.out]; exact HP58.1); clear HP58; have n0_ := Aside0.mk (Kd.R_over' (v := (.slice (some ⟨go51, 0, none⟩) x8_1.length co51)) (zr HO_4.out) (Kd.R_typed HO_8.out) (by decide) hg); have n1_ := Aside0.mk (Kd.R_after (v := (.slice (some ⟨go51, 0, none⟩) x8_1.length co51)) (v1 := (.slice (some ⟨go51, 0, none⟩) x8_1.length co51)) (ok := (fun _ => True)) (by (with_reducible repeat (first | apply Kd.R_alloc | apply Kd.R_drewN | apply Kd.R_drew)); exact Kd.R_mono HO_7.out (fun _ hk => ⟨trivial, hk⟩)) hg (.inl rfl)); have n2_ := Aside0.mk (hp_); have n3_ := Aside0.mk (blk_grown (g := gb673) (o := .cells #[.int .i64 ((rd_T39 l0 x9_1).f0), .int .i64 ((rd_T39 l0 x9_1).f1), .int .i64 ((rd_T39 l0 x9_1).f2)] 39 (0, 0)) (zk BK673.out) hg (Kd.R_ne HO_8.out BK673.out (by decide))); have n4_ := Aside0.mk (blk_grown (g := gb674) (o := .cells #[.int .i64 0, .int .i64 0] 37 (0, 0)) (zk BK674.out) hg (Kd.R_ne HO_8.out BK674.out (by decide))); have n5_ := Aside0.mk ((by rw [hw]; exact below_set (HB.out) GB51.out : Below w.heap.size w w59)); clear HO_4; clear HO_7; clear HO_8; clear BK673; clear BK674; clear HB; have HO_4 := n0_; have HO_7 := n1_; have HO_8 := n2_; have BK673 := n3_; have BK674 := n4_; have HB := n5_; clear n0_ n1_ n2_ n3_ n4_ n5_; clear hg hw hp_; have hcz60_0 : w59.cell? ⟨gb674, 0, none⟩ = some (.int .i64 0) := (blk_cell BK674.out 0).trans rfl; have hcz60_1 : w59.cell? ⟨gb674, 1, none⟩ = some (.int .i64 0) := (blk_cell BK674.out 1).trans rfl; have hfz60_0 := blk_frozen BK674.out 0; have hfz60_1 := blk_frozen BK674.out 1) | ((with_reducible refine gate_builtin (b := .append) (xs := #[.tmp 156, .tmp 158]) rfl ?_); at_builtin; refine Kd.R_append k37 (w0 := w) w.heap.size rfl (.tmp 156) (.tmp 158) 33 37 (.agg #[(.int .i64 0), (.int .i64 0)]) 16 rfl Try.underlying33 info37 rfl (by decide) (by omega) u4 x4_1 (⟨0, x6_1⟩ : S37) [.int .i64 0, .int .i64 x6_1] (fun k_ => k_ ≠ gb674) (fun _ => False) rfl (by first | (go_simp; done) | (go_simp; rfl)) ?aP (fun _ hk => hk.elim) ?aF ?aO ?aB ?aS ?aL ?_; (case aP => exact k37_mkM _ _ _ (⟨0, x6_1⟩ : S37)); (case aB => exact (by repeat (first | (with_reducible first | exact HB.out | apply below_alloc | apply pw_below_drewN | apply below_drew1 | refine below_set ?_ GE673.out | refine below_set ?_ GE674.out) | exact HB.out))); (case aF => exact (fun k_ hk => Kd.freshB (g := gb674) (o := .cells #[.int .i64 0, .int .i64 x6_1] 37 (0, 0)) (by (with_reducible repeat (first | refine blk_drewN ?_ _ | refine blk_drew ?_ | refine blk_alloc ?_ _)); refine blk_put (cs := #[.int .i64 0, .int .i64 0]) ?_ 1 _ rfl; (with_reducible repeat (first | refine blk_drewN ?_ _ | refine blk_drew ?_ | refine blk_alloc ?_ _)); exact BK674.out) k_ hk)); (case aO => exact (by (with_reducible repeat (first | apply Kd.R_alloc | apply Kd.R_drewN | apply Kd.R_drew)); exact Kd.R_mono (Kd.R_far (p := ⟨gb674, 1, none⟩) (Kd.R_mono HO_4.out (fun k_ hk => (⟨hk, hk⟩ : _ ∧ k_ ≠ gb674))) (fun _ hk => hk.2) (.int .i64 x6_1)) (fun _ hk => hk.1))); (case aS => exact (below_size (by repeat (first | (with_reducible first | exact HB.out | apply below_alloc | apply pw_below_drewN | apply below_drew1 | refine below_set ?_ GE673.out | refine below_set ?_ GE674.out) | exact HB.out)))); (case aL => have := LMc52.out; omega); intro v681 w61 ho hb hg hat; rw [← Ny680.out] at ho; have n0_ := Aside0.mk (Kd.R_over' (by (with_reducible repeat (first | apply Kd.R_alloc | apply Kd.R_drewN | apply Kd.R_drew)); exact (Kd.R_mono (Kd.R_far (p := ⟨gb674, 1, none⟩) (Kd.R_types HO_7.out BK674.out (by decide)) (fun _ hk => hk.2) (.int .i64 x6_1)) (fun _ h_ => h_.1))) (Kd.R_typed (by (with_reducible repeat (first | apply Kd.R_alloc | apply Kd.R_drewN | apply Kd.R_drew)); exact (Kd.R_mono (Kd.R_far (p := ⟨gb674, 1, none⟩) (Kd.R_mono HO_4.out (fun k_ hk => (⟨hk, hk⟩ : _ ∧ k_ ≠ gb674))) (fun _ hk => hk.2) (.int .i64 x6_1)) (fun _ h_ => h_.1)))) (by decide) hg); have n1_ := Aside0.mk (Kd.R_over' (by (with_reducible repeat (first | apply Kd.R_alloc | apply Kd.R_drewN | apply Kd.R_drew)); exact (Kd.R_mono (Kd.R_far (p := ⟨gb674, 1, none⟩) (Kd.R_types HO_8.out BK674.out (by decide)) (fun _ hk => hk.2) (.int .i64 x6_1)) (fun _ h_ => h_.1))) (Kd.R_typed (by (with_reducible repeat (first | apply Kd.R_alloc | apply Kd.R_drewN | apply Kd.R_drew)); exact (Kd.R_mono (Kd.R_far (p := ⟨gb674, 1, none⟩) (Kd.R_mono HO_4.out (fun k_ hk => (⟨hk, hk⟩ : _ ∧ k_ ≠ gb674))) (fun _ hk => hk.2) (.int .i64 x6_1)) (fun _ h_ => h_.1)))) (by decide) hg); have n2_ := Aside0.mk (blk_grown (g := gb673) (o := .cells #[.int .i64 ((rd_T39 l0 x9_1).f0), .int .i64 ((rd_T39 l0 x9_1).f1), .int .i64 ((rd_T39 l0 x9_1).f2)] 39 (0, 0)) (by (with_reducible repeat (first | refine blk_drewN ?_ _ | refine blk_drew ?_ | refine blk_alloc ?_ _)); refine blk_far ?_ NB673_674.out _; (with_reducible repeat (first | refine blk_drewN ?_ _ | refine blk_drew ?_ | refine blk_alloc ?_ _)); exact BK673.out) hg (Kd.R_ne HO_4.out BK673.out (by decide))); have n3_ := Aside0.mk (blk_grown (g := gb674) (o := .cells #[.int .i64 0, .int .i64 x6_1] 37 (0, 0)) (by (with_reducible repeat (first | refine blk_drewN ?_ _ | refine blk_drew ?_ | refine blk_alloc ?_ _)); refine blk_put (cs := #[.int .i64 0, .int .i64 0]) ?_ 1 _ rfl; (with_reducible repeat (first | refine blk_drewN ?_ _ | refine blk_drew ?_ | refine blk_alloc ?_ _)); exact BK674.out) hg (Kd.R_away HO_4.out (fun _ hk => hk))); have n4_ := Aside0.mk (hb); have n5_ := Aside0.mk (ho); clear HO_7; clear HO_8; clear BK673; clear BK674; clear HB; clear HO_4; have HO_7 := n0_; have HO_8 := n1_; have BK673 := n2_; have BK674 := n3_; have HB := n4_; have HO682 := n5_; clear n0_ n1_ n2_ n3_ n4_ n5_; clear ho hb hg hat))
                   go_roundg kj39
                   case measure => have := HK1.out; have := HJ13.out; have := HJ24.out; have := HJ39.out; omega
                   case rel => exact ⟨(y680), (x5_1), (x6_1), (y678), (y679), (wrap64 (x9_1 + 1)), (by first | rfl | (simp; done) | (simp [*]; done)), (by first | rfl | (simp; done) | (simp [*]; done)), (by first | rfl | (simp; done) | (simp [*]; done)), H', ⟨by have := HK1.out; have := HJ13.out; have := HJ24.out; have := HJ39.out; omega⟩, ⟨by (with_reducible repeat (first | apply Kd.R_alloc | apply Kd.R_drewN | apply Kd.R_drew)); exact Kd.R_mono HO682.out (fun _ hk => trivial)⟩, ⟨by (with_reducible repeat (first | apply Kd.R_alloc | apply Kd.R_drewN | apply Kd.R_drew)); exact Kd.R_mono HO_7.out (fun _ hk => hk.2)⟩, ⟨zr HO_8.out⟩, ⟨by repeat (first | (with_reducible first | exact HB.out | apply below_alloc | apply pw_below_drewN | apply below_drew1 | refine below_set ?_ GE673.out | refine below_set ?_ GE674.out) | exact HB.out)⟩⟩
                  ·rw [if_neg c52] at H
                   cases H
                 ·rw [if_neg c50] at H
                  cases H
                ·rw [if_neg c48] at H
                 cases H
               ·rw [if_neg c47] at H
                cases H
              ·replace c46 := Bool.eq_false_iff.mpr c46
               subst c46
               have H1 : (if ((rd_T39 l0 x9_1).f0) = 3 then (spec_LeaseRun.j4 kj39 l0 x4_1 x5_1 x6_1 x7_1 x8_1 x9_1 x12_13 x12_13 ((rd_T39 l0 x9_1).f0) ((rd_T39 l0 x9_1).f1) ((rd_T39 l0 x9_1).f2) 0 0) else (spec_LeaseRun.j4 kj39 l0 x4_1 x5_1 x6_1 x7_1 x8_1 x9_1 x12_13 false ((rd_T39 l0 x9_1).f0) ((rd_T39 l0 x9_1).f1) ((rd_T39 l0 x9_1).f2) 0 0)) = some (r1, r2) := by rw [if_neg (show ¬ (false = true) by decide)] at H; exact H
               clear H
               have H := H1
               clear H1
               have HC62 := Aside0.mk H
               clear H
               as_aux_lemma =>
               go_upto_region 21 with (fail)
               go_cut [79] (fun v79 wc => ∃ (kq : Nat) (x79_61 : Bool), v79 = .bool x79_61 ∧ Aside0 (spec_LeaseRun.j4 kq l0 x4_1 x5_1 x6_1 x7_1 x8_1 x9_1 x12_13 x79_61 ((rd_T39 l0 x9_1).f0) ((rd_T39 l0 x9_1).f1) ((rd_T39 l0 x9_1).f2) 0 0 = some (r1, r2)) ∧ Aside0 (kq ≤ kj39) ∧ Aside0 (Kd.R k37 37 wc w.heap.size (fun k_ => k_ ≠ gb674) u4 x4_1) ∧ Aside0 (Kd.R (Kd.int .i64) 3 wc w.heap.size (fun k_ => some k_ ≠ (v670 : Value).ownBlock) v667 x7_1) ∧ Aside0 (Kd.R (Kd.int .i64) 3 wc w.heap.size (fun k_ => some k_ ≠ (v667 : Value).ownBlock) v670 x8_1) ∧ Aside0 (wc.heap[gb673]? = some (.cells #[.int .i64 ((rd_T39 l0 x9_1).f0), .int .i64 ((rd_T39 l0 x9_1).f1), .int .i64 ((rd_T39 l0 x9_1).f2)] 39 (0, 0))) ∧ Aside0 (wc.heap[gb674]? = some (.cells #[.int .i64 0, .int .i64 0] 37 (0, 0))) ∧ Aside0 (Below w.heap.size w wc))
               case first =>
                have H := HC62.out
                clear HC62
                by_cases c63 : ((rd_T39 l0 x9_1).f0) = 3
                ·rw [if_pos c63] at H
                 have c63b0 : (((rd_T39 l0 x9_1).f0) == 3) = true := beq_iff_eq.mpr c63
                 have c63b1 : (((rd_T39 l0 x9_1).f0) != 3) = false := bne_eq_false_iff_eq.mpr c63
                 clear c63
                 (first | rw [c63b0] | (simp only [i64_w, i32_w]; rw [c63b0]) | skip)
                 have H' := Aside0.mk H
                 clear H
                 have hnb64 := NB673_674.out
                 have hnc64 := NB674_673.out
                 have hcz65_0 : wc.cell? ⟨gb673, 0, none⟩ = some (.int .i64 ((rd_T39 l0 x9_1).f0)) := (blk_cell BK673.out 0).trans rfl
                 have hcz65_1 : wc.cell? ⟨gb673, 1, none⟩ = some (.int .i64 ((rd_T39 l0 x9_1).f1)) := (blk_cell BK673.out 1).trans rfl
                 have hcz65_2 : wc.cell? ⟨gb673, 2, none⟩ = some (.int .i64 ((rd_T39 l0 x9_1).f2)) := (blk_cell BK673.out 2).trans rfl
                 have hfz65_0 := blk_frozen BK673.out 0
                 have hfz65_1 := blk_frozen BK673.out 1
                 have hfz65_2 := blk_frozen BK673.out 2
                 as_aux_lemma =>
                 go_wp2
                 go_meet
                 case rel => exact ⟨_, (x12_13), (by first | rfl | (simp; done) | (simp [*]; done)), H', ⟨by have := HK1.out; have := HJ13.out; have := HJ24.out; have := HJ39.out; first | omega | exact Nat.le_refl _⟩, ⟨zr HO_4.out⟩, ⟨zr HO_7.out⟩, ⟨zr HO_8.out⟩, ⟨by (with_reducible repeat (first | refine blk_drewN ?_ _ | refine blk_drew ?_ | refine blk_alloc ?_ _)); exact BK673.out⟩, ⟨by (with_reducible repeat (first | refine blk_drewN ?_ _ | refine blk_drew ?_ | refine blk_alloc ?_ _)); exact BK674.out⟩, ⟨by repeat (first | (with_reducible first | exact HB.out | apply below_alloc | apply pw_below_drewN | apply below_drew1 | refine below_set ?_ GE673.out | refine below_set ?_ GE674.out) | exact HB.out)⟩⟩
                ·rw [if_neg c63] at H
                 have c63b0 : (((rd_T39 l0 x9_1).f0) == 3) = false := beq_eq_false_iff_ne.mpr c63
                 have c63b1 : (((rd_T39 l0 x9_1).f0) != 3) = true := bne_iff_ne.mpr c63
                 (first | rw [c63b0] | (simp only [i64_w, i32_w]; rw [c63b0]) | skip)
                 have H' := Aside0.mk H
                 clear H
                 have hnb66 := NB673_674.out
                 have hnc66 := NB674_673.out
                 have hcz67_0 : wc.cell? ⟨gb673, 0, none⟩ = some (.int .i64 ((rd_T39 l0 x9_1).f0)) := (blk_cell BK673.out 0).trans rfl
                 have hcz67_1 : wc.cell? ⟨gb673, 1, none⟩ = some (.int .i64 ((rd_T39 l0 x9_1).f1)) := (blk_cell BK673.out 1).trans rfl
                 have hcz67_2 : wc.cell? ⟨gb673, 2, none⟩ = some (.int .i64 ((rd_T39 l0 x9_1).f2)) := (blk_cell BK673.out 2).trans rfl
                 have hfz67_0 := blk_frozen BK673.out 0
                 have hfz67_1 := blk_frozen BK673.out 1
                 have hfz67_2 := blk_frozen BK673.out 2
                 as_aux_lemma =>
                 go_wp2
                 go_meet
                 case rel => exact ⟨_, (false), (by first | rfl | (simp; done) | (simp [*]; done)), H', ⟨by have := HK1.out; have := HJ13.out; have := HJ24.out; have := HJ39.out; first | omega | exact Nat.le_refl _⟩, ⟨zr HO_4.out⟩, ⟨zr HO_7.out⟩, ⟨zr HO_8.out⟩, ⟨by (with_reducible repeat (first | refine blk_drewN ?_ _ | refine blk_drew ?_ | refine blk_alloc ?_ _)); exact BK673.out⟩, ⟨by (with_reducible repeat (first | refine blk_drewN ?_ _ | refine blk_drew ?_ | refine blk_alloc ?_ _)); exact BK674.out⟩, ⟨by repeat (first | (with_reducible first | exact HB.out | apply below_alloc | apply pw_below_drewN | apply below_drew1 | refine below_set ?_ GE673.out | refine below_set ?_ GE674.out) | exact HB.out)⟩⟩
               case rest =>
                clear HC62
                try clear c2
                try clear c2b0
                try clear c2b1
                try clear c5
                try clear c5b0
                try clear c5b1
                try clear c12
                try clear c12b0
                try clear c13
                try clear c13b0
                try clear c34
                try clear c46
                try clear hcz16_0
                try clear hcz16_1
                try clear hcz16_2
                try clear hcz19_0
                try clear hcz19_1
                try clear hfz16_0
                try clear hfz16_1
                try clear hfz16_2
                try clear hfz19_0
                try clear hfz19_1
                try clear hx672_0
                try clear hx672_1
                try clear hx672_2
                try clear p672
                try clear q672
                obtain ⟨kq, x79_61, rfl, HA, HJ61, HO_4, HO_7, HO_8, BK673, BK674, HB⟩ := hcut
                cases kq with
                | zero => exact absurd HA.out (by simp [spec_LeaseRun.j4])
                | succ kj61 =>
                 have H := HA.out
                 clear HA
                 simp only [spec_LeaseRun.j4] at H
                 by_cases c68 : x79_61 = true
                 ·subst c68
                  have H1 : (if 0 ≤ ((rd_T39 l0 x9_1).f1) then (if ((rd_T39 l0 x9_1).f1) < (x7_1.length : Int) then (if (rd x7_1 ((rd_T39 l0 x9_1).f1)) = 0 then (if x4_1.length < 8796093022208 then (spec_LeaseRun.l0 kj61 l0 (x4_1 ++ [(⟨10, 0⟩ : S37)]) x5_1 x6_1 x7_1 x8_1 (wrap64 (x9_1 + 1))) else (none)) else (if ((rd_T39 l0 x9_1).f1) < (x8_1.length : Int) then (if (rd x8_1 ((rd_T39 l0 x9_1).f1)) ≤ x5_1 then (if x4_1.length < 8796093022208 then (spec_LeaseRun.l0 kj61 l0 (x4_1 ++ [(⟨10, 0⟩ : S37)]) x5_1 x6_1 x7_1 x8_1 (wrap64 (x9_1 + 1))) else (none)) else (if x4_1.length < 8796093022208 then (spec_LeaseRun.l0 kj61 l0 (x4_1 ++ [(⟨0, rd x7_1 ((rd_T39 l0 x9_1).f1)⟩ : S37)]) x5_1 x6_1 x7_1 x8_1 (wrap64 (x9_1 + 1))) else (none))) else (none))) else (none)) else (none)) = some (r1, r2) := by rw [if_pos rfl] at H; exact H
                  clear H
                  have H := H1
                  clear H1
                  by_cases c69 : 0 ≤ ((rd_T39 l0 x9_1).f1)
                  ·rw [if_pos c69] at H
                   have c69b0 : decide (0 ≤ ((rd_T39 l0 x9_1).f1)) = true := decide_eq_true c69
                   clear c69
                   by_cases c70 : ((rd_T39 l0 x9_1).f1) < (x7_1.length : Int)
                   ·rw [if_pos c70] at H
                    have c70b0 : decide (((rd_T39 l0 x9_1).f1) < (x7_1.length : Int)) = true := decide_eq_true c70
                    clear c70
                    by_cases c71 : (rd x7_1 ((rd_T39 l0 x9_1).f1)) = 0
                    ·rw [if_pos c71] at H
                     have c71b0 : ((rd x7_1 ((rd_T39 l0 x9_1).f1)) == 0) = true := beq_iff_eq.mpr c71
                     have c71b1 : ((rd x7_1 ((rd_T39 l0 x9_1).f1)) != 0) = false := bne_eq_false_iff_eq.mpr c71
                     clear c71
                     by_cases c72 : x4_1.length < 8796093022208
                     ·rw [if_pos c72] at H
                      have LMc72 := Aside0.mk c72
                      clear c72
                      obtain ⟨y684, hy684⟩ : ∃ y_ : List (S37), y_ = (x4_1 ++ [(⟨10, 0⟩ : S37)]) := ⟨_, rfl⟩
                      replace H : (spec_LeaseRun.l0 kj61 l0 y684 x5_1 x6_1 x7_1 x8_1 (wrap64 (x9_1 + 1))) = some (r1, r2) := by first | (rw [hy684]; with_reducible exact H) | (have H2_ := (Option.bind_some _ _).symm.trans H; rw [hy684]; with_reducible exact H2_) | (have H2_ := (Option.bind_some _ _).symm.trans H; with_reducible exact H2_) | with_reducible exact H | (rw [hy684]; exact H) | exact H
                      have Ny684 := Aside0.mk hy684
                      clear hy684
                      have H' := Aside0.mk H
                      clear H
                      have hnb73 := NB673_674.out
                      have hnc73 := NB674_673.out
                      have hcz74_0 : wc.cell? ⟨gb673, 0, none⟩ = some (.int .i64 ((rd_T39 l0 x9_1).f0)) := (blk_cell BK673.out 0).trans rfl
                      have hcz74_1 : wc.cell? ⟨gb673, 1, none⟩ = some (.int .i64 ((rd_T39 l0 x9_1).f1)) := (blk_cell BK673.out 1).trans rfl
                      have hcz74_2 : wc.cell? ⟨gb673, 2, none⟩ = some (.int .i64 ((rd_T39 l0 x9_1).f2)) := (blk_cell BK673.out 2).trans rfl
                      have hfz74_0 := blk_frozen BK673.out 0
                      have hfz74_1 := blk_frozen BK673.out 1
                      have hfz74_2 := blk_frozen BK673.out 2
                      obtain ⟨Ao75, co75, eo75⟩ := Kd.R_slice HO_7.out
                      subst eo75
                      have p683 : 0 ≤ (((rd_T39 l0 x9_1).f1) : Int) := of_decide_eq_true (by first | (with_reducible assumption) | assumption)
                      have q683 : ((rd_T39 l0 x9_1).f1) < (x7_1.length : Int) := of_decide_eq_true (by first | (with_reducible assumption) | assumption)
                      obtain ⟨ad683, e683, hx683_0⟩ := Kd.at_int (Kd.R_reads' HO_7.out).2.2 ((rd_T39 l0 x9_1).f1) p683 q683
                      cases e683
                      replace p683 := eq_true p683
                      replace q683 := eq_true q683
                      have hcz76_0 : wc.cell? ⟨gb674, 0, none⟩ = some (.int .i64 0) := (blk_cell BK674.out 0).trans rfl
                      have hcz76_1 : wc.cell? ⟨gb674, 1, none⟩ = some (.int .i64 0) := (blk_cell BK674.out 1).trans rfl
                      have hfz76_0 := blk_frozen BK674.out 0
                      have hfz76_1 := blk_frozen BK674.out 1
                      as_aux_lemma =>
                      go_wp2_with (first | ((with_reducible refine gate_builtin (b := .append) (xs := #[.tmp 156, .tmp 158]) rfl ?_); at_builtin; refine Kd.R_append k37 (w0 := w) w.heap.size rfl (.tmp 156) (.tmp 158) 33 37 (.agg #[(.int .i64 0), (.int .i64 0)]) 16 rfl Try.underlying33 info37 rfl (by decide) (by omega) u4 x4_1 (⟨10, 0⟩ : S37) [.int .i64 10, .int .i64 0] (fun k_ => k_ ≠ gb674) (fun _ => False) rfl (by first | (go_simp; done) | (go_simp; rfl)) ?aP (fun _ hk => hk.elim) ?aF ?aO ?aB ?aS ?aL ?_; (case aP => exact k37_mkM _ _ _ (⟨10, 0⟩ : S37)); (case aB => exact (by repeat (first | (with_reducible first | exact HB.out | apply below_alloc | apply pw_below_drewN | apply below_drew1 | refine below_set ?_ GE673.out | refine below_set ?_ GE674.out) | exact HB.out))); (case aF => exact (fun k_ hk => Kd.freshB (g := gb674) (o := .cells #[.int .i64 10, .int .i64 0] 37 (0, 0)) (by (with_reducible repeat (first | refine blk_drewN ?_ _ | refine blk_drew ?_ | refine blk_alloc ?_ _)); refine blk_put (cs := #[.int .i64 0, .int .i64 0]) ?_ 0 _ rfl; (with_reducible repeat (first | refine blk_drewN ?_ _ | refine blk_drew ?_ | refine blk_alloc ?_ _)); exact BK674.out) k_ hk)); (case aO => exact (by (with_reducible repeat (first | apply Kd.R_alloc | apply Kd.R_drewN | apply Kd.R_drew)); exact Kd.R_mono (Kd.R_far (p := ⟨gb674, 0, none⟩) (Kd.R_mono HO_4.out (fun k_ hk => (⟨hk, hk⟩ : _ ∧ k_ ≠ gb674))) (fun _ hk => hk.2) (.int .i64 10)) (fun _ hk => hk.1))); (case aS => exact (below_size (by repeat (first | (with_reducible first | exact HB.out | apply below_alloc | apply pw_below_drewN | apply below_drew1 | refine below_set ?_ GE673.out | refine below_set ?_ GE674.out) | exact HB.out)))); (case aL => have := LMc72.out; omega); intro v685 w77 ho hb hg hat; rw [← Ny684.out] at ho; have n0_ := Aside0.mk (Kd.R_over' (by (with_reducible repeat (first | apply Kd.R_alloc | apply Kd.R_drewN | apply Kd.R_drew)); exact (Kd.R_mono (Kd.R_far (p := ⟨gb674, 0, none⟩) (Kd.R_types HO_7.out BK674.out (by decide)) (fun _ hk => hk.2) (.int .i64 10)) (fun _ h_ => h_.1))) (Kd.R_typed (by (with_reducible repeat (first | apply Kd.R_alloc | apply Kd.R_drewN | apply Kd.R_drew)); exact (Kd.R_mono (Kd.R_far (p := ⟨gb674, 0, none⟩) (Kd.R_mono HO_4.out (fun k_ hk => (⟨hk, hk⟩ : _ ∧ k_ ≠ gb674))) (fun _ hk => hk.2) (.int .i64 10)) (fun _ h_ => h_.1)))) (by decide) hg); have n1_ := Aside0.mk (Kd.R_over' (by (with_reducible repeat (first | apply Kd.R_alloc | apply Kd.R_drewN | apply Kd.R_drew)); exact (Kd.R_mono (Kd.R_far (p := ⟨gb674, 0, none⟩) (Kd.R_types HO_8.out BK674.out (by decide)) (fun _ hk => hk.2) (.int .i64 10)) (fun _ h_ => h_.1))) (Kd.R_typed (by (with_reducible repeat (first | apply Kd.R_alloc | apply Kd.R_drewN | apply Kd.R_drew)); exact (Kd.R_mono (Kd.R_far (p := ⟨gb674, 0, none⟩) (Kd.R_mono HO_4.out (fun k_ hk => (⟨hk, hk⟩ : _ ∧ k_ ≠ gb674))) (fun _ hk => hk.2) (.int .i64 10)) (fun _ h_ => h_.1)))) (by decide) hg); have n2_ := Aside0.mk (blk_grown (g := gb673) (o := .cells #[.int .i64 ((rd_T39 l0 x9_1).f0), .int .i64 ((rd_T39 l0 x9_1).f1), .int .i64 ((rd_T39 l0 x9_1).f2)] 39 (0, 0)) (by (with_reducible repeat (first | refine blk_drewN ?_ _ | refine blk_drew ?_ | refine blk_alloc ?_ _)); refine blk_far ?_ NB673_674.out _; (with_reducible repeat (first | refine blk_drewN ?_ _ | refine blk_drew ?_ | refine blk_alloc ?_ _)); exact BK673.out) hg (Kd.R_ne HO_4.out BK673.out (by decide))); have n3_ := Aside0.mk (blk_grown (g := gb674) (o := .cells #[.int .i64 10, .int .i64 0] 37 (0, 0)) (by (with_reducible repeat (first | refine blk_drewN ?_ _ | refine blk_drew ?_ | refine blk_alloc ?_ _)); refine blk_put (cs := #[.int .i64 0, .int .i64 0]) ?_ 0 _ rfl; (with_reducible repeat (first | refine blk_drewN ?_ _ | refine blk_drew ?_ | refine blk_alloc ?_ _)); exact BK674.out) hg (Kd.R_away HO_4.out (fun _ hk => hk))); have n4_ := Aside0.mk (hb); have n5_ := Aside0.mk (ho); clear HO_7; clear HO_8; clear BK673; clear BK674; clear HB; clear HO_4; have HO_7 := n0_; have HO_8 := n1_; have BK673 := n2_; have BK674 := n3_; have HB := n4_; have HO686 := n5_; clear n0_ n1_ n2_ n3_ n4_ n5_; clear ho hb hg hat))
                      go_roundg kj61
                      case measure => have := HK1.out; have := HJ13.out; have := HJ24.out; have := HJ39.out; have := HJ61.out; omega
                      case rel => exact ⟨(y684), (x5_1), (x6_1), (x7_1), (x8_1), (wrap64 (x9_1 + 1)), (by first | rfl | (simp; done) | (simp [*]; done)), (by first | rfl | (simp; done) | (simp [*]; done)), (by first | rfl | (simp; done) | (simp [*]; done)), H', ⟨by have := HK1.out; have := HJ13.out; have := HJ24.out; have := HJ39.out; have := HJ61.out; omega⟩, ⟨by (with_reducible repeat (first | apply Kd.R_alloc | apply Kd.R_drewN | apply Kd.R_drew)); exact Kd.R_mono HO686.out (fun _ hk => trivial)⟩, ⟨zr HO_7.out⟩, ⟨zr HO_8.out⟩, ⟨by repeat (first | (with_reducible first | exact HB.out | apply below_alloc | apply pw_below_drewN | apply below_drew1 | refine below_set ?_ GE673.out | refine below_set ?_ GE674.out) | exact HB.out)⟩⟩
                     ·rw [if_neg c72] at H
                      cases H
                    ·rw [if_neg c71] at H
                     have c71b0 : ((rd x7_1 ((rd_T39 l0 x9_1).f1)) == 0) = false := beq_eq_false_iff_ne.mpr c71
                     have c71b1 : ((rd x7_1 ((rd_T39 l0 x9_1).f1)) != 0) = true := bne_iff_ne.mpr c71
                     by_cases c78 : ((rd_T39 l0 x9_1).f1) < (x8_1.length : Int)
                     ·rw [if_pos c78] at H
                      have c78b0 : decide (((rd_T39 l0 x9_1).f1) < (x8_1.length : Int)) = true := decide_eq_true c78
                      clear c78
                      by_cases c79 : (rd x8_1 ((rd_T39 l0 x9_1).f1)) ≤ x5_1
                      ·rw [if_pos c79] at H
                       have c79b0 : decide ((rd x8_1 ((rd_T39 l0 x9_1).f1)) ≤ x5_1) = true := decide_eq_true c79
                       clear c79
                       by_cases c80 : x4_1.length < 8796093022208
                       ·rw [if_pos c80] at H
                        have LMc80 := Aside0.mk c80
                        clear c80
                        obtain ⟨y688, hy688⟩ : ∃ y_ : List (S37), y_ = (x4_1 ++ [(⟨10, 0⟩ : S37)]) := ⟨_, rfl⟩
                        replace H : (spec_LeaseRun.l0 kj61 l0 y688 x5_1 x6_1 x7_1 x8_1 (wrap64 (x9_1 + 1))) = some (r1, r2) := by first | (rw [hy688]; with_reducible exact H) | (have H2_ := (Option.bind_some _ _).symm.trans H; rw [hy688]; with_reducible exact H2_) | (have H2_ := (Option.bind_some _ _).symm.trans H; with_reducible exact H2_) | with_reducible exact H | (rw [hy688]; exact H) | exact H
                        have Ny688 := Aside0.mk hy688
                        clear hy688
                        have H' := Aside0.mk H
                        clear H
                        have hnb81 := NB673_674.out
                        have hnc81 := NB674_673.out
                        have hcz82_0 : wc.cell? ⟨gb673, 0, none⟩ = some (.int .i64 ((rd_T39 l0 x9_1).f0)) := (blk_cell BK673.out 0).trans rfl
                        have hcz82_1 : wc.cell? ⟨gb673, 1, none⟩ = some (.int .i64 ((rd_T39 l0 x9_1).f1)) := (blk_cell BK673.out 1).trans rfl
                        have hcz82_2 : wc.cell? ⟨gb673, 2, none⟩ = some (.int .i64 ((rd_T39 l0 x9_1).f2)) := (blk_cell BK673.out 2).trans rfl
                        have hfz82_0 := blk_frozen BK673.out 0
                        have hfz82_1 := blk_frozen BK673.out 1
                        have hfz82_2 := blk_frozen BK673.out 2
                        obtain ⟨Ao83, co83, eo83⟩ := Kd.R_slice HO_7.out
                        subst eo83
                        have p683 : 0 ≤ (((rd_T39 l0 x9_1).f1) : Int) := of_decide_eq_true (by first | (with_reducible assumption) | assumption)
                        have q683 : ((rd_T39 l0 x9_1).f1) < (x7_1.length : Int) := of_decide_eq_true (by first | (with_reducible assumption) | assumption)
                        obtain ⟨ad683, e683, hx683_0⟩ := Kd.at_int (Kd.R_reads' HO_7.out).2.2 ((rd_T39 l0 x9_1).f1) p683 q683
                        cases e683
                        replace p683 := eq_true p683
                        replace q683 := eq_true q683
                        obtain ⟨Ao84, co84, eo84⟩ := Kd.R_slice HO_8.out
                        subst eo84
                        have p687 : 0 ≤ (((rd_T39 l0 x9_1).f1) : Int) := of_decide_eq_true (by first | (with_reducible assumption) | assumption)
                        have q687 : ((rd_T39 l0 x9_1).f1) < (x8_1.length : Int) := of_decide_eq_true (by first | (with_reducible assumption) | assumption)
                        obtain ⟨ad687, e687, hx687_0⟩ := Kd.at_int (Kd.R_reads' HO_8.out).2.2 ((rd_T39 l0 x9_1).f1) p687 q687
                        cases e687
                        replace p687 := eq_true p687
                        replace q687 := eq_true q687
                        have hcz85_0 : wc.cell? ⟨gb674, 0, none⟩ = some (.int .i64 0) := (blk_cell BK674.out 0).trans rfl
                        have hcz85_1 : wc.cell? ⟨gb674, 1, none⟩ = some (.int .i64 0) := (blk_cell BK674.out 1).trans rfl
                        have hfz85_0 := blk_frozen BK674.out 0
                        have hfz85_1 := blk_frozen BK674.out 1
                        as_aux_lemma =>
                        go_wp2_with (first | ((with_reducible refine gate_builtin (b := .append) (xs := #[.tmp 156, .tmp 158]) rfl ?_); at_builtin; refine Kd.R_append k37 (w0 := w) w.heap.size rfl (.tmp 156) (.tmp 158) 33 37 (.agg #[(.int .i64 0), (.int .i64 0)]) 16 rfl Try.underlying33 info37 rfl (by decide) (by omega) u4 x4_1 (⟨10, 0⟩ : S37) [.int .i64 10, .int .i64 0] (fun k_ => k_ ≠ gb674) (fun _ => False) rfl (by first | (go_simp; done) | (go_simp; rfl)) ?aP (fun _ hk => hk.elim) ?aF ?aO ?aB ?aS ?aL ?_; (case aP => exact k37_mkM _ _ _ (⟨10, 0⟩ : S37)); (case aB => exact (by repeat (first | (with_reducible first | exact HB.out | apply below_alloc | apply pw_below_drewN | apply below_drew1 | refine below_set ?_ GE673.out | refine below_set ?_ GE674.out) | exact HB.out))); (case aF => exact (fun k_ hk => Kd.freshB (g := gb674) (o := .cells #[.int .i64 10, .int .i64 0] 37 (0, 0)) (by (with_reducible repeat (first | refine blk_drewN ?_ _ | refine blk_drew ?_ | refine blk_alloc ?_ _)); refine blk_put (cs := #[.int .i64 0, .int .i64 0]) ?_ 0 _ rfl; (with_reducible repeat (first | refine blk_drewN ?_ _ | refine blk_drew ?_ | refine blk_alloc ?_ _)); exact BK674.out) k_ hk)); (case aO => exact (by (with_reducible repeat (first | apply Kd.R_alloc | apply Kd.R_drewN | apply Kd.R_drew)); exact Kd.R_mono (Kd.R_far (p := ⟨gb674, 0, none⟩) (Kd.R_mono HO_4.out (fun k_ hk => (⟨hk, hk⟩ : _ ∧ k_ ≠ gb674))) (fun _ hk => hk.2) (.int .i64 10)) (fun _ hk => hk.1))); (case aS => exact (below_size (by repeat (first | (with_reducible first | exact HB.out | apply below_alloc | apply pw_below_drewN | apply below_drew1 | refine below_set ?_ GE673.out | refine below_set ?_ GE674.out) | exact HB.out)))); (case aL => have := LMc80.out; omega); intro v689 w86 ho hb hg hat; rw [← Ny688.out] at ho; have n0_ := Aside0.mk (Kd.R_over' (by (with_reducible repeat (first | apply Kd.R_alloc | apply Kd.R_drewN | apply Kd.R_drew)); exact (Kd.R_mono (Kd.R_far (p := ⟨gb674, 0, none⟩) (Kd.R_types HO_7.out BK674.out (by decide)) (fun _ hk => hk.2) (.int .i64 10)) (fun _ h_ => h_.1))) (Kd.R_typed (by (with_reducible repeat (first | apply Kd.R_alloc | apply Kd.R_drewN | apply Kd.R_drew)); exact (Kd.R_mono (Kd.R_far (p := ⟨gb674, 0, none⟩) (Kd.R_mono HO_4.out (fun k_ hk => (⟨hk, hk⟩ : _ ∧ k_ ≠ gb674))) (fun _ hk => hk.2) (.int .i64 10)) (fun _ h_ => h_.1)))) (by decide) hg); have n1_ := Aside0.mk (Kd.R_over' (by (with_reducible repeat (first | apply Kd.R_alloc | apply Kd.R_drewN | apply Kd.R_drew)); exact (Kd.R_mono (Kd.R_far (p := ⟨gb674, 0, none⟩) (Kd.R_types HO_8.out BK674.out (by decide)) (fun _ hk => hk.2) (.int .i64 10)) (fun _ h_ => h_.1))) (Kd.R_typed (by (with_reducible repeat (first | apply Kd.R_alloc | apply Kd.R_drewN | apply Kd.R_drew)); exact (Kd.R_mono (Kd.R_far (p := ⟨gb674, 0, none⟩) (Kd.R_mono HO_4.out (fun k_ hk => (⟨hk, hk⟩ : _ ∧ k_ ≠ gb674))) (fun _ hk => hk.2) (.int .i64 10)) (fun _ h_ => h_.1)))) (by decide) hg); have n2_ := Aside0.mk (blk_grown (g := gb673) (o := .cells #[.int .i64 ((rd_T39 l0 x9_1).f0), .int .i64 ((rd_T39 l0 x9_1).f1), .int .i64 ((rd_T39 l0 x9_1).f2)] 39 (0, 0)) (by (with_reducible repeat (first | refine blk_drewN ?_ _ | refine blk_drew ?_ | refine blk_alloc ?_ _)); refine blk_far ?_ NB673_674.out _; (with_reducible repeat (first | refine blk_drewN ?_ _ | refine blk_drew ?_ | refine blk_alloc ?_ _)); exact BK673.out) hg (Kd.R_ne HO_4.out BK673.out (by decide))); have n3_ := Aside0.mk (blk_grown (g := gb674) (o := .cells #[.int .i64 10, .int .i64 0] 37 (0, 0)) (by (with_reducible repeat (first | refine blk_drewN ?_ _ | refine blk_drew ?_ | refine blk_alloc ?_ _)); refine blk_put (cs := #[.int .i64 0, .int .i64 0]) ?_ 0 _ rfl; (with_reducible repeat (first | refine blk_drewN ?_ _ | refine blk_drew ?_ | refine blk_alloc ?_ _)); exact BK674.out) hg (Kd.R_away HO_4.out (fun _ hk => hk))); have n4_ := Aside0.mk (hb); have n5_ := Aside0.mk (ho); clear HO_7; clear HO_8; clear BK673; clear BK674; clear HB; clear HO_4; have HO_7 := n0_; have HO_8 := n1_; have BK673 := n2_; have BK674 := n3_; have HB := n4_; have HO690 := n5_; clear n0_ n1_ n2_ n3_ n4_ n5_; clear ho hb hg hat))
                        go_roundg kj61
                        case measure => have := HK1.out; have := HJ13.out; have := HJ24.out; have := HJ39.out; have := HJ61.out; omega
                        case rel => exact ⟨(y688), (x5_1), (x6_1), (x7_1), (x8_1), (wrap64 (x9_1 + 1)), (by first | rfl | (simp; done) | (simp [*]; done)), (by first | rfl | (simp; done) | (simp [*]; done)), (by first | rfl | (simp; done) | (simp [*]; done)), H', ⟨by have := HK1.out; have := HJ13.out; have := HJ24.out; have := HJ39.out; have := HJ61.out; omega⟩, ⟨by (with_reducible repeat (first | apply Kd.R_alloc | apply Kd.R_drewN | apply Kd.R_drew)); exact Kd.R_mono HO690.out (fun _ hk => trivial)⟩, ⟨zr HO_7.out⟩, ⟨zr HO_8.out⟩, ⟨by repeat (first | (with_reducible first | exact HB.out | apply below_alloc | apply pw_below_drewN | apply below_drew1 | refine below_set ?_ GE673.out | refine below_set ?_ GE674.out) | exact HB.out)⟩⟩
                       ·rw [if_neg c80] at H
                        cases H
                      ·rw [if_neg c79] at H
                       have c79b0 : decide ((rd x8_1 ((rd_T39 l0 x9_1).f1)) ≤ x5_1) = false := decide_eq_false c79
                       clear c79
                       by_cases c87 : x4_1.length < 8796093022208
                       ·rw [if_pos c87] at H
                        have LMc87 := Aside0.mk c87
                        clear c87
                        obtain ⟨y692, hy692⟩ : ∃ y_ : List (S37), y_ = (x4_1 ++ [(⟨0, rd x7_1 ((rd_T39 l0 x9_1).f1)⟩ : S37)]) := ⟨_, rfl⟩
                        replace H : (spec_LeaseRun.l0 kj61 l0 y692 x5_1 x6_1 x7_1 x8_1 (wrap64 (x9_1 + 1))) = some (r1, r2) := by first | (rw [hy692]; with_reducible exact H) | (have H2_ := (Option.bind_some _ _).symm.trans H; rw [hy692]; with_reducible exact H2_) | (have H2_ := (Option.bind_some _ _).symm.trans H; with_reducible exact H2_) | with_reducible exact H | (rw [hy692]; exact H) | exact H
                        have Ny692 := Aside0.mk hy692
                        clear hy692
                        have H' := Aside0.mk H
                        clear H
                        have hnb88 := NB673_674.out
                        have hnc88 := NB674_673.out
                        have hcz89_0 : wc.cell? ⟨gb673, 0, none⟩ = some (.int .i64 ((rd_T39 l0 x9_1).f0)) := (blk_cell BK673.out 0).trans rfl
                        have hcz89_1 : wc.cell? ⟨gb673, 1, none⟩ = some (.int .i64 ((rd_T39 l0 x9_1).f1)) := (blk_cell BK673.out 1).trans rfl
                        have hcz89_2 : wc.cell? ⟨gb673, 2, none⟩ = some (.int .i64 ((rd_T39 l0 x9_1).f2)) := (blk_cell BK673.out 2).trans rfl
                        have hfz89_0 := blk_frozen BK673.out 0
                        have hfz89_1 := blk_frozen BK673.out 1
                        have hfz89_2 := blk_frozen BK673.out 2
                        obtain ⟨Ao90, co90, eo90⟩ := Kd.R_slice HO_7.out
                        subst eo90
                        have p683 : 0 ≤ (((rd_T39 l0 x9_1).f1) : Int) := of_decide_eq_true (by first | (with_reducible assumption) | assumption)
                        have q683 : ((rd_T39 l0 x9_1).f1) < (x7_1.length : Int) := of_decide_eq_true (by first | (with_reducible assumption) | assumption)
                        obtain ⟨ad683, e683, hx683_0⟩ := Kd.at_int (Kd.R_reads' HO_7.out).2.2 ((rd_T39 l0 x9_1).f1) p683 q683
                        cases e683
                        replace p683 := eq_true p683
                        replace q683 := eq_true q683
                        obtain ⟨Ao91, co91, eo91⟩ := Kd.R_slice HO_8.out
                        subst eo91
                        have p687 : 0 ≤ (((rd_T39 l0 x9_1).f1) : Int) := of_decide_eq_true (by first | (with_reducible assumption) | assumption)
                        have q687 : ((rd_T39 l0 x9_1).f1) < (x8_1.length : Int) := of_decide_eq_true (by first | (with_reducible assumption) | assumption)
                        obtain ⟨ad687, e687, hx687_0⟩ := Kd.at_int (Kd.R_reads' HO_8.out).2.2 ((rd_T39 l0 x9_1).f1) p687 q687
                        cases e687
                        replace p687 := eq_true p687
                        replace q687 := eq_true q687
                        have p691 : 0 ≤ (((rd_T39 l0 x9_1).f1) : Int) := of_decide_eq_true (by first | (with_reducible assumption) | assumption)
                        have q691 : ((rd_T39 l0 x9_1).f1) < (x7_1.length : Int) := of_decide_eq_true (by first | (with_reducible assumption) | assumption)
                        obtain ⟨ad691, e691, hx691_0⟩ := Kd.at_int (Kd.R_reads' HO_7.out).2.2 ((rd_T39 l0 x9_1).f1) p691 q691
                        obtain rfl : ad683 = ad691 := (by injection e691)
                        replace p691 := eq_true p691
                        replace q691 := eq_true q691
                        have hcz92_0 : wc.cell? ⟨gb674, 0, none⟩ = some (.int .i64 0) := (blk_cell BK674.out 0).trans rfl
                        have hcz92_1 : wc.cell? ⟨gb674, 1, none⟩ = some (.int .i64 0) := (blk_cell BK674.out 1).trans rfl
                        have hfz92_0 := blk_frozen BK674.out 0
                        have hfz92_1 := blk_frozen BK674.out 1
                        as_aux_lemma =>
                        go_wp2_with (first | ((with_reducible refine gate_builtin (b := .append) (xs := #[.tmp 156, .tmp 158]) rfl ?_); at_builtin; refine Kd.R_append k37 (w0 := w) w.heap.size rfl (.tmp 156) (.tmp 158) 33 37 (.agg #[(.int .i64 0), (.int .i64 0)]) 16 rfl Try.underlying33 info37 rfl (by decide) (by omega) u4 x4_1 (⟨0, rd x7_1 ((rd_T39 l0 x9_1).f1)⟩ : S37) [.int .i64 0, .int .i64 (rd x7_1 ((rd_T39 l0 x9_1).f1))] (fun k_ => k_ ≠ gb674) (fun _ => False) rfl (by first | (go_simp; done) | (go_simp; rfl)) ?aP (fun _ hk => hk.elim) ?aF ?aO ?aB ?aS ?aL ?_; (case aP => exact k37_mkM _ _ _ (⟨0, rd x7_1 ((rd_T39 l0 x9_1).f1)⟩ : S37)); (case aB => exact (by repeat (first | (with_reducible first | exact HB.out | apply below_alloc | apply pw_below_drewN | apply below_drew1 | refine below_set ?_ GE673.out | refine below_set ?_ GE674.out) | exact HB.out))); (case aF => exact (fun k_ hk => Kd.freshB (g := gb674) (o := .cells #[.int .i64 0, .int .i64 (rd x7_1 ((rd_T39 l0 x9_1).f1))] 37 (0, 0)) (by (with_reducible repeat (first | refine blk_drewN ?_ _ | refine blk_drew ?_ | refine blk_alloc ?_ _)); refine blk_put (cs := #[.int .i64 0, .int .i64 0]) ?_ 1 _ rfl; (with_reducible repeat (first | refine blk_drewN ?_ _ | refine blk_drew ?_ | refine blk_alloc ?_ _)); exact BK674.out) k_ hk)); (case aO => exact (by (with_reducible repeat (first | apply Kd.R_alloc | apply Kd.R_drewN | apply Kd.R_drew)); exact Kd.R_mono (Kd.R_far (p := ⟨gb674, 1, none⟩) (Kd.R_mono HO_4.out (fun k_ hk => (⟨hk, hk⟩ : _ ∧ k_ ≠ gb674))) (fun _ hk => hk.2) (.int .i64 (rd x7_1 ((rd_T39 l0 x9_1).f1)))) (fun _ hk => hk.1))); (case aS => exact (below_size (by repeat (first | (with_reducible first | exact HB.out | apply below_alloc | apply pw_below_drewN | apply below_drew1 | refine below_set ?_ GE673.out | refine below_set ?_ GE674.out) | exact HB.out)))); (case aL => have := LMc87.out; omega); intro v693 w93 ho hb hg hat; rw [← Ny692.out] at ho; have n0_ := Aside0.mk (Kd.R_over' (by (with_reducible repeat (first | apply Kd.R_alloc | apply Kd.R_drewN | apply Kd.R_drew)); exact (Kd.R_mono (Kd.R_far (p := ⟨gb674, 1, none⟩) (Kd.R_types HO_7.out BK674.out (by decide)) (fun _ hk => hk.2) (.int .i64 (rd x7_1 ((rd_T39 l0 x9_1).f1)))) (fun _ h_ => h_.1))) (Kd.R_typed (by (with_reducible repeat (first | apply Kd.R_alloc | apply Kd.R_drewN | apply Kd.R_drew)); exact (Kd.R_mono (Kd.R_far (p := ⟨gb674, 1, none⟩) (Kd.R_mono HO_4.out (fun k_ hk => (⟨hk, hk⟩ : _ ∧ k_ ≠ gb674))) (fun _ hk => hk.2) (.int .i64 (rd x7_1 ((rd_T39 l0 x9_1).f1)))) (fun _ h_ => h_.1)))) (by decide) hg); have n1_ := Aside0.mk (Kd.R_over' (by (with_reducible repeat (first | apply Kd.R_alloc | apply Kd.R_drewN | apply Kd.R_drew)); exact (Kd.R_mono (Kd.R_far (p := ⟨gb674, 1, none⟩) (Kd.R_types HO_8.out BK674.out (by decide)) (fun _ hk => hk.2) (.int .i64 (rd x7_1 ((rd_T39 l0 x9_1).f1)))) (fun _ h_ => h_.1))) (Kd.R_typed (by (with_reducible repeat (first | apply Kd.R_alloc | apply Kd.R_drewN | apply Kd.R_drew)); exact (Kd.R_mono (Kd.R_far (p := ⟨gb674, 1, none⟩) (Kd.R_mono HO_4.out (fun k_ hk => (⟨hk, hk⟩ : _ ∧ k_ ≠ gb674))) (fun _ hk => hk.2) (.int .i64 (rd x7_1 ((rd_T39 l0 x9_1).f1)))) (fun _ h_ => h_.1)))) (by decide) hg); have n2_ := Aside0.mk (blk_grown (g := gb673) (o := .cells #[.int .i64 ((rd_T39 l0 x9_1).f0), .int .i64 ((rd_T39 l0 x9_1).f1), .int .i64 ((rd_T39 l0 x9_1).f2)] 39 (0, 0)) (by (with_reducible repeat (first | refine blk_drewN ?_ _ | refine blk_drew ?_ | refine blk_alloc ?_ _)); refine blk_far ?_ NB673_674.out _; (with_reducible repeat (first | refine blk_drewN ?_ _ | refine blk_drew ?_ | refine blk_alloc ?_ _)); exact BK673.out) hg (Kd.R_ne HO_4.out BK673.out (by decide))); have n3_ := Aside0.mk (blk_grown (g := gb674) (o := .cells #[.int .i64 0, .int .i64 (rd x7_1 ((rd_T39 l0 x9_1).f1))] 37 (0, 0)) (by (with_reducible repeat (first | refine blk_drewN ?_ _ | refine blk_drew ?_ | refine blk_alloc ?_ _)); refine blk_put (cs := #[.int .i64 0, .int .i64 0]) ?_ 1 _ rfl; (with_reducible repeat (first | refine blk_drewN ?_ _ | refine blk_drew ?_ | refine blk_alloc ?_ _)); exact BK674.out) hg (Kd.R_away HO_4.out (fun _ hk => hk))); have n4_ := Aside0.mk (hb); have n5_ := Aside0.mk (ho); clear HO_7; clear HO_8; clear BK673; clear BK674; clear HB; clear HO_4; have HO_7 := n0_; have HO_8 := n1_; have BK673 := n2_; have BK674 := n3_; have HB := n4_; have HO694 := n5_; clear n0_ n1_ n2_ n3_ n4_ n5_; clear ho hb hg hat))
                        go_roundg kj61
                        case measure => have := HK1.out; have := HJ13.out; have := HJ24.out; have := HJ39.out; have := HJ61.out; omega
                        case rel => exact ⟨(y692), (x5_1), (x6_1), (x7_1), (x8_1), (wrap64 (x9_1 + 1)), (by first | rfl | (simp; done) | (simp [*]; done)), (by first | rfl | (simp; done) | (simp [*]; done)), (by first | rfl | (simp; done) | (simp [*]; done)), H', ⟨by have := HK1.out; have := HJ13.out; have := HJ24.out; have := HJ39.out; have := HJ61.out; omega⟩, ⟨by (with_reducible repeat (first | apply Kd.R_alloc | apply Kd.R_drewN | apply Kd.R_drew)); exact Kd.R_mono HO694.out (fun _ hk => trivial)⟩, ⟨zr HO_7.out⟩, ⟨zr HO_8.out⟩, ⟨by repeat (first | (with_reducible first | exact HB.out | apply below_alloc | apply pw_below_drewN | apply below_drew1 | refine below_set ?_ GE673.out | refine below_set ?_ GE674.out) | exact HB.out)⟩⟩
                       ·rw [if_neg c87] at H
                        cases H
                     ·rw [if_neg c78] at H
                      cases H
                   ·rw [if_neg c70] at H
                    cases H
                  ·rw [if_neg c69] at H
                   cases H
                 ·replace c68 := Bool.eq_false_iff.mpr c68
                  subst c68
                  have H1 : (if ((rd_T39 l0 x9_1).f0) = 4 then (spec_LeaseRun.j5 kj61 l0 x4_1 x5_1 x6_1 x7_1 x8_1 x9_1 x12_13 ((rd_T39 l0 x9_1).f0) ((rd_T39 l0 x9_1).f1) ((rd_T39 l0 x9_1).f2) 0 0) else (spec_LeaseRun.j5 kj61 l0 x4_1 x5_1 x6_1 x7_1 x8_1 x9_1 false ((rd_T39 l0 x9_1).f0) ((rd_T39 l0 x9_1).f1) ((rd_T39 l0 x9_1).f2) 0 0)) = some (r1, r2) := by rw [if_neg (show ¬ (false = true) by decide)] at H; exact H
                  clear H
                  have H := H1
                  clear H1
                  have HC94 := Aside0.mk H
                  clear H
                  as_aux_lemma =>
                  go_upto_region 25 with (fail)
                  go_cut [108] (fun v108 wc => ∃ (kq : Nat) (x108_93 : Bool), v108 = .bool x108_93 ∧ Aside0 (spec_LeaseRun.j5 kq l0 x4_1 x5_1 x6_1 x7_1 x8_1 x9_1 x108_93 ((rd_T39 l0 x9_1).f0) ((rd_T39 l0 x9_1).f1) ((rd_T39 l0 x9_1).f2) 0 0 = some (r1, r2)) ∧ Aside0 (kq ≤ kj61) ∧ Aside0 (Kd.R k37 37 wc w.heap.size (fun k_ => k_ ≠ gb674) u4 x4_1) ∧ Aside0 (Kd.R (Kd.int .i64) 3 wc w.heap.size (fun k_ => some k_ ≠ (v670 : Value).ownBlock) v667 x7_1) ∧ Aside0 (Kd.R (Kd.int .i64) 3 wc w.heap.size (fun k_ => some k_ ≠ (v667 : Value).ownBlock) v670 x8_1) ∧ Aside0 (wc.heap[gb673]? = some (.cells #[.int .i64 ((rd_T39 l0 x9_1).f0), .int .i64 ((rd_T39 l0 x9_1).f1), .int .i64 ((rd_T39 l0 x9_1).f2)] 39 (0, 0))) ∧ Aside0 (wc.heap[gb674]? = some (.cells #[.int .i64 0, .int .i64 0] 37 (0, 0))) ∧ Aside0 (Below w.heap.size w wc))
                  case first =>
                   have H := HC94.out
                   clear HC94
                   by_cases c95 : ((rd_T39 l0 x9_1).f0) = 4
                   ·rw [if_pos c95] at H
                    have c95b0 : (((rd_T39 l0 x9_1).f0) == 4) = true := beq_iff_eq.mpr c95
                    have c95b1 : (((rd_T39 l0 x9_1).f0) != 4) = false := bne_eq_false_iff_eq.mpr c95
                    clear c95
                    (first | rw [c95b0] | (simp only [i64_w, i32_w]; rw [c95b0]) | skip)
                    have H' := Aside0.mk H
                    clear H
                    have hnb96 := NB673_674.out
                    have hnc96 := NB674_673.out
                    have hcz97_0 : wc.cell? ⟨gb673, 0, none⟩ = some (.int .i64 ((rd_T39 l0 x9_1).f0)) := (blk_cell BK673.out 0).trans rfl
                    have hcz97_1 : wc.cell? ⟨gb673, 1, none⟩ = some (.int .i64 ((rd_T39 l0 x9_1).f1)) := (blk_cell BK673.out 1).trans rfl
                    have hcz97_2 : wc.cell? ⟨gb673, 2, none⟩ = some (.int .i64 ((rd_T39 l0 x9_1).f2)) := (blk_cell BK673.out 2).trans rfl
                    have hfz97_0 := blk_frozen BK673.out 0
                    have hfz97_1 := blk_frozen BK673.out 1
                    have hfz97_2 := blk_frozen BK673.out 2
                    as_aux_lemma =>
                    go_wp2
                    go_meet
                    case rel => exact ⟨_, (x12_13), (by first | rfl | (simp; done) | (simp [*]; done)), H', ⟨by have := HK1.out; have := HJ13.out; have := HJ24.out; have := HJ39.out; have := HJ61.out; first | omega | exact Nat.le_refl _⟩, ⟨zr HO_4.out⟩, ⟨zr HO_7.out⟩, ⟨zr HO_8.out⟩, ⟨by (with_reducible repeat (first | refine blk_drewN ?_ _ | refine blk_drew ?_ | refine blk_alloc ?_ _)); exact BK673.out⟩, ⟨by (with_reducible repeat (first | refine blk_drewN ?_ _ | refine blk_drew ?_ | refine blk_alloc ?_ _)); exact BK674.out⟩, ⟨by repeat (first | (with_reducible first | exact HB.out | apply below_alloc | apply pw_below_drewN | apply below_drew1 | refine below_set ?_ GE673.out | refine below_set ?_ GE674.out) | exact HB.out)⟩⟩
                   ·rw [if_neg c95] at H
                    have c95b0 : (((rd_T39 l0 x9_1).f0) == 4) = false := beq_eq_false_iff_ne.mpr c95
                    have c95b1 : (((rd_T39 l0 x9_1).f0) != 4) = true := bne_iff_ne.mpr c95
                    (first | rw [c95b0] | (simp only [i64_w, i32_w]; rw [c95b0]) | skip)
                    have H' := Aside0.mk H
                    clear H
                    have hnb98 := NB673_674.out
                    have hnc98 := NB674_673.out
                    have hcz99_0 : wc.cell? ⟨gb673, 0, none⟩ = some (.int .i64 ((rd_T39 l0 x9_1).f0)) := (blk_cell BK673.out 0).trans rfl
                    have hcz99_1 : wc.cell? ⟨gb673, 1, none⟩ = some (.int .i64 ((rd_T39 l0 x9_1).f1)) := (blk_cell BK673.out 1).trans rfl
                    have hcz99_2 : wc.cell? ⟨gb673, 2, none⟩ = some (.int .i64 ((rd_T39 l0 x9_1).f2)) := (blk_cell BK673.out 2).trans rfl
                    have hfz99_0 := blk_frozen BK673.out 0
                    have hfz99_1 := blk_frozen BK673.out 1
                    have hfz99_2 := blk_frozen BK673.out 2
                    as_aux_lemma =>
                    go_wp2
                    go_meet
                    case rel => exact ⟨_, (false), (by first | rfl | (simp; done) | (simp [*]; done)), H', ⟨by have := HK1.out; have := HJ13.out; have := HJ24.out; have := HJ39.out; have := HJ61.out; first | omega | exact Nat.le_refl _⟩, ⟨zr HO_4.out⟩, ⟨zr HO_7.out⟩, ⟨zr HO_8.out⟩, ⟨by (with_reducible repeat (first | refine blk_drewN ?_ _ | refine blk_drew ?_ | refine blk_alloc ?_ _)); exact BK673.out⟩, ⟨by (with_reducible repeat (first | refine blk_drewN ?_ _ | refine blk_drew ?_ | refine blk_alloc ?_ _)); exact BK674.out⟩, ⟨by repeat (first | (with_reducible first | exact HB.out | apply below_alloc | apply pw_below_drewN | apply below_drew1 | refine below_set ?_ GE673.out | refine below_set ?_ GE674.out) | exact HB.out)⟩⟩
                  case rest =>
                   clear HC94
                   try clear c2
                   try clear c2b0
                   try clear c2b1
                   try clear c5
                   try clear c5b0
                   try clear c5b1
                   try clear c12
                   try clear c12b0
                   try clear c13
                   try clear c13b0
                   try clear c34
                   try clear c46
                   try clear c68
                   try clear hcz16_0
                   try clear hcz16_1
                   try clear hcz16_2
                   try clear hcz19_0
                   try clear hcz19_1
                   try clear hfz16_0
                   try clear hfz16_1
                   try clear hfz16_2
                   try clear hfz19_0
                   try clear hfz19_1
                   try clear hx672_0
                   try clear hx672_1
                   try clear hx672_2
                   try clear p672
                   try clear q672
                   obtain ⟨kq, x108_93, rfl, HA, HJ93, HO_4, HO_7, HO_8, BK673, BK674, HB⟩ := hcut
                   cases kq with
                   | zero => exact absurd HA.out (by simp [spec_LeaseRun.j5])
                   | succ kj93 =>
                    have H := HA.out
                    clear HA
                    simp only [spec_LeaseRun.j5] at H
                    by_cases c100 : x108_93 = true
                    ·subst c100
                     have H1 : (if 0 ≤ ((rd_T39 l0 x9_1).f1) then (if ((rd_T39 l0 x9_1).f1) < (x7_1.length : Int) then (if x4_1.length < 8796093022208 then (spec_LeaseRun.l0 kj93 l0 (x4_1 ++ [(⟨0, 0⟩ : S37)]) x5_1 x6_1 (x7_1.set (((rd_T39 l0 x9_1).f1) : Int).toNat 0) x8_1 (wrap64 (x9_1 + 1))) else (none)) else (none)) else (none)) = some (r1, r2) := by rw [if_pos rfl] at H; exact H
                     clear H
                     have H := H1
                     clear H1
                     by_cases c101 : 0 ≤ ((rd_T39 l0 x9_1).f1)
                     ·rw [if_pos c101] at H
                      have c101b0 : decide (0 ≤ ((rd_T39 l0 x9_1).f1)) = true := decide_eq_true c101
                      clear c101
                      by_cases c102 : ((rd_T39 l0 x9_1).f1) < (x7_1.length : Int)
                      ·rw [if_pos c102] at H
                       have c102b0 : decide (((rd_T39 l0 x9_1).f1) < (x7_1.length : Int)) = true := decide_eq_true c102
                       clear c102
                       obtain ⟨y695, hy695⟩ : ∃ y_ : List Int, y_ = (x7_1.set (((rd_T39 l0 x9_1).f1) : Int).toNat 0) := ⟨_, rfl⟩
                       replace H : (if x4_1.length < 8796093022208 then (spec_LeaseRun.l0 kj93 l0 (x4_1 ++ [(⟨0, 0⟩ : S37)]) x5_1 x6_1 y695 x8_1 (wrap64 (x9_1 + 1))) else (none)) = some (r1, r2) := by first | (rw [hy695]; with_reducible exact H) | (have H2_ := (Option.bind_some _ _).symm.trans H; rw [hy695]; with_reducible exact H2_) | (have H2_ := (Option.bind_some _ _).symm.trans H; with_reducible exact H2_) | with_reducible exact H | (rw [hy695]; exact H) | exact H
                       have Ny695 := Aside0.mk hy695
                       clear hy695
                       by_cases c104 : x4_1.length < 8796093022208
                       ·rw [if_pos c104] at H
                        have LMc104 := Aside0.mk c104
                        clear c104
                        obtain ⟨y696, hy696⟩ : ∃ y_ : List (S37), y_ = (x4_1 ++ [(⟨0, 0⟩ : S37)]) := ⟨_, rfl⟩
                        replace H : (spec_LeaseRun.l0 kj93 l0 y696 x5_1 x6_1 y695 x8_1 (wrap64 (x9_1 + 1))) = some (r1, r2) := by first | (rw [hy696]; with_reducible exact H) | (have H2_ := (Option.bind_some _ _).symm.trans H; rw [hy696]; with_reducible exact H2_) | (have H2_ := (Option.bind_some _ _).symm.trans H; with_reducible exact H2_) | with_reducible exact H | (rw [hy696]; exact H) | exact H
                        have Ny696 := Aside0.mk hy696
                        clear hy696
                        have H' := Aside0.mk H
                        clear H
                        have hnb105 := NB673_674.out
                        have hnc105 := NB674_673.out
                        have hcz106_0 : wc.cell? ⟨gb673, 0, none⟩ = some (.int .i64 ((rd_T39 l0 x9_1).f0)) := (blk_cell BK673.out 0).trans rfl
                        have hcz106_1 : wc.cell? ⟨gb673, 1, none⟩ = some (.int .i64 ((rd_T39 l0 x9_1).f1)) := (blk_cell BK673.out 1).trans rfl
                        have hcz106_2 : wc.cell? ⟨gb673, 2, none⟩ = some (.int .i64 ((rd_T39 l0 x9_1).f2)) := (blk_cell BK673.out 2).trans rfl
                        have hfz106_0 := blk_frozen BK673.out 0
                        have hfz106_1 := blk_frozen BK673.out 1
                        have hfz106_2 := blk_frozen BK673.out 2
                        have p103 : 0 ≤ (((rd_T39 l0 x9_1).f1) : Int) := of_decide_eq_true (by first | (with_reducible assumption) | assumption)
                        have q103 : (((rd_T39 l0 x9_1).f1) : Int) < ((x7_1.length : Int) : Int) := of_decide_eq_true (by first | (with_reducible assumption) | assumption)
                        obtain ⟨go103, co103, eo103, gb103, gl103, cl103, HG103⟩ := Kd.R_form HO_7.out (by omega)
                        (first | cases eo103 | (injection eo103 with ea_ en_ ec_; (first | subst ea_ | (injection ea_ with ea_; subst ea_)); subst ec_; clear en_))
                        have GB103 := Aside0.mk gb103
                        have GG103 := Aside0.mk HG103
                        clear gb103 gl103 HG103
                        obtain ⟨hx103_0, hf103_0⟩ := Kd.R_celln 0 HO_7.out (((rd_T39 l0 x9_1).f1) : Int) p103 q103
                        replace p103 := eq_true p103
                        replace q103 := eq_true q103
                        have HP107 := Kd.R_putg HO_7.out (((rd_T39 l0 x9_1).f1) : Int) 0
                        as_aux_lemma =>
                        go_wp2_with (first | ((with_reducible refine gate_store (t := 3) (p := 118) rfl ?_); refine store_event (t := 3) (p := 118) (v := ?vo_w108) (w1 := (wc.setCell ⟨go103, (((rd_T39 l0 x9_1).f1) : Int).toNat, none⟩ (.int .i64 0))) ?hg ?ho ?hn ?hr ?_; (case ho => rfl); (case hg => rfl); (case hn => rfl); (case hr => first | (go_simp; done) | (go_simp; rfl)); intro w108 hw; have hg : wc.grownBy w108 (some go103) := (by rw [hw]; exact HP107.2); have hp_ : Kd.R (Kd.int .i64) 3 w108 w.heap.size (fun k_ => some k_ ≠ (v670 : Value).ownBlock) (.slice (some ⟨go103, 0, none⟩) x7_1.length co103) y695 := (by rw [hw, Ny695.out]; exact HP107.1); clear HP107; have n0_ := Aside0.mk (Kd.R_over' (v := (.slice (some ⟨go103, 0, none⟩) x7_1.length co103)) (zr HO_4.out) (Kd.R_typed HO_7.out) (by decide) hg); have n1_ := Aside0.mk (hp_); have n2_ := Aside0.mk (Kd.R_after (v := (.slice (some ⟨go103, 0, none⟩) x7_1.length co103)) (v1 := (.slice (some ⟨go103, 0, none⟩) x7_1.length co103)) (ok := (fun _ => True)) (by (with_reducible repeat (first | apply Kd.R_alloc | apply Kd.R_drewN | apply Kd.R_drew)); exact Kd.R_mono HO_8.out (fun _ hk => ⟨trivial, hk⟩)) hg (.inl rfl)); have n3_ := Aside0.mk (blk_grown (g := gb673) (o := .cells #[.int .i64 ((rd_T39 l0 x9_1).f0), .int .i64 ((rd_T39 l0 x9_1).f1), .int .i64 ((rd_T39 l0 x9_1).f2)] 39 (0, 0)) (zk BK673.out) hg (Kd.R_ne HO_7.out BK673.out (by decide))); have n4_ := Aside0.mk (blk_grown (g := gb674) (o := .cells #[.int .i64 0, .int .i64 0] 37 (0, 0)) (zk BK674.out) hg (Kd.R_ne HO_7.out BK674.out (by decide))); have n5_ := Aside0.mk ((by rw [hw]; exact below_set (HB.out) GB103.out : Below w.heap.size w w108)); clear HO_4; clear HO_7; clear HO_8; clear BK673; clear BK674; clear HB; have HO_4 := n0_; have HO_7 := n1_; have HO_8 := n2_; have BK673 := n3_; have BK674 := n4_; have HB := n5_; clear n0_ n1_ n2_ n3_ n4_ n5_; clear hg hw hp_; have hcz109_0 : w108.cell? ⟨gb674, 0, none⟩ = some (.int .i64 0) := (blk_cell BK674.out 0).trans rfl; have hcz109_1 : w108.cell? ⟨gb674, 1, none⟩ = some (.int .i64 0) := (blk_cell BK674.out 1).trans rfl; have hfz109_0 := blk_frozen BK674.out 0; have hfz109_1 := blk_frozen BK674.out 1) | ((with_reducible refine gate_builtin (b := .append) (xs := #[.tmp 156, .tmp 158]) rfl ?_); at_builtin; refine Kd.R_append k37 (w0 := w) w.heap.size rfl (.tmp 156) (.tmp 158) 33 37 (.agg #[(.int .i64 0), (.int .i64 0)]) 16 rfl Try.underlying33 info37 rfl (by decide) (by omega) u4 x4_1 (⟨0, 0⟩ : S37) [.int .i64 0, .int .i64 0] (fun k_ => k_ ≠ gb674) (fun _ => False) rfl rfl ?aP (fun _ hk => hk.elim) ?aF ?aO ?aB ?aS ?aL ?_; (case aP => exact k37_mkM _ _ _ (⟨0, 0⟩ : S37)); (case aB => exact (by repeat (first | (with_reducible first | exact HB.out | apply below_alloc | apply pw_below_drewN | apply below_drew1 | refine below_set ?_ GE673.out | refine below_set ?_ GE674.out) | exact HB.out))); (case aF => exact (fun k_ hk => Kd.freshB (g := gb674) (o := .cells #[.int .i64 0, .int .i64 0] 37 (0, 0)) (zk BK674.out) k_ hk)); (case aO => exact (zr HO_4.out)); (case aS => exact (below_size (by repeat (first | (with_reducible first | exact HB.out | apply below_alloc | apply pw_below_drewN | apply below_drew1 | refine below_set ?_ GE673.out | refine below_set ?_ GE674.out) | exact HB.out)))); (case aL => have := LMc104.out; omega); intro v697 w110 ho hb hg hat; rw [← Ny696.out] at ho; have n0_ := Aside0.mk (Kd.R_over' (zr HO_7.out) (Kd.R_typed (zr HO_4.out)) (by decide) hg); have n1_ := Aside0.mk (Kd.R_over' (zr HO_8.out) (Kd.R_typed (zr HO_4.out)) (by decide) hg); have n2_ := Aside0.mk (blk_grown (g := gb673) (o := .cells #[.int .i64 ((rd_T39 l0 x9_1).f0), .int .i64 ((rd_T39 l0 x9_1).f1), .int .i64 ((rd_T39 l0 x9_1).f2)] 39 (0, 0)) (zk BK673.out) hg (Kd.R_ne HO_4.out BK673.out (by decide))); have n3_ := Aside0.mk (blk_grown (g := gb674) (o := .cells #[.int .i64 0, .int .i64 0] 37 (0, 0)) (zk BK674.out) hg (Kd.R_away HO_4.out (fun _ hk => hk))); have n4_ := Aside0.mk (hb); have n5_ := Aside0.mk (ho); clear HO_7; clear HO_8; clear BK673; clear BK674; clear HB; clear HO_4; have HO_7 := n0_; have HO_8 := n1_; have BK673 := n2_; have BK674 := n3_; have HB := n4_; have HO698 := n5_; clear n0_ n1_ n2_ n3_ n4_ n5_; clear ho hb hg hat))
                        go_roundg kj93
                        case measure => have := HK1.out; have := HJ13.out; have := HJ24.out; have := HJ39.out; have := HJ61.out; have := HJ93.out; omega
                        case rel => exact ⟨(y696), (x5_1), (x6_1), (y695), (x8_1), (wrap64 (x9_1 + 1)), (by first | rfl | (simp; done) | (simp [*]; done)), (by first | rfl | (simp; done) | (simp [*]; done)), (by first | rfl | (simp; done) | (simp [*]; done)), H', ⟨by have := HK1.out; have := HJ13.out; have := HJ24.out; have := HJ39.out; have := HJ61.out; have := HJ93.out; omega⟩, ⟨by (with_reducible repeat (first | apply Kd.R_alloc | apply Kd.R_drewN | apply Kd.R_drew)); exact Kd.R_mono HO698.out (fun _ hk => trivial)⟩, ⟨zr HO_7.out⟩, ⟨by (with_reducible repeat (first | apply Kd.R_alloc | apply Kd.R_drewN | apply Kd.R_drew)); exact Kd.R_mono HO_8.out (fun _ hk => hk.2)⟩, ⟨by repeat (first | (with_reducible first | exact HB.out | apply below_alloc | apply pw_below_drewN | apply below_drew1 | refine below_set ?_ GE673.out | refine below_set ?_ GE674.out) | exact HB.out)⟩⟩
                       ·rw [if_neg c104] at H
                        cases H
                      ·rw [if_neg c102] at H
                       cases H
                     ·rw [if_neg c101] at H
                      cases H
                    ·replace c100 := Bool.eq_false_iff.mpr c100
                     subst c100
                     have H1 : (if ((rd_T39 l0 x9_1).f0) = 5 then (spec_LeaseRun.l1 kj93 l0 x4_1 x5_1 x6_1 x7_1 x8_1 x9_1 0 0 0) else (if x4_1.length < 8796093022208 then (spec_LeaseRun.l0 kj93 l0 (x4_1 ++ [(⟨1, 0⟩ : S37)]) x5_1 x6_1 x7_1 x8_1 (wrap64 (x9_1 + 1))) else (none))) = some (r1, r2) := by rw [if_neg (show ¬ (false = true) by decide)] at H; exact H
                     clear H
                     have H := H1
                     clear H1
                     by_cases c111 : ((rd_T39 l0 x9_1).f0) = 5
                     ·rw [if_pos c111] at H
                      have c111b0 : (((rd_T39 l0 x9_1).f0) == 5) = true := beq_iff_eq.mpr c111
                      have c111b1 : (((rd_T39 l0 x9_1).f0) != 5) = false := bne_eq_false_iff_eq.mpr c111
                      clear c111
                      have H' := Aside0.mk H
                      clear H
                      have hnb112 := NB673_674.out
                      have hnc112 := NB674_673.out
                      have hcz113_0 : wc.cell? ⟨gb673, 0, none⟩ = some (.int .i64 ((rd_T39 l0 x9_1).f0)) := (blk_cell BK673.out 0).trans rfl
                      have hcz113_1 : wc.cell? ⟨gb673, 1, none⟩ = some (.int .i64 ((rd_T39 l0 x9_1).f1)) := (blk_cell BK673.out 1).trans rfl
                      have hcz113_2 : wc.cell? ⟨gb673, 2, none⟩ = some (.int .i64 ((rd_T39 l0 x9_1).f2)) := (blk_cell BK673.out 2).trans rfl
                      have hfz113_0 := blk_frozen BK673.out 0
                      have hfz113_1 := blk_frozen BK673.out 1
                      have hfz113_2 := blk_frozen BK673.out 2
                      as_aux_lemma =>
                      go_wp2
                      go_loopg [13] kj93 (fun kq v13 w' => ∃ (x13_7 : Int) (x675000_7 : Int), v13 = .int .i64 x13_7 ∧ Aside0 (spec_LeaseRun.l1 kq l0 x4_1 x5_1 x6_1 x7_1 x8_1 x9_1 x13_7 x675000_7 0 = some (r1, r2)) ∧ Aside0 (kq ≤ kj93) ∧ Aside0 (Kd.R k37 37 w' w.heap.size (fun k_ => k_ ≠ gb674) u4 x4_1) ∧ Aside0 (Kd.R (Kd.int .i64) 3 w' w.heap.size (fun k_ => some k_ ≠ (v670 : Value).ownBlock) v667 x7_1) ∧ Aside0 (Kd.R (Kd.int .i64) 3 w' w.heap.size (fun k_ => some k_ ≠ (v667 : Value).ownBlock) v670 x8_1) ∧ Aside0 (w'.heap[gb673]? = some (.cells #[.int .i64 ((rd_T39 l0 x9_1).f0), .int .i64 ((rd_T39 l0 x9_1).f1), .int .i64 ((rd_T39 l0 x9_1).f2)] 39 (0, 0))) ∧ Aside0 (w'.heap[gb674]? = some (.cells #[.int .i64 x675000_7, .int .i64 0] 37 (0, 0))) ∧ Aside0 (Below w.heap.size w w'))
                      case atStart => exact ⟨(0), (0), (by first | rfl | (simp; done) | (simp [*]; done)), H', ⟨Nat.le_refl _⟩, ⟨zr HO_4.out⟩, ⟨zr HO_7.out⟩, ⟨zr HO_8.out⟩, ⟨by (with_reducible repeat (first | refine blk_drewN ?_ _ | refine blk_drew ?_ | refine blk_alloc ?_ _)); exact BK673.out⟩, ⟨by (with_reducible repeat (first | refine blk_drewN ?_ _ | refine blk_drew ?_ | refine blk_alloc ?_ _)); exact BK674.out⟩, ⟨by repeat (first | (with_reducible first | exact HB.out | apply below_alloc | apply pw_below_drewN | apply below_drew1 | refine below_set ?_ GE673.out | refine below_set ?_ GE674.out) | exact HB.out)⟩⟩
                      case round =>
                       clear H'
                       try clear c2
                       try clear c2b0
                       try clear c2b1
                       try clear c5
                       try clear c5b0
                       try clear c5b1
                       try clear c12
                       try clear c12b0
                       try clear c13
                       try clear c13b0
                       try clear c34
                       try clear c46
                       try clear c68
                       try clear c100
                       try clear c111
                       try clear c111b0
                       try clear c111b1
                       try clear hcz113_0
                       try clear hcz113_1
                       try clear hcz113_2
                       try clear hcz16_0
                       try clear hcz16_1
                       try clear hcz16_2
                       try clear hcz19_0
                       try clear hcz19_1
                       try clear hfz113_0
                       try clear hfz113_1
                       try clear hfz113_2
                       try clear hfz16_0
                       try clear hfz16_1
                       try clear hfz16_2
                       try clear hfz19_0
                       try clear hfz19_1
                       try clear hx672_0
                       try clear hx672_1
                       try clear hx672_2
                       try clear p672
                       try clear q672
                       obtain ⟨x13_7, x675000_7, rfl, HA, HK7, HO_4, HO_7, HO_8, BK673, BK674, HB⟩ := hrel
                       cases gk with
                       | zero => exact absurd HA.out (by simp [spec_LeaseRun.l1])
                       | succ k7 =>
                        have H := HA.out
                        clear HA
                        simp only [spec_LeaseRun.l1] at H
                        by_cases c114 : x13_7 < 8
                        ·rw [if_pos c114] at H
                         have c114b0 : decide (x13_7 < 8) = true := decide_eq_true c114
                         clear c114
                         by_cases c115 : 0 ≤ x13_7
                         ·rw [if_pos c115] at H
                          have c115b0 : decide (0 ≤ x13_7) = true := decide_eq_true c115
                          clear c115
                          by_cases c116 : x13_7 < (x7_1.length : Int)
                          ·rw [if_pos c116] at H
                           have c116b0 : decide (x13_7 < (x7_1.length : Int)) = true := decide_eq_true c116
                           clear c116
                           by_cases c117 : (rd x7_1 x13_7) > 0
                           ·rw [if_pos c117] at H
                            have c117b0 : decide (0 < (rd x7_1 x13_7)) = true := decide_eq_true c117
                            clear c117
                            by_cases c118 : (rd x7_1 x13_7) < x6_1
                            ·rw [if_pos c118] at H
                             have c118b0 : decide ((rd x7_1 x13_7) < x6_1) = true := decide_eq_true c118
                             clear c118
                             by_cases c119 : x13_7 < (x8_1.length : Int)
                             ·rw [if_pos c119] at H
                              have c119b0 : decide (x13_7 < (x8_1.length : Int)) = true := decide_eq_true c119
                              clear c119
                              by_cases c120 : (rd x8_1 x13_7) > x5_1
                              ·rw [if_pos c120] at H
                               have c120b0 : decide (x5_1 < (rd x8_1 x13_7)) = true := decide_eq_true c120
                               clear c120
                               have H' := Aside0.mk H
                               clear H
                               obtain ⟨Ao121, co121, eo121⟩ := Kd.R_slice HO_7.out
                               subst eo121
                               have p699 : 0 ≤ (x13_7 : Int) := of_decide_eq_true (by first | (with_reducible assumption) | assumption)
                               have q699 : x13_7 < (x7_1.length : Int) := of_decide_eq_true (by first | (with_reducible assumption) | assumption)
                               obtain ⟨ad699, e699, hx699_0⟩ := Kd.at_int (Kd.R_reads' HO_7.out).2.2 x13_7 p699 q699
                               cases e699
                               replace p699 := eq_true p699
                               replace q699 := eq_true q699
                               have p700 : 0 ≤ (x13_7 : Int) := of_decide_eq_true (by first | (with_reducible assumption) | assumption)
                               have q700 : x13_7 < (x7_1.length : Int) := of_decide_eq_true (by first | (with_reducible assumption) | assumption)
                               obtain ⟨ad700, e700, hx700_0⟩ := Kd.at_int (Kd.R_reads' HO_7.out).2.2 x13_7 p700 q700
                               obtain rfl : ad699 = ad700 := (by injection e700)
                               replace p700 := eq_true p700
                               replace q700 := eq_true q700
                               obtain ⟨Ao122, co122, eo122⟩ := Kd.R_slice HO_8.out
                               subst eo122
                               have p701 : 0 ≤ (x13_7 : Int) := of_decide_eq_true (by first | (with_reducible assumption) | assumption)
                               have q701 : x13_7 < (x8_1.length : Int) := of_decide_eq_true (by first | (with_reducible assumption) | assumption)
                               obtain ⟨ad701, e701, hx701_0⟩ := Kd.at_int (Kd.R_reads' HO_8.out).2.2 x13_7 p701 q701
                               cases e701
                               replace p701 := eq_true p701
                               replace q701 := eq_true q701
                               have hnb123 := NB674_673.out
                               have hnc123 := NB673_674.out
                               have hcz124_0 : wr.cell? ⟨gb674, 0, none⟩ = some (.int .i64 x675000_7) := (blk_cell BK674.out 0).trans rfl
                               have hcz124_1 : wr.cell? ⟨gb674, 1, none⟩ = some (.int .i64 0) := (blk_cell BK674.out 1).trans rfl
                               have hfz124_0 := blk_frozen BK674.out 0
                               have hfz124_1 := blk_frozen BK674.out 1
                               as_aux_lemma =>
                               go_wp2
                               go_roundg k7
                               case measure => have := HK1.out; have := HJ13.out; have := HJ24.out; have := HJ39.out; have := HJ61.out; have := HJ93.out; have := HK7.out; omega
                               case rel => exact ⟨(wrap64 (x13_7 + 1)), (13), (by first | rfl | (simp; done) | (simp [*]; done)), H', ⟨by have := HK1.out; have := HJ13.out; have := HJ24.out; have := HJ39.out; have := HJ61.out; have := HJ93.out; have := HK7.out; omega⟩, ⟨by (with_reducible repeat (first | apply Kd.R_alloc | apply Kd.R_drewN | apply Kd.R_drew)); exact Kd.R_mono (Kd.R_far (p := ⟨gb674, 0, none⟩) (Kd.R_mono HO_4.out (fun k_ hk => (⟨hk, hk⟩ : _ ∧ k_ ≠ gb674))) (fun _ hk => hk.2) (.int .i64 13)) (fun _ hk => hk.1)⟩, ⟨by (with_reducible repeat (first | apply Kd.R_alloc | apply Kd.R_drewN | apply Kd.R_drew)); exact Kd.R_mono (Kd.R_far (p := ⟨gb674, 0, none⟩) (Kd.R_types HO_7.out BK674.out (by decide)) (fun _ hk => hk.2) (.int .i64 13)) (fun _ hk => hk.1)⟩, ⟨by (with_reducible repeat (first | apply Kd.R_alloc | apply Kd.R_drewN | apply Kd.R_drew)); exact Kd.R_mono (Kd.R_far (p := ⟨gb674, 0, none⟩) (Kd.R_types HO_8.out BK674.out (by decide)) (fun _ hk => hk.2) (.int .i64 13)) (fun _ hk => hk.1)⟩, ⟨by (with_reducible repeat (first | refine blk_drewN ?_ _ | refine blk_drew ?_ | refine blk_alloc ?_ _)); refine blk_far ?_ NB673_674.out _; (with_reducible repeat (first | refine blk_drewN ?_ _ | refine blk_drew ?_ | refine blk_alloc ?_ _)); exact BK673.out⟩, ⟨by (with_reducible repeat (first | refine blk_drewN ?_ _ | refine blk_drew ?_ | refine blk_alloc ?_ _)); refine blk_put (cs := #[.int .i64 x675000_7, .int .i64 0]) ?_ 0 _ rfl; (with_reducible repeat (first | refine blk_drewN ?_ _ | refine blk_drew ?_ | refine blk_alloc ?_ _)); exact BK674.out⟩, ⟨by repeat (first | (with_reducible first | exact HB.out | apply below_alloc | apply pw_below_drewN | apply below_drew1 | refine below_set ?_ GE673.out | refine below_set ?_ GE674.out) | exact HB.out)⟩⟩
                              ·rw [if_neg c120] at H
                               have c120b0 : decide (x5_1 < (rd x8_1 x13_7)) = false := decide_eq_false c120
                               clear c120
                               have H' := Aside0.mk H
                               clear H
                               obtain ⟨Ao125, co125, eo125⟩ := Kd.R_slice HO_7.out
                               subst eo125
                               have p699 : 0 ≤ (x13_7 : Int) := of_decide_eq_true (by first | (with_reducible assumption) | assumption)
                               have q699 : x13_7 < (x7_1.length : Int) := of_decide_eq_true (by first | (with_reducible assumption) | assumption)
                               obtain ⟨ad699, e699, hx699_0⟩ := Kd.at_int (Kd.R_reads' HO_7.out).2.2 x13_7 p699 q699
                               cases e699
                               replace p699 := eq_true p699
                               replace q699 := eq_true q699
                               have p700 : 0 ≤ (x13_7 : Int) := of_decide_eq_true (by first | (with_reducible assumption) | assumption)
                               have q700 : x13_7 < (x7_1.length : Int) := of_decide_eq_true (by first | (with_reducible assumption) | assumption)
                               obtain ⟨ad700, e700, hx700_0⟩ := Kd.at_int (Kd.R_reads' HO_7.out).2.2 x13_7 p700 q700
                               obtain rfl : ad699 = ad700 := (by injection e700)
                               replace p700 := eq_true p700
                               replace q700 := eq_true q700
                               obtain ⟨Ao126, co126, eo126⟩ := Kd.R_slice HO_8.out
                               subst eo126
                               have p701 : 0 ≤ (x13_7 : Int) := of_decide_eq_true (by first | (with_reducible assumption) | assumption)
                               have q701 : x13_7 < (x8_1.length : Int) := of_decide_eq_true (by first | (with_reducible assumption) | assumption)
                               obtain ⟨ad701, e701, hx701_0⟩ := Kd.at_int (Kd.R_reads' HO_8.out).2.2 x13_7 p701 q701
                               cases e701
                               replace p701 := eq_true p701
                               replace q701 := eq_true q701
                               as_aux_lemma =>
                               go_wp2
                               go_roundg k7
                               case measure => have := HK1.out; have := HJ13.out; have := HJ24.out; have := HJ39.out; have := HJ61.out; have := HJ93.out; have := HK7.out; omega
                               case rel => exact ⟨(wrap64 (x13_7 + 1)), (x675000_7), (by first | rfl | (simp; done) | (simp [*]; done)), H', ⟨by have := HK1.out; have := HJ13.out; have := HJ24.out; have := HJ39.out; have := HJ61.out; have := HJ93.out; have := HK7.out; omega⟩, ⟨zr HO_4.out⟩, ⟨zr HO_7.out⟩, ⟨zr HO_8.out⟩, ⟨by (with_reducible repeat (first | refine blk_drewN ?_ _ | refine blk_drew ?_ | refine blk_alloc ?_ _)); exact BK673.out⟩, ⟨by (with_reducible repeat (first | refine blk_drewN ?_ _ | refine blk_drew ?_ | refine blk_alloc ?_ _)); exact BK674.out⟩, ⟨by repeat (first | (with_reducible first | exact HB.out | apply below_alloc | apply pw_below_drewN | apply below_drew1 | refine below_set ?_ GE673.out | refine below_set ?_ GE674.out) | exact HB.out)⟩⟩
                             ·rw [if_neg c119] at H
                              cases H
                            ·rw [if_neg c118] at H
                             have c118b0 : decide ((rd x7_1 x13_7) < x6_1) = false := decide_eq_false c118
                             clear c118
                             have H' := Aside0.mk H
                             clear H
                             obtain ⟨Ao127, co127, eo127⟩ := Kd.R_slice HO_7.out
                             subst eo127
                             have p699 : 0 ≤ (x13_7 : Int) := of_decide_eq_true (by first | (with_reducible assumption) | assumption)
                             have q699 : x13_7 < (x7_1.length : Int) := of_decide_eq_true (by first | (with_reducible assumption) | assumption)
                             obtain ⟨ad699, e699, hx699_0⟩ := Kd.at_int (Kd.R_reads' HO_7.out).2.2 x13_7 p699 q699
                             cases e699
                             replace p699 := eq_true p699
                             replace q699 := eq_true q699
                             have p700 : 0 ≤ (x13_7 : Int) := of_decide_eq_true (by first | (with_reducible assumption) | assumption)
                             have q700 : x13_7 < (x7_1.length : Int) := of_decide_eq_true (by first | (with_reducible assumption) | assumption)
                             obtain ⟨ad700, e700, hx700_0⟩ := Kd.at_int (Kd.R_reads' HO_7.out).2.2 x13_7 p700 q700
                             obtain rfl : ad699 = ad700 := (by injection e700)
                             replace p700 := eq_true p700
                             replace q700 := eq_true q700
                             as_aux_lemma =>
                             go_wp2
                             go_roundg k7
                             case measure => have := HK1.out; have := HJ13.out; have := HJ24.out; have := HJ39.out; have := HJ61.out; have := HJ93.out; have := HK7.out; omega
                             case rel => exact ⟨(wrap64 (x13_7 + 1)), (x675000_7), (by first | rfl | (simp; done) | (simp [*]; done)), H', ⟨by have := HK1.out; have := HJ13.out; have := HJ24.out; have := HJ39.out; have := HJ61.out; have := HJ93.out; have := HK7.out; omega⟩, ⟨zr HO_4.out⟩, ⟨zr HO_7.out⟩, ⟨zr HO_8.out⟩, ⟨by (with_reducible repeat (first | refine blk_drewN ?_ _ | refine blk_drew ?_ | refine blk_alloc ?_ _)); exact BK673.out⟩, ⟨by (with_reducible repeat (first | refine blk_drewN ?_ _ | refine blk_drew ?_ | refine blk_alloc ?_ _)); exact BK674.out⟩, ⟨by repeat (first | (with_reducible first | exact HB.out | apply below_alloc | apply pw_below_drewN | apply below_drew1 | refine below_set ?_ GE673.out | refine below_set ?_ GE674.out) | exact HB.out)⟩⟩
                           ·rw [if_neg c117] at H
                            have c117b0 : decide (0 < (rd x7_1 x13_7)) = false := decide_eq_false c117
                            clear c117
                            have H' := Aside0.mk H
                            clear H
                            obtain ⟨Ao128, co128, eo128⟩ := Kd.R_slice HO_7.out
                            subst eo128
                            have p699 : 0 ≤ (x13_7 : Int) := of_decide_eq_true (by first | (with_reducible assumption) | assumption)
                            have q699 : x13_7 < (x7_1.length : Int) := of_decide_eq_true (by first | (with_reducible assumption) | assumption)
                            obtain ⟨ad699, e699, hx699_0⟩ := Kd.at_int (Kd.R_reads' HO_7.out).2.2 x13_7 p699 q699
                            cases e699
                            replace p699 := eq_true p699
                            replace q699 := eq_true q699
                            as_aux_lemma =>
                            go_wp2
                            go_roundg k7
                            case measure => have := HK1.out; have := HJ13.out; have := HJ24.out; have := HJ39.out; have := HJ61.out; have := HJ93.out; have := HK7.out; omega
                            case rel => exact ⟨(wrap64 (x13_7 + 1)), (x675000_7), (by first | rfl | (simp; done) | (simp [*]; done)), H', ⟨by have := HK1.out; have := HJ13.out; have := HJ24.out; have := HJ39.out; have := HJ61.out; have := HJ93.out; have := HK7.out; omega⟩, ⟨zr HO_4.out⟩, ⟨zr HO_7.out⟩, ⟨zr HO_8.out⟩, ⟨by (with_reducible repeat (first | refine blk_drewN ?_ _ | refine blk_drew ?_ | refine blk_alloc ?_ _)); exact BK673.out⟩, ⟨by (with_reducible repeat (first | refine blk_drewN ?_ _ | refine blk_drew ?_ | refine blk_alloc ?_ _)); exact BK674.out⟩, ⟨by repeat (first | (with_reducible first | exact HB.out | apply below_alloc | apply pw_below_drewN | apply below_drew1 | refine below_set ?_ GE673.out | refine below_set ?_ GE674.out) | exact HB.out)⟩⟩
                          ·rw [if_neg c116] at H
                           cases H
                         ·rw [if_neg c115] at H
                          cases H
                        ·rw [if_neg c114] at H
                         have c114b0 : decide (x13_7 < 8) = false := decide_eq_false c114
                         clear c114
                         by_cases c129 : x675000_7 = 0
                         ·rw [if_pos c129] at H
                          have c129b0 : (x675000_7 == 0) = true := beq_iff_eq.mpr c129
                          have c129b1 : (x675000_7 != 0) = false := bne_eq_false_iff_eq.mpr c129
                          clear c129
                          by_cases c130 : x4_1.length < 8796093022208
                          ·rw [if_pos c130] at H
                           have LMc130 := Aside0.mk c130
                           clear c130
                           obtain ⟨y702, hy702⟩ : ∃ y_ : List (S37), y_ = (x4_1 ++ [(⟨x675000_7, wrap64 (x6_1 + 1)⟩ : S37)]) := ⟨_, rfl⟩
                           replace H : (spec_LeaseRun.l0 k7 l0 y702 x5_1 (wrap64 (x6_1 + 1)) x7_1 x8_1 (wrap64 (x9_1 + 1))) = some (r1, r2) := by first | (rw [hy702]; with_reducible exact H) | (have H2_ := (Option.bind_some _ _).symm.trans H; rw [hy702]; with_reducible exact H2_) | (have H2_ := (Option.bind_some _ _).symm.trans H; with_reducible exact H2_) | with_reducible exact H | (rw [hy702]; exact H) | exact H
                           have Ny702 := Aside0.mk hy702
                           clear hy702
                           have H' := Aside0.mk H
                           clear H
                           have hnb131 := NB674_673.out
                           have hnc131 := NB673_674.out
                           have hcz132_0 : wr.cell? ⟨gb674, 0, none⟩ = some (.int .i64 x675000_7) := (blk_cell BK674.out 0).trans rfl
                           have hcz132_1 : wr.cell? ⟨gb674, 1, none⟩ = some (.int .i64 0) := (blk_cell BK674.out 1).trans rfl
                           have hfz132_0 := blk_frozen BK674.out 0
                           have hfz132_1 := blk_frozen BK674.out 1
                           as_aux_lemma =>
                           go_wp2_with (first | ((with_reducible refine gate_builtin (b := .append) (xs := #[.tmp 156, .tmp 158]) rfl ?_); at_builtin; refine Kd.R_append k37 (w0 := w) w.heap.size rfl (.tmp 156) (.tmp 158) 33 37 (.agg #[(.int .i64 0), (.int .i64 0)]) 16 rfl Try.underlying33 info37 rfl (by decide) (by omega) u4 x4_1 (⟨x675000_7, wrap64 (x6_1 + 1)⟩ : S37) [.int .i64 x675000_7, .int .i64 (wrap64 (x6_1 + 1))] (fun k_ => k_ ≠ gb674) (fun _ => False) rfl (by first | (go_simp; done) | (go_simp; rfl)) ?aP (fun _ hk => hk.elim) ?aF ?aO ?aB ?aS ?aL ?_; (case aP => exact k37_mkM _ _ _ (⟨x675000_7, wrap64 (x6_1 + 1)⟩ : S37)); (case aB => exact (by repeat (first | (with_reducible first | exact HB.out | apply below_alloc | apply pw_below_drewN | apply below_drew1 | refine below_set ?_ GE673.out | refine below_set ?_ GE674.out) | exact HB.out))); (case aF => exact (fun k_ hk => Kd.freshB (g := gb674) (o := .cells #[.int .i64 x675000_7, .int .i64 (wrap64 (x6_1 + 1))] 37 (0, 0)) (by (with_reducible repeat (first | refine blk_drewN ?_ _ | refine blk_drew ?_ | refine blk_alloc ?_ _)); refine blk_put (cs := #[.int .i64 x675000_7, .int .i64 0]) ?_ 1 _ rfl; (with_reducible repeat (first | refine blk_drewN ?_ _ | refine blk_drew ?_ | refine blk_alloc ?_ _)); exact BK674.out) k_ hk)); (case aO => exact (by (with_reducible repeat (first | apply Kd.R_alloc | apply Kd.R_drewN | apply Kd.R_drew)); exact Kd.R_mono (Kd.R_far (p := ⟨gb674, 1, none⟩) (Kd.R_mono HO_4.out (fun k_ hk => (⟨hk, hk⟩ : _ ∧ k_ ≠ gb674))) (fun _ hk => hk.2) (.int .i64 (wrap64 (x6_1 + 1)))) (fun _ hk => hk.1))); (case aS => exact (below_size (by repeat (first | (with_reducible first | exact HB.out | apply below_alloc | apply pw_below_drewN | apply below_drew1 | refine below_set ?_ GE673.out | refine below_set ?_ GE674.out) | exact HB.out)))); (case aL => have := LMc130.out; omega); intro v703 w133 ho hb hg hat; rw [← Ny702.out] at ho; have n0_ := Aside0.mk (Kd.R_over' (by (with_reducible repeat (first | apply Kd.R_alloc | apply Kd.R_drewN | apply Kd.R_drew)); exact (Kd.R_mono (Kd.R_far (p := ⟨gb674, 1, none⟩) (Kd.R_types HO_7.out BK674.out (by decide)) (fun _ hk => hk.2) (.int .i64 (wrap64 (x6_1 + 1)))) (fun _ h_ => h_.1))) (Kd.R_typed (by (with_reducible repeat (first | apply Kd.R_alloc | apply Kd.R_drewN | apply Kd.R_drew)); exact (Kd.R_mono (Kd.R_far (p := ⟨gb674, 1, none⟩) (Kd.R_mono HO_4.out (fun k_ hk => (⟨hk, hk⟩ : _ ∧ k_ ≠ gb674))) (fun _ hk => hk.2) (.int .i64 (wrap64 (x6_1 + 1)))) (fun _ h_ => h_.1)))) (by decide) hg); have n1_ := Aside0.mk (Kd.R_over' (by (with_reducible repeat (first | apply Kd.R_alloc | apply Kd.R_drewN | apply Kd.R_drew)); exact (Kd.R_mono (Kd.R_far (p := ⟨gb674, 1, none⟩) (Kd.R_types HO_8.out BK674.out (by decide)) (fun _ hk => hk.2) (.int .i64 (wrap64 (x6_1 + 1)))) (fun _ h_ => h_.1))) (Kd.R_typed (by (with_reducible repeat (first | apply Kd.R_alloc | apply Kd.R_drewN | apply Kd.R_drew)); exact (Kd.R_mono (Kd.R_far (p := ⟨gb674, 1, none⟩) (Kd.R_mono HO_4.out (fun k_ hk => (⟨hk, hk⟩ : _ ∧ k_ ≠ gb674))) (fun _ hk => hk.2) (.int .i64 (wrap64 (x6_1 + 1)))) (fun _ h_ => h_.1)))) (by decide) hg); have n2_ := Aside0.mk (blk_grown (g := gb673) (o := .cells #[.int .i64 ((rd_T39 l0 x9_1).f0), .int .i64 ((rd_T39 l0 x9_1).f1), .int .i64 ((rd_T39 l0 x9_1).f2)] 39 (0, 0)) (by (with_reducible repeat (first | refine blk_drewN ?_ _ | refine blk_drew ?_ | refine blk_alloc ?_ _)); refine blk_far ?_ NB673_674.out _; (with_reducible repeat (first | refine blk_drewN ?_ _ | refine blk_drew ?_ | refine blk_alloc ?_ _)); exact BK673.out) hg (Kd.R_ne HO_4.out BK673.out (by decide))); have n3_ := Aside0.mk (blk_grown (g := gb674) (o := .cells #[.int .i64 x675000_7, .int .i64 (wrap64 (x6_1 + 1))] 37 (0, 0)) (by (with_reducible repeat (first | refine blk_drewN ?_ _ | refine blk_drew ?_ | refine blk_alloc ?_ _)); refine blk_put (cs := #[.int .i64 x675000_7, .int .i64 0]) ?_ 1 _ rfl; (with_reducible repeat (first | refine blk_drewN ?_ _ | refine blk_drew ?_ | refine blk_alloc ?_ _)); exact BK674.out) hg (Kd.R_away HO_4.out (fun _ hk => hk))); have n4_ := Aside0.mk (hb); have n5_ := Aside0.mk (ho); clear HO_7; clear HO_8; clear BK673; clear BK674; clear HB; clear HO_4; have HO_7 := n0_; have HO_8 := n1_; have BK673 := n2_; have BK674 := n3_; have HB := n4_; have HO704 := n5_; clear n0_ n1_ n2_ n3_ n4_ n5_; clear ho hb hg hat))
                           go_roundg k7
                           case measure => have := HK1.out; have := HJ13.out; have := HJ24.out; have := HJ39.out; have := HJ61.out; have := HJ93.out; have := HK7.out; omega
                           case rel => exact ⟨(y702), (x5_1), (wrap64 (x6_1 + 1)), (x7_1), (x8_1), (wrap64 (x9_1 + 1)), (by first | rfl | (simp; done) | (simp [*]; done)), (by first | rfl | (simp; done) | (simp [*]; done)), (by first | rfl | (simp; done) | (simp [*]; done)), H', ⟨by have := HK1.out; have := HJ13.out; have := HJ24.out; have := HJ39.out; have := HJ61.out; have := HJ93.out; have := HK7.out; omega⟩, ⟨by (with_reducible repeat (first | apply Kd.R_alloc | apply Kd.R_drewN | apply Kd.R_drew)); exact Kd.R_mono HO704.out (fun _ hk => trivial)⟩, ⟨zr HO_7.out⟩, ⟨zr HO_8.out⟩, ⟨by repeat (first | (with_reducible first | exact HB.out | apply below_alloc | apply pw_below_drewN | apply below_drew1 | refine below_set ?_ GE673.out | refine below_set ?_ GE674.out) | exact HB.out)⟩⟩
                          ·rw [if_neg c130] at H
                           cases H
                         ·rw [if_neg c129] at H
                          have c129b0 : (x675000_7 == 0) = false := beq_eq_false_iff_ne.mpr c129
                          have c129b1 : (x675000_7 != 0) = true := bne_iff_ne.mpr c129
                          by_cases c134 : x4_1.length < 8796093022208
                          ·rw [if_pos c134] at H
                           have LMc134 := Aside0.mk c134
                           clear c134
                           obtain ⟨y705, hy705⟩ : ∃ y_ : List (S37), y_ = (x4_1 ++ [(⟨x675000_7, 0⟩ : S37)]) := ⟨_, rfl⟩
                           replace H : (spec_LeaseRun.l0 k7 l0 y705 x5_1 x6_1 x7_1 x8_1 (wrap64 (x9_1 + 1))) = some (r1, r2) := by first | (rw [hy705]; with_reducible exact H) | (have H2_ := (Option.bind_some _ _).symm.trans H; rw [hy705]; with_reducible exact H2_) | (have H2_ := (Option.bind_some _ _).symm.trans H; with_reducible exact H2_) | with_reducible exact H | (rw [hy705]; exact H) | exact H
                           have Ny705 := Aside0.mk hy705
                           clear hy705
                           have H' := Aside0.mk H
                           clear H
                           have hnb135 := NB674_673.out
                           have hnc135 := NB673_674.out
                           have hcz136_0 : wr.cell? ⟨gb674, 0, none⟩ = some (.int .i64 x675000_7) := (blk_cell BK674.out 0).trans rfl
                           have hcz136_1 : wr.cell? ⟨gb674, 1, none⟩ = some (.int .i64 0) := (blk_cell BK674.out 1).trans rfl
                           have hfz136_0 := blk_frozen BK674.out 0
                           have hfz136_1 := blk_frozen BK674.out 1
                           as_aux_lemma =>
                           go_wp2_with (first | ((with_reducible refine gate_builtin (b := .append) (xs := #[.tmp 156, .tmp 158]) rfl ?_); at_builtin; refine Kd.R_append k37 (w0 := w) w.heap.size rfl (.tmp 156) (.tmp 158) 33 37 (.agg #[(.int .i64 0), (.int .i64 0)]) 16 rfl Try.underlying33 info37 rfl (by decide) (by omega) u4 x4_1 (⟨x675000_7, 0⟩ : S37) [.int .i64 x675000_7, .int .i64 0] (fun k_ => k_ ≠ gb674) (fun _ => False) rfl rfl ?aP (fun _ hk => hk.elim) ?aF ?aO ?aB ?aS ?aL ?_; (case aP => exact k37_mkM _ _ _ (⟨x675000_7, 0⟩ : S37)); (case aB => exact (by repeat (first | (with_reducible first | exact HB.out | apply below_alloc | apply pw_below_drewN | apply below_drew1 | refine below_set ?_ GE673.out | refine below_set ?_ GE674.out) | exact HB.out))); (case aF => exact (fun k_ hk => Kd.freshB (g := gb674) (o := .cells #[.int .i64 x675000_7, .int .i64 0] 37 (0, 0)) (zk BK674.out) k_ hk)); (case aO => exact (zr HO_4.out)); (case aS => exact (below_size (by repeat (first | (with_reducible first | exact HB.out | apply below_alloc | apply pw_below_drewN | apply below_drew1 | refine below_set ?_ GE673.out | refine below_set ?_ GE674.out) | exact HB.out)))); (case aL => have := LMc134.out; omega); intro v706 w137 ho hb hg hat; rw [← Ny705.out] at ho; have n0_ := Aside0.mk (Kd.R_over' (zr HO_7.out) (Kd.R_typed (zr HO_4.out)) (by decide) hg); have n1_ := Aside0.mk (Kd.R_over' (zr HO_8.out) (Kd.R_typed (zr HO_4.out)) (by decide) hg); have n2_ := Aside0.mk (blk_grown (g := gb673) (o := .cells #[.int .i64 ((rd_T39 l0 x9_1).f0), .int .i64 ((rd_T39 l0 x9_1).f1), .int .i64 ((rd_T39 l0 x9_1).f2)] 39 (0, 0)) (zk BK673.out) hg (Kd.R_ne HO_4.out BK673.out (by decide))); have n3_ := Aside0.mk (blk_grown (g := gb674) (o := .cells #[.int .i64 x675000_7, .int .i64 0] 37 (0, 0)) (zk BK674.out) hg (Kd.R_away HO_4.out (fun _ hk => hk))); have n4_ := Aside0.mk (hb); have n5_ := Aside0.mk (ho); clear HO_7; clear HO_8; clear BK673; clear BK674; clear HB; clear HO_4; have HO_7 := n0_; have HO_8 := n1_; have BK673 := n2_; have BK674 := n3_; have HB := n4_; have HO707 := n5_; clear n0_ n1_ n2_ n3_ n4_ n5_; clear ho hb hg hat))
                           go_roundg k7
                           case measure => have := HK1.out; have := HJ13.out; have := HJ24.out; have := HJ39.out; have := HJ61.out; have := HJ93.out; have := HK7.out; omega
                           case rel => exact ⟨(y705), (x5_1), (x6_1), (x7_1), (x8_1), (wrap64 (x9_1 + 1)), (by first | rfl | (simp; done) | (simp [*]; done)), (by first | rfl | (simp; done) | (simp [*]; done)), (by first | rfl | (simp; done) | (simp [*]; done)), H', ⟨by have := HK1.out; have := HJ13.out; have := HJ24.out; have := HJ39.out; have := HJ61.out; have := HJ93.out; have := HK7.out; omega⟩, ⟨by (with_reducible repeat (first | apply Kd.R_alloc | apply Kd.R_drewN | apply Kd.R_drew)); exact Kd.R_mono HO707.out (fun _ hk => trivial)⟩, ⟨zr HO_7.out⟩, ⟨zr HO_8.out⟩, ⟨by repeat (first | (with_reducible first | exact HB.out | apply below_alloc | apply pw_below_drewN | apply below_drew1 | refine below_set ?_ GE673.out | refine below_set ?_ GE674.out) | exact HB.out)⟩⟩
                          ·rw [if_neg c134] at H
                           cases H
                     ·rw [if_neg c111] at H
                      have c111b0 : (((rd_T39 l0 x9_1).f0) == 5) = false := beq_eq_false_iff_ne.mpr c111
                      have c111b1 : (((rd_T39 l0 x9_1).f0) != 5) = true := bne_iff_ne.mpr c111
                      by_cases c138 : x4_1.length < 8796093022208
                      ·rw [if_pos c138] at H
                       have LMc138 := Aside0.mk c138
                       clear c138
                       obtain ⟨y708, hy708⟩ : ∃ y_ : List (S37), y_ = (x4_1 ++ [(⟨1, 0⟩ : S37)]) := ⟨_, rfl⟩
                       replace H : (spec_LeaseRun.l0 kj93 l0 y708 x5_1 x6_1 x7_1 x8_1 (wrap64 (x9_1 + 1))) = some (r1, r2) := by first | (rw [hy708]; with_reducible exact H) | (have H2_ := (Option.bind_some _ _).symm.trans H; rw [hy708]; with_reducible exact H2_) | (have H2_ := (Option.bind_some _ _).symm.trans H; with_reducible exact H2_) | with_reducible exact H | (rw [hy708]; exact H) | exact H
                       have Ny708 := Aside0.mk hy708
                       clear hy708
                       have H' := Aside0.mk H
                       clear H
                       have hnb139 := NB673_674.out
                       have hnc139 := NB674_673.out
                       have hcz140_0 : wc.cell? ⟨gb673, 0, none⟩ = some (.int .i64 ((rd_T39 l0 x9_1).f0)) := (blk_cell BK673.out 0).trans rfl
                       have hcz140_1 : wc.cell? ⟨gb673, 1, none⟩ = some (.int .i64 ((rd_T39 l0 x9_1).f1)) := (blk_cell BK673.out 1).trans rfl
                       have hcz140_2 : wc.cell? ⟨gb673, 2, none⟩ = some (.int .i64 ((rd_T39 l0 x9_1).f2)) := (blk_cell BK673.out 2).trans rfl
                       have hfz140_0 := blk_frozen BK673.out 0
                       have hfz140_1 := blk_frozen BK673.out 1
                       have hfz140_2 := blk_frozen BK673.out 2
                       have hcz141_0 : wc.cell? ⟨gb674, 0, none⟩ = some (.int .i64 0) := (blk_cell BK674.out 0).trans rfl
                       have hcz141_1 : wc.cell? ⟨gb674, 1, none⟩ = some (.int .i64 0) := (blk_cell BK674.out 1).trans rfl
                       have hfz141_0 := blk_frozen BK674.out 0
                       have hfz141_1 := blk_frozen BK674.out 1
                       as_aux_lemma =>
                       go_wp2_with (first | ((with_reducible refine gate_builtin (b := .append) (xs := #[.tmp 156, .tmp 158]) rfl ?_); at_builtin; refine Kd.R_append k37 (w0 := w) w.heap.size rfl (.tmp 156) (.tmp 158) 33 37 (.agg #[(.int .i64 0), (.int .i64 0)]) 16 rfl Try.underlying33 info37 rfl (by decide) (by omega) u4 x4_1 (⟨1, 0⟩ : S37) [.int .i64 1, .int .i64 0] (fun k_ => k_ ≠ gb674) (fun _ => False) rfl (by first | (go_simp; done) | (go_simp; rfl)) ?aP (fun _ hk => hk.elim) ?aF ?aO ?aB ?aS ?aL ?_; (case aP => exact k37_mkM _ _ _ (⟨1, 0⟩ : S37)); (case aB => exact (by repeat (first | (with_reducible first | exact HB.out | apply below_alloc | apply pw_below_drewN | apply below_drew1 | refine below_set ?_ GE673.out | refine below_set ?_ GE674.out) | exact HB.out))); (case aF => exact (fun k_ hk => Kd.freshB (g := gb674) (o := .cells #[.int .i64 1, .int .i64 0] 37 (0, 0)) (by (with_reducible repeat (first | refine blk_drewN ?_ _ | refine blk_drew ?_ | refine blk_alloc ?_ _)); refine blk_put (cs := #[.int .i64 0, .int .i64 0]) ?_ 0 _ rfl; (with_reducible repeat (first | refine blk_drewN ?_ _ | refine blk_drew ?_ | refine blk_alloc ?_ _)); exact BK674.out) k_ hk)); (case aO => exact (by (with_reducible repeat (first | apply Kd.R_alloc | apply Kd.R_drewN | apply Kd.R_drew)); exact Kd.R_mono (Kd.R_far (p := ⟨gb674, 0, none⟩) (Kd.R_mono HO_4.out (fun k_ hk => (⟨hk, hk⟩ : _ ∧ k_ ≠ gb674))) (fun _ hk => hk.2) (.int .i64 1)) (fun _ hk => hk.1))); (case aS => exact (below_size (by repeat (first | (with_reducible first | exact HB.out | apply below_alloc | apply pw_below_drewN | apply below_drew1 | refine below_set ?_ GE673.out | refine below_set ?_ GE674.out) | exact HB.out)))); (case aL => have := LMc138.out; omega); intro v709 w142 ho hb hg hat; rw [← Ny708.out] at ho; have n0_ := Aside0.mk (Kd.R_over' (by (with_reducible repeat (first | apply Kd.R_alloc | apply Kd.R_drewN | apply Kd.R_drew)); exact (Kd.R_mono (Kd.R_far (p := ⟨gb674, 0, none⟩) (Kd.R_types HO_7.out BK674.out (by decide)) (fun _ hk => hk.2) (.int .i64 1)) (fun _ h_ => h_.1))) (Kd.R_typed (by (with_reducible repeat (first | apply Kd.R_alloc | apply Kd.R_drewN | apply Kd.R_drew)); exact (Kd.R_mono (Kd.R_far (p := ⟨gb674, 0, none⟩) (Kd.R_mono HO_4.out (fun k_ hk => (⟨hk, hk⟩ : _ ∧ k_ ≠ gb674))) (fun _ hk => hk.2) (.int .i64 1)) (fun _ h_ => h_.1)))) (by decide) hg); have n1_ := Aside0.mk (Kd.R_over' (by (with_reducible repeat (first | apply Kd.R_alloc | apply Kd.R_drewN | apply Kd.R_drew)); exact (Kd.R_mono (Kd.R_far (p := ⟨gb674, 0, none⟩) (Kd.R_types HO_8.out BK674.out (by decide)) (fun _ hk => hk.2) (.int .i64 1)) (fun _ h_ => h_.1))) (Kd.R_typed (by (with_reducible repeat (first | apply Kd.R_alloc | apply Kd.R_drewN | apply Kd.R_drew)); exact (Kd.R_mono (Kd.R_far (p := ⟨gb674, 0, none⟩) (Kd.R_mono HO_4.out (fun k_ hk => (⟨hk, hk⟩ : _ ∧ k_ ≠ gb674))) (fun _ hk => hk.2) (.int .i64 1)) (fun _ h_ => h_.1)))) (by decide) hg); have n2_ := Aside0.mk (blk_grown (g := gb673) (o := .cells #[.int .i64 ((rd_T39 l0 x9_1).f0), .int .i64 ((rd_T39 l0 x9_1).f1), .int .i64 ((rd_T39 l0 x9_1).f2)] 39 (0, 0)) (by (with_reducible repeat (first | refine blk_drewN ?_ _ | refine blk_drew ?_ | refine blk_alloc ?_ _)); refine blk_far ?_ NB673_674.out _; (with_reducible repeat (first | refine blk_drewN ?_ _ | refine blk_drew ?_ | refine blk_alloc ?_ _)); exact BK673.out) hg (Kd.R_ne HO_4.out BK673.out (by decide))); have n3_ := Aside0.mk (blk_grown (g := gb674) (o := .cells #[.int .i64 1, .int .i64 0] 37 (0, 0)) (by (with_reducible repeat (first | refine blk_drewN ?_ _ | refine blk_drew ?_ | refine blk_alloc ?_ _)); refine blk_put (cs := #[.int .i64 0, .int .i64 0]) ?_ 0 _ rfl; (with_reducible repeat (first | refine blk_drewN ?_ _ | refine blk_drew ?_ | refine blk_alloc ?_ _)); exact BK674.out) hg (Kd.R_away HO_4.out (fun _ hk => hk))); have n4_ := Aside0.mk (hb); have n5_ := Aside0.mk (ho); clear HO_7; clear HO_8; clear BK673; clear BK674; clear HB; clear HO_4; have HO_7 := n0_; have HO_8 := n1_; have BK673 := n2_; have BK674 := n3_; have HB := n4_; have HO710 := n5_; clear n0_ n1_ n2_ n3_ n4_ n5_; clear ho hb hg hat))
                       go_roundg kj93
                       case measure => have := HK1.out; have := HJ13.out; have := HJ24.out; have := HJ39.out; have := HJ61.out; have := HJ93.out; omega
                       case rel => exact ⟨(y708), (x5_1), (x6_1), (x7_1), (x8_1), (wrap64 (x9_1 + 1)), (by first | rfl | (simp; done) | (simp [*]; done)), (by first | rfl | (simp; done) | (simp [*]; done)), (by first | rfl | (simp; done) | (simp [*]; done)), H', ⟨by have := HK1.out; have := HJ13.out; have := HJ24.out; have := HJ39.out; have := HJ61.out; have := HJ93.out; omega⟩, ⟨by (with_reducible repeat (first | apply Kd.R_alloc | apply Kd.R_drewN | apply Kd.R_drew)); exact Kd.R_mono HO710.out (fun _ hk => trivial)⟩, ⟨zr HO_7.out⟩, ⟨zr HO_8.out⟩, ⟨by repeat (first | (with_reducible first | exact HB.out | apply below_alloc | apply pw_below_drewN | apply below_drew1 | refine below_set ?_ GE673.out | refine below_set ?_ GE674.out) | exact HB.out)⟩⟩
                      ·rw [if_neg c138] at H
                       cases H
      ·rw [if_neg c13] at H
       cases H
     ·rw [if_neg c12] at H
      have c12b0 : decide (x9_1 < (l0.length : Int)) = false := decide_eq_false c12
      clear c12
      simp only [Option.some.injEq, Prod.mk.injEq] at H
      obtain ⟨rfl, rfl⟩ := H
      as_aux_lemma =>
      go_wp2
      go_ret2
      exact ⟨_, by first | rfl | (simp [errW_none, errW_some] <;> rfl) | (simp [*, errW_none, errW_some] <;> rfl), by (with_reducible repeat (first | apply Kd.R_alloc | apply Kd.R_drewN | apply Kd.R_drew)); exact HO_4.out, zb⟩
  ·rw [if_neg c5] at H
   cases H

end Go.Proofs.Ytjnhbegppjeafaa.QFnLeases
