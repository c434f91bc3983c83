/- The functions that the law reaches, each as a plain Lean function with the proof that the Go code comes to its answers: written by a program of this session. No condition. -/
import Derived.Test.YtnicllekmkkhlaaQFnLogCutx0
import Derived.Test.YtnicllekmkkhlaaQFnLogCutx1
import Derived.Test.YtnicllekmkkhlaaQFnLogCutx4
import Derived.Test.YtnicllekmkkhlaaQFnLogCutx6
import Derived.Test.YtnicllekmkkhlaaQFnLogCutx7
import Derived.Test.YtnicllekmkkhlaaQFnLogCutx8
namespace Go.Proofs.Ytnicllekmkkhlaa.QFnLogCut
open Go.RowKit Go.Proofs.YtnicllekmkkhlaaW.PrintWords Go.Proofs.YtnicllekmkkhlaaW.PrintLast Go.Proofs.YtnicllekmkkhlaaW.PrintMore
attribute [local go_sem] max2_int min2_int max_two min_two max_three min_three max_four min_four str_gtr str_leq str_geq pw_at_slice   -- for this text's walks alone
set_option linter.unusedVariables false
set_option linter.unusedSimpArgs false

attribute [local go_sem high] eqA45
/-! ### laws_FnLogCut: function 6 -/
set_option maxRecDepth 100000 in
mutual
def laws_FnLogCut.j0 : Nat → List Int → List Int → Bool → Option (Bool)
  | 0, _, _, _ => none
  | k + 1, x0, x1, x28 => if x28 = true then (some true) else ((spec_DrawLogPack.f k x0).bind fun bt242 => ((impl_LogPack.f k bt242.1 bt242.2).bind fun bt246 => ((spec_LogPack.f k bt242.1 bt242.2).bind fun bt248 => (if bt246.2 = bt248.2 then (laws_FnLogCut.j1 k x1 bt242.1 bt242.2 bt246.1 bt246.2 (bt246.1.toList != bt248.1.toList)) else (laws_FnLogCut.j1 k x1 bt242.1 bt242.2 bt246.1 bt246.2 true)))))
def laws_FnLogCut.j1 : Nat → List Int → Int → List (S45) → ByteArray → Int → Bool → Option (Bool)
  | 0, _, _, _, _, _, _ => none
  | k + 1, x1, x5, x6, x7, x8, x53 => if x53 = true then (some false) else (if x8 = 0 then (laws_FnLogCut.j2 k x1 x5 x6 x7 ((x7.size : Int) == 0)) else (laws_FnLogCut.j2 k x1 x5 x6 x7 true))
def laws_FnLogCut.j2 : Nat → List Int → Int → List (S45) → ByteArray → Bool → Option (Bool)
  | 0, _, _, _, _, _ => none
  | k + 1, x1, x5, x6, x7, x60 => if x60 = true then (some true) else ((laws_pick.f x1 0 256).bind fun t250 => ((laws_pick.f x1 1 256).bind fun t251 => (if (wrap64 ((x7.size : Int) + 1)) = 0 then (none) else (if 0 ≤ (Int.tmod (wrap64 ((wrap64 (t250 * 256)) + t251)) (wrap64 ((x7.size : Int) + 1))) then (if (Int.tmod (wrap64 ((wrap64 (t250 * 256)) + t251)) (wrap64 ((x7.size : Int) + 1))) ≤ (x7.size : Int) then ((impl_LogScan.f k (x7.extract 0 ((Int.tmod (wrap64 ((wrap64 (t250 * 256)) + t251)) (wrap64 ((x7.size : Int) + 1))) : Int).toNat) x5).bind fun bt252 => (if bt252.2 > (Int.tmod (wrap64 ((wrap64 (t250 * 256)) + t251)) (wrap64 ((x7.size : Int) + 1))) then (laws_FnLogCut.j3 k x1 x5 x6 x7 (Int.tmod (wrap64 ((wrap64 (t250 * 256)) + t251)) (wrap64 ((x7.size : Int) + 1))) bt252.1 bt252.2 true) else (laws_FnLogCut.j3 k x1 x5 x6 x7 (Int.tmod (wrap64 ((wrap64 (t250 * 256)) + t251)) (wrap64 ((x7.size : Int) + 1))) bt252.1 bt252.2 (decide ((bt252.1.length : Int) > (x6.length : Int)))))) else (none)) else (none)))))
def laws_FnLogCut.j3 : Nat → List Int → Int → List (S45) → ByteArray → Int → List (S45) → Int → Bool → Option (Bool)
  | 0, _, _, _, _, _, _, _, _ => none
  | k + 1, x1, x5, x6, x7, x11, x12, x13, x89 => if x89 = true then (some false) else (laws_FnLogCut.l0 k x1 x5 x6 x7 x11 x12 x13 0)
def laws_FnLogCut.l0 : Nat → List Int → Int → List (S45) → ByteArray → Int → List (S45) → Int → Int → Option (Bool)
  | 0, _, _, _, _, _, _, _, _ => none
  | k + 1, x1, x5, x6, x7, x11, x12, x13, x14 => if x14 < (x12.length : Int) then (if 0 ≤ x14 then (if x14 < (x6.length : Int) then (if (!(((rd_T45 x12 x14).f0) == ((rd_T45 x6 x14).f0)) || (!((((rd_T45 x12 x14).f1).toList) == (((rd_T45 x6 x14).f1).toList)))) = true then (some false) else (laws_FnLogCut.l0 k x1 x5 x6 x7 x11 x12 x13 (wrap64 (x14 + 1)))) else (none)) else (none)) else (if 0 ≤ (x12.length : Int) then (if (x12.length : Int) ≤ (x6.length : Int) then ((spec_LogPack.f k x5 (x6.take ((x12.length : Int) : Int).toNat)).bind fun bt262 => (if bt262.2 = 0 then (if (bt262.1.size : Int) = x13 then (if x11 = (x7.size : Int) then (laws_FnLogCut.j5 k x1 x5 x6 x7 ((x12.length : Int) != (x6.length : Int))) else (laws_FnLogCut.j5 k x1 x5 x6 x7 false)) else (laws_FnLogCut.j5 k x1 x5 x6 x7 true)) else (laws_FnLogCut.j5 k x1 x5 x6 x7 true))) else (none)) else (none))
def laws_FnLogCut.j5 : Nat → List Int → Int → List (S45) → ByteArray → Bool → Option (Bool)
  | 0, _, _, _, _, _ => none
  | k + 1, x1, x5, x6, x7, x134 => if x134 = true then (some false) else ((laws_pick.f x1 2 4).bind fun t264 => (if 0 ≤ (wrap64 ((wrap64 ((x7.size : Int) - 1)) - t264)) then (if (wrap64 ((wrap64 ((x7.size : Int) - 1)) - t264)) ≤ (x7.size : Int) then (if (wrap64 ((wrap64 ((x7.size : Int) - 1)) - t264)) < (x7.size : Int) then ((laws_pick.f x1 3 8).bind fun t265 => (if 0 ≤ (IntKind.u64.wrap (t265)) then ((some (([Go.bits .xor .u8 (bt x7 (wrap64 ((wrap64 ((x7.size : Int) - 1)) - t264))) (shl .u8 1 (IntKind.u64.wrap (t265)))] : List Int) : List Int)).bind fun y266 => (if (x7.extract 0 ((wrap64 ((wrap64 ((x7.size : Int) - 1)) - t264)) : Int).toNat).size + (strOfNums y266).size ≤ 9223372036854775807 then (if 0 ≤ (wrap64 ((wrap64 ((wrap64 ((x7.size : Int) - 1)) - t264)) + 1)) then (if (wrap64 ((wrap64 ((wrap64 ((x7.size : Int) - 1)) - t264)) + 1)) ≤ (x7.size : Int) then (if ((x7.extract 0 ((wrap64 ((wrap64 ((x7.size : Int) - 1)) - t264)) : Int).toNat) ++ (strOfNums y266)).size + (x7.extract ((wrap64 ((wrap64 ((wrap64 ((x7.size : Int) - 1)) - t264)) + 1)) : Int).toNat x7.size).size ≤ 9223372036854775807 then ((impl_LogScan.f k (((x7.extract 0 ((wrap64 ((wrap64 ((x7.size : Int) - 1)) - t264)) : Int).toNat) ++ (strOfNums y266)) ++ (x7.extract ((wrap64 ((wrap64 ((wrap64 ((x7.size : Int) - 1)) - t264)) + 1)) : Int).toNat x7.size)) x5).bind fun bt269 => (if 0 ≤ (wrap64 ((x6.length : Int) - 1)) then (if (wrap64 ((x6.length : Int) - 1)) ≤ (x6.length : Int) then ((spec_LogPack.f k x5 (x6.take ((wrap64 ((x6.length : Int) - 1)) : Int).toNat)).bind fun bt277 => (if bt277.2 = 0 then (if bt269.2 = (bt277.1.size : Int) then (some ((bt269.1.length : Int) == (wrap64 ((x6.length : Int) - 1)))) else (some false)) else (some false))) else (none)) else (none))) else (none)) else (none)) else (none)) else (none))) else (none))) else (none)) else (none)) else (none)))
end
def laws_FnLogCut.f (k : Nat) (l0 : List Int) (l1 : List Int) : Option (Bool) := (laws_big.f l0).bind fun t240 => (if t240 = true then (laws_FnLogCut.j0 k l0 l1 true) else ((laws_big.f l1).bind fun t241 => (laws_FnLogCut.j0 k l0 l1 t241)))
theorem laws_FnLogCut.mono_l : ∀ k, (∀ y0 y1 y2, LeO (laws_FnLogCut.j0 k y0 y1 y2) (laws_FnLogCut.j0 (k + 1) y0 y1 y2)) ∧ (∀ y0 y1 y2 y3 y4 y5, LeO (laws_FnLogCut.j1 k y0 y1 y2 y3 y4 y5) (laws_FnLogCut.j1 (k + 1) y0 y1 y2 y3 y4 y5)) ∧ (∀ y0 y1 y2 y3 y4, LeO (laws_FnLogCut.j2 k y0 y1 y2 y3 y4) (laws_FnLogCut.j2 (k + 1) y0 y1 y2 y3 y4)) ∧ (∀ y0 y1 y2 y3 y4 y5 y6 y7, LeO (laws_FnLogCut.j3 k y0 y1 y2 y3 y4 y5 y6 y7) (laws_FnLogCut.j3 (k + 1) y0 y1 y2 y3 y4 y5 y6 y7)) ∧ (∀ y0 y1 y2 y3 y4 y5 y6 y7, LeO (laws_FnLogCut.l0 k y0 y1 y2 y3 y4 y5 y6 y7) (laws_FnLogCut.l0 (k + 1) y0 y1 y2 y3 y4 y5 y6 y7)) ∧ (∀ y0 y1 y2 y3 y4, LeO (laws_FnLogCut.j5 k y0 y1 y2 y3 y4) (laws_FnLogCut.j5 (k + 1) y0 y1 y2 y3 y4))
  | 0 => ⟨fun _ _ _ r h => by simp [laws_FnLogCut.j0] at h, fun _ _ _ _ _ _ r h => by simp [laws_FnLogCut.j1] at h, fun _ _ _ _ _ r h => by simp [laws_FnLogCut.j2] at h, fun _ _ _ _ _ _ _ _ r h => by simp [laws_FnLogCut.j3] at h, fun _ _ _ _ _ _ _ _ r h => by simp [laws_FnLogCut.l0] at h, fun _ _ _ _ _ r h => by simp [laws_FnLogCut.j5] at h⟩
  | k + 1 => by
    obtain ⟨ih0, ih1, ih2, ih3, ih4, ih5⟩ := laws_FnLogCut.mono_l k
    refine ⟨?_, ?_, ?_, ?_, ?_, ?_⟩
    · intro y0 y1 y2
      unfold laws_FnLogCut.j0
      repeat' first
      | (with_reducible exact ih0 _ _ _)
      | (with_reducible exact ih1 _ _ _ _ _ _)
      | (with_reducible exact ih2 _ _ _ _ _)
      | (with_reducible exact ih3 _ _ _ _ _ _ _ _)
      | (with_reducible exact ih4 _ _ _ _ _ _ _ _)
      | (with_reducible exact ih5 _ _ _ _ _)
      | (with_reducible exact impl_LogPack.mono _ _ _)
      | (with_reducible exact impl_LogScan.mono _ _ _)
      | (with_reducible exact spec_DrawLogPack.mono _ _)
      | (with_reducible exact spec_LogPack.mono _ _ _)
      | (with_reducible exact LeO.refl _)
      | (with_reducible exact LeO.none _)
      | (with_reducible refine LeO.ite ?_ ?_)
      | (with_reducible refine LeO.bind ?_ (fun _ => ?_))
      | exact ih0 _ _ _
      | exact ih1 _ _ _ _ _ _
      | exact ih2 _ _ _ _ _
      | exact ih3 _ _ _ _ _ _ _ _
      | exact ih4 _ _ _ _ _ _ _ _
      | exact ih5 _ _ _ _ _
      | exact impl_LogPack.mono _ _ _
      | exact impl_LogScan.mono _ _ _
      | exact spec_DrawLogPack.mono _ _
      | exact spec_LogPack.mono _ _ _
      | exact LeO.none _
      | refine LeO.ite ?_ ?_
      | refine LeO.bind ?_ (fun _ => ?_)
    · intro y0 y1 y2 y3 y4 y5
      unfold laws_FnLogCut.j1
      repeat' first
      | (with_reducible exact ih0 _ _ _)
      | (with_reducible exact ih1 _ _ _ _ _ _)
      | (with_reducible exact ih2 _ _ _ _ _)
      | (with_reducible exact ih3 _ _ _ _ _ _ _ _)
      | (with_reducible exact ih4 _ _ _ _ _ _ _ _)
      | (with_reducible exact ih5 _ _ _ _ _)
      | (with_reducible exact impl_LogPack.mono _ _ _)
      | (with_reducible exact impl_LogScan.mono _ _ _)
      | (with_reducible exact spec_DrawLogPack.mono _ _)
      | (with_reducible exact spec_LogPack.mono _ _ _)
      | (with_reducible exact LeO.refl _)
      | (with_reducible exact LeO.none _)
      | (with_reducible refine LeO.ite ?_ ?_)
      | (with_reducible refine LeO.bind ?_ (fun _ => ?_))
      | exact ih0 _ _ _
      | exact ih1 _ _ _ _ _ _
      | exact ih2 _ _ _ _ _
      | exact ih3 _ _ _ _ _ _ _ _
      | exact ih4 _ _ _ _ _ _ _ _
      | exact ih5 _ _ _ _ _
      | exact impl_LogPack.mono _ _ _
      | exact impl_LogScan.mono _ _ _
      | exact spec_DrawLogPack.mono _ _
      | exact spec_LogPack.mono _ _ _
      | exact LeO.none _
      | refine LeO.ite ?_ ?_
      | refine LeO.bind ?_ (fun _ => ?_)
    · intro y0 y1 y2 y3 y4
      unfold laws_FnLogCut.j2
      repeat' first
      | (with_reducible exact ih0 _ _ _)
      | (with_reducible exact ih1 _ _ _ _ _ _)
      | (with_reducible exact ih2 _ _ _ _ _)
      | (with_reducible exact ih3 _ _ _ _ _ _ _ _)
      | (with_reducible exact ih4 _ _ _ _ _ _ _ _)
      | (with_reducible exact ih5 _ _ _ _ _)
      | (with_reducible exact impl_LogPack.mono _ _ _)
      | (with_reducible exact impl_LogScan.mono _ _ _)
      | (with_reducible exact spec_DrawLogPack.mono _ _)
      | (with_reducible exact spec_LogPack.mono _ _ _)
      | (with_reducible exact LeO.refl _)
      | (with_reducible exact LeO.none _)
      | (with_reducible refine LeO.ite ?_ ?_)
      | (with_reducible refine LeO.bind ?_ (fun _ => ?_))
      | exact ih0 _ _ _
      | exact ih1 _ _ _ _ _ _
      | exact ih2 _ _ _ _ _
      | exact ih3 _ _ _ _ _ _ _ _
      | exact ih4 _ _ _ _ _ _ _ _
      | exact ih5 _ _ _ _ _
      | exact impl_LogPack.mono _ _ _
      | exact impl_LogScan.mono _ _ _
      | exact spec_DrawLogPack.mono _ _
      | exact spec_LogPack.mono _ _ _
      | exact LeO.none _
      | refine LeO.ite ?_ ?_
      | refine LeO.bind ?_ (fun _ => ?_)
    · intro y0 y1 y2 y3 y4 y5 y6 y7
      unfold laws_FnLogCut.j3
      repeat' first
      | (with_reducible exact ih0 _ _ _)
      | (with_reducible exact ih1 _ _ _ _ _ _)
      | (with_reducible exact ih2 _ _ _ _ _)
      | (with_reducible exact ih3 _ _ _ _ _ _ _ _)
      | (with_reducible exact ih4 _ _ _ _ _ _ _ _)
      | (with_reducible exact ih5 _ _ _ _ _)
      | (with_reducible exact impl_LogPack.mono _ _ _)
      | (with_reducible exact impl_LogScan.mono _ _ _)
      | (with_reducible exact spec_DrawLogPack.mono _ _)
      | (with_reducible exact spec_LogPack.mono _ _ _)
      | (with_reducible exact LeO.refl _)
      | (with_reducible exact LeO.none _)
      | (with_reducible refine LeO.ite ?_ ?_)
      | (with_reducible refine LeO.bind ?_ (fun _ => ?_))
      | exact ih0 _ _ _
      | exact ih1 _ _ _ _ _ _
      | exact ih2 _ _ _ _ _
      | exact ih3 _ _ _ _ _ _ _ _
      | exact ih4 _ _ _ _ _ _ _ _
      | exact ih5 _ _ _ _ _
      | exact impl_LogPack.mono _ _ _
      | exact impl_LogScan.mono _ _ _
      | exact spec_DrawLogPack.mono _ _
      | exact spec_LogPack.mono _ _ _
      | exact LeO.none _
      | refine LeO.ite ?_ ?_
      | refine LeO.bind ?_ (fun _ => ?_)
    · intro y0 y1 y2 y3 y4 y5 y6 y7
      unfold laws_FnLogCut.l0
      repeat' first
      | (with_reducible exact ih0 _ _ _)
      | (with_reducible exact ih1 _ _ _ _ _ _)
      | (with_reducible exact ih2 _ _ _ _ _)
      | (with_reducible exact ih3 _ _ _ _ _ _ _ _)
      | (with_reducible exact ih4 _ _ _ _ _ _ _ _)
      | (with_reducible exact ih5 _ _ _ _ _)
      | (with_reducible exact impl_LogPack.mono _ _ _)
      | (with_reducible exact impl_LogScan.mono _ _ _)
      | (with_reducible exact spec_DrawLogPack.mono _ _)
      | (with_reducible exact spec_LogPack.mono _ _ _)
      | (with_reducible exact LeO.refl _)
      | (with_reducible exact LeO.none _)
      | (with_reducible refine LeO.ite ?_ ?_)
      | (with_reducible refine LeO.bind ?_ (fun _ => ?_))
      | exact ih0 _ _ _
      | exact ih1 _ _ _ _ _ _
      | exact ih2 _ _ _ _ _
      | exact ih3 _ _ _ _ _ _ _ _
      | exact ih4 _ _ _ _ _ _ _ _
      | exact ih5 _ _ _ _ _
      | exact impl_LogPack.mono _ _ _
      | exact impl_LogScan.mono _ _ _
      | exact spec_DrawLogPack.mono _ _
      | exact spec_LogPack.mono _ _ _
      | exact LeO.none _
      | refine LeO.ite ?_ ?_
      | refine LeO.bind ?_ (fun _ => ?_)
    · intro y0 y1 y2 y3 y4
      unfold laws_FnLogCut.j5
      repeat' first
      | (with_reducible exact ih0 _ _ _)
      | (with_reducible exact ih1 _ _ _ _ _ _)
      | (with_reducible exact ih2 _ _ _ _ _)
      | (with_reducible exact ih3 _ _ _ _ _ _ _ _)
      | (with_reducible exact ih4 _ _ _ _ _ _ _ _)
      | (with_reducible exact ih5 _ _ _ _ _)
      | (with_reducible exact impl_LogPack.mono _ _ _)
      | (with_reducible exact impl_LogScan.mono _ _ _)
      | (with_reducible exact spec_DrawLogPack.mono _ _)
      | (with_reducible exact spec_LogPack.mono _ _ _)
      | (with_reducible exact LeO.refl _)
      | (with_reducible exact LeO.none _)
      | (with_reducible refine LeO.ite ?_ ?_)
      | (with_reducible refine LeO.bind ?_ (fun _ => ?_))
      | exact ih0 _ _ _
      | exact ih1 _ _ _ _ _ _
      | exact ih2 _ _ _ _ _
      | exact ih3 _ _ _ _ _ _ _ _
      | exact ih4 _ _ _ _ _ _ _ _
      | exact ih5 _ _ _ _ _
      | exact impl_LogPack.mono _ _ _
      | exact impl_LogScan.mono _ _ _
      | exact spec_DrawLogPack.mono _ _
      | exact spec_LogPack.mono _ _ _
      | exact LeO.none _
      | refine LeO.ite ?_ ?_
      | refine LeO.bind ?_ (fun _ => ?_)
theorem laws_FnLogCut.mono : ∀ a0 a1 k, LeO (laws_FnLogCut.f k a0 a1) (laws_FnLogCut.f (k + 1) a0 a1) := by
  intro a0 a1 k
  obtain ⟨ih0, ih1, ih2, ih3, ih4, ih5⟩ := laws_FnLogCut.mono_l k
  unfold laws_FnLogCut.f
  repeat' first
      | (with_reducible exact ih0 _ _ _)
      | (with_reducible exact ih1 _ _ _ _ _ _)
      | (with_reducible exact ih2 _ _ _ _ _)
      | (with_reducible exact ih3 _ _ _ _ _ _ _ _)
      | (with_reducible exact ih4 _ _ _ _ _ _ _ _)
      | (with_reducible exact ih5 _ _ _ _ _)
      | (with_reducible exact impl_LogPack.mono _ _ _)
      | (with_reducible exact impl_LogScan.mono _ _ _)
      | (with_reducible exact spec_DrawLogPack.mono _ _)
      | (with_reducible exact spec_LogPack.mono _ _ _)
      | (with_reducible exact LeO.refl _)
      | (with_reducible exact LeO.none _)
      | (with_reducible refine LeO.ite ?_ ?_)
      | (with_reducible refine LeO.bind ?_ (fun _ => ?_))
      | exact ih0 _ _ _
      | exact ih1 _ _ _ _ _ _
      | exact ih2 _ _ _ _ _
      | exact ih3 _ _ _ _ _ _ _ _
      | exact ih4 _ _ _ _ _ _ _ _
      | exact ih5 _ _ _ _ _
      | exact impl_LogPack.mono _ _ _
      | exact impl_LogScan.mono _ _ _
      | exact spec_DrawLogPack.mono _ _
      | exact spec_LogPack.mono _ _ _
      | exact LeO.none _
      | refine LeO.ite ?_ ?_
      | refine LeO.bind ?_ (fun _ => ?_)
def laws_FnLogCut.T18 : Bool × List (List Nat × List Nat) := (true, [([], []), ([], []), ([0, 1], [0, 1]), ([2], [2]), ([], []), ([], []), ([4, 5], [4, 5]), ([6], [6]), ([3, 7], [3, 7])])
def laws_FnLogCut.B18 : List Nat := [0, 0, 3, 7, 0, 0, 48, 112, 255]
theorem laws_FnLogCut.tab18 : rtab .any (opsOf Try.f6 18) = laws_FnLogCut.T18 := by kernel_rfl
theorem laws_FnLogCut.bits18 : waitsOk laws_FnLogCut.T18.2 laws_FnLogCut.B18 = true := by kernel_rfl
def laws_FnLogCut.T24 : Bool × List (List Nat × List Nat) := (true, [([], []), ([], []), ([0, 1], [0, 1]), ([], []), ([], []), ([3, 4], [3, 4]), ([], []), ([6], [6]), ([7], [7]), ([8], [8]), ([5, 9], [5, 9]), ([10], [10]), ([11], [11]), ([2, 12], [2, 12]), ([], []), ([], []), ([15], [15]), ([14, 16], [14, 16]), ([13, 17], [13, 17]), ([18, 7, 0, 1, 2, 3, 4, 5, 6, 7, 8, 9, 10, 11, 12, 13, 14, 15, 16, 17, 18], [18])])
def laws_FnLogCut.B24 : List Nat := [0, 0, 3, 0, 0, 24, 0, 64, 192, 448, 1016, 2040, 4088, 8191, 0, 0, 32768, 114688, 262143, 524287]
theorem laws_FnLogCut.tab24 : rtab .any (opsOf Try.f6 24) = laws_FnLogCut.T24 := by kernel_rfl
theorem laws_FnLogCut.bits24 : waitsOk laws_FnLogCut.T24.2 laws_FnLogCut.B24 = true := by kernel_rfl
set_option maxHeartbeats 8000000 in
set_option maxRecDepth 100000 in
theorem laws_FnLogCut.calls (k : Nat) (A0 : Option Addr) (c0 : Nat) (l0 : List Int) (A1 : Option Addr) (c1 : Nat) (l1 : List Int) (r : Bool) (w : World) (hr0 : Kd.C (Kd.int .u8) w A0 l0.length l0) (hc0 : l0.length ≤ c0) (hr1 : Kd.C (Kd.int .u8) w A1 l1.length l1) (hc1 : l1.length ≤ c1) (h : laws_FnLogCut.f k l0 l1 = some r) (ht_ : r = true) :
    Calls Try.prog 6 #[.slice A0 l0.length c0, .slice A1 l1.length c1] w fun e w' => e = .returned (.bool r) ∧ Below w.heap.size w w' := by
  have hu45 := Try.underlying45
  have HR0 := Aside0.mk hr0
  have HC0 := Aside0.mk hc0
  clear hr0 hc0
  have HR1 := Aside0.mk hr1
  have HC1 := Aside0.mk hc1
  clear hr1 hc1
  have HB := Aside0.mk (Below.refl w.heap.size w)
  have HT9_ := Aside0.mk ht_
  clear ht_
  have H : ((laws_big.f l0).bind fun t240 => (if t240 = true then (laws_FnLogCut.j0 k l0 l1 true) else ((laws_big.f l1).bind fun t241 => (laws_FnLogCut.j0 k l0 l1 t241)))) = some r := h
  clear h
  have HC3 := Aside0.mk H
  clear H
  go_enter Try.func6, Try.ntmps6
  go_upto_region 1 with (fail)
  go_cut [28] (fun v28 wc => ∃ (kq : Nat) (x28_2 : Bool), v28 = .bool x28_2 ∧ Aside0 (laws_FnLogCut.j0 kq l0 l1 x28_2 = some r) ∧ Aside0 (kq ≤ k) ∧ Aside0 (Below w.heap.size w wc))
  case first =>
    have H := HC3.out
    clear HC3
    replace H := Option.bind_eq_some_iff.mp H
    obtain ⟨t240, A40, H⟩ := H
    replace H : (if t240 = true then (laws_FnLogCut.j0 k l0 l1 true) else ((laws_big.f l1).bind fun t241 => (laws_FnLogCut.j0 k l0 l1 t241))) = some r := H
    have A4 := Aside0.mk A40
    clear A40
    by_cases c5 : t240 = true
    · subst c5
      have H1 : (laws_FnLogCut.j0 k l0 l1 true) = some r := by rw [if_pos rfl] at H; exact H
      clear H
      have H := H1
      clear H1
      have H' := Aside0.mk H
      clear H
      go_wp2_with (first | ((with_reducible refine gate_callee (f := 20) rfl ?_); refine goesL_ (some 24) rfl rfl Try.func20 (by kernel_rfl) rfl #[.slice A0 l0.length c0] rfl (by (try simp only [List.map_toArray, List.map_cons, List.map_nil]); first | done | rfl | (simp only [List.length_drop, List.length_take]; rfl)) ?_; (with_reducible refine (laws_big.calls _ _ l0 true _ ?side1 ?side2 A4.out).mono ?_); (case side1 => repeat (first | exact (Kd.C_below HR0.out HB.out) | (with_reducible refine Kd.C_alloc ?_ _) | (with_reducible refine Kd.C_drewN ?_ _) | (with_reducible refine Kd.C_drew ?_))); (case side2 => exact HC0.out); rintro e w' ⟨rfl, ⟨nd, rfl⟩⟩; refine ⟨_, rfl, ?_⟩))
      go_meet
      case rel => exact ⟨_, (true), (by first | rfl | (simp; done) | (simp [*]; done)), H', ⟨by first | omega | exact Nat.le_refl _⟩, ⟨by repeat (first | (with_reducible first | exact HB.out | apply below_alloc | apply pw_below_drewN | apply below_drew1) | exact HB.out)⟩⟩
    · replace c5 := Bool.eq_false_iff.mpr c5
      subst c5
      have H1 : ((laws_big.f l1).bind fun t241 => (laws_FnLogCut.j0 k l0 l1 t241)) = some r := by rw [if_neg (show ¬ (false = true) by decide)] at H; exact H
      clear H
      have H := H1
      clear H1
      replace H := Option.bind_eq_some_iff.mp H
      obtain ⟨t241, A60, H⟩ := H
      replace H : (laws_FnLogCut.j0 k l0 l1 t241) = some r := H
      have A6 := Aside0.mk A60
      clear A60
      have H' := Aside0.mk H
      clear H
      go_wp2_with (first | ((with_reducible refine gate_callee (f := 20) rfl ?_); refine goesL_ (some 24) rfl rfl Try.func20 (by kernel_rfl) rfl #[.slice A0 l0.length c0] rfl (by (try simp only [List.map_toArray, List.map_cons, List.map_nil]); first | done | rfl | (simp only [List.length_drop, List.length_take]; rfl)) ?_; (with_reducible refine (laws_big.calls _ _ l0 false _ ?side1 ?side2 A4.out).mono ?_); (case side1 => repeat (first | exact (Kd.C_below HR0.out HB.out) | (with_reducible refine Kd.C_alloc ?_ _) | (with_reducible refine Kd.C_drewN ?_ _) | (with_reducible refine Kd.C_drew ?_))); (case side2 => exact HC0.out); rintro e w' ⟨rfl, ⟨nd, rfl⟩⟩; refine ⟨_, rfl, ?_⟩) | (go_at_call 20; (with_reducible refine (laws_big.calls _ _ l1 t241 _ ?side1 ?side2 A6.out).mono ?_); (case side1 => repeat (first | exact (Kd.C_below HR1.out (by repeat (first | (with_reducible first | exact HB.out | apply below_alloc | apply pw_below_drewN | apply below_drew1) | exact HB.out))) | (with_reducible refine Kd.C_alloc ?_ _) | (with_reducible refine Kd.C_drewN ?_ _) | (with_reducible refine Kd.C_drew ?_))); (case side2 => exact HC1.out); rintro e w' ⟨rfl, ⟨nd, rfl⟩⟩))
      go_meet
      case rel => exact ⟨_, (t241), (by first | rfl | (simp; done) | (simp [*]; done)), H', ⟨by first | omega | exact Nat.le_refl _⟩, ⟨by repeat (first | (with_reducible first | exact HB.out | apply below_alloc | apply pw_below_drewN | apply below_drew1) | exact HB.out)⟩⟩
  case rest =>
    clear HC3
    try clear c1
    try clear c2
    try clear p2
    try clear c5
    try clear c6
    obtain ⟨kq, x28_2, rfl, HA, HJ2, HB⟩ := hcut
    cases kq with
    | zero => exact absurd HA.out (by simp [laws_FnLogCut.j0])
    | succ kj2 =>
      have H := HA.out
      clear HA
      simp only [laws_FnLogCut.j0] at H
      by_cases c7 : x28_2 = true
      · subst c7
        have H1 : (some true) = some r := by rw [if_pos rfl] at H; exact H
        clear H
        have H := H1
        clear H1
        obtain rfl := Option.some.inj H
        go_wp2
        go_ret
        exact ⟨by first | rfl | (simp [errW_none, errW_some] <;> rfl) | (simp [*, errW_none, errW_some] <;> rfl), by repeat (first | (with_reducible first | exact HB.out | apply below_alloc | apply pw_below_drewN | apply below_drew1) | exact HB.out)⟩
      · replace c7 := Bool.eq_false_iff.mpr c7
        subst c7
        have H1 : ((spec_DrawLogPack.f kj2 l0).bind fun bt242 => ((impl_LogPack.f kj2 bt242.1 bt242.2).bind fun bt246 => ((spec_LogPack.f kj2 bt242.1 bt242.2).bind fun bt248 => (if bt246.2 = bt248.2 then (laws_FnLogCut.j1 kj2 l1 bt242.1 bt242.2 bt246.1 bt246.2 (bt246.1.toList != bt248.1.toList)) else (laws_FnLogCut.j1 kj2 l1 bt242.1 bt242.2 bt246.1 bt246.2 true))))) = some r := by rw [if_neg (show ¬ (false = true) by decide)] at H; exact H
        clear H
        have H := H1
        clear H1
        replace H := Option.bind_eq_some_iff.mp H
        obtain ⟨⟨t242, t243⟩, A80, H⟩ := H
        replace H : ((impl_LogPack.f kj2 t242 t243).bind fun bt246 => ((spec_LogPack.f kj2 t242 t243).bind fun bt248 => (if bt246.2 = bt248.2 then (laws_FnLogCut.j1 kj2 l1 t242 t243 bt246.1 bt246.2 (bt246.1.toList != bt248.1.toList)) else (laws_FnLogCut.j1 kj2 l1 t242 t243 bt246.1 bt246.2 true)))) = some r := H
        have A8 := Aside0.mk A80
        clear A80
        replace H := Option.bind_eq_some_iff.mp H
        obtain ⟨⟨t246, t247⟩, A90, H⟩ := H
        replace H : ((spec_LogPack.f kj2 t242 t243).bind fun bt248 => (if t247 = bt248.2 then (laws_FnLogCut.j1 kj2 l1 t242 t243 t246 t247 (t246.toList != bt248.1.toList)) else (laws_FnLogCut.j1 kj2 l1 t242 t243 t246 t247 true))) = some r := H
        have A9 := Aside0.mk A90
        clear A90
        replace H := Option.bind_eq_some_iff.mp H
        obtain ⟨⟨t248, t249⟩, A100, H⟩ := H
        replace H : (if t247 = t249 then (laws_FnLogCut.j1 kj2 l1 t242 t243 t246 t247 (t246.toList != t248.toList)) else (laws_FnLogCut.j1 kj2 l1 t242 t243 t246 t247 true)) = some r := H
        have A10 := Aside0.mk A100
        clear A100
        have HC11 := Aside0.mk H
        clear H
        go_upto_region 6 with (first | ((with_reducible refine gate_callee (f := 21) rfl ?_); refine goesL_ (some 31) rfl rfl Try.func21 (by kernel_rfl) rfl #[.slice A0 l0.length c0] rfl (by (try simp only [List.map_toArray, List.map_cons, List.map_nil]); first | done | rfl | (simp only [List.length_drop, List.length_take]; rfl)) ?_; (with_reducible refine (spec_DrawLogPack.calls kj2 _ _ l0 t242 t243 _ ?side1 ?side2 A8.out).mono ?_); (case side1 => repeat (first | exact (Kd.C_below HR0.out HB.out) | (with_reducible refine Kd.C_alloc ?_ _) | (with_reducible refine Kd.C_drewN ?_ _) | (with_reducible refine Kd.C_drew ?_))); (case side2 => exact HC0.out); rintro e w12 ⟨v244, rfl, ho0, hb⟩; refine ⟨_, rfl, ?_⟩; have n0_ := Aside0.mk (Kd.R_lower ho0 (below_size (by repeat (first | (with_reducible first | exact HB.out | apply below_alloc | apply pw_below_drewN | apply below_drew1) | exact HB.out)))); have n1_ := Aside0.mk (below_step (by repeat (first | (with_reducible first | exact HB.out | apply below_alloc | apply pw_below_drewN | apply below_drew1) | exact HB.out)) hb); clear HB; have HO245 := n0_; have HB := n1_; clear n0_ n1_; (try clear hb); (try clear hb2); (try clear hk); (try clear hi); (try clear ho0); obtain ⟨Ao13, co13, eo13⟩ := Kd.R_slice HO245.out; subst eo13) | ((with_reducible refine gate_callee (f := 18) rfl ?_); refine goesL_ (some 37) rfl rfl Try.func18 (by kernel_rfl) rfl #[.int .i64 t242, .slice Ao13 t243.length co13] rfl (by (try simp only [List.map_toArray, List.map_cons, List.map_nil]); first | done | rfl | (simp only [List.length_drop, List.length_take]; rfl)) ?_; (with_reducible refine (impl_LogPack.calls kj2 t242 _ _ t243 t246 t247 _ ?side1 ?side2 A9.out).mono ?_); (case side1 => repeat (first | exact (Kd.R_reads' HO245.out).2.2 | (with_reducible refine Kd.C_alloc ?_ _) | (with_reducible refine Kd.C_drewN ?_ _) | (with_reducible refine Kd.C_drew ?_))); (case side2 => exact (Kd.R_reads' HO245.out).2.1); rintro e w14 ⟨rfl, hb⟩; refine ⟨_, rfl, ?_⟩; have n0_ := Aside0.mk (Kd.R_below (by (with_reducible repeat (first | apply Kd.R_alloc | apply Kd.R_drewN | apply Kd.R_drew)); exact HO245.out) hb); have n1_ := Aside0.mk (below_step (by repeat (first | (with_reducible first | exact HB.out | apply below_alloc | apply pw_below_drewN | apply below_drew1) | exact HB.out)) hb); clear HO245; clear HB; have HO245 := n0_; have HB := n1_; clear n0_ n1_; (try clear hb); (try clear hb2); (try clear hk); (try clear hi)) | ((with_reducible refine gate_callee (f := 16) rfl ?_); refine goesL_ (some 43) rfl rfl Try.func16 (by kernel_rfl) rfl #[.int .i64 t242, .slice Ao13 t243.length co13] rfl (by (try simp only [List.map_toArray, List.map_cons, List.map_nil]); first | done | rfl | (simp only [List.length_drop, List.length_take]; rfl)) ?_; (with_reducible refine (spec_LogPack.calls kj2 t242 _ _ t243 t248 t249 _ ?side1 ?side2 A10.out).mono ?_); (case side1 => repeat (first | exact (Kd.R_reads' HO245.out).2.2 | (with_reducible refine Kd.C_alloc ?_ _) | (with_reducible refine Kd.C_drewN ?_ _) | (with_reducible refine Kd.C_drew ?_))); (case side2 => exact (Kd.R_reads' HO245.out).2.1); rintro e w15 ⟨rfl, hb⟩; refine ⟨_, rfl, ?_⟩; have n0_ := Aside0.mk (Kd.R_below (by (with_reducible repeat (first | apply Kd.R_alloc | apply Kd.R_drewN | apply Kd.R_drew)); exact HO245.out) hb); have n1_ := Aside0.mk (below_step (by repeat (first | (with_reducible first | exact HB.out | apply below_alloc | apply pw_below_drewN | apply below_drew1) | exact HB.out)) hb); clear HO245; clear HB; have HO245 := n0_; have HB := n1_; clear n0_ n1_; (try clear hb); (try clear hb2); (try clear hk); (try clear hi)))
        (try simp only [Act.put, List.setIfInBounds_toArray, List.set_cons_zero, List.set_cons_succ])
        go_cut [53] (fun v53 wc => ∃ (kq : Nat) (x53_10 : Bool), v53 = .bool x53_10 ∧ Aside0 (laws_FnLogCut.j1 kq l1 t242 t243 t246 t247 x53_10 = some r) ∧ Aside0 (kq ≤ kj2) ∧ Aside0 (Kd.R k45 45 wc w.heap.size (fun _ => True) (.slice Ao13 t243.length co13) t243) ∧ Aside0 (Below w.heap.size w wc))
        case first =>
          have H := HC11.out
          clear HC11
          by_cases c16 : t247 = t249
          · rw [if_pos c16] at H
            have c16b0 : (t247 == t249) = true := beq_iff_eq.mpr c16
            have c16b1 : (t247 != t249) = false := bne_eq_false_iff_eq.mpr c16
            clear c16
            (first | rw [c16b0] | (simp only [i64_w, i32_w]; rw [c16b0]) | skip)
            have H' := Aside0.mk H
            clear H
            go_wp2
            go_meet
            case rel => exact ⟨_, ((t246.toList != t248.toList)), (by first | rfl | (simp; done) | (simp [*]; done)), H', ⟨by have := HJ2.out; first | omega | exact Nat.le_refl _⟩, ⟨by (with_reducible repeat (first | apply Kd.R_alloc | apply Kd.R_drewN | apply Kd.R_drew)); exact HO245.out⟩, ⟨by repeat (first | (with_reducible first | exact HB.out | apply below_alloc | apply pw_below_drewN | apply below_drew1) | exact HB.out)⟩⟩
          · rw [if_neg c16] at H
            have c16b0 : (t247 == t249) = false := beq_eq_false_iff_ne.mpr c16
            have c16b1 : (t247 != t249) = true := bne_iff_ne.mpr c16
            (first | rw [c16b0] | (simp only [i64_w, i32_w]; rw [c16b0]) | skip)
            have H' := Aside0.mk H
            clear H
            go_wp2
            go_meet
            case rel => exact ⟨_, (true), (by first | rfl | (simp; done) | (simp [*]; done)), H', ⟨by have := HJ2.out; first | omega | exact Nat.le_refl _⟩, ⟨by (with_reducible repeat (first | apply Kd.R_alloc | apply Kd.R_drewN | apply Kd.R_drew)); exact HO245.out⟩, ⟨by repeat (first | (with_reducible first | exact HB.out | apply below_alloc | apply pw_below_drewN | apply below_drew1) | exact HB.out)⟩⟩
        case rest =>
          clear HC11
          try clear c1
          try clear c2
          try clear p2
          try clear c5
          try clear c6
          try clear c7
          try clear c16
          try clear c16b0
          try clear c16b1
          try clear p2
          obtain ⟨kq, x53_10, rfl, HA, HJ10, HO_6, HB⟩ := hcut
          cases kq with
          | zero => exact absurd HA.out (by simp [laws_FnLogCut.j1])
          | succ kj10 =>
            have H := HA.out
            clear HA
            simp only [laws_FnLogCut.j1] at H
            by_cases c17 : x53_10 = true
            · subst c17
              have H1 : (some false) = some r := by rw [if_pos rfl] at H; exact H
              clear H
              have H := H1
              clear H1
              exact absurd (Option.some.inj H) (by rw [HT9_.out]; decide)
            · replace c17 := Bool.eq_false_iff.mpr c17
              subst c17
              have H1 : (if t247 = 0 then (laws_FnLogCut.j2 kj10 l1 t242 t243 t246 ((t246.size : Int) == 0)) else (laws_FnLogCut.j2 kj10 l1 t242 t243 t246 true)) = some r := by rw [if_neg (show ¬ (false = true) by decide)] at H; exact H
              clear H
              have H := H1
              clear H1
              have HC18 := Aside0.mk H
              clear H
              go_upto_region 8 with (fail)
              go_cut [60] (fun v60 wc => ∃ (kq : Nat) (x60_17 : Bool), v60 = .bool x60_17 ∧ Aside0 (laws_FnLogCut.j2 kq l1 t242 t243 t246 x60_17 = some r) ∧ Aside0 (kq ≤ kj10) ∧ Aside0 (Kd.R k45 45 wc w.heap.size (fun _ => True) (.slice Ao13 t243.length co13) t243) ∧ Aside0 (Below w.heap.size w wc))
              case first =>
                have H := HC18.out
                clear HC18
                by_cases c19 : t247 = 0
                · rw [if_pos c19] at H
                  have c19b0 : (t247 == 0) = true := beq_iff_eq.mpr c19
                  have c19b1 : (t247 != 0) = false := bne_eq_false_iff_eq.mpr c19
                  clear c19
                  (first | rw [c19b0] | (simp only [i64_w, i32_w]; rw [c19b0]) | skip)
                  have H' := Aside0.mk H
                  clear H
                  go_wp2
                  go_meet
                  case rel => exact ⟨_, (((t246.size : Int) == 0)), (by first | rfl | (simp; done) | (simp [*]; done)), H', ⟨by have := HJ2.out; have := HJ10.out; first | omega | exact Nat.le_refl _⟩, ⟨by (with_reducible repeat (first | apply Kd.R_alloc | apply Kd.R_drewN | apply Kd.R_drew)); exact HO_6.out⟩, ⟨by repeat (first | (with_reducible first | exact HB.out | apply below_alloc | apply pw_below_drewN | apply below_drew1) | exact HB.out)⟩⟩
                · rw [if_neg c19] at H
                  have c19b0 : (t247 == 0) = false := beq_eq_false_iff_ne.mpr c19
                  have c19b1 : (t247 != 0) = true := bne_iff_ne.mpr c19
                  (first | rw [c19b0] | (simp only [i64_w, i32_w]; rw [c19b0]) | skip)
                  have H' := Aside0.mk H
                  clear H
                  go_wp2
                  go_meet
                  case rel => exact ⟨_, (true), (by first | rfl | (simp; done) | (simp [*]; done)), H', ⟨by have := HJ2.out; have := HJ10.out; first | omega | exact Nat.le_refl _⟩, ⟨by (with_reducible repeat (first | apply Kd.R_alloc | apply Kd.R_drewN | apply Kd.R_drew)); exact HO_6.out⟩, ⟨by repeat (first | (with_reducible first | exact HB.out | apply below_alloc | apply pw_below_drewN | apply below_drew1) | exact HB.out)⟩⟩
              case rest =>
                clear HC18
                try clear c1
                try clear c2
                try clear p2
                try clear c5
                try clear c6
                try clear c7
                try clear c16
                try clear c16b0
                try clear c16b1
                try clear c17
                try clear c18
                try clear c19
                try clear c19b0
                try clear c19b1
                try clear p2
                obtain ⟨kq, x60_17, rfl, HA, HJ17, HO_6, HB⟩ := hcut
                cases kq with
                | zero => exact absurd HA.out (by simp [laws_FnLogCut.j2])
                | succ kj17 =>
                  have H := HA.out
                  clear HA
                  simp only [laws_FnLogCut.j2] at H
                  by_cases c20 : x60_17 = true
                  · subst c20
                    have H1 : (some true) = some r := by rw [if_pos rfl] at H; exact H
                    clear H
                    have H := H1
                    clear H1
                    obtain rfl := Option.some.inj H
                    go_wp2
                    go_ret
                    exact ⟨by first | rfl | (simp [errW_none, errW_some] <;> rfl) | (simp [*, errW_none, errW_some] <;> rfl), by repeat (first | (with_reducible first | exact HB.out | apply below_alloc | apply pw_below_drewN | apply below_drew1) | exact HB.out)⟩
                  · replace c20 := Bool.eq_false_iff.mpr c20
                    subst c20
                    have H1 : ((laws_pick.f l1 0 256).bind fun t250 => ((laws_pick.f l1 1 256).bind fun t251 => (if (wrap64 ((t246.size : Int) + 1)) = 0 then (none) else (if 0 ≤ (Int.tmod (wrap64 ((wrap64 (t250 * 256)) + t251)) (wrap64 ((t246.size : Int) + 1))) then (if (Int.tmod (wrap64 ((wrap64 (t250 * 256)) + t251)) (wrap64 ((t246.size : Int) + 1))) ≤ (t246.size : Int) then ((impl_LogScan.f kj17 (t246.extract 0 ((Int.tmod (wrap64 ((wrap64 (t250 * 256)) + t251)) (wrap64 ((t246.size : Int) + 1))) : Int).toNat) t242).bind fun bt252 => (if bt252.2 > (Int.tmod (wrap64 ((wrap64 (t250 * 256)) + t251)) (wrap64 ((t246.size : Int) + 1))) then (laws_FnLogCut.j3 kj17 l1 t242 t243 t246 (Int.tmod (wrap64 ((wrap64 (t250 * 256)) + t251)) (wrap64 ((t246.size : Int) + 1))) bt252.1 bt252.2 true) else (laws_FnLogCut.j3 kj17 l1 t242 t243 t246 (Int.tmod (wrap64 ((wrap64 (t250 * 256)) + t251)) (wrap64 ((t246.size : Int) + 1))) bt252.1 bt252.2 (decide ((bt252.1.length : Int) > (t243.length : Int)))))) else (none)) else (none))))) = some r := by rw [if_neg (show ¬ (false = true) by decide)] at H; exact H
                    clear H
                    have H := H1
                    clear H1
                    replace H := Option.bind_eq_some_iff.mp H
                    obtain ⟨t250, A210, H⟩ := H
                    replace H : ((laws_pick.f l1 1 256).bind fun t251 => (if (wrap64 ((t246.size : Int) + 1)) = 0 then (none) else (if 0 ≤ (Int.tmod (wrap64 ((wrap64 (t250 * 256)) + t251)) (wrap64 ((t246.size : Int) + 1))) then (if (Int.tmod (wrap64 ((wrap64 (t250 * 256)) + t251)) (wrap64 ((t246.size : Int) + 1))) ≤ (t246.size : Int) then ((impl_LogScan.f kj17 (t246.extract 0 ((Int.tmod (wrap64 ((wrap64 (t250 * 256)) + t251)) (wrap64 ((t246.size : Int) + 1))) : Int).toNat) t242).bind fun bt252 => (if bt252.2 > (Int.tmod (wrap64 ((wrap64 (t250 * 256)) + t251)) (wrap64 ((t246.size : Int) + 1))) then (laws_FnLogCut.j3 kj17 l1 t242 t243 t246 (Int.tmod (wrap64 ((wrap64 (t250 * 256)) + t251)) (wrap64 ((t246.size : Int) + 1))) bt252.1 bt252.2 true) else (laws_FnLogCut.j3 kj17 l1 t242 t243 t246 (Int.tmod (wrap64 ((wrap64 (t250 * 256)) + t251)) (wrap64 ((t246.size : Int) + 1))) bt252.1 bt252.2 (decide ((bt252.1.length : Int) > (t243.length : Int)))))) else (none)) else (none)))) = some r := H
                    have A21 := Aside0.mk A210
                    clear A210
                    replace H := Option.bind_eq_some_iff.mp H
                    obtain ⟨t251, A220, H⟩ := H
                    replace H : (if (wrap64 ((t246.size : Int) + 1)) = 0 then (none) else (if 0 ≤ (Int.tmod (wrap64 ((wrap64 (t250 * 256)) + t251)) (wrap64 ((t246.size : Int) + 1))) then (if (Int.tmod (wrap64 ((wrap64 (t250 * 256)) + t251)) (wrap64 ((t246.size : Int) + 1))) ≤ (t246.size : Int) then ((impl_LogScan.f kj17 (t246.extract 0 ((Int.tmod (wrap64 ((wrap64 (t250 * 256)) + t251)) (wrap64 ((t246.size : Int) + 1))) : Int).toNat) t242).bind fun bt252 => (if bt252.2 > (Int.tmod (wrap64 ((wrap64 (t250 * 256)) + t251)) (wrap64 ((t246.size : Int) + 1))) then (laws_FnLogCut.j3 kj17 l1 t242 t243 t246 (Int.tmod (wrap64 ((wrap64 (t250 * 256)) + t251)) (wrap64 ((t246.size : Int) + 1))) bt252.1 bt252.2 true) else (laws_FnLogCut.j3 kj17 l1 t242 t243 t246 (Int.tmod (wrap64 ((wrap64 (t250 * 256)) + t251)) (wrap64 ((t246.size : Int) + 1))) bt252.1 bt252.2 (decide ((bt252.1.length : Int) > (t243.length : Int)))))) else (none)) else (none))) = some r := H
                    have A22 := Aside0.mk A220
                    clear A220
                    by_cases c23 : (wrap64 ((t246.size : Int) + 1)) = 0
                    · rw [if_pos c23] at H
                      exact absurd H (by simp)
                    · rw [if_neg c23] at H
                      have c23b0 : ((wrap64 ((t246.size : Int) + 1)) == 0) = false := beq_eq_false_iff_ne.mpr c23
                      have c23b1 : ((wrap64 ((t246.size : Int) + 1)) != 0) = true := bne_iff_ne.mpr c23
                      obtain ⟨ji24, hji24⟩ : ∃ j_ : Int, (Int.tmod (wrap64 ((wrap64 (t250 * 256)) + t251)) (wrap64 ((t246.size : Int) + 1))) = j_ := ⟨_, rfl⟩
                      replace H : (if 0 ≤ (ji24) then (if (ji24) ≤ (t246.size : Int) then ((impl_LogScan.f kj17 (t246.extract 0 ((ji24) : Int).toNat) t242).bind fun bt252 => (if bt252.2 > (ji24) then (laws_FnLogCut.j3 kj17 l1 t242 t243 t246 ji24 bt252.1 bt252.2 true) else (laws_FnLogCut.j3 kj17 l1 t242 t243 t246 ji24 bt252.1 bt252.2 (decide ((bt252.1.length : Int) > (t243.length : Int)))))) else (none)) else (none)) = some r := by first | (rw [hji24] at H; exact H) | (simp only [hji24] at H ⊢; exact H)
                      (try rw [hji24] at A21)
                      (try rw [hji24] at A22)
                      by_cases c25 : 0 ≤ (ji24)
                      · rw [if_pos c25] at H
                        have c25b0 := eq_true c25
                        have c25b1 : decide (0 ≤ (ji24)) = true := decide_eq_true c25
                        clear c25
                        by_cases c26 : (ji24) ≤ (t246.size : Int)
                        · rw [if_pos c26] at H
                          have c26b0 := eq_true c26
                          have c26b1 : decide ((ji24) ≤ (t246.size : Int)) = true := decide_eq_true c26
                          clear c26
                          replace H := Option.bind_eq_some_iff.mp H
                          obtain ⟨⟨t252, t253⟩, A270, H⟩ := H
                          replace H : (if t253 > (ji24) then (laws_FnLogCut.j3 kj17 l1 t242 t243 t246 ji24 t252 t253 true) else (laws_FnLogCut.j3 kj17 l1 t242 t243 t246 ji24 t252 t253 (decide ((t252.length : Int) > (t243.length : Int))))) = some r := H
                          have A27 := Aside0.mk A270
                          clear A270
                          have HC28 := Aside0.mk H
                          clear H
                          go_upto_region 13 with (first | ((with_reducible refine gate_callee (f := 22) rfl ?_); refine goesL_ (some 62) rfl rfl Try.func22 (by kernel_rfl) rfl #[.slice A1 l1.length c1, .int .i64 0, .int .i64 256] rfl (by (try simp only [List.map_toArray, List.map_cons, List.map_nil]); first | done | rfl | (simp only [List.length_drop, List.length_take]; rfl)) ?_; (with_reducible refine (laws_pick.calls _ _ l1 0 256 t250 _ ?side1 ?side2 A21.out).mono ?_); (case side1 => repeat (first | exact (Kd.C_below HR1.out HB.out) | (with_reducible refine Kd.C_alloc ?_ _) | (with_reducible refine Kd.C_drewN ?_ _) | (with_reducible refine Kd.C_drew ?_))); (case side2 => exact HC1.out); rintro e w' ⟨rfl, ⟨nd, rfl⟩⟩; refine ⟨_, rfl, ?_⟩) | ((with_reducible refine gate_callee (f := 22) rfl ?_); refine goesL_ (some 65) rfl rfl Try.func22 (by kernel_rfl) rfl #[.slice A1 l1.length c1, .int .i64 1, .int .i64 256] rfl (by (try simp only [List.map_toArray, List.map_cons, List.map_nil]); first | done | rfl | (simp only [List.length_drop, List.length_take]; rfl)) ?_; (with_reducible refine (laws_pick.calls _ _ l1 1 256 t251 _ ?side1 ?side2 A22.out).mono ?_); (case side1 => repeat (first | exact (Kd.C_below HR1.out (by repeat (first | (with_reducible first | exact HB.out | apply below_alloc | apply pw_below_drewN | apply below_drew1) | exact HB.out))) | (with_reducible refine Kd.C_alloc ?_ _) | (with_reducible refine Kd.C_drewN ?_ _) | (with_reducible refine Kd.C_drew ?_))); (case side2 => exact HC1.out); rintro e w' ⟨rfl, ⟨nd, rfl⟩⟩; refine ⟨_, rfl, ?_⟩) | ((with_reducible refine gate_callee (f := 23) rfl ?_); refine goesL_ (some 77) rfl rfl Try.func23 (by kernel_rfl) rfl #[.string (t246.extract 0 ((ji24) : Int).toNat), .int .i64 t242] rfl (by (try simp only [List.map_toArray, List.map_cons, List.map_nil]); first | done | (simp only [hji24]; rfl) | rfl | (simp only [List.length_drop, List.length_take]; rfl)) ?_; (with_reducible refine (impl_LogScan.calls kj17 (t246.extract 0 ((ji24) : Int).toNat) t242 t252 t253 _ A27.out).mono ?_); rintro e w29 ⟨v254, rfl, ho0, hb⟩; refine ⟨_, rfl, ?_⟩; have n0_ := Aside0.mk (Kd.R_elder' (by (with_reducible repeat (first | apply Kd.R_alloc | apply Kd.R_drewN | apply Kd.R_drew)); exact HO_6.out) (Kd.R_base ho0) hb); have n1_ := Aside0.mk (Kd.R_lower (Kd.R_new' ho0 (Kd.R_lt (by (with_reducible repeat (first | apply Kd.R_alloc | apply Kd.R_drewN | apply Kd.R_drew)); exact HO_6.out))) (below_size (by repeat (first | (with_reducible first | exact HB.out | apply below_alloc | apply pw_below_drewN | apply below_drew1) | exact HB.out)))); have n2_ := Aside0.mk (below_step (by repeat (first | (with_reducible first | exact HB.out | apply below_alloc | apply pw_below_drewN | apply below_drew1) | exact HB.out)) hb); clear HO_6; clear HB; have HO_6 := n0_; have HO255 := n1_; have HB := n2_; clear n0_ n1_ n2_; (try clear hb); (try clear hb2); (try clear hk); (try clear hi); (try clear ho0)))
                          (try simp only [Act.put, List.setIfInBounds_toArray, List.set_cons_zero, List.set_cons_succ])
                          go_cut [89] (fun v89 wc => ∃ (kq : Nat) (x89_27 : Bool), v89 = .bool x89_27 ∧ Aside0 (laws_FnLogCut.j3 kq l1 t242 t243 t246 ji24 t252 t253 x89_27 = some r) ∧ Aside0 (kq ≤ kj17) ∧ Aside0 (Kd.R k45 45 wc w.heap.size (fun k_ => some k_ ≠ (v254 : Value).ownBlock) (.slice Ao13 t243.length co13) t243) ∧ Aside0 (Kd.R k45 45 wc w.heap.size (fun k_ => some k_ ≠ ((.slice Ao13 t243.length co13) : Value).ownBlock) v254 t252) ∧ Aside0 (Below w.heap.size w wc))
                          case first =>
                            have H := HC28.out
                            clear HC28
                            by_cases c30 : t253 > (ji24)
                            · rw [if_pos c30] at H
                              have c30b0 : decide ((ji24) < t253) = true := decide_eq_true c30
                              clear c30
                              (first | rw [c30b0] | (simp only [i64_w, i32_w]; rw [c30b0]) | skip)
                              have H' := Aside0.mk H
                              clear H
                              go_wp2
                              go_meet
                              case rel => exact ⟨_, (true), (by first | rfl | (simp; done) | (simp [*]; done)), H', ⟨by have := HJ2.out; have := HJ10.out; have := HJ17.out; first | omega | exact Nat.le_refl _⟩, ⟨by (with_reducible repeat (first | apply Kd.R_alloc | apply Kd.R_drewN | apply Kd.R_drew)); exact Kd.R_mono HO_6.out (fun _ hk => hk.2)⟩, ⟨by (with_reducible repeat (first | apply Kd.R_alloc | apply Kd.R_drewN | apply Kd.R_drew)); exact Kd.R_mono HO255.out (fun _ hk => hk.2)⟩, ⟨by repeat (first | (with_reducible first | exact HB.out | apply below_alloc | apply pw_below_drewN | apply below_drew1) | exact HB.out)⟩⟩
                            · rw [if_neg c30] at H
                              have c30b0 : decide ((ji24) < t253) = false := decide_eq_false c30
                              clear c30
                              (first | rw [c30b0] | (simp only [i64_w, i32_w]; rw [c30b0]) | skip)
                              have H' := Aside0.mk H
                              clear H
                              obtain ⟨Ao31, co31, eo31⟩ := Kd.R_slice HO255.out
                              subst eo31
                              go_wp2
                              go_meet
                              case rel => exact ⟨_, (decide ((t252.length : Int) > (t243.length : Int))), (by first | rfl | (simp; done) | (simp [*]; done)), H', ⟨by have := HJ2.out; have := HJ10.out; have := HJ17.out; first | omega | exact Nat.le_refl _⟩, ⟨by (with_reducible repeat (first | apply Kd.R_alloc | apply Kd.R_drewN | apply Kd.R_drew)); exact Kd.R_mono HO_6.out (fun _ hk => hk.2)⟩, ⟨by (with_reducible repeat (first | apply Kd.R_alloc | apply Kd.R_drewN | apply Kd.R_drew)); exact Kd.R_mono HO255.out (fun _ hk => hk.2)⟩, ⟨by repeat (first | (with_reducible first | exact HB.out | apply below_alloc | apply pw_below_drewN | apply below_drew1) | exact HB.out)⟩⟩
                          case rest =>
                            clear HC28
                            try clear c1
                            try clear c2
                            try clear p2
                            try clear c3
                            try clear c5
                            try clear c6
                            try clear p6
                            try clear c7
                            try clear c16
                            try clear c16b0
                            try clear c16b1
                            try clear c17
                            try clear c18
                            try clear c19
                            try clear c19b0
                            try clear c19b1
                            try clear c20
                            try clear c21
                            try clear c22
                            try clear c23
                            try clear c23b0
                            try clear c23b1
                            try clear c25
                            try clear c25b0
                            try clear c25b1
                            try clear c26
                            try clear c26b0
                            try clear c26b1
                            try clear c30
                            try clear c30b0
                            try clear p2
                            obtain ⟨kq, x89_27, rfl, HA, HJ27, HO_6, HO_12, HB⟩ := hcut
                            cases kq with
                            | zero => exact absurd HA.out (by simp [laws_FnLogCut.j3])
                            | succ kj27 =>
                              have H := HA.out
                              clear HA
                              simp only [laws_FnLogCut.j3] at H
                              by_cases c32 : x89_27 = true
                              · subst c32
                                have H1 : (some false) = some r := by rw [if_pos rfl] at H; exact H
                                clear H
                                have H := H1
                                clear H1
                                exact absurd (Option.some.inj H) (by rw [HT9_.out]; decide)
                              · replace c32 := Bool.eq_false_iff.mpr c32
                                subst c32
                                have H1 : (laws_FnLogCut.l0 kj27 l1 t242 t243 t246 ji24 t252 t253 0) = some r := by rw [if_neg (show ¬ (false = true) by decide)] at H; exact H
                                clear H
                                have H := H1
                                clear H1
                                have H' := Aside0.mk H
                                clear H
                                go_wp2
                                go_loopg [14] kj27 (fun kq v14 w' => ∃ (x14_5 : Int), v14 = .int .i64 x14_5 ∧ Aside0 (laws_FnLogCut.l0 kq l1 t242 t243 t246 ji24 t252 t253 x14_5 = some r) ∧ Aside0 (kq ≤ kj27) ∧ Aside0 (Kd.R k45 45 w' w.heap.size (fun k_ => some k_ ≠ (v254 : Value).ownBlock) (.slice Ao13 t243.length co13) t243) ∧ Aside0 (Kd.R k45 45 w' w.heap.size (fun k_ => some k_ ≠ ((.slice Ao13 t243.length co13) : Value).ownBlock) v254 t252) ∧ Aside0 (Below w.heap.size w w'))
                                case atStart => exact ⟨(0), (by first | rfl | (simp; done) | (simp [*]; done)), H', ⟨Nat.le_refl _⟩, ⟨by (with_reducible repeat (first | apply Kd.R_alloc | apply Kd.R_drewN | apply Kd.R_drew)); exact HO_6.out⟩, ⟨by (with_reducible repeat (first | apply Kd.R_alloc | apply Kd.R_drewN | apply Kd.R_drew)); exact HO_12.out⟩, ⟨by repeat (first | (with_reducible first | exact HB.out | apply below_alloc | apply pw_below_drewN | apply below_drew1) | exact HB.out)⟩⟩
                                case round =>
                                  clear H'
                                  try clear c1
                                  try clear c2
                                  try clear p2
                                  try clear c3
                                  try clear c5
                                  try clear c6
                                  try clear p6
                                  try clear c7
                                  try clear c16
                                  try clear c16b0
                                  try clear c16b1
                                  try clear c17
                                  try clear c18
                                  try clear c19
                                  try clear c19b0
                                  try clear c19b1
                                  try clear c20
                                  try clear c21
                                  try clear c22
                                  try clear c23
                                  try clear c23b0
                                  try clear c23b1
                                  try clear c25
                                  try clear c25b0
                                  try clear c25b1
                                  try clear c26
                                  try clear c26b0
                                  try clear c26b1
                                  try clear c30
                                  try clear c30b0
                                  try clear c32
                                  try clear p2
                                  try clear p6
                                  obtain ⟨x14_5, rfl, HA, HK5, HO_6, HO_12, HB⟩ := hrel
                                  cases gk with
                                  | zero => exact absurd HA.out (by simp [laws_FnLogCut.l0])
                                  | succ k5 =>
                                    have H := HA.out
                                    clear HA
                                    simp only [laws_FnLogCut.l0] at H
                                    by_cases c33 : x14_5 < (t252.length : Int)
                                    · rw [if_pos c33] at H
                                      have c33b0 : decide (x14_5 < (t252.length : Int)) = true := decide_eq_true c33
                                      clear c33
                                      by_cases c34 : 0 ≤ x14_5
                                      · rw [if_pos c34] at H
                                        have c34b0 : decide (0 ≤ x14_5) = true := decide_eq_true c34
                                        clear c34
                                        by_cases c35 : x14_5 < (t243.length : Int)
                                        · rw [if_pos c35] at H
                                          have c35b0 : decide (x14_5 < (t243.length : Int)) = true := decide_eq_true c35
                                          clear c35
                                          by_cases c36 : (!(((rd_T45 t252 x14_5).f0) == ((rd_T45 t243 x14_5).f0)) || (!((((rd_T45 t252 x14_5).f1).toList) == (((rd_T45 t243 x14_5).f1).toList)))) = true
                                          · rw [if_pos c36] at H
                                            have c36b0 : (!(((rd_T45 t252 x14_5).f0) == ((rd_T45 t243 x14_5).f0)) || (!((((rd_T45 t252 x14_5).f1).toList) == (((rd_T45 t243 x14_5).f1).toList)))) = true := c36
                                            clear c36
                                            exact absurd (Option.some.inj H) (by rw [HT9_.out]; decide)
                                          · rw [if_neg c36] at H
                                            have c36b0 : (!(((rd_T45 t252 x14_5).f0) == ((rd_T45 t243 x14_5).f0)) || (!((((rd_T45 t252 x14_5).f1).toList) == (((rd_T45 t243 x14_5).f1).toList)))) = false := by simpa using c36
                                            clear c36
                                            have H' := Aside0.mk H
                                            clear H
                                            obtain ⟨Ao37, co37, eo37⟩ := Kd.R_slice HO_12.out
                                            subst eo37
                                            try go_wp2
                                            have n0_ := Aside0.mk (Kd.R_drew HO_6.out)
                                            have n1_ := Aside0.mk (Kd.R_drew HO_12.out)
                                            have n2_ := Aside0.mk (below_drew1 HB.out)
                                            clear HO_6
                                            clear HO_12
                                            clear HB
                                            have HO_6 := n0_
                                            have HO_12 := n1_
                                            have HB := n2_
                                            clear n0_ n1_ n2_
                                            have p256 : 0 ≤ (x14_5 : Int) := of_decide_eq_true (by first | (with_reducible assumption) | assumption)
                                            have q256 : x14_5 < (t252.length : Int) := of_decide_eq_true (by first | (with_reducible assumption) | assumption)
                                            obtain ⟨ad256, e256, hx256_0, hx256_1⟩ := at_T45 (Kd.R_reads' HO_12.out).2.2 x14_5 p256 q256
                                            cases e256
                                            replace p256 := eq_true p256
                                            replace q256 := eq_true q256
                                            have p257 : 0 ≤ (x14_5 : Int) := of_decide_eq_true (by first | (with_reducible assumption) | assumption)
                                            have q257 : x14_5 < (t243.length : Int) := of_decide_eq_true (by first | (with_reducible assumption) | assumption)
                                            obtain ⟨ad257, e257, hx257_0, hx257_1⟩ := at_T45 (Kd.R_reads' HO_6.out).2.2 x14_5 p257 q257
                                            cases e257
                                            replace p257 := eq_true p257
                                            replace q257 := eq_true q257
                                            refine start_ (n := 9) (S := fun w' => w'.cell? (ad256.add ((x14_5).toNat * 2)) = some (.int .i64 ((rd_T45 t252 x14_5).f0)) ∧ w'.cell? ⟨(ad256.add ((x14_5).toNat * 2)).block, (ad256.add ((x14_5).toNat * 2)).off + 1, none⟩ = some (.string ((rd_T45 t252 x14_5).f1)) ∧ w'.cell? (ad257.add ((x14_5).toNat * 2)) = some (.int .i64 ((rd_T45 t243 x14_5).f0)) ∧ w'.cell? ⟨(ad257.add ((x14_5).toNat * 2)).block, (ad257.add ((x14_5).toNat * 2)).off + 1, none⟩ = some (.string ((rd_T45 t243 x14_5).f1))) (ds := []) #[false, false, false, false, false, false, false, false, false] (by kernel_rfl) rfl rfl ⟨hx256_0, hx256_1, hx257_0, hx257_1⟩ (fun hHeld => ?_); refine with_tabW laws_FnLogCut.tab18 laws_FnLogCut.bits18 (fun HT_ HW_ => ?_)
                                            generalize wr.drew = w38 at HO_6 HO_12 HB hx256_0 hx256_1 hx257_0 hx257_1 hHeld ⊢
                                            refine pure_ (i := 0) (N := some 96) (v := ?_) (a' := ?_) #[true, false, false, false, false, false, false, false, false] rfl rfl (any_of HT_.out (by kernel_rfl)) (fun _ _ _ h => h) (Or.inl ⟨by rfl, ?_⟩) ?_ ?_
                                            rotate_left
                                            · intro w'
                                              go_simp
                                              with_reducible rfl
                                            rotate_left
                                            · simp only [Act.put, List.setIfInBounds_toArray, List.set_cons_zero, List.set_cons_succ, i64_w, i32_w]
                                              rfl
                                            refine pure_ (i := 1) (N := some 97) (v := ?_) (a' := ?_) #[true, true, false, false, false, false, false, false, false] rfl rfl (any_of HT_.out (by kernel_rfl)) (fun _ _ _ h => h) (Or.inl ⟨by rfl, ?_⟩) ?_ ?_
                                            rotate_left
                                            · intro w'
                                              go_simp
                                              with_reducible rfl
                                            rotate_left
                                            · simp only [Act.put, List.setIfInBounds_toArray, List.set_cons_zero, List.set_cons_succ, i64_w, i32_w]
                                              rfl
                                            refine pure_ (i := 2) (N := some 98) (v := ?_) (a' := ?_) #[true, true, true, false, false, false, false, false, false] rfl rfl (any_of HT_.out (by kernel_rfl)) (fun _ _ _ h => h) (Or.inl ⟨by rfl, ?_⟩) ?_ ?_
                                            rotate_left
                                            · intro w'
                                              go_simp
                                              with_reducible rfl
                                            rotate_left
                                            · simp only [Act.put, List.setIfInBounds_toArray, List.set_cons_zero, List.set_cons_succ, i64_w, i32_w]
                                              rfl
                                            refine pure_ (i := 4) (N := some 100) (v := ?_) (a' := ?_) #[true, true, true, false, true, false, false, false, false] rfl rfl (any_of HT_.out (by kernel_rfl)) (fun _ _ _ h => h) (Or.inl ⟨by rfl, ?_⟩) ?_ ?_
                                            rotate_left
                                            · intro w'
                                              go_simp
                                              with_reducible rfl
                                            rotate_left
                                            · simp only [Act.put, List.setIfInBounds_toArray, List.set_cons_zero, List.set_cons_succ, i64_w, i32_w]
                                              rfl
                                            refine pure_ (i := 5) (N := some 101) (v := ?_) (a' := ?_) #[true, true, true, false, true, true, false, false, false] rfl rfl (any_of HT_.out (by kernel_rfl)) (fun _ _ _ h => h) (Or.inl ⟨by rfl, ?_⟩) ?_ ?_
                                            rotate_left
                                            · intro w'
                                              go_simp
                                              with_reducible rfl
                                            rotate_left
                                            · simp only [Act.put, List.setIfInBounds_toArray, List.set_cons_zero, List.set_cons_succ, i64_w, i32_w]
                                              rfl
                                            refine pure_ (i := 6) (N := some 102) (v := ?_) (a' := ?_) #[true, true, true, false, true, true, true, false, false] rfl rfl (any_of HT_.out (by kernel_rfl)) (fun _ _ _ h => h) (Or.inl ⟨by rfl, ?_⟩) ?_ ?_
                                            rotate_left
                                            · intro w'
                                              go_simp
                                              with_reducible rfl
                                            rotate_left
                                            · simp only [Act.put, List.setIfInBounds_toArray, List.set_cons_zero, List.set_cons_succ, i64_w, i32_w]
                                              rfl
                                            refine take_ (i := 3) (N := some 99) (v := ?_) (a' := ?_) #[true, true, true, true, true, true, true, false, false] rfl rfl (take_ofW HT_.out HW_.out (by kernel_rfl)) (fun _ _ _ h => h) (Or.inl ⟨by rfl, ?_⟩) hHeld ?_ ?_
                                            rotate_left
                                            · rintro w' ⟨s0, s1, s2, s3⟩
                                              go_simp
                                              with_reducible rfl
                                            rotate_left
                                            · simp only [Act.put, List.setIfInBounds_toArray, List.set_cons_zero, List.set_cons_succ, i64_w, i32_w]
                                              rfl
                                            refine take_ (i := 7) (N := some 103) (v := ?_) (a' := ?_) #[true, true, true, true, true, true, true, true, false] rfl rfl (take_ofW HT_.out HW_.out (by kernel_rfl)) (fun _ _ _ h => h) (Or.inl ⟨by rfl, ?_⟩) hHeld ?_ ?_
                                            rotate_left
                                            · rintro w' ⟨s0, s1, s2, s3⟩
                                              go_simp
                                              with_reducible rfl
                                            rotate_left
                                            · simp only [Act.put, List.setIfInBounds_toArray, List.set_cons_zero, List.set_cons_succ, i64_w, i32_w]
                                              rfl
                                            refine pure_ (i := 8) (N := some 104) (v := ?_) (a' := ?_) #[true, true, true, true, true, true, true, true, true] rfl rfl (any_of HT_.out (by kernel_rfl)) (fun _ _ _ h => h) (Or.inl ⟨by rfl, ?_⟩) ?_ ?_
                                            rotate_left
                                            · intro w'
                                              go_simp
                                              with_reducible rfl
                                            rotate_left
                                            · simp only [Act.put, List.setIfInBounds_toArray, List.set_cons_zero, List.set_cons_succ, i64_w, i32_w]
                                              rfl
                                            refine done_ (done_of HT_.out (by kernel_rfl)) ?_
                                            try go_wp2
                                            go_roundg k5
                                            case measure => have := HJ2.out; have := HJ10.out; have := HJ17.out; have := HJ27.out; have := HK5.out; omega
                                            case rel => exact ⟨(wrap64 (x14_5 + 1)), (by first | rfl | (simp; done) | (simp [*]; done)), H', ⟨by have := HJ2.out; have := HJ10.out; have := HJ17.out; have := HJ27.out; have := HK5.out; omega⟩, ⟨by (with_reducible repeat (first | apply Kd.R_alloc | apply Kd.R_drewN | apply Kd.R_drew)); exact HO_6.out⟩, ⟨by (with_reducible repeat (first | apply Kd.R_alloc | apply Kd.R_drewN | apply Kd.R_drew)); exact HO_12.out⟩, ⟨by repeat (first | (with_reducible first | exact HB.out | apply below_alloc | apply pw_below_drewN | apply below_drew1) | exact HB.out)⟩⟩
                                        · rw [if_neg c35] at H
                                          exact absurd H (by simp)
                                      · rw [if_neg c34] at H
                                        exact absurd H (by simp)
                                    · rw [if_neg c33] at H
                                      have c33b0 : decide (x14_5 < (t252.length : Int)) = false := decide_eq_false c33
                                      clear c33
                                      by_cases c39 : 0 ≤ (t252.length : Int)
                                      · rw [if_pos c39] at H
                                        have c39b0 := eq_true c39
                                        have c39b1 : decide (0 ≤ (t252.length : Int)) = true := decide_eq_true c39
                                        clear c39
                                        by_cases c40 : (t252.length : Int) ≤ (t243.length : Int)
                                        · rw [if_pos c40] at H
                                          have c40b0 := eq_true c40
                                          have c40b1 : decide ((t252.length : Int) ≤ (t243.length : Int)) = true := decide_eq_true c40
                                          clear c40
                                          obtain ⟨y258, hy258⟩ : ∃ y_ : List (S45), y_ = (t243.take ((t252.length : Int) : Int).toNat) := ⟨_, rfl⟩
                                          replace H : ((spec_LogPack.f k5 t242 y258).bind fun bt262 => (if bt262.2 = 0 then (if (bt262.1.size : Int) = t253 then (if ji24 = (t246.size : Int) then (laws_FnLogCut.j5 k5 l1 t242 t243 t246 ((t252.length : Int) != (t243.length : Int))) else (laws_FnLogCut.j5 k5 l1 t242 t243 t246 false)) else (laws_FnLogCut.j5 k5 l1 t242 t243 t246 true)) else (laws_FnLogCut.j5 k5 l1 t242 t243 t246 true))) = some r := by first | (rw [hy258]; with_reducible exact H) | (have H2_ := (Option.bind_some _ _).symm.trans H; rw [hy258]; with_reducible exact H2_) | (have H2_ := (Option.bind_some _ _).symm.trans H; with_reducible exact H2_) | with_reducible exact H | (rw [hy258]; exact H) | exact H
                                          have Ny258 := Aside0.mk hy258
                                          clear hy258
                                          replace H := Option.bind_eq_some_iff.mp H
                                          obtain ⟨⟨t262, t263⟩, A410, H⟩ := H
                                          replace H : (if t263 = 0 then (if (t262.size : Int) = t253 then (if ji24 = (t246.size : Int) then (laws_FnLogCut.j5 k5 l1 t242 t243 t246 ((t252.length : Int) != (t243.length : Int))) else (laws_FnLogCut.j5 k5 l1 t242 t243 t246 false)) else (laws_FnLogCut.j5 k5 l1 t242 t243 t246 true)) else (laws_FnLogCut.j5 k5 l1 t242 t243 t246 true)) = some r := H
                                          have A41 := Aside0.mk A410
                                          clear A410
                                          have HC42 := Aside0.mk H
                                          clear H
                                          obtain ⟨Ao43, co43, eo43⟩ := Kd.R_slice HO_12.out
                                          subst eo43
                                          have q44 : ((t252.length : Int) : Int) ≤ ((t243.length : Int) : Int) := of_decide_eq_true (by first | (with_reducible assumption) | assumption)
                                          obtain ⟨i044, hi044, _, hsz44, _⟩ := info_parts info45
                                          have hroom44 : t243.length ≤ co13 := (Kd.R_reads' HO_6.out).2.1
                                          have hC44 : Kd.C k45 _ Ao13 t243.length t243 := (Kd.R_reads' HO_6.out).2.2
                                          have hcut44 := cut_to (P := Try.prog) 33 45 .i64 Try.underlying33 hi044 Ao13 t243.length co13 (t252.length : Int) (of_decide_eq_true (by first | (with_reducible assumption) | assumption)) q44 hroom44
                                          have hr44 := Kd.C_take (m := ((t252.length : Int) : Int).toNat) hC44 (by omega)
                                          have hy44 : y258.length = ((t252.length : Int) : Int).toNat := (by rw [Ny258.out, List.length_take]; omega)
                                          rw [← Ny258.out] at hr44
                                          rw [← hy44] at hcut44
                                          have HR261 := Aside0.mk hr44
                                          have HC261 := Aside0.mk (show y258.length ≤ co13 from by omega)
                                          clear hr44 hC44 hroom44 hi044 hsz44
                                          have KY44 := Aside0.mk hy44
                                          clear hy44
                                          have KL44 := Aside0.mk (show ((t252.length : Int) : Int).toNat ≤ t243.length from by omega)
                                          replace q44 := eq_true q44
                                          go_upto_region 21 with (first | ((with_reducible refine gate_callee (f := 16) rfl ?_); refine goesL_ (some 111) rfl rfl Try.func16 (by kernel_rfl) rfl #[.int .i64 t242, .slice Ao13 y258.length co13] rfl (by (try simp only [List.map_toArray, List.map_cons, List.map_nil]); first | done | rfl | (simp only [List.length_drop, List.length_take]; rfl)) ?_; (with_reducible refine (spec_LogPack.calls k5 t242 _ _ y258 t262 t263 _ ?side1 ?side2 A41.out).mono ?_); (case side1 => repeat (first | exact (by repeat (first | (with_reducible exact HR261.out) | (with_reducible refine Kd.C_alloc ?_ _) | (with_reducible refine Kd.C_drewN ?_ _) | (with_reducible refine Kd.C_drew ?_) | exact HR261.out)) | (with_reducible refine Kd.C_alloc ?_ _) | (with_reducible refine Kd.C_drewN ?_ _) | (with_reducible refine Kd.C_drew ?_))); (case side2 => exact HC261.out); rintro e w45 ⟨rfl, hb⟩; refine ⟨_, rfl, ?_⟩; have n0_ := Aside0.mk (Kd.R_below (by (with_reducible repeat (first | apply Kd.R_alloc | apply Kd.R_drewN | apply Kd.R_drew)); exact HO_6.out) hb); have n1_ := Aside0.mk (Kd.R_below (by (with_reducible repeat (first | apply Kd.R_alloc | apply Kd.R_drewN | apply Kd.R_drew)); exact HO_12.out) hb); have n2_ := Aside0.mk (Kd.C_below (by repeat (first | (with_reducible exact HR261.out) | (with_reducible refine Kd.C_alloc ?_ _) | (with_reducible refine Kd.C_drewN ?_ _) | (with_reducible refine Kd.C_drew ?_) | exact HR261.out)) hb); have n3_ := Aside0.mk (below_step (by repeat (first | (with_reducible first | exact HB.out | apply below_alloc | apply pw_below_drewN | apply below_drew1) | exact HB.out)) hb); clear HO_6; clear HO_12; clear HR261; clear HB; have HO_6 := n0_; have HO_12 := n1_; have HR261 := n2_; have HB := n3_; clear n0_ n1_ n2_ n3_; (try clear hb); (try clear hb2); (try clear hk); (try clear hi)))
                                          (try simp only [Act.put, List.setIfInBounds_toArray, List.set_cons_zero, List.set_cons_succ])
                                          go_cut [134] (fun v134 wc => ∃ (kq : Nat) (x134_41 : Bool), v134 = .bool x134_41 ∧ Aside0 (laws_FnLogCut.j5 kq l1 t242 t243 t246 x134_41 = some r) ∧ Aside0 (kq ≤ k5) ∧ Aside0 (Kd.R k45 45 wc w.heap.size (fun _ => True) (.slice Ao13 t243.length co13) t243) ∧ Aside0 (Kd.C k45 wc Ao13 y258.length y258) ∧ Aside0 (Below w.heap.size w wc))
                                          case first =>
                                            have H := HC42.out
                                            clear HC42
                                            by_cases c46 : t263 = 0
                                            · rw [if_pos c46] at H
                                              have c46b0 : (t263 == 0) = true := beq_iff_eq.mpr c46
                                              have c46b1 : (t263 != 0) = false := bne_eq_false_iff_eq.mpr c46
                                              clear c46
                                              (first | rw [c46b0] | (simp only [i64_w, i32_w]; rw [c46b0]) | skip)
                                              by_cases c47 : (t262.size : Int) = t253
                                              · rw [if_pos c47] at H
                                                have c47b0 : ((t262.size : Int) == t253) = true := beq_iff_eq.mpr c47
                                                have c47b1 : ((t262.size : Int) != t253) = false := bne_eq_false_iff_eq.mpr c47
                                                clear c47
                                                by_cases c48 : ji24 = (t246.size : Int)
                                                · rw [if_pos c48] at H
                                                  have c48b0 : (ji24 == (t246.size : Int)) = true := beq_iff_eq.mpr c48
                                                  have c48b1 : (ji24 != (t246.size : Int)) = false := bne_eq_false_iff_eq.mpr c48
                                                  clear c48
                                                  have H' := Aside0.mk H
                                                  clear H
                                                  go_wp2
                                                  go_meet
                                                  case rel => exact ⟨_, (((t252.length : Int) != (t243.length : Int))), (by first | rfl | (simp; done) | (simp [*]; done)), H', ⟨by have := HJ2.out; have := HJ10.out; have := HJ17.out; have := HJ27.out; have := HK5.out; first | omega | exact Nat.le_refl _⟩, ⟨by (with_reducible repeat (first | apply Kd.R_alloc | apply Kd.R_drewN | apply Kd.R_drew)); exact Kd.R_mono HO_6.out (fun _ hk => trivial)⟩, ⟨by repeat (first | (with_reducible exact HR261.out) | (with_reducible refine Kd.C_alloc ?_ _) | (with_reducible refine Kd.C_drewN ?_ _) | (with_reducible refine Kd.C_drew ?_) | exact HR261.out)⟩, ⟨by repeat (first | (with_reducible first | exact HB.out | apply below_alloc | apply pw_below_drewN | apply below_drew1) | exact HB.out)⟩⟩
                                                · rw [if_neg c48] at H
                                                  have c48b0 : (ji24 == (t246.size : Int)) = false := beq_eq_false_iff_ne.mpr c48
                                                  have c48b1 : (ji24 != (t246.size : Int)) = true := bne_iff_ne.mpr c48
                                                  have H' := Aside0.mk H
                                                  clear H
                                                  go_wp2
                                                  go_meet
                                                  case rel => exact ⟨_, (false), (by first | rfl | (simp; done) | (simp [*]; done)), H', ⟨by have := HJ2.out; have := HJ10.out; have := HJ17.out; have := HJ27.out; have := HK5.out; first | omega | exact Nat.le_refl _⟩, ⟨by (with_reducible repeat (first | apply Kd.R_alloc | apply Kd.R_drewN | apply Kd.R_drew)); exact Kd.R_mono HO_6.out (fun _ hk => trivial)⟩, ⟨by repeat (first | (with_reducible exact HR261.out) | (with_reducible refine Kd.C_alloc ?_ _) | (with_reducible refine Kd.C_drewN ?_ _) | (with_reducible refine Kd.C_drew ?_) | exact HR261.out)⟩, ⟨by repeat (first | (with_reducible first | exact HB.out | apply below_alloc | apply pw_below_drewN | apply below_drew1) | exact HB.out)⟩⟩
                                              · rw [if_neg c47] at H
                                                have c47b0 : ((t262.size : Int) == t253) = false := beq_eq_false_iff_ne.mpr c47
                                                have c47b1 : ((t262.size : Int) != t253) = true := bne_iff_ne.mpr c47
                                                have H' := Aside0.mk H
                                                clear H
                                                go_wp2
                                                go_meet
                                                case rel => exact ⟨_, (true), (by first | rfl | (simp; done) | (simp [*]; done)), H', ⟨by have := HJ2.out; have := HJ10.out; have := HJ17.out; have := HJ27.out; have := HK5.out; first | omega | exact Nat.le_refl _⟩, ⟨by (with_reducible repeat (first | apply Kd.R_alloc | apply Kd.R_drewN | apply Kd.R_drew)); exact Kd.R_mono HO_6.out (fun _ hk => trivial)⟩, ⟨by repeat (first | (with_reducible exact HR261.out) | (with_reducible refine Kd.C_alloc ?_ _) | (with_reducible refine Kd.C_drewN ?_ _) | (with_reducible refine Kd.C_drew ?_) | exact HR261.out)⟩, ⟨by repeat (first | (with_reducible first | exact HB.out | apply below_alloc | apply pw_below_drewN | apply below_drew1) | exact HB.out)⟩⟩
                                            · rw [if_neg c46] at H
                                              have c46b0 : (t263 == 0) = false := beq_eq_false_iff_ne.mpr c46
                                              have c46b1 : (t263 != 0) = true := bne_iff_ne.mpr c46
                                              (first | rw [c46b0] | (simp only [i64_w, i32_w]; rw [c46b0]) | skip)
                                              have H' := Aside0.mk H
                                              clear H
                                              go_wp2
                                              go_meet
                                              case rel => exact ⟨_, (true), (by first | rfl | (simp; done) | (simp [*]; done)), H', ⟨by have := HJ2.out; have := HJ10.out; have := HJ17.out; have := HJ27.out; have := HK5.out; first | omega | exact Nat.le_refl _⟩, ⟨by (with_reducible repeat (first | apply Kd.R_alloc | apply Kd.R_drewN | apply Kd.R_drew)); exact Kd.R_mono HO_6.out (fun _ hk => trivial)⟩, ⟨by repeat (first | (with_reducible exact HR261.out) | (with_reducible refine Kd.C_alloc ?_ _) | (with_reducible refine Kd.C_drewN ?_ _) | (with_reducible refine Kd.C_drew ?_) | exact HR261.out)⟩, ⟨by repeat (first | (with_reducible first | exact HB.out | apply below_alloc | apply pw_below_drewN | apply below_drew1) | exact HB.out)⟩⟩
                                          case rest =>
                                            clear HC42
                                            try clear c1
                                            try clear c2
                                            try clear p2
                                            try clear q2
                                            try clear hx2
                                            try clear c3
                                            try clear c4
                                            try clear q4
                                            try clear c5
                                            try clear c6
                                            try clear p6
                                            try clear c7
                                            try clear c16
                                            try clear c16b0
                                            try clear c16b1
                                            try clear c17
                                            try clear c18
                                            try clear c19
                                            try clear c19b0
                                            try clear c19b1
                                            try clear c20
                                            try clear c21
                                            try clear c22
                                            try clear c23
                                            try clear c23b0
                                            try clear c23b1
                                            try clear c25
                                            try clear c25b0
                                            try clear c25b1
                                            try clear p25
                                            try clear q25
                                            try clear hx25
                                            try clear c26
                                            try clear c26b0
                                            try clear c26b1
                                            try clear c30
                                            try clear c30b0
                                            try clear c32
                                            try clear c33
                                            try clear c33b0
                                            try clear c34
                                            try clear c34b0
                                            try clear c35
                                            try clear c35b0
                                            try clear c36
                                            try clear c36b0
                                            try clear c39
                                            try clear c39b0
                                            try clear c39b1
                                            try clear c40
                                            try clear c40b0
                                            try clear c40b1
                                            try clear q44
                                            try clear c46
                                            try clear c46b0
                                            try clear c46b1
                                            try clear c47
                                            try clear c47b0
                                            try clear c47b1
                                            try clear c48
                                            try clear c48b0
                                            try clear c48b1
                                            try clear hx256_0
                                            try clear hx256_1
                                            try clear hx257_0
                                            try clear hx257_1
                                            try clear p2
                                            try clear p256
                                            try clear p257
                                            try clear p6
                                            try clear q256
                                            try clear q257
                                            try clear q44
                                            obtain ⟨kq, x134_41, rfl, HA, HJ41, HO_6, HR261, HB⟩ := hcut
                                            cases kq with
                                            | zero => exact absurd HA.out (by simp [laws_FnLogCut.j5])
                                            | succ kj41 =>
                                              have H := HA.out
                                              clear HA
                                              simp only [laws_FnLogCut.j5] at H
                                              by_cases c49 : x134_41 = true
                                              · subst c49
                                                have H1 : (some false) = some r := by rw [if_pos rfl] at H; exact H
                                                clear H
                                                have H := H1
                                                clear H1
                                                exact absurd (Option.some.inj H) (by rw [HT9_.out]; decide)
                                              · replace c49 := Bool.eq_false_iff.mpr c49
                                                subst c49
                                                have H1 : ((laws_pick.f l1 2 4).bind fun t264 => (if 0 ≤ (wrap64 ((wrap64 ((t246.size : Int) - 1)) - t264)) then (if (wrap64 ((wrap64 ((t246.size : Int) - 1)) - t264)) ≤ (t246.size : Int) then (if (wrap64 ((wrap64 ((t246.size : Int) - 1)) - t264)) < (t246.size : Int) then ((laws_pick.f l1 3 8).bind fun t265 => (if 0 ≤ (IntKind.u64.wrap (t265)) then ((some (([Go.bits .xor .u8 (bt t246 (wrap64 ((wrap64 ((t246.size : Int) - 1)) - t264))) (shl .u8 1 (IntKind.u64.wrap (t265)))] : List Int) : List Int)).bind fun y266 => (if (t246.extract 0 ((wrap64 ((wrap64 ((t246.size : Int) - 1)) - t264)) : Int).toNat).size + (strOfNums y266).size ≤ 9223372036854775807 then (if 0 ≤ (wrap64 ((wrap64 ((wrap64 ((t246.size : Int) - 1)) - t264)) + 1)) then (if (wrap64 ((wrap64 ((wrap64 ((t246.size : Int) - 1)) - t264)) + 1)) ≤ (t246.size : Int) then (if ((t246.extract 0 ((wrap64 ((wrap64 ((t246.size : Int) - 1)) - t264)) : Int).toNat) ++ (strOfNums y266)).size + (t246.extract ((wrap64 ((wrap64 ((wrap64 ((t246.size : Int) - 1)) - t264)) + 1)) : Int).toNat t246.size).size ≤ 9223372036854775807 then ((impl_LogScan.f kj41 (((t246.extract 0 ((wrap64 ((wrap64 ((t246.size : Int) - 1)) - t264)) : Int).toNat) ++ (strOfNums y266)) ++ (t246.extract ((wrap64 ((wrap64 ((wrap64 ((t246.size : Int) - 1)) - t264)) + 1)) : Int).toNat t246.size)) t242).bind fun bt269 => (if 0 ≤ (wrap64 ((t243.length : Int) - 1)) then (if (wrap64 ((t243.length : Int) - 1)) ≤ (t243.length : Int) then ((spec_LogPack.f kj41 t242 (t243.take ((wrap64 ((t243.length : Int) - 1)) : Int).toNat)).bind fun bt277 => (if bt277.2 = 0 then (if bt269.2 = (bt277.1.size : Int) then (some ((bt269.1.length : Int) == (wrap64 ((t243.length : Int) - 1)))) else (some false)) else (some false))) else (none)) else (none))) else (none)) else (none)) else (none)) else (none))) else (none))) else (none)) else (none)) else (none))) = some r := by rw [if_neg (show ¬ (false = true) by decide)] at H; exact H
                                                clear H
                                                have H := H1
                                                clear H1
                                                replace H := Option.bind_eq_some_iff.mp H
                                                obtain ⟨t264, A500, H⟩ := H
                                                replace H : (if 0 ≤ (wrap64 ((wrap64 ((t246.size : Int) - 1)) - t264)) then (if (wrap64 ((wrap64 ((t246.size : Int) - 1)) - t264)) ≤ (t246.size : Int) then (if (wrap64 ((wrap64 ((t246.size : Int) - 1)) - t264)) < (t246.size : Int) then ((laws_pick.f l1 3 8).bind fun t265 => (if 0 ≤ (IntKind.u64.wrap (t265)) then ((some (([Go.bits .xor .u8 (bt t246 (wrap64 ((wrap64 ((t246.size : Int) - 1)) - t264))) (shl .u8 1 (IntKind.u64.wrap (t265)))] : List Int) : List Int)).bind fun y266 => (if (t246.extract 0 ((wrap64 ((wrap64 ((t246.size : Int) - 1)) - t264)) : Int).toNat).size + (strOfNums y266).size ≤ 9223372036854775807 then (if 0 ≤ (wrap64 ((wrap64 ((wrap64 ((t246.size : Int) - 1)) - t264)) + 1)) then (if (wrap64 ((wrap64 ((wrap64 ((t246.size : Int) - 1)) - t264)) + 1)) ≤ (t246.size : Int) then (if ((t246.extract 0 ((wrap64 ((wrap64 ((t246.size : Int) - 1)) - t264)) : Int).toNat) ++ (strOfNums y266)).size + (t246.extract ((wrap64 ((wrap64 ((wrap64 ((t246.size : Int) - 1)) - t264)) + 1)) : Int).toNat t246.size).size ≤ 9223372036854775807 then ((impl_LogScan.f kj41 (((t246.extract 0 ((wrap64 ((wrap64 ((t246.size : Int) - 1)) - t264)) : Int).toNat) ++ (strOfNums y266)) ++ (t246.extract ((wrap64 ((wrap64 ((wrap64 ((t246.size : Int) - 1)) - t264)) + 1)) : Int).toNat t246.size)) t242).bind fun bt269 => (if 0 ≤ (wrap64 ((t243.length : Int) - 1)) then (if (wrap64 ((t243.length : Int) - 1)) ≤ (t243.length : Int) then ((spec_LogPack.f kj41 t242 (t243.take ((wrap64 ((t243.length : Int) - 1)) : Int).toNat)).bind fun bt277 => (if bt277.2 = 0 then (if bt269.2 = (bt277.1.size : Int) then (some ((bt269.1.length : Int) == (wrap64 ((t243.length : Int) - 1)))) else (some false)) else (some false))) else (none)) else (none))) else (none)) else (none)) else (none)) else (none))) else (none))) else (none)) else (none)) else (none)) = some r := H
                                                have A50 := Aside0.mk A500
                                                clear A500
                                                obtain ⟨ji51, hji51⟩ : ∃ j_ : Int, (wrap64 ((wrap64 ((t246.size : Int) - 1)) - t264)) = j_ := ⟨_, rfl⟩
                                                replace H : (if 0 ≤ (ji51) then (if (ji51) ≤ (t246.size : Int) then (if (ji51) < (t246.size : Int) then ((laws_pick.f l1 3 8).bind fun t265 => (if 0 ≤ (IntKind.u64.wrap (t265)) then ((some (([Go.bits .xor .u8 (bt t246 (ji51)) (shl .u8 1 (IntKind.u64.wrap (t265)))] : List Int) : List Int)).bind fun y266 => (if (t246.extract 0 ((ji51) : Int).toNat).size + (strOfNums y266).size ≤ 9223372036854775807 then (if 0 ≤ (wrap64 ((ji51) + 1)) then (if (wrap64 ((ji51) + 1)) ≤ (t246.size : Int) then (if ((t246.extract 0 ((ji51) : Int).toNat) ++ (strOfNums y266)).size + (t246.extract ((wrap64 ((ji51) + 1)) : Int).toNat t246.size).size ≤ 9223372036854775807 then ((impl_LogScan.f kj41 (((t246.extract 0 ((ji51) : Int).toNat) ++ (strOfNums y266)) ++ (t246.extract ((wrap64 ((ji51) + 1)) : Int).toNat t246.size)) t242).bind fun bt269 => (if 0 ≤ (wrap64 ((t243.length : Int) - 1)) then (if (wrap64 ((t243.length : Int) - 1)) ≤ (t243.length : Int) then ((spec_LogPack.f kj41 t242 (t243.take ((wrap64 ((t243.length : Int) - 1)) : Int).toNat)).bind fun bt277 => (if bt277.2 = 0 then (if bt269.2 = (bt277.1.size : Int) then (some ((bt269.1.length : Int) == (wrap64 ((t243.length : Int) - 1)))) else (some false)) else (some false))) else (none)) else (none))) else (none)) else (none)) else (none)) else (none))) else (none))) else (none)) else (none)) else (none)) = some r := by first | (rw [hji51] at H; exact H) | (simp only [hji51] at H ⊢; exact H)
                                                (try rw [hji51] at A50)
                                                have hji51w : (IntKind.i64.wrap ((wrap64 ((t246.size : Int) - 1)) - t264)) = ji51 := (i64_w _).trans hji51
                                                by_cases c52 : 0 ≤ (ji51)
                                                · rw [if_pos c52] at H
                                                  have c52b0 := eq_true c52
                                                  have c52b1 : decide (0 ≤ (ji51)) = true := decide_eq_true c52
                                                  clear c52
                                                  by_cases c53 : (ji51) ≤ (t246.size : Int)
                                                  · rw [if_pos c53] at H
                                                    have c53b0 := eq_true c53
                                                    have c53b1 : decide ((ji51) ≤ (t246.size : Int)) = true := decide_eq_true c53
                                                    clear c53
                                                    by_cases c54 : (ji51) < (t246.size : Int)
                                                    · rw [if_pos c54] at H
                                                      have c54b0 : decide ((ji51) < (t246.size : Int)) = true := decide_eq_true c54
                                                      clear c54
                                                      replace H := Option.bind_eq_some_iff.mp H
                                                      obtain ⟨t265, A560, H⟩ := H
                                                      replace H : (if 0 ≤ (IntKind.u64.wrap (t265)) then ((some (([Go.bits .xor .u8 (bt t246 (ji51)) (shl .u8 1 (IntKind.u64.wrap (t265)))] : List Int) : List Int)).bind fun y266 => (if (t246.extract 0 ((ji51) : Int).toNat).size + (strOfNums y266).size ≤ 9223372036854775807 then (if 0 ≤ (wrap64 ((ji51) + 1)) then (if (wrap64 ((ji51) + 1)) ≤ (t246.size : Int) then (if ((t246.extract 0 ((ji51) : Int).toNat) ++ (strOfNums y266)).size + (t246.extract ((wrap64 ((ji51) + 1)) : Int).toNat t246.size).size ≤ 9223372036854775807 then ((impl_LogScan.f kj41 (((t246.extract 0 ((ji51) : Int).toNat) ++ (strOfNums y266)) ++ (t246.extract ((wrap64 ((ji51) + 1)) : Int).toNat t246.size)) t242).bind fun bt269 => (if 0 ≤ (wrap64 ((t243.length : Int) - 1)) then (if (wrap64 ((t243.length : Int) - 1)) ≤ (t243.length : Int) then ((spec_LogPack.f kj41 t242 (t243.take ((wrap64 ((t243.length : Int) - 1)) : Int).toNat)).bind fun bt277 => (if bt277.2 = 0 then (if bt269.2 = (bt277.1.size : Int) then (some ((bt269.1.length : Int) == (wrap64 ((t243.length : Int) - 1)))) else (some false)) else (some false))) else (none)) else (none))) else (none)) else (none)) else (none)) else (none))) else (none)) = some r := H
                                                      have A56 := Aside0.mk A560
                                                      clear A560
                                                      obtain ⟨ji57, hji57⟩ : ∃ j_ : Int, (IntKind.u64.wrap (t265)) = j_ := ⟨_, rfl⟩
                                                      replace H : (if 0 ≤ (ji57) then ((some (([Go.bits .xor .u8 (bt t246 (ji51)) (shl .u8 1 (ji57))] : List Int) : List Int)).bind fun y266 => (if (t246.extract 0 ((ji51) : Int).toNat).size + (strOfNums y266).size ≤ 9223372036854775807 then (if 0 ≤ (wrap64 ((ji51) + 1)) then (if (wrap64 ((ji51) + 1)) ≤ (t246.size : Int) then (if ((t246.extract 0 ((ji51) : Int).toNat) ++ (strOfNums y266)).size + (t246.extract ((wrap64 ((ji51) + 1)) : Int).toNat t246.size).size ≤ 9223372036854775807 then ((impl_LogScan.f kj41 (((t246.extract 0 ((ji51) : Int).toNat) ++ (strOfNums y266)) ++ (t246.extract ((wrap64 ((ji51) + 1)) : Int).toNat t246.size)) t242).bind fun bt269 => (if 0 ≤ (wrap64 ((t243.length : Int) - 1)) then (if (wrap64 ((t243.length : Int) - 1)) ≤ (t243.length : Int) then ((spec_LogPack.f kj41 t242 (t243.take ((wrap64 ((t243.length : Int) - 1)) : Int).toNat)).bind fun bt277 => (if bt277.2 = 0 then (if bt269.2 = (bt277.1.size : Int) then (some ((bt269.1.length : Int) == (wrap64 ((t243.length : Int) - 1)))) else (some false)) else (some false))) else (none)) else (none))) else (none)) else (none)) else (none)) else (none))) else (none)) = some r := by first | (rw [hji57] at H; exact H) | (simp only [hji57] at H ⊢; exact H)
                                                      (try rw [hji57] at A50)
                                                      (try rw [hji57] at A56)
                                                      by_cases c58 : 0 ≤ (ji57)
                                                      · rw [if_pos c58] at H
                                                        have c58b0 := eq_true c58
                                                        have c58b1 : decide (0 ≤ (ji57)) = true := decide_eq_true c58
                                                        clear c58
                                                        obtain ⟨ji59, hji59⟩ : ∃ j_ : Int, (shl .u8 1 (ji57)) = j_ := ⟨_, rfl⟩
                                                        replace H : ((some (([Go.bits .xor .u8 (bt t246 (ji51)) (ji59)] : List Int) : List Int)).bind fun y266 => (if (t246.extract 0 ((ji51) : Int).toNat).size + (strOfNums y266).size ≤ 9223372036854775807 then (if 0 ≤ (wrap64 ((ji51) + 1)) then (if (wrap64 ((ji51) + 1)) ≤ (t246.size : Int) then (if ((t246.extract 0 ((ji51) : Int).toNat) ++ (strOfNums y266)).size + (t246.extract ((wrap64 ((ji51) + 1)) : Int).toNat t246.size).size ≤ 9223372036854775807 then ((impl_LogScan.f kj41 (((t246.extract 0 ((ji51) : Int).toNat) ++ (strOfNums y266)) ++ (t246.extract ((wrap64 ((ji51) + 1)) : Int).toNat t246.size)) t242).bind fun bt269 => (if 0 ≤ (wrap64 ((t243.length : Int) - 1)) then (if (wrap64 ((t243.length : Int) - 1)) ≤ (t243.length : Int) then ((spec_LogPack.f kj41 t242 (t243.take ((wrap64 ((t243.length : Int) - 1)) : Int).toNat)).bind fun bt277 => (if bt277.2 = 0 then (if bt269.2 = (bt277.1.size : Int) then (some ((bt269.1.length : Int) == (wrap64 ((t243.length : Int) - 1)))) else (some false)) else (some false))) else (none)) else (none))) else (none)) else (none)) else (none)) else (none))) = some r := by first | (rw [hji59] at H; exact H) | (simp only [hji59] at H ⊢; exact H)
                                                        (try rw [hji59] at A50)
                                                        (try rw [hji59] at A56)
                                                        have hji59_ : (IntKind.u8.wrap (1 * 2 ^ min (ji57).toNat 8)) = ji59 := hji59
                                                        have hji59z : (ji57) ≤ 8 → (IntKind.u8.wrap (1 * 2 ^ (ji57).toNat)) = ji59 := shl_small hji59
                                                        have hji59u : (IntKind.u8.wrap (2 ^ min (ji57).toNat 8)) = ji59 := by have h_ := hji59_; rw [Int.one_mul] at h_; exact h_
                                                        have hji59v : (ji57) ≤ 8 → (IntKind.u8.wrap (2 ^ (ji57).toNat)) = ji59 := fun hle_ => by have h_ := hji59z hle_; rw [Int.one_mul] at h_; exact h_
                                                        obtain ⟨y266, hy266⟩ : ∃ y_ : List Int, y_ = (([Go.bits .xor .u8 (bt t246 (ji51)) (ji59)] : List Int)) := ⟨_, rfl⟩
                                                        replace H : (if (t246.extract 0 ((ji51) : Int).toNat).size + (strOfNums y266).size ≤ 9223372036854775807 then (if 0 ≤ (wrap64 ((ji51) + 1)) then (if (wrap64 ((ji51) + 1)) ≤ (t246.size : Int) then (if ((t246.extract 0 ((ji51) : Int).toNat) ++ (strOfNums y266)).size + (t246.extract ((wrap64 ((ji51) + 1)) : Int).toNat t246.size).size ≤ 9223372036854775807 then ((impl_LogScan.f kj41 (((t246.extract 0 ((ji51) : Int).toNat) ++ (strOfNums y266)) ++ (t246.extract ((wrap64 ((ji51) + 1)) : Int).toNat t246.size)) t242).bind fun bt269 => (if 0 ≤ (wrap64 ((t243.length : Int) - 1)) then (if (wrap64 ((t243.length : Int) - 1)) ≤ (t243.length : Int) then ((spec_LogPack.f kj41 t242 (t243.take ((wrap64 ((t243.length : Int) - 1)) : Int).toNat)).bind fun bt277 => (if bt277.2 = 0 then (if bt269.2 = (bt277.1.size : Int) then (some ((bt269.1.length : Int) == (wrap64 ((t243.length : Int) - 1)))) else (some false)) else (some false))) else (none)) else (none))) else (none)) else (none)) else (none)) else (none)) = some r := by first | (rw [hy266]; with_reducible exact H) | (have H2_ := (Option.bind_some _ _).symm.trans H; rw [hy266]; with_reducible exact H2_) | (have H2_ := (Option.bind_some _ _).symm.trans H; with_reducible exact H2_) | with_reducible exact H | (rw [hy266]; exact H) | exact H
                                                        have Ny266 := Aside0.mk hy266
                                                        clear hy266
                                                        by_cases c60 : (t246.extract 0 ((ji51) : Int).toNat).size + (strOfNums y266).size ≤ 9223372036854775807
                                                        · rw [if_pos c60] at H
                                                          have c60b0 := eq_true c60
                                                          try (have c60b0z := c60b0; simp only [ByteArray.size_extract, Nat.min_self] at c60b0z)
                                                          have c60b1 : decide ((t246.extract 0 ((ji51) : Int).toNat).size + (strOfNums y266).size ≤ 9223372036854775807) = true := decide_eq_true c60
                                                          try (have c60b1z := c60b1; simp only [ByteArray.size_extract, Nat.min_self] at c60b1z)
                                                          try have c60b2 : (9223372036854775807 < (t246.extract 0 ((ji51) : Int).toNat).size + (strOfNums y266).size) = False := eq_false (Nat.not_lt.2 c60)
                                                          try (have c60b3 := c60b2; simp only [ByteArray.size_append] at c60b3)
                                                          try (have zz1 : (t246.extract 0 ((ji51) : Int).toNat).size = ((ji51) : Int).toNat := by (have le_ := of_decide_eq_true c53b1; rw [ByteArray.size_extract]; omega); have c60b4 := c60b2; (try simp only [ByteArray.size_append] at c60b4); rw [zz1] at c60b4; (try simp only [ByteArray.size_extract, Nat.min_self] at c60b4))
                                                          obtain ⟨ji61, hji61⟩ : ∃ j_ : Int, (wrap64 ((ji51) + 1)) = j_ := ⟨_, rfl⟩
                                                          replace H : (if 0 ≤ (ji61) then (if (ji61) ≤ (t246.size : Int) then (if ((t246.extract 0 ((ji51) : Int).toNat) ++ (strOfNums y266)).size + (t246.extract ((ji61) : Int).toNat t246.size).size ≤ 9223372036854775807 then ((impl_LogScan.f kj41 (((t246.extract 0 ((ji51) : Int).toNat) ++ (strOfNums y266)) ++ (t246.extract ((ji61) : Int).toNat t246.size)) t242).bind fun bt269 => (if 0 ≤ (wrap64 ((t243.length : Int) - 1)) then (if (wrap64 ((t243.length : Int) - 1)) ≤ (t243.length : Int) then ((spec_LogPack.f kj41 t242 (t243.take ((wrap64 ((t243.length : Int) - 1)) : Int).toNat)).bind fun bt277 => (if bt277.2 = 0 then (if bt269.2 = (bt277.1.size : Int) then (some ((bt269.1.length : Int) == (wrap64 ((t243.length : Int) - 1)))) else (some false)) else (some false))) else (none)) else (none))) else (none)) else (none)) else (none)) = some r := by first | (rw [hji61] at H; exact H) | (simp only [hji61] at H ⊢; exact H)
                                                          (try rw [hji61] at A50)
                                                          (try rw [hji61] at A56)
                                                          have hji61w : (IntKind.i64.wrap ((ji51) + 1)) = ji61 := (i64_w _).trans hji61
                                                          by_cases c62 : 0 ≤ (ji61)
                                                          · rw [if_pos c62] at H
                                                            have c62b0 := eq_true c62
                                                            have c62b1 : decide (0 ≤ (ji61)) = true := decide_eq_true c62
                                                            clear c62
                                                            by_cases c63 : (ji61) ≤ (t246.size : Int)
                                                            · rw [if_pos c63] at H
                                                              have c63b0 := eq_true c63
                                                              have c63b1 : decide ((ji61) ≤ (t246.size : Int)) = true := decide_eq_true c63
                                                              clear c63
                                                              by_cases c64 : ((t246.extract 0 ((ji51) : Int).toNat) ++ (strOfNums y266)).size + (t246.extract ((ji61) : Int).toNat t246.size).size ≤ 9223372036854775807
                                                              · rw [if_pos c64] at H
                                                                have c64b0 := eq_true c64
                                                                try (have c64b0z := c64b0; simp only [ByteArray.size_extract, Nat.min_self] at c64b0z)
                                                                have c64b1 : decide (((t246.extract 0 ((ji51) : Int).toNat) ++ (strOfNums y266)).size + (t246.extract ((ji61) : Int).toNat t246.size).size ≤ 9223372036854775807) = true := decide_eq_true c64
                                                                try (have c64b1z := c64b1; simp only [ByteArray.size_extract, Nat.min_self] at c64b1z)
                                                                try have c64b2 : (9223372036854775807 < ((t246.extract 0 ((ji51) : Int).toNat) ++ (strOfNums y266)).size + (t246.extract ((ji61) : Int).toNat t246.size).size) = False := eq_false (Nat.not_lt.2 c64)
                                                                try (have c64b3 := c64b2; simp only [ByteArray.size_append] at c64b3)
                                                                try (have zz1 : (t246.extract 0 ((ji51) : Int).toNat).size = ((ji51) : Int).toNat := by (have le_ := of_decide_eq_true c53b1; rw [ByteArray.size_extract]; omega); have c64b4 := c64b2; (try simp only [ByteArray.size_append] at c64b4); rw [zz1] at c64b4; (try simp only [ByteArray.size_extract, Nat.min_self] at c64b4))
                                                                replace H := Option.bind_eq_some_iff.mp H
                                                                obtain ⟨⟨t269, t270⟩, A650, H⟩ := H
                                                                replace H : (if 0 ≤ (wrap64 ((t243.length : Int) - 1)) then (if (wrap64 ((t243.length : Int) - 1)) ≤ (t243.length : Int) then ((spec_LogPack.f kj41 t242 (t243.take ((wrap64 ((t243.length : Int) - 1)) : Int).toNat)).bind fun bt277 => (if bt277.2 = 0 then (if t270 = (bt277.1.size : Int) then (some ((t269.length : Int) == (wrap64 ((t243.length : Int) - 1)))) else (some false)) else (some false))) else (none)) else (none)) = some r := H
                                                                have A65 := Aside0.mk A650
                                                                clear A650
                                                                obtain ⟨ji66, hji66⟩ : ∃ j_ : Int, (wrap64 ((t243.length : Int) - 1)) = j_ := ⟨_, rfl⟩
                                                                replace H : (if 0 ≤ (ji66) then (if (ji66) ≤ (t243.length : Int) then ((spec_LogPack.f kj41 t242 (t243.take ((ji66) : Int).toNat)).bind fun bt277 => (if bt277.2 = 0 then (if t270 = (bt277.1.size : Int) then (some ((t269.length : Int) == (ji66))) else (some false)) else (some false))) else (none)) else (none)) = some r := by first | (rw [hji66] at H; exact H) | (simp only [hji66] at H ⊢; exact H)
                                                                (try rw [hji66] at A50)
                                                                (try rw [hji66] at A56)
                                                                (try rw [hji66] at A65)
                                                                have hji66w : (IntKind.i64.wrap ((t243.length : Int) - 1)) = ji66 := (i64_w _).trans hji66
                                                                by_cases c67 : 0 ≤ (ji66)
                                                                · rw [if_pos c67] at H
                                                                  have c67b0 := eq_true c67
                                                                  have c67b1 : decide (0 ≤ (ji66)) = true := decide_eq_true c67
                                                                  clear c67
                                                                  by_cases c68 : (ji66) ≤ (t243.length : Int)
                                                                  · rw [if_pos c68] at H
                                                                    have c68b0 := eq_true c68
                                                                    have c68b1 : decide ((ji66) ≤ (t243.length : Int)) = true := decide_eq_true c68
                                                                    clear c68
                                                                    obtain ⟨y273, hy273⟩ : ∃ y_ : List (S45), y_ = (t243.take ((ji66) : Int).toNat) := ⟨_, rfl⟩
                                                                    replace H : ((spec_LogPack.f kj41 t242 y273).bind fun bt277 => (if bt277.2 = 0 then (if t270 = (bt277.1.size : Int) then (some ((t269.length : Int) == (ji66))) else (some false)) else (some false))) = some r := by first | (rw [hy273]; with_reducible exact H) | (have H2_ := (Option.bind_some _ _).symm.trans H; rw [hy273]; with_reducible exact H2_) | (have H2_ := (Option.bind_some _ _).symm.trans H; with_reducible exact H2_) | with_reducible exact H | (rw [hy273]; exact H) | exact H
                                                                    have Ny273 := Aside0.mk hy273
                                                                    clear hy273
                                                                    replace H := Option.bind_eq_some_iff.mp H
                                                                    obtain ⟨⟨t277, t278⟩, A690, H⟩ := H
                                                                    replace H : (if t278 = 0 then (if t270 = (t277.size : Int) then (some ((t269.length : Int) == (ji66))) else (some false)) else (some false)) = some r := H
                                                                    have A69 := Aside0.mk A690
                                                                    clear A690
                                                                    by_cases c70 : t278 = 0
                                                                    · rw [if_pos c70] at H
                                                                      have c70b0 : (t278 == 0) = true := beq_iff_eq.mpr c70
                                                                      have c70b1 : (t278 != 0) = false := bne_eq_false_iff_eq.mpr c70
                                                                      clear c70
                                                                      by_cases c71 : t270 = (t277.size : Int)
                                                                      · rw [if_pos c71] at H
                                                                        have c71b0 : (t270 == (t277.size : Int)) = true := beq_iff_eq.mpr c71
                                                                        have c71b1 : (t270 != (t277.size : Int)) = false := bne_eq_false_iff_eq.mpr c71
                                                                        clear c71
                                                                        obtain rfl := Option.some.inj H
                                                                        try go_wp2_with (first | ((with_reducible refine gate_callee (f := 22) rfl ?_); refine goesL_ (some 139) rfl rfl Try.func22 (by kernel_rfl) rfl #[.slice A1 l1.length c1, .int .i64 2, .int .i64 4] rfl (by (try simp only [List.map_toArray, List.map_cons, List.map_nil]); first | done | rfl | (simp only [List.length_drop, List.length_take]; rfl)) ?_; (with_reducible refine (laws_pick.calls _ _ l1 2 4 t264 _ ?side1 ?side2 A50.out).mono ?_); (case side1 => repeat (first | exact (Kd.C_below HR1.out HB.out) | (with_reducible refine Kd.C_alloc ?_ _) | (with_reducible refine Kd.C_drewN ?_ _) | (with_reducible refine Kd.C_drew ?_))); (case side2 => exact HC1.out); rintro e w' ⟨rfl, ⟨nd, rfl⟩⟩; refine ⟨_, rfl, ?_⟩))
                                                                        (try (rw [drewN_self wc]; generalize hq_ : World.drewN wc _ = wc; have n0_ : Aside0 (Kd.R k45 45 wc w.heap.size (fun _ => True) (.slice Ao13 t243.length co13) t243) := ⟨by rw [← hq_]; exact (by (with_reducible repeat (first | apply Kd.R_alloc | apply Kd.R_drewN | apply Kd.R_drew)); exact HO_6.out)⟩; have n1_ : Aside0 (Below w.heap.size w wc) := ⟨by rw [← hq_]; exact (by repeat (first | (with_reducible first | exact HB.out | apply below_alloc | apply pw_below_drewN | apply below_drew1) | exact HB.out))⟩; have n2_ : Aside0 (Kd.C k45 wc Ao13 y258.length y258) := ⟨by rw [← hq_]; exact Kd.C_drewN HR261.out _⟩; clear HO_6 HB HR261 hq_; have HO_6 := n0_; have HB := n1_; have HR261 := n2_; clear n0_ n1_ n2_))
                                                                        have n0_ := Aside0.mk (Kd.R_drew HO_6.out)
                                                                        have n1_ := Aside0.mk (Kd.C_drew HR261.out)
                                                                        have n2_ := Aside0.mk (below_drew1 HB.out)
                                                                        clear HO_6
                                                                        clear HR261
                                                                        clear HB
                                                                        have HO_6 := n0_
                                                                        have HR261 := n1_
                                                                        have HB := n2_
                                                                        clear n0_ n1_ n2_
                                                                        have p55 : 0 ≤ ((ji51) : Int) := of_decide_eq_true (by first | (with_reducible assumption) | assumption)
                                                                        have q55 : (ji51) < (t246.size : Int) := of_decide_eq_true (by first | (with_reducible assumption) | assumption)
                                                                        have hx55 := bt_at t246 (ji51)
                                                                        replace p55 := eq_true p55
                                                                        replace q55 := eq_true q55
                                                                        refine start_ (n := 20) (S := fun w' => True) (ds := []) #[false, false, false, false, false, false, false, false, false, false, false, false, false, false, false, false, false, false, false, false] (by kernel_rfl) rfl rfl trivial (fun hHeld => ?_); refine with_tabW laws_FnLogCut.tab24 laws_FnLogCut.bits24 (fun HT_ HW_ => ?_)
                                                                        generalize wc.drew = w72 at HO_6 HR261 HB hHeld ⊢
                                                                        refine pure_ (i := 0) (N := some 141) (v := ?_) (a' := ?_) #[true, false, false, false, false, false, false, false, false, false, false, false, false, false, false, false, false, false, false, false] rfl rfl (any_of HT_.out (by kernel_rfl)) (fun _ _ _ h => h) (Or.inl ⟨by rfl, ?_⟩) ?_ ?_
                                                                        rotate_left
                                                                        · intro w'
                                                                          go_simp
                                                                          with_reducible rfl
                                                                        rotate_left
                                                                        · simp only [Act.put, List.setIfInBounds_toArray, List.set_cons_zero, List.set_cons_succ, i64_w, i32_w]
                                                                          rfl
                                                                        refine pure_ (i := 1) (N := some 142) (v := ?_) (a' := ?_) #[true, true, false, false, false, false, false, false, false, false, false, false, false, false, false, false, false, false, false, false] rfl rfl (any_of HT_.out (by kernel_rfl)) (fun _ _ _ h => h) (Or.inl ⟨by rfl, ?_⟩) ?_ ?_
                                                                        rotate_left
                                                                        · intro w'
                                                                          go_simp
                                                                          with_reducible rfl
                                                                        rotate_left
                                                                        · simp only [Act.put, List.setIfInBounds_toArray, List.set_cons_zero, List.set_cons_succ, i64_w, i32_w]
                                                                          rfl
                                                                        refine pure_ (i := 2) (N := some 143) (v := ?_) (a' := ?_) #[true, true, true, false, false, false, false, false, false, false, false, false, false, false, false, false, false, false, false, false] rfl rfl (any_of HT_.out (by kernel_rfl)) (fun _ _ _ h => h) (Or.inl ⟨by rfl, ?_⟩) ?_ ?_
                                                                        rotate_left
                                                                        · intro w'
                                                                          go_simp
                                                                          with_reducible rfl
                                                                        rotate_left
                                                                        · simp only [Act.put, List.setIfInBounds_toArray, List.set_cons_zero, List.set_cons_succ, i64_w, i32_w]
                                                                          rfl
                                                                        refine pure_ (i := 3) (N := some 144) (v := ?_) (a' := ?_) #[true, true, true, true, false, false, false, false, false, false, false, false, false, false, false, false, false, false, false, false] rfl rfl (any_of HT_.out (by kernel_rfl)) (fun _ _ _ h => h) (Or.inl ⟨by rfl, ?_⟩) ?_ ?_
                                                                        rotate_left
                                                                        · intro w'
                                                                          go_simp
                                                                          with_reducible rfl
                                                                        rotate_left
                                                                        · simp only [Act.put, List.setIfInBounds_toArray, List.set_cons_zero, List.set_cons_succ, i64_w, i32_w]
                                                                          rfl
                                                                        refine pure_ (i := 4) (N := some 145) (v := ?_) (a' := ?_) #[true, true, true, true, true, false, false, false, false, false, false, false, false, false, false, false, false, false, false, false] rfl rfl (any_of HT_.out (by kernel_rfl)) (fun _ _ _ h => h) (Or.inl ⟨by rfl, ?_⟩) ?_ ?_
                                                                        rotate_left
                                                                        · intro w'
                                                                          go_simp
                                                                          with_reducible rfl
                                                                        rotate_left
                                                                        · simp only [Act.put, List.setIfInBounds_toArray, List.set_cons_zero, List.set_cons_succ, i64_w, i32_w]
                                                                          rfl
                                                                        refine pure_ (i := 6) (N := some 147) (v := ?_) (a' := ?_) #[true, true, true, true, true, false, true, false, false, false, false, false, false, false, false, false, false, false, false, false] rfl rfl (any_of HT_.out (by kernel_rfl)) (fun _ _ _ h => h) (Or.inl ⟨by rfl, ?_⟩) ?_ ?_
                                                                        rotate_left
                                                                        · intro w'
                                                                          go_simp
                                                                          with_reducible rfl
                                                                        rotate_left
                                                                        · simp only [Act.put, List.setIfInBounds_toArray, List.set_cons_zero, List.set_cons_succ, i64_w, i32_w]
                                                                          rfl
                                                                        refine pure_ (i := 14) (N := some 155) (v := ?_) (a' := ?_) #[true, true, true, true, true, false, true, false, false, false, false, false, false, false, true, false, false, false, false, false] rfl rfl (any_of HT_.out (by kernel_rfl)) (fun _ _ _ h => h) (Or.inl ⟨by rfl, ?_⟩) ?_ ?_
                                                                        rotate_left
                                                                        · intro w'
                                                                          go_simp
                                                                          with_reducible rfl
                                                                        rotate_left
                                                                        · simp only [Act.put, List.setIfInBounds_toArray, List.set_cons_zero, List.set_cons_succ, i64_w, i32_w]
                                                                          rfl
                                                                        refine pure_ (i := 15) (N := some 156) (v := ?_) (a' := ?_) #[true, true, true, true, true, false, true, false, false, false, false, false, false, false, true, true, false, false, false, false] rfl rfl (any_of HT_.out (by kernel_rfl)) (fun _ _ _ h => h) (Or.inl ⟨by rfl, ?_⟩) ?_ ?_
                                                                        rotate_left
                                                                        · intro w'
                                                                          go_simp
                                                                          with_reducible rfl
                                                                        rotate_left
                                                                        · simp only [Act.put, List.setIfInBounds_toArray, List.set_cons_zero, List.set_cons_succ, i64_w, i32_w]
                                                                          rfl
                                                                        refine pure_ (i := 16) (N := some 157) (v := ?_) (a' := ?_) #[true, true, true, true, true, false, true, false, false, false, false, false, false, false, true, true, true, false, false, false] rfl rfl (any_of HT_.out (by kernel_rfl)) (fun _ _ _ h => h) (Or.inl ⟨by rfl, ?_⟩) ?_ ?_
                                                                        rotate_left
                                                                        · intro w'
                                                                          go_simp
                                                                          with_reducible rfl
                                                                        rotate_left
                                                                        · simp only [Act.put, List.setIfInBounds_toArray, List.set_cons_zero, List.set_cons_succ, i64_w, i32_w]
                                                                          rfl
                                                                        refine pure_ (i := 17) (N := some 158) (v := ?_) (a' := ?_) #[true, true, true, true, true, false, true, false, false, false, false, false, false, false, true, true, true, true, false, false] rfl rfl (any_of HT_.out (by kernel_rfl)) (fun _ _ _ h => h) (Or.inl ⟨by rfl, ?_⟩) ?_ ?_
                                                                        rotate_left
                                                                        · intro w'
                                                                          go_simp
                                                                          with_reducible rfl
                                                                        rotate_left
                                                                        · simp only [Act.put, List.setIfInBounds_toArray, List.set_cons_zero, List.set_cons_succ, i64_w, i32_w]
                                                                          rfl
                                                                        refine take_ (i := 5) (N := some 146) (v := ?_) (a' := ?_) #[true, true, true, true, true, true, true, false, false, false, false, false, false, false, true, true, true, true, false, false] rfl rfl (take_ofW HT_.out HW_.out (by kernel_rfl)) (fun _ _ _ h => h) (Or.inl ⟨by rfl, ?_⟩) hHeld ?_ ?_
                                                                        rotate_left
                                                                        · intro w' _
                                                                          go_simp
                                                                          with_reducible rfl
                                                                        rotate_left
                                                                        · simp only [Act.put, List.setIfInBounds_toArray, List.set_cons_zero, List.set_cons_succ, i64_w, i32_w]
                                                                          rfl
                                                                        refine one_ (i := 7) (N := some 148) #[true, true, true, true, true, true, true, true, false, false, false, false, false, false, true, true, true, true, false, false] rfl rfl (one_of HT_.out (by kernel_rfl)) (by decide) (fun K hK => ?_)
                                                                        refine goes_ Try.func22 (by kernel_rfl) rfl #[.slice A1 l1.length c1, .int .i64 3, .int .i64 8] (by rfl) rfl rfl (by (try simp only [List.map_toArray, List.map_cons, List.map_nil]); first | done | rfl | (simp only [List.length_drop, List.length_take]; rfl)) ?_
                                                                        with_reducible refine (laws_pick.calls _ _ l1 3 8 t265 _ ?side1 ?side2 A56.out).mono ?_
                                                                        (case side1 => repeat (first | exact (Kd.C_below HR1.out HB.out) | (with_reducible refine Kd.C_alloc ?_ _) | (with_reducible refine Kd.C_drewN ?_ _) | (with_reducible refine Kd.C_drew ?_)))
                                                                        (case side2 => exact HC1.out)
                                                                        rintro e w' ⟨rfl, ⟨nd, rfl⟩⟩
                                                                        refine ⟨_, rfl, ?_⟩
                                                                        refine hK.out _ _ trivial (fun hHeld => ?_)
                                                                        clear hK K
                                                                        refine norm_ (a' := ?_) ?_ ?_
                                                                        rotate_left
                                                                        · show Act.put _ (some 148) _ = _
                                                                          simp only [Act.put, List.setIfInBounds_toArray, List.set_cons_zero, List.set_cons_succ, i64_w, i32_w]
                                                                          rfl
                                                                        refine pure_ (i := 8) (N := some 149) (v := ?_) (a' := ?_) #[true, true, true, true, true, true, true, true, true, false, false, false, false, false, true, true, true, true, false, false] rfl rfl (any_of HT_.out (by kernel_rfl)) (fun _ _ _ h => h) (Or.inl ⟨by rfl, ?_⟩) ?_ ?_
                                                                        rotate_left
                                                                        · intro w'
                                                                          go_simp
                                                                          with_reducible rfl
                                                                        rotate_left
                                                                        · simp only [Act.put, List.setIfInBounds_toArray, List.set_cons_zero, List.set_cons_succ, i64_w, i32_w]
                                                                          rfl
                                                                        refine pure_ (i := 9) (N := some 150) (v := ?_) (a' := ?_) #[true, true, true, true, true, true, true, true, true, true, false, false, false, false, true, true, true, true, false, false] rfl rfl (any_of HT_.out (by kernel_rfl)) (fun _ _ _ h => h) (Or.inl ⟨by rfl, ?_⟩) ?_ ?_
                                                                        rotate_left
                                                                        · intro w'
                                                                          go_simp
                                                                          with_reducible rfl
                                                                        rotate_left
                                                                        · simp only [Act.put, List.setIfInBounds_toArray, List.set_cons_zero, List.set_cons_succ, i64_w, i32_w]
                                                                          rfl
                                                                        refine pure_ (i := 10) (N := some 151) (v := ?_) (a' := ?_) #[true, true, true, true, true, true, true, true, true, true, true, false, false, false, true, true, true, true, false, false] rfl rfl (any_of HT_.out (by kernel_rfl)) (fun _ _ _ h => h) (Or.inl ⟨by rfl, ?_⟩) ?_ ?_
                                                                        rotate_left
                                                                        · intro w'
                                                                          go_simp
                                                                          with_reducible rfl
                                                                        rotate_left
                                                                        · simp only [Act.put, List.setIfInBounds_toArray, List.set_cons_zero, List.set_cons_succ, i64_w, i32_w]
                                                                          rfl
                                                                        refine one_ (i := 11) (N := some 152) #[true, true, true, true, true, true, true, true, true, true, true, true, false, false, true, true, true, true, false, false] rfl rfl (one_of HT_.out (by kernel_rfl)) (by decide) (fun K hK => ?_)
                                                                        refine Kd.R_lit_step (Kd.int .u8) _ 5 ?hg (N := 152) ?hd (xs := ([Go.bits .xor .u8 (bt t246 (ji51)) (ji59)] : List Int)) (inner := [.int .u8 (Go.bits .xor .u8 (bt t246 (ji51)) (ji59))]) (ok := fun _ => True) (okp := fun _ => True) ?hr ?hp (fun _ hk => hk) trivial (Below.refl _ _) (Nat.le_refl _) (by simp) ?_; (case hd => rfl); (case hg => rfl); (case hr => first | (go_simp; done) | (go_simp; rfl)); (case hp => exact (Reps.one (show Kd.M (Kd.int .u8) _ _ _ (Go.bits .xor .u8 (bt t246 (ji51)) (ji59)) [.int .u8 (Go.bits .xor .u8 (bt t246 (ji51)) (ji59))] from rfl) (Reps.none _ _)))
                                                                        intro v267 w73 ho74 hb hg_ hnew_
                                                                        clear hg_ hnew_
                                                                        (first | rw [← Ny266.out] at ho74 | (simp only [Int.reduceToNat] at ho74; rw [← Ny266.out] at ho74))
                                                                        have n0_ := Aside0.mk (Kd.R_below (by (with_reducible repeat (first | apply Kd.R_alloc | apply Kd.R_drewN | apply Kd.R_drew)); exact HO_6.out) hb)
                                                                        have n1_ := Aside0.mk (Kd.R_lower ho74 (below_size (by repeat (first | (with_reducible first | exact HB.out | apply below_alloc | apply pw_below_drewN | apply below_drew1) | exact HB.out))))
                                                                        have n2_ := Aside0.mk (Kd.C_below (show Kd.C k45 _ Ao13 y258.length y258 from by repeat (first | (with_reducible exact HR261.out) | (with_reducible refine Kd.C_alloc ?_ _) | (with_reducible refine Kd.C_drewN ?_ _) | (with_reducible refine Kd.C_drew ?_) | exact HR261.out)) hb)
                                                                        have n3_ := Aside0.mk (below_step (by repeat (first | (with_reducible first | exact HB.out | apply below_alloc | apply pw_below_drewN | apply below_drew1) | exact HB.out)) hb)
                                                                        clear HO_6
                                                                        clear HR261
                                                                        clear HB
                                                                        have HO_6 := n0_
                                                                        have HO268 := n1_
                                                                        have HR261 := n2_
                                                                        have HB := n3_
                                                                        clear n0_ n1_ n2_ n3_
                                                                        clear hb ho74
                                                                        refine hK.out _ _ trivial (fun hHeld => ?_)
                                                                        clear hK K
                                                                        refine norm_ (a' := ?_) ?_ ?_
                                                                        rotate_left
                                                                        · show Act.put _ (some 152) _ = _
                                                                          simp only [Act.put, List.setIfInBounds_toArray, List.set_cons_zero, List.set_cons_succ, i64_w, i32_w]
                                                                          rfl
                                                                        refine one_ (i := 12) (N := some 153) #[true, true, true, true, true, true, true, true, true, true, true, true, true, false, true, true, true, true, false, false] rfl rfl (one_of HT_.out (by kernel_rfl)) (by decide) (fun K hK => ?_)
                                                                        have hcv75 := own_string (P := Try.prog) Try.underlying37 Try.underlying5 Try.underlying9 (Kd.own_of_R HO268.out)
                                                                        refine value_ (w1 := ?_) (v := ?_) (by rfl) rfl ?_ ?_
                                                                        rotate_left 2
                                                                        · go_simp
                                                                          constructor
                                                                          · rfl
                                                                          · rfl
                                                                        clear hcv75
                                                                        refine hK.out _ _ trivial (fun hHeld => ?_)
                                                                        clear hK K
                                                                        refine norm_ (a' := ?_) ?_ ?_
                                                                        rotate_left
                                                                        · show Act.put _ (some 153) _ = _
                                                                          simp only [Act.put, List.setIfInBounds_toArray, List.set_cons_zero, List.set_cons_succ, i64_w, i32_w]
                                                                          rfl
                                                                        have zzL : ji51.toNat ≤ t246.size := by have h2 := of_decide_eq_true c54b0; omega
                                                                        have zzA : (9223372036854775807 < ji51.toNat + (strOfNums y266).size) = False := eq_false (Nat.not_lt.2 (by have h := c60; rw [ByteArray.size_extract] at h; omega))
                                                                        have zzB : (9223372036854775807 < ji51.toNat + (strOfNums y266).size + (t246.size - ji61.toNat)) = False := eq_false (Nat.not_lt.2 (by have h := c64; rw [ByteArray.size_append, ByteArray.size_extract, ByteArray.size_extract] at h; omega))
                                                                        refine pure_ (i := 13) (N := some 154) (v := ?_) (a' := ?_) #[true, true, true, true, true, true, true, true, true, true, true, true, true, true, true, true, true, true, false, false] rfl rfl (any_of HT_.out (by kernel_rfl)) (fun _ _ _ h => h) (Or.inl ⟨by rfl, ?_⟩) ?_ ?_
                                                                        rotate_left
                                                                        · intro w'
                                                                          go_simp
                                                                          with_reducible rfl
                                                                        rotate_left
                                                                        · simp only [Act.put, List.setIfInBounds_toArray, List.set_cons_zero, List.set_cons_succ, i64_w, i32_w]
                                                                          rfl
                                                                        refine pure_ (i := 18) (N := some 159) (v := ?_) (a' := ?_) #[true, true, true, true, true, true, true, true, true, true, true, true, true, true, true, true, true, true, true, false] rfl rfl (any_of HT_.out (by kernel_rfl)) (fun _ _ _ h => h) (Or.inl ⟨by rfl, ?_⟩) ?_ ?_
                                                                        rotate_left
                                                                        · intro w'
                                                                          go_simp
                                                                          with_reducible rfl
                                                                        rotate_left
                                                                        · simp only [Act.put, List.setIfInBounds_toArray, List.set_cons_zero, List.set_cons_succ, i64_w, i32_w]
                                                                          rfl
                                                                        refine pure_ (i := 19) (N := some 18) (v := ?_) (a' := ?_) #[true, true, true, true, true, true, true, true, true, true, true, true, true, true, true, true, true, true, true, true] rfl rfl (any_of HT_.out (by kernel_rfl)) (fun _ _ _ h => h) (Or.inl ⟨by rfl, ?_⟩) ?_ ?_
                                                                        rotate_left
                                                                        · intro w'
                                                                          go_simp
                                                                          with_reducible rfl
                                                                        rotate_left
                                                                        · simp only [Act.put, List.setIfInBounds_toArray, List.set_cons_zero, List.set_cons_succ, i64_w, i32_w]
                                                                          rfl
                                                                        refine done_ (done_of HT_.out (by kernel_rfl)) ?_
                                                                        try go_wp2_with (first | ((with_reducible refine gate_callee (f := 23) rfl ?_); refine goesL_ (some 163) rfl rfl Try.func23 (by kernel_rfl) rfl #[.string (((t246.extract 0 ((ji51) : Int).toNat) ++ (strOfNums y266)) ++ (t246.extract ((ji61) : Int).toNat t246.size)), .int .i64 t242] rfl (by (try simp only [List.map_toArray, List.map_cons, List.map_nil]); first | done | (simp only [hji51, hji61]; rfl) | rfl | (simp only [List.length_drop, List.length_take]; rfl)) ?_; (with_reducible refine (impl_LogScan.calls kj41 (((t246.extract 0 ((ji51) : Int).toNat) ++ (strOfNums y266)) ++ (t246.extract ((ji61) : Int).toNat t246.size)) t242 t269 t270 _ A65.out).mono ?_); rintro e w76 ⟨v271, rfl, ho0, hb⟩; refine ⟨_, rfl, ?_⟩; have n0_ := Aside0.mk (Kd.R_elder' (by (with_reducible repeat (first | apply Kd.R_alloc | apply Kd.R_drewN | apply Kd.R_drew)); exact HO_6.out) (Kd.R_base ho0) hb); have n1_ := Aside0.mk (Kd.R_below (by (with_reducible repeat (first | apply Kd.R_alloc | apply Kd.R_drewN | apply Kd.R_drew)); exact HO268.out) hb); have n2_ := Aside0.mk (Kd.R_lower (Kd.R_new' ho0 (Kd.R_lt (by (with_reducible repeat (first | apply Kd.R_alloc | apply Kd.R_drewN | apply Kd.R_drew)); exact HO_6.out))) (below_size (by repeat (first | (with_reducible first | exact HB.out | apply below_alloc | apply pw_below_drewN | apply below_drew1) | exact HB.out)))); have n3_ := Aside0.mk (Kd.C_below (show Kd.C k45 _ Ao13 y258.length y258 from by repeat (first | (with_reducible exact HR261.out) | (with_reducible refine Kd.C_alloc ?_ _) | (with_reducible refine Kd.C_drewN ?_ _) | (with_reducible refine Kd.C_drew ?_) | exact HR261.out)) hb); have n4_ := Aside0.mk (below_step (by repeat (first | (with_reducible first | exact HB.out | apply below_alloc | apply pw_below_drewN | apply below_drew1) | exact HB.out)) hb); clear HO_6; clear HO268; clear HR261; clear HB; have HO_6 := n0_; have HO268 := n1_; have HO272 := n2_; have HR261 := n3_; have HB := n4_; clear n0_ n1_ n2_ n3_ n4_; (try clear hb); (try clear hb2); (try clear hk); (try clear hi); (try clear ho0); have q77 : ((ji66) : Int) ≤ ((t243.length : Int) : Int) := of_decide_eq_true (by first | (with_reducible assumption) | assumption); obtain ⟨i077, hi077, _, hsz77, _⟩ := info_parts info45; have hroom77 : t243.length ≤ co13 := (Kd.R_reads' HO_6.out).2.1; have hC77 : Kd.C k45 _ Ao13 t243.length t243 := (Kd.R_reads' HO_6.out).2.2; have hcut77 := cut_to (P := Try.prog) 33 45 .i64 Try.underlying33 hi077 Ao13 t243.length co13 (ji66) (of_decide_eq_true (by first | (with_reducible assumption) | assumption)) q77 hroom77; have hr77 := Kd.C_take (m := ((ji66) : Int).toNat) hC77 (by omega); have hy77 : y273.length = ((ji66) : Int).toNat := (by rw [Ny273.out, List.length_take]; omega); rw [← Ny273.out] at hr77; rw [← hy77] at hcut77; have HR276 := Aside0.mk hr77; have HC276 := Aside0.mk (show y273.length ≤ co13 from by omega); clear hr77 hC77 hroom77 hi077 hsz77; have KY77 := Aside0.mk hy77; clear hy77; have KL77 := Aside0.mk (show ((ji66) : Int).toNat ≤ t243.length from by omega); replace q77 := eq_true q77) | ((with_reducible refine gate_callee (f := 16) rfl ?_); refine goesL_ (some 173) rfl rfl Try.func16 (by kernel_rfl) rfl #[.int .i64 t242, .slice Ao13 y273.length co13] rfl (by (try simp only [List.map_toArray, List.map_cons, List.map_nil]); first | done | rfl | (simp only [List.length_drop, List.length_take]; rfl)) ?_; (with_reducible refine (spec_LogPack.calls kj41 t242 _ _ y273 t277 t278 _ ?side1 ?side2 A69.out).mono ?_); (case side1 => repeat (first | exact (by repeat (first | (with_reducible exact HR276.out) | (with_reducible refine Kd.C_alloc ?_ _) | (with_reducible refine Kd.C_drewN ?_ _) | (with_reducible refine Kd.C_drew ?_) | exact HR276.out)) | (with_reducible refine Kd.C_alloc ?_ _) | (with_reducible refine Kd.C_drewN ?_ _) | (with_reducible refine Kd.C_drew ?_))); (case side2 => exact HC276.out); rintro e w78 ⟨rfl, hb⟩; refine ⟨_, rfl, ?_⟩; have n0_ := Aside0.mk (Kd.R_below (by (with_reducible repeat (first | apply Kd.R_alloc | apply Kd.R_drewN | apply Kd.R_drew)); exact HO_6.out) hb); have n1_ := Aside0.mk (Kd.R_below (by (with_reducible repeat (first | apply Kd.R_alloc | apply Kd.R_drewN | apply Kd.R_drew)); exact HO268.out) hb); have n2_ := Aside0.mk (Kd.R_below (by (with_reducible repeat (first | apply Kd.R_alloc | apply Kd.R_drewN | apply Kd.R_drew)); exact HO272.out) hb); have n3_ := Aside0.mk (Kd.C_below (show Kd.C k45 _ Ao13 y258.length y258 from by repeat (first | (with_reducible exact HR261.out) | (with_reducible refine Kd.C_alloc ?_ _) | (with_reducible refine Kd.C_drewN ?_ _) | (with_reducible refine Kd.C_drew ?_) | exact HR261.out)) hb); have n4_ := Aside0.mk (Kd.C_below (by repeat (first | (with_reducible exact HR276.out) | (with_reducible refine Kd.C_alloc ?_ _) | (with_reducible refine Kd.C_drewN ?_ _) | (with_reducible refine Kd.C_drew ?_) | exact HR276.out)) hb); have n5_ := Aside0.mk (below_step (by repeat (first | (with_reducible first | exact HB.out | apply below_alloc | apply pw_below_drewN | apply below_drew1) | exact HB.out)) hb); clear HO_6; clear HO268; clear HO272; clear HR261; clear HR276; clear HB; have HO_6 := n0_; have HO268 := n1_; have HO272 := n2_; have HR261 := n3_; have HR276 := n4_; have HB := n5_; clear n0_ n1_ n2_ n3_ n4_ n5_; (try clear hb); (try clear hb2); (try clear hk); (try clear hi); obtain ⟨Ao79, co79, eo79⟩ := Kd.R_slice HO272.out; subst eo79))
                                                                        go_ret
                                                                        exact ⟨by first | rfl | (simp [errW_none, errW_some] <;> rfl) | (simp only [← hji24, ← hji51, ← hji57, ← hji59, ← hji61, ← hji66]; first | rfl | (simp [errW_none, errW_some] <;> rfl)) | (simp [*, errW_none, errW_some] <;> rfl), by repeat (first | (with_reducible first | exact HB.out | apply below_alloc | apply pw_below_drewN | apply below_drew1) | exact HB.out)⟩
                                                                      · rw [if_neg c71] at H
                                                                        have c71b0 : (t270 == (t277.size : Int)) = false := beq_eq_false_iff_ne.mpr c71
                                                                        have c71b1 : (t270 != (t277.size : Int)) = true := bne_iff_ne.mpr c71
                                                                        exact absurd (Option.some.inj H) (by rw [HT9_.out]; decide)
                                                                    · rw [if_neg c70] at H
                                                                      have c70b0 : (t278 == 0) = false := beq_eq_false_iff_ne.mpr c70
                                                                      have c70b1 : (t278 != 0) = true := bne_iff_ne.mpr c70
                                                                      exact absurd (Option.some.inj H) (by rw [HT9_.out]; decide)
                                                                  · rw [if_neg c68] at H
                                                                    exact absurd H (by simp)
                                                                · rw [if_neg c67] at H
                                                                  exact absurd H (by simp)
                                                              · rw [if_neg c64] at H
                                                                exact absurd H (by simp)
                                                            · rw [if_neg c63] at H
                                                              exact absurd H (by simp)
                                                          · rw [if_neg c62] at H
                                                            exact absurd H (by simp)
                                                        · rw [if_neg c60] at H
                                                          exact absurd H (by simp)
                                                      · rw [if_neg c58] at H
                                                        exact absurd H (by simp)
                                                    · rw [if_neg c54] at H
                                                      exact absurd H (by simp)
                                                  · rw [if_neg c53] at H
                                                    exact absurd H (by simp)
                                                · rw [if_neg c52] at H
                                                  exact absurd H (by simp)
                                        · rw [if_neg c40] at H
                                          exact absurd H (by simp)
                                      · rw [if_neg c39] at H
                                        exact absurd H (by simp)
                        · rw [if_neg c26] at H
                          exact absurd H (by simp)
                      · rw [if_neg c25] at H
                        exact absurd H (by simp)

end Go.Proofs.Ytnicllekmkkhlaa.QFnLogCut
