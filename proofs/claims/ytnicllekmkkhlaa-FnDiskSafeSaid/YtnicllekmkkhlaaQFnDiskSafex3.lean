/- The functions that the law reaches, each as a plain Lean function with the proof that the Go code comes to its answers: written by a program of this session. No condition. -/
import Derived.Test.YtnicllekmkkhlaaQFnDiskSafex0
import Derived.Test.YtnicllekmkkhlaaQFnDiskSafex2
namespace Go.Proofs.Ytnicllekmkkhlaa.QFnDiskSafe
open Go.RowKit Go.Proofs.YtnicllekmkkhlaaW.PrintWords Go.Proofs.YtnicllekmkkhlaaW.PrintLast Go.Proofs.YtnicllekmkkhlaaW.PrintMore
attribute [local go_sem] max2_int min2_int max_two min_two max_three min_three max_four min_four str_gtr str_leq str_geq pw_at_slice   -- for this text's walks alone
set_option linter.unusedVariables false
set_option linter.unusedSimpArgs false

theorem IsS88.as_3 {w0 W W1 : World} {g : Nat} {f0 : List Int} {f1 : Int} {f2 : Int} (_ : IsS88 w0 W g f0 f1 f2) (k : IsS88 w0 W1 g f0 f1 f2) : IsS88 w0 W1 g f0 f1 f2 := k
/-! ### spec_DrawDiskRun: function 24 -/
set_option maxRecDepth 100000 in
mutual
def spec_DrawDiskRun.l0 : Nat → List (S56) → Int → List Int → Int → Int → Option ((List (S56)))
 | 0, _, _, _, _, _ => none
 | k + 1, x4, x5, x658000, x658001, x658002 => if x5 > 0 then ((some (([1, 1, 1, 1, 2, 2, 3, 4] : List Int) : List Int)).bind fun y664 => ((spec_l01Cur_pick.f x658000 x658001 x658002 8).bind fun bt667 => (if 0 ≤ bt667.1 then (if bt667.1 < (y664.length : Int) then (if (rd y664 bt667.1) = 1 then ((spec_l04DrawRec.f k x658000 bt667.2.1 bt667.2.2).bind fun bt672 => (spec_DrawDiskRun.j1 k x4 x5 x658000 bt672.2.2.1 bt672.2.2.2 (rd y664 bt667.1) bt672.1 bt672.2.1 0)) else (if (rd y664 bt667.1) = 3 then ((spec_l01Cur_pick.f x658000 bt667.2.1 bt667.2.2 80).bind fun bt676 => (if x4.length < 3518437208883 then ((some (x4 ++ [(⟨rd y664 bt667.1, (⟨0, (⟨#[]⟩ : ByteArray)⟩ : S45), wrap64 (bt676.1 - 5)⟩ : S56)] : List (S56))).bind fun y679 => ((spec_l01Cur_pick.f x658000 bt676.2.1 bt676.2.2 4).bind fun bt682 => (if bt682.1 = 0 then ((spec_l01Cur_pick.f x658000 bt682.2.1 bt682.2.2 4).bind fun bt685 => (spec_DrawDiskRun.j1 k y679 x5 x658000 bt685.2.1 bt685.2.2 (wrap64 (1 + bt685.1)) 0 (⟨#[]⟩ : ByteArray) 0)) else (spec_DrawDiskRun.j1 k y679 x5 x658000 bt682.2.1 bt682.2.2 4 0 (⟨#[]⟩ : ByteArray) 0)))) else (none))) else (spec_DrawDiskRun.j1 k x4 x5 x658000 bt667.2.1 bt667.2.2 (rd y664 bt667.1) 0 (⟨#[]⟩ : ByteArray) 0))) else (none)) else (none)))) else (some x4)
def spec_DrawDiskRun.j1 : Nat → List (S56) → Int → List Int → Int → Int → Int → Int → ByteArray → Int → Option ((List (S56)))
 | 0, _, _, _, _, _, _, _, _, _ => none
 | k + 1, x4, x5, x658000, x658001, x658002, x672000, x672001, x672002, x672003 => (spec_l01Cur_pick.f x658000 x658001 x658002 40).bind fun bt688 => (if bt688.1 = 0 then ((spec_l01Cur_pick.f x658000 bt688.2.1 bt688.2.2 7).bind fun bt691 => (if x4.length < 3518437208883 then (spec_DrawDiskRun.l0 k (x4 ++ [(⟨wrap64 (bt691.1 - 1), (⟨x672001, x672002⟩ : S45), x672003⟩ : S56)]) (wrap64 (x5 - 1)) x658000 bt691.2.1 bt691.2.2) else (none))) else (if x4.length < 3518437208883 then (spec_DrawDiskRun.l0 k (x4 ++ [(⟨x672000, (⟨x672001, x672002⟩ : S45), x672003⟩ : S56)]) (wrap64 (x5 - 1)) x658000 bt688.2.1 bt688.2.2) else (none)))
end
def spec_DrawDiskRun.f (k : Nat) (l0 : List Int) : Option ((List (S56))) := (spec_l01DrawCur.f l0).bind fun bt654 => ((spec_l01Cur_size.f bt654.1 bt654.2.1 bt654.2.2 50).bind fun bt661 => (spec_DrawDiskRun.l0 k (([] : List (S56))) bt661.1 bt654.1 bt661.2.1 bt661.2.2))
set_option maxHeartbeats 8000000 in
set_option maxRecDepth 100000 in
theorem spec_DrawDiskRun.calls (k : Nat) (A0 : Option Addr) (c0 : Nat) (l0 : List Int) (r : List (S56)) (w : World) (hr0 : Kd.C (Kd.int .u8) w A0 l0.length l0) (hc0 : l0.length ≤ c0) (h : spec_DrawDiskRun.f k l0 = some r) :
  Calls Try.prog 24 #[.slice A0 l0.length c0] w fun e w' => ∃ v0_ : Value, e = .returned (v0_) ∧ Kd.R k56 56 w' w.heap.size (fun _ => True) v0_ r ∧ Below w.heap.size w w' := by
 have hu56 := Try.underlying56
 have hu45 := Try.underlying45
 have HR0 := Aside0.mk hr0
 have HC0 := Aside0.mk hc0
 clear hr0 hc0
 have HB := Aside0.mk (Below.refl w.heap.size w)
 have H : ((spec_l01DrawCur.f l0).bind fun bt654 => ((spec_l01Cur_size.f bt654.1 bt654.2.1 bt654.2.2 50).bind fun bt661 => (spec_DrawDiskRun.l0 k (([] : List (S56))) bt661.1 bt654.1 bt661.2.1 bt661.2.2))) = some r := h
 clear h
 replace H := Option.bind_eq_some_iff.mp H
 obtain ⟨⟨t654, t655, t656⟩, A20, H⟩ := H
 replace H : ((spec_l01Cur_size.f t654 t655 t656 50).bind fun bt661 => (spec_DrawDiskRun.l0 k (([] : List (S56))) bt661.1 t654 bt661.2.1 bt661.2.2)) = some r := H
 have A2 := Aside0.mk A20
 clear A20
 obtain ⟨y658, hy658⟩ : ∃ y_ : List (S56), y_ = (([] : List (S56))) := ⟨_, rfl⟩
 replace H : ((spec_l01Cur_size.f t654 t655 t656 50).bind fun bt661 => (spec_DrawDiskRun.l0 k y658 bt661.1 t654 bt661.2.1 bt661.2.2)) = some r := by first | (rw [hy658]; with_reducible exact H) | (have H2_ := (Option.bind_some _ _).symm.trans H; rw [hy658]; with_reducible exact H2_) | (have H2_ := (Option.bind_some _ _).symm.trans H; with_reducible exact H2_) | with_reducible exact H | (rw [hy658]; exact H) | exact H
 have Ny658 := Aside0.mk hy658
 clear hy658
 replace H := Option.bind_eq_some_iff.mp H
 obtain ⟨⟨t661, t662, t663⟩, A30, H⟩ := H
 replace H : (spec_DrawDiskRun.l0 k y658 t661 t654 t662 t663) = some r := H
 have A3 := Aside0.mk A30
 clear A30
 have H' := Aside0.mk H
 clear H
 go_enter Try.func24, Try.ntmps24
 go_wp2_with (first | ((with_reducible refine gate_callee (f := 39) rfl ?_); refine goesL_ (some 8) rfl rfl Try.func39 (by kernel_rfl) rfl #[.slice A0 l0.length c0] rfl zm ?_; (with_reducible refine (spec_l01DrawCur.calls _ _ l0 t654 t655 t656 w _ ?side1 ?side2 ?side3 A2.out).mono ?_); (case side1 => repeat (first | (with_reducible first | exact HB.out | apply below_alloc | apply pw_below_drewN | apply below_drew1) | exact HB.out)); (case side2 => exact HR0.out); (case side3 => exact HC0.out); rintro e w4 ⟨g657, rfl, hi, hb, hb2⟩; refine ⟨_, rfl, ?_⟩; have n0_ := Aside0.mk (hb); have n1_ := Aside0.mk (hi); clear HB; have HB := n0_; have HI657 := n1_; clear n0_ n1_; (try clear hb); (try clear hb2); (try clear hk); (try clear hi)) | ((with_reducible refine gate_dst (N := 9) rfl ?_); refine Kd.R_lit k56 _ 56 ?hg (N := 9) ?hd (xs := ([] : List (S56))) (inner := []) (ok := fun _ => True) (okp := fun _ => True) ?hr ?hp (fun _ hk => hk) trivial (Below.refl _ _) (Nat.le_refl _) (by simp) ?_; (case hd => rfl); (case hg => rfl); (case hr => first | (go_simp; done) | (go_simp; rfl)); (case hp => exact (Reps.none _ _)); intro v659 w5 ho6 hb hg_ hnew_; clear hg_ hnew_; (first | rw [← Ny658.out] at ho6 | (simp only [Int.reduceToNat] at ho6; rw [← Ny658.out] at ho6)); have n0_ := Aside0.mk (Kd.R_lower ho6 (below_size (by repeat (first | (with_reducible first | exact HB.out | apply below_alloc | apply pw_below_drewN | apply below_drew1 | refine below_set ?_ (IsS88.ge HI657.out)) | exact HB.out)))); have n1_ := Aside0.mk (IsS88.below (by repeat (first | (with_reducible first | exact HI657.out | apply IsS88.alloc | apply IsS88.drewN | apply IsS88.drew | apply IsS88.set_1 | apply IsS88.set_2) | exact HI657.out)) hb); have n2_ := Aside0.mk (below_step (by repeat (first | (with_reducible first | exact HB.out | apply below_alloc | apply pw_below_drewN | apply below_drew1 | refine below_set ?_ (IsS88.ge HI657.out)) | exact HB.out)) hb); clear HI657; clear HB; have HO660 := n0_; have HI657 := n1_; have HB := n2_; clear n0_ n1_ n2_; clear hb ho6) | ((with_reducible refine gate_callee (f := 44) rfl ?_); refine goesL_ (some 11) rfl rfl Try.func44 (by kernel_rfl) rfl #[.pointer (some ⟨g657, 0, none⟩), .int .i64 50] rfl zm ?_; (with_reducible refine (spec_l01Cur_size.calls g657 t654 t655 t656 50 t661 t662 t663 w _ ?side1 ?side2 A3.out).mono ?_); (case side1 => repeat (first | (with_reducible first | exact HI657.out | apply IsS88.alloc | apply IsS88.drewN | apply IsS88.drew | apply IsS88.set_1 | apply IsS88.set_2) | exact HI657.out)); (case side2 => repeat (first | (with_reducible first | exact HB.out | apply below_alloc | apply pw_below_drewN | apply below_drew1 | refine below_set ?_ (IsS88.ge HI657.out)) | exact HB.out)); rintro e w7 ⟨rfl, hi, hb, hk⟩; refine ⟨_, rfl, ?_⟩; have n0_ := Aside0.mk (Kd.R_mono (Kd.R_keep (IsS88.apart (show IsS88 w _ g657 t654 t655 t656 from by repeat (first | (with_reducible first | exact HI657.out | apply IsS88.alloc | apply IsS88.drewN | apply IsS88.drew | apply IsS88.set_1 | apply IsS88.set_2) | exact HI657.out)) (zr HO660.out) (by decide)) hk (fun _ h => h.2)) (fun _ h => h.1)); have n1_ := Aside0.mk (hb); have n2_ := Aside0.mk (hi); clear HO660; clear HB; clear HI657; have HO660 := n0_; have HB := n1_; have HI657 := n2_; clear n0_ n1_ n2_; (try clear hb); (try clear hb2); (try clear hk); (try clear hi)))
 go_loopg [4, 5] k (fun kq v4 v5 w' => ∃ (x4_1 : List (S56)) (x5_1 : Int) (x658001_1 : Int) (x658002_1 : Int), v5 = .int .i64 x5_1 ∧ Aside0 (spec_DrawDiskRun.l0 kq x4_1 x5_1 t654 x658001_1 x658002_1 = some r) ∧ Aside0 (kq ≤ k) ∧ Aside0 (Kd.R k56 56 w' w.heap.size (fun _ => True) v4 x4_1) ∧ Aside0 (IsS88 w w' g657 t654 x658001_1 x658002_1) ∧ Aside0 (Below w.heap.size w w'))
 case atStart => exact ⟨(y658), (t661), (t662), (t663), (by first | rfl | (simp; done) | (simp [*]; done)), H', ⟨Nat.le_refl _⟩, ⟨zr HO660.out⟩, ⟨by repeat (first | (with_reducible first | exact HI657.out | apply IsS88.alloc | apply IsS88.drewN | apply IsS88.drew | apply IsS88.set_1 | apply IsS88.set_2) | exact HI657.out)⟩, ⟨by repeat (first | (with_reducible first | exact HB.out | apply below_alloc | apply pw_below_drewN | apply below_drew1 | refine below_set ?_ (IsS88.ge HI657.out)) | exact HB.out)⟩⟩
 case round =>
  clear H'
  obtain ⟨x4_1, x5_1, x658001_1, x658002_1, rfl, HA, HK1, HO_4, HI657, HB⟩ := hrel
  cases gk with
  | zero => exact absurd HA.out (by simp [spec_DrawDiskRun.l0])
  | succ k1 =>
   have H := HA.out
   clear HA
   simp only [spec_DrawDiskRun.l0] at H
   by_cases c8 : x5_1 > 0
   ·rw [if_pos c8] at H
    have c8b0 : decide (0 < x5_1) = true := decide_eq_true c8
    clear c8
    obtain ⟨y664, hy664⟩ : ∃ y_ : List Int, y_ = (([1, 1, 1, 1, 2, 2, 3, 4] : List Int)) := ⟨_, rfl⟩
    replace H : ((spec_l01Cur_pick.f t654 x658001_1 x658002_1 8).bind fun bt667 => (if 0 ≤ bt667.1 then (if bt667.1 < (y664.length : Int) then (if (rd y664 bt667.1) = 1 then ((spec_l04DrawRec.f k1 t654 bt667.2.1 bt667.2.2).bind fun bt672 => (spec_DrawDiskRun.j1 k1 x4_1 x5_1 t654 bt672.2.2.1 bt672.2.2.2 (rd y664 bt667.1) bt672.1 bt672.2.1 0)) else (if (rd y664 bt667.1) = 3 then ((spec_l01Cur_pick.f t654 bt667.2.1 bt667.2.2 80).bind fun bt676 => (if x4_1.length < 3518437208883 then ((some (x4_1 ++ [(⟨rd y664 bt667.1, (⟨0, (⟨#[]⟩ : ByteArray)⟩ : S45), wrap64 (bt676.1 - 5)⟩ : S56)] : List (S56))).bind fun y679 => ((spec_l01Cur_pick.f t654 bt676.2.1 bt676.2.2 4).bind fun bt682 => (if bt682.1 = 0 then ((spec_l01Cur_pick.f t654 bt682.2.1 bt682.2.2 4).bind fun bt685 => (spec_DrawDiskRun.j1 k1 y679 x5_1 t654 bt685.2.1 bt685.2.2 (wrap64 (1 + bt685.1)) 0 (⟨#[]⟩ : ByteArray) 0)) else (spec_DrawDiskRun.j1 k1 y679 x5_1 t654 bt682.2.1 bt682.2.2 4 0 (⟨#[]⟩ : ByteArray) 0)))) else (none))) else (spec_DrawDiskRun.j1 k1 x4_1 x5_1 t654 bt667.2.1 bt667.2.2 (rd y664 bt667.1) 0 (⟨#[]⟩ : ByteArray) 0))) else (none)) else (none))) = some r := by first | (rw [hy664]; with_reducible exact H) | (have H2_ := (Option.bind_some _ _).symm.trans H; rw [hy664]; with_reducible exact H2_) | (have H2_ := (Option.bind_some _ _).symm.trans H; with_reducible exact H2_) | with_reducible exact H | (rw [hy664]; exact H) | exact H
    have Ny664 := Aside0.mk hy664
    clear hy664
    replace H := Option.bind_eq_some_iff.mp H
    obtain ⟨⟨t667, t668, t669⟩, A90, H⟩ := H
    replace H : (if 0 ≤ t667 then (if t667 < (y664.length : Int) then (if (rd y664 t667) = 1 then ((spec_l04DrawRec.f k1 t654 t668 t669).bind fun bt672 => (spec_DrawDiskRun.j1 k1 x4_1 x5_1 t654 bt672.2.2.1 bt672.2.2.2 (rd y664 t667) bt672.1 bt672.2.1 0)) else (if (rd y664 t667) = 3 then ((spec_l01Cur_pick.f t654 t668 t669 80).bind fun bt676 => (if x4_1.length < 3518437208883 then ((some (x4_1 ++ [(⟨rd y664 t667, (⟨0, (⟨#[]⟩ : ByteArray)⟩ : S45), wrap64 (bt676.1 - 5)⟩ : S56)] : List (S56))).bind fun y679 => ((spec_l01Cur_pick.f t654 bt676.2.1 bt676.2.2 4).bind fun bt682 => (if bt682.1 = 0 then ((spec_l01Cur_pick.f t654 bt682.2.1 bt682.2.2 4).bind fun bt685 => (spec_DrawDiskRun.j1 k1 y679 x5_1 t654 bt685.2.1 bt685.2.2 (wrap64 (1 + bt685.1)) 0 (⟨#[]⟩ : ByteArray) 0)) else (spec_DrawDiskRun.j1 k1 y679 x5_1 t654 bt682.2.1 bt682.2.2 4 0 (⟨#[]⟩ : ByteArray) 0)))) else (none))) else (spec_DrawDiskRun.j1 k1 x4_1 x5_1 t654 t668 t669 (rd y664 t667) 0 (⟨#[]⟩ : ByteArray) 0))) else (none)) else (none)) = some r := H
    have A9 := Aside0.mk A90
    clear A90
    by_cases c10 : 0 ≤ t667
    ·rw [if_pos c10] at H
     have c10b0 : decide (0 ≤ t667) = true := decide_eq_true c10
     clear c10
     by_cases c11 : t667 < (y664.length : Int)
     ·rw [if_pos c11] at H
      have c11b0 : decide (t667 < (y664.length : Int)) = true := decide_eq_true c11
      clear c11
      have HC12 := Aside0.mk H
      clear H
      go_upto_block 2 with (first | ((with_reducible refine gate_dst (N := 16) rfl ?_); refine Kd.R_lit (Kd.int .i64) _ 3 ?hg (N := 16) ?hd (xs := ([1, 1, 1, 1, 2, 2, 3, 4] : List Int)) (inner := [.int .i64 1, .int .i64 1, .int .i64 1, .int .i64 1, .int .i64 2, .int .i64 2, .int .i64 3, .int .i64 4]) (ok := fun _ => True) (okp := fun _ => True) ?hr ?hp (fun _ hk => hk) trivial (Below.refl _ _) (Nat.le_refl _) (by simp) ?_; (case hd => rfl); (case hg => rfl); (case hr => first | (go_simp; done) | (go_simp; rfl)); (case hp => exact (Reps.one (show Kd.M (Kd.int .i64) _ _ _ 1 [.int .i64 1] from rfl) (Reps.one (show Kd.M (Kd.int .i64) _ _ _ 1 [.int .i64 1] from rfl) (Reps.one (show Kd.M (Kd.int .i64) _ _ _ 1 [.int .i64 1] from rfl) (Reps.one (show Kd.M (Kd.int .i64) _ _ _ 1 [.int .i64 1] from rfl) (Reps.one (show Kd.M (Kd.int .i64) _ _ _ 2 [.int .i64 2] from rfl) (Reps.one (show Kd.M (Kd.int .i64) _ _ _ 2 [.int .i64 2] from rfl) (Reps.one (show Kd.M (Kd.int .i64) _ _ _ 3 [.int .i64 3] from rfl) (Reps.one (show Kd.M (Kd.int .i64) _ _ _ 4 [.int .i64 4] from rfl) (Reps.none _ _)))))))))); intro v665 w13 ho14 hb hg_ hnew_; clear hg_ hnew_; (first | rw [← Ny664.out] at ho14 | (simp only [Int.reduceToNat] at ho14; rw [← Ny664.out] at ho14)); have n0_ := Aside0.mk (Kd.R_below (zr HO_4.out) hb); have n1_ := Aside0.mk (Kd.R_lower ho14 (below_size (by repeat (first | (with_reducible first | exact HB.out | apply below_alloc | apply pw_below_drewN | apply below_drew1 | refine below_set ?_ (IsS88.ge HI657.out)) | exact HB.out)))); have n2_ := Aside0.mk (IsS88.below (by repeat (first | (with_reducible first | exact HI657.out | apply IsS88.alloc | apply IsS88.drewN | apply IsS88.drew | apply IsS88.set_1 | apply IsS88.set_2) | exact HI657.out)) hb); have n3_ := Aside0.mk (below_step (by repeat (first | (with_reducible first | exact HB.out | apply below_alloc | apply pw_below_drewN | apply below_drew1 | refine below_set ?_ (IsS88.ge HI657.out)) | exact HB.out)) hb); clear HO_4; clear HI657; clear HB; have HO_4 := n0_; have HO666 := n1_; have HI657 := n2_; have HB := n3_; clear n0_ n1_ n2_ n3_; clear hb ho14) | ((with_reducible refine gate_callee (f := 45) rfl ?_); refine goesL_ (some 18) rfl rfl Try.func45 (by kernel_rfl) rfl #[.pointer (some ⟨g657, 0, none⟩), .int .i64 8] rfl zm ?_; (with_reducible refine (spec_l01Cur_pick.calls g657 t654 x658001_1 x658002_1 8 t667 t668 t669 w _ ?side1 ?side2 A9.out).mono ?_); (case side1 => repeat (first | (with_reducible first | exact HI657.out | apply IsS88.alloc | apply IsS88.drewN | apply IsS88.drew | apply IsS88.set_1 | apply IsS88.set_2) | exact HI657.out)); (case side2 => repeat (first | (with_reducible first | exact HB.out | apply below_alloc | apply pw_below_drewN | apply below_drew1 | refine below_set ?_ (IsS88.ge HI657.out)) | exact HB.out)); rintro e w15 ⟨rfl, hi, hb, hk⟩; refine ⟨_, rfl, ?_⟩; have n0_ := Aside0.mk (Kd.R_mono (Kd.R_keep (IsS88.apart (show IsS88 w _ g657 t654 x658001_1 x658002_1 from by repeat (first | (with_reducible first | exact HI657.out | apply IsS88.alloc | apply IsS88.drewN | apply IsS88.drew | apply IsS88.set_1 | apply IsS88.set_2) | exact HI657.out)) (zr HO_4.out) (by decide)) hk (fun _ h => h.2)) (fun _ h => h.1)); have n1_ := Aside0.mk (Kd.R_mono (Kd.R_keep (IsS88.apart (show IsS88 w _ g657 t654 x658001_1 x658002_1 from by repeat (first | (with_reducible first | exact HI657.out | apply IsS88.alloc | apply IsS88.drewN | apply IsS88.drew | apply IsS88.set_1 | apply IsS88.set_2) | exact HI657.out)) (zr HO666.out) (by decide)) hk (fun _ h => h.2)) (fun _ h => h.1)); have n2_ := Aside0.mk (hb); have n3_ := Aside0.mk (hi); clear HO_4; clear HO666; clear HB; clear HI657; have HO_4 := n0_; have HO666 := n1_; have HB := n2_; have HI657 := n3_; clear n0_ n1_ n2_ n3_; (try clear hb); (try clear hb2); (try clear hk); (try clear hi); obtain ⟨Ao16, co16, eo16⟩ := Kd.R_slice HO666.out; subst eo16; have p670 : 0 ≤ (t667 : Int) := of_decide_eq_true (by first | (with_reducible assumption) | assumption); have q670 : t667 < (y664.length : Int) := of_decide_eq_true (by first | (with_reducible assumption) | assumption); obtain ⟨ad670, e670, hx670_0⟩ := Kd.at_int (Kd.R_reads' HO666.out).2.2 t667 p670 q670; cases e670; replace p670 := eq_true p670; replace q670 := eq_true q670) | ((with_reducible refine gate_dst (N := 6) rfl ?_); refine boxst_event ?hg (N := 6) ?hd ?hg2 ?hn2 ?ho2 (cs := #[.int .i64 (rd y664 t667), .int .i64 0, .string (⟨#[]⟩ : ByteArray), .int .i64 0]) (zs := #[.int .i64 0, .int .i64 0, .string (⟨#[]⟩ : ByteArray), .int .i64 0]) (t := 56) ?hr ?hr2 ?_; (case hd => rfl); (case hg => rfl); (case hg2 => rfl); (case hn2 => rfl); (case ho2 => exact ⟨_, rfl⟩); (case hr => first | (go_simp; done) | (go_simp; rfl)); (case hr2 => first | (go_simp; done) | (go_simp; rfl)); intro gb671 hg w17 hbox hb; have n0_ := Aside0.mk (Kd.R_below (Kd.R_elderB (zr HO_4.out) gb671 (Nat.le_of_eq hg.symm)) hb); have n1_ := Aside0.mk (Kd.R_below (zr HO666.out) hb); have n2_ := Aside0.mk (IsS88.below (by repeat (first | (with_reducible first | exact HI657.out | apply IsS88.alloc | apply IsS88.drewN | apply IsS88.drew | apply IsS88.set_1 | apply IsS88.set_2) | exact HI657.out)) hb); have n3_ := Aside0.mk (below_step (by repeat (first | (with_reducible first | exact HB.out | apply below_alloc | apply pw_below_drewN | apply below_drew1 | refine below_set ?_ (IsS88.ge HI657.out)) | exact HB.out)) hb); have n4_ := Aside0.mk (hbox); have n5_ := Aside0.mk ((by rw [hg]; exact (below_size (by repeat (first | (with_reducible first | exact HB.out | apply below_alloc | apply pw_below_drewN | apply below_drew1 | refine below_set ?_ (IsS88.ge HI657.out)) | exact HB.out))) : w.heap.size ≤ gb671)); have n6_ := Aside0.mk ((by rw [hg]; exact (below_size (by repeat (first | (with_reducible first | exact HB.out | apply below_alloc | apply pw_below_drewN | apply below_drew1 | refine below_set ?_ (IsS88.ge HI657.out)) | exact HB.out))) : w.heap.size ≤ gb671)); have n7_ := Aside0.mk ((by rw [hg]; exact Nat.ne_of_lt (IsS88.lt (show IsS88 w _ g657 t654 t668 t669 from by repeat (first | (with_reducible first | exact HI657.out | apply IsS88.alloc | apply IsS88.drewN | apply IsS88.drew | apply IsS88.set_1 | apply IsS88.set_2) | exact HI657.out))) : g657 ≠ gb671)); have n8_ := Aside0.mk ((by rw [hg]; exact Nat.ne_of_gt (IsS88.lt (show IsS88 w _ g657 t654 t668 t669 from by repeat (first | (with_reducible first | exact HI657.out | apply IsS88.alloc | apply IsS88.drewN | apply IsS88.drew | apply IsS88.set_1 | apply IsS88.set_2) | exact HI657.out))) : gb671 ≠ g657)); clear HO_4; clear HO666; clear HI657; clear HB; have HO_4 := n0_; have HO666 := n1_; have HI657 := n2_; have HB := n3_; have BK671 := n4_; have GW671 := n5_; have GE671 := n6_; have NB657_671 := n7_; have NB671_657 := n8_; clear n0_ n1_ n2_ n3_ n4_ n5_ n6_ n7_ n8_; clear hb hbox hg; have hnb18 := NB671_657.out; have hnc18 := NB657_671.out; have hcz19_0 : w17.cell? ⟨gb671, 0, none⟩ = some (.int .i64 (rd y664 t667)) := (blk_cell BK671.out 0).trans rfl; have hcz19_1 : w17.cell? ⟨gb671, 1, none⟩ = some (.int .i64 0) := (blk_cell BK671.out 1).trans rfl; have hcz19_2 : w17.cell? ⟨gb671, 2, none⟩ = some (.string (⟨#[]⟩ : ByteArray)) := (blk_cell BK671.out 2).trans rfl; have hcz19_3 : w17.cell? ⟨gb671, 3, none⟩ = some (.int .i64 0) := (blk_cell BK671.out 3).trans rfl; have hfz19_0 := blk_frozen BK671.out 0; have hfz19_1 := blk_frozen BK671.out 1; have hfz19_2 := blk_frozen BK671.out 2; have hfz19_3 := blk_frozen BK671.out 3))
      (try simp only [Act.put, List.setIfInBounds_toArray, List.set_cons_zero, List.set_cons_succ])
      go_cut [4] (fun v4 wc => ∃ (kq : Nat) (x4_11 : List (S56)) (x658001_11 : Int) (x658002_11 : Int) (x672000_11 : Int) (x672001_11 : Int) (x672002_11 : ByteArray) (x672003_11 : Int), Aside0 (spec_DrawDiskRun.j1 kq x4_11 x5_1 t654 x658001_11 x658002_11 x672000_11 x672001_11 x672002_11 x672003_11 = some r) ∧ Aside0 (kq ≤ k1) ∧ Aside0 (Kd.R k56 56 wc w.heap.size (fun k_ => k_ ≠ gb671) v4 x4_11) ∧ Aside0 (wc.heap[gb671]? = some (.cells #[.int .i64 x672000_11, .int .i64 x672001_11, .string x672002_11, .int .i64 x672003_11] 56 (0, 0))) ∧ Aside0 (IsS88 w wc g657 t654 x658001_11 x658002_11) ∧ Aside0 (Below w.heap.size w wc))
      case first =>
       have H := HC12.out
       clear HC12
       by_cases c20 : (rd y664 t667) = 1
       ·rw [if_pos c20] at H
        have c20b0 : ((rd y664 t667) == 1) = true := beq_iff_eq.mpr c20
        have c20b1 : ((rd y664 t667) != 1) = false := bne_eq_false_iff_eq.mpr c20
        clear c20
        (first | rw [c20b0] | (simp only [i64_w, i32_w]; rw [c20b0]) | skip)
        replace H := Option.bind_eq_some_iff.mp H
        obtain ⟨⟨t672, t673, t674, t675⟩, A210, H⟩ := H
        replace H : (spec_DrawDiskRun.j1 k1 x4_1 x5_1 t654 t674 t675 (rd y664 t667) t672 t673 0) = some r := H
        have A21 := Aside0.mk A210
        clear A210
        have H' := Aside0.mk H
        clear H
        go_wp2_with (first | ((with_reducible refine gate_callee (f := 46) rfl ?_); refine goesL_ (some 27) rfl rfl Try.func46 (by kernel_rfl) rfl #[.pointer (some ⟨g657, 0, none⟩)] rfl zm ?_; (with_reducible refine (spec_l04DrawRec.calls k1 g657 t654 t668 t669 t672 t673 t674 t675 w _ ?side1 ?side2 A21.out).mono ?_); (case side1 => repeat (first | (with_reducible first | exact HI657.out | apply IsS88.alloc | apply IsS88.drewN | apply IsS88.drew | apply IsS88.set_1 | apply IsS88.set_2 | refine IsS88.far ?_ NB657_671.out _) | exact HI657.out)); (case side2 => repeat (first | (with_reducible first | exact HB.out | apply below_alloc | apply pw_below_drewN | apply below_drew1 | refine below_set ?_ (IsS88.ge HI657.out) | refine below_set ?_ GE671.out) | exact HB.out)); rintro e w22 ⟨rfl, hi, hb, hk⟩; refine ⟨_, rfl, ?_⟩; have n0_ := Aside0.mk (Kd.R_mono (Kd.R_keep (IsS88.apart (show IsS88 w _ g657 t654 t668 t669 from by repeat (first | (with_reducible first | exact HI657.out | apply IsS88.alloc | apply IsS88.drewN | apply IsS88.drew | apply IsS88.set_1 | apply IsS88.set_2 | refine IsS88.far ?_ NB657_671.out _) | exact HI657.out)) (zr HO_4.out) (by decide)) hk (fun _ h => h.2)) (fun _ h => h.1)); have n1_ := Aside0.mk (Kd.R_mono (Kd.R_keep (IsS88.apart (show IsS88 w _ g657 t654 t668 t669 from by repeat (first | (with_reducible first | exact HI657.out | apply IsS88.alloc | apply IsS88.drewN | apply IsS88.drew | apply IsS88.set_1 | apply IsS88.set_2 | refine IsS88.far ?_ NB657_671.out _) | exact HI657.out)) (zr HO666.out) (by decide)) hk (fun _ h => h.2)) (fun _ h => h.1)); have n2_ := Aside0.mk (KeepBut.blk hk (g' := gb671) (o := .cells #[.int .i64 (rd y664 t667), .int .i64 0, .string (⟨#[]⟩ : ByteArray), .int .i64 0] 56 (0, 0)) (zk BK671.out) NB671_657.out (by simp)); have n3_ := Aside0.mk (hb); have n4_ := Aside0.mk (hi); clear HO_4; clear HO666; clear BK671; clear HB; clear HI657; have HO_4 := n0_; have HO666 := n1_; have BK671 := n2_; have HB := n3_; have HI657 := n4_; clear n0_ n1_ n2_ n3_ n4_; (try clear hb); (try clear hb2); (try clear hk); (try clear hi); have hnb23 := NB671_657.out; have hnc23 := NB657_671.out; have hcz24_0 : w22.cell? ⟨gb671, 0, none⟩ = some (.int .i64 (rd y664 t667)) := (blk_cell BK671.out 0).trans rfl; have hcz24_1 : w22.cell? ⟨gb671, 1, none⟩ = some (.int .i64 0) := (blk_cell BK671.out 1).trans rfl; have hcz24_2 : w22.cell? ⟨gb671, 2, none⟩ = some (.string (⟨#[]⟩ : ByteArray)) := (blk_cell BK671.out 2).trans rfl; have hcz24_3 : w22.cell? ⟨gb671, 3, none⟩ = some (.int .i64 0) := (blk_cell BK671.out 3).trans rfl; have hfz24_0 := blk_frozen BK671.out 0; have hfz24_1 := blk_frozen BK671.out 1; have hfz24_2 := blk_frozen BK671.out 2; have hfz24_3 := blk_frozen BK671.out 3))
        go_meet
        case rel => exact ⟨_, (x4_1), (t674), (t675), (rd y664 t667), (t672), (t673), (0), H', ⟨by have := HK1.out; first | omega | exact Nat.le_refl _⟩, ⟨by (with_reducible repeat (first | apply Kd.R_alloc | apply Kd.R_drewN | apply Kd.R_drew)); exact Kd.R_mono (Kd.R_far (p := ⟨gb671, 2, none⟩) (Kd.R_far (p := ⟨gb671, 1, none⟩) (Kd.R_mono HO_4.out (fun k_ hk => (⟨hk, hk.2⟩ : _ ∧ k_ ≠ gb671))) (fun _ hk => hk.2) (.int .i64 t672)) (fun _ hk => hk.2) (.string t673)) (fun _ hk => hk.1.2)⟩, ⟨by (with_reducible repeat (first | refine blk_drewN ?_ _ | refine blk_drew ?_ | refine blk_alloc ?_ _)); refine blk_put (cs := #[.int .i64 (rd y664 t667), .int .i64 t672, .string (⟨#[]⟩ : ByteArray), .int .i64 0]) ?_ 2 _ rfl; (with_reducible repeat (first | refine blk_drewN ?_ _ | refine blk_drew ?_ | refine blk_alloc ?_ _)); refine blk_put (cs := #[.int .i64 (rd y664 t667), .int .i64 0, .string (⟨#[]⟩ : ByteArray), .int .i64 0]) ?_ 1 _ rfl; (with_reducible repeat (first | refine blk_drewN ?_ _ | refine blk_drew ?_ | refine blk_alloc ?_ _)); exact BK671.out⟩, ⟨by repeat (first | (with_reducible first | exact HI657.out | apply IsS88.alloc | apply IsS88.drewN | apply IsS88.drew | apply IsS88.set_1 | apply IsS88.set_2 | refine IsS88.far ?_ NB657_671.out _) | exact HI657.out)⟩, ⟨by repeat (first | (with_reducible first | exact HB.out | apply below_alloc | apply pw_below_drewN | apply below_drew1 | refine below_set ?_ (IsS88.ge HI657.out) | refine below_set ?_ GE671.out) | exact HB.out)⟩⟩
       ·rw [if_neg c20] at H
        have c20b0 : ((rd y664 t667) == 1) = false := beq_eq_false_iff_ne.mpr c20
        have c20b1 : ((rd y664 t667) != 1) = true := bne_iff_ne.mpr c20
        (first | rw [c20b0] | (simp only [i64_w, i32_w]; rw [c20b0]) | skip)
        by_cases c25 : (rd y664 t667) = 3
        ·rw [if_pos c25] at H
         have c25b0 : ((rd y664 t667) == 3) = true := beq_iff_eq.mpr c25
         have c25b1 : ((rd y664 t667) != 3) = false := bne_eq_false_iff_eq.mpr c25
         clear c25
         replace H := Option.bind_eq_some_iff.mp H
         obtain ⟨⟨t676, t677, t678⟩, A260, H⟩ := H
         replace H : (if x4_1.length < 3518437208883 then ((some (x4_1 ++ [(⟨rd y664 t667, (⟨0, (⟨#[]⟩ : ByteArray)⟩ : S45), wrap64 (t676 - 5)⟩ : S56)] : List (S56))).bind fun y679 => ((spec_l01Cur_pick.f t654 t677 t678 4).bind fun bt682 => (if bt682.1 = 0 then ((spec_l01Cur_pick.f t654 bt682.2.1 bt682.2.2 4).bind fun bt685 => (spec_DrawDiskRun.j1 k1 y679 x5_1 t654 bt685.2.1 bt685.2.2 (wrap64 (1 + bt685.1)) 0 (⟨#[]⟩ : ByteArray) 0)) else (spec_DrawDiskRun.j1 k1 y679 x5_1 t654 bt682.2.1 bt682.2.2 4 0 (⟨#[]⟩ : ByteArray) 0)))) else (none)) = some r := H
         have A26 := Aside0.mk A260
         clear A260
         by_cases c27 : x4_1.length < 3518437208883
         ·rw [if_pos c27] at H
          have LMc27 := Aside0.mk c27
          clear c27
          obtain ⟨y679, hy679⟩ : ∃ y_ : List (S56), y_ = (x4_1 ++ [(⟨rd y664 t667, (⟨0, (⟨#[]⟩ : ByteArray)⟩ : S45), wrap64 (t676 - 5)⟩ : S56)]) := ⟨_, rfl⟩
          replace H : ((spec_l01Cur_pick.f t654 t677 t678 4).bind fun bt682 => (if bt682.1 = 0 then ((spec_l01Cur_pick.f t654 bt682.2.1 bt682.2.2 4).bind fun bt685 => (spec_DrawDiskRun.j1 k1 y679 x5_1 t654 bt685.2.1 bt685.2.2 (wrap64 (1 + bt685.1)) 0 (⟨#[]⟩ : ByteArray) 0)) else (spec_DrawDiskRun.j1 k1 y679 x5_1 t654 bt682.2.1 bt682.2.2 4 0 (⟨#[]⟩ : ByteArray) 0))) = some r := by first | (rw [hy679]; with_reducible exact H) | (have H2_ := (Option.bind_some _ _).symm.trans H; rw [hy679]; with_reducible exact H2_) | (have H2_ := (Option.bind_some _ _).symm.trans H; with_reducible exact H2_) | with_reducible exact H | (rw [hy679]; exact H) | exact H
          have Ny679 := Aside0.mk hy679
          clear hy679
          replace H := Option.bind_eq_some_iff.mp H
          obtain ⟨⟨t682, t683, t684⟩, A280, H⟩ := H
          replace H : (if t682 = 0 then ((spec_l01Cur_pick.f t654 t683 t684 4).bind fun bt685 => (spec_DrawDiskRun.j1 k1 y679 x5_1 t654 bt685.2.1 bt685.2.2 (wrap64 (1 + bt685.1)) 0 (⟨#[]⟩ : ByteArray) 0)) else (spec_DrawDiskRun.j1 k1 y679 x5_1 t654 t683 t684 4 0 (⟨#[]⟩ : ByteArray) 0)) = some r := H
          have A28 := Aside0.mk A280
          clear A280
          by_cases c29 : t682 = 0
          ·rw [if_pos c29] at H
           have c29b0 : (t682 == 0) = true := beq_iff_eq.mpr c29
           have c29b1 : (t682 != 0) = false := bne_eq_false_iff_eq.mpr c29
           clear c29
           replace H := Option.bind_eq_some_iff.mp H
           obtain ⟨⟨t685, t686, t687⟩, A300, H⟩ := H
           replace H : (spec_DrawDiskRun.j1 k1 y679 x5_1 t654 t686 t687 (wrap64 (1 + t685)) 0 (⟨#[]⟩ : ByteArray) 0) = some r := H
           have A30 := Aside0.mk A300
           clear A300
           have H' := Aside0.mk H
           clear H
           go_wp2_with (first | ((with_reducible refine gate_callee (f := 45) rfl ?_); refine goesL_ (some 32) rfl rfl Try.func45 (by kernel_rfl) rfl #[.pointer (some ⟨g657, 0, none⟩), .int .i64 80] rfl zm ?_; (with_reducible refine (spec_l01Cur_pick.calls g657 t654 t668 t669 80 t676 t677 t678 w _ ?side1 ?side2 A26.out).mono ?_); (case side1 => repeat (first | (with_reducible first | exact HI657.out | apply IsS88.alloc | apply IsS88.drewN | apply IsS88.drew | apply IsS88.set_1 | apply IsS88.set_2 | refine IsS88.far ?_ NB657_671.out _) | exact HI657.out)); (case side2 => repeat (first | (with_reducible first | exact HB.out | apply below_alloc | apply pw_below_drewN | apply below_drew1 | refine below_set ?_ (IsS88.ge HI657.out) | refine below_set ?_ GE671.out) | exact HB.out)); rintro e w31 ⟨rfl, hi, hb, hk⟩; refine ⟨_, rfl, ?_⟩; have n0_ := Aside0.mk (Kd.R_mono (Kd.R_keep (IsS88.apart (show IsS88 w _ g657 t654 t668 t669 from by repeat (first | (with_reducible first | exact HI657.out | apply IsS88.alloc | apply IsS88.drewN | apply IsS88.drew | apply IsS88.set_1 | apply IsS88.set_2 | refine IsS88.far ?_ NB657_671.out _) | exact HI657.out)) (zr HO_4.out) (by decide)) hk (fun _ h => h.2)) (fun _ h => h.1)); have n1_ := Aside0.mk (Kd.R_mono (Kd.R_keep (IsS88.apart (show IsS88 w _ g657 t654 t668 t669 from by repeat (first | (with_reducible first | exact HI657.out | apply IsS88.alloc | apply IsS88.drewN | apply IsS88.drew | apply IsS88.set_1 | apply IsS88.set_2 | refine IsS88.far ?_ NB657_671.out _) | exact HI657.out)) (zr HO666.out) (by decide)) hk (fun _ h => h.2)) (fun _ h => h.1)); have n2_ := Aside0.mk (KeepBut.blk hk (g' := gb671) (o := .cells #[.int .i64 (rd y664 t667), .int .i64 0, .string (⟨#[]⟩ : ByteArray), .int .i64 0] 56 (0, 0)) (zk BK671.out) NB671_657.out (by simp)); have n3_ := Aside0.mk (hb); have n4_ := Aside0.mk (hi); clear HO_4; clear HO666; clear BK671; clear HB; clear HI657; have HO_4 := n0_; have HO666 := n1_; have BK671 := n2_; have HB := n3_; have HI657 := n4_; clear n0_ n1_ n2_ n3_ n4_; (try clear hb); (try clear hb2); (try clear hk); (try clear hi); have hnb32 := NB671_657.out; have hnc32 := NB657_671.out; have hcz33_0 : w31.cell? ⟨gb671, 0, none⟩ = some (.int .i64 (rd y664 t667)) := (blk_cell BK671.out 0).trans rfl; have hcz33_1 : w31.cell? ⟨gb671, 1, none⟩ = some (.int .i64 0) := (blk_cell BK671.out 1).trans rfl; have hcz33_2 : w31.cell? ⟨gb671, 2, none⟩ = some (.string (⟨#[]⟩ : ByteArray)) := (blk_cell BK671.out 2).trans rfl; have hcz33_3 : w31.cell? ⟨gb671, 3, none⟩ = some (.int .i64 0) := (blk_cell BK671.out 3).trans rfl; have hfz33_0 := blk_frozen BK671.out 0; have hfz33_1 := blk_frozen BK671.out 1; have hfz33_2 := blk_frozen BK671.out 2; have hfz33_3 := blk_frozen BK671.out 3) | ((with_reducible refine gate_builtin (b := .append) (xs := #[.tmp 35, .tmp 37]) rfl ?_); at_builtin; refine Kd.R_append k56 (w0 := w) w.heap.size rfl (.tmp 35) (.tmp 37) 48 56 (.agg #[(.int .i64 0), (.int .i64 0), (.string ⟨#[]⟩), (.int .i64 0)]) 40 rfl Try.underlying48 info56 rfl (by decide) (by omega) u4 x4_1 (⟨rd y664 t667, (⟨0, (⟨#[]⟩ : ByteArray)⟩ : S45), wrap64 (t676 - 5)⟩ : S56) [.int .i64 (rd y664 t667), .int .i64 0, .string (⟨#[]⟩ : ByteArray), .int .i64 (wrap64 (t676 - 5))] (fun k_ => k_ ≠ gb671) (fun _ => False) rfl (by first | (go_simp; done) | (go_simp; rfl)) ?aP (fun _ hk => hk.elim) ?aF ?aO ?aB ?aS ?aL ?_; (case aP => exact k56_mkM _ _ _ (⟨rd y664 t667, (⟨0, (⟨#[]⟩ : ByteArray)⟩ : S45), wrap64 (t676 - 5)⟩ : S56)); (case aB => exact (by repeat (first | (with_reducible first | exact HB.out | apply below_alloc | apply pw_below_drewN | apply below_drew1 | refine below_set ?_ (IsS88.ge HI657.out) | refine below_set ?_ GE671.out) | exact HB.out))); (case aF => exact (fun k_ hk => Kd.freshB (g := gb671) (o := .cells #[.int .i64 (rd y664 t667), .int .i64 0, .string (⟨#[]⟩ : ByteArray), .int .i64 (wrap64 (t676 - 5))] 56 (0, 0)) (by (with_reducible repeat (first | refine blk_drewN ?_ _ | refine blk_drew ?_ | refine blk_alloc ?_ _)); refine blk_put (cs := #[.int .i64 (rd y664 t667), .int .i64 0, .string (⟨#[]⟩ : ByteArray), .int .i64 0]) ?_ 3 _ rfl; (with_reducible repeat (first | refine blk_drewN ?_ _ | refine blk_drew ?_ | refine blk_alloc ?_ _)); exact BK671.out) k_ hk)); (case aO => exact (by (with_reducible repeat (first | apply Kd.R_alloc | apply Kd.R_drewN | apply Kd.R_drew)); exact Kd.R_mono (Kd.R_far (p := ⟨gb671, 3, none⟩) (Kd.R_mono HO_4.out (fun k_ hk => (⟨hk, hk.2⟩ : _ ∧ k_ ≠ gb671))) (fun _ hk => hk.2) (.int .i64 (wrap64 (t676 - 5)))) (fun _ hk => hk.1.2))); (case aS => exact (below_size (by repeat (first | (with_reducible first | exact HB.out | apply below_alloc | apply pw_below_drewN | apply below_drew1 | refine below_set ?_ (IsS88.ge HI657.out) | refine below_set ?_ GE671.out) | exact HB.out)))); (case aL => have := LMc27.out; omega); intro v680 w34 ho hb hg hat; rw [← Ny679.out] at ho; have n0_ := Aside0.mk (IsS88.grown (IsS88.as_3 HI657.out (by repeat (first | (with_reducible first | exact HI657.out | apply IsS88.alloc | apply IsS88.drewN | apply IsS88.drew | apply IsS88.set_1 | apply IsS88.set_2 | refine IsS88.far ?_ NB657_671.out _) | exact HI657.out))) hg (IsS88.own_ne HI657.out HO_4.out (by decide))); have n1_ := Aside0.mk (Kd.R_over' (by (with_reducible repeat (first | apply Kd.R_alloc | apply Kd.R_drewN | apply Kd.R_drew)); exact (Kd.R_mono (Kd.R_far (p := ⟨gb671, 3, none⟩) (Kd.R_types HO666.out BK671.out (by decide)) (fun _ hk => hk.2) (.int .i64 (wrap64 (t676 - 5)))) (fun _ h_ => h_.1))) (Kd.R_typed (by (with_reducible repeat (first | apply Kd.R_alloc | apply Kd.R_drewN | apply Kd.R_drew)); exact (Kd.R_mono (Kd.R_far (p := ⟨gb671, 3, none⟩) (Kd.R_mono HO_4.out (fun k_ hk => (⟨hk, hk.2⟩ : _ ∧ k_ ≠ gb671))) (fun _ hk => hk.2) (.int .i64 (wrap64 (t676 - 5)))) (fun _ h_ => h_.1)))) (by decide) hg); have n2_ := Aside0.mk (blk_grown (g := gb671) (o := .cells #[.int .i64 (rd y664 t667), .int .i64 0, .string (⟨#[]⟩ : ByteArray), .int .i64 (wrap64 (t676 - 5))] 56 (0, 0)) (by (with_reducible repeat (first | refine blk_drewN ?_ _ | refine blk_drew ?_ | refine blk_alloc ?_ _)); refine blk_put (cs := #[.int .i64 (rd y664 t667), .int .i64 0, .string (⟨#[]⟩ : ByteArray), .int .i64 0]) ?_ 3 _ rfl; (with_reducible repeat (first | refine blk_drewN ?_ _ | refine blk_drew ?_ | refine blk_alloc ?_ _)); exact BK671.out) hg (Kd.R_away HO_4.out (fun _ hk => hk.2))); have n3_ := Aside0.mk (hb); have n4_ := Aside0.mk (ho); clear HI657; clear HO666; clear BK671; clear HB; clear HO_4; have HI657 := n0_; have HO666 := n1_; have BK671 := n2_; have HB := n3_; have HO681 := n4_; clear n0_ n1_ n2_ n3_ n4_; clear ho hb hg hat; have hcz35_0 : w34.cell? ⟨gb671, 0, none⟩ = some (.int .i64 (rd y664 t667)) := (blk_cell BK671.out 0).trans rfl; have hcz35_1 : w34.cell? ⟨gb671, 1, none⟩ = some (.int .i64 0) := (blk_cell BK671.out 1).trans rfl; have hcz35_2 : w34.cell? ⟨gb671, 2, none⟩ = some (.string (⟨#[]⟩ : ByteArray)) := (blk_cell BK671.out 2).trans rfl; have hcz35_3 : w34.cell? ⟨gb671, 3, none⟩ = some (.int .i64 (wrap64 (t676 - 5))) := (blk_cell BK671.out 3).trans rfl; have hfz35_0 := blk_frozen BK671.out 0; have hfz35_1 := blk_frozen BK671.out 1; have hfz35_2 := blk_frozen BK671.out 2; have hfz35_3 := blk_frozen BK671.out 3) | ((with_reducible refine gate_callee (f := 45) rfl ?_); refine goesL_ (some 41) rfl rfl Try.func45 (by kernel_rfl) rfl #[.pointer (some ⟨g657, 0, none⟩), .int .i64 4] rfl zm ?_; (with_reducible refine (spec_l01Cur_pick.calls g657 t654 t677 t678 4 t682 t683 t684 w _ ?side1 ?side2 A28.out).mono ?_); (case side1 => repeat (first | (with_reducible first | exact HI657.out | apply IsS88.alloc | apply IsS88.drewN | apply IsS88.drew | apply IsS88.set_1 | apply IsS88.set_2 | refine IsS88.far ?_ NB657_671.out _) | exact HI657.out)); (case side2 => repeat (first | (with_reducible first | exact HB.out | apply below_alloc | apply pw_below_drewN | apply below_drew1 | refine below_set ?_ (IsS88.ge HI657.out) | refine below_set ?_ GE671.out) | exact HB.out)); rintro e w36 ⟨rfl, hi, hb, hk⟩; refine ⟨_, rfl, ?_⟩; have n0_ := Aside0.mk (Kd.R_mono (Kd.R_keep (IsS88.apart (show IsS88 w _ g657 t654 t677 t678 from by repeat (first | (with_reducible first | exact HI657.out | apply IsS88.alloc | apply IsS88.drewN | apply IsS88.drew | apply IsS88.set_1 | apply IsS88.set_2 | refine IsS88.far ?_ NB657_671.out _) | exact HI657.out)) (by (with_reducible repeat (first | apply Kd.R_alloc | apply Kd.R_drewN | apply Kd.R_drew)); exact (Kd.R_mono (Kd.R_far (p := ⟨gb671, 3, none⟩) (Kd.R_far (p := ⟨gb671, 2, none⟩) (Kd.R_far (p := ⟨gb671, 1, none⟩) (Kd.R_far (p := ⟨gb671, 0, none⟩) (Kd.R_types HO666.out BK671.out (by decide)) (fun _ hk => hk.2) (.int .i64 4)) (fun _ hk => hk.2) (.int .i64 0)) (fun _ hk => hk.2) (.string (⟨#[]⟩ : ByteArray))) (fun _ hk => hk.2) (.int .i64 0)) (fun _ h_ => h_.1))) (by decide)) hk (fun _ h => h.2)) (fun _ h => h.1)); have n1_ := Aside0.mk (KeepBut.blk hk (g' := gb671) (o := .cells #[.int .i64 4, .int .i64 0, .string (⟨#[]⟩ : ByteArray), .int .i64 0] 56 (0, 0)) (by (with_reducible repeat (first | refine blk_drewN ?_ _ | refine blk_drew ?_ | refine blk_alloc ?_ _)); refine blk_put (cs := #[.int .i64 4, .int .i64 0, .string (⟨#[]⟩ : ByteArray), .int .i64 (wrap64 (t676 - 5))]) ?_ 3 _ rfl; (with_reducible repeat (first | refine blk_drewN ?_ _ | refine blk_drew ?_ | refine blk_alloc ?_ _)); refine blk_put (cs := #[.int .i64 4, .int .i64 0, .string (⟨#[]⟩ : ByteArray), .int .i64 (wrap64 (t676 - 5))]) ?_ 2 _ rfl; (with_reducible repeat (first | refine blk_drewN ?_ _ | refine blk_drew ?_ | refine blk_alloc ?_ _)); refine blk_put (cs := #[.int .i64 4, .int .i64 0, .string (⟨#[]⟩ : ByteArray), .int .i64 (wrap64 (t676 - 5))]) ?_ 1 _ rfl; (with_reducible repeat (first | refine blk_drewN ?_ _ | refine blk_drew ?_ | refine blk_alloc ?_ _)); refine blk_put (cs := #[.int .i64 (rd y664 t667), .int .i64 0, .string (⟨#[]⟩ : ByteArray), .int .i64 (wrap64 (t676 - 5))]) ?_ 0 _ rfl; (with_reducible repeat (first | refine blk_drewN ?_ _ | refine blk_drew ?_ | refine blk_alloc ?_ _)); exact BK671.out) NB671_657.out (by simp)); have n2_ := Aside0.mk (Kd.R_mono (Kd.R_keep (IsS88.apart (show IsS88 w _ g657 t654 t677 t678 from by repeat (first | (with_reducible first | exact HI657.out | apply IsS88.alloc | apply IsS88.drewN | apply IsS88.drew | apply IsS88.set_1 | apply IsS88.set_2 | refine IsS88.far ?_ NB657_671.out _) | exact HI657.out)) (by (with_reducible repeat (first | apply Kd.R_alloc | apply Kd.R_drewN | apply Kd.R_drew)); exact (Kd.R_mono (Kd.R_far (p := ⟨gb671, 3, none⟩) (Kd.R_far (p := ⟨gb671, 2, none⟩) (Kd.R_far (p := ⟨gb671, 1, none⟩) (Kd.R_far (p := ⟨gb671, 0, none⟩) (Kd.R_mono HO681.out (fun k_ hk => (⟨hk, hk⟩ : _ ∧ k_ ≠ gb671))) (fun _ hk => hk.2) (.int .i64 4)) (fun _ hk => hk.2) (.int .i64 0)) (fun _ hk => hk.2) (.string (⟨#[]⟩ : ByteArray))) (fun _ hk => hk.2) (.int .i64 0)) (fun _ h_ => h_.1))) (by decide)) hk (fun _ h => h.2)) (fun _ h => h.1)); have n3_ := Aside0.mk (hb); have n4_ := Aside0.mk (hi); clear HO666; clear BK671; clear HO681; clear HB; clear HI657; have HO666 := n0_; have BK671 := n1_; have HO681 := n2_; have HB := n3_; have HI657 := n4_; clear n0_ n1_ n2_ n3_ n4_; (try clear hb); (try clear hb2); (try clear hk); (try clear hi)) | ((with_reducible refine gate_callee (f := 45) rfl ?_); refine goesL_ (some 44) rfl rfl Try.func45 (by kernel_rfl) rfl #[.pointer (some ⟨g657, 0, none⟩), .int .i64 4] rfl zm ?_; (with_reducible refine (spec_l01Cur_pick.calls g657 t654 t683 t684 4 t685 t686 t687 w _ ?side1 ?side2 A30.out).mono ?_); (case side1 => repeat (first | (with_reducible first | exact HI657.out | apply IsS88.alloc | apply IsS88.drewN | apply IsS88.drew | apply IsS88.set_1 | apply IsS88.set_2 | refine IsS88.far ?_ NB657_671.out _) | exact HI657.out)); (case side2 => repeat (first | (with_reducible first | exact HB.out | apply below_alloc | apply pw_below_drewN | apply below_drew1 | refine below_set ?_ (IsS88.ge HI657.out) | refine below_set ?_ GE671.out) | exact HB.out)); rintro e w37 ⟨rfl, hi, hb, hk⟩; refine ⟨_, rfl, ?_⟩; have n0_ := Aside0.mk (Kd.R_mono (Kd.R_keep (IsS88.apart (show IsS88 w _ g657 t654 t683 t684 from by repeat (first | (with_reducible first | exact HI657.out | apply IsS88.alloc | apply IsS88.drewN | apply IsS88.drew | apply IsS88.set_1 | apply IsS88.set_2 | refine IsS88.far ?_ NB657_671.out _) | exact HI657.out)) (zr HO666.out) (by decide)) hk (fun _ h => h.2)) (fun _ h => h.1)); have n1_ := Aside0.mk (KeepBut.blk hk (g' := gb671) (o := .cells #[.int .i64 4, .int .i64 0, .string (⟨#[]⟩ : ByteArray), .int .i64 0] 56 (0, 0)) (zk BK671.out) NB671_657.out (by simp)); have n2_ := Aside0.mk (Kd.R_mono (Kd.R_keep (IsS88.apart (show IsS88 w _ g657 t654 t683 t684 from by repeat (first | (with_reducible first | exact HI657.out | apply IsS88.alloc | apply IsS88.drewN | apply IsS88.drew | apply IsS88.set_1 | apply IsS88.set_2 | refine IsS88.far ?_ NB657_671.out _) | exact HI657.out)) (zr HO681.out) (by decide)) hk (fun _ h => h.2)) (fun _ h => h.1)); have n3_ := Aside0.mk (hb); have n4_ := Aside0.mk (hi); clear HO666; clear BK671; clear HO681; clear HB; clear HI657; have HO666 := n0_; have BK671 := n1_; have HO681 := n2_; have HB := n3_; have HI657 := n4_; clear n0_ n1_ n2_ n3_ n4_; (try clear hb); (try clear hb2); (try clear hk); (try clear hi); have hcz38_0 : w37.cell? ⟨gb671, 0, none⟩ = some (.int .i64 4) := (blk_cell BK671.out 0).trans rfl; have hcz38_1 : w37.cell? ⟨gb671, 1, none⟩ = some (.int .i64 0) := (blk_cell BK671.out 1).trans rfl; have hcz38_2 : w37.cell? ⟨gb671, 2, none⟩ = some (.string (⟨#[]⟩ : ByteArray)) := (blk_cell BK671.out 2).trans rfl; have hcz38_3 : w37.cell? ⟨gb671, 3, none⟩ = some (.int .i64 0) := (blk_cell BK671.out 3).trans rfl; have hfz38_0 := blk_frozen BK671.out 0; have hfz38_1 := blk_frozen BK671.out 1; have hfz38_2 := blk_frozen BK671.out 2; have hfz38_3 := blk_frozen BK671.out 3))
           go_meet
           case rel => exact ⟨_, (y679), (t686), (t687), (wrap64 (1 + t685)), (0), ((⟨#[]⟩ : ByteArray)), (0), H', ⟨by have := HK1.out; first | omega | exact Nat.le_refl _⟩, ⟨by (with_reducible repeat (first | apply Kd.R_alloc | apply Kd.R_drewN | apply Kd.R_drew)); exact Kd.R_mono (Kd.R_far (p := ⟨gb671, 0, none⟩) (Kd.R_mono HO681.out (fun k_ hk => (⟨hk, hk⟩ : _ ∧ k_ ≠ gb671))) (fun _ hk => hk.2) (.int .i64 (wrap64 (1 + t685)))) (fun _ hk => hk.1)⟩, ⟨by (with_reducible repeat (first | refine blk_drewN ?_ _ | refine blk_drew ?_ | refine blk_alloc ?_ _)); refine blk_put (cs := #[.int .i64 4, .int .i64 0, .string (⟨#[]⟩ : ByteArray), .int .i64 0]) ?_ 0 _ rfl; (with_reducible repeat (first | refine blk_drewN ?_ _ | refine blk_drew ?_ | refine blk_alloc ?_ _)); exact BK671.out⟩, ⟨by repeat (first | (with_reducible first | exact HI657.out | apply IsS88.alloc | apply IsS88.drewN | apply IsS88.drew | apply IsS88.set_1 | apply IsS88.set_2 | refine IsS88.far ?_ NB657_671.out _) | exact HI657.out)⟩, ⟨by repeat (first | (with_reducible first | exact HB.out | apply below_alloc | apply pw_below_drewN | apply below_drew1 | refine below_set ?_ (IsS88.ge HI657.out) | refine below_set ?_ GE671.out) | exact HB.out)⟩⟩
          ·rw [if_neg c29] at H
           have c29b0 : (t682 == 0) = false := beq_eq_false_iff_ne.mpr c29
           have c29b1 : (t682 != 0) = true := bne_iff_ne.mpr c29
           have H' := Aside0.mk H
           clear H
           go_wp2_with (first | ((with_reducible refine gate_callee (f := 45) rfl ?_); refine goesL_ (some 32) rfl rfl Try.func45 (by kernel_rfl) rfl #[.pointer (some ⟨g657, 0, none⟩), .int .i64 80] rfl zm ?_; (with_reducible refine (spec_l01Cur_pick.calls g657 t654 t668 t669 80 t676 t677 t678 w _ ?side1 ?side2 A26.out).mono ?_); (case side1 => repeat (first | (with_reducible first | exact HI657.out | apply IsS88.alloc | apply IsS88.drewN | apply IsS88.drew | apply IsS88.set_1 | apply IsS88.set_2 | refine IsS88.far ?_ NB657_671.out _) | exact HI657.out)); (case side2 => repeat (first | (with_reducible first | exact HB.out | apply below_alloc | apply pw_below_drewN | apply below_drew1 | refine below_set ?_ (IsS88.ge HI657.out) | refine below_set ?_ GE671.out) | exact HB.out)); rintro e w39 ⟨rfl, hi, hb, hk⟩; refine ⟨_, rfl, ?_⟩; have n0_ := Aside0.mk (Kd.R_mono (Kd.R_keep (IsS88.apart (show IsS88 w _ g657 t654 t668 t669 from by repeat (first | (with_reducible first | exact HI657.out | apply IsS88.alloc | apply IsS88.drewN | apply IsS88.drew | apply IsS88.set_1 | apply IsS88.set_2 | refine IsS88.far ?_ NB657_671.out _) | exact HI657.out)) (zr HO_4.out) (by decide)) hk (fun _ h => h.2)) (fun _ h => h.1)); have n1_ := Aside0.mk (Kd.R_mono (Kd.R_keep (IsS88.apart (show IsS88 w _ g657 t654 t668 t669 from by repeat (first | (with_reducible first | exact HI657.out | apply IsS88.alloc | apply IsS88.drewN | apply IsS88.drew | apply IsS88.set_1 | apply IsS88.set_2 | refine IsS88.far ?_ NB657_671.out _) | exact HI657.out)) (zr HO666.out) (by decide)) hk (fun _ h => h.2)) (fun _ h => h.1)); have n2_ := Aside0.mk (KeepBut.blk hk (g' := gb671) (o := .cells #[.int .i64 (rd y664 t667), .int .i64 0, .string (⟨#[]⟩ : ByteArray), .int .i64 0] 56 (0, 0)) (zk BK671.out) NB671_657.out (by simp)); have n3_ := Aside0.mk (hb); have n4_ := Aside0.mk (hi); clear HO_4; clear HO666; clear BK671; clear HB; clear HI657; have HO_4 := n0_; have HO666 := n1_; have BK671 := n2_; have HB := n3_; have HI657 := n4_; clear n0_ n1_ n2_ n3_ n4_; (try clear hb); (try clear hb2); (try clear hk); (try clear hi); have hnb40 := NB671_657.out; have hnc40 := NB657_671.out; have hcz41_0 : w39.cell? ⟨gb671, 0, none⟩ = some (.int .i64 (rd y664 t667)) := (blk_cell BK671.out 0).trans rfl; have hcz41_1 : w39.cell? ⟨gb671, 1, none⟩ = some (.int .i64 0) := (blk_cell BK671.out 1).trans rfl; have hcz41_2 : w39.cell? ⟨gb671, 2, none⟩ = some (.string (⟨#[]⟩ : ByteArray)) := (blk_cell BK671.out 2).trans rfl; have hcz41_3 : w39.cell? ⟨gb671, 3, none⟩ = some (.int .i64 0) := (blk_cell BK671.out 3).trans rfl; have hfz41_0 := blk_frozen BK671.out 0; have hfz41_1 := blk_frozen BK671.out 1; have hfz41_2 := blk_frozen BK671.out 2; have hfz41_3 := blk_frozen BK671.out 3) | ((with_reducible refine gate_builtin (b := .append) (xs := #[.tmp 35, .tmp 37]) rfl ?_); at_builtin; refine Kd.R_append k56 (w0 := w) w.heap.size rfl (.tmp 35) (.tmp 37) 48 56 (.agg #[(.int .i64 0), (.int .i64 0), (.string ⟨#[]⟩), (.int .i64 0)]) 40 rfl Try.underlying48 info56 rfl (by decide) (by omega) u4 x4_1 (⟨rd y664 t667, (⟨0, (⟨#[]⟩ : ByteArray)⟩ : S45), wrap64 (t676 - 5)⟩ : S56) [.int .i64 (rd y664 t667), .int .i64 0, .string (⟨#[]⟩ : ByteArray), .int .i64 (wrap64 (t676 - 5))] (fun k_ => k_ ≠ gb671) (fun _ => False) rfl (by first | (go_simp; done) | (go_simp; rfl)) ?aP (fun _ hk => hk.elim) ?aF ?aO ?aB ?aS ?aL ?_; (case aP => exact k56_mkM _ _ _ (⟨rd y664 t667, (⟨0, (⟨#[]⟩ : ByteArray)⟩ : S45), wrap64 (t676 - 5)⟩ : S56)); (case aB => exact (by repeat (first | (with_reducible first | exact HB.out | apply below_alloc | apply pw_below_drewN | apply below_drew1 | refine below_set ?_ (IsS88.ge HI657.out) | refine below_set ?_ GE671.out) | exact HB.out))); (case aF => exact (fun k_ hk => Kd.freshB (g := gb671) (o := .cells #[.int .i64 (rd y664 t667), .int .i64 0, .string (⟨#[]⟩ : ByteArray), .int .i64 (wrap64 (t676 - 5))] 56 (0, 0)) (by (with_reducible repeat (first | refine blk_drewN ?_ _ | refine blk_drew ?_ | refine blk_alloc ?_ _)); refine blk_put (cs := #[.int .i64 (rd y664 t667), .int .i64 0, .string (⟨#[]⟩ : ByteArray), .int .i64 0]) ?_ 3 _ rfl; (with_reducible repeat (first | refine blk_drewN ?_ _ | refine blk_drew ?_ | refine blk_alloc ?_ _)); exact BK671.out) k_ hk)); (case aO => exact (by (with_reducible repeat (first | apply Kd.R_alloc | apply Kd.R_drewN | apply Kd.R_drew)); exact Kd.R_mono (Kd.R_far (p := ⟨gb671, 3, none⟩) (Kd.R_mono HO_4.out (fun k_ hk => (⟨hk, hk.2⟩ : _ ∧ k_ ≠ gb671))) (fun _ hk => hk.2) (.int .i64 (wrap64 (t676 - 5)))) (fun _ hk => hk.1.2))); (case aS => exact (below_size (by repeat (first | (with_reducible first | exact HB.out | apply below_alloc | apply pw_below_drewN | apply below_drew1 | refine below_set ?_ (IsS88.ge HI657.out) | refine below_set ?_ GE671.out) | exact HB.out)))); (case aL => have := LMc27.out; omega); intro v680 w42 ho hb hg hat; rw [← Ny679.out] at ho; have n0_ := Aside0.mk (IsS88.grown (IsS88.as_3 HI657.out (by repeat (first | (with_reducible first | exact HI657.out | apply IsS88.alloc | apply IsS88.drewN | apply IsS88.drew | apply IsS88.set_1 | apply IsS88.set_2 | refine IsS88.far ?_ NB657_671.out _) | exact HI657.out))) hg (IsS88.own_ne HI657.out HO_4.out (by decide))); have n1_ := Aside0.mk (Kd.R_over' (by (with_reducible repeat (first | apply Kd.R_alloc | apply Kd.R_drewN | apply Kd.R_drew)); exact (Kd.R_mono (Kd.R_far (p := ⟨gb671, 3, none⟩) (Kd.R_types HO666.out BK671.out (by decide)) (fun _ hk => hk.2) (.int .i64 (wrap64 (t676 - 5)))) (fun _ h_ => h_.1))) (Kd.R_typed (by (with_reducible repeat (first | apply Kd.R_alloc | apply Kd.R_drewN | apply Kd.R_drew)); exact (Kd.R_mono (Kd.R_far (p := ⟨gb671, 3, none⟩) (Kd.R_mono HO_4.out (fun k_ hk => (⟨hk, hk.2⟩ : _ ∧ k_ ≠ gb671))) (fun _ hk => hk.2) (.int .i64 (wrap64 (t676 - 5)))) (fun _ h_ => h_.1)))) (by decide) hg); have n2_ := Aside0.mk (blk_grown (g := gb671) (o := .cells #[.int .i64 (rd y664 t667), .int .i64 0, .string (⟨#[]⟩ : ByteArray), .int .i64 (wrap64 (t676 - 5))] 56 (0, 0)) (by (with_reducible repeat (first | refine blk_drewN ?_ _ | refine blk_drew ?_ | refine blk_alloc ?_ _)); refine blk_put (cs := #[.int .i64 (rd y664 t667), .int .i64 0, .string (⟨#[]⟩ : ByteArray), .int .i64 0]) ?_ 3 _ rfl; (with_reducible repeat (first | refine blk_drewN ?_ _ | refine blk_drew ?_ | refine blk_alloc ?_ _)); exact BK671.out) hg (Kd.R_away HO_4.out (fun _ hk => hk.2))); have n3_ := Aside0.mk (hb); have n4_ := Aside0.mk (ho); clear HI657; clear HO666; clear BK671; clear HB; clear HO_4; have HI657 := n0_; have HO666 := n1_; have BK671 := n2_; have HB := n3_; have HO681 := n4_; clear n0_ n1_ n2_ n3_ n4_; clear ho hb hg hat; have hcz43_0 : w42.cell? ⟨gb671, 0, none⟩ = some (.int .i64 (rd y664 t667)) := (blk_cell BK671.out 0).trans rfl; have hcz43_1 : w42.cell? ⟨gb671, 1, none⟩ = some (.int .i64 0) := (blk_cell BK671.out 1).trans rfl; have hcz43_2 : w42.cell? ⟨gb671, 2, none⟩ = some (.string (⟨#[]⟩ : ByteArray)) := (blk_cell BK671.out 2).trans rfl; have hcz43_3 : w42.cell? ⟨gb671, 3, none⟩ = some (.int .i64 (wrap64 (t676 - 5))) := (blk_cell BK671.out 3).trans rfl; have hfz43_0 := blk_frozen BK671.out 0; have hfz43_1 := blk_frozen BK671.out 1; have hfz43_2 := blk_frozen BK671.out 2; have hfz43_3 := blk_frozen BK671.out 3) | ((with_reducible refine gate_callee (f := 45) rfl ?_); refine goesL_ (some 41) rfl rfl Try.func45 (by kernel_rfl) rfl #[.pointer (some ⟨g657, 0, none⟩), .int .i64 4] rfl zm ?_; (with_reducible refine (spec_l01Cur_pick.calls g657 t654 t677 t678 4 t682 t683 t684 w _ ?side1 ?side2 A28.out).mono ?_); (case side1 => repeat (first | (with_reducible first | exact HI657.out | apply IsS88.alloc | apply IsS88.drewN | apply IsS88.drew | apply IsS88.set_1 | apply IsS88.set_2 | refine IsS88.far ?_ NB657_671.out _) | exact HI657.out)); (case side2 => repeat (first | (with_reducible first | exact HB.out | apply below_alloc | apply pw_below_drewN | apply below_drew1 | refine below_set ?_ (IsS88.ge HI657.out) | refine below_set ?_ GE671.out) | exact HB.out)); rintro e w44 ⟨rfl, hi, hb, hk⟩; refine ⟨_, rfl, ?_⟩; have n0_ := Aside0.mk (Kd.R_mono (Kd.R_keep (IsS88.apart (show IsS88 w _ g657 t654 t677 t678 from by repeat (first | (with_reducible first | exact HI657.out | apply IsS88.alloc | apply IsS88.drewN | apply IsS88.drew | apply IsS88.set_1 | apply IsS88.set_2 | refine IsS88.far ?_ NB657_671.out _) | exact HI657.out)) (by (with_reducible repeat (first | apply Kd.R_alloc | apply Kd.R_drewN | apply Kd.R_drew)); exact (Kd.R_mono (Kd.R_far (p := ⟨gb671, 3, none⟩) (Kd.R_far (p := ⟨gb671, 2, none⟩) (Kd.R_far (p := ⟨gb671, 1, none⟩) (Kd.R_far (p := ⟨gb671, 0, none⟩) (Kd.R_types HO666.out BK671.out (by decide)) (fun _ hk => hk.2) (.int .i64 4)) (fun _ hk => hk.2) (.int .i64 0)) (fun _ hk => hk.2) (.string (⟨#[]⟩ : ByteArray))) (fun _ hk => hk.2) (.int .i64 0)) (fun _ h_ => h_.1))) (by decide)) hk (fun _ h => h.2)) (fun _ h => h.1)); have n1_ := Aside0.mk (KeepBut.blk hk (g' := gb671) (o := .cells #[.int .i64 4, .int .i64 0, .string (⟨#[]⟩ : ByteArray), .int .i64 0] 56 (0, 0)) (by (with_reducible repeat (first | refine blk_drewN ?_ _ | refine blk_drew ?_ | refine blk_alloc ?_ _)); refine blk_put (cs := #[.int .i64 4, .int .i64 0, .string (⟨#[]⟩ : ByteArray), .int .i64 (wrap64 (t676 - 5))]) ?_ 3 _ rfl; (with_reducible repeat (first | refine blk_drewN ?_ _ | refine blk_drew ?_ | refine blk_alloc ?_ _)); refine blk_put (cs := #[.int .i64 4, .int .i64 0, .string (⟨#[]⟩ : ByteArray), .int .i64 (wrap64 (t676 - 5))]) ?_ 2 _ rfl; (with_reducible repeat (first | refine blk_drewN ?_ _ | refine blk_drew ?_ | refine blk_alloc ?_ _)); refine blk_put (cs := #[.int .i64 4, .int .i64 0, .string (⟨#[]⟩ : ByteArray), .int .i64 (wrap64 (t676 - 5))]) ?_ 1 _ rfl; (with_reducible repeat (first | refine blk_drewN ?_ _ | refine blk_drew ?_ | refine blk_alloc ?_ _)); refine blk_put (cs := #[.int .i64 (rd y664 t667), .int .i64 0, .string (⟨#[]⟩ : ByteArray), .int .i64 (wrap64 (t676 - 5))]) ?_ 0 _ rfl; (with_reducible repeat (first | refine blk_drewN ?_ _ | refine blk_drew ?_ | refine blk_alloc ?_ _)); exact BK671.out) NB671_657.out (by simp)); have n2_ := Aside0.mk (Kd.R_mono (Kd.R_keep (IsS88.apart (show IsS88 w _ g657 t654 t677 t678 from by repeat (first | (with_reducible first | exact HI657.out | apply IsS88.alloc | apply IsS88.drewN | apply IsS88.drew | apply IsS88.set_1 | apply IsS88.set_2 | refine IsS88.far ?_ NB657_671.out _) | exact HI657.out)) (by (with_reducible repeat (first | apply Kd.R_alloc | apply Kd.R_drewN | apply Kd.R_drew)); exact (Kd.R_mono (Kd.R_far (p := ⟨gb671, 3, none⟩) (Kd.R_far (p := ⟨gb671, 2, none⟩) (Kd.R_far (p := ⟨gb671, 1, none⟩) (Kd.R_far (p := ⟨gb671, 0, none⟩) (Kd.R_mono HO681.out (fun k_ hk => (⟨hk, hk⟩ : _ ∧ k_ ≠ gb671))) (fun _ hk => hk.2) (.int .i64 4)) (fun _ hk => hk.2) (.int .i64 0)) (fun _ hk => hk.2) (.string (⟨#[]⟩ : ByteArray))) (fun _ hk => hk.2) (.int .i64 0)) (fun _ h_ => h_.1))) (by decide)) hk (fun _ h => h.2)) (fun _ h => h.1)); have n3_ := Aside0.mk (hb); have n4_ := Aside0.mk (hi); clear HO666; clear BK671; clear HO681; clear HB; clear HI657; have HO666 := n0_; have BK671 := n1_; have HO681 := n2_; have HB := n3_; have HI657 := n4_; clear n0_ n1_ n2_ n3_ n4_; (try clear hb); (try clear hb2); (try clear hk); (try clear hi)))
           go_meet
           case rel => exact ⟨_, (y679), (t683), (t684), (4), (0), ((⟨#[]⟩ : ByteArray)), (0), H', ⟨by have := HK1.out; first | omega | exact Nat.le_refl _⟩, ⟨zr HO681.out⟩, ⟨by (with_reducible repeat (first | refine blk_drewN ?_ _ | refine blk_drew ?_ | refine blk_alloc ?_ _)); exact BK671.out⟩, ⟨by repeat (first | (with_reducible first | exact HI657.out | apply IsS88.alloc | apply IsS88.drewN | apply IsS88.drew | apply IsS88.set_1 | apply IsS88.set_2 | refine IsS88.far ?_ NB657_671.out _) | exact HI657.out)⟩, ⟨by repeat (first | (with_reducible first | exact HB.out | apply below_alloc | apply pw_below_drewN | apply below_drew1 | refine below_set ?_ (IsS88.ge HI657.out) | refine below_set ?_ GE671.out) | exact HB.out)⟩⟩
         ·rw [if_neg c27] at H
          cases H
        ·rw [if_neg c25] at H
         have c25b0 : ((rd y664 t667) == 3) = false := beq_eq_false_iff_ne.mpr c25
         have c25b1 : ((rd y664 t667) != 3) = true := bne_iff_ne.mpr c25
         have H' := Aside0.mk H
         clear H
         go_wp2
         go_meet
         case rel => exact ⟨_, (x4_1), (t668), (t669), (rd y664 t667), (0), ((⟨#[]⟩ : ByteArray)), (0), H', ⟨by have := HK1.out; first | omega | exact Nat.le_refl _⟩, ⟨by (with_reducible repeat (first | apply Kd.R_alloc | apply Kd.R_drewN | apply Kd.R_drew)); exact Kd.R_mono HO_4.out (fun _ hk => hk.2)⟩, ⟨by (with_reducible repeat (first | refine blk_drewN ?_ _ | refine blk_drew ?_ | refine blk_alloc ?_ _)); exact BK671.out⟩, ⟨by repeat (first | (with_reducible first | exact HI657.out | apply IsS88.alloc | apply IsS88.drewN | apply IsS88.drew | apply IsS88.set_1 | apply IsS88.set_2 | refine IsS88.far ?_ NB657_671.out _) | exact HI657.out)⟩, ⟨by repeat (first | (with_reducible first | exact HB.out | apply below_alloc | apply pw_below_drewN | apply below_drew1 | refine below_set ?_ (IsS88.ge HI657.out) | refine below_set ?_ GE671.out) | exact HB.out)⟩⟩
      case rest =>
       clear HC12
       try clear c8
       try clear c8b0
       try clear c10
       try clear c10b0
       try clear c11
       try clear c11b0
       try clear hcz19_0
       try clear hcz19_1
       try clear hcz19_2
       try clear hcz19_3
       try clear hfz19_0
       try clear hfz19_1
       try clear hfz19_2
       try clear hfz19_3
       try clear hx670_0
       try clear p670
       try clear q670
       obtain ⟨kq, x4_11, x658001_11, x658002_11, x672000_11, x672001_11, x672002_11, x672003_11, HA, HJ11, HO_4, BK671, HI657, HB⟩ := hcut
       cases kq with
       | zero => exact absurd HA.out (by simp [spec_DrawDiskRun.j1])
       | succ kj11 =>
        have H := HA.out
        clear HA
        simp only [spec_DrawDiskRun.j1] at H
        replace H := Option.bind_eq_some_iff.mp H
        obtain ⟨⟨t688, t689, t690⟩, A450, H⟩ := H
        replace H : (if t688 = 0 then ((spec_l01Cur_pick.f t654 t689 t690 7).bind fun bt691 => (if x4_11.length < 3518437208883 then (spec_DrawDiskRun.l0 kj11 (x4_11 ++ [(⟨wrap64 (bt691.1 - 1), (⟨x672001_11, x672002_11⟩ : S45), x672003_11⟩ : S56)]) (wrap64 (x5_1 - 1)) t654 bt691.2.1 bt691.2.2) else (none))) else (if x4_11.length < 3518437208883 then (spec_DrawDiskRun.l0 kj11 (x4_11 ++ [(⟨x672000_11, (⟨x672001_11, x672002_11⟩ : S45), x672003_11⟩ : S56)]) (wrap64 (x5_1 - 1)) t654 t689 t690) else (none))) = some r := H
        have A45 := Aside0.mk A450
        clear A450
        by_cases c46 : t688 = 0
        ·rw [if_pos c46] at H
         have c46b0 : (t688 == 0) = true := beq_iff_eq.mpr c46
         have c46b1 : (t688 != 0) = false := bne_eq_false_iff_eq.mpr c46
         clear c46
         replace H := Option.bind_eq_some_iff.mp H
         obtain ⟨⟨t691, t692, t693⟩, A470, H⟩ := H
         replace H : (if x4_11.length < 3518437208883 then (spec_DrawDiskRun.l0 kj11 (x4_11 ++ [(⟨wrap64 (t691 - 1), (⟨x672001_11, x672002_11⟩ : S45), x672003_11⟩ : S56)]) (wrap64 (x5_1 - 1)) t654 t692 t693) else (none)) = some r := H
         have A47 := Aside0.mk A470
         clear A470
         by_cases c48 : x4_11.length < 3518437208883
         ·rw [if_pos c48] at H
          have LMc48 := Aside0.mk c48
          clear c48
          obtain ⟨y694, hy694⟩ : ∃ y_ : List (S56), y_ = (x4_11 ++ [(⟨wrap64 (t691 - 1), (⟨x672001_11, x672002_11⟩ : S45), x672003_11⟩ : S56)]) := ⟨_, rfl⟩
          replace H : (spec_DrawDiskRun.l0 kj11 y694 (wrap64 (x5_1 - 1)) t654 t692 t693) = some r := by first | (rw [hy694]; with_reducible exact H) | (have H2_ := (Option.bind_some _ _).symm.trans H; rw [hy694]; with_reducible exact H2_) | (have H2_ := (Option.bind_some _ _).symm.trans H; with_reducible exact H2_) | with_reducible exact H | (rw [hy694]; exact H) | exact H
          have Ny694 := Aside0.mk hy694
          clear hy694
          have H' := Aside0.mk H
          clear H
          go_wp2_with (first | ((with_reducible refine gate_callee (f := 45) rfl ?_); refine goesL_ (some 48) rfl rfl Try.func45 (by kernel_rfl) rfl #[.pointer (some ⟨g657, 0, none⟩), .int .i64 40] rfl zm ?_; (with_reducible refine (spec_l01Cur_pick.calls g657 t654 x658001_11 x658002_11 40 t688 t689 t690 w _ ?side1 ?side2 A45.out).mono ?_); (case side1 => repeat (first | (with_reducible first | exact HI657.out | apply IsS88.alloc | apply IsS88.drewN | apply IsS88.drew | apply IsS88.set_1 | apply IsS88.set_2 | refine IsS88.far ?_ NB657_671.out _) | exact HI657.out)); (case side2 => repeat (first | (with_reducible first | exact HB.out | apply below_alloc | apply pw_below_drewN | apply below_drew1 | refine below_set ?_ (IsS88.ge HI657.out) | refine below_set ?_ GE671.out) | exact HB.out)); rintro e w49 ⟨rfl, hi, hb, hk⟩; refine ⟨_, rfl, ?_⟩; have n0_ := Aside0.mk (Kd.R_mono (Kd.R_keep (IsS88.apart (show IsS88 w _ g657 t654 x658001_11 x658002_11 from by repeat (first | (with_reducible first | exact HI657.out | apply IsS88.alloc | apply IsS88.drewN | apply IsS88.drew | apply IsS88.set_1 | apply IsS88.set_2 | refine IsS88.far ?_ NB657_671.out _) | exact HI657.out)) (zr HO_4.out) (by decide)) hk (fun _ h => h.2)) (fun _ h => h.1)); have n1_ := Aside0.mk (KeepBut.blk hk (g' := gb671) (o := .cells #[.int .i64 x672000_11, .int .i64 x672001_11, .string x672002_11, .int .i64 x672003_11] 56 (0, 0)) (zk BK671.out) NB671_657.out (by simp)); have n2_ := Aside0.mk (hb); have n3_ := Aside0.mk (hi); clear HO_4; clear BK671; clear HB; clear HI657; have HO_4 := n0_; have BK671 := n1_; have HB := n2_; have HI657 := n3_; clear n0_ n1_ n2_ n3_; (try clear hb); (try clear hb2); (try clear hk); (try clear hi)) | ((with_reducible refine gate_callee (f := 45) rfl ?_); refine goesL_ (some 51) rfl rfl Try.func45 (by kernel_rfl) rfl #[.pointer (some ⟨g657, 0, none⟩), .int .i64 7] rfl zm ?_; (with_reducible refine (spec_l01Cur_pick.calls g657 t654 t689 t690 7 t691 t692 t693 w _ ?side1 ?side2 A47.out).mono ?_); (case side1 => repeat (first | (with_reducible first | exact HI657.out | apply IsS88.alloc | apply IsS88.drewN | apply IsS88.drew | apply IsS88.set_1 | apply IsS88.set_2 | refine IsS88.far ?_ NB657_671.out _) | exact HI657.out)); (case side2 => repeat (first | (with_reducible first | exact HB.out | apply below_alloc | apply pw_below_drewN | apply below_drew1 | refine below_set ?_ (IsS88.ge HI657.out) | refine below_set ?_ GE671.out) | exact HB.out)); rintro e w50 ⟨rfl, hi, hb, hk⟩; refine ⟨_, rfl, ?_⟩; have n0_ := Aside0.mk (Kd.R_mono (Kd.R_keep (IsS88.apart (show IsS88 w _ g657 t654 t689 t690 from by repeat (first | (with_reducible first | exact HI657.out | apply IsS88.alloc | apply IsS88.drewN | apply IsS88.drew | apply IsS88.set_1 | apply IsS88.set_2 | refine IsS88.far ?_ NB657_671.out _) | exact HI657.out)) (zr HO_4.out) (by decide)) hk (fun _ h => h.2)) (fun _ h => h.1)); have n1_ := Aside0.mk (KeepBut.blk hk (g' := gb671) (o := .cells #[.int .i64 x672000_11, .int .i64 x672001_11, .string x672002_11, .int .i64 x672003_11] 56 (0, 0)) (zk BK671.out) NB671_657.out (by simp)); have n2_ := Aside0.mk (hb); have n3_ := Aside0.mk (hi); clear HO_4; clear BK671; clear HB; clear HI657; have HO_4 := n0_; have BK671 := n1_; have HB := n2_; have HI657 := n3_; clear n0_ n1_ n2_ n3_; (try clear hb); (try clear hb2); (try clear hk); (try clear hi); have hnb51 := NB671_657.out; have hnc51 := NB657_671.out; have hcz52_0 : w50.cell? ⟨gb671, 0, none⟩ = some (.int .i64 x672000_11) := (blk_cell BK671.out 0).trans rfl; have hcz52_1 : w50.cell? ⟨gb671, 1, none⟩ = some (.int .i64 x672001_11) := (blk_cell BK671.out 1).trans rfl; have hcz52_2 : w50.cell? ⟨gb671, 2, none⟩ = some (.string x672002_11) := (blk_cell BK671.out 2).trans rfl; have hcz52_3 : w50.cell? ⟨gb671, 3, none⟩ = some (.int .i64 x672003_11) := (blk_cell BK671.out 3).trans rfl; have hfz52_0 := blk_frozen BK671.out 0; have hfz52_1 := blk_frozen BK671.out 1; have hfz52_2 := blk_frozen BK671.out 2; have hfz52_3 := blk_frozen BK671.out 3) | ((with_reducible refine gate_builtin (b := .append) (xs := #[.tmp 54, .tmp 56]) rfl ?_); at_builtin; refine Kd.R_append k56 (w0 := w) w.heap.size rfl (.tmp 54) (.tmp 56) 48 56 (.agg #[(.int .i64 0), (.int .i64 0), (.string ⟨#[]⟩), (.int .i64 0)]) 40 rfl Try.underlying48 info56 rfl (by decide) (by omega) u4 x4_11 (⟨wrap64 (t691 - 1), (⟨x672001_11, x672002_11⟩ : S45), x672003_11⟩ : S56) [.int .i64 (wrap64 (t691 - 1)), .int .i64 x672001_11, .string x672002_11, .int .i64 x672003_11] (fun k_ => k_ ≠ gb671) (fun _ => False) rfl (by first | (go_simp; done) | (go_simp; rfl)) ?aP (fun _ hk => hk.elim) ?aF ?aO ?aB ?aS ?aL ?_; (case aP => exact k56_mkM _ _ _ (⟨wrap64 (t691 - 1), (⟨x672001_11, x672002_11⟩ : S45), x672003_11⟩ : S56)); (case aB => exact (by repeat (first | (with_reducible first | exact HB.out | apply below_alloc | apply pw_below_drewN | apply below_drew1 | refine below_set ?_ (IsS88.ge HI657.out) | refine below_set ?_ GE671.out) | exact HB.out))); (case aF => exact (fun k_ hk => Kd.freshB (g := gb671) (o := .cells #[.int .i64 (wrap64 (t691 - 1)), .int .i64 x672001_11, .string x672002_11, .int .i64 x672003_11] 56 (0, 0)) (by (with_reducible repeat (first | refine blk_drewN ?_ _ | refine blk_drew ?_ | refine blk_alloc ?_ _)); refine blk_put (cs := #[.int .i64 x672000_11, .int .i64 x672001_11, .string x672002_11, .int .i64 x672003_11]) ?_ 0 _ rfl; (with_reducible repeat (first | refine blk_drewN ?_ _ | refine blk_drew ?_ | refine blk_alloc ?_ _)); exact BK671.out) k_ hk)); (case aO => exact (by (with_reducible repeat (first | apply Kd.R_alloc | apply Kd.R_drewN | apply Kd.R_drew)); exact Kd.R_mono (Kd.R_far (p := ⟨gb671, 0, none⟩) (Kd.R_mono HO_4.out (fun k_ hk => (⟨hk, hk⟩ : _ ∧ k_ ≠ gb671))) (fun _ hk => hk.2) (.int .i64 (wrap64 (t691 - 1)))) (fun _ hk => hk.1))); (case aS => exact (below_size (by repeat (first | (with_reducible first | exact HB.out | apply below_alloc | apply pw_below_drewN | apply below_drew1 | refine below_set ?_ (IsS88.ge HI657.out) | refine below_set ?_ GE671.out) | exact HB.out)))); (case aL => have := LMc48.out; omega); intro v695 w53 ho hb hg hat; rw [← Ny694.out] at ho; have n0_ := Aside0.mk (blk_grown (g := gb671) (o := .cells #[.int .i64 (wrap64 (t691 - 1)), .int .i64 x672001_11, .string x672002_11, .int .i64 x672003_11] 56 (0, 0)) (by (with_reducible repeat (first | refine blk_drewN ?_ _ | refine blk_drew ?_ | refine blk_alloc ?_ _)); refine blk_put (cs := #[.int .i64 x672000_11, .int .i64 x672001_11, .string x672002_11, .int .i64 x672003_11]) ?_ 0 _ rfl; (with_reducible repeat (first | refine blk_drewN ?_ _ | refine blk_drew ?_ | refine blk_alloc ?_ _)); exact BK671.out) hg (Kd.R_away HO_4.out (fun _ hk => hk))); have n1_ := Aside0.mk (IsS88.grown (IsS88.as_3 HI657.out (by repeat (first | (with_reducible first | exact HI657.out | apply IsS88.alloc | apply IsS88.drewN | apply IsS88.drew | apply IsS88.set_1 | apply IsS88.set_2 | refine IsS88.far ?_ NB657_671.out _) | exact HI657.out))) hg (IsS88.own_ne HI657.out HO_4.out (by decide))); have n2_ := Aside0.mk (hb); have n3_ := Aside0.mk (ho); clear BK671; clear HI657; clear HB; clear HO_4; have BK671 := n0_; have HI657 := n1_; have HB := n2_; have HO696 := n3_; clear n0_ n1_ n2_ n3_; clear ho hb hg hat))
          go_roundg kj11
          case measure => have := HK1.out; have := HJ11.out; omega
          case rel => exact ⟨(y694), (wrap64 (x5_1 - 1)), (t692), (t693), (by first | rfl | (simp; done) | (simp [*]; done)), H', ⟨by have := HK1.out; have := HJ11.out; omega⟩, ⟨by (with_reducible repeat (first | apply Kd.R_alloc | apply Kd.R_drewN | apply Kd.R_drew)); exact Kd.R_mono HO696.out (fun _ hk => trivial)⟩, ⟨by repeat (first | (with_reducible first | exact HI657.out | apply IsS88.alloc | apply IsS88.drewN | apply IsS88.drew | apply IsS88.set_1 | apply IsS88.set_2 | refine IsS88.far ?_ NB657_671.out _) | exact HI657.out)⟩, ⟨by repeat (first | (with_reducible first | exact HB.out | apply below_alloc | apply pw_below_drewN | apply below_drew1 | refine below_set ?_ (IsS88.ge HI657.out) | refine below_set ?_ GE671.out) | exact HB.out)⟩⟩
         ·rw [if_neg c48] at H
          cases H
        ·rw [if_neg c46] at H
         have c46b0 : (t688 == 0) = false := beq_eq_false_iff_ne.mpr c46
         have c46b1 : (t688 != 0) = true := bne_iff_ne.mpr c46
         by_cases c54 : x4_11.length < 3518437208883
         ·rw [if_pos c54] at H
          have LMc54 := Aside0.mk c54
          clear c54
          obtain ⟨y697, hy697⟩ : ∃ y_ : List (S56), y_ = (x4_11 ++ [(⟨x672000_11, (⟨x672001_11, x672002_11⟩ : S45), x672003_11⟩ : S56)]) := ⟨_, rfl⟩
          replace H : (spec_DrawDiskRun.l0 kj11 y697 (wrap64 (x5_1 - 1)) t654 t689 t690) = some r := by first | (rw [hy697]; with_reducible exact H) | (have H2_ := (Option.bind_some _ _).symm.trans H; rw [hy697]; with_reducible exact H2_) | (have H2_ := (Option.bind_some _ _).symm.trans H; with_reducible exact H2_) | with_reducible exact H | (rw [hy697]; exact H) | exact H
          have Ny697 := Aside0.mk hy697
          clear hy697
          have H' := Aside0.mk H
          clear H
          go_wp2_with (first | ((with_reducible refine gate_callee (f := 45) rfl ?_); refine goesL_ (some 48) rfl rfl Try.func45 (by kernel_rfl) rfl #[.pointer (some ⟨g657, 0, none⟩), .int .i64 40] rfl zm ?_; (with_reducible refine (spec_l01Cur_pick.calls g657 t654 x658001_11 x658002_11 40 t688 t689 t690 w _ ?side1 ?side2 A45.out).mono ?_); (case side1 => repeat (first | (with_reducible first | exact HI657.out | apply IsS88.alloc | apply IsS88.drewN | apply IsS88.drew | apply IsS88.set_1 | apply IsS88.set_2 | refine IsS88.far ?_ NB657_671.out _) | exact HI657.out)); (case side2 => repeat (first | (with_reducible first | exact HB.out | apply below_alloc | apply pw_below_drewN | apply below_drew1 | refine below_set ?_ (IsS88.ge HI657.out) | refine below_set ?_ GE671.out) | exact HB.out)); rintro e w55 ⟨rfl, hi, hb, hk⟩; refine ⟨_, rfl, ?_⟩; have n0_ := Aside0.mk (Kd.R_mono (Kd.R_keep (IsS88.apart (show IsS88 w _ g657 t654 x658001_11 x658002_11 from by repeat (first | (with_reducible first | exact HI657.out | apply IsS88.alloc | apply IsS88.drewN | apply IsS88.drew | apply IsS88.set_1 | apply IsS88.set_2 | refine IsS88.far ?_ NB657_671.out _) | exact HI657.out)) (zr HO_4.out) (by decide)) hk (fun _ h => h.2)) (fun _ h => h.1)); have n1_ := Aside0.mk (KeepBut.blk hk (g' := gb671) (o := .cells #[.int .i64 x672000_11, .int .i64 x672001_11, .string x672002_11, .int .i64 x672003_11] 56 (0, 0)) (zk BK671.out) NB671_657.out (by simp)); have n2_ := Aside0.mk (hb); have n3_ := Aside0.mk (hi); clear HO_4; clear BK671; clear HB; clear HI657; have HO_4 := n0_; have BK671 := n1_; have HB := n2_; have HI657 := n3_; clear n0_ n1_ n2_ n3_; (try clear hb); (try clear hb2); (try clear hk); (try clear hi); have hnb56 := NB671_657.out; have hnc56 := NB657_671.out; have hcz57_0 : w55.cell? ⟨gb671, 0, none⟩ = some (.int .i64 x672000_11) := (blk_cell BK671.out 0).trans rfl; have hcz57_1 : w55.cell? ⟨gb671, 1, none⟩ = some (.int .i64 x672001_11) := (blk_cell BK671.out 1).trans rfl; have hcz57_2 : w55.cell? ⟨gb671, 2, none⟩ = some (.string x672002_11) := (blk_cell BK671.out 2).trans rfl; have hcz57_3 : w55.cell? ⟨gb671, 3, none⟩ = some (.int .i64 x672003_11) := (blk_cell BK671.out 3).trans rfl; have hfz57_0 := blk_frozen BK671.out 0; have hfz57_1 := blk_frozen BK671.out 1; have hfz57_2 := blk_frozen BK671.out 2; have hfz57_3 := blk_frozen BK671.out 3) | ((with_reducible refine gate_builtin (b := .append) (xs := #[.tmp 54, .tmp 56]) rfl ?_); at_builtin; refine Kd.R_append k56 (w0 := w) w.heap.size rfl (.tmp 54) (.tmp 56) 48 56 (.agg #[(.int .i64 0), (.int .i64 0), (.string ⟨#[]⟩), (.int .i64 0)]) 40 rfl Try.underlying48 info56 rfl (by decide) (by omega) u4 x4_11 (⟨x672000_11, (⟨x672001_11, x672002_11⟩ : S45), x672003_11⟩ : S56) [.int .i64 x672000_11, .int .i64 x672001_11, .string x672002_11, .int .i64 x672003_11] (fun k_ => k_ ≠ gb671) (fun _ => False) rfl rfl ?aP (fun _ hk => hk.elim) ?aF ?aO ?aB ?aS ?aL ?_; (case aP => exact k56_mkM _ _ _ (⟨x672000_11, (⟨x672001_11, x672002_11⟩ : S45), x672003_11⟩ : S56)); (case aB => exact (by repeat (first | (with_reducible first | exact HB.out | apply below_alloc | apply pw_below_drewN | apply below_drew1 | refine below_set ?_ (IsS88.ge HI657.out) | refine below_set ?_ GE671.out) | exact HB.out))); (case aF => exact (fun k_ hk => Kd.freshB (g := gb671) (o := .cells #[.int .i64 x672000_11, .int .i64 x672001_11, .string x672002_11, .int .i64 x672003_11] 56 (0, 0)) (zk BK671.out) k_ hk)); (case aO => exact (zr HO_4.out)); (case aS => exact (below_size (by repeat (first | (with_reducible first | exact HB.out | apply below_alloc | apply pw_below_drewN | apply below_drew1 | refine below_set ?_ (IsS88.ge HI657.out) | refine below_set ?_ GE671.out) | exact HB.out)))); (case aL => have := LMc54.out; omega); intro v698 w58 ho hb hg hat; rw [← Ny697.out] at ho; have n0_ := Aside0.mk (blk_grown (g := gb671) (o := .cells #[.int .i64 x672000_11, .int .i64 x672001_11, .string x672002_11, .int .i64 x672003_11] 56 (0, 0)) (zk BK671.out) hg (Kd.R_away HO_4.out (fun _ hk => hk))); have n1_ := Aside0.mk (IsS88.grown (IsS88.as_3 HI657.out (by repeat (first | (with_reducible first | exact HI657.out | apply IsS88.alloc | apply IsS88.drewN | apply IsS88.drew | apply IsS88.set_1 | apply IsS88.set_2 | refine IsS88.far ?_ NB657_671.out _) | exact HI657.out))) hg (IsS88.own_ne HI657.out HO_4.out (by decide))); have n2_ := Aside0.mk (hb); have n3_ := Aside0.mk (ho); clear BK671; clear HI657; clear HB; clear HO_4; have BK671 := n0_; have HI657 := n1_; have HB := n2_; have HO699 := n3_; clear n0_ n1_ n2_ n3_; clear ho hb hg hat))
          go_roundg kj11
          case measure => have := HK1.out; have := HJ11.out; omega
          case rel => exact ⟨(y697), (wrap64 (x5_1 - 1)), (t689), (t690), (by first | rfl | (simp; done) | (simp [*]; done)), H', ⟨by have := HK1.out; have := HJ11.out; omega⟩, ⟨by (with_reducible repeat (first | apply Kd.R_alloc | apply Kd.R_drewN | apply Kd.R_drew)); exact Kd.R_mono HO699.out (fun _ hk => trivial)⟩, ⟨by repeat (first | (with_reducible first | exact HI657.out | apply IsS88.alloc | apply IsS88.drewN | apply IsS88.drew | apply IsS88.set_1 | apply IsS88.set_2 | refine IsS88.far ?_ NB657_671.out _) | exact HI657.out)⟩, ⟨by repeat (first | (with_reducible first | exact HB.out | apply below_alloc | apply pw_below_drewN | apply below_drew1 | refine below_set ?_ (IsS88.ge HI657.out) | refine below_set ?_ GE671.out) | exact HB.out)⟩⟩
         ·rw [if_neg c54] at H
          cases H
     ·rw [if_neg c11] at H
      cases H
    ·rw [if_neg c10] at H
     cases H
   ·rw [if_neg c8] at H
    have c8b0 : decide (0 < x5_1) = false := decide_eq_false c8
    clear c8
    obtain rfl := Option.some.inj H
    go_wp2
    go_ret
    exact ⟨_, by first | rfl | (simp [errW_none, errW_some] <;> rfl) | (simp [*, errW_none, errW_some] <;> rfl), by (with_reducible repeat (first | apply Kd.R_alloc | apply Kd.R_drewN | apply Kd.R_drew)); exact HO_4.out, by repeat (first | (with_reducible first | exact HB.out | apply below_alloc | apply pw_below_drewN | apply below_drew1 | refine below_set ?_ (IsS88.ge HI657.out)) | exact HB.out)⟩

/-! ### spec_l04RecOK: function 31 -/
def spec_l04RecOK.f (a0_0 : Int) (a0_1 : ByteArray) : Option (Bool) := if a0_0 ≥ 1 then (if a0_0 ≤ 255 then (some (decide ((a0_1.size : Int) ≤ 2000))) else (some false)) else (some false)
set_option maxHeartbeats 8000000 in
set_option maxRecDepth 100000 in
theorem spec_l04RecOK.calls (a0_0 : Int) (a0_1 : ByteArray) (r : Bool) (w : World) (h : spec_l04RecOK.f a0_0 a0_1 = some r) :
  Calls Try.prog 31 #[.agg #[.int .i64 a0_0, .string a0_1]] w fun e w' => e = .returned (.bool r) ∧ Below w.heap.size w w' := by
 have hu45 := Try.underlying45
 have HB := Aside0.mk (Below.refl w.heap.size w)
 have H : (if a0_0 ≥ 1 then (if a0_0 ≤ 255 then (some (decide ((a0_1.size : Int) ≤ 2000))) else (some false)) else (some false)) = some r := h
 clear h
 by_cases c2 : a0_0 ≥ 1
 ·rw [if_pos c2] at H
  have c2b0 : decide (1 ≤ a0_0) = true := decide_eq_true c2
  clear c2
  by_cases c3 : a0_0 ≤ 255
  ·rw [if_pos c3] at H
   have c3b0 : decide (a0_0 ≤ 255) = true := decide_eq_true c3
   clear c3
   obtain rfl := Option.some.inj H
   go_enter Try.func31, Try.ntmps31
   go_wp2_with (first | ((with_reducible refine gate_dst (N := 1) rfl ?_); (try (refine gate_guard (by rfl) ?_; dsimp only)); refine box_event ?hg (N := 1) ?hd (cs := #[.int .i64 a0_0, .string a0_1]) (t := 45) ?hr ?_; (case hd => rfl); (case hg => rfl); (case hr => first | (go_simp; done) | (go_simp; rfl)); intro gb700 hg w4 hbox hb; have n0_ := Aside0.mk (below_step zb hb); have n1_ := Aside0.mk (hbox); have n2_ := Aside0.mk ((by rw [hg]; exact (below_size zb) : w.heap.size ≤ gb700)); have n3_ := Aside0.mk ((by rw [hg]; exact (below_size zb) : w.heap.size ≤ gb700)); clear HB; have HB := n0_; have BK700 := n1_; have GW700 := n2_; have GE700 := n3_; clear n0_ n1_ n2_ n3_; clear hb hbox hg; have hcz5_0 : w4.cell? ⟨gb700, 0, none⟩ = some (.int .i64 a0_0) := (blk_cell BK700.out 0).trans rfl; have hcz5_1 : w4.cell? ⟨gb700, 1, none⟩ = some (.string a0_1) := (blk_cell BK700.out 1).trans rfl; have hfz5_0 := blk_frozen BK700.out 0; have hfz5_1 := blk_frozen BK700.out 1))
   go_ret
   exact ⟨by first | rfl | (simp [errW_none, errW_some] <;> rfl) | (simp [*, errW_none, errW_some] <;> rfl), by repeat (first | (with_reducible first | exact HB.out | apply below_alloc | apply pw_below_drewN | apply below_drew1 | refine below_set ?_ GE700.out) | exact HB.out)⟩
  ·rw [if_neg c3] at H
   have c3b0 : decide (a0_0 ≤ 255) = false := decide_eq_false c3
   clear c3
   obtain rfl := Option.some.inj H
   go_enter Try.func31, Try.ntmps31
   go_wp2_with (first | ((with_reducible refine gate_dst (N := 1) rfl ?_); (try (refine gate_guard (by rfl) ?_; dsimp only)); refine box_event ?hg (N := 1) ?hd (cs := #[.int .i64 a0_0, .string a0_1]) (t := 45) ?hr ?_; (case hd => rfl); (case hg => rfl); (case hr => first | (go_simp; done) | (go_simp; rfl)); intro gb700 hg w6 hbox hb; have n0_ := Aside0.mk (below_step zb hb); have n1_ := Aside0.mk (hbox); have n2_ := Aside0.mk ((by rw [hg]; exact (below_size zb) : w.heap.size ≤ gb700)); have n3_ := Aside0.mk ((by rw [hg]; exact (below_size zb) : w.heap.size ≤ gb700)); clear HB; have HB := n0_; have BK700 := n1_; have GW700 := n2_; have GE700 := n3_; clear n0_ n1_ n2_ n3_; clear hb hbox hg; have hcz7_0 : w6.cell? ⟨gb700, 0, none⟩ = some (.int .i64 a0_0) := (blk_cell BK700.out 0).trans rfl; have hcz7_1 : w6.cell? ⟨gb700, 1, none⟩ = some (.string a0_1) := (blk_cell BK700.out 1).trans rfl; have hfz7_0 := blk_frozen BK700.out 0; have hfz7_1 := blk_frozen BK700.out 1))
   go_ret
   exact ⟨by first | rfl | (simp [errW_none, errW_some] <;> rfl) | (simp [*, errW_none, errW_some] <;> rfl), by repeat (first | (with_reducible first | exact HB.out | apply below_alloc | apply pw_below_drewN | apply below_drew1 | refine below_set ?_ GE700.out) | exact HB.out)⟩
 ·rw [if_neg c2] at H
  have c2b0 : decide (1 ≤ a0_0) = false := decide_eq_false c2
  clear c2
  obtain rfl := Option.some.inj H
  go_enter Try.func31, Try.ntmps31
  go_wp2_with (first | ((with_reducible refine gate_dst (N := 1) rfl ?_); (try (refine gate_guard (by rfl) ?_; dsimp only)); refine box_event ?hg (N := 1) ?hd (cs := #[.int .i64 a0_0, .string a0_1]) (t := 45) ?hr ?_; (case hd => rfl); (case hg => rfl); (case hr => first | (go_simp; done) | (go_simp; rfl)); intro gb700 hg w8 hbox hb; have n0_ := Aside0.mk (below_step zb hb); have n1_ := Aside0.mk (hbox); have n2_ := Aside0.mk ((by rw [hg]; exact (below_size zb) : w.heap.size ≤ gb700)); have n3_ := Aside0.mk ((by rw [hg]; exact (below_size zb) : w.heap.size ≤ gb700)); clear HB; have HB := n0_; have BK700 := n1_; have GW700 := n2_; have GE700 := n3_; clear n0_ n1_ n2_ n3_; clear hb hbox hg; have hcz9_0 : w8.cell? ⟨gb700, 0, none⟩ = some (.int .i64 a0_0) := (blk_cell BK700.out 0).trans rfl; have hcz9_1 : w8.cell? ⟨gb700, 1, none⟩ = some (.string a0_1) := (blk_cell BK700.out 1).trans rfl; have hfz9_0 := blk_frozen BK700.out 0; have hfz9_1 := blk_frozen BK700.out 1))
  go_ret
  exact ⟨by first | rfl | (simp [errW_none, errW_some] <;> rfl) | (simp [*, errW_none, errW_some] <;> rfl), by repeat (first | (with_reducible first | exact HB.out | apply below_alloc | apply pw_below_drewN | apply below_drew1 | refine below_set ?_ GE700.out) | exact HB.out)⟩

/-! ### spec_l01Bytes: function 48 -/
set_option maxRecDepth 100000 in
def spec_l01Bytes.l0 : Nat → Int → List Int → Int → Option (ByteArray)
 | 0, _, _, _ => none
 | k + 1, x0, x5, x6 => if x6 ≥ 0 then (if 0 ≤ x6 then (if x6 < (x5.length : Int) then (spec_l01Bytes.l0 k (wrap64 (Int.tdiv x0 256)) (x5.set (x6 : Int).toNat ((Int.tmod x0 256) % 256)) (wrap64 (x6 - 1))) else (none)) else (none)) else (some (strOfNums x5))
def spec_l01Bytes.f (k : Nat) (a0 : Int) (a1 : Int) : Option (ByteArray) := if 0 ≤ a1 then (if (a1 : Int).toNat ≤ 281474976710656 then (spec_l01Bytes.l0 k a0 (List.replicate (a1 : Int).toNat 0) (wrap64 (a1 - 1))) else (none)) else (none)
set_option maxHeartbeats 8000000 in
set_option maxRecDepth 100000 in
theorem spec_l01Bytes.calls (k : Nat) (a0 : Int) (a1 : Int) (r : ByteArray) (w : World) (h : spec_l01Bytes.f k a0 a1 = some r) :
  Calls Try.prog 48 #[.int .i64 a0, .int .i64 a1] w fun e w' => e = .returned (.string r) ∧ Below w.heap.size w w' := by
 have HB := Aside0.mk (Below.refl w.heap.size w)
 have H : (if 0 ≤ a1 then (if (a1 : Int).toNat ≤ 281474976710656 then (spec_l01Bytes.l0 k a0 (List.replicate (a1 : Int).toNat 0) (wrap64 (a1 - 1))) else (none)) else (none)) = some r := h
 clear h
 by_cases c3 : 0 ≤ a1
 ·rw [if_pos c3] at H
  have c3b0 := eq_true c3
  have c3b1 : decide (0 ≤ a1) = true := decide_eq_true c3
  clear c3
  by_cases c4 : (a1 : Int).toNat ≤ 281474976710656
  ·rw [if_pos c4] at H
   have c4b0 := eq_true c4
   have c4b1 : decide ((a1 : Int).toNat ≤ 281474976710656) = true := decide_eq_true c4
   clear c4
   obtain ⟨y701, hy701⟩ : ∃ y_ : List Int, y_ = (List.replicate (a1 : Int).toNat 0) := ⟨_, rfl⟩
   replace H : (spec_l01Bytes.l0 k a0 y701 (wrap64 (a1 - 1))) = some r := by first | (rw [hy701]; with_reducible exact H) | (have H2_ := (Option.bind_some _ _).symm.trans H; rw [hy701]; with_reducible exact H2_) | (have H2_ := (Option.bind_some _ _).symm.trans H; with_reducible exact H2_) | with_reducible exact H | (rw [hy701]; exact H) | exact H
   have Ny701 := Aside0.mk hy701
   clear hy701
   have H' := Aside0.mk H
   clear H
   go_enter Try.func48, Try.ntmps48
   go_wp2_with (first | ((with_reducible refine gate_dst (N := 8) rfl ?_); refine Kd.R_make (Kd.int .u8) _ 5 rfl (N := 8) rfl 37 _ _ rfl a1 rfl rfl Try.underlying37 (.int .u8 0) 1 info5 rfl (by decide) (by omega) 0 (ok := fun _ => True) (okp := fun _ => True) rfl (fun _ hk => hk) trivial (of_decide_eq_true (by first | (with_reducible assumption) | assumption)) (Nat.le_trans (Nat.mul_le_mul_right _ (of_decide_eq_true (by first | (with_reducible assumption) | assumption) : a1.toNat ≤ 281474976710656)) (by omega)) (Below.refl _ _) (Nat.le_refl _) ?_; intro v702 w5 ho6 hb hg_ hnew_; clear hg_ hnew_; (first | rw [← Ny701.out] at ho6 | (simp only [Int.reduceToNat] at ho6; rw [← Ny701.out] at ho6)); have n0_ := Aside0.mk (Kd.R_lower ho6 (below_size zb)); have n1_ := Aside0.mk (below_step zb hb); clear HB; have HO703 := n0_; have HB := n1_; clear n0_ n1_; clear hb ho6))
   go_loopg [0, 6] k (fun kq v0 v6 w' => ∃ (x0_1 : Int) (x5_1 : List Int) (x6_1 : Int), v0 = .int .i64 x0_1 ∧ v6 = .int .i64 x6_1 ∧ Aside0 (spec_l01Bytes.l0 kq x0_1 x5_1 x6_1 = some r) ∧ Aside0 (kq ≤ k) ∧ Aside0 (Kd.R (Kd.int .u8) 5 w' w.heap.size (fun _ => True) v702 x5_1) ∧ Aside0 (Below w.heap.size w w'))
   case atStart => exact ⟨(a0), (y701), (wrap64 (a1 - 1)), (by first | rfl | (simp; done) | (simp [*]; done)), (by first | rfl | (simp; done) | (simp [*]; done)), H', ⟨Nat.le_refl _⟩, ⟨zr HO703.out⟩, ⟨zb⟩⟩
   case round =>
    clear H'
    try clear c3
    try clear c3b0
    try clear c3b1
    try clear c4
    try clear c4b0
    try clear c4b1
    obtain ⟨x0_1, x5_1, x6_1, rfl, rfl, HA, HK1, HO_5, HB⟩ := hrel
    cases gk with
    | zero => exact absurd HA.out (by simp [spec_l01Bytes.l0])
    | succ k1 =>
     have H := HA.out
     clear HA
     simp only [spec_l01Bytes.l0] at H
     by_cases c7 : x6_1 ≥ 0
     ·rw [if_pos c7] at H
      have c7b0 : decide (0 ≤ x6_1) = true := decide_eq_true c7
      clear c7
      by_cases c8 : 0 ≤ x6_1
      ·rw [if_pos c8] at H
       have c8b0 : decide (0 ≤ x6_1) = true := decide_eq_true c8
       clear c8
       by_cases c9 : x6_1 < (x5_1.length : Int)
       ·rw [if_pos c9] at H
        have c9b0 : decide (x6_1 < (x5_1.length : Int)) = true := decide_eq_true c9
        clear c9
        obtain ⟨y704, hy704⟩ : ∃ y_ : List Int, y_ = (x5_1.set (x6_1 : Int).toNat ((Int.tmod x0_1 256) % 256)) := ⟨_, rfl⟩
        replace H : (spec_l01Bytes.l0 k1 (wrap64 (Int.tdiv x0_1 256)) y704 (wrap64 (x6_1 - 1))) = some r := by first | (rw [hy704]; with_reducible exact H) | (have H2_ := (Option.bind_some _ _).symm.trans H; rw [hy704]; with_reducible exact H2_) | (have H2_ := (Option.bind_some _ _).symm.trans H; with_reducible exact H2_) | with_reducible exact H | (rw [hy704]; exact H) | exact H
        have Ny704 := Aside0.mk hy704
        clear hy704
        have H' := Aside0.mk H
        clear H
        have p10 : 0 ≤ (x6_1 : Int) := of_decide_eq_true (by first | (with_reducible assumption) | assumption)
        have q10 : (x6_1 : Int) < ((x5_1.length : Int) : Int) := of_decide_eq_true (by first | (with_reducible assumption) | assumption)
        obtain ⟨go10, co10, eo10, gb10, gl10, cl10, HG10⟩ := Kd.R_form HO_5.out (by omega)
        (first | cases eo10 | (injection eo10 with ea_ en_ ec_; (first | subst ea_ | (injection ea_ with ea_; subst ea_)); subst ec_; clear en_))
        have GB10 := Aside0.mk gb10
        have GG10 := Aside0.mk HG10
        clear gb10 gl10 HG10
        obtain ⟨hx10_0, hf10_0⟩ := Kd.R_celln 0 HO_5.out (x6_1 : Int) p10 q10
        replace p10 := eq_true p10
        replace q10 := eq_true q10
        have HP11 := Kd.R_putg HO_5.out (x6_1 : Int) ((Int.tmod x0_1 256) % 256)
        go_wp2_with (first | ((with_reducible refine gate_store (t := 5) (p := 20) rfl ?_); refine store_event (t := 5) (p := 20) (v := ?vo_w12) (w1 := (wr.setCell ⟨go10, (x6_1 : Int).toNat, none⟩ (.int .u8 ((Int.tmod x0_1 256) % 256)))) ?hg ?ho ?hn ?hr ?_; (case ho => rfl); (case hg => rfl); (case hn => rfl); (case hr => first | (go_simp; done) | (go_simp; rfl)); intro w12 hw; have hg : wr.grownBy w12 (some go10) := (by rw [hw]; exact HP11.2); have hp_ : Kd.R (Kd.int .u8) 5 w12 w.heap.size (fun _ => True) (.slice (some ⟨go10, 0, none⟩) x5_1.length co10) y704 := (by rw [hw, Ny704.out]; exact HP11.1); clear HP11; have n0_ := Aside0.mk (hp_); have n1_ := Aside0.mk ((by rw [hw]; exact below_set (HB.out) GB10.out : Below w.heap.size w w12)); clear HO_5; clear HB; have HO_5 := n0_; have HB := n1_; clear n0_ n1_; clear hg hw hp_))
        go_roundg k1
        case measure => have := HK1.out; omega
        case rel => exact ⟨(wrap64 (Int.tdiv x0_1 256)), (y704), (wrap64 (x6_1 - 1)), (by first | rfl | (simp; done) | (simp [*]; done)), (by first | rfl | (simp; done) | (simp [*]; done)), H', ⟨by have := HK1.out; omega⟩, ⟨zr HO_5.out⟩, ⟨zb⟩⟩
       ·rw [if_neg c9] at H
        cases H
      ·rw [if_neg c8] at H
       cases H
     ·rw [if_neg c7] at H
      have c7b0 : decide (0 ≤ x6_1) = false := decide_eq_false c7
      clear c7
      obtain rfl := Option.some.inj H
      have hcv13 := own_string (P := Try.prog) Try.underlying37 Try.underlying5 Try.underlying9 (Kd.own_of_R HO_5.out)
      go_wp2
      go_ret
      exact ⟨by first | rfl | (simp [errW_none, errW_some] <;> rfl) | (simp [*, errW_none, errW_some] <;> rfl), zb⟩
  ·rw [if_neg c4] at H
   cases H
 ·rw [if_neg c3] at H
  cases H

/-! ### spec_Crc: function 49 -/
set_option maxRecDepth 100000 in
mutual
def spec_Crc.l0 : Nat → ByteArray → Int → Int → Option (Int)
 | 0, _, _, _ => none
 | k + 1, x0, x3, x4 => if x4 < (x0.size : Int) then (if 0 ≤ x4 then (spec_Crc.l1 k x0 x3 x4 (wrap64 (bt x0 x4)) 0) else (none)) else (some (Go.bits .xor .i64 x3 4294967295))
def spec_Crc.l1 : Nat → ByteArray → Int → Int → Int → Int → Option (Int)
 | 0, _, _, _, _, _ => none
 | k + 1, x0, x3, x4, x5, x6 => if x6 < 8 then (if (Go.bits .and .i64 (Go.bits .xor .i64 x3 x5) 1) = 1 then (spec_Crc.l1 k x0 (Go.bits .xor .i64 (x3 / 2) 3988292384) x4 (x5 / 2) (wrap64 (x6 + 1))) else (spec_Crc.l1 k x0 (x3 / 2) x4 (x5 / 2) (wrap64 (x6 + 1)))) else (spec_Crc.l0 k x0 x3 (wrap64 (x4 + 1)))
end
def spec_Crc.f (k : Nat) (a0 : ByteArray) : Option (Int) := spec_Crc.l0 k a0 4294967295 0
set_option maxHeartbeats 8000000 in
set_option maxRecDepth 100000 in
theorem spec_Crc.calls (k : Nat) (a0 : ByteArray) (r : Int) (w : World) (h : spec_Crc.f k a0 = some r) :
  Calls Try.prog 49 #[.string a0] w fun e w' => e = .returned (.int .i64 r) ∧ Drawn0 w w' := by
 have H : (spec_Crc.l0 k a0 4294967295 0) = some r := h
 clear h
 have H' := Aside0.mk H
 clear H
 go_enter Try.func49, Try.ntmps49
 go_wp2
 go_loopg [3, 4] k (fun kq v3 v4 w' => ∃ (x3_1 : Int) (x4_1 : Int), v3 = .int .i64 x3_1 ∧ v4 = .int .i64 x4_1 ∧ Aside0 (spec_Crc.l0 kq a0 x3_1 x4_1 = some r) ∧ Aside0 (kq ≤ k) ∧ Drawn0 w w')
 case atStart => exact ⟨(4294967295), (0), (by first | rfl | (simp; done) | (simp [*]; done)), (by first | rfl | (simp; done) | (simp [*]; done)), H', ⟨Nat.le_refl _⟩, by repeat (first | exact Drawn0.refl _ | apply Drawn0.step)⟩
 case round =>
  clear H'
  obtain ⟨x3_1, x4_1, rfl, rfl, HA, HK1, ⟨m1, rfl⟩⟩ := hrel
  cases gk with
  | zero => exact absurd HA.out (by simp [spec_Crc.l0])
  | succ k1 =>
   have H := HA.out
   clear HA
   simp only [spec_Crc.l0] at H
   by_cases c2 : x4_1 < (a0.size : Int)
   ·rw [if_pos c2] at H
    have c2b0 : decide (x4_1 < (a0.size : Int)) = true := decide_eq_true c2
    clear c2
    by_cases c3 : 0 ≤ x4_1
    ·rw [if_pos c3] at H
     have c3b0 : decide (0 ≤ x4_1) = true := decide_eq_true c3
     clear c3
     have H' := Aside0.mk H
     clear H
     have p4 : 0 ≤ (x4_1 : Int) := of_decide_eq_true (by first | (with_reducible assumption) | assumption)
     have q4 : x4_1 < (a0.size : Int) := of_decide_eq_true (by first | (with_reducible assumption) | assumption)
     have hx4 := bt_at a0 x4_1
     replace p4 := eq_true p4
     replace q4 := eq_true q4
     go_wp2
     go_loopg [3, 5, 6] k1 (fun kq v3 v5 v6 w' => ∃ (x3_2 : Int) (x5_2 : Int) (x6_2 : Int), v3 = .int .i64 x3_2 ∧ v5 = .int .i64 x5_2 ∧ v6 = .int .i64 x6_2 ∧ Aside0 (spec_Crc.l1 kq a0 x3_2 x4_1 x5_2 x6_2 = some r) ∧ Aside0 (kq ≤ k1) ∧ Drawn0 w w')
     case atStart => exact ⟨(x3_1), (wrap64 (bt a0 x4_1)), (0), (by first | rfl | (simp; done) | (simp [*]; done)), (by first | rfl | (simp; done) | (simp [*]; done)), (by first | rfl | (simp; done) | (simp [*]; done)), H', ⟨Nat.le_refl _⟩, by repeat (first | exact Drawn0.refl _ | apply Drawn0.step)⟩
     case round =>
      clear H'
      try clear c2
      try clear c2b0
      try clear c3
      try clear c3b0
      try clear p4
      try clear q4
      try clear hx4
      try clear p4
      try clear q4
      obtain ⟨x3_2, x5_2, x6_2, rfl, rfl, rfl, HA, HK2, ⟨m2, rfl⟩⟩ := hrel
      cases gk with
      | zero => exact absurd HA.out (by simp [spec_Crc.l1])
      | succ k2 =>
       have H := HA.out
       clear HA
       simp only [spec_Crc.l1] at H
       by_cases c5 : x6_2 < 8
       ·rw [if_pos c5] at H
        have c5b0 : decide (x6_2 < 8) = true := decide_eq_true c5
        clear c5
        by_cases c6 : (Go.bits .and .i64 (Go.bits .xor .i64 x3_2 x5_2) 1) = 1
        ·rw [if_pos c6] at H
         have c6b0 : ((Go.bits .and .i64 (Go.bits .xor .i64 x3_2 x5_2) 1) == 1) = true := beq_iff_eq.mpr c6
         have c6b1 : ((Go.bits .and .i64 (Go.bits .xor .i64 x3_2 x5_2) 1) != 1) = false := bne_eq_false_iff_eq.mpr c6
         clear c6
         have H' := Aside0.mk H
         clear H
         go_wp2
         go_roundg k2
         case measure => have := HK1.out; have := HK2.out; omega
         case rel => exact ⟨(Go.bits .xor .i64 (x3_2 / 2) 3988292384), (x5_2 / 2), (wrap64 (x6_2 + 1)), (by first | rfl | (simp; done) | (simp [*]; done)), (by first | rfl | (simp; done) | (simp [*]; done)), (by first | rfl | (simp; done) | (simp [*]; done)), H', ⟨by have := HK1.out; have := HK2.out; omega⟩, by repeat (first | exact Drawn0.refl _ | apply Drawn0.step)⟩
        ·rw [if_neg c6] at H
         have c6b0 : ((Go.bits .and .i64 (Go.bits .xor .i64 x3_2 x5_2) 1) == 1) = false := beq_eq_false_iff_ne.mpr c6
         have c6b1 : ((Go.bits .and .i64 (Go.bits .xor .i64 x3_2 x5_2) 1) != 1) = true := bne_iff_ne.mpr c6
         have H' := Aside0.mk H
         clear H
         go_wp2
         go_roundg k2
         case measure => have := HK1.out; have := HK2.out; omega
         case rel => exact ⟨(x3_2 / 2), (x5_2 / 2), (wrap64 (x6_2 + 1)), (by first | rfl | (simp; done) | (simp [*]; done)), (by first | rfl | (simp; done) | (simp [*]; done)), (by first | rfl | (simp; done) | (simp [*]; done)), H', ⟨by have := HK1.out; have := HK2.out; omega⟩, by repeat (first | exact Drawn0.refl _ | apply Drawn0.step)⟩
       ·rw [if_neg c5] at H
        have c5b0 : decide (x6_2 < 8) = false := decide_eq_false c5
        clear c5
        have H' := Aside0.mk H
        clear H
        go_wp2
        go_roundg k2
        case measure => have := HK1.out; have := HK2.out; omega
        case rel => exact ⟨(x3_2), (wrap64 (x4_1 + 1)), (by first | rfl | (simp; done) | (simp [*]; done)), (by first | rfl | (simp; done) | (simp [*]; done)), H', ⟨by have := HK1.out; have := HK2.out; omega⟩, by repeat (first | exact Drawn0.refl _ | apply Drawn0.step)⟩
    ·rw [if_neg c3] at H
     cases H
   ·rw [if_neg c2] at H
    have c2b0 : decide (x4_1 < (a0.size : Int)) = false := decide_eq_false c2
    clear c2
    obtain rfl := Option.some.inj H
    go_wp2
    go_ret
    exact ⟨by first | rfl | (simp; done) | (simp [*]; done), by repeat (first | exact Drawn0.refl _ | apply Drawn0.step)⟩

end Go.Proofs.Ytnicllekmkkhlaa.QFnDiskSafe
