/- The functions that the law reaches, each as a plain Lean function with the proof that the Go code comes to its answers: written by a program of this session. No condition. -/
import Derived.Test.YtnicllekmkkhlaaQFnDiskSafex0
import Derived.Test.YtnicllekmkkhlaaQFnDiskSafex4
import Derived.Test.YtnicllekmkkhlaaQFnDiskSafex5
namespace Go.Proofs.Ytnicllekmkkhlaa.QFnDiskSafe
open Go.RowKit Go.Proofs.YtnicllekmkkhlaaW.PrintWords Go.Proofs.YtnicllekmkkhlaaW.PrintLast Go.Proofs.YtnicllekmkkhlaaW.PrintMore
attribute [local go_sem] max2_int min2_int max_two min_two max_three min_three max_four min_four str_gtr str_leq str_geq pw_at_slice   -- for this text's walks alone
set_option linter.unusedVariables false
set_option linter.unusedSimpArgs false

/-! ### spec_LogScan: function 47 -/
set_option maxRecDepth 100000 in
mutual
def spec_LogScan.l0 : Nat → ByteArray → Int → List (S45) → Int → Option ((List (S45)) × Int)
 | 0, _, _, _, _ => none
 | k + 1, x0, x1, x6, x7 => (spec_l04Seq.f x1).bind fun t722 => (if t722 = true then ((spec_l04Seq.f (wrap64 (x1 + (x6.length : Int)))).bind fun t723 => (if t723 = true then (spec_LogScan.j1 k x0 x1 x6 x7 (decide ((x6.length : Int) < 300))) else (spec_LogScan.j1 k x0 x1 x6 x7 false))) else (spec_LogScan.j1 k x0 x1 x6 x7 false))
def spec_LogScan.j1 : Nat → ByteArray → Int → List (S45) → Int → Bool → Option ((List (S45)) × Int)
 | 0, _, _, _, _, _ => none
 | k + 1, x0, x1, x6, x7, x24 => if x24 = true then (if 0 ≤ x7 then (if x7 ≤ (x0.size : Int) then ((spec_l04Next.f k (x0.extract (x7 : Int).toNat x0.size) (wrap64 (x1 + (x6.length : Int)))).bind fun bt724 => (if bt724.2.2 = 0 then (some (x6, x7)) else (if x6.length < 5864062014805 then (spec_LogScan.l0 k x0 x1 (x6 ++ [(⟨bt724.1, bt724.2.1⟩ : S45)]) (wrap64 (x7 + bt724.2.2))) else (none)))) else (none)) else (none)) else (some (x6, x7))
end
def spec_LogScan.f (k : Nat) (a0 : ByteArray) (a1 : Int) : Option ((List (S45)) × Int) := spec_LogScan.l0 k a0 a1 (([] : List (S45))) 0
set_option maxHeartbeats 8000000 in
set_option maxRecDepth 100000 in
theorem spec_LogScan.calls (k : Nat) (a0 : ByteArray) (a1 : Int) (r1 : List (S45)) (r2 : Int) (w : World) (h : spec_LogScan.f k a0 a1 = some (r1, r2)) :
  Calls Try.prog 47 #[.string a0, .int .i64 a1] w fun e w' => ∃ v0_ : Value, e = .returned (.tuple #[v0_, .int .i64 r2]) ∧ Kd.R k45 45 w' w.heap.size (fun _ => True) v0_ r1 ∧ Below w.heap.size w w' := by
 have hu45 := Try.underlying45
 have HB := Aside0.mk (Below.refl w.heap.size w)
 have H : (spec_LogScan.l0 k a0 a1 (([] : List (S45))) 0) = some (r1, r2) := h
 clear h
 obtain ⟨y719, hy719⟩ : ∃ y_ : List (S45), y_ = (([] : List (S45))) := ⟨_, rfl⟩
 replace H : (spec_LogScan.l0 k a0 a1 y719 0) = some (r1, r2) := by first | (rw [hy719]; with_reducible exact H) | (have H2_ := (Option.bind_some _ _).symm.trans H; rw [hy719]; with_reducible exact H2_) | (have H2_ := (Option.bind_some _ _).symm.trans H; with_reducible exact H2_) | with_reducible exact H | (rw [hy719]; exact H) | exact H
 have Ny719 := Aside0.mk hy719
 clear hy719
 have H' := Aside0.mk H
 clear H
 go_enter Try.func47, Try.ntmps47
 go_wp2_with (first | ((with_reducible refine gate_dst (N := 10) rfl ?_); (try (refine gate_guard (by rfl) ?_; dsimp only)); refine Kd.R_lit k45 _ 45 ?hg (N := 10) ?hd (xs := ([] : List (S45))) (inner := []) (ok := fun _ => True) (okp := fun _ => True) ?hr ?hp (fun _ hk => hk) trivial (Below.refl _ _) (Nat.le_refl _) (by simp) ?_; (case hd => rfl); (case hg => rfl); (case hr => first | (go_simp; done) | (go_simp; rfl)); (case hp => exact (Reps.none _ _)); intro v720 w3 ho4 hb hg_ hnew_; clear hg_ hnew_; (first | rw [← Ny719.out] at ho4 | (simp only [Int.reduceToNat] at ho4; rw [← Ny719.out] at ho4)); have n0_ := Aside0.mk (Kd.R_lower ho4 (below_size zb)); have n1_ := Aside0.mk (below_step zb hb); clear HB; have HO721 := n0_; have HB := n1_; clear n0_ n1_; clear hb ho4))
 go_loopg [6, 7] k (fun kq v6 v7 w' => ∃ (x6_1 : List (S45)) (x7_1 : Int), v7 = .int .i64 x7_1 ∧ Aside0 (spec_LogScan.l0 kq a0 a1 x6_1 x7_1 = some (r1, r2)) ∧ Aside0 (kq ≤ k) ∧ Aside0 (Kd.R k45 45 w' w.heap.size (fun _ => True) v6 x6_1) ∧ Aside0 (Below w.heap.size w w'))
 case atStart => exact ⟨(y719), (0), (by first | rfl | (simp; done) | (simp [*]; done)), H', ⟨Nat.le_refl _⟩, ⟨zr HO721.out⟩, ⟨zb⟩⟩
 case round =>
  clear H'
  obtain ⟨x6_1, x7_1, rfl, HA, HK1, HO_6, HB⟩ := hrel
  cases gk with
  | zero => exact absurd HA.out (by simp [spec_LogScan.l0])
  | succ k1 =>
   have H := HA.out
   clear HA
   simp only [spec_LogScan.l0] at H
   have HC5 := Aside0.mk H
   clear H
   go_upto_region 3 with (fail)
   go_cut [24] (fun v24 wc => ∃ (kq : Nat) (x24_4 : Bool), v24 = .bool x24_4 ∧ Aside0 (spec_LogScan.j1 kq a0 a1 x6_1 x7_1 x24_4 = some (r1, r2)) ∧ Aside0 (kq ≤ k1) ∧ Aside0 (Kd.R k45 45 wc w.heap.size (fun _ => True) u6 x6_1) ∧ Aside0 (Below w.heap.size w wc))
   case first =>
    have H := HC5.out
    clear HC5
    replace H := Option.bind_eq_some_iff.mp H
    obtain ⟨t722, A60, H⟩ := H
    replace H : (if t722 = true then ((spec_l04Seq.f (wrap64 (a1 + (x6_1.length : Int)))).bind fun t723 => (if t723 = true then (spec_LogScan.j1 k1 a0 a1 x6_1 x7_1 (decide ((x6_1.length : Int) < 300))) else (spec_LogScan.j1 k1 a0 a1 x6_1 x7_1 false))) else (spec_LogScan.j1 k1 a0 a1 x6_1 x7_1 false)) = some (r1, r2) := H
    have A6 := Aside0.mk A60
    clear A60
    by_cases c7 : t722 = true
    ·subst c7
     have H1 : ((spec_l04Seq.f (wrap64 (a1 + (x6_1.length : Int)))).bind fun t723 => (if t723 = true then (spec_LogScan.j1 k1 a0 a1 x6_1 x7_1 (decide ((x6_1.length : Int) < 300))) else (spec_LogScan.j1 k1 a0 a1 x6_1 x7_1 false))) = some (r1, r2) := by rw [if_pos rfl] at H; exact H
     clear H
     have H := H1
     clear H1
     replace H := Option.bind_eq_some_iff.mp H
     obtain ⟨t723, A80, H⟩ := H
     replace H : (if t723 = true then (spec_LogScan.j1 k1 a0 a1 x6_1 x7_1 (decide ((x6_1.length : Int) < 300))) else (spec_LogScan.j1 k1 a0 a1 x6_1 x7_1 false)) = some (r1, r2) := H
     have A8 := Aside0.mk A80
     clear A80
     by_cases c9 : t723 = true
     ·subst c9
      have H1 : (spec_LogScan.j1 k1 a0 a1 x6_1 x7_1 (decide ((x6_1.length : Int) < 300))) = some (r1, r2) := by rw [if_pos rfl] at H; exact H
      clear H
      have H := H1
      clear H1
      have H' := Aside0.mk H
      clear H
      go_wp2_with (first | ((with_reducible refine gate_callee (f := 30) rfl ?_); refine goesL_ (some 12) rfl rfl Try.func30 (by kernel_rfl) rfl #[.int .i64 a1] rfl zm ?_; (with_reducible refine (spec_l04Seq.calls a1 true _ A6.out).mono ?_); rintro e w' ⟨rfl, ⟨nd, rfl⟩⟩; refine ⟨_, rfl, ?_⟩; obtain ⟨Ao10, co10, eo10⟩ := Kd.R_slice HO_6.out; subst eo10) | (go_at_call 30; (with_reducible refine (spec_l04Seq.calls (wrap64 (a1 + (x6_1.length : Int))) true _ A8.out).mono ?_); rintro e w' ⟨rfl, ⟨nd, rfl⟩⟩))
      go_meet
      case rel => exact ⟨_, (decide ((x6_1.length : Int) < 300)), (by first | rfl | (simp; done) | (simp [*]; done)), H', ⟨by have := HK1.out; first | omega | exact Nat.le_refl _⟩, ⟨zr HO_6.out⟩, ⟨zb⟩⟩
     ·replace c9 := Bool.eq_false_iff.mpr c9
      subst c9
      have H1 : (spec_LogScan.j1 k1 a0 a1 x6_1 x7_1 false) = some (r1, r2) := by rw [if_neg (show ¬ (false = true) by decide)] at H; exact H
      clear H
      have H := H1
      clear H1
      have H' := Aside0.mk H
      clear H
      go_wp2_with (first | ((with_reducible refine gate_callee (f := 30) rfl ?_); refine goesL_ (some 12) rfl rfl Try.func30 (by kernel_rfl) rfl #[.int .i64 a1] rfl zm ?_; (with_reducible refine (spec_l04Seq.calls a1 true _ A6.out).mono ?_); rintro e w' ⟨rfl, ⟨nd, rfl⟩⟩; refine ⟨_, rfl, ?_⟩; obtain ⟨Ao11, co11, eo11⟩ := Kd.R_slice HO_6.out; subst eo11) | (go_at_call 30; (with_reducible refine (spec_l04Seq.calls (wrap64 (a1 + (x6_1.length : Int))) false _ A8.out).mono ?_); rintro e w' ⟨rfl, ⟨nd, rfl⟩⟩))
      go_meet
      case rel => exact ⟨_, (false), (by first | rfl | (simp; done) | (simp [*]; done)), H', ⟨by have := HK1.out; first | omega | exact Nat.le_refl _⟩, ⟨zr HO_6.out⟩, ⟨zb⟩⟩
    ·replace c7 := Bool.eq_false_iff.mpr c7
     subst c7
     have H1 : (spec_LogScan.j1 k1 a0 a1 x6_1 x7_1 false) = some (r1, r2) := by rw [if_neg (show ¬ (false = true) by decide)] at H; exact H
     clear H
     have H := H1
     clear H1
     have H' := Aside0.mk H
     clear H
     go_wp2_with (first | ((with_reducible refine gate_callee (f := 30) rfl ?_); refine goesL_ (some 12) rfl rfl Try.func30 (by kernel_rfl) rfl #[.int .i64 a1] rfl zm ?_; (with_reducible refine (spec_l04Seq.calls a1 false _ A6.out).mono ?_); rintro e w' ⟨rfl, ⟨nd, rfl⟩⟩; refine ⟨_, rfl, ?_⟩))
     go_meet
     case rel => exact ⟨_, (false), (by first | rfl | (simp; done) | (simp [*]; done)), H', ⟨by have := HK1.out; first | omega | exact Nat.le_refl _⟩, ⟨zr HO_6.out⟩, ⟨zb⟩⟩
   case rest =>
    clear HC5
    obtain ⟨kq, x24_4, rfl, HA, HJ4, HO_6, HB⟩ := hcut
    cases kq with
    | zero => exact absurd HA.out (by simp [spec_LogScan.j1])
    | succ kj4 =>
     have H := HA.out
     clear HA
     simp only [spec_LogScan.j1] at H
     by_cases c12 : x24_4 = true
     ·subst c12
      have H1 : (if 0 ≤ x7_1 then (if x7_1 ≤ (a0.size : Int) then ((spec_l04Next.f kj4 (a0.extract (x7_1 : Int).toNat a0.size) (wrap64 (a1 + (x6_1.length : Int)))).bind fun bt724 => (if bt724.2.2 = 0 then (some (x6_1, x7_1)) else (if x6_1.length < 5864062014805 then (spec_LogScan.l0 kj4 a0 a1 (x6_1 ++ [(⟨bt724.1, bt724.2.1⟩ : S45)]) (wrap64 (x7_1 + bt724.2.2))) else (none)))) else (none)) else (none)) = some (r1, r2) := by rw [if_pos rfl] at H; exact H
      clear H
      have H := H1
      clear H1
      by_cases c13 : 0 ≤ x7_1
      ·rw [if_pos c13] at H
       have c13b0 := eq_true c13
       have c13b1 : decide (0 ≤ x7_1) = true := decide_eq_true c13
       clear c13
       by_cases c14 : x7_1 ≤ (a0.size : Int)
       ·rw [if_pos c14] at H
        have c14b0 := eq_true c14
        have c14b1 : decide (x7_1 ≤ (a0.size : Int)) = true := decide_eq_true c14
        clear c14
        replace H := Option.bind_eq_some_iff.mp H
        obtain ⟨⟨t724, t725, t726⟩, A150, H⟩ := H
        replace H : (if t726 = 0 then (some (x6_1, x7_1)) else (if x6_1.length < 5864062014805 then (spec_LogScan.l0 kj4 a0 a1 (x6_1 ++ [(⟨t724, t725⟩ : S45)]) (wrap64 (x7_1 + t726))) else (none))) = some (r1, r2) := H
        have A15 := Aside0.mk A150
        clear A150
        by_cases c16 : t726 = 0
        ·rw [if_pos c16] at H
         have c16b0 : (t726 == 0) = true := beq_iff_eq.mpr c16
         have c16b1 : (t726 != 0) = false := bne_eq_false_iff_eq.mpr c16
         clear c16
         simp only [Option.some.injEq, Prod.mk.injEq] at H
         obtain ⟨rfl, rfl⟩ := H
         obtain ⟨Ao17, co17, eo17⟩ := Kd.R_slice HO_6.out
         subst eo17
         go_wp2_with (first | ((with_reducible refine gate_callee (f := 54) rfl ?_); refine goesL_ (some 33) rfl rfl Try.func54 (by kernel_rfl) rfl #[.string (a0.extract (x7_1 : Int).toNat a0.size), .int .i64 (wrap64 (a1 + (x6_1.length : Int)))] rfl zm ?_; (with_reducible refine (spec_l04Next.calls kj4 (a0.extract (x7_1 : Int).toNat a0.size) (wrap64 (a1 + (x6_1.length : Int))) t724 t725 t726 _ A15.out).mono ?_); rintro e w18 ⟨rfl, hb⟩; refine ⟨_, rfl, ?_⟩; have n0_ := Aside0.mk (Kd.R_below (zr HO_6.out) hb); have n1_ := Aside0.mk (below_step zb hb); clear HO_6; clear HB; have HO_6 := n0_; have HB := n1_; clear n0_ n1_; (try clear hb); (try clear hb2); (try clear hk); (try clear hi)) | ((with_reducible refine gate_dst (N := 8) rfl ?_); (try (refine gate_guard (by rfl) ?_; dsimp only)); refine boxst_event ?hg (N := 8) ?hd ?hg2 ?hn2 ?ho2 (cs := #[.int .i64 t724, .string t725]) (zs := #[.int .i64 0, .string (⟨#[]⟩ : ByteArray)]) (t := 45) ?hr ?hr2 ?_; (case hd => rfl); (case hg => rfl); (case hg2 => rfl); (case hn2 => rfl); (case ho2 => exact ⟨_, rfl⟩); (case hr => first | (go_simp; done) | (go_simp; rfl)); (case hr2 => first | (go_simp; done) | (go_simp; rfl)); intro gb727 hg w19 hbox hb; have n0_ := Aside0.mk (Kd.R_below (Kd.R_elderB (zr HO_6.out) gb727 (Nat.le_of_eq hg.symm)) hb); have n1_ := Aside0.mk (below_step zb hb); have n2_ := Aside0.mk (hbox); have n3_ := Aside0.mk ((by rw [hg]; exact (below_size zb) : w.heap.size ≤ gb727)); have n4_ := Aside0.mk ((by rw [hg]; exact (below_size zb) : w.heap.size ≤ gb727)); clear HO_6; clear HB; have HO_6 := n0_; have HB := n1_; have BK727 := n2_; have GW727 := n3_; have GE727 := n4_; clear n0_ n1_ n2_ n3_ n4_; clear hb hbox hg))
         go_ret2
         exact ⟨_, by first | rfl | (simp [errW_none, errW_some] <;> rfl) | (simp [*, errW_none, errW_some] <;> rfl), by (with_reducible repeat (first | apply Kd.R_alloc | apply Kd.R_drewN | apply Kd.R_drew)); exact Kd.R_mono HO_6.out (fun _ hk => trivial), by repeat (first | (with_reducible first | exact HB.out | apply below_alloc | apply pw_below_drewN | apply below_drew1 | refine below_set ?_ GE727.out) | exact HB.out)⟩
        ·rw [if_neg c16] at H
         have c16b0 : (t726 == 0) = false := beq_eq_false_iff_ne.mpr c16
         have c16b1 : (t726 != 0) = true := bne_iff_ne.mpr c16
         by_cases c20 : x6_1.length < 5864062014805
         ·rw [if_pos c20] at H
          have LMc20 := Aside0.mk c20
          clear c20
          obtain ⟨y728, hy728⟩ : ∃ y_ : List (S45), y_ = (x6_1 ++ [(⟨t724, t725⟩ : S45)]) := ⟨_, rfl⟩
          replace H : (spec_LogScan.l0 kj4 a0 a1 y728 (wrap64 (x7_1 + t726))) = some (r1, r2) := by first | (rw [hy728]; with_reducible exact H) | (have H2_ := (Option.bind_some _ _).symm.trans H; rw [hy728]; with_reducible exact H2_) | (have H2_ := (Option.bind_some _ _).symm.trans H; with_reducible exact H2_) | with_reducible exact H | (rw [hy728]; exact H) | exact H
          have Ny728 := Aside0.mk hy728
          clear hy728
          have H' := Aside0.mk H
          clear H
          obtain ⟨Ao21, co21, eo21⟩ := Kd.R_slice HO_6.out
          subst eo21
          go_wp2_with (first | ((with_reducible refine gate_callee (f := 54) rfl ?_); refine goesL_ (some 33) rfl rfl Try.func54 (by kernel_rfl) rfl #[.string (a0.extract (x7_1 : Int).toNat a0.size), .int .i64 (wrap64 (a1 + (x6_1.length : Int)))] rfl zm ?_; (with_reducible refine (spec_l04Next.calls kj4 (a0.extract (x7_1 : Int).toNat a0.size) (wrap64 (a1 + (x6_1.length : Int))) t724 t725 t726 _ A15.out).mono ?_); rintro e w22 ⟨rfl, hb⟩; refine ⟨_, rfl, ?_⟩; have n0_ := Aside0.mk (Kd.R_below (zr HO_6.out) hb); have n1_ := Aside0.mk (below_step zb hb); clear HO_6; clear HB; have HO_6 := n0_; have HB := n1_; clear n0_ n1_; (try clear hb); (try clear hb2); (try clear hk); (try clear hi)) | ((with_reducible refine gate_dst (N := 8) rfl ?_); (try (refine gate_guard (by rfl) ?_; dsimp only)); refine boxst_event ?hg (N := 8) ?hd ?hg2 ?hn2 ?ho2 (cs := #[.int .i64 t724, .string t725]) (zs := #[.int .i64 0, .string (⟨#[]⟩ : ByteArray)]) (t := 45) ?hr ?hr2 ?_; (case hd => rfl); (case hg => rfl); (case hg2 => rfl); (case hn2 => rfl); (case ho2 => exact ⟨_, rfl⟩); (case hr => first | (go_simp; done) | (go_simp; rfl)); (case hr2 => first | (go_simp; done) | (go_simp; rfl)); intro gb727 hg w23 hbox hb; have n0_ := Aside0.mk (Kd.R_below (Kd.R_elderB (zr HO_6.out) gb727 (Nat.le_of_eq hg.symm)) hb); have n1_ := Aside0.mk (below_step zb hb); have n2_ := Aside0.mk (hbox); have n3_ := Aside0.mk ((by rw [hg]; exact (below_size zb) : w.heap.size ≤ gb727)); have n4_ := Aside0.mk ((by rw [hg]; exact (below_size zb) : w.heap.size ≤ gb727)); clear HO_6; clear HB; have HO_6 := n0_; have HB := n1_; have BK727 := n2_; have GW727 := n3_; have GE727 := n4_; clear n0_ n1_ n2_ n3_ n4_; clear hb hbox hg; have hcz24_0 : w23.cell? ⟨gb727, 0, none⟩ = some (.int .i64 t724) := (blk_cell BK727.out 0).trans rfl; have hcz24_1 : w23.cell? ⟨gb727, 1, none⟩ = some (.string t725) := (blk_cell BK727.out 1).trans rfl; have hfz24_0 := blk_frozen BK727.out 0; have hfz24_1 := blk_frozen BK727.out 1) | ((with_reducible refine gate_builtin (b := .append) (xs := #[.tmp 40, .tmp 42]) rfl ?_); (try (refine gate_guard (by rfl) ?_; dsimp only)); at_builtin; refine Kd.R_append k45 (w0 := w) w.heap.size rfl (.tmp 40) (.tmp 42) 33 45 (.agg #[(.int .i64 0), (.string ⟨#[]⟩)]) 24 rfl Try.underlying33 info45 rfl (by decide) (by omega) (.slice Ao21 x6_1.length co21) x6_1 (⟨t724, t725⟩ : S45) [.int .i64 t724, .string t725] (fun k_ => k_ ≠ gb727) (fun _ => False) rfl rfl ?aP (fun _ hk => hk.elim) ?aF ?aO ?aB ?aS ?aL ?_; (case aP => exact k45_mkM _ _ _ (⟨t724, t725⟩ : S45)); (case aB => exact (by repeat (first | (with_reducible first | exact HB.out | apply below_alloc | apply pw_below_drewN | apply below_drew1 | refine below_set ?_ GE727.out) | exact HB.out))); (case aF => exact (fun k_ hk => Kd.freshB (g := gb727) (o := .cells #[.int .i64 t724, .string t725] 45 (0, 0)) (zk BK727.out) k_ hk)); (case aO => exact (by (with_reducible repeat (first | apply Kd.R_alloc | apply Kd.R_drewN | apply Kd.R_drew)); exact Kd.R_mono HO_6.out (fun _ hk => hk.2))); (case aS => exact (below_size (by repeat (first | (with_reducible first | exact HB.out | apply below_alloc | apply pw_below_drewN | apply below_drew1 | refine below_set ?_ GE727.out) | exact HB.out)))); (case aL => have := LMc20.out; omega); intro v729 w25 ho hb hg hat; rw [← Ny728.out] at ho; have n0_ := Aside0.mk (blk_grown (g := gb727) (o := .cells #[.int .i64 t724, .string t725] 45 (0, 0)) (zk BK727.out) hg (Kd.R_away HO_6.out (fun _ hk => hk.2))); have n1_ := Aside0.mk (hb); have n2_ := Aside0.mk (ho); clear BK727; clear HB; clear HO_6; have BK727 := n0_; have HB := n1_; have HO730 := n2_; clear n0_ n1_ n2_; clear ho hb hg hat))
          go_roundg kj4
          case measure => have := HK1.out; have := HJ4.out; omega
          case rel => exact ⟨(y728), (wrap64 (x7_1 + t726)), (by first | rfl | (simp; done) | (simp [*]; done)), H', ⟨by have := HK1.out; have := HJ4.out; omega⟩, ⟨by (with_reducible repeat (first | apply Kd.R_alloc | apply Kd.R_drewN | apply Kd.R_drew)); exact Kd.R_mono HO730.out (fun _ hk => trivial)⟩, ⟨by repeat (first | (with_reducible first | exact HB.out | apply below_alloc | apply pw_below_drewN | apply below_drew1 | refine below_set ?_ GE727.out) | exact HB.out)⟩⟩
         ·rw [if_neg c20] at H
          cases H
       ·rw [if_neg c14] at H
        cases H
      ·rw [if_neg c13] at H
       cases H
     ·replace c12 := Bool.eq_false_iff.mpr c12
      subst c12
      have H1 : (some (x6_1, x7_1)) = some (r1, r2) := by rw [if_neg (show ¬ (false = true) by decide)] at H; exact H
      clear H
      have H := H1
      clear H1
      simp only [Option.some.injEq, Prod.mk.injEq] at H
      obtain ⟨rfl, rfl⟩ := H
      go_wp2
      go_ret2
      exact ⟨_, by first | rfl | (simp [errW_none, errW_some] <;> rfl) | (simp [*, errW_none, errW_some] <;> rfl), by (with_reducible repeat (first | apply Kd.R_alloc | apply Kd.R_drewN | apply Kd.R_drew)); exact HO_6.out, zb⟩

end Go.Proofs.Ytnicllekmkkhlaa.QFnDiskSafe
