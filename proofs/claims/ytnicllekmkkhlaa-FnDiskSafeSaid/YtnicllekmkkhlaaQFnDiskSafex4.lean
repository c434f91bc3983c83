/- The functions that the law reaches, each as a plain Lean function with the proof that the Go code comes to its answers: written by a program of this session. No condition. -/
import Derived.Test.YtnicllekmkkhlaaQFnDiskSafex0
import Derived.Test.YtnicllekmkkhlaaQFnDiskSafex3
namespace Go.Proofs.Ytnicllekmkkhlaa.QFnDiskSafe
open Go.RowKit Go.Proofs.YtnicllekmkkhlaaW.PrintWords Go.Proofs.YtnicllekmkkhlaaW.PrintLast Go.Proofs.YtnicllekmkkhlaaW.PrintMore
attribute [local go_sem] max2_int min2_int max_two min_two max_three min_three max_four min_four str_gtr str_leq str_geq pw_at_slice   -- for this text's walks alone
set_option linter.unusedVariables false
set_option linter.unusedSimpArgs false

/-! ### spec_l04Frame: function 32 -/
def spec_l04Frame.f (k : Nat) (a0 : Int) (a1_0 : Int) (a1_1 : ByteArray) : Option (ByteArray) := (spec_l01Bytes.f k a0 4).bind fun t706 => ((spec_l01Bytes.f k (a1_1.size : Int) 4).bind fun t707 => (if t706.size + t707.size ≤ 9223372036854775807 then ((some (([(a1_0) % 256] : List Int) : List Int)).bind fun y708 => (if (t706 ++ t707).size + (strOfNums y708).size ≤ 9223372036854775807 then (if ((t706 ++ t707) ++ (strOfNums y708)).size + a1_1.size ≤ 9223372036854775807 then ((spec_Crc.f k (((t706 ++ t707) ++ (strOfNums y708)) ++ a1_1)).bind fun t711 => ((spec_l01Bytes.f k t711 4).bind fun t712 => (if (((t706 ++ t707) ++ (strOfNums y708)) ++ a1_1).size + t712.size ≤ 9223372036854775807 then (some ((((t706 ++ t707) ++ (strOfNums y708)) ++ a1_1) ++ t712)) else (none)))) else (none)) else (none))) else (none)))
def spec_l04Frame.T1 : Bool × List (List Nat × List Nat) := (true, [([], []), ([0], [0]), ([], []), ([2], [2]), ([3], [3]), ([4, 1], [4]), ([1, 5], [1, 5]), ([], []), ([7], [7]), ([8], [8]), ([9], [9]), ([10], [10]), ([6, 11], [6, 11]), ([], []), ([13], [13]), ([12, 14], [12, 14]), ([15, 5, 0, 1, 2, 3, 4, 5, 6, 7, 8, 9, 10, 11, 12, 13, 14, 15], [15])])
def spec_l04Frame.B1 : List Nat := [0, 1, 0, 4, 12, 31, 63, 0, 128, 384, 896, 1920, 4095, 0, 8192, 32767, 65535]
theorem spec_l04Frame.tab1 : rtab .any (opsOf Try.f32 1) = spec_l04Frame.T1 := by kernel_rfl
theorem spec_l04Frame.bits1 : waitsOk spec_l04Frame.T1.2 spec_l04Frame.B1 = true := by kernel_rfl
set_option maxHeartbeats 8000000 in
set_option maxRecDepth 100000 in
theorem spec_l04Frame.calls (k : Nat) (a0 : Int) (a1_0 : Int) (a1_1 : ByteArray) (r : ByteArray) (w : World) (h : spec_l04Frame.f k a0 a1_0 a1_1 = some r) :
  Calls Try.prog 32 #[.int .i64 a0, .agg #[.int .i64 a1_0, .string a1_1]] w fun e w' => e = .returned (.string r) ∧ Below w.heap.size w w' := by
 have hu45 := Try.underlying45
 have HB := Aside0.mk (Below.refl w.heap.size w)
 have H : ((spec_l01Bytes.f k a0 4).bind fun t706 => ((spec_l01Bytes.f k (a1_1.size : Int) 4).bind fun t707 => (if t706.size + t707.size ≤ 9223372036854775807 then ((some (([(a1_0) % 256] : List Int) : List Int)).bind fun y708 => (if (t706 ++ t707).size + (strOfNums y708).size ≤ 9223372036854775807 then (if ((t706 ++ t707) ++ (strOfNums y708)).size + a1_1.size ≤ 9223372036854775807 then ((spec_Crc.f k (((t706 ++ t707) ++ (strOfNums y708)) ++ a1_1)).bind fun t711 => ((spec_l01Bytes.f k t711 4).bind fun t712 => (if (((t706 ++ t707) ++ (strOfNums y708)) ++ a1_1).size + t712.size ≤ 9223372036854775807 then (some ((((t706 ++ t707) ++ (strOfNums y708)) ++ a1_1) ++ t712)) else (none)))) else (none)) else (none))) else (none)))) = some r := h
 clear h
 replace H := Option.bind_eq_some_iff.mp H
 obtain ⟨t706, A30, H⟩ := H
 replace H : ((spec_l01Bytes.f k (a1_1.size : Int) 4).bind fun t707 => (if t706.size + t707.size ≤ 9223372036854775807 then ((some (([(a1_0) % 256] : List Int) : List Int)).bind fun y708 => (if (t706 ++ t707).size + (strOfNums y708).size ≤ 9223372036854775807 then (if ((t706 ++ t707) ++ (strOfNums y708)).size + a1_1.size ≤ 9223372036854775807 then ((spec_Crc.f k (((t706 ++ t707) ++ (strOfNums y708)) ++ a1_1)).bind fun t711 => ((spec_l01Bytes.f k t711 4).bind fun t712 => (if (((t706 ++ t707) ++ (strOfNums y708)) ++ a1_1).size + t712.size ≤ 9223372036854775807 then (some ((((t706 ++ t707) ++ (strOfNums y708)) ++ a1_1) ++ t712)) else (none)))) else (none)) else (none))) else (none))) = some r := H
 have A3 := Aside0.mk A30
 clear A30
 replace H := Option.bind_eq_some_iff.mp H
 obtain ⟨t707, A40, H⟩ := H
 replace H : (if t706.size + t707.size ≤ 9223372036854775807 then ((some (([(a1_0) % 256] : List Int) : List Int)).bind fun y708 => (if (t706 ++ t707).size + (strOfNums y708).size ≤ 9223372036854775807 then (if ((t706 ++ t707) ++ (strOfNums y708)).size + a1_1.size ≤ 9223372036854775807 then ((spec_Crc.f k (((t706 ++ t707) ++ (strOfNums y708)) ++ a1_1)).bind fun t711 => ((spec_l01Bytes.f k t711 4).bind fun t712 => (if (((t706 ++ t707) ++ (strOfNums y708)) ++ a1_1).size + t712.size ≤ 9223372036854775807 then (some ((((t706 ++ t707) ++ (strOfNums y708)) ++ a1_1) ++ t712)) else (none)))) else (none)) else (none))) else (none)) = some r := H
 have A4 := Aside0.mk A40
 clear A40
 by_cases c5 : t706.size + t707.size ≤ 9223372036854775807
 ·rw [if_pos c5] at H
  have c5b0 := eq_true c5
  have c5b1 : decide (t706.size + t707.size ≤ 9223372036854775807) = true := decide_eq_true c5
  try have c5b2 : (9223372036854775807 < t706.size + t707.size) = False := eq_false (Nat.not_lt.2 c5)
  try (have c5b3 := c5b2; simp only [ByteArray.size_append] at c5b3)
  obtain ⟨y708, hy708⟩ : ∃ y_ : List Int, y_ = (([(a1_0) % 256] : List Int)) := ⟨_, rfl⟩
  replace H : (if (t706 ++ t707).size + (strOfNums y708).size ≤ 9223372036854775807 then (if ((t706 ++ t707) ++ (strOfNums y708)).size + a1_1.size ≤ 9223372036854775807 then ((spec_Crc.f k (((t706 ++ t707) ++ (strOfNums y708)) ++ a1_1)).bind fun t711 => ((spec_l01Bytes.f k t711 4).bind fun t712 => (if (((t706 ++ t707) ++ (strOfNums y708)) ++ a1_1).size + t712.size ≤ 9223372036854775807 then (some ((((t706 ++ t707) ++ (strOfNums y708)) ++ a1_1) ++ t712)) else (none)))) else (none)) else (none)) = some r := by first | (rw [hy708]; with_reducible exact H) | (have H2_ := (Option.bind_some _ _).symm.trans H; rw [hy708]; with_reducible exact H2_) | (have H2_ := (Option.bind_some _ _).symm.trans H; with_reducible exact H2_) | with_reducible exact H | (rw [hy708]; exact H) | exact H
  have Ny708 := Aside0.mk hy708
  clear hy708
  by_cases c6 : (t706 ++ t707).size + (strOfNums y708).size ≤ 9223372036854775807
  ·rw [if_pos c6] at H
   have c6b0 := eq_true c6
   have c6b1 : decide ((t706 ++ t707).size + (strOfNums y708).size ≤ 9223372036854775807) = true := decide_eq_true c6
   try have c6b2 : (9223372036854775807 < (t706 ++ t707).size + (strOfNums y708).size) = False := eq_false (Nat.not_lt.2 c6)
   try (have c6b3 := c6b2; simp only [ByteArray.size_append] at c6b3)
   by_cases c7 : ((t706 ++ t707) ++ (strOfNums y708)).size + a1_1.size ≤ 9223372036854775807
   ·rw [if_pos c7] at H
    have c7b0 := eq_true c7
    have c7b1 : decide (((t706 ++ t707) ++ (strOfNums y708)).size + a1_1.size ≤ 9223372036854775807) = true := decide_eq_true c7
    try have c7b2 : (9223372036854775807 < ((t706 ++ t707) ++ (strOfNums y708)).size + a1_1.size) = False := eq_false (Nat.not_lt.2 c7)
    try (have c7b3 := c7b2; simp only [ByteArray.size_append] at c7b3)
    replace H := Option.bind_eq_some_iff.mp H
    obtain ⟨t711, A80, H⟩ := H
    replace H : ((spec_l01Bytes.f k t711 4).bind fun t712 => (if (((t706 ++ t707) ++ (strOfNums y708)) ++ a1_1).size + t712.size ≤ 9223372036854775807 then (some ((((t706 ++ t707) ++ (strOfNums y708)) ++ a1_1) ++ t712)) else (none))) = some r := H
    have A8 := Aside0.mk A80
    clear A80
    replace H := Option.bind_eq_some_iff.mp H
    obtain ⟨t712, A90, H⟩ := H
    replace H : (if (((t706 ++ t707) ++ (strOfNums y708)) ++ a1_1).size + t712.size ≤ 9223372036854775807 then (some ((((t706 ++ t707) ++ (strOfNums y708)) ++ a1_1) ++ t712)) else (none)) = some r := H
    have A9 := Aside0.mk A90
    clear A90
    by_cases c10 : (((t706 ++ t707) ++ (strOfNums y708)) ++ a1_1).size + t712.size ≤ 9223372036854775807
    ·rw [if_pos c10] at H
     have c10b0 := eq_true c10
     have c10b1 : decide ((((t706 ++ t707) ++ (strOfNums y708)) ++ a1_1).size + t712.size ≤ 9223372036854775807) = true := decide_eq_true c10
     try have c10b2 : (9223372036854775807 < (((t706 ++ t707) ++ (strOfNums y708)) ++ a1_1).size + t712.size) = False := eq_false (Nat.not_lt.2 c10)
     try (have c10b3 := c10b2; simp only [ByteArray.size_append] at c10b3)
     obtain rfl := Option.some.inj H
     go_enter Try.func32, Try.ntmps32
     try go_wp2_with (first | ((with_reducible refine gate_dst (N := 3) rfl ?_); refine box_event ?hg (N := 3) ?hd (cs := #[.int .i64 a1_0, .string a1_1]) (t := 45) ?hr ?_; (case hd => rfl); (case hg => rfl); (case hr => first | (go_simp; done) | (go_simp; rfl)); intro gb705 hg w11 hbox hb; have n0_ := Aside0.mk (below_step zb hb); have n1_ := Aside0.mk (hbox); have n2_ := Aside0.mk ((by rw [hg]; exact (below_size zb) : w.heap.size ≤ gb705)); have n3_ := Aside0.mk ((by rw [hg]; exact (below_size zb) : w.heap.size ≤ gb705)); clear HB; have HB := n0_; have BK705 := n1_; have GW705 := n2_; have GE705 := n3_; clear n0_ n1_ n2_ n3_; clear hb hbox hg))
     have n0_ := Aside0.mk (blk_drew BK705.out)
     have n1_ := Aside0.mk (below_drew1 HB.out)
     clear BK705
     clear HB
     have BK705 := n0_
     have HB := n1_
     clear n0_ n1_
     refine start_ (n := 17) (S := fun w' => w'.cell? ⟨gb705, 0, none⟩ = some (.int .i64 a1_0) ∧ w'.cell? ⟨gb705, 1, none⟩ = some (.string a1_1)) (ds := []) #[false, false, false, false, false, false, false, false, false, false, false, false, false, false, false, false, false] (by kernel_rfl) rfl rfl ⟨(blk_cell BK705.out 0).trans rfl, (blk_cell BK705.out 1).trans rfl⟩ (fun hHeld => ?_); refine with_tabW spec_l04Frame.tab1 spec_l04Frame.bits1 (fun HT_ HW_ => ?_)
     generalize w11.drew = w12 at BK705 HB hHeld ⊢
     refine zp 0 6 ?_
     refine zp 2 8 ?_
     refine zp 7 13 ?_
     refine zp 13 19 ?_
     refine zt 3 9 ?_ (hr := by rintro w' ⟨s0, s1⟩; go_simp; with_reducible rfl)
     refine zp 4 10 ?_
     refine zt 8 14 ?_ (hr := by rintro w' ⟨s0, s1⟩; go_simp; with_reducible rfl)
     refine zp 9 15 ?_
     refine zt 14 20 ?_ (hr := by rintro w' ⟨s0, s1⟩; go_simp; with_reducible rfl)
     refine join_ (σ := Value) 3 #[true, true, true, true, true, true, true, true, true, true, true, true, false, true, true, false, false] (fun s_ => [(7, .string t706), (11, .string t707), (16, s_), (17, .string (strOfNums y708)), (12, .string (t706 ++ t707))]) (fun s_ w' => (w'.cell? ⟨gb705, 0, none⟩ = some (.int .i64 a1_0) ∧ w'.cell? ⟨gb705, 1, none⟩ = some (.string a1_1)) ∧ (Kd.R (Kd.int .u8) 5 w' w.heap.size (fun _ => True) s_ y708) ∧ (w'.heap[gb705]? = some (.cells #[.int .i64 a1_0, .string a1_1] 45 (0, 0))) ∧ (Below w.heap.size w w')) ?_ ?_
     rotate_left
     ·intro hJ1_5_10_11
      refine join_ (σ := Value) 4 #[true, true, true, true, true, true, true, true, true, true, true, false, false, true, true, false, false] (fun s_ => [(7, .string t706), (11, .string t707), (16, s_), (12, .string (t706 ++ t707))]) (fun s_ w' => (w'.cell? ⟨gb705, 0, none⟩ = some (.int .i64 a1_0) ∧ w'.cell? ⟨gb705, 1, none⟩ = some (.string a1_1)) ∧ (Kd.R (Kd.int .u8) 5 w' w.heap.size (fun _ => True) s_ y708) ∧ (w'.heap[gb705]? = some (.cells #[.int .i64 a1_0, .string a1_1] 45 (0, 0))) ∧ (Below w.heap.size w w')) ?_ ?_
      rotate_left
      ·intro hJ1_5_10
       refine join_ (σ := Value) 5 #[true, true, true, true, true, false, false, true, true, true, true, true, false, true, true, false, false] (fun s_ => [(7, .string t706), (16, s_), (17, .string (strOfNums y708))]) (fun s_ w' => (w'.cell? ⟨gb705, 0, none⟩ = some (.int .i64 a1_0) ∧ w'.cell? ⟨gb705, 1, none⟩ = some (.string a1_1)) ∧ (Kd.R (Kd.int .u8) 5 w' w.heap.size (fun _ => True) s_ y708) ∧ (w'.heap[gb705]? = some (.cells #[.int .i64 a1_0, .string a1_1] 45 (0, 0))) ∧ (Below w.heap.size w w')) ?_ ?_
       rotate_left
       ·intro hJ1_10_11
        refine join_ (σ := Unit) 5 #[true, true, true, true, true, true, true, true, true, true, false, false, false, true, true, false, false] (fun s_ => [(7, .string t706), (11, .string t707), (12, .string (t706 ++ t707))]) (fun s_ w' => (w'.cell? ⟨gb705, 0, none⟩ = some (.int .i64 a1_0) ∧ w'.cell? ⟨gb705, 1, none⟩ = some (.string a1_1)) ∧ (w'.heap[gb705]? = some (.cells #[.int .i64 a1_0, .string a1_1] 45 (0, 0))) ∧ (Below w.heap.size w w')) ?_ ?_
        rotate_left
        ·intro hJ1_5
         refine join_ (σ := Value) 6 #[true, true, true, true, true, false, false, true, true, true, true, false, false, true, true, false, false] (fun s_ => [(7, .string t706), (16, s_)]) (fun s_ w' => (w'.cell? ⟨gb705, 0, none⟩ = some (.int .i64 a1_0) ∧ w'.cell? ⟨gb705, 1, none⟩ = some (.string a1_1)) ∧ (Kd.R (Kd.int .u8) 5 w' w.heap.size (fun _ => True) s_ y708) ∧ (w'.heap[gb705]? = some (.cells #[.int .i64 a1_0, .string a1_1] 45 (0, 0))) ∧ (Below w.heap.size w w')) ?_ ?_
         rotate_left
         ·intro hJ1_10
          refine join_ (σ := Value) 6 #[true, false, true, true, true, false, false, true, true, true, true, true, false, true, true, false, false] (fun s_ => [(16, s_), (17, .string (strOfNums y708))]) (fun s_ w' => (w'.cell? ⟨gb705, 0, none⟩ = some (.int .i64 a1_0) ∧ w'.cell? ⟨gb705, 1, none⟩ = some (.string a1_1)) ∧ (Kd.R (Kd.int .u8) 5 w' w.heap.size (fun _ => True) s_ y708) ∧ (w'.heap[gb705]? = some (.cells #[.int .i64 a1_0, .string a1_1] 45 (0, 0))) ∧ (Below w.heap.size w w')) ?_ ?_
          rotate_left
          ·intro hJ10_11
           refine join_ (σ := Unit) 7 #[true, true, true, true, true, false, false, true, true, true, false, false, false, true, true, false, false] (fun s_ => [(7, .string t706)]) (fun s_ w' => (w'.cell? ⟨gb705, 0, none⟩ = some (.int .i64 a1_0) ∧ w'.cell? ⟨gb705, 1, none⟩ = some (.string a1_1)) ∧ (w'.heap[gb705]? = some (.cells #[.int .i64 a1_0, .string a1_1] 45 (0, 0))) ∧ (Below w.heap.size w w')) ?_ ?_
           rotate_left
           ·intro hJ1
            refine join_ (σ := Value) 7 #[true, false, true, true, true, false, false, true, true, true, true, false, false, true, true, false, false] (fun s_ => [(16, s_)]) (fun s_ w' => (w'.cell? ⟨gb705, 0, none⟩ = some (.int .i64 a1_0) ∧ w'.cell? ⟨gb705, 1, none⟩ = some (.string a1_1)) ∧ (Kd.R (Kd.int .u8) 5 w' w.heap.size (fun _ => True) s_ y708) ∧ (w'.heap[gb705]? = some (.cells #[.int .i64 a1_0, .string a1_1] 45 (0, 0))) ∧ (Below w.heap.size w w')) ?_ ?_
            rotate_left
            ·intro hJ10
             refine two_ (i := 1) (j := 10) (Ni := some 7) (Nj := some 16) #[true, true, true, true, true, false, false, true, true, true, false, false, false, true, true, false, false] #[true, false, true, true, true, false, false, true, true, true, true, false, false, true, true, false, false] rfl rfl rfl rfl (two_of HT_.out (by kernel_rfl)) (by decide) (by decide) (fun K hK => ?_) (fun K hK => ?_)
             ·skip
              refine goes_ Try.func48 (by kernel_rfl) rfl #[.int .i64 a0, .int .i64 4] (by rfl) rfl rfl zm ?_
              with_reducible refine (spec_l01Bytes.calls k a0 4 t706 _ A3.out).mono ?_
              rintro e w13 ⟨rfl, hb⟩
              refine ⟨_, rfl, ?_⟩
              have n0_ := Aside0.mk (blk_below (zk BK705.out) hb)
              have n1_ := Aside0.mk (below_step (by repeat (first | (with_reducible first | exact HB.out | apply below_alloc | apply pw_below_drewN | apply below_drew1 | refine below_set ?_ GE705.out) | exact HB.out)) hb)
              clear BK705
              clear HB
              have BK705 := n0_
              have HB := n1_
              clear n0_ n1_
              (try clear hb)
              (try clear hb2)
              (try clear hk)
              (try clear hi)
              refine hK.out _ _ ⟨(blk_cell BK705.out 0).trans rfl, (blk_cell BK705.out 1).trans rfl⟩ (fun hHeld => ?_)
              clear hK K
              refine norm_ (a' := ?_) ?_ ?_
              rotate_left
              ·show Act.put _ (some 7) _ = _
               simp only [Act.put, List.setIfInBounds_toArray, List.set_cons_zero, List.set_cons_succ, i64_w, i32_w]
               rfl
              exact norm_ (by first | (simp only [putAll, Act.put, List.setIfInBounds_toArray, List.set_cons_zero, List.set_cons_succ]; done) | (simp only [putAll, Act.put, List.setIfInBounds_toArray, List.set_cons_zero, List.set_cons_succ]; rfl)) (hJ1 () _ ⟨hHeld, (zk BK705.out), (by repeat (first | (with_reducible first | exact HB.out | apply below_alloc | apply pw_below_drewN | apply below_drew1 | refine below_set ?_ GE705.out) | exact HB.out))⟩)
             ·skip
              refine Kd.R_lit_step (Kd.int .u8) _ 5 ?hg (N := 16) ?hd (xs := ([(a1_0) % 256] : List Int)) (inner := [.int .u8 ((a1_0) % 256)]) (ok := fun _ => True) (okp := fun _ => True) ?hr ?hp (fun _ hk => hk) trivial (Below.refl _ _) (Nat.le_refl _) (by simp) ?_; (case hd => rfl); (case hg => rfl); (case hr => first | (go_simp; done) | (go_simp; rfl)); (case hp => exact (Reps.one (show Kd.M (Kd.int .u8) _ _ _ ((a1_0) % 256) [.int .u8 ((a1_0) % 256)] from rfl) (Reps.none _ _)))
              intro v709 w13 ho14 hb hg_ hnew_
              clear hg_ hnew_
              (first | rw [← Ny708.out] at ho14 | (simp only [Int.reduceToNat] at ho14; rw [← Ny708.out] at ho14))
              have n0_ := Aside0.mk (Kd.R_lower ho14 (below_size (by repeat (first | (with_reducible first | exact HB.out | apply below_alloc | apply pw_below_drewN | apply below_drew1 | refine below_set ?_ GE705.out) | exact HB.out))))
              have n1_ := Aside0.mk (blk_below (zk BK705.out) hb)
              have n2_ := Aside0.mk (below_step (by repeat (first | (with_reducible first | exact HB.out | apply below_alloc | apply pw_below_drewN | apply below_drew1 | refine below_set ?_ GE705.out) | exact HB.out)) hb)
              clear BK705
              clear HB
              have HO710 := n0_
              have BK705 := n1_
              have HB := n2_
              clear n0_ n1_ n2_
              clear hb ho14
              refine hK.out _ _ ⟨(blk_cell BK705.out 0).trans rfl, (blk_cell BK705.out 1).trans rfl⟩ (fun hHeld => ?_)
              clear hK K
              refine norm_ (a' := ?_) ?_ ?_
              rotate_left
              ·show Act.put _ (some 16) _ = _
               simp only [Act.put, List.setIfInBounds_toArray, List.set_cons_zero, List.set_cons_succ, i64_w, i32_w]
               rfl
              exact norm_ (by first | (simp only [putAll, Act.put, List.setIfInBounds_toArray, List.set_cons_zero, List.set_cons_succ]; done) | (simp only [putAll, Act.put, List.setIfInBounds_toArray, List.set_cons_zero, List.set_cons_succ]; rfl)) (hJ10 (v709) _ ⟨hHeld, (zr HO710.out), (zk BK705.out), (by repeat (first | (with_reducible first | exact HB.out | apply below_alloc | apply pw_below_drewN | apply below_drew1 | refine below_set ?_ GE705.out) | exact HB.out))⟩)
            ·skip
             rintro v709 w15 ⟨hS_, h0_, h1_, h2_⟩
             have n0_ : Aside0 (Kd.R (Kd.int .u8) 5 w15 w.heap.size (fun _ => True) v709 y708) := ⟨h0_⟩
             have n1_ : Aside0 (w15.heap[gb705]? = some (.cells #[.int .i64 a1_0, .string a1_1] 45 (0, 0))) := ⟨h1_⟩
             have n2_ : Aside0 (Below w.heap.size w w15) := ⟨h2_⟩
             clear BK705
             clear HB
             clear h0_ h1_ h2_
             have HO710 := n0_
             have BK705 := n1_
             have HB := n2_
             clear n0_ n1_ n2_
             have hHeld : w15.cell? ⟨gb705, 0, none⟩ = some (.int .i64 a1_0) ∧ w15.cell? ⟨gb705, 1, none⟩ = some (.string a1_1) := hS_
             refine norm_ (a' := ?_) ?_ ?_
             rotate_left
             ·simp only [putAll, Act.put, List.setIfInBounds_toArray, List.set_cons_zero, List.set_cons_succ]
              rfl
             refine two_ (i := 1) (j := 11) (Ni := some 7) (Nj := some 17) #[true, true, true, true, true, false, false, true, true, true, true, false, false, true, true, false, false] #[true, false, true, true, true, false, false, true, true, true, true, true, false, true, true, false, false] rfl rfl rfl rfl (two_of HT_.out (by kernel_rfl)) (by decide) (by decide) (fun K hK => ?_) (fun K hK => ?_)
             ·skip
              refine goes_ Try.func48 (by kernel_rfl) rfl #[.int .i64 a0, .int .i64 4] (by rfl) rfl rfl zm ?_
              with_reducible refine (spec_l01Bytes.calls k a0 4 t706 _ A3.out).mono ?_
              rintro e w16 ⟨rfl, hb⟩
              refine ⟨_, rfl, ?_⟩
              have n0_ := Aside0.mk (Kd.R_below (zr HO710.out) hb)
              have n1_ := Aside0.mk (blk_below (zk BK705.out) hb)
              have n2_ := Aside0.mk (below_step (by repeat (first | (with_reducible first | exact HB.out | apply below_alloc | apply pw_below_drewN | apply below_drew1 | refine below_set ?_ GE705.out) | exact HB.out)) hb)
              clear HO710
              clear BK705
              clear HB
              have HO710 := n0_
              have BK705 := n1_
              have HB := n2_
              clear n0_ n1_ n2_
              (try clear hb)
              (try clear hb2)
              (try clear hk)
              (try clear hi)
              refine hK.out _ _ ⟨(blk_cell BK705.out 0).trans rfl, (blk_cell BK705.out 1).trans rfl⟩ (fun hHeld => ?_)
              clear hK K
              refine norm_ (a' := ?_) ?_ ?_
              rotate_left
              ·show Act.put _ (some 7) _ = _
               simp only [Act.put, List.setIfInBounds_toArray, List.set_cons_zero, List.set_cons_succ, i64_w, i32_w]
               rfl
              exact norm_ (by first | (simp only [putAll, Act.put, List.setIfInBounds_toArray, List.set_cons_zero, List.set_cons_succ]; done) | (simp only [putAll, Act.put, List.setIfInBounds_toArray, List.set_cons_zero, List.set_cons_succ]; rfl)) (hJ1_10 (v709) _ ⟨hHeld, (zr HO710.out), (zk BK705.out), (by repeat (first | (with_reducible first | exact HB.out | apply below_alloc | apply pw_below_drewN | apply below_drew1 | refine below_set ?_ GE705.out) | exact HB.out))⟩)
             ·skip
              have hcv16 := own_string (P := Try.prog) Try.underlying37 Try.underlying5 Try.underlying9 (Kd.own_of_R HO710.out)
              refine value_ (w1 := ?_) (v := ?_) (by rfl) rfl ?_ ?_
              rotate_left 2
              ·go_simp
               constructor
               ·rfl
               ·rfl
              clear hcv16
              refine hK.out _ _ ⟨(blk_cell BK705.out 0).trans rfl, (blk_cell BK705.out 1).trans rfl⟩ (fun hHeld => ?_)
              clear hK K
              refine norm_ (a' := ?_) ?_ ?_
              rotate_left
              ·show Act.put _ (some 17) _ = _
               simp only [Act.put, List.setIfInBounds_toArray, List.set_cons_zero, List.set_cons_succ, i64_w, i32_w]
               rfl
              exact norm_ (by first | (simp only [putAll, Act.put, List.setIfInBounds_toArray, List.set_cons_zero, List.set_cons_succ]; done) | (simp only [putAll, Act.put, List.setIfInBounds_toArray, List.set_cons_zero, List.set_cons_succ]; rfl)) (hJ10_11 (v709) _ ⟨hHeld, (zr HO710.out), (zk BK705.out), (by repeat (first | (with_reducible first | exact HB.out | apply below_alloc | apply pw_below_drewN | apply below_drew1 | refine below_set ?_ GE705.out) | exact HB.out))⟩)
           ·skip
            rintro _ w14 ⟨hS_, h0_, h1_⟩
            have n0_ : Aside0 (w14.heap[gb705]? = some (.cells #[.int .i64 a1_0, .string a1_1] 45 (0, 0))) := ⟨h0_⟩
            have n1_ : Aside0 (Below w.heap.size w w14) := ⟨h1_⟩
            clear BK705
            clear HB
            clear h0_ h1_
            have BK705 := n0_
            have HB := n1_
            clear n0_ n1_
            have hHeld : w14.cell? ⟨gb705, 0, none⟩ = some (.int .i64 a1_0) ∧ w14.cell? ⟨gb705, 1, none⟩ = some (.string a1_1) := hS_
            refine norm_ (a' := ?_) ?_ ?_
            rotate_left
            ·simp only [putAll, Act.put, List.setIfInBounds_toArray, List.set_cons_zero, List.set_cons_succ]
             rfl
            refine two_ (i := 5) (j := 10) (Ni := some 11) (Nj := some 16) #[true, true, true, true, true, true, false, true, true, true, false, false, false, true, true, false, false] #[true, true, true, true, true, false, false, true, true, true, true, false, false, true, true, false, false] rfl rfl rfl rfl (two_of HT_.out (by kernel_rfl)) (by decide) (by decide) (fun K hK => ?_) (fun K hK => ?_)
            ·skip
             refine goes_ Try.func48 (by kernel_rfl) rfl #[.int .i64 (a1_1.size : Int), .int .i64 4] (by rfl) rfl rfl zm ?_
             with_reducible refine (spec_l01Bytes.calls k (a1_1.size : Int) 4 t707 _ A4.out).mono ?_
             rintro e w15 ⟨rfl, hb⟩
             refine ⟨_, rfl, ?_⟩
             have n0_ := Aside0.mk (blk_below (zk BK705.out) hb)
             have n1_ := Aside0.mk (below_step (by repeat (first | (with_reducible first | exact HB.out | apply below_alloc | apply pw_below_drewN | apply below_drew1 | refine below_set ?_ GE705.out) | exact HB.out)) hb)
             clear BK705
             clear HB
             have BK705 := n0_
             have HB := n1_
             clear n0_ n1_
             (try clear hb)
             (try clear hb2)
             (try clear hk)
             (try clear hi)
             refine hK.out _ _ ⟨(blk_cell BK705.out 0).trans rfl, (blk_cell BK705.out 1).trans rfl⟩ (fun hHeld => ?_)
             clear hK K
             refine norm_ (a' := ?_) ?_ ?_
             rotate_left
             ·show Act.put _ (some 11) _ = _
              simp only [Act.put, List.setIfInBounds_toArray, List.set_cons_zero, List.set_cons_succ, i64_w, i32_w]
              rfl
             refine zp 6 12 ?_
             exact norm_ (by first | (simp only [putAll, Act.put, List.setIfInBounds_toArray, List.set_cons_zero, List.set_cons_succ]; done) | (simp only [putAll, Act.put, List.setIfInBounds_toArray, List.set_cons_zero, List.set_cons_succ]; rfl)) (hJ1_5 () _ ⟨hHeld, (zk BK705.out), (by repeat (first | (with_reducible first | exact HB.out | apply below_alloc | apply pw_below_drewN | apply below_drew1 | refine below_set ?_ GE705.out) | exact HB.out))⟩)
            ·skip
             refine Kd.R_lit_step (Kd.int .u8) _ 5 ?hg (N := 16) ?hd (xs := ([(a1_0) % 256] : List Int)) (inner := [.int .u8 ((a1_0) % 256)]) (ok := fun _ => True) (okp := fun _ => True) ?hr ?hp (fun _ hk => hk) trivial (Below.refl _ _) (Nat.le_refl _) (by simp) ?_; (case hd => rfl); (case hg => rfl); (case hr => first | (go_simp; done) | (go_simp; rfl)); (case hp => exact (Reps.one (show Kd.M (Kd.int .u8) _ _ _ ((a1_0) % 256) [.int .u8 ((a1_0) % 256)] from rfl) (Reps.none _ _)))
             intro v709 w15 ho16 hb hg_ hnew_
             clear hg_ hnew_
             (first | rw [← Ny708.out] at ho16 | (simp only [Int.reduceToNat] at ho16; rw [← Ny708.out] at ho16))
             have n0_ := Aside0.mk (Kd.R_lower ho16 (below_size (by repeat (first | (with_reducible first | exact HB.out | apply below_alloc | apply pw_below_drewN | apply below_drew1 | refine below_set ?_ GE705.out) | exact HB.out))))
             have n1_ := Aside0.mk (blk_below (zk BK705.out) hb)
             have n2_ := Aside0.mk (below_step (by repeat (first | (with_reducible first | exact HB.out | apply below_alloc | apply pw_below_drewN | apply below_drew1 | refine below_set ?_ GE705.out) | exact HB.out)) hb)
             clear BK705
             clear HB
             have HO710 := n0_
             have BK705 := n1_
             have HB := n2_
             clear n0_ n1_ n2_
             clear hb ho16
             refine hK.out _ _ ⟨(blk_cell BK705.out 0).trans rfl, (blk_cell BK705.out 1).trans rfl⟩ (fun hHeld => ?_)
             clear hK K
             refine norm_ (a' := ?_) ?_ ?_
             rotate_left
             ·show Act.put _ (some 16) _ = _
              simp only [Act.put, List.setIfInBounds_toArray, List.set_cons_zero, List.set_cons_succ, i64_w, i32_w]
              rfl
             exact norm_ (by first | (simp only [putAll, Act.put, List.setIfInBounds_toArray, List.set_cons_zero, List.set_cons_succ]; done) | (simp only [putAll, Act.put, List.setIfInBounds_toArray, List.set_cons_zero, List.set_cons_succ]; rfl)) (hJ1_10 (v709) _ ⟨hHeld, (zr HO710.out), (zk BK705.out), (by repeat (first | (with_reducible first | exact HB.out | apply below_alloc | apply pw_below_drewN | apply below_drew1 | refine below_set ?_ GE705.out) | exact HB.out))⟩)
          ·skip
           rintro v709 w16 ⟨hS_, h0_, h1_, h2_⟩
           have n0_ : Aside0 (Kd.R (Kd.int .u8) 5 w16 w.heap.size (fun _ => True) v709 y708) := ⟨h0_⟩
           have n1_ : Aside0 (w16.heap[gb705]? = some (.cells #[.int .i64 a1_0, .string a1_1] 45 (0, 0))) := ⟨h1_⟩
           have n2_ : Aside0 (Below w.heap.size w w16) := ⟨h2_⟩
           clear BK705
           clear HB
           clear h0_ h1_ h2_
           have HO710 := n0_
           have BK705 := n1_
           have HB := n2_
           clear n0_ n1_ n2_
           have hHeld : w16.cell? ⟨gb705, 0, none⟩ = some (.int .i64 a1_0) ∧ w16.cell? ⟨gb705, 1, none⟩ = some (.string a1_1) := hS_
           refine norm_ (a' := ?_) ?_ ?_
           rotate_left
           ·simp only [putAll, Act.put, List.setIfInBounds_toArray, List.set_cons_zero, List.set_cons_succ]
            rfl
           refine one_ (i := 1) (N := some 7) #[true, true, true, true, true, false, false, true, true, true, true, true, false, true, true, false, false] rfl rfl (one_of HT_.out (by kernel_rfl)) (by decide) (fun K hK => ?_)
           refine goes_ Try.func48 (by kernel_rfl) rfl #[.int .i64 a0, .int .i64 4] (by rfl) rfl rfl zm ?_
           with_reducible refine (spec_l01Bytes.calls k a0 4 t706 _ A3.out).mono ?_
           rintro e w17 ⟨rfl, hb⟩
           refine ⟨_, rfl, ?_⟩
           have n0_ := Aside0.mk (Kd.R_below (zr HO710.out) hb)
           have n1_ := Aside0.mk (blk_below (zk BK705.out) hb)
           have n2_ := Aside0.mk (below_step (by repeat (first | (with_reducible first | exact HB.out | apply below_alloc | apply pw_below_drewN | apply below_drew1 | refine below_set ?_ GE705.out) | exact HB.out)) hb)
           clear HO710
           clear BK705
           clear HB
           have HO710 := n0_
           have BK705 := n1_
           have HB := n2_
           clear n0_ n1_ n2_
           (try clear hb)
           (try clear hb2)
           (try clear hk)
           (try clear hi)
           refine hK.out _ _ ⟨(blk_cell BK705.out 0).trans rfl, (blk_cell BK705.out 1).trans rfl⟩ (fun hHeld => ?_)
           clear hK K
           refine norm_ (a' := ?_) ?_ ?_
           rotate_left
           ·show Act.put _ (some 7) _ = _
            simp only [Act.put, List.setIfInBounds_toArray, List.set_cons_zero, List.set_cons_succ, i64_w, i32_w]
            rfl
           exact norm_ (by first | (simp only [putAll, Act.put, List.setIfInBounds_toArray, List.set_cons_zero, List.set_cons_succ]; done) | (simp only [putAll, Act.put, List.setIfInBounds_toArray, List.set_cons_zero, List.set_cons_succ]; rfl)) (hJ1_10_11 (v709) _ ⟨hHeld, (zr HO710.out), (zk BK705.out), (by repeat (first | (with_reducible first | exact HB.out | apply below_alloc | apply pw_below_drewN | apply below_drew1 | refine below_set ?_ GE705.out) | exact HB.out))⟩)
         ·skip
          rintro v709 w16 ⟨hS_, h0_, h1_, h2_⟩
          have n0_ : Aside0 (Kd.R (Kd.int .u8) 5 w16 w.heap.size (fun _ => True) v709 y708) := ⟨h0_⟩
          have n1_ : Aside0 (w16.heap[gb705]? = some (.cells #[.int .i64 a1_0, .string a1_1] 45 (0, 0))) := ⟨h1_⟩
          have n2_ : Aside0 (Below w.heap.size w w16) := ⟨h2_⟩
          clear BK705
          clear HB
          clear h0_ h1_ h2_
          have HO710 := n0_
          have BK705 := n1_
          have HB := n2_
          clear n0_ n1_ n2_
          have hHeld : w16.cell? ⟨gb705, 0, none⟩ = some (.int .i64 a1_0) ∧ w16.cell? ⟨gb705, 1, none⟩ = some (.string a1_1) := hS_
          refine norm_ (a' := ?_) ?_ ?_
          rotate_left
          ·simp only [putAll, Act.put, List.setIfInBounds_toArray, List.set_cons_zero, List.set_cons_succ]
           rfl
          refine two_ (i := 5) (j := 11) (Ni := some 11) (Nj := some 17) #[true, true, true, true, true, true, false, true, true, true, true, false, false, true, true, false, false] #[true, true, true, true, true, false, false, true, true, true, true, true, false, true, true, false, false] rfl rfl rfl rfl (two_of HT_.out (by kernel_rfl)) (by decide) (by decide) (fun K hK => ?_) (fun K hK => ?_)
          ·skip
           refine goes_ Try.func48 (by kernel_rfl) rfl #[.int .i64 (a1_1.size : Int), .int .i64 4] (by rfl) rfl rfl zm ?_
           with_reducible refine (spec_l01Bytes.calls k (a1_1.size : Int) 4 t707 _ A4.out).mono ?_
           rintro e w17 ⟨rfl, hb⟩
           refine ⟨_, rfl, ?_⟩
           have n0_ := Aside0.mk (Kd.R_below (zr HO710.out) hb)
           have n1_ := Aside0.mk (blk_below (zk BK705.out) hb)
           have n2_ := Aside0.mk (below_step (by repeat (first | (with_reducible first | exact HB.out | apply below_alloc | apply pw_below_drewN | apply below_drew1 | refine below_set ?_ GE705.out) | exact HB.out)) hb)
           clear HO710
           clear BK705
           clear HB
           have HO710 := n0_
           have BK705 := n1_
           have HB := n2_
           clear n0_ n1_ n2_
           (try clear hb)
           (try clear hb2)
           (try clear hk)
           (try clear hi)
           refine hK.out _ _ ⟨(blk_cell BK705.out 0).trans rfl, (blk_cell BK705.out 1).trans rfl⟩ (fun hHeld => ?_)
           clear hK K
           refine norm_ (a' := ?_) ?_ ?_
           rotate_left
           ·show Act.put _ (some 11) _ = _
            simp only [Act.put, List.setIfInBounds_toArray, List.set_cons_zero, List.set_cons_succ, i64_w, i32_w]
            rfl
           refine zp 6 12 ?_
           exact norm_ (by first | (simp only [putAll, Act.put, List.setIfInBounds_toArray, List.set_cons_zero, List.set_cons_succ]; done) | (simp only [putAll, Act.put, List.setIfInBounds_toArray, List.set_cons_zero, List.set_cons_succ]; rfl)) (hJ1_5_10 (v709) _ ⟨hHeld, (zr HO710.out), (zk BK705.out), (by repeat (first | (with_reducible first | exact HB.out | apply below_alloc | apply pw_below_drewN | apply below_drew1 | refine below_set ?_ GE705.out) | exact HB.out))⟩)
          ·skip
           have hcv17 := own_string (P := Try.prog) Try.underlying37 Try.underlying5 Try.underlying9 (Kd.own_of_R HO710.out)
           refine value_ (w1 := ?_) (v := ?_) (by rfl) rfl ?_ ?_
           rotate_left 2
           ·go_simp
            constructor
            ·rfl
            ·rfl
           clear hcv17
           refine hK.out _ _ ⟨(blk_cell BK705.out 0).trans rfl, (blk_cell BK705.out 1).trans rfl⟩ (fun hHeld => ?_)
           clear hK K
           refine norm_ (a' := ?_) ?_ ?_
           rotate_left
           ·show Act.put _ (some 17) _ = _
            simp only [Act.put, List.setIfInBounds_toArray, List.set_cons_zero, List.set_cons_succ, i64_w, i32_w]
            rfl
           exact norm_ (by first | (simp only [putAll, Act.put, List.setIfInBounds_toArray, List.set_cons_zero, List.set_cons_succ]; done) | (simp only [putAll, Act.put, List.setIfInBounds_toArray, List.set_cons_zero, List.set_cons_succ]; rfl)) (hJ1_10_11 (v709) _ ⟨hHeld, (zr HO710.out), (zk BK705.out), (by repeat (first | (with_reducible first | exact HB.out | apply below_alloc | apply pw_below_drewN | apply below_drew1 | refine below_set ?_ GE705.out) | exact HB.out))⟩)
        ·skip
         rintro _ w15 ⟨hS_, h0_, h1_⟩
         have n0_ : Aside0 (w15.heap[gb705]? = some (.cells #[.int .i64 a1_0, .string a1_1] 45 (0, 0))) := ⟨h0_⟩
         have n1_ : Aside0 (Below w.heap.size w w15) := ⟨h1_⟩
         clear BK705
         clear HB
         clear h0_ h1_
         have BK705 := n0_
         have HB := n1_
         clear n0_ n1_
         have hHeld : w15.cell? ⟨gb705, 0, none⟩ = some (.int .i64 a1_0) ∧ w15.cell? ⟨gb705, 1, none⟩ = some (.string a1_1) := hS_
         refine norm_ (a' := ?_) ?_ ?_
         rotate_left
         ·simp only [putAll, Act.put, List.setIfInBounds_toArray, List.set_cons_zero, List.set_cons_succ]
          rfl
         refine one_ (i := 10) (N := some 16) #[true, true, true, true, true, true, true, true, true, true, true, false, false, true, true, false, false] rfl rfl (one_of HT_.out (by kernel_rfl)) (by decide) (fun K hK => ?_)
         refine Kd.R_lit_step (Kd.int .u8) _ 5 ?hg (N := 16) ?hd (xs := ([(a1_0) % 256] : List Int)) (inner := [.int .u8 ((a1_0) % 256)]) (ok := fun _ => True) (okp := fun _ => True) ?hr ?hp (fun _ hk => hk) trivial (Below.refl _ _) (Nat.le_refl _) (by simp) ?_; (case hd => rfl); (case hg => rfl); (case hr => first | (go_simp; done) | (go_simp; rfl)); (case hp => exact (Reps.one (show Kd.M (Kd.int .u8) _ _ _ ((a1_0) % 256) [.int .u8 ((a1_0) % 256)] from rfl) (Reps.none _ _)))
         intro v709 w16 ho17 hb hg_ hnew_
         clear hg_ hnew_
         (first | rw [← Ny708.out] at ho17 | (simp only [Int.reduceToNat] at ho17; rw [← Ny708.out] at ho17))
         have n0_ := Aside0.mk (Kd.R_lower ho17 (below_size (by repeat (first | (with_reducible first | exact HB.out | apply below_alloc | apply pw_below_drewN | apply below_drew1 | refine below_set ?_ GE705.out) | exact HB.out))))
         have n1_ := Aside0.mk (blk_below (zk BK705.out) hb)
         have n2_ := Aside0.mk (below_step (by repeat (first | (with_reducible first | exact HB.out | apply below_alloc | apply pw_below_drewN | apply below_drew1 | refine below_set ?_ GE705.out) | exact HB.out)) hb)
         clear BK705
         clear HB
         have HO710 := n0_
         have BK705 := n1_
         have HB := n2_
         clear n0_ n1_ n2_
         clear hb ho17
         refine hK.out _ _ ⟨(blk_cell BK705.out 0).trans rfl, (blk_cell BK705.out 1).trans rfl⟩ (fun hHeld => ?_)
         clear hK K
         refine norm_ (a' := ?_) ?_ ?_
         rotate_left
         ·show Act.put _ (some 16) _ = _
          simp only [Act.put, List.setIfInBounds_toArray, List.set_cons_zero, List.set_cons_succ, i64_w, i32_w]
          rfl
         exact norm_ (by first | (simp only [putAll, Act.put, List.setIfInBounds_toArray, List.set_cons_zero, List.set_cons_succ]; done) | (simp only [putAll, Act.put, List.setIfInBounds_toArray, List.set_cons_zero, List.set_cons_succ]; rfl)) (hJ1_5_10 (v709) _ ⟨hHeld, (zr HO710.out), (zk BK705.out), (by repeat (first | (with_reducible first | exact HB.out | apply below_alloc | apply pw_below_drewN | apply below_drew1 | refine below_set ?_ GE705.out) | exact HB.out))⟩)
       ·skip
        rintro v709 w17 ⟨hS_, h0_, h1_, h2_⟩
        have n0_ : Aside0 (Kd.R (Kd.int .u8) 5 w17 w.heap.size (fun _ => True) v709 y708) := ⟨h0_⟩
        have n1_ : Aside0 (w17.heap[gb705]? = some (.cells #[.int .i64 a1_0, .string a1_1] 45 (0, 0))) := ⟨h1_⟩
        have n2_ : Aside0 (Below w.heap.size w w17) := ⟨h2_⟩
        clear BK705
        clear HB
        clear h0_ h1_ h2_
        have HO710 := n0_
        have BK705 := n1_
        have HB := n2_
        clear n0_ n1_ n2_
        have hHeld : w17.cell? ⟨gb705, 0, none⟩ = some (.int .i64 a1_0) ∧ w17.cell? ⟨gb705, 1, none⟩ = some (.string a1_1) := hS_
        refine norm_ (a' := ?_) ?_ ?_
        rotate_left
        ·simp only [putAll, Act.put, List.setIfInBounds_toArray, List.set_cons_zero, List.set_cons_succ]
         rfl
        refine one_ (i := 5) (N := some 11) #[true, true, true, true, true, true, false, true, true, true, true, true, false, true, true, false, false] rfl rfl (one_of HT_.out (by kernel_rfl)) (by decide) (fun K hK => ?_)
        refine goes_ Try.func48 (by kernel_rfl) rfl #[.int .i64 (a1_1.size : Int), .int .i64 4] (by rfl) rfl rfl zm ?_
        with_reducible refine (spec_l01Bytes.calls k (a1_1.size : Int) 4 t707 _ A4.out).mono ?_
        rintro e w18 ⟨rfl, hb⟩
        refine ⟨_, rfl, ?_⟩
        have n0_ := Aside0.mk (Kd.R_below (zr HO710.out) hb)
        have n1_ := Aside0.mk (blk_below (zk BK705.out) hb)
        have n2_ := Aside0.mk (below_step (by repeat (first | (with_reducible first | exact HB.out | apply below_alloc | apply pw_below_drewN | apply below_drew1 | refine below_set ?_ GE705.out) | exact HB.out)) hb)
        clear HO710
        clear BK705
        clear HB
        have HO710 := n0_
        have BK705 := n1_
        have HB := n2_
        clear n0_ n1_ n2_
        (try clear hb)
        (try clear hb2)
        (try clear hk)
        (try clear hi)
        refine hK.out _ _ ⟨(blk_cell BK705.out 0).trans rfl, (blk_cell BK705.out 1).trans rfl⟩ (fun hHeld => ?_)
        clear hK K
        refine norm_ (a' := ?_) ?_ ?_
        rotate_left
        ·show Act.put _ (some 11) _ = _
         simp only [Act.put, List.setIfInBounds_toArray, List.set_cons_zero, List.set_cons_succ, i64_w, i32_w]
         rfl
        refine zp 6 12 ?_
        exact norm_ (by first | (simp only [putAll, Act.put, List.setIfInBounds_toArray, List.set_cons_zero, List.set_cons_succ]; done) | (simp only [putAll, Act.put, List.setIfInBounds_toArray, List.set_cons_zero, List.set_cons_succ]; rfl)) (hJ1_5_10_11 (v709) _ ⟨hHeld, (zr HO710.out), (zk BK705.out), (by repeat (first | (with_reducible first | exact HB.out | apply below_alloc | apply pw_below_drewN | apply below_drew1 | refine below_set ?_ GE705.out) | exact HB.out))⟩)
      ·skip
       rintro v709 w17 ⟨hS_, h0_, h1_, h2_⟩
       have n0_ : Aside0 (Kd.R (Kd.int .u8) 5 w17 w.heap.size (fun _ => True) v709 y708) := ⟨h0_⟩
       have n1_ : Aside0 (w17.heap[gb705]? = some (.cells #[.int .i64 a1_0, .string a1_1] 45 (0, 0))) := ⟨h1_⟩
       have n2_ : Aside0 (Below w.heap.size w w17) := ⟨h2_⟩
       clear BK705
       clear HB
       clear h0_ h1_ h2_
       have HO710 := n0_
       have BK705 := n1_
       have HB := n2_
       clear n0_ n1_ n2_
       have hHeld : w17.cell? ⟨gb705, 0, none⟩ = some (.int .i64 a1_0) ∧ w17.cell? ⟨gb705, 1, none⟩ = some (.string a1_1) := hS_
       refine norm_ (a' := ?_) ?_ ?_
       rotate_left
       ·simp only [putAll, Act.put, List.setIfInBounds_toArray, List.set_cons_zero, List.set_cons_succ]
        rfl
       refine one_ (i := 11) (N := some 17) #[true, true, true, true, true, true, true, true, true, true, true, true, false, true, true, false, false] rfl rfl (one_of HT_.out (by kernel_rfl)) (by decide) (fun K hK => ?_)
       have hcv18 := own_string (P := Try.prog) Try.underlying37 Try.underlying5 Try.underlying9 (Kd.own_of_R HO710.out)
       refine value_ (w1 := ?_) (v := ?_) (by rfl) rfl ?_ ?_
       rotate_left 2
       ·go_simp
        constructor
        ·rfl
        ·rfl
       clear hcv18
       refine hK.out _ _ ⟨(blk_cell BK705.out 0).trans rfl, (blk_cell BK705.out 1).trans rfl⟩ (fun hHeld => ?_)
       clear hK K
       refine norm_ (a' := ?_) ?_ ?_
       rotate_left
       ·show Act.put _ (some 17) _ = _
        simp only [Act.put, List.setIfInBounds_toArray, List.set_cons_zero, List.set_cons_succ, i64_w, i32_w]
        rfl
       exact norm_ (by first | (simp only [putAll, Act.put, List.setIfInBounds_toArray, List.set_cons_zero, List.set_cons_succ]; done) | (simp only [putAll, Act.put, List.setIfInBounds_toArray, List.set_cons_zero, List.set_cons_succ]; rfl)) (hJ1_5_10_11 (v709) _ ⟨hHeld, (zr HO710.out), (zk BK705.out), (by repeat (first | (with_reducible first | exact HB.out | apply below_alloc | apply pw_below_drewN | apply below_drew1 | refine below_set ?_ GE705.out) | exact HB.out))⟩)
     rintro v709 w18 ⟨hS_, h0_, h1_, h2_⟩
     have n0_ : Aside0 (Kd.R (Kd.int .u8) 5 w18 w.heap.size (fun _ => True) v709 y708) := ⟨h0_⟩
     have n1_ : Aside0 (w18.heap[gb705]? = some (.cells #[.int .i64 a1_0, .string a1_1] 45 (0, 0))) := ⟨h1_⟩
     have n2_ : Aside0 (Below w.heap.size w w18) := ⟨h2_⟩
     clear BK705
     clear HB
     clear h0_ h1_ h2_
     have HO710 := n0_
     have BK705 := n1_
     have HB := n2_
     clear n0_ n1_ n2_
     have hHeld : w18.cell? ⟨gb705, 0, none⟩ = some (.int .i64 a1_0) ∧ w18.cell? ⟨gb705, 1, none⟩ = some (.string a1_1) := hS_
     refine norm_ (a' := ?_) ?_ ?_
     rotate_left
     ·simp only [putAll, Act.put, List.setIfInBounds_toArray, List.set_cons_zero, List.set_cons_succ]
      rfl
     refine zp 12 18 ?_
     refine zp 15 21 ?_
     refine zp 16 5 ?_
     refine done_ (done_of HT_.out (by kernel_rfl)) ?_
     try go_wp2_with (first | ((with_reducible refine gate_callee (f := 49) rfl ?_); refine goesL_ (some 24) rfl rfl Try.func49 (by kernel_rfl) rfl #[.string (((t706 ++ t707) ++ (strOfNums y708)) ++ a1_1)] rfl zm ?_; (with_reducible refine (spec_Crc.calls k (((t706 ++ t707) ++ (strOfNums y708)) ++ a1_1) t711 _ A8.out).mono ?_); rintro e w' ⟨rfl, ⟨nd, rfl⟩⟩; refine ⟨_, rfl, ?_⟩) | ((with_reducible refine gate_callee (f := 48) rfl ?_); refine goesL_ (some 25) rfl rfl Try.func48 (by kernel_rfl) rfl #[.int .i64 t711, .int .i64 4] rfl zm ?_; (with_reducible refine (spec_l01Bytes.calls k t711 4 t712 _ A9.out).mono ?_); rintro e w19 ⟨rfl, hb⟩; refine ⟨_, rfl, ?_⟩; have n0_ := Aside0.mk (Kd.R_below (zr HO710.out) hb); have n1_ := Aside0.mk (blk_below (zk BK705.out) hb); have n2_ := Aside0.mk (below_step (by repeat (first | (with_reducible first | exact HB.out | apply below_alloc | apply pw_below_drewN | apply below_drew1 | refine below_set ?_ GE705.out) | exact HB.out)) hb); clear HO710; clear BK705; clear HB; have HO710 := n0_; have BK705 := n1_; have HB := n2_; clear n0_ n1_ n2_; (try clear hb); (try clear hb2); (try clear hk); (try clear hi)))
     go_ret
     exact ⟨by first | rfl | (simp [errW_none, errW_some] <;> rfl) | (simp [*, errW_none, errW_some] <;> rfl), by repeat (first | (with_reducible first | exact HB.out | apply below_alloc | apply pw_below_drewN | apply below_drew1 | refine below_set ?_ GE705.out) | exact HB.out)⟩
    ·rw [if_neg c10] at H
     cases H
   ·rw [if_neg c7] at H
    cases H
  ·rw [if_neg c6] at H
   cases H
 ·rw [if_neg c5] at H
  cases H

/-! ### spec_l04Seq: function 30 -/
def spec_l04Seq.f (a0 : Int) : Option (Bool) := if a0 ≥ 0 then (some (decide (a0 ≤ 1000000000))) else (some false)
set_option maxHeartbeats 8000000 in
set_option maxRecDepth 100000 in
theorem spec_l04Seq.calls (a0 : Int) (r : Bool) (w : World) (h : spec_l04Seq.f a0 = some r) :
  Calls Try.prog 30 #[.int .i64 a0] w fun e w' => e = .returned (.bool r) ∧ Drawn0 w w' := by
 have H : (if a0 ≥ 0 then (some (decide (a0 ≤ 1000000000))) else (some false)) = some r := h
 clear h
 by_cases c2 : a0 ≥ 0
 ·rw [if_pos c2] at H
  have c2b0 : decide (0 ≤ a0) = true := decide_eq_true c2
  clear c2
  obtain rfl := Option.some.inj H
  go_enter Try.func30, Try.ntmps30
  go_wp2
  go_ret
  exact ⟨by first | rfl | (simp; done) | (simp [*]; done), by repeat (first | exact Drawn0.refl _ | apply Drawn0.step)⟩
 ·rw [if_neg c2] at H
  have c2b0 : decide (0 ≤ a0) = false := decide_eq_false c2
  clear c2
  obtain rfl := Option.some.inj H
  go_enter Try.func30, Try.ntmps30
  go_wp2
  go_ret
  exact ⟨by first | rfl | (simp; done) | (simp [*]; done), by repeat (first | exact Drawn0.refl _ | apply Drawn0.step)⟩

/-! ### spec_l01Read: function 56 -/
set_option maxRecDepth 100000 in
def spec_l01Read.l0 : Nat → ByteArray → Int → Int → Option (Int)
 | 0, _, _, _ => none
 | k + 1, x0, x3, x4 => if x4 < (x0.size : Int) then (if 0 ≤ x4 then (spec_l01Read.l0 k x0 (wrap64 ((wrap64 (x3 * 256)) + (wrap64 (bt x0 x4)))) (wrap64 (x4 + 1))) else (none)) else (some x3)
def spec_l01Read.f (k : Nat) (a0 : ByteArray) : Option (Int) := spec_l01Read.l0 k a0 0 0
set_option maxHeartbeats 8000000 in
set_option maxRecDepth 100000 in
theorem spec_l01Read.calls (k : Nat) (a0 : ByteArray) (r : Int) (w : World) (h : spec_l01Read.f k a0 = some r) :
  Calls Try.prog 56 #[.string a0] w fun e w' => e = .returned (.int .i64 r) ∧ Drawn0 w w' := by
 have H : (spec_l01Read.l0 k a0 0 0) = some r := h
 clear h
 have H' := Aside0.mk H
 clear H
 go_enter Try.func56, Try.ntmps56
 go_wp2
 go_loopg [3, 4] k (fun kq v3 v4 w' => ∃ (x3_1 : Int) (x4_1 : Int), v3 = .int .i64 x3_1 ∧ v4 = .int .i64 x4_1 ∧ Aside0 (spec_l01Read.l0 kq a0 x3_1 x4_1 = some r) ∧ Aside0 (kq ≤ k) ∧ Drawn0 w w')
 case atStart => exact ⟨(0), (0), (by first | rfl | (simp; done) | (simp [*]; done)), (by first | rfl | (simp; done) | (simp [*]; done)), H', ⟨Nat.le_refl _⟩, by repeat (first | exact Drawn0.refl _ | apply Drawn0.step)⟩
 case round =>
  clear H'
  obtain ⟨x3_1, x4_1, rfl, rfl, HA, HK1, ⟨m1, rfl⟩⟩ := hrel
  cases gk with
  | zero => exact absurd HA.out (by simp [spec_l01Read.l0])
  | succ k1 =>
   have H := HA.out
   clear HA
   simp only [spec_l01Read.l0] at H
   by_cases c2 : x4_1 < (a0.size : Int)
   ·rw [if_pos c2] at H
    have c2b0 : decide (x4_1 < (a0.size : Int)) = true := decide_eq_true c2
    clear c2
    by_cases c3 : 0 ≤ x4_1
    ·rw [if_pos c3] at H
     have c3b0 : decide (0 ≤ x4_1) = true := decide_eq_true c3
     clear c3
     have H' := Aside0.mk H
     clear H
     have p4 : 0 ≤ (x4_1 : Int) := of_decide_eq_true (by first | (with_reducible assumption) | assumption)
     have q4 : x4_1 < (a0.size : Int) := of_decide_eq_true (by first | (with_reducible assumption) | assumption)
     have hx4 := bt_at a0 x4_1
     replace p4 := eq_true p4
     replace q4 := eq_true q4
     go_wp2
     go_roundg k1
     case measure => have := HK1.out; omega
     case rel => exact ⟨(wrap64 ((wrap64 (x3_1 * 256)) + (wrap64 (bt a0 x4_1)))), (wrap64 (x4_1 + 1)), (by first | rfl | (simp; done) | (simp [*]; done)), (by first | rfl | (simp; done) | (simp [*]; done)), H', ⟨by have := HK1.out; omega⟩, by repeat (first | exact Drawn0.refl _ | apply Drawn0.step)⟩
    ·rw [if_neg c3] at H
     cases H
   ·rw [if_neg c2] at H
    have c2b0 : decide (x4_1 < (a0.size : Int)) = false := decide_eq_false c2
    clear c2
    obtain rfl := Option.some.inj H
    go_wp2
    go_ret
    exact ⟨by first | rfl | (simp; done) | (simp [*]; done), by repeat (first | exact Drawn0.refl _ | apply Drawn0.step)⟩

end Go.Proofs.Ytnicllekmkkhlaa.QFnDiskSafe
