/- The functions that the law reaches, each as a plain Lean function with the proof that the Go code comes to its answers: written by a program of this session. No condition. -/
import Derived.Test.YtnicllekmkkhlaaQFnDiskSafex0
import Derived.Test.YtnicllekmkkhlaaQFnDiskSafex8
namespace Go.Proofs.Ytnicllekmkkhlaa.QFnDiskSafe
open Go.RowKit Go.Proofs.YtnicllekmkkhlaaW.PrintWords Go.Proofs.YtnicllekmkkhlaaW.PrintLast Go.Proofs.YtnicllekmkkhlaaW.PrintMore
attribute [local go_sem] max2_int min2_int max_two min_two max_three min_three max_four min_four str_gtr str_leq str_geq pw_at_slice   -- for this text's walks alone
set_option linter.unusedVariables false
set_option linter.unusedSimpArgs false

/-! ### impl_bytesOf: function 51 -/
set_option maxRecDepth 100000 in
def impl_bytesOf.l0 : Nat → Int → List Int → Int → Option (ByteArray)
 | 0, _, _, _ => none
 | k + 1, x0, x5, x6 => if x6 ≥ 0 then (if 0 ≤ x6 then (if x6 < (x5.length : Int) then (impl_bytesOf.l0 k (x0 / 256) (x5.set (x6 : Int).toNat ((x0) % 256)) (wrap64 (x6 - 1))) else (none)) else (none)) else (some (strOfNums x5))
def impl_bytesOf.f (k : Nat) (a0 : Int) (a1 : Int) : Option (ByteArray) := if 0 ≤ a1 then (if (a1 : Int).toNat ≤ 281474976710656 then (impl_bytesOf.l0 k a0 (List.replicate (a1 : Int).toNat 0) (wrap64 (a1 - 1))) else (none)) else (none)
set_option maxHeartbeats 8000000 in
set_option maxRecDepth 100000 in
theorem impl_bytesOf.calls (k : Nat) (a0 : Int) (a1 : Int) (r : ByteArray) (w : World) (h : impl_bytesOf.f k a0 a1 = some r) :
  Calls Try.prog 51 #[.int .i64 a0, .int .i64 a1] w fun e w' => e = .returned (.string r) ∧ Below w.heap.size w w' := by
 have HB := Aside0.mk (Below.refl w.heap.size w)
 have H : (if 0 ≤ a1 then (if (a1 : Int).toNat ≤ 281474976710656 then (impl_bytesOf.l0 k a0 (List.replicate (a1 : Int).toNat 0) (wrap64 (a1 - 1))) else (none)) else (none)) = some r := h
 clear h
 by_cases c3 : 0 ≤ a1
 ·rw [if_pos c3] at H
  have c3b0 := eq_true c3
  have c3b1 : decide (0 ≤ a1) = true := decide_eq_true c3
  clear c3
  by_cases c4 : (a1 : Int).toNat ≤ 281474976710656
  ·rw [if_pos c4] at H
   have c4b0 := eq_true c4
   have c4b1 : decide ((a1 : Int).toNat ≤ 281474976710656) = true := decide_eq_true c4
   clear c4
   obtain ⟨y786, hy786⟩ : ∃ y_ : List Int, y_ = (List.replicate (a1 : Int).toNat 0) := ⟨_, rfl⟩
   replace H : (impl_bytesOf.l0 k a0 y786 (wrap64 (a1 - 1))) = some r := by first | (rw [hy786]; with_reducible exact H) | (have H2_ := (Option.bind_some _ _).symm.trans H; rw [hy786]; with_reducible exact H2_) | (have H2_ := (Option.bind_some _ _).symm.trans H; with_reducible exact H2_) | with_reducible exact H | (rw [hy786]; exact H) | exact H
   have Ny786 := Aside0.mk hy786
   clear hy786
   have H' := Aside0.mk H
   clear H
   go_enter Try.func51, Try.ntmps51
   go_wp2_with (first | ((with_reducible refine gate_dst (N := 8) rfl ?_); refine Kd.R_make (Kd.int .u8) _ 5 rfl (N := 8) rfl 37 _ _ rfl a1 rfl rfl Try.underlying37 (.int .u8 0) 1 info5 rfl (by decide) (by omega) 0 (ok := fun _ => True) (okp := fun _ => True) rfl (fun _ hk => hk) trivial (of_decide_eq_true (by first | (with_reducible assumption) | assumption)) (Nat.le_trans (Nat.mul_le_mul_right _ (of_decide_eq_true (by first | (with_reducible assumption) | assumption) : a1.toNat ≤ 281474976710656)) (by omega)) (Below.refl _ _) (Nat.le_refl _) ?_; intro v787 w5 ho6 hb hg_ hnew_; clear hg_ hnew_; (first | rw [← Ny786.out] at ho6 | (simp only [Int.reduceToNat] at ho6; rw [← Ny786.out] at ho6)); have n0_ := Aside0.mk (Kd.R_lower ho6 (below_size zb)); have n1_ := Aside0.mk (below_step zb hb); clear HB; have HO788 := n0_; have HB := n1_; clear n0_ n1_; clear hb ho6))
   go_loopg [0, 6] k (fun kq v0 v6 w' => ∃ (x0_1 : Int) (x5_1 : List Int) (x6_1 : Int), v0 = .int .i64 x0_1 ∧ v6 = .int .i64 x6_1 ∧ Aside0 (impl_bytesOf.l0 kq x0_1 x5_1 x6_1 = some r) ∧ Aside0 (kq ≤ k) ∧ Aside0 (Kd.R (Kd.int .u8) 5 w' w.heap.size (fun _ => True) v787 x5_1) ∧ Aside0 (Below w.heap.size w w'))
   case atStart => exact ⟨(a0), (y786), (wrap64 (a1 - 1)), (by first | rfl | (simp; done) | (simp [*]; done)), (by first | rfl | (simp; done) | (simp [*]; done)), H', ⟨Nat.le_refl _⟩, ⟨zr HO788.out⟩, ⟨zb⟩⟩
   case round =>
    clear H'
    try clear c3
    try clear c3b0
    try clear c3b1
    try clear c4
    try clear c4b0
    try clear c4b1
    obtain ⟨x0_1, x5_1, x6_1, rfl, rfl, HA, HK1, HO_5, HB⟩ := hrel
    cases gk with
    | zero => exact absurd HA.out (by simp [impl_bytesOf.l0])
    | succ k1 =>
     have H := HA.out
     clear HA
     simp only [impl_bytesOf.l0] at H
     by_cases c7 : x6_1 ≥ 0
     ·rw [if_pos c7] at H
      have c7b0 : decide (0 ≤ x6_1) = true := decide_eq_true c7
      clear c7
      by_cases c8 : 0 ≤ x6_1
      ·rw [if_pos c8] at H
       have c8b0 : decide (0 ≤ x6_1) = true := decide_eq_true c8
       clear c8
       by_cases c9 : x6_1 < (x5_1.length : Int)
       ·rw [if_pos c9] at H
        have c9b0 : decide (x6_1 < (x5_1.length : Int)) = true := decide_eq_true c9
        clear c9
        obtain ⟨y789, hy789⟩ : ∃ y_ : List Int, y_ = (x5_1.set (x6_1 : Int).toNat ((x0_1) % 256)) := ⟨_, rfl⟩
        replace H : (impl_bytesOf.l0 k1 (x0_1 / 256) y789 (wrap64 (x6_1 - 1))) = some r := by first | (rw [hy789]; with_reducible exact H) | (have H2_ := (Option.bind_some _ _).symm.trans H; rw [hy789]; with_reducible exact H2_) | (have H2_ := (Option.bind_some _ _).symm.trans H; with_reducible exact H2_) | with_reducible exact H | (rw [hy789]; exact H) | exact H
        have Ny789 := Aside0.mk hy789
        clear hy789
        have H' := Aside0.mk H
        clear H
        have p10 : 0 ≤ (x6_1 : Int) := of_decide_eq_true (by first | (with_reducible assumption) | assumption)
        have q10 : (x6_1 : Int) < ((x5_1.length : Int) : Int) := of_decide_eq_true (by first | (with_reducible assumption) | assumption)
        obtain ⟨go10, co10, eo10, gb10, gl10, cl10, HG10⟩ := Kd.R_form HO_5.out (by omega)
        (first | cases eo10 | (injection eo10 with ea_ en_ ec_; (first | subst ea_ | (injection ea_ with ea_; subst ea_)); subst ec_; clear en_))
        have GB10 := Aside0.mk gb10
        have GG10 := Aside0.mk HG10
        clear gb10 gl10 HG10
        obtain ⟨hx10_0, hf10_0⟩ := Kd.R_celln 0 HO_5.out (x6_1 : Int) p10 q10
        replace p10 := eq_true p10
        replace q10 := eq_true q10
        have HP11 := Kd.R_putg HO_5.out (x6_1 : Int) ((x0_1) % 256)
        go_wp2_with (first | ((with_reducible refine gate_store (t := 5) (p := 19) rfl ?_); refine store_event (t := 5) (p := 19) (v := ?vo_w12) (w1 := (wr.setCell ⟨go10, (x6_1 : Int).toNat, none⟩ (.int .u8 ((x0_1) % 256)))) ?hg ?ho ?hn ?hr ?_; (case ho => rfl); (case hg => rfl); (case hn => rfl); (case hr => first | (go_simp; done) | (go_simp; rfl)); intro w12 hw; have hg : wr.grownBy w12 (some go10) := (by rw [hw]; exact HP11.2); have hp_ : Kd.R (Kd.int .u8) 5 w12 w.heap.size (fun _ => True) (.slice (some ⟨go10, 0, none⟩) x5_1.length co10) y789 := (by rw [hw, Ny789.out]; exact HP11.1); clear HP11; have n0_ := Aside0.mk (hp_); have n1_ := Aside0.mk ((by rw [hw]; exact below_set (HB.out) GB10.out : Below w.heap.size w w12)); clear HO_5; clear HB; have HO_5 := n0_; have HB := n1_; clear n0_ n1_; clear hg hw hp_))
        go_roundg k1
        case measure => have := HK1.out; omega
        case rel => exact ⟨(x0_1 / 256), (y789), (wrap64 (x6_1 - 1)), (by first | rfl | (simp; done) | (simp [*]; done)), (by first | rfl | (simp; done) | (simp [*]; done)), H', ⟨by have := HK1.out; omega⟩, ⟨zr HO_5.out⟩, ⟨zb⟩⟩
       ·rw [if_neg c9] at H
        cases H
      ·rw [if_neg c8] at H
       cases H
     ·rw [if_neg c7] at H
      have c7b0 : decide (0 ≤ x6_1) = false := decide_eq_false c7
      clear c7
      obtain rfl := Option.some.inj H
      have hcv13 := own_string (P := Try.prog) Try.underlying37 Try.underlying5 Try.underlying9 (Kd.own_of_R HO_5.out)
      go_wp2
      go_ret
      exact ⟨by first | rfl | (simp [errW_none, errW_some] <;> rfl) | (simp [*, errW_none, errW_some] <;> rfl), zb⟩
  ·rw [if_neg c4] at H
   cases H
 ·rw [if_neg c3] at H
  cases H

/-! ### impl_frame: function 36 -/
def impl_frame.f (k : Nat) (a0 : Int) (a1_0 : Int) (a1_1 : ByteArray) : Option (ByteArray) := (impl_bytesOf.f k a0 4).bind fun t791 => ((impl_bytesOf.f k (a1_1.size : Int) 4).bind fun t792 => (if t791.size + t792.size ≤ 9223372036854775807 then ((some (([(a1_0) % 256] : List Int) : List Int)).bind fun y793 => (if (t791 ++ t792).size + (strOfNums y793).size ≤ 9223372036854775807 then (if ((t791 ++ t792) ++ (strOfNums y793)).size + a1_1.size ≤ 9223372036854775807 then ((impl_Crc.f k (((t791 ++ t792) ++ (strOfNums y793)) ++ a1_1)).bind fun t796 => ((impl_bytesOf.f k t796 4).bind fun t797 => (if (((t791 ++ t792) ++ (strOfNums y793)) ++ a1_1).size + t797.size ≤ 9223372036854775807 then (some ((((t791 ++ t792) ++ (strOfNums y793)) ++ a1_1) ++ t797)) else (none)))) else (none)) else (none))) else (none)))
def impl_frame.T1 : Bool × List (List Nat × List Nat) := (true, [([], []), ([0], [0]), ([], []), ([2], [2]), ([3], [3]), ([4, 1], [4]), ([1, 5], [1, 5]), ([], []), ([7], [7]), ([8], [8]), ([9], [9]), ([10], [10]), ([6, 11], [6, 11]), ([], []), ([13], [13]), ([12, 14], [12, 14]), ([15, 5, 0, 1, 2, 3, 4, 5, 6, 7, 8, 9, 10, 11, 12, 13, 14, 15], [15])])
def impl_frame.B1 : List Nat := [0, 1, 0, 4, 12, 31, 63, 0, 128, 384, 896, 1920, 4095, 0, 8192, 32767, 65535]
theorem impl_frame.tab1 : rtab .any (opsOf Try.f36 1) = impl_frame.T1 := by kernel_rfl
theorem impl_frame.bits1 : waitsOk impl_frame.T1.2 impl_frame.B1 = true := by kernel_rfl
set_option maxHeartbeats 8000000 in
set_option maxRecDepth 100000 in
theorem impl_frame.calls (k : Nat) (a0 : Int) (a1_0 : Int) (a1_1 : ByteArray) (r : ByteArray) (w : World) (h : impl_frame.f k a0 a1_0 a1_1 = some r) :
  Calls Try.prog 36 #[.int .i64 a0, .agg #[.int .i64 a1_0, .string a1_1]] w fun e w' => e = .returned (.string r) ∧ Below w.heap.size w w' := by
 have hu45 := Try.underlying45
 have HB := Aside0.mk (Below.refl w.heap.size w)
 have H : ((impl_bytesOf.f k a0 4).bind fun t791 => ((impl_bytesOf.f k (a1_1.size : Int) 4).bind fun t792 => (if t791.size + t792.size ≤ 9223372036854775807 then ((some (([(a1_0) % 256] : List Int) : List Int)).bind fun y793 => (if (t791 ++ t792).size + (strOfNums y793).size ≤ 9223372036854775807 then (if ((t791 ++ t792) ++ (strOfNums y793)).size + a1_1.size ≤ 9223372036854775807 then ((impl_Crc.f k (((t791 ++ t792) ++ (strOfNums y793)) ++ a1_1)).bind fun t796 => ((impl_bytesOf.f k t796 4).bind fun t797 => (if (((t791 ++ t792) ++ (strOfNums y793)) ++ a1_1).size + t797.size ≤ 9223372036854775807 then (some ((((t791 ++ t792) ++ (strOfNums y793)) ++ a1_1) ++ t797)) else (none)))) else (none)) else (none))) else (none)))) = some r := h
 clear h
 replace H := Option.bind_eq_some_iff.mp H
 obtain ⟨t791, A30, H⟩ := H
 replace H : ((impl_bytesOf.f k (a1_1.size : Int) 4).bind fun t792 => (if t791.size + t792.size ≤ 9223372036854775807 then ((some (([(a1_0) % 256] : List Int) : List Int)).bind fun y793 => (if (t791 ++ t792).size + (strOfNums y793).size ≤ 9223372036854775807 then (if ((t791 ++ t792) ++ (strOfNums y793)).size + a1_1.size ≤ 9223372036854775807 then ((impl_Crc.f k (((t791 ++ t792) ++ (strOfNums y793)) ++ a1_1)).bind fun t796 => ((impl_bytesOf.f k t796 4).bind fun t797 => (if (((t791 ++ t792) ++ (strOfNums y793)) ++ a1_1).size + t797.size ≤ 9223372036854775807 then (some ((((t791 ++ t792) ++ (strOfNums y793)) ++ a1_1) ++ t797)) else (none)))) else (none)) else (none))) else (none))) = some r := H
 have A3 := Aside0.mk A30
 clear A30
 replace H := Option.bind_eq_some_iff.mp H
 obtain ⟨t792, A40, H⟩ := H
 replace H : (if t791.size + t792.size ≤ 9223372036854775807 then ((some (([(a1_0) % 256] : List Int) : List Int)).bind fun y793 => (if (t791 ++ t792).size + (strOfNums y793).size ≤ 9223372036854775807 then (if ((t791 ++ t792) ++ (strOfNums y793)).size + a1_1.size ≤ 9223372036854775807 then ((impl_Crc.f k (((t791 ++ t792) ++ (strOfNums y793)) ++ a1_1)).bind fun t796 => ((impl_bytesOf.f k t796 4).bind fun t797 => (if (((t791 ++ t792) ++ (strOfNums y793)) ++ a1_1).size + t797.size ≤ 9223372036854775807 then (some ((((t791 ++ t792) ++ (strOfNums y793)) ++ a1_1) ++ t797)) else (none)))) else (none)) else (none))) else (none)) = some r := H
 have A4 := Aside0.mk A40
 clear A40
 by_cases c5 : t791.size + t792.size ≤ 9223372036854775807
 ·rw [if_pos c5] at H
  have c5b0 := eq_true c5
  have c5b1 : decide (t791.size + t792.size ≤ 9223372036854775807) = true := decide_eq_true c5
  try have c5b2 : (9223372036854775807 < t791.size + t792.size) = False := eq_false (Nat.not_lt.2 c5)
  try (have c5b3 := c5b2; simp only [ByteArray.size_append] at c5b3)
  obtain ⟨y793, hy793⟩ : ∃ y_ : List Int, y_ = (([(a1_0) % 256] : List Int)) := ⟨_, rfl⟩
  replace H : (if (t791 ++ t792).size + (strOfNums y793).size ≤ 9223372036854775807 then (if ((t791 ++ t792) ++ (strOfNums y793)).size + a1_1.size ≤ 9223372036854775807 then ((impl_Crc.f k (((t791 ++ t792) ++ (strOfNums y793)) ++ a1_1)).bind fun t796 => ((impl_bytesOf.f k t796 4).bind fun t797 => (if (((t791 ++ t792) ++ (strOfNums y793)) ++ a1_1).size + t797.size ≤ 9223372036854775807 then (some ((((t791 ++ t792) ++ (strOfNums y793)) ++ a1_1) ++ t797)) else (none)))) else (none)) else (none)) = some r := by first | (rw [hy793]; with_reducible exact H) | (have H2_ := (Option.bind_some _ _).symm.trans H; rw [hy793]; with_reducible exact H2_) | (have H2_ := (Option.bind_some _ _).symm.trans H; with_reducible exact H2_) | with_reducible exact H | (rw [hy793]; exact H) | exact H
  have Ny793 := Aside0.mk hy793
  clear hy793
  by_cases c6 : (t791 ++ t792).size + (strOfNums y793).size ≤ 9223372036854775807
  ·rw [if_pos c6] at H
   have c6b0 := eq_true c6
   have c6b1 : decide ((t791 ++ t792).size + (strOfNums y793).size ≤ 9223372036854775807) = true := decide_eq_true c6
   try have c6b2 : (9223372036854775807 < (t791 ++ t792).size + (strOfNums y793).size) = False := eq_false (Nat.not_lt.2 c6)
   try (have c6b3 := c6b2; simp only [ByteArray.size_append] at c6b3)
   by_cases c7 : ((t791 ++ t792) ++ (strOfNums y793)).size + a1_1.size ≤ 9223372036854775807
   ·rw [if_pos c7] at H
    have c7b0 := eq_true c7
    have c7b1 : decide (((t791 ++ t792) ++ (strOfNums y793)).size + a1_1.size ≤ 9223372036854775807) = true := decide_eq_true c7
    try have c7b2 : (9223372036854775807 < ((t791 ++ t792) ++ (strOfNums y793)).size + a1_1.size) = False := eq_false (Nat.not_lt.2 c7)
    try (have c7b3 := c7b2; simp only [ByteArray.size_append] at c7b3)
    replace H := Option.bind_eq_some_iff.mp H
    obtain ⟨t796, A80, H⟩ := H
    replace H : ((impl_bytesOf.f k t796 4).bind fun t797 => (if (((t791 ++ t792) ++ (strOfNums y793)) ++ a1_1).size + t797.size ≤ 9223372036854775807 then (some ((((t791 ++ t792) ++ (strOfNums y793)) ++ a1_1) ++ t797)) else (none))) = some r := H
    have A8 := Aside0.mk A80
    clear A80
    replace H := Option.bind_eq_some_iff.mp H
    obtain ⟨t797, A90, H⟩ := H
    replace H : (if (((t791 ++ t792) ++ (strOfNums y793)) ++ a1_1).size + t797.size ≤ 9223372036854775807 then (some ((((t791 ++ t792) ++ (strOfNums y793)) ++ a1_1) ++ t797)) else (none)) = some r := H
    have A9 := Aside0.mk A90
    clear A90
    by_cases c10 : (((t791 ++ t792) ++ (strOfNums y793)) ++ a1_1).size + t797.size ≤ 9223372036854775807
    ·rw [if_pos c10] at H
     have c10b0 := eq_true c10
     have c10b1 : decide ((((t791 ++ t792) ++ (strOfNums y793)) ++ a1_1).size + t797.size ≤ 9223372036854775807) = true := decide_eq_true c10
     try have c10b2 : (9223372036854775807 < (((t791 ++ t792) ++ (strOfNums y793)) ++ a1_1).size + t797.size) = False := eq_false (Nat.not_lt.2 c10)
     try (have c10b3 := c10b2; simp only [ByteArray.size_append] at c10b3)
     obtain rfl := Option.some.inj H
     go_enter Try.func36, Try.ntmps36
     try go_wp2_with (first | ((with_reducible refine gate_dst (N := 3) rfl ?_); refine box_event ?hg (N := 3) ?hd (cs := #[.int .i64 a1_0, .string a1_1]) (t := 45) ?hr ?_; (case hd => rfl); (case hg => rfl); (case hr => first | (go_simp; done) | (go_simp; rfl)); intro gb790 hg w11 hbox hb; have n0_ := Aside0.mk (below_step zb hb); have n1_ := Aside0.mk (hbox); have n2_ := Aside0.mk ((by rw [hg]; exact (below_size zb) : w.heap.size ≤ gb790)); have n3_ := Aside0.mk ((by rw [hg]; exact (below_size zb) : w.heap.size ≤ gb790)); clear HB; have HB := n0_; have BK790 := n1_; have GW790 := n2_; have GE790 := n3_; clear n0_ n1_ n2_ n3_; clear hb hbox hg))
     have n0_ := Aside0.mk (blk_drew BK790.out)
     have n1_ := Aside0.mk (below_drew1 HB.out)
     clear BK790
     clear HB
     have BK790 := n0_
     have HB := n1_
     clear n0_ n1_
     refine start_ (n := 17) (S := fun w' => w'.cell? ⟨gb790, 0, none⟩ = some (.int .i64 a1_0) ∧ w'.cell? ⟨gb790, 1, none⟩ = some (.string a1_1)) (ds := []) #[false, false, false, false, false, false, false, false, false, false, false, false, false, false, false, false, false] (by kernel_rfl) rfl rfl ⟨(blk_cell BK790.out 0).trans rfl, (blk_cell BK790.out 1).trans rfl⟩ (fun hHeld => ?_); refine with_tabW impl_frame.tab1 impl_frame.bits1 (fun HT_ HW_ => ?_)
     generalize w11.drew = w12 at BK790 HB hHeld ⊢
     refine zp 0 6 ?_
     refine zp 2 8 ?_
     refine zp 7 13 ?_
     refine zp 13 19 ?_
     refine zt 3 9 ?_ (hr := by rintro w' ⟨s0, s1⟩; go_simp; with_reducible rfl)
     refine zp 4 10 ?_
     refine zt 8 14 ?_ (hr := by rintro w' ⟨s0, s1⟩; go_simp; with_reducible rfl)
     refine zp 9 15 ?_
     refine zt 14 20 ?_ (hr := by rintro w' ⟨s0, s1⟩; go_simp; with_reducible rfl)
     refine join_ (σ := Value) 3 #[true, true, true, true, true, true, true, true, true, true, true, true, false, true, true, false, false] (fun s_ => [(7, .string t791), (11, .string t792), (16, s_), (17, .string (strOfNums y793)), (12, .string (t791 ++ t792))]) (fun s_ w' => (w'.cell? ⟨gb790, 0, none⟩ = some (.int .i64 a1_0) ∧ w'.cell? ⟨gb790, 1, none⟩ = some (.string a1_1)) ∧ (Kd.R (Kd.int .u8) 5 w' w.heap.size (fun _ => True) s_ y793) ∧ (w'.heap[gb790]? = some (.cells #[.int .i64 a1_0, .string a1_1] 45 (0, 0))) ∧ (Below w.heap.size w w')) ?_ ?_
     rotate_left
     ·intro hJ1_5_10_11
      refine join_ (σ := Value) 4 #[true, true, true, true, true, true, true, true, true, true, true, false, false, true, true, false, false] (fun s_ => [(7, .string t791), (11, .string t792), (16, s_), (12, .string (t791 ++ t792))]) (fun s_ w' => (w'.cell? ⟨gb790, 0, none⟩ = some (.int .i64 a1_0) ∧ w'.cell? ⟨gb790, 1, none⟩ = some (.string a1_1)) ∧ (Kd.R (Kd.int .u8) 5 w' w.heap.size (fun _ => True) s_ y793) ∧ (w'.heap[gb790]? = some (.cells #[.int .i64 a1_0, .string a1_1] 45 (0, 0))) ∧ (Below w.heap.size w w')) ?_ ?_
      rotate_left
      ·intro hJ1_5_10
       refine join_ (σ := Value) 5 #[true, true, true, true, true, false, false, true, true, true, true, true, false, true, true, false, false] (fun s_ => [(7, .string t791), (16, s_), (17, .string (strOfNums y793))]) (fun s_ w' => (w'.cell? ⟨gb790, 0, none⟩ = some (.int .i64 a1_0) ∧ w'.cell? ⟨gb790, 1, none⟩ = some (.string a1_1)) ∧ (Kd.R (Kd.int .u8) 5 w' w.heap.size (fun _ => True) s_ y793) ∧ (w'.heap[gb790]? = some (.cells #[.int .i64 a1_0, .string a1_1] 45 (0, 0))) ∧ (Below w.heap.size w w')) ?_ ?_
       rotate_left
       ·intro hJ1_10_11
        refine join_ (σ := Unit) 5 #[true, true, true, true, true, true, true, true, true, true, false, false, false, true, true, false, false] (fun s_ => [(7, .string t791), (11, .string t792), (12, .string (t791 ++ t792))]) (fun s_ w' => (w'.cell? ⟨gb790, 0, none⟩ = some (.int .i64 a1_0) ∧ w'.cell? ⟨gb790, 1, none⟩ = some (.string a1_1)) ∧ (w'.heap[gb790]? = some (.cells #[.int .i64 a1_0, .string a1_1] 45 (0, 0))) ∧ (Below w.heap.size w w')) ?_ ?_
        rotate_left
        ·intro hJ1_5
         refine join_ (σ := Value) 6 #[true, true, true, true, true, false, false, true, true, true, true, false, false, true, true, false, false] (fun s_ => [(7, .string t791), (16, s_)]) (fun s_ w' => (w'.cell? ⟨gb790, 0, none⟩ = some (.int .i64 a1_0) ∧ w'.cell? ⟨gb790, 1, none⟩ = some (.string a1_1)) ∧ (Kd.R (Kd.int .u8) 5 w' w.heap.size (fun _ => True) s_ y793) ∧ (w'.heap[gb790]? = some (.cells #[.int .i64 a1_0, .string a1_1] 45 (0, 0))) ∧ (Below w.heap.size w w')) ?_ ?_
         rotate_left
         ·intro hJ1_10
          refine join_ (σ := Value) 6 #[true, false, true, true, true, false, false, true, true, true, true, true, false, true, true, false, false] (fun s_ => [(16, s_), (17, .string (strOfNums y793))]) (fun s_ w' => (w'.cell? ⟨gb790, 0, none⟩ = some (.int .i64 a1_0) ∧ w'.cell? ⟨gb790, 1, none⟩ = some (.string a1_1)) ∧ (Kd.R (Kd.int .u8) 5 w' w.heap.size (fun _ => True) s_ y793) ∧ (w'.heap[gb790]? = some (.cells #[.int .i64 a1_0, .string a1_1] 45 (0, 0))) ∧ (Below w.heap.size w w')) ?_ ?_
          rotate_left
          ·intro hJ10_11
           refine join_ (σ := Unit) 7 #[true, true, true, true, true, false, false, true, true, true, false, false, false, true, true, false, false] (fun s_ => [(7, .string t791)]) (fun s_ w' => (w'.cell? ⟨gb790, 0, none⟩ = some (.int .i64 a1_0) ∧ w'.cell? ⟨gb790, 1, none⟩ = some (.string a1_1)) ∧ (w'.heap[gb790]? = some (.cells #[.int .i64 a1_0, .string a1_1] 45 (0, 0))) ∧ (Below w.heap.size w w')) ?_ ?_
           rotate_left
           ·intro hJ1
            refine join_ (σ := Value) 7 #[true, false, true, true, true, false, false, true, true, true, true, false, false, true, true, false, false] (fun s_ => [(16, s_)]) (fun s_ w' => (w'.cell? ⟨gb790, 0, none⟩ = some (.int .i64 a1_0) ∧ w'.cell? ⟨gb790, 1, none⟩ = some (.string a1_1)) ∧ (Kd.R (Kd.int .u8) 5 w' w.heap.size (fun _ => True) s_ y793) ∧ (w'.heap[gb790]? = some (.cells #[.int .i64 a1_0, .string a1_1] 45 (0, 0))) ∧ (Below w.heap.size w w')) ?_ ?_
            rotate_left
            ·intro hJ10
             refine two_ (i := 1) (j := 10) (Ni := some 7) (Nj := some 16) #[true, true, true, true, true, false, false, true, true, true, false, false, false, true, true, false, false] #[true, false, true, true, true, false, false, true, true, true, true, false, false, true, true, false, false] rfl rfl rfl rfl (two_of HT_.out (by kernel_rfl)) (by decide) (by decide) (fun K hK => ?_) (fun K hK => ?_)
             ·skip
              refine goes_ Try.func51 (by kernel_rfl) rfl #[.int .i64 a0, .int .i64 4] (by rfl) rfl rfl zm ?_
              with_reducible refine (impl_bytesOf.calls k a0 4 t791 _ A3.out).mono ?_
              rintro e w13 ⟨rfl, hb⟩
              refine ⟨_, rfl, ?_⟩
              have n0_ := Aside0.mk (blk_below (zk BK790.out) hb)
              have n1_ := Aside0.mk (below_step (by repeat (first | (with_reducible first | exact HB.out | apply below_alloc | apply pw_below_drewN | apply below_drew1 | refine below_set ?_ GE790.out) | exact HB.out)) hb)
              clear BK790
              clear HB
              have BK790 := n0_
              have HB := n1_
              clear n0_ n1_
              (try clear hb)
              (try clear hb2)
              (try clear hk)
              (try clear hi)
              refine hK.out _ _ ⟨(blk_cell BK790.out 0).trans rfl, (blk_cell BK790.out 1).trans rfl⟩ (fun hHeld => ?_)
              clear hK K
              refine norm_ (a' := ?_) ?_ ?_
              rotate_left
              ·show Act.put _ (some 7) _ = _
               simp only [Act.put, List.setIfInBounds_toArray, List.set_cons_zero, List.set_cons_succ, i64_w, i32_w]
               rfl
              exact norm_ (by first | (simp only [putAll, Act.put, List.setIfInBounds_toArray, List.set_cons_zero, List.set_cons_succ]; done) | (simp only [putAll, Act.put, List.setIfInBounds_toArray, List.set_cons_zero, List.set_cons_succ]; rfl)) (hJ1 () _ ⟨hHeld, (zk BK790.out), (by repeat (first | (with_reducible first | exact HB.out | apply below_alloc | apply pw_below_drewN | apply below_drew1 | refine below_set ?_ GE790.out) | exact HB.out))⟩)
             ·skip
              refine Kd.R_lit_step (Kd.int .u8) _ 5 ?hg (N := 16) ?hd (xs := ([(a1_0) % 256] : List Int)) (inner := [.int .u8 ((a1_0) % 256)]) (ok := fun _ => True) (okp := fun _ => True) ?hr ?hp (fun _ hk => hk) trivial (Below.refl _ _) (Nat.le_refl _) (by simp) ?_; (case hd => rfl); (case hg => rfl); (case hr => first | (go_simp; done) | (go_simp; rfl)); (case hp => exact (Reps.one (show Kd.M (Kd.int .u8) _ _ _ ((a1_0) % 256) [.int .u8 ((a1_0) % 256)] from rfl) (Reps.none _ _)))
              intro v794 w13 ho14 hb hg_ hnew_
              clear hg_ hnew_
              (first | rw [← Ny793.out] at ho14 | (simp only [Int.reduceToNat] at ho14; rw [← Ny793.out] at ho14))
              have n0_ := Aside0.mk (Kd.R_lower ho14 (below_size (by repeat (first | (with_reducible first | exact HB.out | apply below_alloc | apply pw_below_drewN | apply below_drew1 | refine below_set ?_ GE790.out) | exact HB.out))))
              have n1_ := Aside0.mk (blk_below (zk BK790.out) hb)
              have n2_ := Aside0.mk (below_step (by repeat (first | (with_reducible first | exact HB.out | apply below_alloc | apply pw_below_drewN | apply below_drew1 | refine below_set ?_ GE790.out) | exact HB.out)) hb)
              clear BK790
              clear HB
              have HO795 := n0_
              have BK790 := n1_
              have HB := n2_
              clear n0_ n1_ n2_
              clear hb ho14
              refine hK.out _ _ ⟨(blk_cell BK790.out 0).trans rfl, (blk_cell BK790.out 1).trans rfl⟩ (fun hHeld => ?_)
              clear hK K
              refine norm_ (a' := ?_) ?_ ?_
              rotate_left
              ·show Act.put _ (some 16) _ = _
               simp only [Act.put, List.setIfInBounds_toArray, List.set_cons_zero, List.set_cons_succ, i64_w, i32_w]
               rfl
              exact norm_ (by first | (simp only [putAll, Act.put, List.setIfInBounds_toArray, List.set_cons_zero, List.set_cons_succ]; done) | (simp only [putAll, Act.put, List.setIfInBounds_toArray, List.set_cons_zero, List.set_cons_succ]; rfl)) (hJ10 (v794) _ ⟨hHeld, (zr HO795.out), (zk BK790.out), (by repeat (first | (with_reducible first | exact HB.out | apply below_alloc | apply pw_below_drewN | apply below_drew1 | refine below_set ?_ GE790.out) | exact HB.out))⟩)
            ·skip
             rintro v794 w15 ⟨hS_, h0_, h1_, h2_⟩
             have n0_ : Aside0 (Kd.R (Kd.int .u8) 5 w15 w.heap.size (fun _ => True) v794 y793) := ⟨h0_⟩
             have n1_ : Aside0 (w15.heap[gb790]? = some (.cells #[.int .i64 a1_0, .string a1_1] 45 (0, 0))) := ⟨h1_⟩
             have n2_ : Aside0 (Below w.heap.size w w15) := ⟨h2_⟩
             clear BK790
             clear HB
             clear h0_ h1_ h2_
             have HO795 := n0_
             have BK790 := n1_
             have HB := n2_
             clear n0_ n1_ n2_
             have hHeld : w15.cell? ⟨gb790, 0, none⟩ = some (.int .i64 a1_0) ∧ w15.cell? ⟨gb790, 1, none⟩ = some (.string a1_1) := hS_
             refine norm_ (a' := ?_) ?_ ?_
             rotate_left
             ·simp only [putAll, Act.put, List.setIfInBounds_toArray, List.set_cons_zero, List.set_cons_succ]
              rfl
             refine two_ (i := 1) (j := 11) (Ni := some 7) (Nj := some 17) #[true, true, true, true, true, false, false, true, true, true, true, false, false, true, true, false, false] #[true, false, true, true, true, false, false, true, true, true, true, true, false, true, true, false, false] rfl rfl rfl rfl (two_of HT_.out (by kernel_rfl)) (by decide) (by decide) (fun K hK => ?_) (fun K hK => ?_)
             ·skip
              refine goes_ Try.func51 (by kernel_rfl) rfl #[.int .i64 a0, .int .i64 4] (by rfl) rfl rfl zm ?_
              with_reducible refine (impl_bytesOf.calls k a0 4 t791 _ A3.out).mono ?_
              rintro e w16 ⟨rfl, hb⟩
              refine ⟨_, rfl, ?_⟩
              have n0_ := Aside0.mk (Kd.R_below (zr HO795.out) hb)
              have n1_ := Aside0.mk (blk_below (zk BK790.out) hb)
              have n2_ := Aside0.mk (below_step (by repeat (first | (with_reducible first | exact HB.out | apply below_alloc | apply pw_below_drewN | apply below_drew1 | refine below_set ?_ GE790.out) | exact HB.out)) hb)
              clear HO795
              clear BK790
              clear HB
              have HO795 := n0_
              have BK790 := n1_
              have HB := n2_
              clear n0_ n1_ n2_
              (try clear hb)
              (try clear hb2)
              (try clear hk)
              (try clear hi)
              refine hK.out _ _ ⟨(blk_cell BK790.out 0).trans rfl, (blk_cell BK790.out 1).trans rfl⟩ (fun hHeld => ?_)
              clear hK K
              refine norm_ (a' := ?_) ?_ ?_
              rotate_left
              ·show Act.put _ (some 7) _ = _
               simp only [Act.put, List.setIfInBounds_toArray, List.set_cons_zero, List.set_cons_succ, i64_w, i32_w]
               rfl
              exact norm_ (by first | (simp only [putAll, Act.put, List.setIfInBounds_toArray, List.set_cons_zero, List.set_cons_succ]; done) | (simp only [putAll, Act.put, List.setIfInBounds_toArray, List.set_cons_zero, List.set_cons_succ]; rfl)) (hJ1_10 (v794) _ ⟨hHeld, (zr HO795.out), (zk BK790.out), (by repeat (first | (with_reducible first | exact HB.out | apply below_alloc | apply pw_below_drewN | apply below_drew1 | refine below_set ?_ GE790.out) | exact HB.out))⟩)
             ·skip
              have hcv16 := own_string (P := Try.prog) Try.underlying37 Try.underlying5 Try.underlying9 (Kd.own_of_R HO795.out)
              refine value_ (w1 := ?_) (v := ?_) (by rfl) rfl ?_ ?_
              rotate_left 2
              ·go_simp
               constructor
               ·rfl
               ·rfl
              clear hcv16
              refine hK.out _ _ ⟨(blk_cell BK790.out 0).trans rfl, (blk_cell BK790.out 1).trans rfl⟩ (fun hHeld => ?_)
              clear hK K
              refine norm_ (a' := ?_) ?_ ?_
              rotate_left
              ·show Act.put _ (some 17) _ = _
               simp only [Act.put, List.setIfInBounds_toArray, List.set_cons_zero, List.set_cons_succ, i64_w, i32_w]
               rfl
              exact norm_ (by first | (simp only [putAll, Act.put, List.setIfInBounds_toArray, List.set_cons_zero, List.set_cons_succ]; done) | (simp only [putAll, Act.put, List.setIfInBounds_toArray, List.set_cons_zero, List.set_cons_succ]; rfl)) (hJ10_11 (v794) _ ⟨hHeld, (zr HO795.out), (zk BK790.out), (by repeat (first | (with_reducible first | exact HB.out | apply below_alloc | apply pw_below_drewN | apply below_drew1 | refine below_set ?_ GE790.out) | exact HB.out))⟩)
           ·skip
            rintro _ w14 ⟨hS_, h0_, h1_⟩
            have n0_ : Aside0 (w14.heap[gb790]? = some (.cells #[.int .i64 a1_0, .string a1_1] 45 (0, 0))) := ⟨h0_⟩
            have n1_ : Aside0 (Below w.heap.size w w14) := ⟨h1_⟩
            clear BK790
            clear HB
            clear h0_ h1_
            have BK790 := n0_
            have HB := n1_
            clear n0_ n1_
            have hHeld : w14.cell? ⟨gb790, 0, none⟩ = some (.int .i64 a1_0) ∧ w14.cell? ⟨gb790, 1, none⟩ = some (.string a1_1) := hS_
            refine norm_ (a' := ?_) ?_ ?_
            rotate_left
            ·simp only [putAll, Act.put, List.setIfInBounds_toArray, List.set_cons_zero, List.set_cons_succ]
             rfl
            refine two_ (i := 5) (j := 10) (Ni := some 11) (Nj := some 16) #[true, true, true, true, true, true, false, true, true, true, false, false, false, true, true, false, false] #[true, true, true, true, true, false, false, true, true, true, true, false, false, true, true, false, false] rfl rfl rfl rfl (two_of HT_.out (by kernel_rfl)) (by decide) (by decide) (fun K hK => ?_) (fun K hK => ?_)
            ·skip
             refine goes_ Try.func51 (by kernel_rfl) rfl #[.int .i64 (a1_1.size : Int), .int .i64 4] (by rfl) rfl rfl zm ?_
             with_reducible refine (impl_bytesOf.calls k (a1_1.size : Int) 4 t792 _ A4.out).mono ?_
             rintro e w15 ⟨rfl, hb⟩
             refine ⟨_, rfl, ?_⟩
             have n0_ := Aside0.mk (blk_below (zk BK790.out) hb)
             have n1_ := Aside0.mk (below_step (by repeat (first | (with_reducible first | exact HB.out | apply below_alloc | apply pw_below_drewN | apply below_drew1 | refine below_set ?_ GE790.out) | exact HB.out)) hb)
             clear BK790
             clear HB
             have BK790 := n0_
             have HB := n1_
             clear n0_ n1_
             (try clear hb)
             (try clear hb2)
             (try clear hk)
             (try clear hi)
             refine hK.out _ _ ⟨(blk_cell BK790.out 0).trans rfl, (blk_cell BK790.out 1).trans rfl⟩ (fun hHeld => ?_)
             clear hK K
             refine norm_ (a' := ?_) ?_ ?_
             rotate_left
             ·show Act.put _ (some 11) _ = _
              simp only [Act.put, List.setIfInBounds_toArray, List.set_cons_zero, List.set_cons_succ, i64_w, i32_w]
              rfl
             refine zp 6 12 ?_
             exact norm_ (by first | (simp only [putAll, Act.put, List.setIfInBounds_toArray, List.set_cons_zero, List.set_cons_succ]; done) | (simp only [putAll, Act.put, List.setIfInBounds_toArray, List.set_cons_zero, List.set_cons_succ]; rfl)) (hJ1_5 () _ ⟨hHeld, (zk BK790.out), (by repeat (first | (with_reducible first | exact HB.out | apply below_alloc | apply pw_below_drewN | apply below_drew1 | refine below_set ?_ GE790.out) | exact HB.out))⟩)
            ·skip
             refine Kd.R_lit_step (Kd.int .u8) _ 5 ?hg (N := 16) ?hd (xs := ([(a1_0) % 256] : List Int)) (inner := [.int .u8 ((a1_0) % 256)]) (ok := fun _ => True) (okp := fun _ => True) ?hr ?hp (fun _ hk => hk) trivial (Below.refl _ _) (Nat.le_refl _) (by simp) ?_; (case hd => rfl); (case hg => rfl); (case hr => first | (go_simp; done) | (go_simp; rfl)); (case hp => exact (Reps.one (show Kd.M (Kd.int .u8) _ _ _ ((a1_0) % 256) [.int .u8 ((a1_0) % 256)] from rfl) (Reps.none _ _)))
             intro v794 w15 ho16 hb hg_ hnew_
             clear hg_ hnew_
             (first | rw [← Ny793.out] at ho16 | (simp only [Int.reduceToNat] at ho16; rw [← Ny793.out] at ho16))
             have n0_ := Aside0.mk (Kd.R_lower ho16 (below_size (by repeat (first | (with_reducible first | exact HB.out | apply below_alloc | apply pw_below_drewN | apply below_drew1 | refine below_set ?_ GE790.out) | exact HB.out))))
             have n1_ := Aside0.mk (blk_below (zk BK790.out) hb)
             have n2_ := Aside0.mk (below_step (by repeat (first | (with_reducible first | exact HB.out | apply below_alloc | apply pw_below_drewN | apply below_drew1 | refine below_set ?_ GE790.out) | exact HB.out)) hb)
             clear BK790
             clear HB
             have HO795 := n0_
             have BK790 := n1_
             have HB := n2_
             clear n0_ n1_ n2_
             clear hb ho16
             refine hK.out _ _ ⟨(blk_cell BK790.out 0).trans rfl, (blk_cell BK790.out 1).trans rfl⟩ (fun hHeld => ?_)
             clear hK K
             refine norm_ (a' := ?_) ?_ ?_
             rotate_left
             ·show Act.put _ (some 16) _ = _
              simp only [Act.put, List.setIfInBounds_toArray, List.set_cons_zero, List.set_cons_succ, i64_w, i32_w]
              rfl
             exact norm_ (by first | (simp only [putAll, Act.put, List.setIfInBounds_toArray, List.set_cons_zero, List.set_cons_succ]; done) | (simp only [putAll, Act.put, List.setIfInBounds_toArray, List.set_cons_zero, List.set_cons_succ]; rfl)) (hJ1_10 (v794) _ ⟨hHeld, (zr HO795.out), (zk BK790.out), (by repeat (first | (with_reducible first | exact HB.out | apply below_alloc | apply pw_below_drewN | apply below_drew1 | refine below_set ?_ GE790.out) | exact HB.out))⟩)
          ·skip
           rintro v794 w16 ⟨hS_, h0_, h1_, h2_⟩
           have n0_ : Aside0 (Kd.R (Kd.int .u8) 5 w16 w.heap.size (fun _ => True) v794 y793) := ⟨h0_⟩
           have n1_ : Aside0 (w16.heap[gb790]? = some (.cells #[.int .i64 a1_0, .string a1_1] 45 (0, 0))) := ⟨h1_⟩
           have n2_ : Aside0 (Below w.heap.size w w16) := ⟨h2_⟩
           clear BK790
           clear HB
           clear h0_ h1_ h2_
           have HO795 := n0_
           have BK790 := n1_
           have HB := n2_
           clear n0_ n1_ n2_
           have hHeld : w16.cell? ⟨gb790, 0, none⟩ = some (.int .i64 a1_0) ∧ w16.cell? ⟨gb790, 1, none⟩ = some (.string a1_1) := hS_
           refine norm_ (a' := ?_) ?_ ?_
           rotate_left
           ·simp only [putAll, Act.put, List.setIfInBounds_toArray, List.set_cons_zero, List.set_cons_succ]
            rfl
           refine one_ (i := 1) (N := some 7) #[true, true, true, true, true, false, false, true, true, true, true, true, false, true, true, false, false] rfl rfl (one_of HT_.out (by kernel_rfl)) (by decide) (fun K hK => ?_)
           refine goes_ Try.func51 (by kernel_rfl) rfl #[.int .i64 a0, .int .i64 4] (by rfl) rfl rfl zm ?_
           with_reducible refine (impl_bytesOf.calls k a0 4 t791 _ A3.out).mono ?_
           rintro e w17 ⟨rfl, hb⟩
           refine ⟨_, rfl, ?_⟩
           have n0_ := Aside0.mk (Kd.R_below (zr HO795.out) hb)
           have n1_ := Aside0.mk (blk_below (zk BK790.out) hb)
           have n2_ := Aside0.mk (below_step (by repeat (first | (with_reducible first | exact HB.out | apply below_alloc | apply pw_below_drewN | apply below_drew1 | refine below_set ?_ GE790.out) | exact HB.out)) hb)
           clear HO795
           clear BK790
           clear HB
           have HO795 := n0_
           have BK790 := n1_
           have HB := n2_
           clear n0_ n1_ n2_
           (try clear hb)
           (try clear hb2)
           (try clear hk)
           (try clear hi)
           refine hK.out _ _ ⟨(blk_cell BK790.out 0).trans rfl, (blk_cell BK790.out 1).trans rfl⟩ (fun hHeld => ?_)
           clear hK K
           refine norm_ (a' := ?_) ?_ ?_
           rotate_left
           ·show Act.put _ (some 7) _ = _
            simp only [Act.put, List.setIfInBounds_toArray, List.set_cons_zero, List.set_cons_succ, i64_w, i32_w]
            rfl
           exact norm_ (by first | (simp only [putAll, Act.put, List.setIfInBounds_toArray, List.set_cons_zero, List.set_cons_succ]; done) | (simp only [putAll, Act.put, List.setIfInBounds_toArray, List.set_cons_zero, List.set_cons_succ]; rfl)) (hJ1_10_11 (v794) _ ⟨hHeld, (zr HO795.out), (zk BK790.out), (by repeat (first | (with_reducible first | exact HB.out | apply below_alloc | apply pw_below_drewN | apply below_drew1 | refine below_set ?_ GE790.out) | exact HB.out))⟩)
         ·skip
          rintro v794 w16 ⟨hS_, h0_, h1_, h2_⟩
          have n0_ : Aside0 (Kd.R (Kd.int .u8) 5 w16 w.heap.size (fun _ => True) v794 y793) := ⟨h0_⟩
          have n1_ : Aside0 (w16.heap[gb790]? = some (.cells #[.int .i64 a1_0, .string a1_1] 45 (0, 0))) := ⟨h1_⟩
          have n2_ : Aside0 (Below w.heap.size w w16) := ⟨h2_⟩
          clear BK790
          clear HB
          clear h0_ h1_ h2_
          have HO795 := n0_
          have BK790 := n1_
          have HB := n2_
          clear n0_ n1_ n2_
          have hHeld : w16.cell? ⟨gb790, 0, none⟩ = some (.int .i64 a1_0) ∧ w16.cell? ⟨gb790, 1, none⟩ = some (.string a1_1) := hS_
          refine norm_ (a' := ?_) ?_ ?_
          rotate_left
          ·simp only [putAll, Act.put, List.setIfInBounds_toArray, List.set_cons_zero, List.set_cons_succ]
           rfl
          refine two_ (i := 5) (j := 11) (Ni := some 11) (Nj := some 17) #[true, true, true, true, true, true, false, true, true, true, true, false, false, true, true, false, false] #[true, true, true, true, true, false, false, true, true, true, true, true, false, true, true, false, false] rfl rfl rfl rfl (two_of HT_.out (by kernel_rfl)) (by decide) (by decide) (fun K hK => ?_) (fun K hK => ?_)
          ·skip
           refine goes_ Try.func51 (by kernel_rfl) rfl #[.int .i64 (a1_1.size : Int), .int .i64 4] (by rfl) rfl rfl zm ?_
           with_reducible refine (impl_bytesOf.calls k (a1_1.size : Int) 4 t792 _ A4.out).mono ?_
           rintro e w17 ⟨rfl, hb⟩
           refine ⟨_, rfl, ?_⟩
           have n0_ := Aside0.mk (Kd.R_below (zr HO795.out) hb)
           have n1_ := Aside0.mk (blk_below (zk BK790.out) hb)
           have n2_ := Aside0.mk (below_step (by repeat (first | (with_reducible first | exact HB.out | apply below_alloc | apply pw_below_drewN | apply below_drew1 | refine below_set ?_ GE790.out) | exact HB.out)) hb)
           clear HO795
           clear BK790
           clear HB
           have HO795 := n0_
           have BK790 := n1_
           have HB := n2_
           clear n0_ n1_ n2_
           (try clear hb)
           (try clear hb2)
           (try clear hk)
           (try clear hi)
           refine hK.out _ _ ⟨(blk_cell BK790.out 0).trans rfl, (blk_cell BK790.out 1).trans rfl⟩ (fun hHeld => ?_)
           clear hK K
           refine norm_ (a' := ?_) ?_ ?_
           rotate_left
           ·show Act.put _ (some 11) _ = _
            simp only [Act.put, List.setIfInBounds_toArray, List.set_cons_zero, List.set_cons_succ, i64_w, i32_w]
            rfl
           refine zp 6 12 ?_
           exact norm_ (by first | (simp only [putAll, Act.put, List.setIfInBounds_toArray, List.set_cons_zero, List.set_cons_succ]; done) | (simp only [putAll, Act.put, List.setIfInBounds_toArray, List.set_cons_zero, List.set_cons_succ]; rfl)) (hJ1_5_10 (v794) _ ⟨hHeld, (zr HO795.out), (zk BK790.out), (by repeat (first | (with_reducible first | exact HB.out | apply below_alloc | apply pw_below_drewN | apply below_drew1 | refine below_set ?_ GE790.out) | exact HB.out))⟩)
          ·skip
           have hcv17 := own_string (P := Try.prog) Try.underlying37 Try.underlying5 Try.underlying9 (Kd.own_of_R HO795.out)
           refine value_ (w1 := ?_) (v := ?_) (by rfl) rfl ?_ ?_
           rotate_left 2
           ·go_simp
            constructor
            ·rfl
            ·rfl
           clear hcv17
           refine hK.out _ _ ⟨(blk_cell BK790.out 0).trans rfl, (blk_cell BK790.out 1).trans rfl⟩ (fun hHeld => ?_)
           clear hK K
           refine norm_ (a' := ?_) ?_ ?_
           rotate_left
           ·show Act.put _ (some 17) _ = _
            simp only [Act.put, List.setIfInBounds_toArray, List.set_cons_zero, List.set_cons_succ, i64_w, i32_w]
            rfl
           exact norm_ (by first | (simp only [putAll, Act.put, List.setIfInBounds_toArray, List.set_cons_zero, List.set_cons_succ]; done) | (simp only [putAll, Act.put, List.setIfInBounds_toArray, List.set_cons_zero, List.set_cons_succ]; rfl)) (hJ1_10_11 (v794) _ ⟨hHeld, (zr HO795.out), (zk BK790.out), (by repeat (first | (with_reducible first | exact HB.out | apply below_alloc | apply pw_below_drewN | apply below_drew1 | refine below_set ?_ GE790.out) | exact HB.out))⟩)
        ·skip
         rintro _ w15 ⟨hS_, h0_, h1_⟩
         have n0_ : Aside0 (w15.heap[gb790]? = some (.cells #[.int .i64 a1_0, .string a1_1] 45 (0, 0))) := ⟨h0_⟩
         have n1_ : Aside0 (Below w.heap.size w w15) := ⟨h1_⟩
         clear BK790
         clear HB
         clear h0_ h1_
         have BK790 := n0_
         have HB := n1_
         clear n0_ n1_
         have hHeld : w15.cell? ⟨gb790, 0, none⟩ = some (.int .i64 a1_0) ∧ w15.cell? ⟨gb790, 1, none⟩ = some (.string a1_1) := hS_
         refine norm_ (a' := ?_) ?_ ?_
         rotate_left
         ·simp only [putAll, Act.put, List.setIfInBounds_toArray, List.set_cons_zero, List.set_cons_succ]
          rfl
         refine one_ (i := 10) (N := some 16) #[true, true, true, true, true, true, true, true, true, true, true, false, false, true, true, false, false] rfl rfl (one_of HT_.out (by kernel_rfl)) (by decide) (fun K hK => ?_)
         refine Kd.R_lit_step (Kd.int .u8) _ 5 ?hg (N := 16) ?hd (xs := ([(a1_0) % 256] : List Int)) (inner := [.int .u8 ((a1_0) % 256)]) (ok := fun _ => True) (okp := fun _ => True) ?hr ?hp (fun _ hk => hk) trivial (Below.refl _ _) (Nat.le_refl _) (by simp) ?_; (case hd => rfl); (case hg => rfl); (case hr => first | (go_simp; done) | (go_simp; rfl)); (case hp => exact (Reps.one (show Kd.M (Kd.int .u8) _ _ _ ((a1_0) % 256) [.int .u8 ((a1_0) % 256)] from rfl) (Reps.none _ _)))
         intro v794 w16 ho17 hb hg_ hnew_
         clear hg_ hnew_
         (first | rw [← Ny793.out] at ho17 | (simp only [Int.reduceToNat] at ho17; rw [← Ny793.out] at ho17))
         have n0_ := Aside0.mk (Kd.R_lower ho17 (below_size (by repeat (first | (with_reducible first | exact HB.out | apply below_alloc | apply pw_below_drewN | apply below_drew1 | refine below_set ?_ GE790.out) | exact HB.out))))
         have n1_ := Aside0.mk (blk_below (zk BK790.out) hb)
         have n2_ := Aside0.mk (below_step (by repeat (first | (with_reducible first | exact HB.out | apply below_alloc | apply pw_below_drewN | apply below_drew1 | refine below_set ?_ GE790.out) | exact HB.out)) hb)
         clear BK790
         clear HB
         have HO795 := n0_
         have BK790 := n1_
         have HB := n2_
         clear n0_ n1_ n2_
         clear hb ho17
         refine hK.out _ _ ⟨(blk_cell BK790.out 0).trans rfl, (blk_cell BK790.out 1).trans rfl⟩ (fun hHeld => ?_)
         clear hK K
         refine norm_ (a' := ?_) ?_ ?_
         rotate_left
         ·show Act.put _ (some 16) _ = _
          simp only [Act.put, List.setIfInBounds_toArray, List.set_cons_zero, List.set_cons_succ, i64_w, i32_w]
          rfl
         exact norm_ (by first | (simp only [putAll, Act.put, List.setIfInBounds_toArray, List.set_cons_zero, List.set_cons_succ]; done) | (simp only [putAll, Act.put, List.setIfInBounds_toArray, List.set_cons_zero, List.set_cons_succ]; rfl)) (hJ1_5_10 (v794) _ ⟨hHeld, (zr HO795.out), (zk BK790.out), (by repeat (first | (with_reducible first | exact HB.out | apply below_alloc | apply pw_below_drewN | apply below_drew1 | refine below_set ?_ GE790.out) | exact HB.out))⟩)
       ·skip
        rintro v794 w17 ⟨hS_, h0_, h1_, h2_⟩
        have n0_ : Aside0 (Kd.R (Kd.int .u8) 5 w17 w.heap.size (fun _ => True) v794 y793) := ⟨h0_⟩
        have n1_ : Aside0 (w17.heap[gb790]? = some (.cells #[.int .i64 a1_0, .string a1_1] 45 (0, 0))) := ⟨h1_⟩
        have n2_ : Aside0 (Below w.heap.size w w17) := ⟨h2_⟩
        clear BK790
        clear HB
        clear h0_ h1_ h2_
        have HO795 := n0_
        have BK790 := n1_
        have HB := n2_
        clear n0_ n1_ n2_
        have hHeld : w17.cell? ⟨gb790, 0, none⟩ = some (.int .i64 a1_0) ∧ w17.cell? ⟨gb790, 1, none⟩ = some (.string a1_1) := hS_
        refine norm_ (a' := ?_) ?_ ?_
        rotate_left
        ·simp only [putAll, Act.put, List.setIfInBounds_toArray, List.set_cons_zero, List.set_cons_succ]
         rfl
        refine one_ (i := 5) (N := some 11) #[true, true, true, true, true, true, false, true, true, true, true, true, false, true, true, false, false] rfl rfl (one_of HT_.out (by kernel_rfl)) (by decide) (fun K hK => ?_)
        refine goes_ Try.func51 (by kernel_rfl) rfl #[.int .i64 (a1_1.size : Int), .int .i64 4] (by rfl) rfl rfl zm ?_
        with_reducible refine (impl_bytesOf.calls k (a1_1.size : Int) 4 t792 _ A4.out).mono ?_
        rintro e w18 ⟨rfl, hb⟩
        refine ⟨_, rfl, ?_⟩
        have n0_ := Aside0.mk (Kd.R_below (zr HO795.out) hb)
        have n1_ := Aside0.mk (blk_below (zk BK790.out) hb)
        have n2_ := Aside0.mk (below_step (by repeat (first | (with_reducible first | exact HB.out | apply below_alloc | apply pw_below_drewN | apply below_drew1 | refine below_set ?_ GE790.out) | exact HB.out)) hb)
        clear HO795
        clear BK790
        clear HB
        have HO795 := n0_
        have BK790 := n1_
        have HB := n2_
        clear n0_ n1_ n2_
        (try clear hb)
        (try clear hb2)
        (try clear hk)
        (try clear hi)
        refine hK.out _ _ ⟨(blk_cell BK790.out 0).trans rfl, (blk_cell BK790.out 1).trans rfl⟩ (fun hHeld => ?_)
        clear hK K
        refine norm_ (a' := ?_) ?_ ?_
        rotate_left
        ·show Act.put _ (some 11) _ = _
         simp only [Act.put, List.setIfInBounds_toArray, List.set_cons_zero, List.set_cons_succ, i64_w, i32_w]
         rfl
        refine zp 6 12 ?_
        exact norm_ (by first | (simp only [putAll, Act.put, List.setIfInBounds_toArray, List.set_cons_zero, List.set_cons_succ]; done) | (simp only [putAll, Act.put, List.setIfInBounds_toArray, List.set_cons_zero, List.set_cons_succ]; rfl)) (hJ1_5_10_11 (v794) _ ⟨hHeld, (zr HO795.out), (zk BK790.out), (by repeat (first | (with_reducible first | exact HB.out | apply below_alloc | apply pw_below_drewN | apply below_drew1 | refine below_set ?_ GE790.out) | exact HB.out))⟩)
      ·skip
       rintro v794 w17 ⟨hS_, h0_, h1_, h2_⟩
       have n0_ : Aside0 (Kd.R (Kd.int .u8) 5 w17 w.heap.size (fun _ => True) v794 y793) := ⟨h0_⟩
       have n1_ : Aside0 (w17.heap[gb790]? = some (.cells #[.int .i64 a1_0, .string a1_1] 45 (0, 0))) := ⟨h1_⟩
       have n2_ : Aside0 (Below w.heap.size w w17) := ⟨h2_⟩
       clear BK790
       clear HB
       clear h0_ h1_ h2_
       have HO795 := n0_
       have BK790 := n1_
       have HB := n2_
       clear n0_ n1_ n2_
       have hHeld : w17.cell? ⟨gb790, 0, none⟩ = some (.int .i64 a1_0) ∧ w17.cell? ⟨gb790, 1, none⟩ = some (.string a1_1) := hS_
       refine norm_ (a' := ?_) ?_ ?_
       rotate_left
       ·simp only [putAll, Act.put, List.setIfInBounds_toArray, List.set_cons_zero, List.set_cons_succ]
        rfl
       refine one_ (i := 11) (N := some 17) #[true, true, true, true, true, true, true, true, true, true, true, true, false, true, true, false, false] rfl rfl (one_of HT_.out (by kernel_rfl)) (by decide) (fun K hK => ?_)
       have hcv18 := own_string (P := Try.prog) Try.underlying37 Try.underlying5 Try.underlying9 (Kd.own_of_R HO795.out)
       refine value_ (w1 := ?_) (v := ?_) (by rfl) rfl ?_ ?_
       rotate_left 2
       ·go_simp
        constructor
        ·rfl
        ·rfl
       clear hcv18
       refine hK.out _ _ ⟨(blk_cell BK790.out 0).trans rfl, (blk_cell BK790.out 1).trans rfl⟩ (fun hHeld => ?_)
       clear hK K
       refine norm_ (a' := ?_) ?_ ?_
       rotate_left
       ·show Act.put _ (some 17) _ = _
        simp only [Act.put, List.setIfInBounds_toArray, List.set_cons_zero, List.set_cons_succ, i64_w, i32_w]
        rfl
       exact norm_ (by first | (simp only [putAll, Act.put, List.setIfInBounds_toArray, List.set_cons_zero, List.set_cons_succ]; done) | (simp only [putAll, Act.put, List.setIfInBounds_toArray, List.set_cons_zero, List.set_cons_succ]; rfl)) (hJ1_5_10_11 (v794) _ ⟨hHeld, (zr HO795.out), (zk BK790.out), (by repeat (first | (with_reducible first | exact HB.out | apply below_alloc | apply pw_below_drewN | apply below_drew1 | refine below_set ?_ GE790.out) | exact HB.out))⟩)
     rintro v794 w18 ⟨hS_, h0_, h1_, h2_⟩
     have n0_ : Aside0 (Kd.R (Kd.int .u8) 5 w18 w.heap.size (fun _ => True) v794 y793) := ⟨h0_⟩
     have n1_ : Aside0 (w18.heap[gb790]? = some (.cells #[.int .i64 a1_0, .string a1_1] 45 (0, 0))) := ⟨h1_⟩
     have n2_ : Aside0 (Below w.heap.size w w18) := ⟨h2_⟩
     clear BK790
     clear HB
     clear h0_ h1_ h2_
     have HO795 := n0_
     have BK790 := n1_
     have HB := n2_
     clear n0_ n1_ n2_
     have hHeld : w18.cell? ⟨gb790, 0, none⟩ = some (.int .i64 a1_0) ∧ w18.cell? ⟨gb790, 1, none⟩ = some (.string a1_1) := hS_
     refine norm_ (a' := ?_) ?_ ?_
     rotate_left
     ·simp only [putAll, Act.put, List.setIfInBounds_toArray, List.set_cons_zero, List.set_cons_succ]
      rfl
     refine zp 12 18 ?_
     refine zp 15 21 ?_
     refine zp 16 5 ?_
     refine done_ (done_of HT_.out (by kernel_rfl)) ?_
     try go_wp2_with (first | ((with_reducible refine gate_callee (f := 43) rfl ?_); refine goesL_ (some 24) rfl rfl Try.func43 (by kernel_rfl) rfl #[.string (((t791 ++ t792) ++ (strOfNums y793)) ++ a1_1)] rfl zm ?_; (with_reducible refine (impl_Crc.calls k (((t791 ++ t792) ++ (strOfNums y793)) ++ a1_1) t796 _ A8.out).mono ?_); rintro e w' ⟨rfl, ⟨nd, rfl⟩⟩; refine ⟨_, rfl, ?_⟩) | ((with_reducible refine gate_callee (f := 51) rfl ?_); refine goesL_ (some 25) rfl rfl Try.func51 (by kernel_rfl) rfl #[.int .i64 t796, .int .i64 4] rfl zm ?_; (with_reducible refine (impl_bytesOf.calls k t796 4 t797 _ A9.out).mono ?_); rintro e w19 ⟨rfl, hb⟩; refine ⟨_, rfl, ?_⟩; have n0_ := Aside0.mk (Kd.R_below (zr HO795.out) hb); have n1_ := Aside0.mk (blk_below (zk BK790.out) hb); have n2_ := Aside0.mk (below_step (by repeat (first | (with_reducible first | exact HB.out | apply below_alloc | apply pw_below_drewN | apply below_drew1 | refine below_set ?_ GE790.out) | exact HB.out)) hb); clear HO795; clear BK790; clear HB; have HO795 := n0_; have BK790 := n1_; have HB := n2_; clear n0_ n1_ n2_; (try clear hb); (try clear hb2); (try clear hk); (try clear hi)))
     go_ret
     exact ⟨by first | rfl | (simp [errW_none, errW_some] <;> rfl) | (simp [*, errW_none, errW_some] <;> rfl), by repeat (first | (with_reducible first | exact HB.out | apply below_alloc | apply pw_below_drewN | apply below_drew1 | refine below_set ?_ GE790.out) | exact HB.out)⟩
    ·rw [if_neg c10] at H
     cases H
   ·rw [if_neg c7] at H
    cases H
  ·rw [if_neg c6] at H
   cases H
 ·rw [if_neg c5] at H
  cases H

end Go.Proofs.Ytnicllekmkkhlaa.QFnDiskSafe
