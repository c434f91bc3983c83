/- A group's node: the reference's checksum over its log: written by a program of this session and, where no program prints it, by hand. No condition. -/
import Derived.Test.YtkfjgloalfpcmaaYsA
import Derived.Test.YtkfjgloalfpcmaaWideC
namespace Go.Proofs.Ytkfjgloalfpcmaa.QFnExactNodeOK
open Go.RowKit Go.Proofs.YtkfjgloalfpcmaaW.PrintWords Go.Proofs.YtkfjgloalfpcmaaW.PrintLast Go.Proofs.YtkfjgloalfpcmaaW.PrintMore
attribute [local go_sem] max2_int min2_int max_two min_two max_three min_three max_four min_four str_gtr str_leq str_geq pw_at_slice
set_option linter.unusedVariables false
set_option linter.unusedSimpArgs false
theorem qYsBz0 {P : Prop} (h : P := by first | rfl | (simp; done) | (simp [*]; done)) : P := h
theorem fz16YsB {w : World} {g : Nat} {t : TypeId} {cs : Array Value} (h : w.heap[g]? = some (.cells cs t (0, 0))) : w.frozen? ⟨g, 0, none⟩ = false ∧ w.frozen? ⟨g, 1, none⟩ = false ∧ w.frozen? ⟨g, 2, none⟩ = false ∧ w.frozen? ⟨g, 3, none⟩ = false ∧ w.frozen? ⟨g, 4, none⟩ = false ∧ w.frozen? ⟨g, 5, none⟩ = false ∧ w.frozen? ⟨g, 6, none⟩ = false ∧ w.frozen? ⟨g, 7, none⟩ = false ∧ w.frozen? ⟨g, 8, none⟩ = false ∧ w.frozen? ⟨g, 9, none⟩ = false ∧ w.frozen? ⟨g, 10, none⟩ = false ∧ w.frozen? ⟨g, 11, none⟩ = false ∧ w.frozen? ⟨g, 12, none⟩ = false ∧ w.frozen? ⟨g, 13, none⟩ = false ∧ w.frozen? ⟨g, 14, none⟩ = false ∧ w.frozen? ⟨g, 15, none⟩ = false := ⟨blk_frozen h 0, blk_frozen h 1, blk_frozen h 2, blk_frozen h 3, blk_frozen h 4, blk_frozen h 5, blk_frozen h 6, blk_frozen h 7, blk_frozen h 8, blk_frozen h 9, blk_frozen h 10, blk_frozen h 11, blk_frozen h 12, blk_frozen h 13, blk_frozen h 14, blk_frozen h 15⟩
theorem cl16YsB {w : World} {g : Nat} {t : TypeId} {v0 v1 v2 v3 v4 v5 v6 v7 v8 v9 v10 v11 v12 v13 v14 v15 : Value} (h : w.heap[g]? = some (.cells #[v0, v1, v2, v3, v4, v5, v6, v7, v8, v9, v10, v11, v12, v13, v14, v15] t (0, 0))) : w.cell? ⟨g, 0, none⟩ = some v0 ∧ w.cell? ⟨g, 1, none⟩ = some v1 ∧ w.cell? ⟨g, 2, none⟩ = some v2 ∧ w.cell? ⟨g, 3, none⟩ = some v3 ∧ w.cell? ⟨g, 4, none⟩ = some v4 ∧ w.cell? ⟨g, 5, none⟩ = some v5 ∧ w.cell? ⟨g, 6, none⟩ = some v6 ∧ w.cell? ⟨g, 7, none⟩ = some v7 ∧ w.cell? ⟨g, 8, none⟩ = some v8 ∧ w.cell? ⟨g, 9, none⟩ = some v9 ∧ w.cell? ⟨g, 10, none⟩ = some v10 ∧ w.cell? ⟨g, 11, none⟩ = some v11 ∧ w.cell? ⟨g, 12, none⟩ = some v12 ∧ w.cell? ⟨g, 13, none⟩ = some v13 ∧ w.cell? ⟨g, 14, none⟩ = some v14 ∧ w.cell? ⟨g, 15, none⟩ = some v15 := ⟨(blk_cell h 0).trans rfl, (blk_cell h 1).trans rfl, (blk_cell h 2).trans rfl, (blk_cell h 3).trans rfl, (blk_cell h 4).trans rfl, (blk_cell h 5).trans rfl, (blk_cell h 6).trans rfl, (blk_cell h 7).trans rfl, (blk_cell h 8).trans rfl, (blk_cell h 9).trans rfl, (blk_cell h 10).trans rfl, (blk_cell h 11).trans rfl, (blk_cell h 12).trans rfl, (blk_cell h 13).trans rfl, (blk_cell h 14).trans rfl, (blk_cell h 15).trans rfl⟩
/-! ### spec_Crc: function 59 -/
set_option maxRecDepth 100000 in
mutual
def spec_Crc.l0 : Nat → ByteArray → Int → Int → Option (Int)
 | 0, _, _, _ => none
 | k + 1, x0, x3, x4 => if x4 < (x0.size : Int) then (if 0 ≤ x4 then (spec_Crc.l1 k x0 x3 x4 (wrap64 (bt x0 x4)) 0) else (none)) else (some (Go.bits .xor .i64 x3 4294967295))
def spec_Crc.l1 : Nat → ByteArray → Int → Int → Int → Int → Option (Int)
 | 0, _, _, _, _, _ => none
 | k + 1, x0, x3, x4, x5, x6 => if x6 < 8 then (if (Go.bits .and .i64 (Go.bits .xor .i64 x3 x5) 1) = 1 then (spec_Crc.l1 k x0 (Go.bits .xor .i64 (x3 / 2) 3988292384) x4 (x5 / 2) (wrap64 (x6 + 1))) else (spec_Crc.l1 k x0 (x3 / 2) x4 (x5 / 2) (wrap64 (x6 + 1)))) else (spec_Crc.l0 k x0 x3 (wrap64 (x4 + 1)))
end
def spec_Crc.f (k : Nat) (a0 : ByteArray) : Option (Int) := spec_Crc.l0 k a0 4294967295 0
set_option maxHeartbeats 8000000 in
set_option maxRecDepth 100000 in
theorem spec_Crc.calls (k : Nat) (a0 : ByteArray) (r : Int) (w : World) (h : spec_Crc.f k a0 = some r) :
  Calls Try.prog 59 #[.string a0] w fun e w' => e = .returned (.int .i64 r) ∧ Drawn0 w w' := by
 have H : (spec_Crc.l0 k a0 4294967295 0) = some r := h; clear h; have H' := Aside0.mk H; clear H
 go_enter Try.func59, Try.ntmps59
 go_wp2
 go_loopg [3, 4] k (fun kq v3 v4 w' => ∃ (x3_1 : Int) (x4_1 : Int), v3 = .int .i64 x3_1 ∧ v4 = .int .i64 x4_1 ∧ Aside0 (spec_Crc.l0 kq a0 x3_1 x4_1 = some r) ∧ Aside0 (kq ≤ k) ∧ Drawn0 w w')
 case atStart => exact ⟨(4294967295), (0), qYsBz0, qYsBz0, H', ⟨Nat.le_refl _⟩, by repeat (first | exact Drawn0.refl _ | apply Drawn0.step)⟩
 case round =>
  clear H'; obtain ⟨x3_1, x4_1, rfl, rfl, HA, HK1, ⟨m1, rfl⟩⟩ := hrel
  cases gk with
  | zero => exact absurd HA.out (by simp [spec_Crc.l0])
  | succ k1 =>
   have H := HA.out; clear HA; simp only [spec_Crc.l0] at H
   by_cases c2 : x4_1 < (a0.size : Int)
   ·rw [if_pos c2] at H
    have c2b0 : decide (x4_1 < (a0.size : Int)) = true := decide_eq_true c2; clear c2
    by_cases c3 : 0 ≤ x4_1
    ·rw [if_pos c3] at H
     have c3b0 : decide (0 ≤ x4_1) = true := decide_eq_true c3; clear c3; have H' := Aside0.mk H; clear H; have p4 : 0 ≤ (x4_1 : Int) := of_decide_eq_true (by first | (with_reducible assumption) | assumption); have q4 : x4_1 < (a0.size : Int) := of_decide_eq_true (by first | (with_reducible assumption) | assumption); have hx4 := bt_at a0 x4_1; replace p4 := eq_true p4; replace q4 := eq_true q4
     go_wp2
     go_loopg [3, 5, 6] k1 (fun kq v3 v5 v6 w' => ∃ (x3_2 : Int) (x5_2 : Int) (x6_2 : Int), v3 = .int .i64 x3_2 ∧ v5 = .int .i64 x5_2 ∧ v6 = .int .i64 x6_2 ∧ Aside0 (spec_Crc.l1 kq a0 x3_2 x4_1 x5_2 x6_2 = some r) ∧ Aside0 (kq ≤ k1) ∧ Drawn0 w w')
     case atStart => exact ⟨(x3_1), (wrap64 (bt a0 x4_1)), (0), qYsBz0, qYsBz0, qYsBz0, H', ⟨Nat.le_refl _⟩, by repeat (first | exact Drawn0.refl _ | apply Drawn0.step)⟩
     case round =>
      clear H'; (try clear c2); (try clear c2b0); (try clear c3); (try clear c3b0); (try clear p4); (try clear q4); (try clear hx4); (try clear p4); (try clear q4); obtain ⟨x3_2, x5_2, x6_2, rfl, rfl, rfl, HA, HK2, ⟨m2, rfl⟩⟩ := hrel
      cases gk with
      | zero => exact absurd HA.out (by simp [spec_Crc.l1])
      | succ k2 =>
       have H := HA.out; clear HA; simp only [spec_Crc.l1] at H
       by_cases c5 : x6_2 < 8
       ·rw [if_pos c5] at H
        have c5b0 : decide (x6_2 < 8) = true := decide_eq_true c5; clear c5
        by_cases c6 : (Go.bits .and .i64 (Go.bits .xor .i64 x3_2 x5_2) 1) = 1
        ·rw [if_pos c6] at H
         have c6b0 : ((Go.bits .and .i64 (Go.bits .xor .i64 x3_2 x5_2) 1) == 1) = true := beq_iff_eq.mpr c6; have c6b1 : ((Go.bits .and .i64 (Go.bits .xor .i64 x3_2 x5_2) 1) != 1) = false := bne_eq_false_iff_eq.mpr c6; clear c6; have H' := Aside0.mk H; clear H
         go_wp2
         go_roundg k2
         case measure => have := HK1.out; have := HK2.out; omega
         case rel => exact ⟨(Go.bits .xor .i64 (x3_2 / 2) 3988292384), (x5_2 / 2), (wrap64 (x6_2 + 1)), qYsBz0, qYsBz0, qYsBz0, H', ⟨by have := HK1.out; have := HK2.out; omega⟩, by repeat (first | exact Drawn0.refl _ | apply Drawn0.step)⟩
        ·rw [if_neg c6] at H
         have c6b0 : ((Go.bits .and .i64 (Go.bits .xor .i64 x3_2 x5_2) 1) == 1) = false := beq_eq_false_iff_ne.mpr c6; have c6b1 : ((Go.bits .and .i64 (Go.bits .xor .i64 x3_2 x5_2) 1) != 1) = true := bne_iff_ne.mpr c6; have H' := Aside0.mk H; clear H
         go_wp2
         go_roundg k2
         case measure => have := HK1.out; have := HK2.out; omega
         case rel => exact ⟨(x3_2 / 2), (x5_2 / 2), (wrap64 (x6_2 + 1)), qYsBz0, qYsBz0, qYsBz0, H', ⟨by have := HK1.out; have := HK2.out; omega⟩, by repeat (first | exact Drawn0.refl _ | apply Drawn0.step)⟩
       ·rw [if_neg c5] at H
        have c5b0 : decide (x6_2 < 8) = false := decide_eq_false c5; clear c5; have H' := Aside0.mk H; clear H
        go_wp2
        go_roundg k2
        case measure => have := HK1.out; have := HK2.out; omega
        case rel => exact ⟨(x3_2), (wrap64 (x4_1 + 1)), qYsBz0, qYsBz0, H', ⟨by have := HK1.out; have := HK2.out; omega⟩, by repeat (first | exact Drawn0.refl _ | apply Drawn0.step)⟩
    ·rw [if_neg c3] at H
     cases H
   ·rw [if_neg c2] at H
    have c2b0 : decide (x4_1 < (a0.size : Int)) = false := decide_eq_false c2; clear c2; obtain rfl := Option.some.inj H
    go_wp2
    go_ret
    exact ⟨by first | rfl | (simp; done) | (simp [*]; done), by repeat (first | exact Drawn0.refl _ | apply Drawn0.step)⟩


/-! ### spec_l01Bytes: function 60 -/
set_option maxRecDepth 100000 in
def spec_l01Bytes.l0 : Nat → Int → List Int → Int → Option (ByteArray)
 | 0, _, _, _ => none
 | k + 1, x0, x5, x6 => if x6 ≥ 0 then (if 0 ≤ x6 then (if x6 < (x5.length : Int) then (spec_l01Bytes.l0 k (wrap64 (Int.tdiv x0 256)) (x5.set (x6 : Int).toNat ((Int.tmod x0 256) % 256)) (wrap64 (x6 - 1))) else (none)) else (none)) else (some (strOfNums x5))
def spec_l01Bytes.f (k : Nat) (a0 : Int) (a1 : Int) : Option (ByteArray) := if 0 ≤ a1 then (if (a1 : Int).toNat ≤ 281474976710656 then (spec_l01Bytes.l0 k a0 (List.replicate (a1 : Int).toNat 0) (wrap64 (a1 - 1))) else (none)) else (none)
set_option maxHeartbeats 8000000 in
set_option maxRecDepth 100000 in
theorem spec_l01Bytes.calls (k : Nat) (a0 : Int) (a1 : Int) (r : ByteArray) (w : World) (h : spec_l01Bytes.f k a0 a1 = some r) :
  Calls Try.prog 60 #[.int .i64 a0, .int .i64 a1] w fun e w' => e = .returned (.string r) ∧ Below w.heap.size w w' := by
 have HB := Aside0.mk (Below.refl w.heap.size w); have H : (if 0 ≤ a1 then (if (a1 : Int).toNat ≤ 281474976710656 then (spec_l01Bytes.l0 k a0 (List.replicate (a1 : Int).toNat 0) (wrap64 (a1 - 1))) else (none)) else (none)) = some r := h; clear h
 by_cases c3 : 0 ≤ a1
 ·rw [if_pos c3] at H
  have c3b0 := eq_true c3; have c3b1 : decide (0 ≤ a1) = true := decide_eq_true c3; clear c3
  by_cases c4 : (a1 : Int).toNat ≤ 281474976710656
  ·rw [if_pos c4] at H
   have c4b0 := eq_true c4; have c4b1 : decide ((a1 : Int).toNat ≤ 281474976710656) = true := decide_eq_true c4; clear c4; obtain ⟨y672, hy672⟩ : ∃ y_ : List Int, y_ = (List.replicate (a1 : Int).toNat 0) := ⟨_, rfl⟩
   replace H : (spec_l01Bytes.l0 k a0 y672 (wrap64 (a1 - 1))) = some r := by first | (rw [hy672]; with_reducible exact H) | (have H2_ := (Option.bind_some _ _).symm.trans H; rw [hy672]; with_reducible exact H2_) | (have H2_ := (Option.bind_some _ _).symm.trans H; with_reducible exact H2_) | with_reducible exact H | (rw [hy672]; exact H) | exact H
   have Ny672 := Aside0.mk hy672; clear hy672; have H' := Aside0.mk H; clear H
   go_enter Try.func60, Try.ntmps60
   go_wp2_with (first | ((with_reducible refine gate_dst (N := 8) rfl ?_); refine Kd.R_make (Kd.int .u8) _ 5 rfl (N := 8) rfl 43 _ _ rfl a1 rfl rfl Try.underlying43 (.int .u8 0) 1 info5 rfl (by decide) (by omega) 0 (ok := fun _ => True) (okp := fun _ => True) rfl (fun _ hk => hk) trivial (of_decide_eq_true (by first | (with_reducible assumption) | assumption)) (Nat.le_trans (Nat.mul_le_mul_right _ (of_decide_eq_true (by first | (with_reducible assumption) | assumption) : a1.toNat ≤ 281474976710656)) (by omega)) (Below.refl _ _) (Nat.le_refl _) ?_; intro v673 w5 ho6 hb hg_ hnew_; clear hg_ hnew_; (first | rw [← Ny672.out] at ho6 | (simp only [Int.reduceToNat] at ho6; rw [← Ny672.out] at ho6)); have n0_ := Aside0.mk (Kd.R_lower ho6 (below_size zb)); have n1_ := Aside0.mk (below_step zb hb); clear HB; have HO674 := n0_; have HB := n1_; clear n0_ n1_; clear hb ho6))
   go_loopg [0, 6] k (fun kq v0 v6 w' => ∃ (x0_1 : Int) (x5_1 : List Int) (x6_1 : Int), v0 = .int .i64 x0_1 ∧ v6 = .int .i64 x6_1 ∧ Aside0 (spec_l01Bytes.l0 kq x0_1 x5_1 x6_1 = some r) ∧ Aside0 (kq ≤ k) ∧ Aside0 (Kd.R (Kd.int .u8) 5 w' w.heap.size (fun _ => True) v673 x5_1) ∧ Aside0 (Below w.heap.size w w'))
   case atStart => exact ⟨(a0), (y672), (wrap64 (a1 - 1)), qYsBz0, qYsBz0, H', ⟨Nat.le_refl _⟩, ⟨zr HO674.out⟩, ⟨zb⟩⟩
   case round =>
    clear H'; (try clear c3); (try clear c3b0); (try clear c3b1); (try clear c4); (try clear c4b0); (try clear c4b1); obtain ⟨x0_1, x5_1, x6_1, rfl, rfl, HA, HK1, HO_5, HB⟩ := hrel
    cases gk with
    | zero => exact absurd HA.out (by simp [spec_l01Bytes.l0])
    | succ k1 =>
     have H := HA.out; clear HA; simp only [spec_l01Bytes.l0] at H
     by_cases c7 : x6_1 ≥ 0
     ·rw [if_pos c7] at H
      have c7b0 : decide (0 ≤ x6_1) = true := decide_eq_true c7; clear c7
      by_cases c8 : 0 ≤ x6_1
      ·rw [if_pos c8] at H
       have c8b0 : decide (0 ≤ x6_1) = true := decide_eq_true c8; clear c8
       by_cases c9 : x6_1 < (x5_1.length : Int)
       ·rw [if_pos c9] at H
        have c9b0 : decide (x6_1 < (x5_1.length : Int)) = true := decide_eq_true c9; clear c9; obtain ⟨y675, hy675⟩ : ∃ y_ : List Int, y_ = (x5_1.set (x6_1 : Int).toNat ((Int.tmod x0_1 256) % 256)) := ⟨_, rfl⟩
        replace H : (spec_l01Bytes.l0 k1 (wrap64 (Int.tdiv x0_1 256)) y675 (wrap64 (x6_1 - 1))) = some r := by first | (rw [hy675]; with_reducible exact H) | (have H2_ := (Option.bind_some _ _).symm.trans H; rw [hy675]; with_reducible exact H2_) | (have H2_ := (Option.bind_some _ _).symm.trans H; with_reducible exact H2_) | with_reducible exact H | (rw [hy675]; exact H) | exact H
        have Ny675 := Aside0.mk hy675; clear hy675; have H' := Aside0.mk H; clear H; have p10 : 0 ≤ (x6_1 : Int) := of_decide_eq_true (by first | (with_reducible assumption) | assumption); have q10 : (x6_1 : Int) < ((x5_1.length : Int) : Int) := of_decide_eq_true (by first | (with_reducible assumption) | assumption); obtain ⟨go10, co10, eo10, gb10, gl10, cl10, HG10⟩ := Kd.R_form HO_5.out (by omega); (first | cases eo10 | (injection eo10 with ea_ en_ ec_; (first | subst ea_ | (injection ea_ with ea_; subst ea_)); subst ec_; clear en_)); have GB10 := Aside0.mk gb10; have GG10 := Aside0.mk HG10; clear gb10 gl10 HG10; obtain ⟨hx10_0, hf10_0⟩ := Kd.R_celln 0 HO_5.out (x6_1 : Int) p10 q10; replace p10 := eq_true p10; replace q10 := eq_true q10; have HP11 := Kd.R_putg HO_5.out (x6_1 : Int) ((Int.tmod x0_1 256) % 256)
        go_wp2_with (first | ((with_reducible refine gate_store (t := 5) (p := 20) rfl ?_); refine store_event (t := 5) (p := 20) (v := ?vo_w12) (w1 := (wr.setCell ⟨go10, (x6_1 : Int).toNat, none⟩ (.int .u8 ((Int.tmod x0_1 256) % 256)))) ?hg ?ho ?hn ?hr ?_; (case ho => rfl); (case hg => rfl); (case hn => rfl); (case hr => first | (go_simp; done) | (go_simp; rfl)); intro w12 hw; have hg : wr.grownBy w12 (some go10) := (by rw [hw]; exact HP11.2); have hp_ : Kd.R (Kd.int .u8) 5 w12 w.heap.size (fun _ => True) (.slice (some ⟨go10, 0, none⟩) x5_1.length co10) y675 := (by rw [hw, Ny675.out]; exact HP11.1); clear HP11; have n0_ := Aside0.mk (hp_); have n1_ := Aside0.mk ((by rw [hw]; exact below_set (HB.out) GB10.out : Below w.heap.size w w12)); clear HO_5; clear HB; have HO_5 := n0_; have HB := n1_; clear n0_ n1_; clear hg hw hp_))
        go_roundg k1
        case measure => have := HK1.out; omega
        case rel => exact ⟨(wrap64 (Int.tdiv x0_1 256)), (y675), (wrap64 (x6_1 - 1)), qYsBz0, qYsBz0, H', ⟨by have := HK1.out; omega⟩, ⟨zr HO_5.out⟩, ⟨zb⟩⟩
       ·rw [if_neg c9] at H
        cases H
      ·rw [if_neg c8] at H
       cases H
     ·rw [if_neg c7] at H
      have c7b0 : decide (0 ≤ x6_1) = false := decide_eq_false c7; clear c7; obtain rfl := Option.some.inj H; have hcv13 := own_string (P := Try.prog) Try.underlying43 Try.underlying5 Try.underlying9 (Kd.own_of_R HO_5.out)
      go_wp2
      go_ret
      exact ⟨by first | rfl | (simp [errW_none, errW_some] <;> rfl) | (simp [*, errW_none, errW_some] <;> rfl), zb⟩
  ·rw [if_neg c4] at H
   cases H
 ·rw [if_neg c3] at H
  cases H


/-! ### spec_l05SumAt: function 44 -/
set_option maxRecDepth 100000 in
mutual
def spec_l05SumAt.l0 : Nat → Int → Int → Int → Int → Int → Int → Int → Int → List (S54) → Int → Int → Int → Int → Int → Int → Int → Int → List Int → List Int → Option (Int)
 | 0, _, _, _, _, _, _, _, _, _, _, _, _, _, _, _, _, _, _, _ => none
 | k + 1, x1, x5, x6, x677000, x677001, x677002, x677003, x677004, x677005, x677006, x677007, x677008, x677009, x677010, x677011, x677012, x677013, x677014, x677015 => if x6 < (x677005.length : Int) then (spec_l05SumAt.j1 k x1 x5 x6 (decide ((wrap64 (x677006 + x6)) < x1)) x677000 x677001 x677002 x677003 x677004 x677005 x677006 x677007 x677008 x677009 x677010 x677011 x677012 x677013 x677014 x677015) else (spec_l05SumAt.j1 k x1 x5 x6 false x677000 x677001 x677002 x677003 x677004 x677005 x677006 x677007 x677008 x677009 x677010 x677011 x677012 x677013 x677014 x677015)
def spec_l05SumAt.j1 : Nat → Int → Int → Int → Bool → Int → Int → Int → Int → Int → List (S54) → Int → Int → Int → Int → Int → Int → Int → Int → List Int → List Int → Option (Int)
 | 0, _, _, _, _, _, _, _, _, _, _, _, _, _, _, _, _, _, _, _, _ => none
 | k + 1, x1, x5, x6, x21, x677000, x677001, x677002, x677003, x677004, x677005, x677006, x677007, x677008, x677009, x677010, x677011, x677012, x677013, x677014, x677015 => if x21 = true then (if 0 ≤ x6 then (if x6 < (x677005.length : Int) then (if ((rd_T54 x677005 x6).f1) = 2 then ((spec_l01Bytes.f k x5 4).bind fun t678 => (if t678.size + ((rd_T54 x677005 x6).f2).size ≤ 9223372036854775807 then ((spec_Crc.f k (t678 ++ ((rd_T54 x677005 x6).f2))).bind fun t680 => (spec_l05SumAt.l0 k x1 t680 (wrap64 (x6 + 1)) x677000 x677001 x677002 x677003 x677004 x677005 x677006 x677007 x677008 x677009 x677010 x677011 x677012 x677013 x677014 x677015)) else (none))) else (spec_l05SumAt.l0 k x1 x5 (wrap64 (x6 + 1)) x677000 x677001 x677002 x677003 x677004 x677005 x677006 x677007 x677008 x677009 x677010 x677011 x677012 x677013 x677014 x677015)) else (none)) else (none)) else (some x5)
end
def spec_l05SumAt.f (k : Nat) (b0 b1 b2 b3 b4 : Int) (l0_5 : List (S54)) (b6 b7 b8 b9 b10 b11 b12 b13 : Int) (l0_14 : List Int) (l0_15 : List Int) (a1 : Int) : Option (Int) := spec_l05SumAt.l0 k a1 b10 0 b0 b1 b2 b3 b4 l0_5 b6 b7 b8 b9 b10 b11 b12 b13 l0_14 l0_15
def spec_l05SumAt.T6 : Bool × List (List Nat × List Nat) := (true, [([], []), ([0], [0]), ([], []), ([2], [2]), ([], []), ([3, 4], [3, 4]), ([5], [5]), ([6], [6]), ([1, 7], [1, 7]), ([8, 1], [8]), ([9, 9, 0, 1, 2, 3, 4, 5, 6, 7, 8, 9], [0, 9])])
def spec_l05SumAt.B6 : List Nat := [0, 1, 0, 4, 0, 28, 60, 124, 255, 511, 1023]
theorem spec_l05SumAt.tab6 : rtab .any (opsOf Try.f44 6) = spec_l05SumAt.T6 := by kernel_rfl
theorem spec_l05SumAt.bits6 : waitsOk spec_l05SumAt.T6.2 spec_l05SumAt.B6 = true := by kernel_rfl
set_option maxHeartbeats 8000000 in
set_option maxRecDepth 100000 in
theorem spec_l05SumAt.calls (k : Nat) (b0 b1 b2 b3 b4 : Int) (A0_5 : Option Addr) (c0_5 : Nat) (l0_5 : List (S54)) (b6 b7 b8 b9 b10 b11 b12 b13 : Int) (A0_14 : Option Addr) (c0_14 : Nat) (l0_14 : List Int) (A0_15 : Option Addr) (c0_15 : Nat) (l0_15 : List Int) (a1 : Int) (r : Int) (w : World) (hr0_5 : Kd.C k54 w A0_5 l0_5.length l0_5) (hc0_5 : l0_5.length ≤ c0_5) (hr0_14 : Kd.C (Kd.int .i64) w A0_14 l0_14.length l0_14) (hc0_14 : l0_14.length ≤ c0_14) (hr0_15 : Kd.C (Kd.int .i64) w A0_15 l0_15.length l0_15) (hc0_15 : l0_15.length ≤ c0_15) (h : spec_l05SumAt.f k b0 b1 b2 b3 b4 l0_5 b6 b7 b8 b9 b10 b11 b12 b13 l0_14 l0_15 a1 = some r) :
  Calls Try.prog 44 #[.agg #[.int .i64 b0, .int .i64 b1, .int .i64 b2, .int .i64 b3, .int .i64 b4, .slice A0_5 l0_5.length c0_5, .int .i64 b6, .int .i64 b7, .int .i64 b8, .int .i64 b9, .int .i64 b10, .int .i64 b11, .int .i64 b12, .int .i64 b13, .slice A0_14 l0_14.length c0_14, .slice A0_15 l0_15.length c0_15], .int .i64 a1] w fun e w' => e = .returned (.int .i64 r) ∧ Below w.heap.size w w' := by
 have hu30 := Try.underlying30; have HR0_5 := Aside0.mk hr0_5; have HC0_5 := Aside0.mk hc0_5; clear hr0_5 hc0_5; have HR0_14 := Aside0.mk hr0_14; have HC0_14 := Aside0.mk hc0_14; clear hr0_14 hc0_14; have HR0_15 := Aside0.mk hr0_15; have HC0_15 := Aside0.mk hc0_15; clear hr0_15 hc0_15; have HB := Aside0.mk (Below.refl w.heap.size w); have H : (spec_l05SumAt.l0 k a1 b10 0 b0 b1 b2 b3 b4 l0_5 b6 b7 b8 b9 b10 b11 b12 b13 l0_14 l0_15) = some r := h; clear h; have H' := Aside0.mk H; clear H
 go_enter Try.func44, Try.ntmps44
 go_wp2_with (first | ((with_reducible refine gate_dst (N := 2) rfl ?_); refine box_event ?hg (N := 2) ?hd (cs := #[.int .i64 b0, .int .i64 b1, .int .i64 b2, .int .i64 b3, .int .i64 b4, .slice A0_5 l0_5.length c0_5, .int .i64 b6, .int .i64 b7, .int .i64 b8, .int .i64 b9, .int .i64 b10, .int .i64 b11, .int .i64 b12, .int .i64 b13, .slice A0_14 l0_14.length c0_14, .slice A0_15 l0_15.length c0_15]) (t := 30) ?hr ?_; (case hd => rfl); (case hg => rfl); (case hr => first | (go_simp; done) | (go_simp; rfl)); intro gb676 hg w3 hbox hb; have n0_ := Aside0.mk (below_step zb hb); have n1_ := Aside0.mk (hbox); have n2_ := Aside0.mk ((by rw [hg]; exact (below_size zb) : w.heap.size ≤ gb676)); have n3_ := Aside0.mk ((by rw [hg]; exact (below_size zb) : w.heap.size ≤ gb676)); clear HB; have HB := n0_; have BK676 := n1_; have GW676 := n2_; have GE676 := n3_; clear n0_ n1_ n2_ n3_; clear hb hbox hg; obtain ⟨y4_0, y4_1, y4_2, y4_3, y4_4, y4_5, y4_6, y4_7, y4_8, y4_9, y4_10, y4_11, y4_12, y4_13, y4_14, y4_15⟩ := cl16YsB BK676.out; obtain ⟨z4_0, z4_1, z4_2, z4_3, z4_4, z4_5, z4_6, z4_7, z4_8, z4_9, z4_10, z4_11, z4_12, z4_13, z4_14, z4_15⟩ := fz16YsB BK676.out))
 go_loopg [5, 6] k (fun kq v5 v6 w' => ∃ (x5_1 : Int) (x6_1 : Int), v5 = .int .i64 x5_1 ∧ v6 = .int .i64 x6_1 ∧ Aside0 (spec_l05SumAt.l0 kq a1 x5_1 x6_1 b0 b1 b2 b3 b4 l0_5 b6 b7 b8 b9 b10 b11 b12 b13 l0_14 l0_15 = some r) ∧ Aside0 (kq ≤ k) ∧ Aside0 (w'.heap[gb676]? = some (.cells #[.int .i64 b0, .int .i64 b1, .int .i64 b2, .int .i64 b3, .int .i64 b4, (.slice A0_5 l0_5.length c0_5), .int .i64 b6, .int .i64 b7, .int .i64 b8, .int .i64 b9, .int .i64 b10, .int .i64 b11, .int .i64 b12, .int .i64 b13, (.slice A0_14 l0_14.length c0_14), (.slice A0_15 l0_15.length c0_15)] 30 (0, 0))) ∧ Aside0 (Below w.heap.size w w'))
 case atStart => exact ⟨(b10), (0), qYsBz0, qYsBz0, H', ⟨Nat.le_refl _⟩, ⟨by (with_reducible repeat (first | refine blk_drewN ?_ _ | refine blk_drew ?_ | refine blk_alloc ?_ _)); exact BK676.out⟩, ⟨by repeat (first | (with_reducible first | exact HB.out | apply below_alloc | apply pw_below_drewN | apply below_drew1 | refine below_set ?_ GE676.out) | exact HB.out)⟩⟩
 case round =>
  clear H'; (try clear y4_0 y4_1 y4_10 y4_11 y4_12 y4_13 y4_14 y4_15 y4_2 y4_3 y4_4 y4_5 y4_6 y4_7 y4_8 y4_9); (try clear z4_0 z4_1 z4_10 z4_11 z4_12 z4_13 z4_14 z4_15 z4_2 z4_3 z4_4 z4_5 z4_6 z4_7 z4_8 z4_9); obtain ⟨x5_1, x6_1, rfl, rfl, HA, HK1, BK676, HB⟩ := hrel
  cases gk with
  | zero => exact absurd HA.out (by simp [spec_l05SumAt.l0])
  | succ k1 =>
   have H := HA.out; clear HA; simp only [spec_l05SumAt.l0] at H; have HC5 := Aside0.mk H; clear H
   go_upto_region 3 with (fail)
   go_cut [21] (fun v21 wc => ∃ (kq : Nat) (x21_4 : Bool), v21 = .bool x21_4 ∧ Aside0 (spec_l05SumAt.j1 kq a1 x5_1 x6_1 x21_4 b0 b1 b2 b3 b4 l0_5 b6 b7 b8 b9 b10 b11 b12 b13 l0_14 l0_15 = some r) ∧ Aside0 (kq ≤ k1) ∧ Aside0 (wc.heap[gb676]? = some (.cells #[.int .i64 b0, .int .i64 b1, .int .i64 b2, .int .i64 b3, .int .i64 b4, (.slice A0_5 l0_5.length c0_5), .int .i64 b6, .int .i64 b7, .int .i64 b8, .int .i64 b9, .int .i64 b10, .int .i64 b11, .int .i64 b12, .int .i64 b13, (.slice A0_14 l0_14.length c0_14), (.slice A0_15 l0_15.length c0_15)] 30 (0, 0))) ∧ Aside0 (Below w.heap.size w wc))
   case first =>
    have H := HC5.out; clear HC5
    by_cases c6 : x6_1 < (l0_5.length : Int)
    ·rw [if_pos c6] at H
     have c6b0 : decide (x6_1 < (l0_5.length : Int)) = true := decide_eq_true c6; clear c6; (first | rw [c6b0] | (simp only [i64_w, i32_w]; rw [c6b0]) | skip); have H' := Aside0.mk H; clear H; obtain ⟨y7_0, y7_1, y7_2, y7_3, y7_4, y7_5, y7_6, y7_7, y7_8, y7_9, y7_10, y7_11, y7_12, y7_13, y7_14, y7_15⟩ := cl16YsB BK676.out; obtain ⟨z7_0, z7_1, z7_2, z7_3, z7_4, z7_5, z7_6, z7_7, z7_8, z7_9, z7_10, z7_11, z7_12, z7_13, z7_14, z7_15⟩ := fz16YsB BK676.out
     go_wp2
     go_meet
     case rel => exact ⟨_, (decide ((wrap64 (b6 + x6_1)) < a1)), qYsBz0, H', ⟨by have := HK1.out; first | omega | exact Nat.le_refl _⟩, ⟨by (with_reducible repeat (first | refine blk_drewN ?_ _ | refine blk_drew ?_ | refine blk_alloc ?_ _)); exact BK676.out⟩, ⟨by repeat (first | (with_reducible first | exact HB.out | apply below_alloc | apply pw_below_drewN | apply below_drew1 | refine below_set ?_ GE676.out) | exact HB.out)⟩⟩
    ·rw [if_neg c6] at H
     have c6b0 : decide (x6_1 < (l0_5.length : Int)) = false := decide_eq_false c6; clear c6; (first | rw [c6b0] | (simp only [i64_w, i32_w]; rw [c6b0]) | skip); have H' := Aside0.mk H; clear H; obtain ⟨y8_0, y8_1, y8_2, y8_3, y8_4, y8_5, y8_6, y8_7, y8_8, y8_9, y8_10, y8_11, y8_12, y8_13, y8_14, y8_15⟩ := cl16YsB BK676.out; obtain ⟨z8_0, z8_1, z8_2, z8_3, z8_4, z8_5, z8_6, z8_7, z8_8, z8_9, z8_10, z8_11, z8_12, z8_13, z8_14, z8_15⟩ := fz16YsB BK676.out
     go_wp2
     go_meet
     case rel => exact ⟨_, (false), qYsBz0, H', ⟨by have := HK1.out; first | omega | exact Nat.le_refl _⟩, ⟨by (with_reducible repeat (first | refine blk_drewN ?_ _ | refine blk_drew ?_ | refine blk_alloc ?_ _)); exact BK676.out⟩, ⟨by repeat (first | (with_reducible first | exact HB.out | apply below_alloc | apply pw_below_drewN | apply below_drew1 | refine below_set ?_ GE676.out) | exact HB.out)⟩⟩
   case rest =>
    clear HC5; (try clear y4_0 y4_1 y4_10 y4_11 y4_12 y4_13 y4_14 y4_15 y4_2 y4_3 y4_4 y4_5 y4_6 y4_7 y4_8 y4_9); (try clear z4_0 z4_1 z4_10 z4_11 z4_12 z4_13 z4_14 z4_15 z4_2 z4_3 z4_4 z4_5 z4_6 z4_7 z4_8 z4_9); obtain ⟨kq, x21_4, rfl, HA, HJ4, BK676, HB⟩ := hcut
    cases kq with
    | zero => exact absurd HA.out (by simp [spec_l05SumAt.j1])
    | succ kj4 =>
     have H := HA.out; clear HA; simp only [spec_l05SumAt.j1] at H
     by_cases c9 : x21_4 = true
     ·subst c9
      have H1 : (if 0 ≤ x6_1 then (if x6_1 < (l0_5.length : Int) then (if ((rd_T54 l0_5 x6_1).f1) = 2 then ((spec_l01Bytes.f kj4 x5_1 4).bind fun t678 => (if t678.size + ((rd_T54 l0_5 x6_1).f2).size ≤ 9223372036854775807 then ((spec_Crc.f kj4 (t678 ++ ((rd_T54 l0_5 x6_1).f2))).bind fun t680 => (spec_l05SumAt.l0 kj4 a1 t680 (wrap64 (x6_1 + 1)) b0 b1 b2 b3 b4 l0_5 b6 b7 b8 b9 b10 b11 b12 b13 l0_14 l0_15)) else (none))) else (spec_l05SumAt.l0 kj4 a1 x5_1 (wrap64 (x6_1 + 1)) b0 b1 b2 b3 b4 l0_5 b6 b7 b8 b9 b10 b11 b12 b13 l0_14 l0_15)) else (none)) else (none)) = some r := by rw [if_pos rfl] at H; exact H
      clear H; have H := H1; clear H1
      by_cases c10 : 0 ≤ x6_1
      ·rw [if_pos c10] at H
       have c10b0 : decide (0 ≤ x6_1) = true := decide_eq_true c10; clear c10
       by_cases c11 : x6_1 < (l0_5.length : Int)
       ·rw [if_pos c11] at H
        have c11b0 : decide (x6_1 < (l0_5.length : Int)) = true := decide_eq_true c11; clear c11
        by_cases c12 : ((rd_T54 l0_5 x6_1).f1) = 2
        ·rw [if_pos c12] at H
         have c12b0 : (((rd_T54 l0_5 x6_1).f1) == 2) = true := beq_iff_eq.mpr c12; have c12b1 : (((rd_T54 l0_5 x6_1).f1) != 2) = false := bne_eq_false_iff_eq.mpr c12; clear c12; replace H := Option.bind_eq_some_iff.mp H; obtain ⟨t678, A130, H⟩ := H; replace H : (if t678.size + ((rd_T54 l0_5 x6_1).f2).size ≤ 9223372036854775807 then ((spec_Crc.f kj4 (t678 ++ ((rd_T54 l0_5 x6_1).f2))).bind fun t680 => (spec_l05SumAt.l0 kj4 a1 t680 (wrap64 (x6_1 + 1)) b0 b1 b2 b3 b4 l0_5 b6 b7 b8 b9 b10 b11 b12 b13 l0_14 l0_15)) else (none)) = some r := H; have A13 := Aside0.mk A130; clear A130
         by_cases c14 : t678.size + ((rd_T54 l0_5 x6_1).f2).size ≤ 9223372036854775807
         ·rw [if_pos c14] at H
          have c14b0 := eq_true c14; have c14b1 : decide (t678.size + ((rd_T54 l0_5 x6_1).f2).size ≤ 9223372036854775807) = true := decide_eq_true c14
          try have c14b2 : (9223372036854775807 < t678.size + ((rd_T54 l0_5 x6_1).f2).size) = False := eq_false (Nat.not_lt.2 c14)
          try (have c14b3 := c14b2; simp only [ByteArray.size_append] at c14b3)
          replace H := Option.bind_eq_some_iff.mp H; obtain ⟨t680, A150, H⟩ := H; replace H : (spec_l05SumAt.l0 kj4 a1 t680 (wrap64 (x6_1 + 1)) b0 b1 b2 b3 b4 l0_5 b6 b7 b8 b9 b10 b11 b12 b13 l0_14 l0_15) = some r := H; have A15 := Aside0.mk A150; clear A150; have H' := Aside0.mk H; clear H; obtain ⟨y16_0, y16_1, y16_2, y16_3, y16_4, y16_5, y16_6, y16_7, y16_8, y16_9, y16_10, y16_11, y16_12, y16_13, y16_14, y16_15⟩ := cl16YsB BK676.out; obtain ⟨z16_0, z16_1, z16_2, z16_3, z16_4, z16_5, z16_6, z16_7, z16_8, z16_9, z16_10, z16_11, z16_12, z16_13, z16_14, z16_15⟩ := fz16YsB BK676.out; have p677 : 0 ≤ (x6_1 : Int) := of_decide_eq_true (by first | (with_reducible assumption) | assumption); have q677 : x6_1 < (l0_5.length : Int) := of_decide_eq_true (by first | (with_reducible assumption) | assumption); obtain ⟨ad677, e677, hx677_0, hx677_1, hx677_2, hx677_3, hx677_4⟩ := at_T54 HR0_5.out x6_1 p677 q677; cases e677; replace hx677_0 := cb HB hx677_0; replace hx677_1 := cb HB hx677_1; replace hx677_2 := cb HB hx677_2; replace hx677_3 := cb HB hx677_3; replace hx677_4 := cb HB hx677_4; replace p677 := eq_true p677; replace q677 := eq_true q677
          try go_wp2
          have n0_ := Aside0.mk (blk_drew BK676.out); have n1_ := Aside0.mk (below_drew1 HB.out); clear BK676; clear HB; have BK676 := n0_; have HB := n1_; clear n0_ n1_; have p679 : 0 ≤ (x6_1 : Int) := of_decide_eq_true (by first | (with_reducible assumption) | assumption); have q679 : x6_1 < (l0_5.length : Int) := of_decide_eq_true (by first | (with_reducible assumption) | assumption); obtain ⟨ad679, e679, hx679_0, hx679_1, hx679_2, hx679_3, hx679_4⟩ := at_T54 HR0_5.out x6_1 p679 q679; have hw679_4 := hx679_4; have hw679_3 := hx679_3; have hw679_2 := hx679_2; have hw679_1 := hx679_1; have hw679_0 := hx679_0; obtain rfl : ad677 = ad679 := (by injection e679); replace hx679_0 := cb HB hx679_0; replace hx679_1 := cb HB hx679_1; replace hx679_2 := cb HB hx679_2; replace hx679_3 := cb HB hx679_3; replace hx679_4 := cb HB hx679_4; replace p679 := eq_true p679; replace q679 := eq_true q679; refine start_ (n := 11) (S := fun w' => w'.cell? ⟨gb676, 0, none⟩ = some (.int .i64 b0) ∧ w'.cell? ⟨gb676, 1, none⟩ = some (.int .i64 b1) ∧ w'.cell? ⟨gb676, 2, none⟩ = some (.int .i64 b2) ∧ w'.cell? ⟨gb676, 3, none⟩ = some (.int .i64 b3) ∧ w'.cell? ⟨gb676, 4, none⟩ = some (.int .i64 b4) ∧ w'.cell? ⟨gb676, 5, none⟩ = some (.slice (some ad677) l0_5.length c0_5) ∧ w'.cell? ⟨gb676, 6, none⟩ = some (.int .i64 b6) ∧ w'.cell? ⟨gb676, 7, none⟩ = some (.int .i64 b7) ∧ w'.cell? ⟨gb676, 8, none⟩ = some (.int .i64 b8) ∧ w'.cell? ⟨gb676, 9, none⟩ = some (.int .i64 b9) ∧ w'.cell? ⟨gb676, 10, none⟩ = some (.int .i64 b10) ∧ w'.cell? ⟨gb676, 11, none⟩ = some (.int .i64 b11) ∧ w'.cell? ⟨gb676, 12, none⟩ = some (.int .i64 b12) ∧ w'.cell? ⟨gb676, 13, none⟩ = some (.int .i64 b13) ∧ w'.cell? ⟨gb676, 14, none⟩ = some (.slice A0_14 l0_14.length c0_14) ∧ w'.cell? ⟨gb676, 15, none⟩ = some (.slice A0_15 l0_15.length c0_15) ∧ w'.cell? (ad677.add ((x6_1).toNat * 5)) = some (.int .i64 ((rd_T54 l0_5 x6_1).f0)) ∧ w'.cell? ⟨(ad677.add ((x6_1).toNat * 5)).block, (ad677.add ((x6_1).toNat * 5)).off + 1, none⟩ = some (.int .i64 ((rd_T54 l0_5 x6_1).f1)) ∧ w'.cell? ⟨(ad677.add ((x6_1).toNat * 5)).block, (ad677.add ((x6_1).toNat * 5)).off + 2, none⟩ = some (.string ((rd_T54 l0_5 x6_1).f2)) ∧ w'.cell? ⟨(ad677.add ((x6_1).toNat * 5)).block, (ad677.add ((x6_1).toNat * 5)).off + 3, none⟩ = some (.int .i64 ((rd_T54 l0_5 x6_1).f3)) ∧ w'.cell? ⟨(ad677.add ((x6_1).toNat * 5)).block, (ad677.add ((x6_1).toNat * 5)).off + 4, none⟩ = some (.int .i64 ((rd_T54 l0_5 x6_1).f4))) (ds := []) #[false, false, false, false, false, false, false, false, false, false, false] (by kernel_rfl) rfl rfl ⟨(blk_cell BK676.out 0).trans rfl, (blk_cell BK676.out 1).trans rfl, (blk_cell BK676.out 2).trans rfl, (blk_cell BK676.out 3).trans rfl, (blk_cell BK676.out 4).trans rfl, (blk_cell BK676.out 5).trans rfl, (blk_cell BK676.out 6).trans rfl, (blk_cell BK676.out 7).trans rfl, (blk_cell BK676.out 8).trans rfl, (blk_cell BK676.out 9).trans rfl, (blk_cell BK676.out 10).trans rfl, (blk_cell BK676.out 11).trans rfl, (blk_cell BK676.out 12).trans rfl, (blk_cell BK676.out 13).trans rfl, (blk_cell BK676.out 14).trans rfl, (blk_cell BK676.out 15).trans rfl, ((HB.out.cell (World.block_lt_of_cell? w _ hw679_0)).trans hw679_0), ((HB.out.cell (World.block_lt_of_cell? w _ hw679_1)).trans hw679_1), ((HB.out.cell (World.block_lt_of_cell? w _ hw679_2)).trans hw679_2), ((HB.out.cell (World.block_lt_of_cell? w _ hw679_3)).trans hw679_3), ((HB.out.cell (World.block_lt_of_cell? w _ hw679_4)).trans hw679_4)⟩ (fun hHeld => ?_); refine with_tabW spec_l05SumAt.tab6 spec_l05SumAt.bits6 (fun HT_ HW_ => ?_)
          generalize wc.drew = w17 at BK676 HB hx679_0 hx679_1 hx679_2 hx679_3 hx679_4 hHeld ⊢
          refine zp 0 31 ?_; refine zp 2 33 ?_; refine zp 4 35 ?_; refine zt 3 34 ?_ (hr := by rintro w' ⟨s0, s1, s2, s3, s4, s5, s6, s7, s8, s9, s10, s11, s12, s13, s14, s15, s16, s17, s18, s19, s20⟩; go_simp; with_reducible rfl); refine zp 5 36 ?_; refine zp 6 37 ?_; refine zt 7 38 ?_ (hr := by rintro w' ⟨s0, s1, s2, s3, s4, s5, s6, s7, s8, s9, s10, s11, s12, s13, s14, s15, s16, s17, s18, s19, s20⟩; go_simp; with_reducible rfl); refine one_ (i := 1) (N := some 32) #[true, true, true, true, true, true, true, true, false, false, false] rfl rfl (one_of HT_.out (by kernel_rfl)) (by decide) (fun K hK => ?_); refine goes_ Try.func60 (by kernel_rfl) rfl #[.int .i64 x5_1, .int .i64 4] (by rfl) rfl rfl zm ?_; (with_reducible refine (spec_l01Bytes.calls kj4 x5_1 4 t678 _ A13.out).mono ?_); rintro e w18 ⟨rfl, hb⟩; refine ⟨_, rfl, ?_⟩; have n0_ := Aside0.mk (blk_below (zk BK676.out) hb); have n1_ := Aside0.mk (below_step (by repeat (first | (with_reducible first | exact HB.out | apply below_alloc | apply pw_below_drewN | apply below_drew1 | refine below_set ?_ GE676.out) | exact HB.out)) hb); clear BK676; clear HB; have BK676 := n0_; have HB := n1_; clear n0_ n1_; (try clear hb); (try clear hb2); (try clear hk); (try clear hi); refine hK.out _ _ ⟨(blk_cell BK676.out 0).trans rfl, (blk_cell BK676.out 1).trans rfl, (blk_cell BK676.out 2).trans rfl, (blk_cell BK676.out 3).trans rfl, (blk_cell BK676.out 4).trans rfl, (blk_cell BK676.out 5).trans rfl, (blk_cell BK676.out 6).trans rfl, (blk_cell BK676.out 7).trans rfl, (blk_cell BK676.out 8).trans rfl, (blk_cell BK676.out 9).trans rfl, (blk_cell BK676.out 10).trans rfl, (blk_cell BK676.out 11).trans rfl, (blk_cell BK676.out 12).trans rfl, (blk_cell BK676.out 13).trans rfl, (blk_cell BK676.out 14).trans rfl, (blk_cell BK676.out 15).trans rfl, ((HB.out.cell (World.block_lt_of_cell? w _ hw679_0)).trans hw679_0), ((HB.out.cell (World.block_lt_of_cell? w _ hw679_1)).trans hw679_1), ((HB.out.cell (World.block_lt_of_cell? w _ hw679_2)).trans hw679_2), ((HB.out.cell (World.block_lt_of_cell? w _ hw679_3)).trans hw679_3), ((HB.out.cell (World.block_lt_of_cell? w _ hw679_4)).trans hw679_4)⟩ (fun hHeld => ?_); clear hK K; refine norm_ (a' := ?_) ?_ ?_; rotate_left
          ·show Act.put _ (some 32) _ = _
           simp only [Act.put, List.setIfInBounds_toArray, List.set_cons_zero, List.set_cons_succ, i64_w, i32_w]; rfl
          refine zp 8 39 ?_; refine one_ (i := 9) (N := some 40) #[true, true, true, true, true, true, true, true, true, true, false] rfl rfl (one_of HT_.out (by kernel_rfl)) (by decide) (fun K hK => ?_); refine goes_ Try.func59 (by kernel_rfl) rfl #[.string (t678 ++ ((rd_T54 l0_5 x6_1).f2))] (by rfl) rfl rfl zm ?_; (with_reducible refine (spec_Crc.calls kj4 (t678 ++ ((rd_T54 l0_5 x6_1).f2)) t680 _ A15.out).mono ?_); rintro e w' ⟨rfl, ⟨nd, rfl⟩⟩; refine ⟨_, rfl, ?_⟩; refine hK.out _ _ ⟨(blk_cell BK676.out 0).trans rfl, (blk_cell BK676.out 1).trans rfl, (blk_cell BK676.out 2).trans rfl, (blk_cell BK676.out 3).trans rfl, (blk_cell BK676.out 4).trans rfl, (blk_cell BK676.out 5).trans rfl, (blk_cell BK676.out 6).trans rfl, (blk_cell BK676.out 7).trans rfl, (blk_cell BK676.out 8).trans rfl, (blk_cell BK676.out 9).trans rfl, (blk_cell BK676.out 10).trans rfl, (blk_cell BK676.out 11).trans rfl, (blk_cell BK676.out 12).trans rfl, (blk_cell BK676.out 13).trans rfl, (blk_cell BK676.out 14).trans rfl, (blk_cell BK676.out 15).trans rfl, ((HB.out.cell (World.block_lt_of_cell? w _ hw679_0)).trans hw679_0), ((HB.out.cell (World.block_lt_of_cell? w _ hw679_1)).trans hw679_1), ((HB.out.cell (World.block_lt_of_cell? w _ hw679_2)).trans hw679_2), ((HB.out.cell (World.block_lt_of_cell? w _ hw679_3)).trans hw679_3), ((HB.out.cell (World.block_lt_of_cell? w _ hw679_4)).trans hw679_4)⟩ (fun hHeld => ?_); clear hK K; refine norm_ (a' := ?_) ?_ ?_; rotate_left
          ·show Act.put _ (some 40) _ = _
           simp only [Act.put, List.setIfInBounds_toArray, List.set_cons_zero, List.set_cons_succ, i64_w, i32_w]; rfl
          refine zp 10 5 ?_; refine done_ (done_of HT_.out (by kernel_rfl)) ?_
          try go_wp2
          go_roundg kj4
          case measure => have := HK1.out; have := HJ4.out; omega
          case rel => exact ⟨(t680), (wrap64 (x6_1 + 1)), qYsBz0, qYsBz0, H', ⟨by have := HK1.out; have := HJ4.out; omega⟩, ⟨by (with_reducible repeat (first | refine blk_drewN ?_ _ | refine blk_drew ?_ | refine blk_alloc ?_ _)); exact BK676.out⟩, ⟨by repeat (first | (with_reducible first | exact HB.out | apply below_alloc | apply pw_below_drewN | apply below_drew1 | refine below_set ?_ GE676.out) | exact HB.out)⟩⟩
         ·rw [if_neg c14] at H
          cases H
        ·rw [if_neg c12] at H
         have c12b0 : (((rd_T54 l0_5 x6_1).f1) == 2) = false := beq_eq_false_iff_ne.mpr c12; have c12b1 : (((rd_T54 l0_5 x6_1).f1) != 2) = true := bne_iff_ne.mpr c12; have H' := Aside0.mk H; clear H; obtain ⟨y19_0, y19_1, y19_2, y19_3, y19_4, y19_5, y19_6, y19_7, y19_8, y19_9, y19_10, y19_11, y19_12, y19_13, y19_14, y19_15⟩ := cl16YsB BK676.out; obtain ⟨z19_0, z19_1, z19_2, z19_3, z19_4, z19_5, z19_6, z19_7, z19_8, z19_9, z19_10, z19_11, z19_12, z19_13, z19_14, z19_15⟩ := fz16YsB BK676.out; have p677 : 0 ≤ (x6_1 : Int) := of_decide_eq_true (by first | (with_reducible assumption) | assumption); have q677 : x6_1 < (l0_5.length : Int) := of_decide_eq_true (by first | (with_reducible assumption) | assumption); obtain ⟨ad677, e677, hx677_0, hx677_1, hx677_2, hx677_3, hx677_4⟩ := at_T54 HR0_5.out x6_1 p677 q677; cases e677; replace hx677_0 := cb HB hx677_0; replace hx677_1 := cb HB hx677_1; replace hx677_2 := cb HB hx677_2; replace hx677_3 := cb HB hx677_3; replace hx677_4 := cb HB hx677_4; replace p677 := eq_true p677; replace q677 := eq_true q677
         go_wp2
         go_roundg kj4
         case measure => have := HK1.out; have := HJ4.out; omega
         case rel => exact ⟨(x5_1), (wrap64 (x6_1 + 1)), qYsBz0, qYsBz0, H', ⟨by have := HK1.out; have := HJ4.out; omega⟩, ⟨by (with_reducible repeat (first | refine blk_drewN ?_ _ | refine blk_drew ?_ | refine blk_alloc ?_ _)); exact BK676.out⟩, ⟨by repeat (first | (with_reducible first | exact HB.out | apply below_alloc | apply pw_below_drewN | apply below_drew1 | refine below_set ?_ GE676.out) | exact HB.out)⟩⟩
       ·rw [if_neg c11] at H
        cases H
      ·rw [if_neg c10] at H
       cases H
     ·replace c9 := Bool.eq_false_iff.mpr c9
      subst c9
      have H1 : (some x5_1) = some r := by rw [if_neg (show ¬ (false = true) by decide)] at H; exact H
      clear H; have H := H1; clear H1; obtain rfl := Option.some.inj H
      go_wp2
      go_ret
      exact ⟨by first | rfl | (simp [errW_none, errW_some] <;> rfl) | (simp [*, errW_none, errW_some] <;> rfl), by repeat (first | (with_reducible first | exact HB.out | apply below_alloc | apply pw_below_drewN | apply below_drew1 | refine below_set ?_ GE676.out) | exact HB.out)⟩


end Go.Proofs.Ytkfjgloalfpcmaa.QFnExactNodeOK
