/- A group's node: the reference's checksum over its log: written by a program of this session and, where no program prints it, by hand. No condition. -/
import Derived.Test.YtkfjgloalfpcmaaSumA
namespace Go.Proofs.Ytkfjgloalfpcmaa.QFnExactNodeOK
open Go.RowKit Go.Proofs.YtkfjgloalfpcmaaW.PrintWords Go.Proofs.YtkfjgloalfpcmaaW.PrintLast Go.Proofs.YtkfjgloalfpcmaaW.PrintMore
attribute [local go_sem] max2_int min2_int max_two min_two max_three min_three max_four min_four str_gtr str_leq str_geq pw_at_slice
set_option linter.unusedVariables false
set_option linter.unusedSimpArgs false
/-! ### spec_Crc: function 59 -/
set_option maxRecDepth 100000 in
mutual
def spec_Crc.l0 : Nat → ByteArray → Int → Int → Option (Int)
  | 0, _, _, _ => none
  | k + 1, x0, x3, x4 => if x4 < (x0.size : Int) then (if 0 ≤ x4 then (spec_Crc.l1 k x0 x3 x4 (wrap64 (bt x0 x4)) 0) else (none)) else (some (Go.bits .xor .i64 x3 4294967295))
def spec_Crc.l1 : Nat → ByteArray → Int → Int → Int → Int → Option (Int)
  | 0, _, _, _, _, _ => none
  | k + 1, x0, x3, x4, x5, x6 => if x6 < 8 then (if (Go.bits .and .i64 (Go.bits .xor .i64 x3 x5) 1) = 1 then (spec_Crc.l1 k x0 (Go.bits .xor .i64 (x3 / 2) 3988292384) x4 (x5 / 2) (wrap64 (x6 + 1))) else (spec_Crc.l1 k x0 (x3 / 2) x4 (x5 / 2) (wrap64 (x6 + 1)))) else (spec_Crc.l0 k x0 x3 (wrap64 (x4 + 1)))
end
def spec_Crc.f (k : Nat) (a0 : ByteArray) : Option (Int) := spec_Crc.l0 k a0 4294967295 0
set_option maxHeartbeats 8000000 in
set_option maxRecDepth 100000 in
theorem spec_Crc.calls (k : Nat) (a0 : ByteArray) (r : Int) (w : World) (h : spec_Crc.f k a0 = some r) :
    Calls Try.prog 59 #[.string a0] w fun e w' => e = .returned (.int .i64 r) ∧ Drawn0 w w' := by
  have H : (spec_Crc.l0 k a0 4294967295 0) = some r := h
  clear h
  have H' := Aside0.mk H
  clear H
  go_enter Try.func59, Try.ntmps59
  go_wp2
  go_loopg [3, 4] k (fun kq v3 v4 w' => ∃ (x3_1 : Int) (x4_1 : Int), v3 = .int .i64 x3_1 ∧ v4 = .int .i64 x4_1 ∧ Aside0 (spec_Crc.l0 kq a0 x3_1 x4_1 = some r) ∧ Aside0 (kq ≤ k) ∧ Drawn0 w w')
  case atStart => exact ⟨(4294967295), (0), (by first | rfl | (simp; done) | (simp [*]; done)), (by first | rfl | (simp; done) | (simp [*]; done)), H', ⟨Nat.le_refl _⟩, by repeat (first | exact Drawn0.refl _ | apply Drawn0.step)⟩
  case round =>
    clear H'
    obtain ⟨x3_1, x4_1, rfl, rfl, HA, HK1, ⟨m1, rfl⟩⟩ := hrel
    cases gk with
    | zero => exact absurd HA.out (by simp [spec_Crc.l0])
    | succ k1 =>
      have H := HA.out
      clear HA
      simp only [spec_Crc.l0] at H
      by_cases c2 : x4_1 < (a0.size : Int)
      · rw [if_pos c2] at H
        have c2b0 : decide (x4_1 < (a0.size : Int)) = true := decide_eq_true c2
        clear c2
        by_cases c3 : 0 ≤ x4_1
        · rw [if_pos c3] at H
          have c3b0 : decide (0 ≤ x4_1) = true := decide_eq_true c3
          clear c3
          have H' := Aside0.mk H
          clear H
          have p4 : 0 ≤ (x4_1 : Int) := of_decide_eq_true (by first | (with_reducible assumption) | assumption)
          have q4 : x4_1 < (a0.size : Int) := of_decide_eq_true (by first | (with_reducible assumption) | assumption)
          have hx4 := bt_at a0 x4_1
          replace p4 := eq_true p4
          replace q4 := eq_true q4
          go_wp2
          go_loopg [3, 5, 6] k1 (fun kq v3 v5 v6 w' => ∃ (x3_2 : Int) (x5_2 : Int) (x6_2 : Int), v3 = .int .i64 x3_2 ∧ v5 = .int .i64 x5_2 ∧ v6 = .int .i64 x6_2 ∧ Aside0 (spec_Crc.l1 kq a0 x3_2 x4_1 x5_2 x6_2 = some r) ∧ Aside0 (kq ≤ k1) ∧ Drawn0 w w')
          case atStart => exact ⟨(x3_1), (wrap64 (bt a0 x4_1)), (0), (by first | rfl | (simp; done) | (simp [*]; done)), (by first | rfl | (simp; done) | (simp [*]; done)), (by first | rfl | (simp; done) | (simp [*]; done)), H', ⟨Nat.le_refl _⟩, by repeat (first | exact Drawn0.refl _ | apply Drawn0.step)⟩
          case round =>
            clear H'
            try clear c2
            try clear c2b0
            try clear p2
            try clear c3
            try clear c3b0
            try clear p4
            try clear q4
            try clear hx4
            try clear p4
            try clear q4
            obtain ⟨x3_2, x5_2, x6_2, rfl, rfl, rfl, HA, HK2, ⟨m2, rfl⟩⟩ := hrel
            cases gk with
            | zero => exact absurd HA.out (by simp [spec_Crc.l1])
            | succ k2 =>
              have H := HA.out
              clear HA
              simp only [spec_Crc.l1] at H
              by_cases c5 : x6_2 < 8
              · rw [if_pos c5] at H
                have c5b0 : decide (x6_2 < 8) = true := decide_eq_true c5
                clear c5
                by_cases c6 : (Go.bits .and .i64 (Go.bits .xor .i64 x3_2 x5_2) 1) = 1
                · rw [if_pos c6] at H
                  have c6b0 : ((Go.bits .and .i64 (Go.bits .xor .i64 x3_2 x5_2) 1) == 1) = true := beq_iff_eq.mpr c6
                  have c6b1 : ((Go.bits .and .i64 (Go.bits .xor .i64 x3_2 x5_2) 1) != 1) = false := bne_eq_false_iff_eq.mpr c6
                  clear c6
                  have H' := Aside0.mk H
                  clear H
                  go_wp2
                  go_roundg k2
                  case measure => have := HK1.out; have := HK2.out; omega
                  case rel => exact ⟨(Go.bits .xor .i64 (x3_2 / 2) 3988292384), (x5_2 / 2), (wrap64 (x6_2 + 1)), (by first | rfl | (simp; done) | (simp [*]; done)), (by first | rfl | (simp; done) | (simp [*]; done)), (by first | rfl | (simp; done) | (simp [*]; done)), H', ⟨by have := HK1.out; have := HK2.out; omega⟩, by repeat (first | exact Drawn0.refl _ | apply Drawn0.step)⟩
                · rw [if_neg c6] at H
                  have c6b0 : ((Go.bits .and .i64 (Go.bits .xor .i64 x3_2 x5_2) 1) == 1) = false := beq_eq_false_iff_ne.mpr c6
                  have c6b1 : ((Go.bits .and .i64 (Go.bits .xor .i64 x3_2 x5_2) 1) != 1) = true := bne_iff_ne.mpr c6
                  have H' := Aside0.mk H
                  clear H
                  go_wp2
                  go_roundg k2
                  case measure => have := HK1.out; have := HK2.out; omega
                  case rel => exact ⟨(x3_2 / 2), (x5_2 / 2), (wrap64 (x6_2 + 1)), (by first | rfl | (simp; done) | (simp [*]; done)), (by first | rfl | (simp; done) | (simp [*]; done)), (by first | rfl | (simp; done) | (simp [*]; done)), H', ⟨by have := HK1.out; have := HK2.out; omega⟩, by repeat (first | exact Drawn0.refl _ | apply Drawn0.step)⟩
              · rw [if_neg c5] at H
                have c5b0 : decide (x6_2 < 8) = false := decide_eq_false c5
                clear c5
                have H' := Aside0.mk H
                clear H
                go_wp2
                go_roundg k2
                case measure => have := HK1.out; have := HK2.out; omega
                case rel => exact ⟨(x3_2), (wrap64 (x4_1 + 1)), (by first | rfl | (simp; done) | (simp [*]; done)), (by first | rfl | (simp; done) | (simp [*]; done)), H', ⟨by have := HK1.out; have := HK2.out; omega⟩, by repeat (first | exact Drawn0.refl _ | apply Drawn0.step)⟩
        · rw [if_neg c3] at H
          exact absurd H (by simp)
      · rw [if_neg c2] at H
        have c2b0 : decide (x4_1 < (a0.size : Int)) = false := decide_eq_false c2
        clear c2
        obtain rfl := Option.some.inj H
        go_wp2
        go_ret
        exact ⟨by first | rfl | (simp; done) | (simp [*]; done), by repeat (first | exact Drawn0.refl _ | apply Drawn0.step)⟩


/-! ### spec_l01Bytes: function 60 -/
set_option maxRecDepth 100000 in
def spec_l01Bytes.l0 : Nat → Int → List Int → Int → Option (ByteArray)
  | 0, _, _, _ => none
  | k + 1, x0, x5, x6 => if x6 ≥ 0 then (if 0 ≤ x6 then (if x6 < (x5.length : Int) then (spec_l01Bytes.l0 k (wrap64 (Int.tdiv x0 256)) (x5.set (x6 : Int).toNat ((Int.tmod x0 256) % 256)) (wrap64 (x6 - 1))) else (none)) else (none)) else (some (strOfNums x5))
def spec_l01Bytes.f (k : Nat) (a0 : Int) (a1 : Int) : Option (ByteArray) := if 0 ≤ a1 then (if (a1 : Int).toNat ≤ 281474976710656 then (spec_l01Bytes.l0 k a0 (List.replicate (a1 : Int).toNat 0) (wrap64 (a1 - 1))) else (none)) else (none)
set_option maxHeartbeats 8000000 in
set_option maxRecDepth 100000 in
theorem spec_l01Bytes.calls (k : Nat) (a0 : Int) (a1 : Int) (r : ByteArray) (w : World) (h : spec_l01Bytes.f k a0 a1 = some r) :
    Calls Try.prog 60 #[.int .i64 a0, .int .i64 a1] w fun e w' => e = .returned (.string r) ∧ Below w.heap.size w w' := by
  have HB := Aside0.mk (Below.refl w.heap.size w)
  have H : (if 0 ≤ a1 then (if (a1 : Int).toNat ≤ 281474976710656 then (spec_l01Bytes.l0 k a0 (List.replicate (a1 : Int).toNat 0) (wrap64 (a1 - 1))) else (none)) else (none)) = some r := h
  clear h
  by_cases c3 : 0 ≤ a1
  · rw [if_pos c3] at H
    have c3b0 := eq_true c3
    have c3b1 : decide (0 ≤ a1) = true := decide_eq_true c3
    clear c3
    by_cases c4 : (a1 : Int).toNat ≤ 281474976710656
    · rw [if_pos c4] at H
      have c4b0 := eq_true c4
      have c4b1 : decide ((a1 : Int).toNat ≤ 281474976710656) = true := decide_eq_true c4
      clear c4
      obtain ⟨y672, hy672⟩ : ∃ y_ : List Int, y_ = (List.replicate (a1 : Int).toNat 0) := ⟨_, rfl⟩
      replace H : (spec_l01Bytes.l0 k a0 y672 (wrap64 (a1 - 1))) = some r := by first | (rw [hy672]; with_reducible exact H) | (have H2_ := (Option.bind_some _ _).symm.trans H; rw [hy672]; with_reducible exact H2_) | (have H2_ := (Option.bind_some _ _).symm.trans H; with_reducible exact H2_) | with_reducible exact H | (rw [hy672]; exact H) | exact H
      have Ny672 := Aside0.mk hy672
      clear hy672
      have H' := Aside0.mk H
      clear H
      go_enter Try.func60, Try.ntmps60
      go_wp2_with (first | ((with_reducible refine gate_dst (N := 8) rfl ?_); refine Kd.R_make (Kd.int .u8) _ 5 rfl (N := 8) rfl 43 _ _ rfl a1 rfl rfl Try.underlying43 (.int .u8 0) 1 info5 rfl (by decide) (by omega) 0 (ok := fun _ => True) (okp := fun _ => True) rfl (fun _ hk => hk) trivial (of_decide_eq_true (by first | (with_reducible assumption) | assumption)) (Nat.le_trans (Nat.mul_le_mul_right _ (of_decide_eq_true (by first | (with_reducible assumption) | assumption) : a1.toNat ≤ 281474976710656)) (by omega)) (Below.refl _ _) (Nat.le_refl _) ?_; intro v673 w5 ho6 hb hg_ hnew_; clear hg_ hnew_; (first | rw [← Ny672.out] at ho6 | (simp only [Int.reduceToNat] at ho6; rw [← Ny672.out] at ho6)); have n0_ := Aside0.mk (Kd.R_lower ho6 (below_size (by repeat (first | (with_reducible first | exact HB.out | apply below_alloc | apply pw_below_drewN | apply below_drew1) | exact HB.out)))); have n1_ := Aside0.mk (below_step (by repeat (first | (with_reducible first | exact HB.out | apply below_alloc | apply pw_below_drewN | apply below_drew1) | exact HB.out)) hb); clear HB; have HO674 := n0_; have HB := n1_; clear n0_ n1_; clear hb ho6))
      go_loopg [0, 6] k (fun kq v0 v6 w' => ∃ (x0_1 : Int) (x5_1 : List Int) (x6_1 : Int), v0 = .int .i64 x0_1 ∧ v6 = .int .i64 x6_1 ∧ Aside0 (spec_l01Bytes.l0 kq x0_1 x5_1 x6_1 = some r) ∧ Aside0 (kq ≤ k) ∧ Aside0 (Kd.R (Kd.int .u8) 5 w' w.heap.size (fun _ => True) v673 x5_1) ∧ Aside0 (Below w.heap.size w w'))
      case atStart => exact ⟨(a0), (y672), (wrap64 (a1 - 1)), (by first | rfl | (simp; done) | (simp [*]; done)), (by first | rfl | (simp; done) | (simp [*]; done)), H', ⟨Nat.le_refl _⟩, ⟨by (with_reducible repeat (first | apply Kd.R_alloc | apply Kd.R_drewN | apply Kd.R_drew)); exact HO674.out⟩, ⟨by repeat (first | (with_reducible first | exact HB.out | apply below_alloc | apply pw_below_drewN | apply below_drew1) | exact HB.out)⟩⟩
      case round =>
        clear H'
        try clear p2
        try clear c3
        try clear c3b0
        try clear c3b1
        try clear c4
        try clear c4b0
        try clear c4b1
        try clear c6
        try clear p6
        obtain ⟨x0_1, x5_1, x6_1, rfl, rfl, HA, HK1, HO_5, HB⟩ := hrel
        cases gk with
        | zero => exact absurd HA.out (by simp [spec_l01Bytes.l0])
        | succ k1 =>
          have H := HA.out
          clear HA
          simp only [spec_l01Bytes.l0] at H
          by_cases c7 : x6_1 ≥ 0
          · rw [if_pos c7] at H
            have c7b0 : decide (0 ≤ x6_1) = true := decide_eq_true c7
            clear c7
            by_cases c8 : 0 ≤ x6_1
            · rw [if_pos c8] at H
              have c8b0 : decide (0 ≤ x6_1) = true := decide_eq_true c8
              clear c8
              by_cases c9 : x6_1 < (x5_1.length : Int)
              · rw [if_pos c9] at H
                have c9b0 : decide (x6_1 < (x5_1.length : Int)) = true := decide_eq_true c9
                clear c9
                obtain ⟨y675, hy675⟩ : ∃ y_ : List Int, y_ = (x5_1.set (x6_1 : Int).toNat ((Int.tmod x0_1 256) % 256)) := ⟨_, rfl⟩
                replace H : (spec_l01Bytes.l0 k1 (wrap64 (Int.tdiv x0_1 256)) y675 (wrap64 (x6_1 - 1))) = some r := by first | (rw [hy675]; with_reducible exact H) | (have H2_ := (Option.bind_some _ _).symm.trans H; rw [hy675]; with_reducible exact H2_) | (have H2_ := (Option.bind_some _ _).symm.trans H; with_reducible exact H2_) | with_reducible exact H | (rw [hy675]; exact H) | exact H
                have Ny675 := Aside0.mk hy675
                clear hy675
                have H' := Aside0.mk H
                clear H
                have p10 : 0 ≤ (x6_1 : Int) := of_decide_eq_true (by first | (with_reducible assumption) | assumption)
                have q10 : (x6_1 : Int) < ((x5_1.length : Int) : Int) := of_decide_eq_true (by first | (with_reducible assumption) | assumption)
                obtain ⟨go10, co10, eo10, gb10, gl10, cl10, HG10⟩ := Kd.R_form HO_5.out (by omega)
                (first | cases eo10 | (injection eo10 with ea_ en_ ec_; (first | subst ea_ | (injection ea_ with ea_; subst ea_)); subst ec_; clear en_))
                have GB10 := Aside0.mk gb10
                have GG10 := Aside0.mk HG10
                clear gb10 gl10 HG10
                obtain ⟨hx10_0, hf10_0⟩ := Kd.R_celln 0 HO_5.out (x6_1 : Int) p10 q10
                replace p10 := eq_true p10
                replace q10 := eq_true q10
                have HP11 := Kd.R_putg HO_5.out (x6_1 : Int) ((Int.tmod x0_1 256) % 256)
                go_wp2_with (first | ((with_reducible refine gate_store (t := 5) (p := 20) rfl ?_); refine store_event (t := 5) (p := 20) (v := ?vo_w12) (w1 := (wr.setCell ⟨go10, (x6_1 : Int).toNat, none⟩ (.int .u8 ((Int.tmod x0_1 256) % 256)))) ?hg ?ho ?hn ?hr ?_; (case ho => rfl); (case hg => rfl); (case hn => rfl); (case hr => first | (go_simp; done) | (go_simp; rfl)); intro w12 hw; have hg : wr.grownBy w12 (some go10) := (by rw [hw]; exact HP11.2); have hp_ : Kd.R (Kd.int .u8) 5 w12 w.heap.size (fun _ => True) (.slice (some ⟨go10, 0, none⟩) x5_1.length co10) y675 := (by rw [hw, Ny675.out]; exact HP11.1); clear HP11; have n0_ := Aside0.mk (hp_); have n1_ := Aside0.mk ((by rw [hw]; exact below_set (HB.out) GB10.out : Below w.heap.size w w12)); clear HO_5; clear HB; have HO_5 := n0_; have HB := n1_; clear n0_ n1_; clear hg hw hp_))
                go_roundg k1
                case measure => have := HK1.out; omega
                case rel => exact ⟨(wrap64 (Int.tdiv x0_1 256)), (y675), (wrap64 (x6_1 - 1)), (by first | rfl | (simp; done) | (simp [*]; done)), (by first | rfl | (simp; done) | (simp [*]; done)), H', ⟨by have := HK1.out; omega⟩, ⟨by (with_reducible repeat (first | apply Kd.R_alloc | apply Kd.R_drewN | apply Kd.R_drew)); exact HO_5.out⟩, ⟨by repeat (first | (with_reducible first | exact HB.out | apply below_alloc | apply pw_below_drewN | apply below_drew1) | exact HB.out)⟩⟩
              · rw [if_neg c9] at H
                exact absurd H (by simp)
            · rw [if_neg c8] at H
              exact absurd H (by simp)
          · rw [if_neg c7] at H
            have c7b0 : decide (0 ≤ x6_1) = false := decide_eq_false c7
            clear c7
            obtain rfl := Option.some.inj H
            have hcv13 := own_string (P := Try.prog) Try.underlying43 Try.underlying5 Try.underlying9 (Kd.own_of_R HO_5.out)
            go_wp2
            go_ret
            exact ⟨by first | rfl | (simp [errW_none, errW_some] <;> rfl) | (simp [*, errW_none, errW_some] <;> rfl), by repeat (first | (with_reducible first | exact HB.out | apply below_alloc | apply pw_below_drewN | apply below_drew1) | exact HB.out)⟩
    · rw [if_neg c4] at H
      exact absurd H (by simp)
  · rw [if_neg c3] at H
    exact absurd H (by simp)


/-! ### spec_l05SumAt: function 44 -/
set_option maxRecDepth 100000 in
mutual
def spec_l05SumAt.l0 : Nat → Int → Int → Int → Int → Int → Int → Int → Int → List (S54) → Int → Int → Int → Int → Int → Int → Int → Int → List Int → List Int → Option (Int)
  | 0, _, _, _, _, _, _, _, _, _, _, _, _, _, _, _, _, _, _, _ => none
  | k + 1, x1, x5, x6, x677000, x677001, x677002, x677003, x677004, x677005, x677006, x677007, x677008, x677009, x677010, x677011, x677012, x677013, x677014, x677015 => if x6 < (x677005.length : Int) then (spec_l05SumAt.j1 k x1 x5 x6 (decide ((wrap64 (x677006 + x6)) < x1)) x677000 x677001 x677002 x677003 x677004 x677005 x677006 x677007 x677008 x677009 x677010 x677011 x677012 x677013 x677014 x677015) else (spec_l05SumAt.j1 k x1 x5 x6 false x677000 x677001 x677002 x677003 x677004 x677005 x677006 x677007 x677008 x677009 x677010 x677011 x677012 x677013 x677014 x677015)
def spec_l05SumAt.j1 : Nat → Int → Int → Int → Bool → Int → Int → Int → Int → Int → List (S54) → Int → Int → Int → Int → Int → Int → Int → Int → List Int → List Int → Option (Int)
  | 0, _, _, _, _, _, _, _, _, _, _, _, _, _, _, _, _, _, _, _, _ => none
  | k + 1, x1, x5, x6, x21, x677000, x677001, x677002, x677003, x677004, x677005, x677006, x677007, x677008, x677009, x677010, x677011, x677012, x677013, x677014, x677015 => if x21 = true then (if 0 ≤ x6 then (if x6 < (x677005.length : Int) then (if ((rd_T54 x677005 x6).f1) = 2 then ((spec_l01Bytes.f k x5 4).bind fun t678 => (if t678.size + ((rd_T54 x677005 x6).f2).size ≤ 9223372036854775807 then ((spec_Crc.f k (t678 ++ ((rd_T54 x677005 x6).f2))).bind fun t680 => (spec_l05SumAt.l0 k x1 t680 (wrap64 (x6 + 1)) x677000 x677001 x677002 x677003 x677004 x677005 x677006 x677007 x677008 x677009 x677010 x677011 x677012 x677013 x677014 x677015)) else (none))) else (spec_l05SumAt.l0 k x1 x5 (wrap64 (x6 + 1)) x677000 x677001 x677002 x677003 x677004 x677005 x677006 x677007 x677008 x677009 x677010 x677011 x677012 x677013 x677014 x677015)) else (none)) else (none)) else (some x5)
end
def spec_l05SumAt.f (k : Nat) (a0_0 : Int) (a0_1 : Int) (a0_2 : Int) (a0_3 : Int) (a0_4 : Int) (l0_5 : List (S54)) (a0_6 : Int) (a0_7 : Int) (a0_8 : Int) (a0_9 : Int) (a0_10 : Int) (a0_11 : Int) (a0_12 : Int) (a0_13 : Int) (l0_14 : List Int) (l0_15 : List Int) (a1 : Int) : Option (Int) := spec_l05SumAt.l0 k a1 a0_10 0 a0_0 a0_1 a0_2 a0_3 a0_4 l0_5 a0_6 a0_7 a0_8 a0_9 a0_10 a0_11 a0_12 a0_13 l0_14 l0_15
def spec_l05SumAt.T6 : Bool × List (List Nat × List Nat) := (true, [([], []), ([0], [0]), ([], []), ([2], [2]), ([], []), ([3, 4], [3, 4]), ([5], [5]), ([6], [6]), ([1, 7], [1, 7]), ([8, 1], [8]), ([9, 9, 0, 1, 2, 3, 4, 5, 6, 7, 8, 9], [0, 9])])
def spec_l05SumAt.B6 : List Nat := [0, 1, 0, 4, 0, 28, 60, 124, 255, 511, 1023]
theorem spec_l05SumAt.tab6 : rtab .any (opsOf Try.f44 6) = spec_l05SumAt.T6 := by kernel_rfl
theorem spec_l05SumAt.bits6 : waitsOk spec_l05SumAt.T6.2 spec_l05SumAt.B6 = true := by kernel_rfl
set_option maxHeartbeats 8000000 in
set_option maxRecDepth 100000 in
theorem spec_l05SumAt.calls (k : Nat) (a0_0 : Int) (a0_1 : Int) (a0_2 : Int) (a0_3 : Int) (a0_4 : Int) (A0_5 : Option Addr) (c0_5 : Nat) (l0_5 : List (S54)) (a0_6 : Int) (a0_7 : Int) (a0_8 : Int) (a0_9 : Int) (a0_10 : Int) (a0_11 : Int) (a0_12 : Int) (a0_13 : Int) (A0_14 : Option Addr) (c0_14 : Nat) (l0_14 : List Int) (A0_15 : Option Addr) (c0_15 : Nat) (l0_15 : List Int) (a1 : Int) (r : Int) (w : World) (hr0_5 : Kd.C k54 w A0_5 l0_5.length l0_5) (hc0_5 : l0_5.length ≤ c0_5) (hr0_14 : Kd.C (Kd.int .i64) w A0_14 l0_14.length l0_14) (hc0_14 : l0_14.length ≤ c0_14) (hr0_15 : Kd.C (Kd.int .i64) w A0_15 l0_15.length l0_15) (hc0_15 : l0_15.length ≤ c0_15) (h : spec_l05SumAt.f k a0_0 a0_1 a0_2 a0_3 a0_4 l0_5 a0_6 a0_7 a0_8 a0_9 a0_10 a0_11 a0_12 a0_13 l0_14 l0_15 a1 = some r) :
    Calls Try.prog 44 #[.agg #[.int .i64 a0_0, .int .i64 a0_1, .int .i64 a0_2, .int .i64 a0_3, .int .i64 a0_4, .slice A0_5 l0_5.length c0_5, .int .i64 a0_6, .int .i64 a0_7, .int .i64 a0_8, .int .i64 a0_9, .int .i64 a0_10, .int .i64 a0_11, .int .i64 a0_12, .int .i64 a0_13, .slice A0_14 l0_14.length c0_14, .slice A0_15 l0_15.length c0_15], .int .i64 a1] w fun e w' => e = .returned (.int .i64 r) ∧ Below w.heap.size w w' := by
  have hu30 := Try.underlying30
  have HR0_5 := Aside0.mk hr0_5
  have HC0_5 := Aside0.mk hc0_5
  clear hr0_5 hc0_5
  have HR0_14 := Aside0.mk hr0_14
  have HC0_14 := Aside0.mk hc0_14
  clear hr0_14 hc0_14
  have HR0_15 := Aside0.mk hr0_15
  have HC0_15 := Aside0.mk hc0_15
  clear hr0_15 hc0_15
  have HB := Aside0.mk (Below.refl w.heap.size w)
  have H : (spec_l05SumAt.l0 k a1 a0_10 0 a0_0 a0_1 a0_2 a0_3 a0_4 l0_5 a0_6 a0_7 a0_8 a0_9 a0_10 a0_11 a0_12 a0_13 l0_14 l0_15) = some r := h
  clear h
  have H' := Aside0.mk H
  clear H
  go_enter Try.func44, Try.ntmps44
  go_wp2_with (first | ((with_reducible refine gate_dst (N := 2) rfl ?_); refine box_event ?hg (N := 2) ?hd (cs := #[.int .i64 a0_0, .int .i64 a0_1, .int .i64 a0_2, .int .i64 a0_3, .int .i64 a0_4, .slice A0_5 l0_5.length c0_5, .int .i64 a0_6, .int .i64 a0_7, .int .i64 a0_8, .int .i64 a0_9, .int .i64 a0_10, .int .i64 a0_11, .int .i64 a0_12, .int .i64 a0_13, .slice A0_14 l0_14.length c0_14, .slice A0_15 l0_15.length c0_15]) (t := 30) ?hr ?_; (case hd => rfl); (case hg => rfl); (case hr => first | (go_simp; done) | (go_simp; rfl)); intro gb676 hg w3 hbox hb; have n0_ := Aside0.mk (below_step (by repeat (first | (with_reducible first | exact HB.out | apply below_alloc | apply pw_below_drewN | apply below_drew1) | exact HB.out)) hb); have n1_ := Aside0.mk (hbox); have n2_ := Aside0.mk ((by rw [hg]; exact (below_size (by repeat (first | (with_reducible first | exact HB.out | apply below_alloc | apply pw_below_drewN | apply below_drew1) | exact HB.out))) : w.heap.size ≤ gb676)); have n3_ := Aside0.mk ((by rw [hg]; exact (below_size (by repeat (first | (with_reducible first | exact HB.out | apply below_alloc | apply pw_below_drewN | apply below_drew1) | exact HB.out))) : w.heap.size ≤ gb676)); clear HB; have HB := n0_; have BK676 := n1_; have GW676 := n2_; have GE676 := n3_; clear n0_ n1_ n2_ n3_; clear hb hbox hg; have hcz4_0 : w3.cell? ⟨gb676, 0, none⟩ = some (.int .i64 a0_0) := (blk_cell BK676.out 0).trans rfl; have hcz4_1 : w3.cell? ⟨gb676, 1, none⟩ = some (.int .i64 a0_1) := (blk_cell BK676.out 1).trans rfl; have hcz4_2 : w3.cell? ⟨gb676, 2, none⟩ = some (.int .i64 a0_2) := (blk_cell BK676.out 2).trans rfl; have hcz4_3 : w3.cell? ⟨gb676, 3, none⟩ = some (.int .i64 a0_3) := (blk_cell BK676.out 3).trans rfl; have hcz4_4 : w3.cell? ⟨gb676, 4, none⟩ = some (.int .i64 a0_4) := (blk_cell BK676.out 4).trans rfl; have hcz4_5 : w3.cell? ⟨gb676, 5, none⟩ = some (.slice A0_5 l0_5.length c0_5) := (blk_cell BK676.out 5).trans rfl; have hcz4_6 : w3.cell? ⟨gb676, 6, none⟩ = some (.int .i64 a0_6) := (blk_cell BK676.out 6).trans rfl; have hcz4_7 : w3.cell? ⟨gb676, 7, none⟩ = some (.int .i64 a0_7) := (blk_cell BK676.out 7).trans rfl; have hcz4_8 : w3.cell? ⟨gb676, 8, none⟩ = some (.int .i64 a0_8) := (blk_cell BK676.out 8).trans rfl; have hcz4_9 : w3.cell? ⟨gb676, 9, none⟩ = some (.int .i64 a0_9) := (blk_cell BK676.out 9).trans rfl; have hcz4_10 : w3.cell? ⟨gb676, 10, none⟩ = some (.int .i64 a0_10) := (blk_cell BK676.out 10).trans rfl; have hcz4_11 : w3.cell? ⟨gb676, 11, none⟩ = some (.int .i64 a0_11) := (blk_cell BK676.out 11).trans rfl; have hcz4_12 : w3.cell? ⟨gb676, 12, none⟩ = some (.int .i64 a0_12) := (blk_cell BK676.out 12).trans rfl; have hcz4_13 : w3.cell? ⟨gb676, 13, none⟩ = some (.int .i64 a0_13) := (blk_cell BK676.out 13).trans rfl; have hcz4_14 : w3.cell? ⟨gb676, 14, none⟩ = some (.slice A0_14 l0_14.length c0_14) := (blk_cell BK676.out 14).trans rfl; have hcz4_15 : w3.cell? ⟨gb676, 15, none⟩ = some (.slice A0_15 l0_15.length c0_15) := (blk_cell BK676.out 15).trans rfl; have hfz4_0 := blk_frozen BK676.out 0; have hfz4_1 := blk_frozen BK676.out 1; have hfz4_2 := blk_frozen BK676.out 2; have hfz4_3 := blk_frozen BK676.out 3; have hfz4_4 := blk_frozen BK676.out 4; have hfz4_5 := blk_frozen BK676.out 5; have hfz4_6 := blk_frozen BK676.out 6; have hfz4_7 := blk_frozen BK676.out 7; have hfz4_8 := blk_frozen BK676.out 8; have hfz4_9 := blk_frozen BK676.out 9; have hfz4_10 := blk_frozen BK676.out 10; have hfz4_11 := blk_frozen BK676.out 11; have hfz4_12 := blk_frozen BK676.out 12; have hfz4_13 := blk_frozen BK676.out 13; have hfz4_14 := blk_frozen BK676.out 14; have hfz4_15 := blk_frozen BK676.out 15))
  go_loopg [5, 6] k (fun kq v5 v6 w' => ∃ (x5_1 : Int) (x6_1 : Int), v5 = .int .i64 x5_1 ∧ v6 = .int .i64 x6_1 ∧ Aside0 (spec_l05SumAt.l0 kq a1 x5_1 x6_1 a0_0 a0_1 a0_2 a0_3 a0_4 l0_5 a0_6 a0_7 a0_8 a0_9 a0_10 a0_11 a0_12 a0_13 l0_14 l0_15 = some r) ∧ Aside0 (kq ≤ k) ∧ Aside0 (w'.heap[gb676]? = some (.cells #[.int .i64 a0_0, .int .i64 a0_1, .int .i64 a0_2, .int .i64 a0_3, .int .i64 a0_4, (.slice A0_5 l0_5.length c0_5), .int .i64 a0_6, .int .i64 a0_7, .int .i64 a0_8, .int .i64 a0_9, .int .i64 a0_10, .int .i64 a0_11, .int .i64 a0_12, .int .i64 a0_13, (.slice A0_14 l0_14.length c0_14), (.slice A0_15 l0_15.length c0_15)] 30 (0, 0))) ∧ Aside0 (Below w.heap.size w w'))
  case atStart => exact ⟨(a0_10), (0), (by first | rfl | (simp; done) | (simp [*]; done)), (by first | rfl | (simp; done) | (simp [*]; done)), H', ⟨Nat.le_refl _⟩, ⟨by (with_reducible repeat (first | refine blk_drewN ?_ _ | refine blk_drew ?_ | refine blk_alloc ?_ _)); exact BK676.out⟩, ⟨by repeat (first | (with_reducible first | exact HB.out | apply below_alloc | apply pw_below_drewN | apply below_drew1 | refine below_set ?_ GE676.out) | exact HB.out)⟩⟩
  case round =>
    clear H'
    try clear p2
    try clear c4
    try clear hcz4_0
    try clear hcz4_1
    try clear hcz4_10
    try clear hcz4_11
    try clear hcz4_12
    try clear hcz4_13
    try clear hcz4_14
    try clear hcz4_15
    try clear hcz4_2
    try clear hcz4_3
    try clear hcz4_4
    try clear hcz4_5
    try clear hcz4_6
    try clear hcz4_7
    try clear hcz4_8
    try clear hcz4_9
    try clear hfz4_0
    try clear hfz4_1
    try clear hfz4_10
    try clear hfz4_11
    try clear hfz4_12
    try clear hfz4_13
    try clear hfz4_14
    try clear hfz4_15
    try clear hfz4_2
    try clear hfz4_3
    try clear hfz4_4
    try clear hfz4_5
    try clear hfz4_6
    try clear hfz4_7
    try clear hfz4_8
    try clear hfz4_9
    obtain ⟨x5_1, x6_1, rfl, rfl, HA, HK1, BK676, HB⟩ := hrel
    cases gk with
    | zero => exact absurd HA.out (by simp [spec_l05SumAt.l0])
    | succ k1 =>
      have H := HA.out
      clear HA
      simp only [spec_l05SumAt.l0] at H
      have HC5 := Aside0.mk H
      clear H
      go_upto_region 3 with (fail)
      go_cut [21] (fun v21 wc => ∃ (kq : Nat) (x21_4 : Bool), v21 = .bool x21_4 ∧ Aside0 (spec_l05SumAt.j1 kq a1 x5_1 x6_1 x21_4 a0_0 a0_1 a0_2 a0_3 a0_4 l0_5 a0_6 a0_7 a0_8 a0_9 a0_10 a0_11 a0_12 a0_13 l0_14 l0_15 = some r) ∧ Aside0 (kq ≤ k1) ∧ Aside0 (wc.heap[gb676]? = some (.cells #[.int .i64 a0_0, .int .i64 a0_1, .int .i64 a0_2, .int .i64 a0_3, .int .i64 a0_4, (.slice A0_5 l0_5.length c0_5), .int .i64 a0_6, .int .i64 a0_7, .int .i64 a0_8, .int .i64 a0_9, .int .i64 a0_10, .int .i64 a0_11, .int .i64 a0_12, .int .i64 a0_13, (.slice A0_14 l0_14.length c0_14), (.slice A0_15 l0_15.length c0_15)] 30 (0, 0))) ∧ Aside0 (Below w.heap.size w wc))
      case first =>
        have H := HC5.out
        clear HC5
        by_cases c6 : x6_1 < (l0_5.length : Int)
        · rw [if_pos c6] at H
          have c6b0 : decide (x6_1 < (l0_5.length : Int)) = true := decide_eq_true c6
          clear c6
          (first | rw [c6b0] | (simp only [i64_w, i32_w]; rw [c6b0]) | skip)
          have H' := Aside0.mk H
          clear H
          have hcz7_0 : wr.cell? ⟨gb676, 0, none⟩ = some (.int .i64 a0_0) := (blk_cell BK676.out 0).trans rfl
          have hcz7_1 : wr.cell? ⟨gb676, 1, none⟩ = some (.int .i64 a0_1) := (blk_cell BK676.out 1).trans rfl
          have hcz7_2 : wr.cell? ⟨gb676, 2, none⟩ = some (.int .i64 a0_2) := (blk_cell BK676.out 2).trans rfl
          have hcz7_3 : wr.cell? ⟨gb676, 3, none⟩ = some (.int .i64 a0_3) := (blk_cell BK676.out 3).trans rfl
          have hcz7_4 : wr.cell? ⟨gb676, 4, none⟩ = some (.int .i64 a0_4) := (blk_cell BK676.out 4).trans rfl
          have hcz7_5 : wr.cell? ⟨gb676, 5, none⟩ = some (.slice A0_5 l0_5.length c0_5) := (blk_cell BK676.out 5).trans rfl
          have hcz7_6 : wr.cell? ⟨gb676, 6, none⟩ = some (.int .i64 a0_6) := (blk_cell BK676.out 6).trans rfl
          have hcz7_7 : wr.cell? ⟨gb676, 7, none⟩ = some (.int .i64 a0_7) := (blk_cell BK676.out 7).trans rfl
          have hcz7_8 : wr.cell? ⟨gb676, 8, none⟩ = some (.int .i64 a0_8) := (blk_cell BK676.out 8).trans rfl
          have hcz7_9 : wr.cell? ⟨gb676, 9, none⟩ = some (.int .i64 a0_9) := (blk_cell BK676.out 9).trans rfl
          have hcz7_10 : wr.cell? ⟨gb676, 10, none⟩ = some (.int .i64 a0_10) := (blk_cell BK676.out 10).trans rfl
          have hcz7_11 : wr.cell? ⟨gb676, 11, none⟩ = some (.int .i64 a0_11) := (blk_cell BK676.out 11).trans rfl
          have hcz7_12 : wr.cell? ⟨gb676, 12, none⟩ = some (.int .i64 a0_12) := (blk_cell BK676.out 12).trans rfl
          have hcz7_13 : wr.cell? ⟨gb676, 13, none⟩ = some (.int .i64 a0_13) := (blk_cell BK676.out 13).trans rfl
          have hcz7_14 : wr.cell? ⟨gb676, 14, none⟩ = some (.slice A0_14 l0_14.length c0_14) := (blk_cell BK676.out 14).trans rfl
          have hcz7_15 : wr.cell? ⟨gb676, 15, none⟩ = some (.slice A0_15 l0_15.length c0_15) := (blk_cell BK676.out 15).trans rfl
          have hfz7_0 := blk_frozen BK676.out 0
          have hfz7_1 := blk_frozen BK676.out 1
          have hfz7_2 := blk_frozen BK676.out 2
          have hfz7_3 := blk_frozen BK676.out 3
          have hfz7_4 := blk_frozen BK676.out 4
          have hfz7_5 := blk_frozen BK676.out 5
          have hfz7_6 := blk_frozen BK676.out 6
          have hfz7_7 := blk_frozen BK676.out 7
          have hfz7_8 := blk_frozen BK676.out 8
          have hfz7_9 := blk_frozen BK676.out 9
          have hfz7_10 := blk_frozen BK676.out 10
          have hfz7_11 := blk_frozen BK676.out 11
          have hfz7_12 := blk_frozen BK676.out 12
          have hfz7_13 := blk_frozen BK676.out 13
          have hfz7_14 := blk_frozen BK676.out 14
          have hfz7_15 := blk_frozen BK676.out 15
          go_wp2
          go_meet
          case rel => exact ⟨_, (decide ((wrap64 (a0_6 + x6_1)) < a1)), (by first | rfl | (simp; done) | (simp [*]; done)), H', ⟨by have := HK1.out; first | omega | exact Nat.le_refl _⟩, ⟨by (with_reducible repeat (first | refine blk_drewN ?_ _ | refine blk_drew ?_ | refine blk_alloc ?_ _)); exact BK676.out⟩, ⟨by repeat (first | (with_reducible first | exact HB.out | apply below_alloc | apply pw_below_drewN | apply below_drew1 | refine below_set ?_ GE676.out) | exact HB.out)⟩⟩
        · rw [if_neg c6] at H
          have c6b0 : decide (x6_1 < (l0_5.length : Int)) = false := decide_eq_false c6
          clear c6
          (first | rw [c6b0] | (simp only [i64_w, i32_w]; rw [c6b0]) | skip)
          have H' := Aside0.mk H
          clear H
          have hcz8_0 : wr.cell? ⟨gb676, 0, none⟩ = some (.int .i64 a0_0) := (blk_cell BK676.out 0).trans rfl
          have hcz8_1 : wr.cell? ⟨gb676, 1, none⟩ = some (.int .i64 a0_1) := (blk_cell BK676.out 1).trans rfl
          have hcz8_2 : wr.cell? ⟨gb676, 2, none⟩ = some (.int .i64 a0_2) := (blk_cell BK676.out 2).trans rfl
          have hcz8_3 : wr.cell? ⟨gb676, 3, none⟩ = some (.int .i64 a0_3) := (blk_cell BK676.out 3).trans rfl
          have hcz8_4 : wr.cell? ⟨gb676, 4, none⟩ = some (.int .i64 a0_4) := (blk_cell BK676.out 4).trans rfl
          have hcz8_5 : wr.cell? ⟨gb676, 5, none⟩ = some (.slice A0_5 l0_5.length c0_5) := (blk_cell BK676.out 5).trans rfl
          have hcz8_6 : wr.cell? ⟨gb676, 6, none⟩ = some (.int .i64 a0_6) := (blk_cell BK676.out 6).trans rfl
          have hcz8_7 : wr.cell? ⟨gb676, 7, none⟩ = some (.int .i64 a0_7) := (blk_cell BK676.out 7).trans rfl
          have hcz8_8 : wr.cell? ⟨gb676, 8, none⟩ = some (.int .i64 a0_8) := (blk_cell BK676.out 8).trans rfl
          have hcz8_9 : wr.cell? ⟨gb676, 9, none⟩ = some (.int .i64 a0_9) := (blk_cell BK676.out 9).trans rfl
          have hcz8_10 : wr.cell? ⟨gb676, 10, none⟩ = some (.int .i64 a0_10) := (blk_cell BK676.out 10).trans rfl
          have hcz8_11 : wr.cell? ⟨gb676, 11, none⟩ = some (.int .i64 a0_11) := (blk_cell BK676.out 11).trans rfl
          have hcz8_12 : wr.cell? ⟨gb676, 12, none⟩ = some (.int .i64 a0_12) := (blk_cell BK676.out 12).trans rfl
          have hcz8_13 : wr.cell? ⟨gb676, 13, none⟩ = some (.int .i64 a0_13) := (blk_cell BK676.out 13).trans rfl
          have hcz8_14 : wr.cell? ⟨gb676, 14, none⟩ = some (.slice A0_14 l0_14.length c0_14) := (blk_cell BK676.out 14).trans rfl
          have hcz8_15 : wr.cell? ⟨gb676, 15, none⟩ = some (.slice A0_15 l0_15.length c0_15) := (blk_cell BK676.out 15).trans rfl
          have hfz8_0 := blk_frozen BK676.out 0
          have hfz8_1 := blk_frozen BK676.out 1
          have hfz8_2 := blk_frozen BK676.out 2
          have hfz8_3 := blk_frozen BK676.out 3
          have hfz8_4 := blk_frozen BK676.out 4
          have hfz8_5 := blk_frozen BK676.out 5
          have hfz8_6 := blk_frozen BK676.out 6
          have hfz8_7 := blk_frozen BK676.out 7
          have hfz8_8 := blk_frozen BK676.out 8
          have hfz8_9 := blk_frozen BK676.out 9
          have hfz8_10 := blk_frozen BK676.out 10
          have hfz8_11 := blk_frozen BK676.out 11
          have hfz8_12 := blk_frozen BK676.out 12
          have hfz8_13 := blk_frozen BK676.out 13
          have hfz8_14 := blk_frozen BK676.out 14
          have hfz8_15 := blk_frozen BK676.out 15
          go_wp2
          go_meet
          case rel => exact ⟨_, (false), (by first | rfl | (simp; done) | (simp [*]; done)), H', ⟨by have := HK1.out; first | omega | exact Nat.le_refl _⟩, ⟨by (with_reducible repeat (first | refine blk_drewN ?_ _ | refine blk_drew ?_ | refine blk_alloc ?_ _)); exact BK676.out⟩, ⟨by repeat (first | (with_reducible first | exact HB.out | apply below_alloc | apply pw_below_drewN | apply below_drew1 | refine below_set ?_ GE676.out) | exact HB.out)⟩⟩
      case rest =>
        clear HC5
        try clear p2
        try clear c4
        try clear c6
        try clear c6b0
        try clear p6
        try clear hcz4_0
        try clear hcz4_1
        try clear hcz4_10
        try clear hcz4_11
        try clear hcz4_12
        try clear hcz4_13
        try clear hcz4_14
        try clear hcz4_15
        try clear hcz4_2
        try clear hcz4_3
        try clear hcz4_4
        try clear hcz4_5
        try clear hcz4_6
        try clear hcz4_7
        try clear hcz4_8
        try clear hcz4_9
        try clear hcz7_0
        try clear hcz7_1
        try clear hcz7_10
        try clear hcz7_11
        try clear hcz7_12
        try clear hcz7_13
        try clear hcz7_14
        try clear hcz7_15
        try clear hcz7_2
        try clear hcz7_3
        try clear hcz7_4
        try clear hcz7_5
        try clear hcz7_6
        try clear hcz7_7
        try clear hcz7_8
        try clear hcz7_9
        try clear hcz8_0
        try clear hcz8_1
        try clear hcz8_10
        try clear hcz8_11
        try clear hcz8_12
        try clear hcz8_13
        try clear hcz8_14
        try clear hcz8_15
        try clear hcz8_2
        try clear hcz8_3
        try clear hcz8_4
        try clear hcz8_5
        try clear hcz8_6
        try clear hcz8_7
        try clear hcz8_8
        try clear hcz8_9
        try clear hfz4_0
        try clear hfz4_1
        try clear hfz4_10
        try clear hfz4_11
        try clear hfz4_12
        try clear hfz4_13
        try clear hfz4_14
        try clear hfz4_15
        try clear hfz4_2
        try clear hfz4_3
        try clear hfz4_4
        try clear hfz4_5
        try clear hfz4_6
        try clear hfz4_7
        try clear hfz4_8
        try clear hfz4_9
        try clear hfz7_0
        try clear hfz7_1
        try clear hfz7_10
        try clear hfz7_11
        try clear hfz7_12
        try clear hfz7_13
        try clear hfz7_14
        try clear hfz7_15
        try clear hfz7_2
        try clear hfz7_3
        try clear hfz7_4
        try clear hfz7_5
        try clear hfz7_6
        try clear hfz7_7
        try clear hfz7_8
        try clear hfz7_9
        try clear hfz8_0
        try clear hfz8_1
        try clear hfz8_10
        try clear hfz8_11
        try clear hfz8_12
        try clear hfz8_13
        try clear hfz8_14
        try clear hfz8_15
        try clear hfz8_2
        try clear hfz8_3
        try clear hfz8_4
        try clear hfz8_5
        try clear hfz8_6
        try clear hfz8_7
        try clear hfz8_8
        try clear hfz8_9
        try clear p2
        obtain ⟨kq, x21_4, rfl, HA, HJ4, BK676, HB⟩ := hcut
        cases kq with
        | zero => exact absurd HA.out (by simp [spec_l05SumAt.j1])
        | succ kj4 =>
          have H := HA.out
          clear HA
          simp only [spec_l05SumAt.j1] at H
          by_cases c9 : x21_4 = true
          · subst c9
            have H1 : (if 0 ≤ x6_1 then (if x6_1 < (l0_5.length : Int) then (if ((rd_T54 l0_5 x6_1).f1) = 2 then ((spec_l01Bytes.f kj4 x5_1 4).bind fun t678 => (if t678.size + ((rd_T54 l0_5 x6_1).f2).size ≤ 9223372036854775807 then ((spec_Crc.f kj4 (t678 ++ ((rd_T54 l0_5 x6_1).f2))).bind fun t680 => (spec_l05SumAt.l0 kj4 a1 t680 (wrap64 (x6_1 + 1)) a0_0 a0_1 a0_2 a0_3 a0_4 l0_5 a0_6 a0_7 a0_8 a0_9 a0_10 a0_11 a0_12 a0_13 l0_14 l0_15)) else (none))) else (spec_l05SumAt.l0 kj4 a1 x5_1 (wrap64 (x6_1 + 1)) a0_0 a0_1 a0_2 a0_3 a0_4 l0_5 a0_6 a0_7 a0_8 a0_9 a0_10 a0_11 a0_12 a0_13 l0_14 l0_15)) else (none)) else (none)) = some r := by rw [if_pos rfl] at H; exact H
            clear H
            have H := H1
            clear H1
            by_cases c10 : 0 ≤ x6_1
            · rw [if_pos c10] at H
              have c10b0 : decide (0 ≤ x6_1) = true := decide_eq_true c10
              clear c10
              by_cases c11 : x6_1 < (l0_5.length : Int)
              · rw [if_pos c11] at H
                have c11b0 : decide (x6_1 < (l0_5.length : Int)) = true := decide_eq_true c11
                clear c11
                by_cases c12 : ((rd_T54 l0_5 x6_1).f1) = 2
                · rw [if_pos c12] at H
                  have c12b0 : (((rd_T54 l0_5 x6_1).f1) == 2) = true := beq_iff_eq.mpr c12
                  have c12b1 : (((rd_T54 l0_5 x6_1).f1) != 2) = false := bne_eq_false_iff_eq.mpr c12
                  clear c12
                  replace H := Option.bind_eq_some_iff.mp H
                  obtain ⟨t678, A130, H⟩ := H
                  replace H : (if t678.size + ((rd_T54 l0_5 x6_1).f2).size ≤ 9223372036854775807 then ((spec_Crc.f kj4 (t678 ++ ((rd_T54 l0_5 x6_1).f2))).bind fun t680 => (spec_l05SumAt.l0 kj4 a1 t680 (wrap64 (x6_1 + 1)) a0_0 a0_1 a0_2 a0_3 a0_4 l0_5 a0_6 a0_7 a0_8 a0_9 a0_10 a0_11 a0_12 a0_13 l0_14 l0_15)) else (none)) = some r := H
                  have A13 := Aside0.mk A130
                  clear A130
                  by_cases c14 : t678.size + ((rd_T54 l0_5 x6_1).f2).size ≤ 9223372036854775807
                  · rw [if_pos c14] at H
                    have c14b0 := eq_true c14
                    have c14b1 : decide (t678.size + ((rd_T54 l0_5 x6_1).f2).size ≤ 9223372036854775807) = true := decide_eq_true c14
                    try have c14b2 : (9223372036854775807 < t678.size + ((rd_T54 l0_5 x6_1).f2).size) = False := eq_false (Nat.not_lt.2 c14)
                    try (have c14b3 := c14b2; simp only [ByteArray.size_append] at c14b3)
                    replace H := Option.bind_eq_some_iff.mp H
                    obtain ⟨t680, A150, H⟩ := H
                    replace H : (spec_l05SumAt.l0 kj4 a1 t680 (wrap64 (x6_1 + 1)) a0_0 a0_1 a0_2 a0_3 a0_4 l0_5 a0_6 a0_7 a0_8 a0_9 a0_10 a0_11 a0_12 a0_13 l0_14 l0_15) = some r := H
                    have A15 := Aside0.mk A150
                    clear A150
                    have H' := Aside0.mk H
                    clear H
                    have hcz16_0 : wc.cell? ⟨gb676, 0, none⟩ = some (.int .i64 a0_0) := (blk_cell BK676.out 0).trans rfl
                    have hcz16_1 : wc.cell? ⟨gb676, 1, none⟩ = some (.int .i64 a0_1) := (blk_cell BK676.out 1).trans rfl
                    have hcz16_2 : wc.cell? ⟨gb676, 2, none⟩ = some (.int .i64 a0_2) := (blk_cell BK676.out 2).trans rfl
                    have hcz16_3 : wc.cell? ⟨gb676, 3, none⟩ = some (.int .i64 a0_3) := (blk_cell BK676.out 3).trans rfl
                    have hcz16_4 : wc.cell? ⟨gb676, 4, none⟩ = some (.int .i64 a0_4) := (blk_cell BK676.out 4).trans rfl
                    have hcz16_5 : wc.cell? ⟨gb676, 5, none⟩ = some (.slice A0_5 l0_5.length c0_5) := (blk_cell BK676.out 5).trans rfl
                    have hcz16_6 : wc.cell? ⟨gb676, 6, none⟩ = some (.int .i64 a0_6) := (blk_cell BK676.out 6).trans rfl
                    have hcz16_7 : wc.cell? ⟨gb676, 7, none⟩ = some (.int .i64 a0_7) := (blk_cell BK676.out 7).trans rfl
                    have hcz16_8 : wc.cell? ⟨gb676, 8, none⟩ = some (.int .i64 a0_8) := (blk_cell BK676.out 8).trans rfl
                    have hcz16_9 : wc.cell? ⟨gb676, 9, none⟩ = some (.int .i64 a0_9) := (blk_cell BK676.out 9).trans rfl
                    have hcz16_10 : wc.cell? ⟨gb676, 10, none⟩ = some (.int .i64 a0_10) := (blk_cell BK676.out 10).trans rfl
                    have hcz16_11 : wc.cell? ⟨gb676, 11, none⟩ = some (.int .i64 a0_11) := (blk_cell BK676.out 11).trans rfl
                    have hcz16_12 : wc.cell? ⟨gb676, 12, none⟩ = some (.int .i64 a0_12) := (blk_cell BK676.out 12).trans rfl
                    have hcz16_13 : wc.cell? ⟨gb676, 13, none⟩ = some (.int .i64 a0_13) := (blk_cell BK676.out 13).trans rfl
                    have hcz16_14 : wc.cell? ⟨gb676, 14, none⟩ = some (.slice A0_14 l0_14.length c0_14) := (blk_cell BK676.out 14).trans rfl
                    have hcz16_15 : wc.cell? ⟨gb676, 15, none⟩ = some (.slice A0_15 l0_15.length c0_15) := (blk_cell BK676.out 15).trans rfl
                    have hfz16_0 := blk_frozen BK676.out 0
                    have hfz16_1 := blk_frozen BK676.out 1
                    have hfz16_2 := blk_frozen BK676.out 2
                    have hfz16_3 := blk_frozen BK676.out 3
                    have hfz16_4 := blk_frozen BK676.out 4
                    have hfz16_5 := blk_frozen BK676.out 5
                    have hfz16_6 := blk_frozen BK676.out 6
                    have hfz16_7 := blk_frozen BK676.out 7
                    have hfz16_8 := blk_frozen BK676.out 8
                    have hfz16_9 := blk_frozen BK676.out 9
                    have hfz16_10 := blk_frozen BK676.out 10
                    have hfz16_11 := blk_frozen BK676.out 11
                    have hfz16_12 := blk_frozen BK676.out 12
                    have hfz16_13 := blk_frozen BK676.out 13
                    have hfz16_14 := blk_frozen BK676.out 14
                    have hfz16_15 := blk_frozen BK676.out 15
                    have p677 : 0 ≤ (x6_1 : Int) := of_decide_eq_true (by first | (with_reducible assumption) | assumption)
                    have q677 : x6_1 < (l0_5.length : Int) := of_decide_eq_true (by first | (with_reducible assumption) | assumption)
                    obtain ⟨ad677, e677, hx677_0, hx677_1, hx677_2, hx677_3, hx677_4⟩ := at_T54 HR0_5.out x6_1 p677 q677
                    cases e677
                    replace hx677_0 := (HB.out.cell (World.block_lt_of_cell? w _ hx677_0)).trans hx677_0
                    replace hx677_1 := (HB.out.cell (World.block_lt_of_cell? w _ hx677_1)).trans hx677_1
                    replace hx677_2 := (HB.out.cell (World.block_lt_of_cell? w _ hx677_2)).trans hx677_2
                    replace hx677_3 := (HB.out.cell (World.block_lt_of_cell? w _ hx677_3)).trans hx677_3
                    replace hx677_4 := (HB.out.cell (World.block_lt_of_cell? w _ hx677_4)).trans hx677_4
                    replace p677 := eq_true p677
                    replace q677 := eq_true q677
                    try go_wp2
                    have n0_ := Aside0.mk (blk_drew BK676.out)
                    have n1_ := Aside0.mk (below_drew1 HB.out)
                    clear BK676
                    clear HB
                    have BK676 := n0_
                    have HB := n1_
                    clear n0_ n1_
                    have p679 : 0 ≤ (x6_1 : Int) := of_decide_eq_true (by first | (with_reducible assumption) | assumption)
                    have q679 : x6_1 < (l0_5.length : Int) := of_decide_eq_true (by first | (with_reducible assumption) | assumption)
                    obtain ⟨ad679, e679, hx679_0, hx679_1, hx679_2, hx679_3, hx679_4⟩ := at_T54 HR0_5.out x6_1 p679 q679
                    have hw679_4 := hx679_4
                    have hw679_3 := hx679_3
                    have hw679_2 := hx679_2
                    have hw679_1 := hx679_1
                    have hw679_0 := hx679_0
                    obtain rfl : ad677 = ad679 := (by injection e679)
                    replace hx679_0 := (HB.out.cell (World.block_lt_of_cell? w _ hx679_0)).trans hx679_0
                    replace hx679_1 := (HB.out.cell (World.block_lt_of_cell? w _ hx679_1)).trans hx679_1
                    replace hx679_2 := (HB.out.cell (World.block_lt_of_cell? w _ hx679_2)).trans hx679_2
                    replace hx679_3 := (HB.out.cell (World.block_lt_of_cell? w _ hx679_3)).trans hx679_3
                    replace hx679_4 := (HB.out.cell (World.block_lt_of_cell? w _ hx679_4)).trans hx679_4
                    replace p679 := eq_true p679
                    replace q679 := eq_true q679
                    refine start_ (n := 11) (S := fun w' => w'.cell? ⟨gb676, 0, none⟩ = some (.int .i64 a0_0) ∧ w'.cell? ⟨gb676, 1, none⟩ = some (.int .i64 a0_1) ∧ w'.cell? ⟨gb676, 2, none⟩ = some (.int .i64 a0_2) ∧ w'.cell? ⟨gb676, 3, none⟩ = some (.int .i64 a0_3) ∧ w'.cell? ⟨gb676, 4, none⟩ = some (.int .i64 a0_4) ∧ w'.cell? ⟨gb676, 5, none⟩ = some (.slice (some ad677) l0_5.length c0_5) ∧ w'.cell? ⟨gb676, 6, none⟩ = some (.int .i64 a0_6) ∧ w'.cell? ⟨gb676, 7, none⟩ = some (.int .i64 a0_7) ∧ w'.cell? ⟨gb676, 8, none⟩ = some (.int .i64 a0_8) ∧ w'.cell? ⟨gb676, 9, none⟩ = some (.int .i64 a0_9) ∧ w'.cell? ⟨gb676, 10, none⟩ = some (.int .i64 a0_10) ∧ w'.cell? ⟨gb676, 11, none⟩ = some (.int .i64 a0_11) ∧ w'.cell? ⟨gb676, 12, none⟩ = some (.int .i64 a0_12) ∧ w'.cell? ⟨gb676, 13, none⟩ = some (.int .i64 a0_13) ∧ w'.cell? ⟨gb676, 14, none⟩ = some (.slice A0_14 l0_14.length c0_14) ∧ w'.cell? ⟨gb676, 15, none⟩ = some (.slice A0_15 l0_15.length c0_15) ∧ w'.cell? (ad677.add ((x6_1).toNat * 5)) = some (.int .i64 ((rd_T54 l0_5 x6_1).f0)) ∧ w'.cell? ⟨(ad677.add ((x6_1).toNat * 5)).block, (ad677.add ((x6_1).toNat * 5)).off + 1, none⟩ = some (.int .i64 ((rd_T54 l0_5 x6_1).f1)) ∧ w'.cell? ⟨(ad677.add ((x6_1).toNat * 5)).block, (ad677.add ((x6_1).toNat * 5)).off + 2, none⟩ = some (.string ((rd_T54 l0_5 x6_1).f2)) ∧ w'.cell? ⟨(ad677.add ((x6_1).toNat * 5)).block, (ad677.add ((x6_1).toNat * 5)).off + 3, none⟩ = some (.int .i64 ((rd_T54 l0_5 x6_1).f3)) ∧ w'.cell? ⟨(ad677.add ((x6_1).toNat * 5)).block, (ad677.add ((x6_1).toNat * 5)).off + 4, none⟩ = some (.int .i64 ((rd_T54 l0_5 x6_1).f4))) (ds := []) #[false, false, false, false, false, false, false, false, false, false, false] (by kernel_rfl) rfl rfl ⟨(blk_cell BK676.out 0).trans rfl, (blk_cell BK676.out 1).trans rfl, (blk_cell BK676.out 2).trans rfl, (blk_cell BK676.out 3).trans rfl, (blk_cell BK676.out 4).trans rfl, (blk_cell BK676.out 5).trans rfl, (blk_cell BK676.out 6).trans rfl, (blk_cell BK676.out 7).trans rfl, (blk_cell BK676.out 8).trans rfl, (blk_cell BK676.out 9).trans rfl, (blk_cell BK676.out 10).trans rfl, (blk_cell BK676.out 11).trans rfl, (blk_cell BK676.out 12).trans rfl, (blk_cell BK676.out 13).trans rfl, (blk_cell BK676.out 14).trans rfl, (blk_cell BK676.out 15).trans rfl, ((HB.out.cell (World.block_lt_of_cell? w _ hw679_0)).trans hw679_0), ((HB.out.cell (World.block_lt_of_cell? w _ hw679_1)).trans hw679_1), ((HB.out.cell (World.block_lt_of_cell? w _ hw679_2)).trans hw679_2), ((HB.out.cell (World.block_lt_of_cell? w _ hw679_3)).trans hw679_3), ((HB.out.cell (World.block_lt_of_cell? w _ hw679_4)).trans hw679_4)⟩ (fun hHeld => ?_); refine with_tabW spec_l05SumAt.tab6 spec_l05SumAt.bits6 (fun HT_ HW_ => ?_)
                    generalize wc.drew = w17 at BK676 HB hx679_0 hx679_1 hx679_2 hx679_3 hx679_4 hHeld ⊢
                    refine pure_ (i := 0) (N := some 31) (v := ?_) (a' := ?_) #[true, false, false, false, false, false, false, false, false, false, false] rfl rfl (any_of HT_.out (by kernel_rfl)) (fun _ _ _ h => h) (Or.inl ⟨by rfl, ?_⟩) ?_ ?_
                    rotate_left
                    · intro w'
                      go_simp
                      with_reducible rfl
                    rotate_left
                    · simp only [Act.put, List.setIfInBounds_toArray, List.set_cons_zero, List.set_cons_succ, i64_w, i32_w]
                      rfl
                    refine pure_ (i := 2) (N := some 33) (v := ?_) (a' := ?_) #[true, false, true, false, false, false, false, false, false, false, false] rfl rfl (any_of HT_.out (by kernel_rfl)) (fun _ _ _ h => h) (Or.inl ⟨by rfl, ?_⟩) ?_ ?_
                    rotate_left
                    · intro w'
                      go_simp
                      with_reducible rfl
                    rotate_left
                    · simp only [Act.put, List.setIfInBounds_toArray, List.set_cons_zero, List.set_cons_succ, i64_w, i32_w]
                      rfl
                    refine pure_ (i := 4) (N := some 35) (v := ?_) (a' := ?_) #[true, false, true, false, true, false, false, false, false, false, false] rfl rfl (any_of HT_.out (by kernel_rfl)) (fun _ _ _ h => h) (Or.inl ⟨by rfl, ?_⟩) ?_ ?_
                    rotate_left
                    · intro w'
                      go_simp
                      with_reducible rfl
                    rotate_left
                    · simp only [Act.put, List.setIfInBounds_toArray, List.set_cons_zero, List.set_cons_succ, i64_w, i32_w]
                      rfl
                    refine take_ (i := 3) (N := some 34) (v := ?_) (a' := ?_) #[true, false, true, true, true, false, false, false, false, false, false] rfl rfl (take_ofW HT_.out HW_.out (by kernel_rfl)) (fun _ _ _ h => h) (Or.inl ⟨by rfl, ?_⟩) hHeld ?_ ?_
                    rotate_left
                    · rintro w' ⟨s0, s1, s2, s3, s4, s5, s6, s7, s8, s9, s10, s11, s12, s13, s14, s15, s16, s17, s18, s19, s20⟩
                      go_simp
                      with_reducible rfl
                    rotate_left
                    · simp only [Act.put, List.setIfInBounds_toArray, List.set_cons_zero, List.set_cons_succ, i64_w, i32_w]
                      rfl
                    refine pure_ (i := 5) (N := some 36) (v := ?_) (a' := ?_) #[true, false, true, true, true, true, false, false, false, false, false] rfl rfl (any_of HT_.out (by kernel_rfl)) (fun _ _ _ h => h) (Or.inl ⟨by rfl, ?_⟩) ?_ ?_
                    rotate_left
                    · intro w'
                      go_simp
                      with_reducible rfl
                    rotate_left
                    · simp only [Act.put, List.setIfInBounds_toArray, List.set_cons_zero, List.set_cons_succ, i64_w, i32_w]
                      rfl
                    refine pure_ (i := 6) (N := some 37) (v := ?_) (a' := ?_) #[true, false, true, true, true, true, true, false, false, false, false] rfl rfl (any_of HT_.out (by kernel_rfl)) (fun _ _ _ h => h) (Or.inl ⟨by rfl, ?_⟩) ?_ ?_
                    rotate_left
                    · intro w'
                      go_simp
                      with_reducible rfl
                    rotate_left
                    · simp only [Act.put, List.setIfInBounds_toArray, List.set_cons_zero, List.set_cons_succ, i64_w, i32_w]
                      rfl
                    refine take_ (i := 7) (N := some 38) (v := ?_) (a' := ?_) #[true, false, true, true, true, true, true, true, false, false, false] rfl rfl (take_ofW HT_.out HW_.out (by kernel_rfl)) (fun _ _ _ h => h) (Or.inl ⟨by rfl, ?_⟩) hHeld ?_ ?_
                    rotate_left
                    · rintro w' ⟨s0, s1, s2, s3, s4, s5, s6, s7, s8, s9, s10, s11, s12, s13, s14, s15, s16, s17, s18, s19, s20⟩
                      go_simp
                      with_reducible rfl
                    rotate_left
                    · simp only [Act.put, List.setIfInBounds_toArray, List.set_cons_zero, List.set_cons_succ, i64_w, i32_w]
                      rfl
                    refine one_ (i := 1) (N := some 32) #[true, true, true, true, true, true, true, true, false, false, false] rfl rfl (one_of HT_.out (by kernel_rfl)) (by decide) (fun K hK => ?_)
                    refine goes_ Try.func60 (by kernel_rfl) rfl #[.int .i64 x5_1, .int .i64 4] (by rfl) rfl rfl (by (try simp only [List.map_toArray, List.map_cons, List.map_nil]); first | done | rfl | (simp only [List.length_drop, List.length_take]; rfl)) ?_
                    with_reducible refine (spec_l01Bytes.calls kj4 x5_1 4 t678 _ A13.out).mono ?_
                    rintro e w18 ⟨rfl, hb⟩
                    refine ⟨_, rfl, ?_⟩
                    have n0_ := Aside0.mk (blk_below (g := gb676) (o := .cells #[.int .i64 a0_0, .int .i64 a0_1, .int .i64 a0_2, .int .i64 a0_3, .int .i64 a0_4, .slice (some ad677) l0_5.length c0_5, .int .i64 a0_6, .int .i64 a0_7, .int .i64 a0_8, .int .i64 a0_9, .int .i64 a0_10, .int .i64 a0_11, .int .i64 a0_12, .int .i64 a0_13, .slice A0_14 l0_14.length c0_14, .slice A0_15 l0_15.length c0_15] 30 (0, 0)) (by (with_reducible repeat (first | refine blk_drewN ?_ _ | refine blk_drew ?_ | refine blk_alloc ?_ _)); exact BK676.out) hb)
                    have n1_ := Aside0.mk (below_step (by repeat (first | (with_reducible first | exact HB.out | apply below_alloc | apply pw_below_drewN | apply below_drew1 | refine below_set ?_ GE676.out) | exact HB.out)) hb)
                    clear BK676
                    clear HB
                    have BK676 := n0_
                    have HB := n1_
                    clear n0_ n1_
                    (try clear hb)
                    (try clear hb2)
                    (try clear hk)
                    (try clear hi)
                    refine hK.out _ _ ⟨(blk_cell BK676.out 0).trans rfl, (blk_cell BK676.out 1).trans rfl, (blk_cell BK676.out 2).trans rfl, (blk_cell BK676.out 3).trans rfl, (blk_cell BK676.out 4).trans rfl, (blk_cell BK676.out 5).trans rfl, (blk_cell BK676.out 6).trans rfl, (blk_cell BK676.out 7).trans rfl, (blk_cell BK676.out 8).trans rfl, (blk_cell BK676.out 9).trans rfl, (blk_cell BK676.out 10).trans rfl, (blk_cell BK676.out 11).trans rfl, (blk_cell BK676.out 12).trans rfl, (blk_cell BK676.out 13).trans rfl, (blk_cell BK676.out 14).trans rfl, (blk_cell BK676.out 15).trans rfl, ((HB.out.cell (World.block_lt_of_cell? w _ hw679_0)).trans hw679_0), ((HB.out.cell (World.block_lt_of_cell? w _ hw679_1)).trans hw679_1), ((HB.out.cell (World.block_lt_of_cell? w _ hw679_2)).trans hw679_2), ((HB.out.cell (World.block_lt_of_cell? w _ hw679_3)).trans hw679_3), ((HB.out.cell (World.block_lt_of_cell? w _ hw679_4)).trans hw679_4)⟩ (fun hHeld => ?_)
                    clear hK K
                    refine norm_ (a' := ?_) ?_ ?_
                    rotate_left
                    · show Act.put _ (some 32) _ = _
                      simp only [Act.put, List.setIfInBounds_toArray, List.set_cons_zero, List.set_cons_succ, i64_w, i32_w]
                      rfl
                    refine pure_ (i := 8) (N := some 39) (v := ?_) (a' := ?_) #[true, true, true, true, true, true, true, true, true, false, false] rfl rfl (any_of HT_.out (by kernel_rfl)) (fun _ _ _ h => h) (Or.inl ⟨by rfl, ?_⟩) ?_ ?_
                    rotate_left
                    · intro w'
                      go_simp
                      with_reducible rfl
                    rotate_left
                    · simp only [Act.put, List.setIfInBounds_toArray, List.set_cons_zero, List.set_cons_succ, i64_w, i32_w]
                      rfl
                    refine one_ (i := 9) (N := some 40) #[true, true, true, true, true, true, true, true, true, true, false] rfl rfl (one_of HT_.out (by kernel_rfl)) (by decide) (fun K hK => ?_)
                    refine goes_ Try.func59 (by kernel_rfl) rfl #[.string (t678 ++ ((rd_T54 l0_5 x6_1).f2))] (by rfl) rfl rfl (by (try simp only [List.map_toArray, List.map_cons, List.map_nil]); first | done | rfl | (simp only [List.length_drop, List.length_take]; rfl)) ?_
                    with_reducible refine (spec_Crc.calls kj4 (t678 ++ ((rd_T54 l0_5 x6_1).f2)) t680 _ A15.out).mono ?_
                    rintro e w' ⟨rfl, ⟨nd, rfl⟩⟩
                    refine ⟨_, rfl, ?_⟩
                    refine hK.out _ _ ⟨(blk_cell BK676.out 0).trans rfl, (blk_cell BK676.out 1).trans rfl, (blk_cell BK676.out 2).trans rfl, (blk_cell BK676.out 3).trans rfl, (blk_cell BK676.out 4).trans rfl, (blk_cell BK676.out 5).trans rfl, (blk_cell BK676.out 6).trans rfl, (blk_cell BK676.out 7).trans rfl, (blk_cell BK676.out 8).trans rfl, (blk_cell BK676.out 9).trans rfl, (blk_cell BK676.out 10).trans rfl, (blk_cell BK676.out 11).trans rfl, (blk_cell BK676.out 12).trans rfl, (blk_cell BK676.out 13).trans rfl, (blk_cell BK676.out 14).trans rfl, (blk_cell BK676.out 15).trans rfl, ((HB.out.cell (World.block_lt_of_cell? w _ hw679_0)).trans hw679_0), ((HB.out.cell (World.block_lt_of_cell? w _ hw679_1)).trans hw679_1), ((HB.out.cell (World.block_lt_of_cell? w _ hw679_2)).trans hw679_2), ((HB.out.cell (World.block_lt_of_cell? w _ hw679_3)).trans hw679_3), ((HB.out.cell (World.block_lt_of_cell? w _ hw679_4)).trans hw679_4)⟩ (fun hHeld => ?_)
                    clear hK K
                    refine norm_ (a' := ?_) ?_ ?_
                    rotate_left
                    · show Act.put _ (some 40) _ = _
                      simp only [Act.put, List.setIfInBounds_toArray, List.set_cons_zero, List.set_cons_succ, i64_w, i32_w]
                      rfl
                    refine pure_ (i := 10) (N := some 5) (v := ?_) (a' := ?_) #[true, true, true, true, true, true, true, true, true, true, true] rfl rfl (any_of HT_.out (by kernel_rfl)) (fun _ _ _ h => h) (Or.inl ⟨by rfl, ?_⟩) ?_ ?_
                    rotate_left
                    · intro w'
                      go_simp
                      with_reducible rfl
                    rotate_left
                    · simp only [Act.put, List.setIfInBounds_toArray, List.set_cons_zero, List.set_cons_succ, i64_w, i32_w]
                      rfl
                    refine done_ (done_of HT_.out (by kernel_rfl)) ?_
                    try go_wp2
                    go_roundg kj4
                    case measure => have := HK1.out; have := HJ4.out; omega
                    case rel => exact ⟨(t680), (wrap64 (x6_1 + 1)), (by first | rfl | (simp; done) | (simp [*]; done)), (by first | rfl | (simp; done) | (simp [*]; done)), H', ⟨by have := HK1.out; have := HJ4.out; omega⟩, ⟨by (with_reducible repeat (first | refine blk_drewN ?_ _ | refine blk_drew ?_ | refine blk_alloc ?_ _)); exact BK676.out⟩, ⟨by repeat (first | (with_reducible first | exact HB.out | apply below_alloc | apply pw_below_drewN | apply below_drew1 | refine below_set ?_ GE676.out) | exact HB.out)⟩⟩
                  · rw [if_neg c14] at H
                    exact absurd H (by simp)
                · rw [if_neg c12] at H
                  have c12b0 : (((rd_T54 l0_5 x6_1).f1) == 2) = false := beq_eq_false_iff_ne.mpr c12
                  have c12b1 : (((rd_T54 l0_5 x6_1).f1) != 2) = true := bne_iff_ne.mpr c12
                  have H' := Aside0.mk H
                  clear H
                  have hcz19_0 : wc.cell? ⟨gb676, 0, none⟩ = some (.int .i64 a0_0) := (blk_cell BK676.out 0).trans rfl
                  have hcz19_1 : wc.cell? ⟨gb676, 1, none⟩ = some (.int .i64 a0_1) := (blk_cell BK676.out 1).trans rfl
                  have hcz19_2 : wc.cell? ⟨gb676, 2, none⟩ = some (.int .i64 a0_2) := (blk_cell BK676.out 2).trans rfl
                  have hcz19_3 : wc.cell? ⟨gb676, 3, none⟩ = some (.int .i64 a0_3) := (blk_cell BK676.out 3).trans rfl
                  have hcz19_4 : wc.cell? ⟨gb676, 4, none⟩ = some (.int .i64 a0_4) := (blk_cell BK676.out 4).trans rfl
                  have hcz19_5 : wc.cell? ⟨gb676, 5, none⟩ = some (.slice A0_5 l0_5.length c0_5) := (blk_cell BK676.out 5).trans rfl
                  have hcz19_6 : wc.cell? ⟨gb676, 6, none⟩ = some (.int .i64 a0_6) := (blk_cell BK676.out 6).trans rfl
                  have hcz19_7 : wc.cell? ⟨gb676, 7, none⟩ = some (.int .i64 a0_7) := (blk_cell BK676.out 7).trans rfl
                  have hcz19_8 : wc.cell? ⟨gb676, 8, none⟩ = some (.int .i64 a0_8) := (blk_cell BK676.out 8).trans rfl
                  have hcz19_9 : wc.cell? ⟨gb676, 9, none⟩ = some (.int .i64 a0_9) := (blk_cell BK676.out 9).trans rfl
                  have hcz19_10 : wc.cell? ⟨gb676, 10, none⟩ = some (.int .i64 a0_10) := (blk_cell BK676.out 10).trans rfl
                  have hcz19_11 : wc.cell? ⟨gb676, 11, none⟩ = some (.int .i64 a0_11) := (blk_cell BK676.out 11).trans rfl
                  have hcz19_12 : wc.cell? ⟨gb676, 12, none⟩ = some (.int .i64 a0_12) := (blk_cell BK676.out 12).trans rfl
                  have hcz19_13 : wc.cell? ⟨gb676, 13, none⟩ = some (.int .i64 a0_13) := (blk_cell BK676.out 13).trans rfl
                  have hcz19_14 : wc.cell? ⟨gb676, 14, none⟩ = some (.slice A0_14 l0_14.length c0_14) := (blk_cell BK676.out 14).trans rfl
                  have hcz19_15 : wc.cell? ⟨gb676, 15, none⟩ = some (.slice A0_15 l0_15.length c0_15) := (blk_cell BK676.out 15).trans rfl
                  have hfz19_0 := blk_frozen BK676.out 0
                  have hfz19_1 := blk_frozen BK676.out 1
                  have hfz19_2 := blk_frozen BK676.out 2
                  have hfz19_3 := blk_frozen BK676.out 3
                  have hfz19_4 := blk_frozen BK676.out 4
                  have hfz19_5 := blk_frozen BK676.out 5
                  have hfz19_6 := blk_frozen BK676.out 6
                  have hfz19_7 := blk_frozen BK676.out 7
                  have hfz19_8 := blk_frozen BK676.out 8
                  have hfz19_9 := blk_frozen BK676.out 9
                  have hfz19_10 := blk_frozen BK676.out 10
                  have hfz19_11 := blk_frozen BK676.out 11
                  have hfz19_12 := blk_frozen BK676.out 12
                  have hfz19_13 := blk_frozen BK676.out 13
                  have hfz19_14 := blk_frozen BK676.out 14
                  have hfz19_15 := blk_frozen BK676.out 15
                  have p677 : 0 ≤ (x6_1 : Int) := of_decide_eq_true (by first | (with_reducible assumption) | assumption)
                  have q677 : x6_1 < (l0_5.length : Int) := of_decide_eq_true (by first | (with_reducible assumption) | assumption)
                  obtain ⟨ad677, e677, hx677_0, hx677_1, hx677_2, hx677_3, hx677_4⟩ := at_T54 HR0_5.out x6_1 p677 q677
                  cases e677
                  replace hx677_0 := (HB.out.cell (World.block_lt_of_cell? w _ hx677_0)).trans hx677_0
                  replace hx677_1 := (HB.out.cell (World.block_lt_of_cell? w _ hx677_1)).trans hx677_1
                  replace hx677_2 := (HB.out.cell (World.block_lt_of_cell? w _ hx677_2)).trans hx677_2
                  replace hx677_3 := (HB.out.cell (World.block_lt_of_cell? w _ hx677_3)).trans hx677_3
                  replace hx677_4 := (HB.out.cell (World.block_lt_of_cell? w _ hx677_4)).trans hx677_4
                  replace p677 := eq_true p677
                  replace q677 := eq_true q677
                  go_wp2
                  go_roundg kj4
                  case measure => have := HK1.out; have := HJ4.out; omega
                  case rel => exact ⟨(x5_1), (wrap64 (x6_1 + 1)), (by first | rfl | (simp; done) | (simp [*]; done)), (by first | rfl | (simp; done) | (simp [*]; done)), H', ⟨by have := HK1.out; have := HJ4.out; omega⟩, ⟨by (with_reducible repeat (first | refine blk_drewN ?_ _ | refine blk_drew ?_ | refine blk_alloc ?_ _)); exact BK676.out⟩, ⟨by repeat (first | (with_reducible first | exact HB.out | apply below_alloc | apply pw_below_drewN | apply below_drew1 | refine below_set ?_ GE676.out) | exact HB.out)⟩⟩
              · rw [if_neg c11] at H
                exact absurd H (by simp)
            · rw [if_neg c10] at H
              exact absurd H (by simp)
          · replace c9 := Bool.eq_false_iff.mpr c9
            subst c9
            have H1 : (some x5_1) = some r := by rw [if_neg (show ¬ (false = true) by decide)] at H; exact H
            clear H
            have H := H1
            clear H1
            obtain rfl := Option.some.inj H
            go_wp2
            go_ret
            exact ⟨by first | rfl | (simp [errW_none, errW_some] <;> rfl) | (simp [*, errW_none, errW_some] <;> rfl), by repeat (first | (with_reducible first | exact HB.out | apply below_alloc | apply pw_below_drewN | apply below_drew1 | refine below_set ?_ GE676.out) | exact HB.out)⟩


end Go.Proofs.Ytkfjgloalfpcmaa.QFnExactNodeOK
