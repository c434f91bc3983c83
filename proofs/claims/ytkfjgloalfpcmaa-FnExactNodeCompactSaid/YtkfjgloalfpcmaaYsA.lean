/- A group's node: the checksum over its log: written by a program of this session and, where no program prints it, by hand. No condition. -/
import Derived.Test.YtkfjgloalfpcmaaYx0
namespace Go.Proofs.Ytkfjgloalfpcmaa.QFnExactNodeOK
open Go.RowKit Go.Proofs.YtkfjgloalfpcmaaW.PrintWords Go.Proofs.YtkfjgloalfpcmaaW.PrintLast Go.Proofs.YtkfjgloalfpcmaaW.PrintMore
attribute [local go_sem] max2_int min2_int max_two min_two max_three min_three max_four min_four str_gtr str_leq str_geq pw_at_slice
set_option linter.unusedVariables false
set_option linter.unusedSimpArgs false
theorem qYsAz0 {P : Prop} (h : P := by first | rfl | (simp; done) | (simp [*]; done)) : P := h
theorem info5 : (Try.prog.info? 5).map (fun i => (i.zero, i.size, i.bytes)) = some (some (.int .u8 0), 1, 1) := by kernel_rfl
/-! ### impl_Crc: function 61 -/
set_option maxRecDepth 100000 in
mutual
def impl_Crc.l0 : Nat → ByteArray → Int → Int → Option (Int)
 | 0, _, _, _ => none
 | k + 1, x0, x3, x4 => if x4 < (x0.size : Int) then (if 0 ≤ x4 then (impl_Crc.l1 k x0 (Go.bits .xor .u32 x3 ((bt x0 x4) % 4294967296)) x4 0) else (none)) else (some (wrap64 (Go.bits .xor .u32 IntKind.u32.max x3)))
def impl_Crc.l1 : Nat → ByteArray → Int → Int → Int → Option (Int)
 | 0, _, _, _, _ => none
 | k + 1, x0, x3, x4, x17 => if x17 < 8 then (impl_Crc.l1 k x0 (Go.bits .xor .u32 (x3 / 2) ((3988292384 * (Go.bits .and .u32 x3 1)) % 4294967296)) x4 (wrap64 (x17 + 1))) else (impl_Crc.l0 k x0 x3 (wrap64 (x4 + 1)))
end
def impl_Crc.f (k : Nat) (a0 : ByteArray) : Option (Int) := impl_Crc.l0 k a0 4294967295 0
set_option maxHeartbeats 8000000 in
set_option maxRecDepth 100000 in
theorem impl_Crc.calls (k : Nat) (a0 : ByteArray) (r : Int) (w : World) (h : impl_Crc.f k a0 = some r) :
  Calls Try.prog 61 #[.string a0] w fun e w' => e = .returned (.int .i64 r) ∧ Drawn0 w w' := by
 have H : (impl_Crc.l0 k a0 4294967295 0) = some r := h; clear h; have H' := Aside0.mk H; clear H
 go_enter Try.func61, Try.ntmps61
 go_wp2
 go_loopg [3, 4] k (fun kq v3 v4 w' => ∃ (x3_1 : Int) (x4_1 : Int), v3 = .int .u32 x3_1 ∧ v4 = .int .i64 x4_1 ∧ Aside0 (impl_Crc.l0 kq a0 x3_1 x4_1 = some r) ∧ Aside0 (kq ≤ k) ∧ Drawn0 w w')
 case atStart => exact ⟨(4294967295), (0), qYsAz0, qYsAz0, H', ⟨Nat.le_refl _⟩, by repeat (first | exact Drawn0.refl _ | apply Drawn0.step)⟩
 case round =>
  clear H'; obtain ⟨x3_1, x4_1, rfl, rfl, HA, HK1, ⟨m1, rfl⟩⟩ := hrel
  cases gk with
  | zero => exact absurd HA.out (by simp [impl_Crc.l0])
  | succ k1 =>
   have H := HA.out; clear HA; simp only [impl_Crc.l0] at H
   by_cases c2 : x4_1 < (a0.size : Int)
   ·rw [if_pos c2] at H
    have c2b0 : decide (x4_1 < (a0.size : Int)) = true := decide_eq_true c2; clear c2
    by_cases c3 : 0 ≤ x4_1
    ·rw [if_pos c3] at H
     have c3b0 : decide (0 ≤ x4_1) = true := decide_eq_true c3; clear c3; have H' := Aside0.mk H; clear H; have p4 : 0 ≤ (x4_1 : Int) := of_decide_eq_true (by first | (with_reducible assumption) | assumption); have q4 : x4_1 < (a0.size : Int) := of_decide_eq_true (by first | (with_reducible assumption) | assumption); have hx4 := bt_at a0 x4_1; replace p4 := eq_true p4; replace q4 := eq_true q4
     go_wp2
     go_loopg [3, 17] k1 (fun kq v3 v17 w' => ∃ (x3_2 : Int) (x17_2 : Int), v3 = .int .u32 x3_2 ∧ v17 = .int .i64 x17_2 ∧ Aside0 (impl_Crc.l1 kq a0 x3_2 x4_1 x17_2 = some r) ∧ Aside0 (kq ≤ k1) ∧ Drawn0 w w')
     case atStart => exact ⟨(Go.bits .xor .u32 x3_1 ((bt a0 x4_1) % 4294967296)), (0), qYsAz0, qYsAz0, H', ⟨Nat.le_refl _⟩, by repeat (first | exact Drawn0.refl _ | apply Drawn0.step)⟩
     case round =>
      clear H'; (try clear c2); (try clear c2b0); (try clear c3); (try clear c3b0); (try clear p4); (try clear q4); (try clear hx4); (try clear p4); (try clear q4); obtain ⟨x3_2, x17_2, rfl, rfl, HA, HK2, ⟨m2, rfl⟩⟩ := hrel
      cases gk with
      | zero => exact absurd HA.out (by simp [impl_Crc.l1])
      | succ k2 =>
       have H := HA.out; clear HA; simp only [impl_Crc.l1] at H
       by_cases c5 : x17_2 < 8
       ·rw [if_pos c5] at H
        have c5b0 : decide (x17_2 < 8) = true := decide_eq_true c5; clear c5; have H' := Aside0.mk H; clear H
        go_wp2
        go_roundg k2
        case measure => have := HK1.out; have := HK2.out; omega
        case rel => exact ⟨(Go.bits .xor .u32 (x3_2 / 2) ((3988292384 * (Go.bits .and .u32 x3_2 1)) % 4294967296)), (wrap64 (x17_2 + 1)), qYsAz0, qYsAz0, H', ⟨by have := HK1.out; have := HK2.out; omega⟩, by repeat (first | exact Drawn0.refl _ | apply Drawn0.step)⟩
       ·rw [if_neg c5] at H
        have c5b0 : decide (x17_2 < 8) = false := decide_eq_false c5; clear c5; have H' := Aside0.mk H; clear H
        go_wp2
        go_roundg k2
        case measure => have := HK1.out; have := HK2.out; omega
        case rel => exact ⟨(x3_2), (wrap64 (x4_1 + 1)), qYsAz0, qYsAz0, H', ⟨by have := HK1.out; have := HK2.out; omega⟩, by repeat (first | exact Drawn0.refl _ | apply Drawn0.step)⟩
    ·rw [if_neg c3] at H
     cases H
   ·rw [if_neg c2] at H
    have c2b0 : decide (x4_1 < (a0.size : Int)) = false := decide_eq_false c2; clear c2; obtain rfl := Option.some.inj H
    go_wp2
    go_ret
    exact ⟨by first | rfl | (simp; done) | (simp [*]; done), by repeat (first | exact Drawn0.refl _ | apply Drawn0.step)⟩


/-! ### impl_bytesOf: function 62 -/
set_option maxRecDepth 100000 in
def impl_bytesOf.l0 : Nat → Int → List Int → Int → Option (ByteArray)
 | 0, _, _, _ => none
 | k + 1, x0, x5, x6 => if x6 ≥ 0 then (if 0 ≤ x6 then (if x6 < (x5.length : Int) then (impl_bytesOf.l0 k (x0 / 256) (x5.set (x6 : Int).toNat ((x0) % 256)) (wrap64 (x6 - 1))) else (none)) else (none)) else (some (strOfNums x5))
def impl_bytesOf.f (k : Nat) (a0 : Int) (a1 : Int) : Option (ByteArray) := if 0 ≤ a1 then (if (a1 : Int).toNat ≤ 281474976710656 then (impl_bytesOf.l0 k a0 (List.replicate (a1 : Int).toNat 0) (wrap64 (a1 - 1))) else (none)) else (none)
set_option maxHeartbeats 8000000 in
set_option maxRecDepth 100000 in
theorem impl_bytesOf.calls (k : Nat) (a0 : Int) (a1 : Int) (r : ByteArray) (w : World) (h : impl_bytesOf.f k a0 a1 = some r) :
  Calls Try.prog 62 #[.int .i64 a0, .int .i64 a1] w fun e w' => e = .returned (.string r) ∧ Below w.heap.size w w' := by
 have HB := Aside0.mk (Below.refl w.heap.size w); have H : (if 0 ≤ a1 then (if (a1 : Int).toNat ≤ 281474976710656 then (impl_bytesOf.l0 k a0 (List.replicate (a1 : Int).toNat 0) (wrap64 (a1 - 1))) else (none)) else (none)) = some r := h; clear h
 by_cases c3 : 0 ≤ a1
 ·rw [if_pos c3] at H
  have c3b0 := eq_true c3; have c3b1 : decide (0 ≤ a1) = true := decide_eq_true c3; clear c3
  by_cases c4 : (a1 : Int).toNat ≤ 281474976710656
  ·rw [if_pos c4] at H
   have c4b0 := eq_true c4; have c4b1 : decide ((a1 : Int).toNat ≤ 281474976710656) = true := decide_eq_true c4; clear c4; obtain ⟨y685, hy685⟩ : ∃ y_ : List Int, y_ = (List.replicate (a1 : Int).toNat 0) := ⟨_, rfl⟩
   replace H : (impl_bytesOf.l0 k a0 y685 (wrap64 (a1 - 1))) = some r := by first | (rw [hy685]; with_reducible exact H) | (have H2_ := (Option.bind_some _ _).symm.trans H; rw [hy685]; with_reducible exact H2_) | (have H2_ := (Option.bind_some _ _).symm.trans H; with_reducible exact H2_) | with_reducible exact H | (rw [hy685]; exact H) | exact H
   have Ny685 := Aside0.mk hy685; clear hy685; have H' := Aside0.mk H; clear H
   go_enter Try.func62, Try.ntmps62
   go_wp2_with (first | ((with_reducible refine gate_dst (N := 8) rfl ?_); refine Kd.R_make (Kd.int .u8) _ 5 rfl (N := 8) rfl 43 _ _ rfl a1 rfl rfl Try.underlying43 (.int .u8 0) 1 info5 rfl (by decide) (by omega) 0 (ok := fun _ => True) (okp := fun _ => True) rfl (fun _ hk => hk) trivial (of_decide_eq_true (by first | (with_reducible assumption) | assumption)) (Nat.le_trans (Nat.mul_le_mul_right _ (of_decide_eq_true (by first | (with_reducible assumption) | assumption) : a1.toNat ≤ 281474976710656)) (by omega)) (Below.refl _ _) (Nat.le_refl _) ?_; intro v686 w5 ho6 hb hg_ hnew_; clear hg_ hnew_; (first | rw [← Ny685.out] at ho6 | (simp only [Int.reduceToNat] at ho6; rw [← Ny685.out] at ho6)); have n0_ := Aside0.mk (Kd.R_lower ho6 (below_size zb)); have n1_ := Aside0.mk (below_step zb hb); clear HB; have HO687 := n0_; have HB := n1_; clear n0_ n1_; clear hb ho6))
   go_loopg [0, 6] k (fun kq v0 v6 w' => ∃ (x0_1 : Int) (x5_1 : List Int) (x6_1 : Int), v0 = .int .i64 x0_1 ∧ v6 = .int .i64 x6_1 ∧ Aside0 (impl_bytesOf.l0 kq x0_1 x5_1 x6_1 = some r) ∧ Aside0 (kq ≤ k) ∧ Aside0 (Kd.R (Kd.int .u8) 5 w' w.heap.size (fun _ => True) v686 x5_1) ∧ Aside0 (Below w.heap.size w w'))
   case atStart => exact ⟨(a0), (y685), (wrap64 (a1 - 1)), qYsAz0, qYsAz0, H', ⟨Nat.le_refl _⟩, ⟨zr HO687.out⟩, ⟨zb⟩⟩
   case round =>
    clear H'; (try clear c3); (try clear c3b0); (try clear c3b1); (try clear c4); (try clear c4b0); (try clear c4b1); obtain ⟨x0_1, x5_1, x6_1, rfl, rfl, HA, HK1, HO_5, HB⟩ := hrel
    cases gk with
    | zero => exact absurd HA.out (by simp [impl_bytesOf.l0])
    | succ k1 =>
     have H := HA.out; clear HA; simp only [impl_bytesOf.l0] at H
     by_cases c7 : x6_1 ≥ 0
     ·rw [if_pos c7] at H
      have c7b0 : decide (0 ≤ x6_1) = true := decide_eq_true c7; clear c7
      by_cases c8 : 0 ≤ x6_1
      ·rw [if_pos c8] at H
       have c8b0 : decide (0 ≤ x6_1) = true := decide_eq_true c8; clear c8
       by_cases c9 : x6_1 < (x5_1.length : Int)
       ·rw [if_pos c9] at H
        have c9b0 : decide (x6_1 < (x5_1.length : Int)) = true := decide_eq_true c9; clear c9; obtain ⟨y688, hy688⟩ : ∃ y_ : List Int, y_ = (x5_1.set (x6_1 : Int).toNat ((x0_1) % 256)) := ⟨_, rfl⟩
        replace H : (impl_bytesOf.l0 k1 (x0_1 / 256) y688 (wrap64 (x6_1 - 1))) = some r := by first | (rw [hy688]; with_reducible exact H) | (have H2_ := (Option.bind_some _ _).symm.trans H; rw [hy688]; with_reducible exact H2_) | (have H2_ := (Option.bind_some _ _).symm.trans H; with_reducible exact H2_) | with_reducible exact H | (rw [hy688]; exact H) | exact H
        have Ny688 := Aside0.mk hy688; clear hy688; have H' := Aside0.mk H; clear H; have p10 : 0 ≤ (x6_1 : Int) := of_decide_eq_true (by first | (with_reducible assumption) | assumption); have q10 : (x6_1 : Int) < ((x5_1.length : Int) : Int) := of_decide_eq_true (by first | (with_reducible assumption) | assumption); obtain ⟨go10, co10, eo10, gb10, gl10, cl10, HG10⟩ := Kd.R_form HO_5.out (by omega); (first | cases eo10 | (injection eo10 with ea_ en_ ec_; (first | subst ea_ | (injection ea_ with ea_; subst ea_)); subst ec_; clear en_)); have GB10 := Aside0.mk gb10; have GG10 := Aside0.mk HG10; clear gb10 gl10 HG10; obtain ⟨hx10_0, hf10_0⟩ := Kd.R_celln 0 HO_5.out (x6_1 : Int) p10 q10; replace p10 := eq_true p10; replace q10 := eq_true q10; have HP11 := Kd.R_putg HO_5.out (x6_1 : Int) ((x0_1) % 256)
        go_wp2_with (first | ((with_reducible refine gate_store (t := 5) (p := 19) rfl ?_); refine store_event (t := 5) (p := 19) (v := ?vo_w12) (w1 := (wr.setCell ⟨go10, (x6_1 : Int).toNat, none⟩ (.int .u8 ((x0_1) % 256)))) ?hg ?ho ?hn ?hr ?_; (case ho => rfl); (case hg => rfl); (case hn => rfl); (case hr => first | (go_simp; done) | (go_simp; rfl)); intro w12 hw; have hg : wr.grownBy w12 (some go10) := (by rw [hw]; exact HP11.2); have hp_ : Kd.R (Kd.int .u8) 5 w12 w.heap.size (fun _ => True) (.slice (some ⟨go10, 0, none⟩) x5_1.length co10) y688 := (by rw [hw, Ny688.out]; exact HP11.1); clear HP11; have n0_ := Aside0.mk (hp_); have n1_ := Aside0.mk ((by rw [hw]; exact below_set (HB.out) GB10.out : Below w.heap.size w w12)); clear HO_5; clear HB; have HO_5 := n0_; have HB := n1_; clear n0_ n1_; clear hg hw hp_))
        go_roundg k1
        case measure => have := HK1.out; omega
        case rel => exact ⟨(x0_1 / 256), (y688), (wrap64 (x6_1 - 1)), qYsAz0, qYsAz0, H', ⟨by have := HK1.out; omega⟩, ⟨zr HO_5.out⟩, ⟨zb⟩⟩
       ·rw [if_neg c9] at H
        cases H
      ·rw [if_neg c8] at H
       cases H
     ·rw [if_neg c7] at H
      have c7b0 : decide (0 ≤ x6_1) = false := decide_eq_false c7; clear c7; obtain rfl := Option.some.inj H; have hcv13 := own_string (P := Try.prog) Try.underlying43 Try.underlying5 Try.underlying9 (Kd.own_of_R HO_5.out)
      go_wp2
      go_ret
      exact ⟨by first | rfl | (simp [errW_none, errW_some] <;> rfl) | (simp [*, errW_none, errW_some] <;> rfl), zb⟩
  ·rw [if_neg c4] at H
   cases H
 ·rw [if_neg c3] at H
  cases H



theorem impl_NodeSum.val_ {P : Program} {ops : Array Oper} {oi : Oper} {N : Option Tmp} {a : Act} {W W' : World} {K : Act → World → Prop} {Q : Exit → Act → World → Prop} {v : Value} (hw : Region.wanted oi (yielded ops a.tmps) = true) (hrun : (execOp a.eval oi).run P W = .ok (.value v) W') (h : K (a.put oi.dst v) W') : if Region.wanted oi (yielded ops a.tmps) = true then Oper.wp P oi a W K Q else K (a.put N undef) W := by
 rw [if_pos hw]
 unfold Oper.wp
 rw [hrun]
 exact h
theorem impl_NodeSum.skip_ {P : Program} {ops : Array Oper} {oi : Oper} {N : Option Tmp} {a : Act} {W W' : World} {K : Act → World → Prop} {Q : Exit → Act → World → Prop} (hw : Region.wanted oi (yielded ops a.tmps) = true) (hrun : (execOp a.eval oi).run P W = .ok .skip W') (h : K (a.put oi.dst undef) W') : if Region.wanted oi (yielded ops a.tmps) = true then Oper.wp P oi a W K Q else K (a.put N undef) W := by
 rw [if_pos hw]
 unfold Oper.wp
 rw [hrun]
 exact h
def impl_NodeSum.l0 : Nat → List (S54) → Int → Int → Int → Int → Option Int
 | 0, _, _, _, _, _ => none
 | k + 1, l, b, u, s, i => if i ≤ u then (if 0 ≤ wrap64 ((wrap64 (i - b)) - 1) then (if wrap64 ((wrap64 (i - b)) - 1) < (l.length : Int) then (if (rd_T54 l (wrap64 ((wrap64 (i - b)) - 1))).f1 = 2 then ((impl_bytesOf.f k s 4).bind fun t => (if t.size + (rd_T54 l (wrap64 ((wrap64 (i - b)) - 1))).f2.size ≤ 9223372036854775807 then ((impl_Crc.f k (t ++ (rd_T54 l (wrap64 ((wrap64 (i - b)) - 1))).f2)).bind fun c => impl_NodeSum.l0 k l b u c (wrap64 (i + 1))) else none)) else impl_NodeSum.l0 k l b u s (wrap64 (i + 1))) else none) else none) else some s
def impl_NodeSum.s (k : Nat) (l : List (S54)) (b bs u : Int) : Option Int := impl_NodeSum.l0 k l b u bs (wrap64 (b + 1))
set_option maxHeartbeats 8000000 in
set_option maxRecDepth 100000 in
theorem impl_NodeSum.scalls (k g : Nat) (A : Option Addr) (c : Nat) (l : List (S54)) (b bs u r : Int) (w : World) (h5 : w.cell? ⟨g, 5, none⟩ = some (.slice A l.length c)) (h6 : w.cell? ⟨g, 6, none⟩ = some (.int .i64 b)) (h10 : w.cell? ⟨g, 10, none⟩ = some (.int .i64 bs)) (hr5 : Kd.C k54 w A l.length l) (h : impl_NodeSum.s k l b bs u = some r) :
  Calls Try.prog 45 #[.pointer (some ⟨g, 0, none⟩), .int .i64 u] w fun e w' => e = .returned (.int .i64 r) ∧ Below w.heap.size w w' := by
 have hu54 := Try.underlying54
 have HR5 := Aside0.mk hr5
 have H5 := Aside0.mk h5
 have H6 := Aside0.mk h6
 clear hr5
 have HB := Aside0.mk (Below.refl w.heap.size w)
 unfold impl_NodeSum.s at h
 have H' := Aside0.mk h
 clear h
 go_enter Try.func45, Try.ntmps45
 go_wp2
 go_loopg [5, 6] k (fun kq v5 v6 w' => ∃ (s i : Int), v5 = .int .i64 s ∧ v6 = .int .i64 i ∧ Aside0 (impl_NodeSum.l0 kq l b u s i = some r) ∧ Aside0 (kq ≤ k) ∧ Aside0 (Below w.heap.size w w'))
 case atStart => exact ⟨bs, wrap64 (b + 1), qYsAz0, qYsAz0, H', ⟨Nat.le_refl _⟩, ⟨zb⟩⟩
 case round =>
  clear H' h5 h6 h10 HB
  obtain ⟨s, i, rfl, rfl, HA, HK1, HB⟩ := hrel
  cases gk with
  | zero => exact absurd HA.out (by simp [impl_NodeSum.l0])
  | succ k1 =>
   have H := HA.out
   clear HA
   simp only [impl_NodeSum.l0] at H
   by_cases c4 : i ≤ u
   ·rw [if_pos c4] at H
    have c4b0 : decide (i ≤ u) = true := decide_eq_true c4
    clear c4
    obtain ⟨ji, hji⟩ : ∃ j_ : Int, wrap64 ((wrap64 (i - b)) - 1) = j_ := ⟨_, rfl⟩
    rw [hji] at H
    by_cases c6 : 0 ≤ ji
    ·rw [if_pos c6] at H
     by_cases c7 : ji < (l.length : Int)
     ·rw [if_pos c7] at H
      have HH := Aside0.mk H
      clear H
      obtain ⟨ad, e_, hx_0, hx_1, hx_2, hx_3, hx_4⟩ := at_T54 HR5.out ji c6 c7
      cases e_
      replace hx_0 := (HB.out.cell (World.block_lt_of_cell? w _ hx_0)).trans hx_0
      replace hx_1 := (HB.out.cell (World.block_lt_of_cell? w _ hx_1)).trans hx_1
      replace hx_2 := (HB.out.cell (World.block_lt_of_cell? w _ hx_2)).trans hx_2
      replace hx_3 := (HB.out.cell (World.block_lt_of_cell? w _ hx_3)).trans hx_3
      replace hx_4 := (HB.out.cell (World.block_lt_of_cell? w _ hx_4)).trans hx_4
      have h5 := (HB.out.cell (World.block_lt_of_cell? w _ H5.out)).trans H5.out
      have h6 := (HB.out.cell (World.block_lt_of_cell? w _ H6.out)).trans H6.out
      replace c6 := eq_true c6
      replace c7 := eq_true c7
      go_upto_region 5 with (fail)
      refine start_ (n := 15) (S := fun w' => w'.cell? ⟨g, 5, none⟩ = some (.slice (some ad) l.length c) ∧ w'.cell? ⟨g, 6, none⟩ = some (.int .i64 b) ∧ w'.cell? (ad.add (ji.toNat * 5)) = some (.int .i64 (rd_T54 l ji).f0) ∧ w'.cell? ⟨(ad.add (ji.toNat * 5)).block, (ad.add (ji.toNat * 5)).off + 1, none⟩ = some (.int .i64 (rd_T54 l ji).f1) ∧ w'.cell? ⟨(ad.add (ji.toNat * 5)).block, (ad.add (ji.toNat * 5)).off + 2, none⟩ = some (.string (rd_T54 l ji).f2) ∧ w'.cell? ⟨(ad.add (ji.toNat * 5)).block, (ad.add (ji.toNat * 5)).off + 3, none⟩ = some (.int .i64 (rd_T54 l ji).f3) ∧ w'.cell? ⟨(ad.add (ji.toNat * 5)).block, (ad.add (ji.toNat * 5)).off + 4, none⟩ = some (.int .i64 (rd_T54 l ji).f4)) (ds := [14]) #[false, false, false, false, false, false, false, false, false, false, false, false, false, false, false] (by kernel_rfl) rfl rfl ⟨h5, h6, hx_0, hx_1, hx_2, hx_3, hx_4⟩ (fun hHeld => ?_)
      have n0_ := Aside0.mk (below_drew1 HB.out)
      clear HB h5 h6 hx_0 hx_1 hx_2 hx_3 hx_4
      have HB := n0_
      clear n0_
      generalize wr.drew = w5 at HB hHeld ⊢
      refine zp 0 22 ?_ (hc := by kernel_rfl)
      refine zp 1 23 ?_ (hc := by kernel_rfl)
      refine zp 2 24 ?_ (hc := by kernel_rfl)
      refine zt 3 25 ?_ (hc := by kernel_rfl) (hr := by rintro w' ⟨s5, s6, s0, s1, s2, s3, s4⟩; go_simp; with_reducible rfl)
      refine zp 4 26 ?_ (hc := by kernel_rfl)
      refine zp 5 27 ?_ (hc := by kernel_rfl)
      refine zp 6 28 ?_ (hc := by kernel_rfl)
      refine zp 7 29 ?_ (hc := by kernel_rfl)
      refine zt 8 30 ?_ (hc := by kernel_rfl) (hr := by rintro w' ⟨s5, s6, s0, s1, s2, s3, s4⟩; go_simp; with_reducible rfl)
      refine zp 9 31 ?_ (hc := by kernel_rfl)
      refine zp 10 32 ?_ (hc := by kernel_rfl)
      rw [hji]
      refine zp 11 33 ?_ (hc := by kernel_rfl)
      refine zt 12 34 ?_ (hc := by kernel_rfl) (hr := by rintro w' ⟨s5, s6, s0, s1, s2, s3, s4⟩; go_simp; with_reducible rfl)
      refine one_ (i := 13) (N := some 7) #[true, true, true, true, true, true, true, true, true, true, true, true, true, true, false] rfl rfl (by kernel_rfl) (by decide) (fun K hK => ?_)
      refine impl_NodeSum.val_ (by rfl) (v := .pointer (some ⟨w5.heap.size, 0, none⟩)) (W' := w5.alloc (.cells #[.int .i64 0, .int .i64 0, .string (⟨#[]⟩ : ByteArray), .int .i64 0, .int .i64 0] 54 (0, 0))) (by first | (go_simp; done) | (go_simp; rfl)) ?_
      have ha : Below w5.heap.size w5 (w5.alloc (.cells #[.int .i64 0, .int .i64 0, .string (⟨#[]⟩ : ByteArray), .int .i64 0, .int .i64 0] 54 (0, 0))) := below_alloc (Below.refl _ _) _
      refine hK.out _ _ ⟨(ha.cell (World.block_lt_of_cell? w5 _ hHeld.1)).trans hHeld.1, (ha.cell (World.block_lt_of_cell? w5 _ hHeld.2.1)).trans hHeld.2.1, (ha.cell (World.block_lt_of_cell? w5 _ hHeld.2.2.1)).trans hHeld.2.2.1, (ha.cell (World.block_lt_of_cell? w5 _ hHeld.2.2.2.1)).trans hHeld.2.2.2.1, (ha.cell (World.block_lt_of_cell? w5 _ hHeld.2.2.2.2.1)).trans hHeld.2.2.2.2.1, (ha.cell (World.block_lt_of_cell? w5 _ hHeld.2.2.2.2.2.1)).trans hHeld.2.2.2.2.2.1, (ha.cell (World.block_lt_of_cell? w5 _ hHeld.2.2.2.2.2.2)).trans hHeld.2.2.2.2.2.2⟩ (fun hHeld => ?_)
      clear hK K
      refine norm_ (a' := ?_) ?_ ?_
      rotate_left
      ·show Act.put _ (some 7) _ = _
       simp only [Act.put, List.setIfInBounds_toArray, List.set_cons_zero, List.set_cons_succ, i64_w, i32_w]
       rfl
      refine last_ (i := 14) (N := none) #[true, true, true, true, true, true, true, true, true, true, true, true, true, true, true] rfl rfl (by kernel_rfl) (by decide) (fun K hK => ?_)
      refine impl_NodeSum.skip_ (by rfl) (W' := w5.alloc (.cells #[.int .i64 ((rd_T54 l ji).f0), .int .i64 ((rd_T54 l ji).f1), .string ((rd_T54 l ji).f2), .int .i64 ((rd_T54 l ji).f3), .int .i64 ((rd_T54 l ji).f4)] 54 (0, 0))) (by first | (go_simp; done) | (go_simp; rfl)) ?_
      refine hK.out _ _ ?_
      clear hK K
      refine done_ (by kernel_rfl) ?_
      obtain ⟨g7, hg7⟩ : ∃ g7, w5.heap.size = g7 := ⟨_, rfl⟩
      have Bg7 : Aside0 ((w5.alloc (.cells #[.int .i64 ((rd_T54 l ji).f0), .int .i64 ((rd_T54 l ji).f1), .string ((rd_T54 l ji).f2), .int .i64 ((rd_T54 l ji).f3), .int .i64 ((rd_T54 l ji).f4)] 54 (0, 0))).heap[g7]? = some (.cells #[.int .i64 ((rd_T54 l ji).f0), .int .i64 ((rd_T54 l ji).f1), .string ((rd_T54 l ji).f2), .int .i64 ((rd_T54 l ji).f3), .int .i64 ((rd_T54 l ji).f4)] 54 (0, 0))) := ⟨by rw [← hg7]; exact blk_new _ _⟩
      have n0_ : Aside0 (Below w.heap.size w (w5.alloc (.cells #[.int .i64 ((rd_T54 l ji).f0), .int .i64 ((rd_T54 l ji).f1), .string ((rd_T54 l ji).f2), .int .i64 ((rd_T54 l ji).f3), .int .i64 ((rd_T54 l ji).f4)] 54 (0, 0)))) := ⟨below_alloc HB.out _⟩
      clear HB hHeld ha
      have HB := n0_
      clear n0_
      rw [hg7]
      generalize w5.alloc (.cells #[.int .i64 ((rd_T54 l ji).f0), .int .i64 ((rd_T54 l ji).f1), .string ((rd_T54 l ji).f2), .int .i64 ((rd_T54 l ji).f3), .int .i64 ((rd_T54 l ji).f4)] 54 (0, 0)) = w6 at HB Bg7 ⊢
      clear hg7
      have hc_0 : w6.cell? ⟨g7, 0, none⟩ = some (.int .i64 ((rd_T54 l ji).f0)) := (blk_cell Bg7.out 0).trans rfl
      have hc_1 : w6.cell? ⟨g7, 1, none⟩ = some (.int .i64 ((rd_T54 l ji).f1)) := (blk_cell Bg7.out 1).trans rfl
      have hc_2 : w6.cell? ⟨g7, 2, none⟩ = some (.string ((rd_T54 l ji).f2)) := (blk_cell Bg7.out 2).trans rfl
      have H := HH.out
      clear HH
      by_cases c8 : (rd_T54 l ji).f1 = 2
      ·rw [if_pos c8] at H
       have c8b0 : ((rd_T54 l ji).f1 == 2) = true := beq_iff_eq.mpr c8
       clear c8
       obtain ⟨t9, A90, H⟩ := Option.bind_eq_some_iff.mp H
       have A9 := Aside0.mk A90
       clear A90
       by_cases c10 : t9.size + (rd_T54 l ji).f2.size ≤ 9223372036854775807
       ·rw [if_pos c10] at H
        have c10b0 := eq_true c10
        have c10b2 : (9223372036854775807 < t9.size + (rd_T54 l ji).f2.size) = False := eq_false (Nat.not_lt.2 c10)
        obtain ⟨t11, A110, H⟩ := Option.bind_eq_some_iff.mp H
        have A11 := Aside0.mk A110
        clear A110
        have H' := Aside0.mk H
        clear H
        go_upto_region 7 with (fail)
        refine start_ (n := 7) (S := fun w' => w'.cell? ⟨g7, 2, none⟩ = some (.string ((rd_T54 l ji).f2))) (ds := []) #[false, false, false, false, false, false, false] (by kernel_rfl) rfl rfl hc_2 (fun hHeld => ?_)
        have n0_ := Aside0.mk (below_drew1 HB.out)
        have n1_ := Aside0.mk (blk_drew Bg7.out)
        clear HB Bg7 hc_0 hc_1 hc_2
        have HB := n0_
        have Bg7 := n1_
        clear n0_ n1_
        generalize w6.drew = w7 at HB Bg7 hHeld ⊢
        refine zp 0 38 ?_ (hc := by kernel_rfl)
        refine zp 2 40 ?_ (hc := by kernel_rfl)
        refine take_ (i := 3) (N := some 41) (v := ?_) (a' := ?_) #[true, false, true, true, false, false, false] rfl rfl (by kernel_rfl) (fun _ _ _ h => h) (Or.inl ⟨by rfl, ?_⟩) hHeld ?_ ?_
        rotate_left
        ·intro w' s0
         go_simp
         with_reducible rfl
        rotate_left
        ·simp only [Act.put, List.setIfInBounds_toArray, List.set_cons_zero, List.set_cons_succ, i64_w, i32_w]
         rfl
        refine one_ (i := 1) (N := some 39) #[true, true, true, true, false, false, false] rfl rfl (by kernel_rfl) (by decide) (fun K hK => ?_)
        refine goes_ Try.func62 (by kernel_rfl) rfl #[.int .i64 s, .int .i64 4] (by rfl) rfl rfl (by (try simp only [List.map_toArray, List.map_cons, List.map_nil]); first | done | rfl) ?_
        with_reducible refine (impl_bytesOf.calls k1 s 4 t9 _ A9.out).mono ?_
        rintro e w8 ⟨rfl, hb⟩
        refine ⟨_, rfl, ?_⟩
        have n0_ := Aside0.mk (blk_below (g := g7) (o := .cells #[.int .i64 ((rd_T54 l ji).f0), .int .i64 ((rd_T54 l ji).f1), .string ((rd_T54 l ji).f2), .int .i64 ((rd_T54 l ji).f3), .int .i64 ((rd_T54 l ji).f4)] 54 (0, 0)) Bg7.out hb)
        have n1_ := Aside0.mk (below_step HB.out hb)
        clear Bg7 HB hb
        have Bg7 := n0_
        have HB := n1_
        clear n0_ n1_
        refine hK.out _ _ ((blk_cell Bg7.out 2).trans rfl) (fun hHeld => ?_)
        clear hK K
        refine norm_ (a' := ?_) ?_ ?_
        rotate_left
        ·show Act.put _ (some 39) _ = _
         simp only [Act.put, List.setIfInBounds_toArray, List.set_cons_zero, List.set_cons_succ, i64_w, i32_w]
         rfl
        refine zp 4 42 ?_ (hc := by kernel_rfl)
        refine one_ (i := 5) (N := some 43) #[true, true, true, true, true, true, false] rfl rfl (by kernel_rfl) (by decide) (fun K hK => ?_)
        refine goes_ Try.func61 (by kernel_rfl) rfl #[.string (t9 ++ ((rd_T54 l ji).f2))] (by rfl) rfl rfl (by (try simp only [List.map_toArray, List.map_cons, List.map_nil]); first | done | rfl) ?_
        with_reducible refine (impl_Crc.calls k1 (t9 ++ ((rd_T54 l ji).f2)) t11 _ A11.out).mono ?_
        rintro e w' ⟨rfl, ⟨nd, rfl⟩⟩
        refine ⟨_, rfl, ?_⟩
        refine hK.out _ _ ((blk_cell Bg7.out 2).trans rfl) (fun hHeld => ?_)
        clear hK K
        refine norm_ (a' := ?_) ?_ ?_
        rotate_left
        ·show Act.put _ (some 43) _ = _
         simp only [Act.put, List.setIfInBounds_toArray, List.set_cons_zero, List.set_cons_succ, i64_w, i32_w]
         rfl
        refine zp 6 5 ?_ (hc := by kernel_rfl)
        refine done_ (by kernel_rfl) ?_
        try go_wp2
        go_roundg k1
        case measure => have := HK1.out; omega
        case rel => exact ⟨t11, wrap64 (i + 1), qYsAz0, qYsAz0, H', ⟨by have := HK1.out; omega⟩, ⟨zb⟩⟩
       ·rw [if_neg c10] at H
        cases H
      ·rw [if_neg c8] at H
       have c8b0 : ((rd_T54 l ji).f1 == 2) = false := beq_eq_false_iff_ne.mpr c8
       clear c8
       have H' := Aside0.mk H
       clear H
       go_wp2
       go_roundg k1
       case measure => have := HK1.out; omega
       case rel => exact ⟨s, wrap64 (i + 1), qYsAz0, qYsAz0, H', ⟨by have := HK1.out; omega⟩, ⟨zb⟩⟩
     ·rw [if_neg c7] at H
      cases H
    ·rw [if_neg c6] at H
     cases H
   ·rw [if_neg c4] at H
    have c4b0 : decide (i ≤ u) = false := decide_eq_false c4
    clear c4
    simp only [Option.some.injEq] at H
    obtain rfl := H
    go_wp2
    go_ret
    exact ⟨by first | rfl | (simp; done) | (simp [*]; done), zb⟩

end Go.Proofs.Ytkfjgloalfpcmaa.QFnExactNodeOK
