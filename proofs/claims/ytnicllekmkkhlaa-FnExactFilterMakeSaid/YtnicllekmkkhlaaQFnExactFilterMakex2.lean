/- The functions that the law reaches, each as a plain Lean function with the proof that the Go code comes to its answers: written by a program of this session. No condition. -/
import Derived.Test.YtnicllekmkkhlaaQFnExactFilterMakex0
import Derived.Test.YtnicllekmkkhlaaQFnExactFilterMakex1
namespace Go.Proofs.Ytnicllekmkkhlaa.QFnExactFilterMake
open Go.RowKit Go.Proofs.YtnicllekmkkhlaaW.PrintWords Go.Proofs.YtnicllekmkkhlaaW.PrintLast Go.Proofs.YtnicllekmkkhlaaW.PrintMore
attribute [local go_sem] max2_int min2_int max_two min_two max_three min_three max_four min_four   -- for this text's walks alone
set_option linter.unusedVariables false
set_option linter.unusedSimpArgs false

/-! ### impl_FilterMake: function 13 -/
def impl_FilterMake.pl_l0 : Nat → ByteArray → Int → Int → Option Int
  | 0, _, _, _ => none
  | k + 1, x0, x4, x5 => if x5 < (x0.size : Int) then (if 0 ≤ x5 then impl_FilterMake.pl_l0 k x0 (IntKind.u32.wrap ((Go.bits .xor .u32 x4 (IntKind.u32.wrap (bt x0 x5))) * 16777619)) (wrap64 (x5 + 1)) else none) else some x4
theorem impl_FilterMake.pl_and16 (h : Int) (h1 : 0 ≤ h) (h2 : h < 4294967296) : wrap64 (Go.bits .and .u32 h 65535) = h % 65536 := by
  obtain ⟨n, rfl⟩ := Int.eq_ofNat_of_zero_le h1
  have hx : n &&& 65535 = n % 65536 := Nat.and_two_pow_sub_one_eq_mod n 16
  have e : Go.bits .and .u32 (n : Int) 65535 = ((n % 65536 : Nat) : Int) := by
    show IntKind.u32.wrap ((BitVec.ofInt 32 (n : Int) &&& BitVec.ofInt 32 ((65535 : Nat) : Int)).toNat : Int) = _
    rw [BitVec.toNat_and, BitVec.ofInt_natCast, BitVec.ofInt_natCast, BitVec.toNat_ofNat, BitVec.toNat_ofNat, Nat.mod_eq_of_lt (show n < 2 ^ 32 by omega), Nat.mod_eq_of_lt (show 65535 < 2 ^ 32 by omega), hx]
    show ((n % 65536 : Nat) : Int) % 4294967296 = _
    omega
  rw [e]
  exact (i64_w _).symm.trans ((IntWalk.i64_in _ (by omega)).trans (by omega))
theorem impl_FilterMake.hs_nil (s : ByteArray) (h : 0 < (s.size : Int)) : s.toList.isEmpty = false := by
  rw [ByteArray.toList_eq]
  have : 0 < s.data.toList.length := by rw [Array.length_toList]; show 0 < s.size; omega
  cases e : s.data.toList with
  | nil => rw [e] at this; cases this
  | cons a b => rfl
theorem impl_FilterMake.hs_nil0 (s : ByteArray) (h : (s.size : Int) = 0) : s.toList.isEmpty = true := by
  rw [ByteArray.toList_eq]
  have : s.data.toList.length = 0 := by rw [Array.length_toList]; show s.size = 0; omega
  rw [List.length_eq_zero_iff.mp this]
  rfl
theorem impl_FilterMake.pl_vb {w W : World} (h : Below w.heap.size w W) (o : Obj) : Below w.heap.size w (W.alloc o) := h.alloc h.size o
set_option maxHeartbeats 8000000 in
set_option maxRecDepth 100000 in
theorem impl_FilterMake.pl_calls (k : Nat) (a0 : ByteArray) (b h : Int) (w : World) (H : impl_FilterMake.pl_l0 k a0 2166136261 0 = some h) (h1 : 0 ≤ h) (h2 : h < 4294967296) (b1 : 0 < b) (b2 : b ≤ 1099511627776) :
    Calls Try.prog 28 #[.string a0, .int .i64 b] w fun e w' => e = .returned (.agg #[.int .i64 (h % 65536 % b), .int .i64 ((h % 65536 + (h / 65536 + 1)) % b), .int .i64 ((h % 65536 + 2 * (h / 65536 + 1)) % b)]) ∧ Below w.heap.size w w' := by
  have H' := Aside0.mk H
  clear H
  go_enter Try.func28, Try.ntmps28
  go_wp2
  go_loopg [5, 6] k (fun kq v4 v5 w' => ∃ (x4_1 : Int) (x5_1 : Int), v4 = .int .u32 x4_1 ∧ v5 = .int .i64 x5_1 ∧ Aside0 (impl_FilterMake.pl_l0 kq a0 x4_1 x5_1 = some h) ∧ Aside0 (kq ≤ k) ∧ ∃ n, w' = (w.alloc (.cells #[.int .i64 0, .int .i64 0, .int .i64 0] 59)).drewN n)
  case atStart => exact ⟨(2166136261), (0), (by first | rfl | (simp; done) | (simp [*]; done)), (by first | rfl | (simp; done) | (simp [*]; done)), H', ⟨Nat.le_refl _⟩, 0, rfl⟩
  case round =>
    clear H'
    obtain ⟨x4_1, x5_1, rfl, rfl, HA, HK1, ⟨m1, rfl⟩⟩ := hrel
    cases gk with
    | zero => exact absurd HA.out (by simp [impl_FilterMake.pl_l0])
    | succ k1 =>
      have H := HA.out
      clear HA
      simp only [impl_FilterMake.pl_l0] at H
      by_cases c2 : x5_1 < (a0.size : Int)
      · rw [if_pos c2] at H
        have c2b0 : decide (x5_1 < (a0.size : Int)) = true := decide_eq_true c2
        clear c2
        by_cases c3 : 0 ≤ x5_1
        · rw [if_pos c3] at H
          have H' := Aside0.mk H
          clear H
          have p4 : 0 ≤ (x5_1 : Int) := c3
          have q4 : x5_1 < (a0.size : Int) := of_decide_eq_true c2b0
          have hx4 := bt_at a0 x5_1
          replace p4 := eq_true p4
          replace q4 := eq_true q4
          go_wp2
          go_roundg k1
          case measure => have := HK1.out; omega
          case rel => exact ⟨_, (wrap64 (x5_1 + 1)), (by first | rfl | (simp; done) | (simp [*]; done)), (by first | rfl | (simp; done) | (simp [*]; done)), H', ⟨by have := HK1.out; omega⟩, _, rfl⟩
        · rw [if_neg c3] at H
          exact absurd H (by simp)
      · rw [if_neg c2] at H
        have c2b0 : decide (x5_1 < (a0.size : Int)) = false := decide_eq_false c2
        clear c2
        simp only [Option.some.injEq] at H
        obtain rfl := H
        go_wp2
        rw [impl_FilterMake.pl_and16 _ h1 h2]
        refine wp_region_still_tail 15 (by kernel_rfl) (by kernel_rfl) ?_
        simp only [List.take_succ_cons, List.take_zero, List.drop_succ_cons, List.drop_zero]
        obtain ⟨h0, hh0⟩ : ∃ y, x4_1 % 65536 = y := ⟨_, rfl⟩
        obtain ⟨h9, hh9⟩ : ∃ y, x4_1 / 65536 + 1 = y := ⟨_, rfl⟩
        rw [hh0, hh9]
        have j0 : 0 ≤ h0 ∧ h0 < 65536 := by omega
        have j1 : 1 ≤ h9 ∧ h9 ≤ 65536 := by omega
        have v1 : (b == 0) = false := beq_eq_false_iff_ne.mpr (by omega)
        have v2 : IntKind.i64.wrap (h0 + h9) = h0 + h9 := IntWalk.i64_in _ (by omega)
        have v3 : IntKind.i64.wrap (2 * h9) = 2 * h9 := IntWalk.i64_in _ (by omega)
        have v4 : IntKind.i64.wrap (h0 + 2 * h9) = h0 + 2 * h9 := IntWalk.i64_in _ (by omega)
        have v5 : h0.tmod b = h0 % b := Int.tmod_eq_emod_of_nonneg (by omega)
        have v6 : (h0 + h9).tmod b = (h0 + h9) % b := Int.tmod_eq_emod_of_nonneg (by omega)
        have v7 : (h0 + 2 * h9).tmod b = (h0 + 2 * h9) % b := Int.tmod_eq_emod_of_nonneg (by omega)
        change wpStill _ _ (World.drew _) (fun a' => wpList _ _ _ _ a' (World.drew _)) _ _
        have v0 : ¬ b = 0 := by omega
        have v8 : (b != 0) = true := bne_iff_ne.mpr (by omega)
        repeat still_step
        refine wpStill_nil ?_
        go_wp2
        try simp only [Exit.inBlock, Exit.then]
        have BK : ((w.alloc (Obj.cells #[Value.int IntKind.i64 0, Value.int IntKind.i64 0, Value.int IntKind.i64 0] 59)).drewN (m1 + 1)).heap[w.heap.size]? = some (.cells #[Value.int IntKind.i64 0, Value.int IntKind.i64 0, Value.int IntKind.i64 0] 59 (0, 0)) := heap_alloc_new w _
        refine bodyPost_ret (results_cell_row rfl _ _ w.heap.size 59 #[.int .i64 (h0 % b), .int .i64 ((h0 + h9) % b), .int .i64 ((h0 + 2 * h9) % b)] (0, 0) _ rfl (blk_put (blk_put (blk_put BK 0 _ rfl) 1 _ rfl) 2 _ rfl) Try.underlying59 rfl (by kernel_rfl)) rfl ?_
        refine ⟨by rw [← hh0, ← hh9], below_set (below_set (below_set (pw_below_drewN (impl_FilterMake.pl_vb (Below.refl _ _) _) _) (Nat.le_refl _)) (Nat.le_refl _)) (Nat.le_refl _)⟩
theorem impl_FilterMake.hs_idx (c0 c1 c2 : Int) (w : World) :
    ((Instr.index 59 (.agg #[.int .i64 c0, .int .i64 c1, .int .i64 c2]) (.int .i64 0)).run Try.prog w = .ok (.int .i64 c0) w) ∧ ((Instr.index 59 (.agg #[.int .i64 c0, .int .i64 c1, .int .i64 c2]) (.int .i64 1)).run Try.prog w = .ok (.int .i64 c1) w) ∧ ((Instr.index 59 (.agg #[.int .i64 c0, .int .i64 c1, .int .i64 c2]) (.int .i64 2)).run Try.prog w = .ok (.int .i64 c2) w) := by
  have hs : ∀ w, (Go.sizeOf 3).run Try.prog w = .ok 1 w := fun w => by first | rfl | kernel_rfl
  refine ⟨?_, ?_, ?_⟩ <;> simp [Instr.index, run_underlying Try.underlying59, asIntOf, hs, go_sem, Go.part]
theorem impl_FilterMake.pl_mono_l : ∀ k, (∀ y0 y1 y2, LeO (impl_FilterMake.pl_l0 k y0 y1 y2) (impl_FilterMake.pl_l0 (k + 1) y0 y1 y2))
  | 0 => fun _ _ _ r h => by simp [impl_FilterMake.pl_l0] at h
  | k + 1 => by
    have ih0 := impl_FilterMake.pl_mono_l k
    · intro y0 y1 y2
      unfold impl_FilterMake.pl_l0
      repeat' first
      | (with_reducible exact ih0 _ _ _)
      | (with_reducible exact LeO.refl _)
      | (with_reducible exact LeO.none _)
      | (with_reducible refine LeO.ite ?_ ?_)

def impl_FilterMake.st (b : List Int) (p : Int) : List Int := b.set (p / 8).toNat (Go.bits .or .u8 (rd b (p / 8)) (shl .u8 1 (p % 8)))
def impl_FilterMake.l0 : Nat → List ByteArray → Int → List Int → Int → Option ByteArray
  | 0, _, _, _, _ => none
  | k + 1, l, n, b, i => if i < (l.length : Int) then (if 0 ≤ i then (impl_FilterMake.pl_l0 k (rdOf ByteArray.empty l i) 2166136261 0).bind fun h => if 0 ≤ h then (if h < 4294967296 then impl_FilterMake.l0 k l n (impl_FilterMake.st (impl_FilterMake.st (impl_FilterMake.st b (h % 65536 % (8 * n))) ((h % 65536 + (h / 65536 + 1)) % (8 * n))) ((h % 65536 + 2 * (h / 65536 + 1)) % (8 * n))) (wrap64 (i + 1)) else none) else none else none) else some (strOfNums b)
def impl_FilterMake.n (l : List ByteArray) : Int := if ((l.length : Int) + 15) / 16 * 32 < 32 then 32 else if ((l.length : Int) + 15) / 16 * 32 > 8192 then 8192 else ((l.length : Int) + 15) / 16 * 32
def impl_FilterMake.f (k : Nat) (l : List ByteArray) : Option ByteArray := if (l.length : Int) ≤ 1099511627776 then impl_FilterMake.l0 k l (impl_FilterMake.n l) (List.replicate (impl_FilterMake.n l).toNat 0) 0 else none
theorem impl_FilterMake.mono_l : ∀ k, (∀ y0 y1 y2 y3, LeO (impl_FilterMake.l0 k y0 y1 y2 y3) (impl_FilterMake.l0 (k + 1) y0 y1 y2 y3))
  | 0 => fun _ _ _ _ r h => by simp [impl_FilterMake.l0] at h
  | k + 1 => by
    have ih0 := impl_FilterMake.mono_l k
    have ih1 := impl_FilterMake.pl_mono_l k
    · intro y0 y1 y2 y3
      unfold impl_FilterMake.l0
      repeat' first
      | (with_reducible exact ih0 _ _ _ _)
      | (with_reducible exact ih1 _ _ _)
      | (with_reducible exact LeO.refl _)
      | (with_reducible exact LeO.none _)
      | (with_reducible refine LeO.ite ?_ ?_)
      | (with_reducible refine LeO.bind ?_ (fun _ => ?_))
theorem impl_FilterMake.mono : ∀ a0 k, LeO (impl_FilterMake.f k a0) (impl_FilterMake.f (k + 1) a0) := by
  intro a0 k
  have ih0 := impl_FilterMake.mono_l k
  unfold impl_FilterMake.f
  repeat' first
      | (with_reducible exact ih0 _ _ _ _)
      | (with_reducible exact LeO.none _)
      | (with_reducible refine LeO.ite ?_ ?_)
set_option maxHeartbeats 8000000 in
set_option maxRecDepth 100000 in
theorem impl_FilterMake.calls (k : Nat) (A0 : Option Addr) (c0 : Nat) (l0 : List ByteArray) (r : ByteArray) (w : World) (hr0 : Kd.C Kd.string w A0 l0.length l0) (hc0 : l0.length ≤ c0) (h : impl_FilterMake.f k l0 = some r) :
    Calls Try.prog 13 #[.slice A0 l0.length c0] w fun e w' => e = .returned (.string r) ∧ Below w.heap.size w w' := by
  unfold impl_FilterMake.f at h
  split at h
  case isFalse => cases h
  rename_i hL
  have HR0 := Aside0.mk hr0
  have HC0 := Aside0.mk hc0
  clear hr0 hc0
  have HB := Aside0.mk (Below.refl w.heap.size w)
  have H := Aside0.mk h
  clear h
  obtain ⟨n, hn⟩ : ∃ n, impl_FilterMake.n l0 = n := ⟨_, rfl⟩
  have hn0 : 32 ≤ n ∧ n ≤ 8192 := by unfold impl_FilterMake.n at hn; split at hn <;> (try split at hn) <;> omega
  rw [hn] at H
  obtain ⟨m1, hm1⟩ : ∃ m1, (if ((l0.length : Int) + 15) / 16 * 32 < 32 then 32 else ((l0.length : Int) + 15) / 16 * 32) = m1 := ⟨_, rfl⟩
  have hmn : (if 8192 < m1 then 8192 else m1) = n := by
    unfold impl_FilterMake.n at hn
    rw [← hm1, ← hn]
    repeat' split
    all_goals omega
  clear hn
  obtain ⟨N, rfl⟩ : ∃ N : Nat, n = (N : Int) := ⟨n.toNat, by omega⟩
  obtain ⟨y102, hy102⟩ : ∃ y_ : List Int, y_ = (List.replicate (N : Int).toNat 0) := ⟨_, rfl⟩
  have HLEN : y102.length = N := by rw [hy102, List.length_replicate]; omega
  have H0 := H.out
  rw [← hy102] at H0
  clear H
  have H := Aside0.mk H0
  clear H0
  have Ny102 := Aside0.mk hy102
  clear hy102
  have d0 : decide (0 ≤ (N : Int)) = true := decide_eq_true (by omega)
  have d1 : decide ((N : Int).toNat ≤ 281474976710656) = true := decide_eq_true (by omega)
  go_enter Try.func13, Try.ntmps13
  go_wp2_with (first | ((with_reducible refine gate_dst (N := 15) rfl ?_); refine Kd.R_make (Kd.int .u8) _ 5 rfl (N := 15) rfl 37 _ _ rfl (N : Int) rfl rfl Try.underlying37 (.int .u8 0) 1 info5 rfl (by decide) (by omega) 0 (ok := fun _ => True) (okp := fun _ => True) rfl (fun _ hk => hk) trivial (by omega) (by omega) (Below.refl _ _) (Nat.le_refl _) ?_; intro v103 w8 ho9 hb hg_ hnew_; clear hg_ hnew_; (first | rw [← Ny102.out] at ho9 | (simp only [Int.reduceToNat] at ho9; rw [← Ny102.out] at ho9)); have n0_ := Aside0.mk (Kd.R_lower ho9 (below_size (by repeat (first | (with_reducible first | exact HB.out | apply below_alloc | apply pw_below_drewN | apply below_drew1) | exact HB.out)))); have n1_ := Aside0.mk (below_step (by repeat (first | (with_reducible first | exact HB.out | apply below_alloc | apply pw_below_drewN | apply below_drew1) | exact HB.out)) hb); clear HB; have HO104 := n0_; have HB := n1_; clear n0_ n1_; clear hb ho9))
  obtain ⟨Ao22, co22, eo22⟩ := Kd.R_slice HO104.out
  rw [HLEN] at eo22
  subst eo22
  clear hm1 hmn d0 d1
  go_loopg [18] k (fun kq v5 w' => ∃ (x4_3 : List Int) (x5_3 : Int), v5 = .int .i64 x5_3 ∧ Aside0 (impl_FilterMake.l0 kq l0 (N : Int) x4_3 x5_3 = some r) ∧ Aside0 (kq ≤ k) ∧ Aside0 (Kd.R (Kd.int .u8) 5 w' w.heap.size (fun _ => True) (.slice Ao22 N co22) x4_3) ∧ Aside0 (x4_3.length = N) ∧ Aside0 (Below w.heap.size w w'))
  case atStart => exact ⟨y102, 0, (by first | rfl | (simp; done) | (simp [*]; done)), H, ⟨Nat.le_refl _⟩, ⟨by (with_reducible repeat (first | apply Kd.R_alloc | apply Kd.R_drewN | apply Kd.R_drew)); exact HO104.out⟩, ⟨HLEN⟩, ⟨by repeat (first | (with_reducible first | exact HB.out | apply below_alloc | apply pw_below_drewN | apply below_drew1) | exact HB.out)⟩⟩
  case round =>
    clear H HO104 HB Ny102 HLEN
    obtain ⟨x4_3, x5_3, rfl, HA, HK3, HO_3, HL3, HB⟩ := hrel
    cases gk with
    | zero => exact absurd HA.out (by simp [impl_FilterMake.l0])
    | succ k3 =>
      have H := HA.out
      clear HA
      simp only [impl_FilterMake.l0] at H
      by_cases c10 : x5_3 < (l0.length : Int)
      · rw [if_pos c10] at H
        have c10b0 : decide (x5_3 < (l0.length : Int)) = true := decide_eq_true c10
        by_cases c11 : 0 ≤ x5_3
        · rw [if_pos c11] at H
          obtain ⟨h, ph, H⟩ := Option.bind_eq_some_iff.mp H
          split at H
          case isFalse => cases H
          rename_i h1
          split at H
          case isFalse => cases H
          rename_i h2
          obtain ⟨p0, e0⟩ : ∃ y, h % 65536 % (8 * (N : Int)) = y := ⟨_, rfl⟩
          obtain ⟨p1, e1⟩ : ∃ y, (h % 65536 + (h / 65536 + 1)) % (8 * (N : Int)) = y := ⟨_, rfl⟩
          obtain ⟨p2, e2⟩ : ∃ y, (h % 65536 + 2 * (h / 65536 + 1)) % (8 * (N : Int)) = y := ⟨_, rfl⟩
          have i0 : 0 ≤ p0 ∧ p0 < 8 * (N : Int) := by rw [← e0]; exact ⟨Int.emod_nonneg _ (by omega), Int.emod_lt_of_pos _ (by omega)⟩
          have i1 : 0 ≤ p1 ∧ p1 < 8 * (N : Int) := by rw [← e1]; exact ⟨Int.emod_nonneg _ (by omega), Int.emod_lt_of_pos _ (by omega)⟩
          have i2 : 0 ≤ p2 ∧ p2 < 8 * (N : Int) := by rw [← e2]; exact ⟨Int.emod_nonneg _ (by omega), Int.emod_lt_of_pos _ (by omega)⟩
          rw [e0, e1, e2] at H
          have A12 := Aside0.mk ph
          clear ph
          have H' := Aside0.mk H
          clear H
          obtain ⟨ad105, e105, hx105_0⟩ := Kd.at_string HR0.out x5_3 c11 c10
          cases e105
          replace hx105_0 := (HB.out.cell (World.block_lt_of_cell? w _ hx105_0)).trans hx105_0
          replace c10 := eq_true c10
          replace c11 := eq_true c11
          go_wp2_with (first | ((with_reducible refine gate_callee (f := 28) rfl ?_); refine goesL_ (some 26) rfl rfl Try.func28 (by kernel_rfl) rfl #[.string (rdOf ByteArray.empty l0 x5_3), .int .i64 (8 * (N : Int))] rfl (by (try simp only [List.map_toArray, List.map_cons, List.map_nil]); first | done | rfl | (simp only [List.length_drop, List.length_take]; rfl)) ?_; (with_reducible refine (impl_FilterMake.pl_calls k3 (rdOf ByteArray.empty l0 x5_3) (8 * (N : Int)) h _ A12.out h1 h2 (by omega) (by omega)).mono ?_); rintro e w9 ⟨rfl, hb⟩; refine ⟨_, rfl, ?_⟩; have n0_ := Aside0.mk (Kd.R_below (by (with_reducible repeat (first | apply Kd.R_alloc | apply Kd.R_drewN | apply Kd.R_drew)); exact HO_3.out) hb); have n1_ := Aside0.mk (below_step (by repeat (first | (with_reducible first | exact HB.out | apply below_alloc | apply pw_below_drewN | apply below_drew1) | exact HB.out)) hb); clear HO_3; clear HB; have HO_3 := n0_; have HB := n1_; clear n0_ n1_; clear hb))
          have HI := fun w => impl_FilterMake.hs_idx p0 p1 p2 w
          have HI0 := fun w => (HI w).1
          have HI1 := fun w => (HI w).2.1
          have HI2 := fun w => (HI w).2.2
          clear HI hx105_0 A12 e0 e1 e2 h1 h2
          go_loopg [27] 4 (fun kq v8 w' => ∃ (x4_4 : List Int), ((kq = 4 ∧ v8 = .int .i64 0 ∧ Aside0 (impl_FilterMake.l0 k3 l0 (N : Int) (impl_FilterMake.st (impl_FilterMake.st (impl_FilterMake.st x4_4 p0) p1) p2) (wrap64 (x5_3 + 1)) = some r)) ∨ (kq = 3 ∧ v8 = .int .i64 1 ∧ Aside0 (impl_FilterMake.l0 k3 l0 (N : Int) (impl_FilterMake.st (impl_FilterMake.st x4_4 p1) p2) (wrap64 (x5_3 + 1)) = some r)) ∨ (kq = 2 ∧ v8 = .int .i64 2 ∧ Aside0 (impl_FilterMake.l0 k3 l0 (N : Int) (impl_FilterMake.st x4_4 p2) (wrap64 (x5_3 + 1)) = some r)) ∨ (kq = 1 ∧ v8 = .int .i64 3 ∧ Aside0 (impl_FilterMake.l0 k3 l0 (N : Int) x4_4 (wrap64 (x5_3 + 1)) = some r))) ∧ Aside0 (Kd.R (Kd.int .u8) 5 w' w.heap.size (fun _ => True) (.slice Ao22 N co22) x4_4) ∧ Aside0 (x4_4.length = N) ∧ Aside0 (Below w.heap.size w w'))
          case atStart => exact ⟨x4_3, .inl ⟨rfl, rfl, H'⟩, ⟨by (with_reducible repeat (first | apply Kd.R_alloc | apply Kd.R_drewN | apply Kd.R_drew)); exact HO_3.out⟩, HL3, ⟨by repeat (first | (with_reducible first | exact HB.out | apply below_alloc | apply pw_below_drewN | apply below_drew1) | exact HB.out)⟩⟩
          case round =>
            clear H' HO_3 HB HL3
            obtain ⟨x4_4, hc, HO_4, HL, HB⟩ := hrel
            rcases hc with ⟨rfl, rfl, HA⟩ | ⟨rfl, rfl, HA⟩ | ⟨rfl, rfl, HA⟩ | ⟨rfl, rfl, HA⟩
            · obtain ⟨q, hq⟩ : ∃ q, Int.tdiv p0 8 = q := ⟨_, rfl⟩
              obtain ⟨m, hm⟩ : ∃ m, Int.tmod p0 8 = m := ⟨_, rfl⟩
              have hq' : q = p0 / 8 := by rw [← hq]; exact Int.tdiv_eq_ediv_of_nonneg (by omega)
              have hm' : m = p0 % 8 := by rw [← hm]; exact Int.tmod_eq_emod_of_nonneg (by omega)
              have hqw : IntKind.i64.wrap q = q := IntWalk.i64_in _ (by omega)
              have hqw2 : wrap64 q = q := (i64_w _).symm.trans hqw
              have c0 : 0 ≤ q := by omega
              have c1 : q < (N : Int) := by omega
              have c2 : 0 ≤ m := by omega
              have c2l : m ≤ 8 := by omega
              have c3b : decide (0 ≤ m) = true := decide_eq_true c2
              have HY := Aside0.mk (show impl_FilterMake.st x4_4 p0 = x4_4.set q.toNat (Go.bits .or .u8 (rd x4_4 q) (shl .u8 1 m)) from (by unfold impl_FilterMake.st; rw [← hq', ← hm']))
              obtain ⟨ji20, hji20⟩ : ∃ j_ : Int, (shl .u8 1 m) = j_ := ⟨_, rfl⟩
              have hji20_ : (IntKind.u8.wrap (1 * 2 ^ min m.toNat 8)) = ji20 := hji20
              have hji20z : m ≤ 8 → (IntKind.u8.wrap (1 * 2 ^ m.toNat)) = ji20 := shl_small hji20
              have hji20u : (IntKind.u8.wrap (2 ^ min m.toNat 8)) = ji20 := by have h_ := hji20_; rw [Int.one_mul] at h_; exact h_
              have hji20v : m ≤ 8 → (IntKind.u8.wrap (2 ^ m.toNat)) = ji20 := fun hle_ => by have h_ := hji20z hle_; rw [Int.one_mul] at h_; exact h_
              have HY2 := Aside0.mk (by rw [HY.out, hji20] : impl_FilterMake.st x4_4 p0 = x4_4.set q.toNat (Go.bits .or .u8 (rd x4_4 q) ji20))
              have HLN := HL.out
              have q108 : q < (x4_4.length : Int) := by omega
              obtain ⟨ad108, e108, hx108_0⟩ := Kd.at_int (Kd.R_reads' HO_4.out).2.2 q c0 q108
              cases e108
              obtain ⟨go21, co21, eo21, gb21, gl21, cl21, HG21⟩ := Kd.R_form HO_4.out (by omega)
              injection eo21 with ea_ en_ ec_
              (first | subst ea_ | (injection ea_ with ea_; subst ea_))
              subst ec_
              clear en_
              have GB21 := Aside0.mk gb21
              have GG21 := Aside0.mk HG21
              clear gb21 gl21 HG21
              (first | simp only [add_plain] at hx108_0 | skip)
              obtain ⟨hx21_0, hf21_0⟩ := Kd.R_celln 0 HO_4.out q c0 c1
              have HLY := Aside0.mk (by rw [HY2.out, List.length_set]; exact HL.out : (impl_FilterMake.st x4_4 p0).length = N)
              clear HY hji20 hq' hm' HLN
              replace c0 := eq_true c0
              replace c1 := eq_true c1
              replace c2 := eq_true c2
              replace q108 := eq_true q108
              go_wp2
              refine wp_region_still_tail 10 (by kernel_rfl) (by kernel_rfl) ?_
              simp only [List.take_succ_cons, List.take_zero, List.drop_succ_cons, List.drop_zero]
              have k0 : (World.drew wr).cell? ⟨go21, q.toNat, none⟩ = some (.int .u8 (rd x4_4 q)) := hx108_0
              have f0 : (World.drew wr).frozen? ⟨go21, q.toNat, none⟩ = false := hf21_0
              have o0 := Aside0.mk (by (with_reducible repeat (first | apply Kd.R_alloc | apply Kd.R_drewN | apply Kd.R_drew)); exact HO_4.out : Kd.R (Kd.int .u8) 5 (World.drew wr) w.heap.size (fun _ => True) (.slice (some ⟨go21, 0, none⟩) N co22) x4_4)
              have b0 := Aside0.mk (below_drew HB.out)
              change wpStill _ _ (World.drew wr) (fun a' => wpList _ _ _ _ a' (World.drew wr)) _ _
              generalize World.drew wr = W2 at *
              have HP23 := Kd.R_putg o0.out q (Go.bits .or .u8 (rd x4_4 q) ji20)
              clear HO_4 HB hx108_0 hx21_0 hf21_0
              repeat still_step
              refine wpStill_nil ?_
              go_wp2
              go_roundg 3
              case measure => omega
              case rel => first | exact ⟨impl_FilterMake.st x4_4 p0, .inr (.inl ⟨rfl, rfl, HA⟩), ⟨by rw [HY2.out]; exact HP23.1⟩, HLY, ⟨below_set b0.out GB21.out⟩⟩ | exact ⟨impl_FilterMake.st x4_4 p0, .inr (.inr (.inl ⟨rfl, rfl, HA⟩)), ⟨by rw [HY2.out]; exact HP23.1⟩, HLY, ⟨below_set b0.out GB21.out⟩⟩ | exact ⟨impl_FilterMake.st x4_4 p0, .inr (.inr (.inr ⟨rfl, rfl, HA⟩)), ⟨by rw [HY2.out]; exact HP23.1⟩, HLY, ⟨below_set b0.out GB21.out⟩⟩
            · obtain ⟨q, hq⟩ : ∃ q, Int.tdiv p1 8 = q := ⟨_, rfl⟩
              obtain ⟨m, hm⟩ : ∃ m, Int.tmod p1 8 = m := ⟨_, rfl⟩
              have hq' : q = p1 / 8 := by rw [← hq]; exact Int.tdiv_eq_ediv_of_nonneg (by omega)
              have hm' : m = p1 % 8 := by rw [← hm]; exact Int.tmod_eq_emod_of_nonneg (by omega)
              have hqw : IntKind.i64.wrap q = q := IntWalk.i64_in _ (by omega)
              have hqw2 : wrap64 q = q := (i64_w _).symm.trans hqw
              have c0 : 0 ≤ q := by omega
              have c1 : q < (N : Int) := by omega
              have c2 : 0 ≤ m := by omega
              have c2l : m ≤ 8 := by omega
              have c3b : decide (0 ≤ m) = true := decide_eq_true c2
              have HY := Aside0.mk (show impl_FilterMake.st x4_4 p1 = x4_4.set q.toNat (Go.bits .or .u8 (rd x4_4 q) (shl .u8 1 m)) from (by unfold impl_FilterMake.st; rw [← hq', ← hm']))
              obtain ⟨ji20, hji20⟩ : ∃ j_ : Int, (shl .u8 1 m) = j_ := ⟨_, rfl⟩
              have hji20_ : (IntKind.u8.wrap (1 * 2 ^ min m.toNat 8)) = ji20 := hji20
              have hji20z : m ≤ 8 → (IntKind.u8.wrap (1 * 2 ^ m.toNat)) = ji20 := shl_small hji20
              have hji20u : (IntKind.u8.wrap (2 ^ min m.toNat 8)) = ji20 := by have h_ := hji20_; rw [Int.one_mul] at h_; exact h_
              have hji20v : m ≤ 8 → (IntKind.u8.wrap (2 ^ m.toNat)) = ji20 := fun hle_ => by have h_ := hji20z hle_; rw [Int.one_mul] at h_; exact h_
              have HY2 := Aside0.mk (by rw [HY.out, hji20] : impl_FilterMake.st x4_4 p1 = x4_4.set q.toNat (Go.bits .or .u8 (rd x4_4 q) ji20))
              have HLN := HL.out
              have q108 : q < (x4_4.length : Int) := by omega
              obtain ⟨ad108, e108, hx108_0⟩ := Kd.at_int (Kd.R_reads' HO_4.out).2.2 q c0 q108
              cases e108
              obtain ⟨go21, co21, eo21, gb21, gl21, cl21, HG21⟩ := Kd.R_form HO_4.out (by omega)
              injection eo21 with ea_ en_ ec_
              (first | subst ea_ | (injection ea_ with ea_; subst ea_))
              subst ec_
              clear en_
              have GB21 := Aside0.mk gb21
              have GG21 := Aside0.mk HG21
              clear gb21 gl21 HG21
              (first | simp only [add_plain] at hx108_0 | skip)
              obtain ⟨hx21_0, hf21_0⟩ := Kd.R_celln 0 HO_4.out q c0 c1
              have HLY := Aside0.mk (by rw [HY2.out, List.length_set]; exact HL.out : (impl_FilterMake.st x4_4 p1).length = N)
              clear HY hji20 hq' hm' HLN
              replace c0 := eq_true c0
              replace c1 := eq_true c1
              replace c2 := eq_true c2
              replace q108 := eq_true q108
              go_wp2
              refine wp_region_still_tail 10 (by kernel_rfl) (by kernel_rfl) ?_
              simp only [List.take_succ_cons, List.take_zero, List.drop_succ_cons, List.drop_zero]
              have k0 : (World.drew wr).cell? ⟨go21, q.toNat, none⟩ = some (.int .u8 (rd x4_4 q)) := hx108_0
              have f0 : (World.drew wr).frozen? ⟨go21, q.toNat, none⟩ = false := hf21_0
              have o0 := Aside0.mk (by (with_reducible repeat (first | apply Kd.R_alloc | apply Kd.R_drewN | apply Kd.R_drew)); exact HO_4.out : Kd.R (Kd.int .u8) 5 (World.drew wr) w.heap.size (fun _ => True) (.slice (some ⟨go21, 0, none⟩) N co22) x4_4)
              have b0 := Aside0.mk (below_drew HB.out)
              change wpStill _ _ (World.drew wr) (fun a' => wpList _ _ _ _ a' (World.drew wr)) _ _
              generalize World.drew wr = W2 at *
              have HP23 := Kd.R_putg o0.out q (Go.bits .or .u8 (rd x4_4 q) ji20)
              clear HO_4 HB hx108_0 hx21_0 hf21_0
              repeat still_step
              refine wpStill_nil ?_
              go_wp2
              go_roundg 2
              case measure => omega
              case rel => first | exact ⟨impl_FilterMake.st x4_4 p1, .inr (.inl ⟨rfl, rfl, HA⟩), ⟨by rw [HY2.out]; exact HP23.1⟩, HLY, ⟨below_set b0.out GB21.out⟩⟩ | exact ⟨impl_FilterMake.st x4_4 p1, .inr (.inr (.inl ⟨rfl, rfl, HA⟩)), ⟨by rw [HY2.out]; exact HP23.1⟩, HLY, ⟨below_set b0.out GB21.out⟩⟩ | exact ⟨impl_FilterMake.st x4_4 p1, .inr (.inr (.inr ⟨rfl, rfl, HA⟩)), ⟨by rw [HY2.out]; exact HP23.1⟩, HLY, ⟨below_set b0.out GB21.out⟩⟩
            · obtain ⟨q, hq⟩ : ∃ q, Int.tdiv p2 8 = q := ⟨_, rfl⟩
              obtain ⟨m, hm⟩ : ∃ m, Int.tmod p2 8 = m := ⟨_, rfl⟩
              have hq' : q = p2 / 8 := by rw [← hq]; exact Int.tdiv_eq_ediv_of_nonneg (by omega)
              have hm' : m = p2 % 8 := by rw [← hm]; exact Int.tmod_eq_emod_of_nonneg (by omega)
              have hqw : IntKind.i64.wrap q = q := IntWalk.i64_in _ (by omega)
              have hqw2 : wrap64 q = q := (i64_w _).symm.trans hqw
              have c0 : 0 ≤ q := by omega
              have c1 : q < (N : Int) := by omega
              have c2 : 0 ≤ m := by omega
              have c2l : m ≤ 8 := by omega
              have c3b : decide (0 ≤ m) = true := decide_eq_true c2
              have HY := Aside0.mk (show impl_FilterMake.st x4_4 p2 = x4_4.set q.toNat (Go.bits .or .u8 (rd x4_4 q) (shl .u8 1 m)) from (by unfold impl_FilterMake.st; rw [← hq', ← hm']))
              obtain ⟨ji20, hji20⟩ : ∃ j_ : Int, (shl .u8 1 m) = j_ := ⟨_, rfl⟩
              have hji20_ : (IntKind.u8.wrap (1 * 2 ^ min m.toNat 8)) = ji20 := hji20
              have hji20z : m ≤ 8 → (IntKind.u8.wrap (1 * 2 ^ m.toNat)) = ji20 := shl_small hji20
              have hji20u : (IntKind.u8.wrap (2 ^ min m.toNat 8)) = ji20 := by have h_ := hji20_; rw [Int.one_mul] at h_; exact h_
              have hji20v : m ≤ 8 → (IntKind.u8.wrap (2 ^ m.toNat)) = ji20 := fun hle_ => by have h_ := hji20z hle_; rw [Int.one_mul] at h_; exact h_
              have HY2 := Aside0.mk (by rw [HY.out, hji20] : impl_FilterMake.st x4_4 p2 = x4_4.set q.toNat (Go.bits .or .u8 (rd x4_4 q) ji20))
              have HLN := HL.out
              have q108 : q < (x4_4.length : Int) := by omega
              obtain ⟨ad108, e108, hx108_0⟩ := Kd.at_int (Kd.R_reads' HO_4.out).2.2 q c0 q108
              cases e108
              obtain ⟨go21, co21, eo21, gb21, gl21, cl21, HG21⟩ := Kd.R_form HO_4.out (by omega)
              injection eo21 with ea_ en_ ec_
              (first | subst ea_ | (injection ea_ with ea_; subst ea_))
              subst ec_
              clear en_
              have GB21 := Aside0.mk gb21
              have GG21 := Aside0.mk HG21
              clear gb21 gl21 HG21
              (first | simp only [add_plain] at hx108_0 | skip)
              obtain ⟨hx21_0, hf21_0⟩ := Kd.R_celln 0 HO_4.out q c0 c1
              have HLY := Aside0.mk (by rw [HY2.out, List.length_set]; exact HL.out : (impl_FilterMake.st x4_4 p2).length = N)
              clear HY hji20 hq' hm' HLN
              replace c0 := eq_true c0
              replace c1 := eq_true c1
              replace c2 := eq_true c2
              replace q108 := eq_true q108
              go_wp2
              refine wp_region_still_tail 10 (by kernel_rfl) (by kernel_rfl) ?_
              simp only [List.take_succ_cons, List.take_zero, List.drop_succ_cons, List.drop_zero]
              have k0 : (World.drew wr).cell? ⟨go21, q.toNat, none⟩ = some (.int .u8 (rd x4_4 q)) := hx108_0
              have f0 : (World.drew wr).frozen? ⟨go21, q.toNat, none⟩ = false := hf21_0
              have o0 := Aside0.mk (by (with_reducible repeat (first | apply Kd.R_alloc | apply Kd.R_drewN | apply Kd.R_drew)); exact HO_4.out : Kd.R (Kd.int .u8) 5 (World.drew wr) w.heap.size (fun _ => True) (.slice (some ⟨go21, 0, none⟩) N co22) x4_4)
              have b0 := Aside0.mk (below_drew HB.out)
              change wpStill _ _ (World.drew wr) (fun a' => wpList _ _ _ _ a' (World.drew wr)) _ _
              generalize World.drew wr = W2 at *
              have HP23 := Kd.R_putg o0.out q (Go.bits .or .u8 (rd x4_4 q) ji20)
              clear HO_4 HB hx108_0 hx21_0 hf21_0
              repeat still_step
              refine wpStill_nil ?_
              go_wp2
              go_roundg 1
              case measure => omega
              case rel => first | exact ⟨impl_FilterMake.st x4_4 p2, .inr (.inl ⟨rfl, rfl, HA⟩), ⟨by rw [HY2.out]; exact HP23.1⟩, HLY, ⟨below_set b0.out GB21.out⟩⟩ | exact ⟨impl_FilterMake.st x4_4 p2, .inr (.inr (.inl ⟨rfl, rfl, HA⟩)), ⟨by rw [HY2.out]; exact HP23.1⟩, HLY, ⟨below_set b0.out GB21.out⟩⟩ | exact ⟨impl_FilterMake.st x4_4 p2, .inr (.inr (.inr ⟨rfl, rfl, HA⟩)), ⟨by rw [HY2.out]; exact HP23.1⟩, HLY, ⟨below_set b0.out GB21.out⟩⟩
            · go_wp2
              go_roundg k3
              case measure => have := HK3.out; omega
              case rel => exact ⟨x4_4, (wrap64 (x5_3 + 1)), (by first | rfl | (simp; done) | (simp [*]; done)), HA, ⟨by have := HK3.out; omega⟩, ⟨by (with_reducible repeat (first | apply Kd.R_alloc | apply Kd.R_drewN | apply Kd.R_drew)); exact HO_4.out⟩, HL, ⟨by repeat (first | (with_reducible first | exact HB.out | apply below_alloc | apply pw_below_drewN | apply below_drew1) | exact HB.out)⟩⟩
        · rw [if_neg c11] at H
          cases H
      · rw [if_neg c10] at H
        have c10b0 : decide (x5_3 < (l0.length : Int)) = false := decide_eq_false c10
        clear c10
        obtain rfl := Option.some.inj H
        have hcv25 := own_string (P := Try.prog) Try.underlying37 Try.underlying5 Try.underlying9 (Kd.own_of_R HO_3.out)
        go_wp2
        go_ret
        exact ⟨rfl, by repeat (first | (with_reducible first | exact HB.out | apply below_alloc | apply pw_below_drewN | apply below_drew1) | exact HB.out)⟩


/-! ### laws_eqStringS: function 14 -/
def laws_eqStringS.l0 : Nat → List ByteArray → List ByteArray → Int → Option (Bool)
  | 0, _, _, _ => none
  | k + 1, x0, x1, x5 => if x5 < (x0.length : Int) then (if 0 ≤ x5 then (if x5 < (x1.length : Int) then (if (rdOf ByteArray.empty x0 x5).toList = (rdOf ByteArray.empty x1 x5).toList then (laws_eqStringS.l0 k x0 x1 (wrap64 (x5 + 1))) else (some false)) else (none)) else (none)) else (some true)
def laws_eqStringS.f (k : Nat) (l0 : List ByteArray) (l1 : List ByteArray) : Option (Bool) := if (l0.length : Int) = (l1.length : Int) then (laws_eqStringS.l0 k l0 l1 0) else (some false)
theorem laws_eqStringS.mono_l : ∀ k, (∀ y0 y1 y2, LeO (laws_eqStringS.l0 k y0 y1 y2) (laws_eqStringS.l0 (k + 1) y0 y1 y2))
  | 0 => fun _ _ _ r h => by simp [laws_eqStringS.l0] at h
  | k + 1 => by
    have ih0 := laws_eqStringS.mono_l k
    · intro y0 y1 y2
      unfold laws_eqStringS.l0
      repeat' first
      | (with_reducible exact ih0 _ _ _)
      | (with_reducible exact LeO.refl _)
      | (with_reducible exact LeO.none _)
      | (with_reducible refine LeO.ite ?_ ?_)
      | (with_reducible refine LeO.bind ?_ (fun _ => ?_))
      | exact ih0 _ _ _
      | exact LeO.none _
      | refine LeO.ite ?_ ?_
      | refine LeO.bind ?_ (fun _ => ?_)
theorem laws_eqStringS.mono : ∀ a0 a1 k, LeO (laws_eqStringS.f k a0 a1) (laws_eqStringS.f (k + 1) a0 a1) := by
  intro a0 a1 k
  have ih0 := laws_eqStringS.mono_l k
  unfold laws_eqStringS.f
  repeat' first
      | (with_reducible exact ih0 _ _ _)
      | (with_reducible exact LeO.refl _)
      | (with_reducible exact LeO.none _)
      | (with_reducible refine LeO.ite ?_ ?_)
      | (with_reducible refine LeO.bind ?_ (fun _ => ?_))
      | exact ih0 _ _ _
      | exact LeO.none _
      | refine LeO.ite ?_ ?_
      | refine LeO.bind ?_ (fun _ => ?_)
set_option maxHeartbeats 8000000 in
set_option maxRecDepth 100000 in
theorem laws_eqStringS.calls (k : Nat) (A0 : Option Addr) (c0 : Nat) (l0 : List ByteArray) (A1 : Option Addr) (c1 : Nat) (l1 : List ByteArray) (r : Bool) (w : World) (hr0 : Kd.C Kd.string w A0 l0.length l0) (hc0 : l0.length ≤ c0) (hr1 : Kd.C Kd.string w A1 l1.length l1) (hc1 : l1.length ≤ c1) (h : laws_eqStringS.f k l0 l1 = some r) :
    Calls Try.prog 14 #[.slice A0 l0.length c0, .slice A1 l1.length c1] w fun e w' => e = .returned (.bool r) ∧ Drawn0 w w' := by
  have HR0 := Aside0.mk hr0
  have HC0 := Aside0.mk hc0
  clear hr0 hc0
  have HR1 := Aside0.mk hr1
  have HC1 := Aside0.mk hc1
  clear hr1 hc1
  have H : (if (l0.length : Int) = (l1.length : Int) then (laws_eqStringS.l0 k l0 l1 0) else (some false)) = some r := h
  clear h
  by_cases c3 : (l0.length : Int) = (l1.length : Int)
  · rw [if_pos c3] at H
    have c3b0 : ((l0.length : Int) == (l1.length : Int)) = true := beq_iff_eq.mpr c3
    have c3b1 : ((l0.length : Int) != (l1.length : Int)) = false := bne_eq_false_iff_eq.mpr c3
    have c3b2 : (l0.length == l1.length) = true := by first | simpa using c3 | (simp at c3 ⊢; omega)
    clear c3
    have H' := Aside0.mk H
    clear H
    go_enter Try.func14, Try.ntmps14
    go_wp2
    repeat (go_quiet (fail); try go_wp2)
    go_loopg [5] k (fun kq v5 w' => ∃ (x5_1 : Int), v5 = .int .i64 x5_1 ∧ Aside0 (laws_eqStringS.l0 kq l0 l1 x5_1 = some r) ∧ Aside0 (kq ≤ k) ∧ Drawn0 w w')
    case atStart => exact ⟨(0), (by first | rfl | (simp; done) | (simp [*]; done)), H', ⟨Nat.le_refl _⟩, by repeat (first | exact Drawn0.refl _ | apply Drawn0.step)⟩
    case round =>
      clear H'
      try clear c1
      try clear p2
      try clear c3
      try clear c3b0
      try clear c3b1
      try clear c3b2
      obtain ⟨x5_1, rfl, HA, HK1, ⟨m1, rfl⟩⟩ := hrel
      cases gk with
      | zero => exact absurd HA.out (by simp [laws_eqStringS.l0])
      | succ k1 =>
        have H := HA.out
        clear HA
        simp only [laws_eqStringS.l0] at H
        by_cases c4 : x5_1 < (l0.length : Int)
        · rw [if_pos c4] at H
          have c4b0 : decide (x5_1 < (l0.length : Int)) = true := decide_eq_true c4
          clear c4
          by_cases c5 : 0 ≤ x5_1
          · rw [if_pos c5] at H
            have c5b0 : decide (0 ≤ x5_1) = true := decide_eq_true c5
            clear c5
            by_cases c6 : x5_1 < (l1.length : Int)
            · rw [if_pos c6] at H
              have c6b0 : decide (x5_1 < (l1.length : Int)) = true := decide_eq_true c6
              clear c6
              by_cases c7 : (rdOf ByteArray.empty l0 x5_1).toList = (rdOf ByteArray.empty l1 x5_1).toList
              · rw [if_pos c7] at H
                have c7b0 : ((rdOf ByteArray.empty l0 x5_1).toList == (rdOf ByteArray.empty l1 x5_1).toList) = true := beq_iff_eq.mpr c7
                have c7b1 : ((rdOf ByteArray.empty l0 x5_1).toList != (rdOf ByteArray.empty l1 x5_1).toList) = false := bne_eq_false_iff_eq.mpr c7
                clear c7
                have H' := Aside0.mk H
                clear H
                have p115 : 0 ≤ (x5_1 : Int) := of_decide_eq_true (by first | (with_reducible assumption) | assumption)
                have q115 : x5_1 < (l0.length : Int) := of_decide_eq_true (by first | (with_reducible assumption) | assumption)
                obtain ⟨ad115, e115, hx115_0⟩ := Kd.at_string HR0.out x5_1 p115 q115
                cases e115
                replace p115 := eq_true p115
                replace q115 := eq_true q115
                have p116 : 0 ≤ (x5_1 : Int) := of_decide_eq_true (by first | (with_reducible assumption) | assumption)
                have q116 : x5_1 < (l1.length : Int) := of_decide_eq_true (by first | (with_reducible assumption) | assumption)
                obtain ⟨ad116, e116, hx116_0⟩ := Kd.at_string HR1.out x5_1 p116 q116
                cases e116
                replace p116 := eq_true p116
                replace q116 := eq_true q116
                go_wp2
                repeat (go_quiet (fail); try go_wp2)
                go_roundg k1
                case measure => have := HK1.out; omega
                case rel => exact ⟨(wrap64 (x5_1 + 1)), (by first | rfl | (simp; done) | (simp [*]; done)), H', ⟨by have := HK1.out; omega⟩, by repeat (first | exact Drawn0.refl _ | apply Drawn0.step)⟩
              · rw [if_neg c7] at H
                have c7b0 : ((rdOf ByteArray.empty l0 x5_1).toList == (rdOf ByteArray.empty l1 x5_1).toList) = false := beq_eq_false_iff_ne.mpr c7
                have c7b1 : ((rdOf ByteArray.empty l0 x5_1).toList != (rdOf ByteArray.empty l1 x5_1).toList) = true := bne_iff_ne.mpr c7
                obtain rfl := Option.some.inj H
                have p115 : 0 ≤ (x5_1 : Int) := of_decide_eq_true (by first | (with_reducible assumption) | assumption)
                have q115 : x5_1 < (l0.length : Int) := of_decide_eq_true (by first | (with_reducible assumption) | assumption)
                obtain ⟨ad115, e115, hx115_0⟩ := Kd.at_string HR0.out x5_1 p115 q115
                cases e115
                replace p115 := eq_true p115
                replace q115 := eq_true q115
                have p116 : 0 ≤ (x5_1 : Int) := of_decide_eq_true (by first | (with_reducible assumption) | assumption)
                have q116 : x5_1 < (l1.length : Int) := of_decide_eq_true (by first | (with_reducible assumption) | assumption)
                obtain ⟨ad116, e116, hx116_0⟩ := Kd.at_string HR1.out x5_1 p116 q116
                cases e116
                replace p116 := eq_true p116
                replace q116 := eq_true q116
                go_wp2
                repeat (go_quiet (fail); try go_wp2)
                go_ret
                exact ⟨by first | rfl | (simp; done) | (simp [*]; done), by repeat (first | exact Drawn0.refl _ | apply Drawn0.step)⟩
            · rw [if_neg c6] at H
              exact absurd H (by simp)
          · rw [if_neg c5] at H
            exact absurd H (by simp)
        · rw [if_neg c4] at H
          have c4b0 : decide (x5_1 < (l0.length : Int)) = false := decide_eq_false c4
          clear c4
          obtain rfl := Option.some.inj H
          go_wp2
          repeat (go_quiet (fail); try go_wp2)
          go_ret
          exact ⟨by first | rfl | (simp; done) | (simp [*]; done), by repeat (first | exact Drawn0.refl _ | apply Drawn0.step)⟩
  · rw [if_neg c3] at H
    have c3b0 : ((l0.length : Int) == (l1.length : Int)) = false := beq_eq_false_iff_ne.mpr c3
    have c3b1 : ((l0.length : Int) != (l1.length : Int)) = true := bne_iff_ne.mpr c3
    have c3b2 : (l0.length == l1.length) = false := by first | simpa using c3 | (simp at c3 ⊢; omega)
    obtain rfl := Option.some.inj H
    go_enter Try.func14, Try.ntmps14
    go_wp2
    repeat (go_quiet (fail); try go_wp2)
    go_ret
    exact ⟨by first | rfl | (simp; done) | (simp [*]; done), by repeat (first | exact Drawn0.refl _ | apply Drawn0.step)⟩

/-! ### laws_FnExactFilterMake: function 4 -/
def laws_FnExactFilterMake.f (k : Nat) (l0 : List ByteArray) : Option (Bool) := (laws_szStringS.f k l0 1048576).bind fun t117 => (if t117 < 0 then (some true) else ((laws_toStringS.f k l0).bind fun t118 => ((spec_FilterMake.f k t118).bind fun t121 => ((laws_toStringS.f k l0).bind fun t122 => ((impl_FilterMake.f k t122).bind fun t125 => (if t125.toList = t121.toList then ((laws_toStringS.f k l0).bind fun t126 => ((laws_eqStringS.f k t122 t126).bind fun t129 => (if t129 = true then (some true) else (some false)))) else (some false)))))))
theorem laws_FnExactFilterMake.mono : ∀ a0 k, LeO (laws_FnExactFilterMake.f k a0) (laws_FnExactFilterMake.f (k + 1) a0) := by
  intro a0 k
  unfold laws_FnExactFilterMake.f
  repeat' first
      | (with_reducible exact impl_FilterMake.mono _ _)
      | (with_reducible exact laws_eqStringS.mono _ _ _)
      | (with_reducible exact laws_szStringS.mono _ _ _)
      | (with_reducible exact laws_toStringS.mono _ _)
      | (with_reducible exact spec_FilterMake.mono _ _)
      | (with_reducible exact LeO.refl _)
      | (with_reducible exact LeO.none _)
      | (with_reducible refine LeO.ite ?_ ?_)
      | (with_reducible refine LeO.bind ?_ (fun _ => ?_))
      | exact impl_FilterMake.mono _ _
      | exact laws_eqStringS.mono _ _ _
      | exact laws_szStringS.mono _ _ _
      | exact laws_toStringS.mono _ _
      | exact spec_FilterMake.mono _ _
      | exact LeO.none _
      | refine LeO.ite ?_ ?_
      | refine LeO.bind ?_ (fun _ => ?_)
set_option maxHeartbeats 8000000 in
set_option maxRecDepth 100000 in
theorem laws_FnExactFilterMake.calls (k : Nat) (A0 : Option Addr) (c0 : Nat) (l0 : List ByteArray) (r : Bool) (w : World) (hr0 : Kd.C Kd.string w A0 l0.length l0) (hc0 : l0.length ≤ c0) (h : laws_FnExactFilterMake.f k l0 = some r) (ht_ : r = true) :
    Calls Try.prog 4 #[.slice A0 l0.length c0] w fun e w' => e = .returned (.bool r) ∧ Below w.heap.size w w' := by
  have HR0 := Aside0.mk hr0
  have HC0 := Aside0.mk hc0
  clear hr0 hc0
  have HB := Aside0.mk (Below.refl w.heap.size w)
  have HT9_ := Aside0.mk ht_
  clear ht_
  have H : ((laws_szStringS.f k l0 1048576).bind fun t117 => (if t117 < 0 then (some true) else ((laws_toStringS.f k l0).bind fun t118 => ((spec_FilterMake.f k t118).bind fun t121 => ((laws_toStringS.f k l0).bind fun t122 => ((impl_FilterMake.f k t122).bind fun t125 => (if t125.toList = t121.toList then ((laws_toStringS.f k l0).bind fun t126 => ((laws_eqStringS.f k t122 t126).bind fun t129 => (if t129 = true then (some true) else (some false)))) else (some false)))))))) = some r := h
  clear h
  replace H := Option.bind_eq_some_iff.mp H
  obtain ⟨t117, A20, H⟩ := H
  replace H : (if t117 < 0 then (some true) else ((laws_toStringS.f k l0).bind fun t118 => ((spec_FilterMake.f k t118).bind fun t121 => ((laws_toStringS.f k l0).bind fun t122 => ((impl_FilterMake.f k t122).bind fun t125 => (if t125.toList = t121.toList then ((laws_toStringS.f k l0).bind fun t126 => ((laws_eqStringS.f k t122 t126).bind fun t129 => (if t129 = true then (some true) else (some false)))) else (some false))))))) = some r := H
  have A2 := Aside0.mk A20
  clear A20
  by_cases c3 : t117 < 0
  · rw [if_pos c3] at H
    have c3b0 : decide (t117 < 0) = true := decide_eq_true c3
    clear c3
    obtain rfl := Option.some.inj H
    go_enter Try.func4, Try.ntmps4
    go_wp2_with (first | ((with_reducible refine gate_callee (f := 10) rfl ?_); refine goesL_ (some 9) rfl rfl Try.func10 (by kernel_rfl) rfl #[.slice A0 l0.length c0, .int .i64 1048576] rfl (by (try simp only [List.map_toArray, List.map_cons, List.map_nil]); first | done | rfl | (simp only [List.length_drop, List.length_take]; rfl)) ?_; (with_reducible refine (laws_szStringS.calls k _ _ l0 1048576 t117 _ ?side1 ?side2 A2.out).mono ?_); (case side1 => repeat (first | exact HR0.out | (with_reducible refine Kd.C_alloc ?_ _) | (with_reducible refine Kd.C_drewN ?_ _) | (with_reducible refine Kd.C_drew ?_))); (case side2 => exact HC0.out); rintro e w' ⟨rfl, ⟨nd, rfl⟩⟩; refine ⟨_, rfl, ?_⟩))
    go_ret
    exact ⟨by first | rfl | (simp [errW_none, errW_some] <;> rfl) | (simp [*, errW_none, errW_some] <;> rfl), by repeat (first | (with_reducible first | exact HB.out | apply below_alloc | apply pw_below_drewN | apply below_drew1) | exact HB.out)⟩
  · rw [if_neg c3] at H
    have c3b0 : decide (t117 < 0) = false := decide_eq_false c3
    clear c3
    replace H := Option.bind_eq_some_iff.mp H
    obtain ⟨t118, A40, H⟩ := H
    replace H : ((spec_FilterMake.f k t118).bind fun t121 => ((laws_toStringS.f k l0).bind fun t122 => ((impl_FilterMake.f k t122).bind fun t125 => (if t125.toList = t121.toList then ((laws_toStringS.f k l0).bind fun t126 => ((laws_eqStringS.f k t122 t126).bind fun t129 => (if t129 = true then (some true) else (some false)))) else (some false))))) = some r := H
    have A4 := Aside0.mk A40
    clear A40
    replace H := Option.bind_eq_some_iff.mp H
    obtain ⟨t121, A50, H⟩ := H
    replace H : ((laws_toStringS.f k l0).bind fun t122 => ((impl_FilterMake.f k t122).bind fun t125 => (if t125.toList = t121.toList then ((laws_toStringS.f k l0).bind fun t126 => ((laws_eqStringS.f k t122 t126).bind fun t129 => (if t129 = true then (some true) else (some false)))) else (some false)))) = some r := H
    have A5 := Aside0.mk A50
    clear A50
    replace H := Option.bind_eq_some_iff.mp H
    obtain ⟨t122, A60, H⟩ := H
    replace H : ((impl_FilterMake.f k t122).bind fun t125 => (if t125.toList = t121.toList then ((laws_toStringS.f k l0).bind fun t126 => ((laws_eqStringS.f k t122 t126).bind fun t129 => (if t129 = true then (some true) else (some false)))) else (some false))) = some r := H
    have A6 := Aside0.mk A60
    clear A60
    replace H := Option.bind_eq_some_iff.mp H
    obtain ⟨t125, A70, H⟩ := H
    replace H : (if t125.toList = t121.toList then ((laws_toStringS.f k l0).bind fun t126 => ((laws_eqStringS.f k t122 t126).bind fun t129 => (if t129 = true then (some true) else (some false)))) else (some false)) = some r := H
    have A7 := Aside0.mk A70
    clear A70
    by_cases c8 : t125.toList = t121.toList
    · rw [if_pos c8] at H
      have c8b0 : (t125.toList == t121.toList) = true := beq_iff_eq.mpr c8
      have c8b1 : (t125.toList != t121.toList) = false := bne_eq_false_iff_eq.mpr c8
      clear c8
      replace H := Option.bind_eq_some_iff.mp H
      obtain ⟨t126, A90, H⟩ := H
      replace H : ((laws_eqStringS.f k t122 t126).bind fun t129 => (if t129 = true then (some true) else (some false))) = some r := H
      have A9 := Aside0.mk A90
      clear A90
      replace H := Option.bind_eq_some_iff.mp H
      obtain ⟨t129, A100, H⟩ := H
      replace H : (if t129 = true then (some true) else (some false)) = some r := H
      have A10 := Aside0.mk A100
      clear A100
      by_cases c11 : t129 = true
      · subst c11
        have H1 : (some true) = some r := by rw [if_pos rfl] at H; exact H
        clear H
        have H := H1
        clear H1
        obtain rfl := Option.some.inj H
        go_enter Try.func4, Try.ntmps4
        go_wp2_with (first | ((with_reducible refine gate_callee (f := 10) rfl ?_); refine goesL_ (some 9) rfl rfl Try.func10 (by kernel_rfl) rfl #[.slice A0 l0.length c0, .int .i64 1048576] rfl (by (try simp only [List.map_toArray, List.map_cons, List.map_nil]); first | done | rfl | (simp only [List.length_drop, List.length_take]; rfl)) ?_; (with_reducible refine (laws_szStringS.calls k _ _ l0 1048576 t117 _ ?side1 ?side2 A2.out).mono ?_); (case side1 => repeat (first | exact HR0.out | (with_reducible refine Kd.C_alloc ?_ _) | (with_reducible refine Kd.C_drewN ?_ _) | (with_reducible refine Kd.C_drew ?_))); (case side2 => exact HC0.out); rintro e w' ⟨rfl, ⟨nd, rfl⟩⟩; refine ⟨_, rfl, ?_⟩) | ((with_reducible refine gate_callee (f := 12) rfl ?_); refine goesL_ (some 13) rfl rfl Try.func12 (by kernel_rfl) rfl #[.slice A0 l0.length c0] rfl (by (try simp only [List.map_toArray, List.map_cons, List.map_nil]); first | done | rfl | (simp only [List.length_drop, List.length_take]; rfl)) ?_; (with_reducible refine (laws_toStringS.calls k _ _ l0 t118 _ ?side1 ?side2 A4.out).mono ?_); (case side1 => repeat (first | exact HR0.out | (with_reducible refine Kd.C_alloc ?_ _) | (with_reducible refine Kd.C_drewN ?_ _) | (with_reducible refine Kd.C_drew ?_))); (case side2 => exact HC0.out); rintro e w12 ⟨v119, rfl, ho0, hb⟩; refine ⟨_, rfl, ?_⟩; have n0_ := Aside0.mk (Kd.R_lower ho0 (below_size (by repeat (first | (with_reducible first | exact HB.out | apply below_alloc | apply pw_below_drewN | apply below_drew1) | exact HB.out)))); have n1_ := Aside0.mk (below_step (by repeat (first | (with_reducible first | exact HB.out | apply below_alloc | apply pw_below_drewN | apply below_drew1) | exact HB.out)) hb); clear HB; have HO120 := n0_; have HB := n1_; clear n0_ n1_; (try clear hb); (try clear hb2); (try clear hk); (try clear hi); (try clear ho0); obtain ⟨Ao13, co13, eo13⟩ := Kd.R_slice HO120.out; subst eo13) | ((with_reducible refine gate_callee (f := 11) rfl ?_); refine goesL_ (some 14) rfl rfl Try.func11 (by kernel_rfl) rfl #[.slice Ao13 t118.length co13] rfl (by (try simp only [List.map_toArray, List.map_cons, List.map_nil]); first | done | rfl | (simp only [List.length_drop, List.length_take]; rfl)) ?_; (with_reducible refine (spec_FilterMake.calls k _ _ t118 t121 _ ?side1 ?side2 A5.out).mono ?_); (case side1 => repeat (first | exact (Kd.R_reads' HO120.out).2.2 | (with_reducible refine Kd.C_alloc ?_ _) | (with_reducible refine Kd.C_drewN ?_ _) | (with_reducible refine Kd.C_drew ?_))); (case side2 => exact (Kd.R_reads' HO120.out).2.1); rintro e w14 ⟨rfl, hb⟩; refine ⟨_, rfl, ?_⟩; have n0_ := Aside0.mk (Kd.R_below (by (with_reducible repeat (first | apply Kd.R_alloc | apply Kd.R_drewN | apply Kd.R_drew)); exact HO120.out) hb); have n1_ := Aside0.mk (below_step (by repeat (first | (with_reducible first | exact HB.out | apply below_alloc | apply pw_below_drewN | apply below_drew1) | exact HB.out)) hb); clear HO120; clear HB; have HO120 := n0_; have HB := n1_; clear n0_ n1_; (try clear hb); (try clear hb2); (try clear hk); (try clear hi)) | ((with_reducible refine gate_callee (f := 12) rfl ?_); refine goesL_ (some 16) rfl rfl Try.func12 (by kernel_rfl) rfl #[.slice A0 l0.length c0] rfl (by (try simp only [List.map_toArray, List.map_cons, List.map_nil]); first | done | rfl | (simp only [List.length_drop, List.length_take]; rfl)) ?_; (with_reducible refine (laws_toStringS.calls k _ _ l0 t122 _ ?side1 ?side2 A6.out).mono ?_); (case side1 => repeat (first | exact (Kd.C_below HR0.out HB.out) | (with_reducible refine Kd.C_alloc ?_ _) | (with_reducible refine Kd.C_drewN ?_ _) | (with_reducible refine Kd.C_drew ?_))); (case side2 => exact HC0.out); rintro e w15 ⟨v123, rfl, ho0, hb⟩; refine ⟨_, rfl, ?_⟩; have n0_ := Aside0.mk (Kd.R_elder' (by (with_reducible repeat (first | apply Kd.R_alloc | apply Kd.R_drewN | apply Kd.R_drew)); exact HO120.out) (Kd.R_base ho0) hb); have n1_ := Aside0.mk (Kd.R_lower (Kd.R_new' ho0 (Kd.R_lt (by (with_reducible repeat (first | apply Kd.R_alloc | apply Kd.R_drewN | apply Kd.R_drew)); exact HO120.out))) (below_size (by repeat (first | (with_reducible first | exact HB.out | apply below_alloc | apply pw_below_drewN | apply below_drew1) | exact HB.out)))); have n2_ := Aside0.mk (below_step (by repeat (first | (with_reducible first | exact HB.out | apply below_alloc | apply pw_below_drewN | apply below_drew1) | exact HB.out)) hb); clear HO120; clear HB; have HO120 := n0_; have HO124 := n1_; have HB := n2_; clear n0_ n1_ n2_; (try clear hb); (try clear hb2); (try clear hk); (try clear hi); (try clear ho0); obtain ⟨Ao16, co16, eo16⟩ := Kd.R_slice HO124.out; subst eo16) | ((with_reducible refine gate_callee (f := 13) rfl ?_); refine goesL_ (some 18) rfl rfl Try.func13 (by kernel_rfl) rfl #[.slice Ao16 t122.length co16] rfl (by (try simp only [List.map_toArray, List.map_cons, List.map_nil]); first | done | rfl | (simp only [List.length_drop, List.length_take]; rfl)) ?_; (with_reducible refine (impl_FilterMake.calls k _ _ t122 t125 _ ?side1 ?side2 A7.out).mono ?_); (case side1 => repeat (first | exact (Kd.R_reads' HO124.out).2.2 | (with_reducible refine Kd.C_alloc ?_ _) | (with_reducible refine Kd.C_drewN ?_ _) | (with_reducible refine Kd.C_drew ?_))); (case side2 => exact (Kd.R_reads' HO124.out).2.1); rintro e w17 ⟨rfl, hb⟩; refine ⟨_, rfl, ?_⟩; have n0_ := Aside0.mk (Kd.R_below (by (with_reducible repeat (first | apply Kd.R_alloc | apply Kd.R_drewN | apply Kd.R_drew)); exact HO120.out) hb); have n1_ := Aside0.mk (Kd.R_below (by (with_reducible repeat (first | apply Kd.R_alloc | apply Kd.R_drewN | apply Kd.R_drew)); exact HO124.out) hb); have n2_ := Aside0.mk (below_step (by repeat (first | (with_reducible first | exact HB.out | apply below_alloc | apply pw_below_drewN | apply below_drew1) | exact HB.out)) hb); clear HO120; clear HO124; clear HB; have HO120 := n0_; have HO124 := n1_; have HB := n2_; clear n0_ n1_ n2_; (try clear hb); (try clear hb2); (try clear hk); (try clear hi)) | ((with_reducible refine gate_callee (f := 12) rfl ?_); refine goesL_ (some 24) rfl rfl Try.func12 (by kernel_rfl) rfl #[.slice A0 l0.length c0] rfl (by (try simp only [List.map_toArray, List.map_cons, List.map_nil]); first | done | rfl | (simp only [List.length_drop, List.length_take]; rfl)) ?_; (with_reducible refine (laws_toStringS.calls k _ _ l0 t126 _ ?side1 ?side2 A9.out).mono ?_); (case side1 => repeat (first | exact (Kd.C_below HR0.out HB.out) | (with_reducible refine Kd.C_alloc ?_ _) | (with_reducible refine Kd.C_drewN ?_ _) | (with_reducible refine Kd.C_drew ?_))); (case side2 => exact HC0.out); rintro e w18 ⟨v127, rfl, ho0, hb⟩; refine ⟨_, rfl, ?_⟩; have n0_ := Aside0.mk (Kd.R_elder' (by (with_reducible repeat (first | apply Kd.R_alloc | apply Kd.R_drewN | apply Kd.R_drew)); exact HO120.out) (Kd.R_base ho0) hb); have n1_ := Aside0.mk (Kd.R_elder' (by (with_reducible repeat (first | apply Kd.R_alloc | apply Kd.R_drewN | apply Kd.R_drew)); exact HO124.out) (Kd.R_base ho0) hb); have n2_ := Aside0.mk (Kd.R_lower (Kd.R_new' (Kd.R_new' ho0 (Kd.R_lt (by (with_reducible repeat (first | apply Kd.R_alloc | apply Kd.R_drewN | apply Kd.R_drew)); exact HO120.out))) (Kd.R_lt (by (with_reducible repeat (first | apply Kd.R_alloc | apply Kd.R_drewN | apply Kd.R_drew)); exact HO124.out))) (below_size (by repeat (first | (with_reducible first | exact HB.out | apply below_alloc | apply pw_below_drewN | apply below_drew1) | exact HB.out)))); have n3_ := Aside0.mk (below_step (by repeat (first | (with_reducible first | exact HB.out | apply below_alloc | apply pw_below_drewN | apply below_drew1) | exact HB.out)) hb); clear HO120; clear HO124; clear HB; have HO120 := n0_; have HO124 := n1_; have HO128 := n2_; have HB := n3_; clear n0_ n1_ n2_ n3_; (try clear hb); (try clear hb2); (try clear hk); (try clear hi); (try clear ho0); obtain ⟨Ao19, co19, eo19⟩ := Kd.R_slice HO128.out; subst eo19) | ((with_reducible refine gate_callee (f := 14) rfl ?_); refine goesL_ (some 25) rfl rfl Try.func14 (by kernel_rfl) rfl #[.slice Ao16 t122.length co16, .slice Ao19 t126.length co19] rfl (by (try simp only [List.map_toArray, List.map_cons, List.map_nil]); first | done | rfl | (simp only [List.length_drop, List.length_take]; rfl)) ?_; (with_reducible refine (laws_eqStringS.calls k _ _ t122 _ _ t126 true _ ?side1 ?side2 ?side3 ?side4 A10.out).mono ?_); (case side1 => repeat (first | exact (Kd.R_reads' HO124.out).2.2 | (with_reducible refine Kd.C_alloc ?_ _) | (with_reducible refine Kd.C_drewN ?_ _) | (with_reducible refine Kd.C_drew ?_))); (case side2 => exact (Kd.R_reads' HO124.out).2.1); (case side3 => repeat (first | exact (Kd.R_reads' HO128.out).2.2 | (with_reducible refine Kd.C_alloc ?_ _) | (with_reducible refine Kd.C_drewN ?_ _) | (with_reducible refine Kd.C_drew ?_))); (case side4 => exact (Kd.R_reads' HO128.out).2.1); rintro e w' ⟨rfl, ⟨nd, rfl⟩⟩; refine ⟨_, rfl, ?_⟩))
        go_ret
        exact ⟨by first | rfl | (simp [errW_none, errW_some] <;> rfl) | (simp [*, errW_none, errW_some] <;> rfl), by repeat (first | (with_reducible first | exact HB.out | apply below_alloc | apply pw_below_drewN | apply below_drew1) | exact HB.out)⟩
      · replace c11 := Bool.eq_false_iff.mpr c11
        subst c11
        have H1 : (some false) = some r := by rw [if_neg (show ¬ (false = true) by decide)] at H; exact H
        clear H
        have H := H1
        clear H1
        exact absurd (Option.some.inj H) (by rw [HT9_.out]; decide)
    · rw [if_neg c8] at H
      have c8b0 : (t125.toList == t121.toList) = false := beq_eq_false_iff_ne.mpr c8
      have c8b1 : (t125.toList != t121.toList) = true := bne_iff_ne.mpr c8
      exact absurd (Option.some.inj H) (by rw [HT9_.out]; decide)

end Go.Proofs.Ytnicllekmkkhlaa.QFnExactFilterMake
