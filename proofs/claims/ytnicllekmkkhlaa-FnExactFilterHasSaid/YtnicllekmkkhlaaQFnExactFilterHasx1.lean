/- The functions that the law reaches, each as a plain Lean function with the proof that the Go code comes to its answers: written by a program of this session. No condition. -/
import Derived.Test.YtnicllekmkkhlaaQFnExactFilterHasx0
namespace Go.Proofs.Ytnicllekmkkhlaa.QFnExactFilterHas
open Go.RowKit Go.Proofs.YtnicllekmkkhlaaW.PrintWords Go.Proofs.YtnicllekmkkhlaaW.PrintLast Go.Proofs.YtnicllekmkkhlaaW.PrintMore
attribute [local go_sem] max2_int min2_int max_two min_two max_three min_three max_four min_four   -- for this text's walks alone
set_option linter.unusedVariables false
set_option linter.unusedSimpArgs false

/-! ### spec_l03Hash: function 27 -/
def spec_l03Hash.l0 : Nat → ByteArray → Int → Int → Option (Int × Int)
  | 0, _, _, _ => none
  | k + 1, x0, x4, x5 => if x5 < (x0.size : Int) then (if 0 ≤ x5 then (spec_l03Hash.l0 k x0 (Int.tmod (wrap64 ((Go.bits .xor .i64 x4 (wrap64 (bt x0 x5))) * 16777619)) 4294967296) (wrap64 (x5 + 1))) else (none)) else (some (Int.tmod x4 65536, wrap64 ((wrap64 (Int.tdiv x4 65536)) + 1)))
def spec_l03Hash.f (k : Nat) (a0 : ByteArray) : Option (Int × Int) := spec_l03Hash.l0 k a0 2166136261 0
theorem spec_l03Hash.mono_l : ∀ k, (∀ y0 y1 y2, LeO (spec_l03Hash.l0 k y0 y1 y2) (spec_l03Hash.l0 (k + 1) y0 y1 y2))
  | 0 => fun _ _ _ r h => by simp [spec_l03Hash.l0] at h
  | k + 1 => by
    have ih0 := spec_l03Hash.mono_l k
    · intro y0 y1 y2
      unfold spec_l03Hash.l0
      repeat' first
      | (with_reducible exact ih0 _ _ _)
      | (with_reducible exact LeO.refl _)
      | (with_reducible exact LeO.none _)
      | (with_reducible refine LeO.ite ?_ ?_)
      | (with_reducible refine LeO.bind ?_ (fun _ => ?_))
      | exact ih0 _ _ _
      | exact LeO.none _
      | refine LeO.ite ?_ ?_
      | refine LeO.bind ?_ (fun _ => ?_)
theorem spec_l03Hash.mono : ∀ a0 k, LeO (spec_l03Hash.f k a0) (spec_l03Hash.f (k + 1) a0) := by
  intro a0 k
  have ih0 := spec_l03Hash.mono_l k
  unfold spec_l03Hash.f
  repeat' first
      | (with_reducible exact ih0 _ _ _)
      | (with_reducible exact LeO.refl _)
      | (with_reducible exact LeO.none _)
      | (with_reducible refine LeO.ite ?_ ?_)
      | (with_reducible refine LeO.bind ?_ (fun _ => ?_))
      | exact ih0 _ _ _
      | exact LeO.none _
      | refine LeO.ite ?_ ?_
      | refine LeO.bind ?_ (fun _ => ?_)
set_option maxHeartbeats 8000000 in
set_option maxRecDepth 100000 in
theorem spec_l03Hash.calls (k : Nat) (a0 : ByteArray) (r1 : Int) (r2 : Int) (w : World) (h : spec_l03Hash.f k a0 = some (r1, r2)) :
    Calls Try.prog 27 #[.string a0] w fun e w' => e = .returned (.tuple #[.int .i64 r1, .int .i64 r2]) ∧ Drawn0 w w' := by
  have H : (spec_l03Hash.l0 k a0 2166136261 0) = some (r1, r2) := h
  clear h
  have H' := Aside0.mk H
  clear H
  go_enter Try.func27, Try.ntmps27
  go_wp2
  go_loopg [4, 5] k (fun kq v4 v5 w' => ∃ (x4_1 : Int) (x5_1 : Int), v4 = .int .i64 x4_1 ∧ v5 = .int .i64 x5_1 ∧ Aside0 (spec_l03Hash.l0 kq a0 x4_1 x5_1 = some (r1, r2)) ∧ Aside0 (kq ≤ k) ∧ Drawn0 w w')
  case atStart => exact ⟨(2166136261), (0), (by first | rfl | (simp; done) | (simp [*]; done)), (by first | rfl | (simp; done) | (simp [*]; done)), H', ⟨Nat.le_refl _⟩, by repeat (first | exact Drawn0.refl _ | apply Drawn0.step)⟩
  case round =>
    clear H'
    obtain ⟨x4_1, x5_1, rfl, rfl, HA, HK1, ⟨m1, rfl⟩⟩ := hrel
    cases gk with
    | zero => exact absurd HA.out (by simp [spec_l03Hash.l0])
    | succ k1 =>
      have H := HA.out
      clear HA
      simp only [spec_l03Hash.l0] at H
      by_cases c2 : x5_1 < (a0.size : Int)
      · rw [if_pos c2] at H
        have c2b0 : decide (x5_1 < (a0.size : Int)) = true := decide_eq_true c2
        clear c2
        by_cases c3 : 0 ≤ x5_1
        · rw [if_pos c3] at H
          have c3b0 : decide (0 ≤ x5_1) = true := decide_eq_true c3
          clear c3
          have H' := Aside0.mk H
          clear H
          have p4 : 0 ≤ (x5_1 : Int) := of_decide_eq_true (by first | (with_reducible assumption) | assumption)
          have q4 : x5_1 < (a0.size : Int) := of_decide_eq_true (by first | (with_reducible assumption) | assumption)
          have hx4 := bt_at a0 x5_1
          replace p4 := eq_true p4
          replace q4 := eq_true q4
          go_wp2
          go_roundg k1
          case measure => have := HK1.out; omega
          case rel => exact ⟨(Int.tmod (wrap64 ((Go.bits .xor .i64 x4_1 (wrap64 (bt a0 x5_1))) * 16777619)) 4294967296), (wrap64 (x5_1 + 1)), (by first | rfl | (simp; done) | (simp [*]; done)), (by first | rfl | (simp; done) | (simp [*]; done)), H', ⟨by have := HK1.out; omega⟩, by repeat (first | exact Drawn0.refl _ | apply Drawn0.step)⟩
        · rw [if_neg c3] at H
          exact absurd H (by simp)
      · rw [if_neg c2] at H
        have c2b0 : decide (x5_1 < (a0.size : Int)) = false := decide_eq_false c2
        clear c2
        simp only [Option.some.injEq, Prod.mk.injEq] at H
        obtain ⟨rfl, rfl⟩ := H
        go_wp2
        go_ret2
        exact ⟨by first | rfl | (simp; done) | (simp [*]; done), by repeat (first | exact Drawn0.refl _ | apply Drawn0.step)⟩

/-! ### spec_FilterHas: function 8 -/
def spec_FilterHas.l0 : Nat → ByteArray → Int → Int → Int → Int → Option (Bool)
  | 0, _, _, _, _, _ => none
  | k + 1, x0, x5, x6, x7, x8 => if x8 < 3 then (if (wrap64 (8 * x5)) = 0 then (none) else (if 0 ≤ (wrap64 (Int.tdiv (Int.tmod (wrap64 (x6 + (wrap64 (x8 * x7)))) (wrap64 (8 * x5))) 8)) then (if (wrap64 (Int.tdiv (Int.tmod (wrap64 (x6 + (wrap64 (x8 * x7)))) (wrap64 (8 * x5))) 8)) < (x0.size : Int) then (if 0 ≤ (IntKind.u64.wrap (Int.tmod (Int.tmod (wrap64 (x6 + (wrap64 (x8 * x7)))) (wrap64 (8 * x5))) 8)) then (if (Go.bits .and .u8 (shr .u8 (bt x0 (wrap64 (Int.tdiv (Int.tmod (wrap64 (x6 + (wrap64 (x8 * x7)))) (wrap64 (8 * x5))) 8))) (IntKind.u64.wrap (Int.tmod (Int.tmod (wrap64 (x6 + (wrap64 (x8 * x7)))) (wrap64 (8 * x5))) 8))) 1) = 0 then (some false) else (spec_FilterHas.l0 k x0 x5 x6 x7 (wrap64 (x8 + 1)))) else (none)) else (none)) else (none))) else (some true)
def spec_FilterHas.f (k : Nat) (a0 : ByteArray) (a1 : ByteArray) : Option (Bool) := if (a0.size : Int) = 0 then (some true) else ((spec_l03Hash.f k a1).bind fun bt101 => (spec_FilterHas.l0 k a0 (a0.size : Int) bt101.1 bt101.2 0))
theorem spec_FilterHas.mono_l : ∀ k, (∀ y0 y1 y2 y3 y4, LeO (spec_FilterHas.l0 k y0 y1 y2 y3 y4) (spec_FilterHas.l0 (k + 1) y0 y1 y2 y3 y4))
  | 0 => fun _ _ _ _ _ r h => by simp [spec_FilterHas.l0] at h
  | k + 1 => by
    have ih0 := spec_FilterHas.mono_l k
    · intro y0 y1 y2 y3 y4
      unfold spec_FilterHas.l0
      repeat' first
      | (with_reducible exact ih0 _ _ _ _ _)
      | (with_reducible exact spec_l03Hash.mono _ _)
      | (with_reducible exact LeO.refl _)
      | (with_reducible exact LeO.none _)
      | (with_reducible refine LeO.ite ?_ ?_)
      | (with_reducible refine LeO.bind ?_ (fun _ => ?_))
      | exact ih0 _ _ _ _ _
      | exact spec_l03Hash.mono _ _
      | exact LeO.none _
      | refine LeO.ite ?_ ?_
      | refine LeO.bind ?_ (fun _ => ?_)
theorem spec_FilterHas.mono : ∀ a0 a1 k, LeO (spec_FilterHas.f k a0 a1) (spec_FilterHas.f (k + 1) a0 a1) := by
  intro a0 a1 k
  have ih0 := spec_FilterHas.mono_l k
  unfold spec_FilterHas.f
  repeat' first
      | (with_reducible exact ih0 _ _ _ _ _)
      | (with_reducible exact spec_l03Hash.mono _ _)
      | (with_reducible exact LeO.refl _)
      | (with_reducible exact LeO.none _)
      | (with_reducible refine LeO.ite ?_ ?_)
      | (with_reducible refine LeO.bind ?_ (fun _ => ?_))
      | exact ih0 _ _ _ _ _
      | exact spec_l03Hash.mono _ _
      | exact LeO.none _
      | refine LeO.ite ?_ ?_
      | refine LeO.bind ?_ (fun _ => ?_)
set_option maxHeartbeats 8000000 in
set_option maxRecDepth 100000 in
theorem spec_FilterHas.calls (k : Nat) (a0 : ByteArray) (a1 : ByteArray) (r : Bool) (w : World) (h : spec_FilterHas.f k a0 a1 = some r) :
    Calls Try.prog 8 #[.string a0, .string a1] w fun e w' => e = .returned (.bool r) ∧ Drawn0 w w' := by
  have H : (if (a0.size : Int) = 0 then (some true) else ((spec_l03Hash.f k a1).bind fun bt101 => (spec_FilterHas.l0 k a0 (a0.size : Int) bt101.1 bt101.2 0))) = some r := h
  clear h
  by_cases c3 : (a0.size : Int) = 0
  · rw [if_pos c3] at H
    have c3b0 : ((a0.size : Int) == 0) = true := beq_iff_eq.mpr c3
    have c3b1 : ((a0.size : Int) != 0) = false := bne_eq_false_iff_eq.mpr c3
    clear c3
    obtain rfl := Option.some.inj H
    go_enter Try.func8, Try.ntmps8
    go_wp2
    go_ret
    exact ⟨by first | rfl | (simp; done) | (simp [*]; done), by repeat (first | exact Drawn0.refl _ | apply Drawn0.step)⟩
  · rw [if_neg c3] at H
    have c3b0 : ((a0.size : Int) == 0) = false := beq_eq_false_iff_ne.mpr c3
    have c3b1 : ((a0.size : Int) != 0) = true := bne_iff_ne.mpr c3
    replace H := Option.bind_eq_some_iff.mp H
    obtain ⟨⟨t101, t102⟩, A40, H⟩ := H
    replace H : (spec_FilterHas.l0 k a0 (a0.size : Int) t101 t102 0) = some r := H
    have A4 := Aside0.mk A40
    clear A40
    have H' := Aside0.mk H
    clear H
    go_enter Try.func8, Try.ntmps8
    go_wp2_with (first | ((with_reducible refine gate_callee (f := 27) rfl ?_); refine goesL_ (some 16) rfl rfl Try.func27 (by kernel_rfl) rfl #[.string a1] rfl (by (try simp only [List.map_toArray, List.map_cons, List.map_nil]); first | done | rfl | (simp only [List.length_drop, List.length_take]; rfl)) ?_; (with_reducible refine (spec_l03Hash.calls k a1 t101 t102 _ A4.out).mono ?_); rintro e w' ⟨rfl, ⟨nd, rfl⟩⟩; refine ⟨_, rfl, ?_⟩))
    go_loopg [8] k (fun kq v8 w' => ∃ (x8_1 : Int), v8 = .int .i64 x8_1 ∧ Aside0 (spec_FilterHas.l0 kq a0 (a0.size : Int) t101 t102 x8_1 = some r) ∧ Aside0 (kq ≤ k) ∧ Drawn0 w w')
    case atStart => exact ⟨(0), (by first | rfl | (simp; done) | (simp [*]; done)), H', ⟨Nat.le_refl _⟩, by repeat (first | exact Drawn0.refl _ | apply Drawn0.step)⟩
    case round =>
      clear H'
      try clear c2
      try clear p2
      try clear c3
      try clear c3b0
      try clear c3b1
      obtain ⟨x8_1, rfl, HA, HK1, ⟨m1, rfl⟩⟩ := hrel
      cases gk with
      | zero => exact absurd HA.out (by simp [spec_FilterHas.l0])
      | succ k1 =>
        have H := HA.out
        clear HA
        simp only [spec_FilterHas.l0] at H
        by_cases c5 : x8_1 < 3
        · rw [if_pos c5] at H
          have c5b0 : decide (x8_1 < 3) = true := decide_eq_true c5
          clear c5
          by_cases c6 : (wrap64 (8 * (a0.size : Int))) = 0
          · rw [if_pos c6] at H
            exact absurd H (by simp)
          · rw [if_neg c6] at H
            have c6b0 : ((wrap64 (8 * (a0.size : Int))) == 0) = false := beq_eq_false_iff_ne.mpr c6
            have c6b1 : ((wrap64 (8 * (a0.size : Int))) != 0) = true := bne_iff_ne.mpr c6
            obtain ⟨ji7, hji7⟩ : ∃ j_ : Int, (wrap64 (Int.tdiv (Int.tmod (wrap64 (t101 + (wrap64 (x8_1 * t102)))) (wrap64 (8 * (a0.size : Int)))) 8)) = j_ := ⟨_, rfl⟩
            replace H : (if 0 ≤ (ji7) then (if (ji7) < (a0.size : Int) then (if 0 ≤ (IntKind.u64.wrap (Int.tmod (Int.tmod (wrap64 (t101 + (wrap64 (x8_1 * t102)))) (wrap64 (8 * (a0.size : Int)))) 8)) then (if (Go.bits .and .u8 (shr .u8 (bt a0 (ji7)) (IntKind.u64.wrap (Int.tmod (Int.tmod (wrap64 (t101 + (wrap64 (x8_1 * t102)))) (wrap64 (8 * (a0.size : Int)))) 8))) 1) = 0 then (some false) else (spec_FilterHas.l0 k1 a0 (a0.size : Int) t101 t102 (wrap64 (x8_1 + 1)))) else (none)) else (none)) else (none)) = some r := by first | (rw [hji7] at H; exact H) | (simp only [hji7] at H ⊢; exact H)
            have hji7w : (IntKind.i64.wrap (Int.tdiv (Int.tmod (wrap64 (t101 + (wrap64 (x8_1 * t102)))) (wrap64 (8 * (a0.size : Int)))) 8)) = ji7 := (i64_w _).trans hji7
            by_cases c8 : 0 ≤ (ji7)
            · rw [if_pos c8] at H
              have c8b0 : decide (0 ≤ (ji7)) = true := decide_eq_true c8
              clear c8
              by_cases c9 : (ji7) < (a0.size : Int)
              · rw [if_pos c9] at H
                have c9b0 : decide ((ji7) < (a0.size : Int)) = true := decide_eq_true c9
                clear c9
                obtain ⟨ji11, hji11⟩ : ∃ j_ : Int, (IntKind.u64.wrap (Int.tmod (Int.tmod (wrap64 (t101 + (wrap64 (x8_1 * t102)))) (wrap64 (8 * (a0.size : Int)))) 8)) = j_ := ⟨_, rfl⟩
                replace H : (if 0 ≤ (ji11) then (if (Go.bits .and .u8 (shr .u8 (bt a0 (ji7)) (ji11)) 1) = 0 then (some false) else (spec_FilterHas.l0 k1 a0 (a0.size : Int) t101 t102 (wrap64 (x8_1 + 1)))) else (none)) = some r := by first | (rw [hji11] at H; exact H) | (simp only [hji11] at H ⊢; exact H)
                by_cases c12 : 0 ≤ (ji11)
                · rw [if_pos c12] at H
                  have c12b0 := eq_true c12
                  have c12b1 : decide (0 ≤ (ji11)) = true := decide_eq_true c12
                  clear c12
                  obtain ⟨ji13, hji13⟩ : ∃ j_ : Int, (shr .u8 (bt a0 (ji7)) (ji11)) = j_ := ⟨_, rfl⟩
                  replace H : (if (Go.bits .and .u8 (ji13) 1) = 0 then (some false) else (spec_FilterHas.l0 k1 a0 (a0.size : Int) t101 t102 (wrap64 (x8_1 + 1)))) = some r := by first | (rw [hji13] at H; exact H) | (simp only [hji13] at H ⊢; exact H)
                  have hji13_ : ((bt a0 (ji7)) / 2 ^ min (ji11).toNat 8) = ji13 := hji13
                  have hji13z : (ji11) ≤ 8 → ((bt a0 (ji7)) / 2 ^ (ji11).toNat) = ji13 := shr_small hji13
                  by_cases c14 : (Go.bits .and .u8 (ji13) 1) = 0
                  · rw [if_pos c14] at H
                    have c14b0 : ((Go.bits .and .u8 (ji13) 1) == 0) = true := beq_iff_eq.mpr c14
                    have c14b1 : ((Go.bits .and .u8 (ji13) 1) != 0) = false := bne_eq_false_iff_eq.mpr c14
                    clear c14
                    obtain rfl := Option.some.inj H
                    have p10 : 0 ≤ ((ji7) : Int) := of_decide_eq_true (by first | (with_reducible assumption) | assumption)
                    have q10 : (ji7) < (a0.size : Int) := of_decide_eq_true (by first | (with_reducible assumption) | assumption)
                    have hx10 := bt_at a0 (ji7)
                    replace p10 := eq_true p10
                    replace q10 := eq_true q10
                    go_wp2
                    go_ret
                    exact ⟨by first | rfl | (simp; done) | (simp only [← hji7, ← hji11, ← hji13] <;> (first | rfl | simp)) | (simp [*]; done), by repeat (first | exact Drawn0.refl _ | apply Drawn0.step)⟩
                  · rw [if_neg c14] at H
                    have c14b0 : ((Go.bits .and .u8 (ji13) 1) == 0) = false := beq_eq_false_iff_ne.mpr c14
                    have c14b1 : ((Go.bits .and .u8 (ji13) 1) != 0) = true := bne_iff_ne.mpr c14
                    have H' := Aside0.mk H
                    clear H
                    have p10 : 0 ≤ ((ji7) : Int) := of_decide_eq_true (by first | (with_reducible assumption) | assumption)
                    have q10 : (ji7) < (a0.size : Int) := of_decide_eq_true (by first | (with_reducible assumption) | assumption)
                    have hx10 := bt_at a0 (ji7)
                    replace p10 := eq_true p10
                    replace q10 := eq_true q10
                    go_wp2
                    go_roundg k1
                    case measure => have := HK1.out; omega
                    case rel => exact ⟨(wrap64 (x8_1 + 1)), (by first | rfl | (simp; done) | (simp [*]; done)), H', ⟨by have := HK1.out; omega⟩, by repeat (first | exact Drawn0.refl _ | apply Drawn0.step)⟩
                · rw [if_neg c12] at H
                  exact absurd H (by simp)
              · rw [if_neg c9] at H
                exact absurd H (by simp)
            · rw [if_neg c8] at H
              exact absurd H (by simp)
        · rw [if_neg c5] at H
          have c5b0 : decide (x8_1 < 3) = false := decide_eq_false c5
          clear c5
          obtain rfl := Option.some.inj H
          go_wp2
          go_ret
          exact ⟨by first | rfl | (simp; done) | (simp [*]; done), by repeat (first | exact Drawn0.refl _ | apply Drawn0.step)⟩

-- NOT PRINTED: function 28 (impl_places)

/-! ### impl_FilterHas: function 9 -/
def impl_FilterHas.pl_l0 : Nat → ByteArray → Int → Int → Option Int
  | 0, _, _, _ => none
  | k + 1, x0, x4, x5 => if x5 < (x0.size : Int) then (if 0 ≤ x5 then impl_FilterHas.pl_l0 k x0 (IntKind.u32.wrap ((Go.bits .xor .u32 x4 (IntKind.u32.wrap (bt x0 x5))) * 16777619)) (wrap64 (x5 + 1)) else none) else some x4
theorem impl_FilterHas.pl_and16 (h : Int) (h1 : 0 ≤ h) (h2 : h < 4294967296) : wrap64 (Go.bits .and .u32 h 65535) = h % 65536 := by
  obtain ⟨n, rfl⟩ := Int.eq_ofNat_of_zero_le h1
  have hx : n &&& 65535 = n % 65536 := Nat.and_two_pow_sub_one_eq_mod n 16
  have e : Go.bits .and .u32 (n : Int) 65535 = ((n % 65536 : Nat) : Int) := by
    show IntKind.u32.wrap ((BitVec.ofInt 32 (n : Int) &&& BitVec.ofInt 32 ((65535 : Nat) : Int)).toNat : Int) = _
    rw [BitVec.toNat_and, BitVec.ofInt_natCast, BitVec.ofInt_natCast, BitVec.toNat_ofNat, BitVec.toNat_ofNat, Nat.mod_eq_of_lt (show n < 2 ^ 32 by omega), Nat.mod_eq_of_lt (show 65535 < 2 ^ 32 by omega), hx]
    show ((n % 65536 : Nat) : Int) % 4294967296 = _
    omega
  rw [e]
  exact (i64_w _).symm.trans ((IntWalk.i64_in _ (by omega)).trans (by omega))
theorem impl_FilterHas.hs_nil (s : ByteArray) (h : 0 < (s.size : Int)) : s.toList.isEmpty = false := by
  rw [ByteArray.toList_eq]
  have : 0 < s.data.toList.length := by rw [Array.length_toList]; show 0 < s.size; omega
  cases e : s.data.toList with
  | nil => rw [e] at this; cases this
  | cons a b => rfl
theorem impl_FilterHas.hs_nil0 (s : ByteArray) (h : (s.size : Int) = 0) : s.toList.isEmpty = true := by
  rw [ByteArray.toList_eq]
  have : s.data.toList.length = 0 := by rw [Array.length_toList]; show s.size = 0; omega
  rw [List.length_eq_zero_iff.mp this]
  rfl
theorem impl_FilterHas.pl_vb {w W : World} (h : Below w.heap.size w W) (o : Obj) : Below w.heap.size w (W.alloc o) := h.alloc h.size o
set_option maxHeartbeats 8000000 in
set_option maxRecDepth 100000 in
theorem impl_FilterHas.pl_calls (k : Nat) (a0 : ByteArray) (b h : Int) (w : World) (H : impl_FilterHas.pl_l0 k a0 2166136261 0 = some h) (h1 : 0 ≤ h) (h2 : h < 4294967296) (b1 : 0 < b) (b2 : b ≤ 1099511627776) :
    Calls Try.prog 28 #[.string a0, .int .i64 b] w fun e w' => e = .returned (.agg #[.int .i64 (h % 65536 % b), .int .i64 ((h % 65536 + (h / 65536 + 1)) % b), .int .i64 ((h % 65536 + 2 * (h / 65536 + 1)) % b)]) ∧ Below w.heap.size w w' := by
  have H' := Aside0.mk H
  clear H
  go_enter Try.func28, Try.ntmps28
  go_wp2
  go_loopg [5, 6] k (fun kq v4 v5 w' => ∃ (x4_1 : Int) (x5_1 : Int), v4 = .int .u32 x4_1 ∧ v5 = .int .i64 x5_1 ∧ Aside0 (impl_FilterHas.pl_l0 kq a0 x4_1 x5_1 = some h) ∧ Aside0 (kq ≤ k) ∧ ∃ n, w' = (w.alloc (.cells #[.int .i64 0, .int .i64 0, .int .i64 0] 59)).drewN n)
  case atStart => exact ⟨(2166136261), (0), (by first | rfl | (simp; done) | (simp [*]; done)), (by first | rfl | (simp; done) | (simp [*]; done)), H', ⟨Nat.le_refl _⟩, 0, rfl⟩
  case round =>
    clear H'
    obtain ⟨x4_1, x5_1, rfl, rfl, HA, HK1, ⟨m1, rfl⟩⟩ := hrel
    cases gk with
    | zero => exact absurd HA.out (by simp [impl_FilterHas.pl_l0])
    | succ k1 =>
      have H := HA.out
      clear HA
      simp only [impl_FilterHas.pl_l0] at H
      by_cases c2 : x5_1 < (a0.size : Int)
      · rw [if_pos c2] at H
        have c2b0 : decide (x5_1 < (a0.size : Int)) = true := decide_eq_true c2
        clear c2
        by_cases c3 : 0 ≤ x5_1
        · rw [if_pos c3] at H
          have H' := Aside0.mk H
          clear H
          have p4 : 0 ≤ (x5_1 : Int) := c3
          have q4 : x5_1 < (a0.size : Int) := of_decide_eq_true c2b0
          have hx4 := bt_at a0 x5_1
          replace p4 := eq_true p4
          replace q4 := eq_true q4
          go_wp2
          go_roundg k1
          case measure => have := HK1.out; omega
          case rel => exact ⟨_, (wrap64 (x5_1 + 1)), (by first | rfl | (simp; done) | (simp [*]; done)), (by first | rfl | (simp; done) | (simp [*]; done)), H', ⟨by have := HK1.out; omega⟩, _, rfl⟩
        · rw [if_neg c3] at H
          exact absurd H (by simp)
      · rw [if_neg c2] at H
        have c2b0 : decide (x5_1 < (a0.size : Int)) = false := decide_eq_false c2
        clear c2
        simp only [Option.some.injEq] at H
        obtain rfl := H
        go_wp2
        rw [impl_FilterHas.pl_and16 _ h1 h2]
        refine wp_region_still_tail 15 (by kernel_rfl) (by kernel_rfl) ?_
        simp only [List.take_succ_cons, List.take_zero, List.drop_succ_cons, List.drop_zero]
        obtain ⟨h0, hh0⟩ : ∃ y, x4_1 % 65536 = y := ⟨_, rfl⟩
        obtain ⟨h9, hh9⟩ : ∃ y, x4_1 / 65536 + 1 = y := ⟨_, rfl⟩
        rw [hh0, hh9]
        have j0 : 0 ≤ h0 ∧ h0 < 65536 := by omega
        have j1 : 1 ≤ h9 ∧ h9 ≤ 65536 := by omega
        have v1 : (b == 0) = false := beq_eq_false_iff_ne.mpr (by omega)
        have v2 : IntKind.i64.wrap (h0 + h9) = h0 + h9 := IntWalk.i64_in _ (by omega)
        have v3 : IntKind.i64.wrap (2 * h9) = 2 * h9 := IntWalk.i64_in _ (by omega)
        have v4 : IntKind.i64.wrap (h0 + 2 * h9) = h0 + 2 * h9 := IntWalk.i64_in _ (by omega)
        have v5 : h0.tmod b = h0 % b := Int.tmod_eq_emod_of_nonneg (by omega)
        have v6 : (h0 + h9).tmod b = (h0 + h9) % b := Int.tmod_eq_emod_of_nonneg (by omega)
        have v7 : (h0 + 2 * h9).tmod b = (h0 + 2 * h9) % b := Int.tmod_eq_emod_of_nonneg (by omega)
        change wpStill _ _ (World.drew _) (fun a' => wpList _ _ _ _ a' (World.drew _)) _ _
        have v0 : ¬ b = 0 := by omega
        have v8 : (b != 0) = true := bne_iff_ne.mpr (by omega)
        repeat still_step
        refine wpStill_nil ?_
        go_wp2
        try simp only [Exit.inBlock, Exit.then]
        have BK : ((w.alloc (Obj.cells #[Value.int IntKind.i64 0, Value.int IntKind.i64 0, Value.int IntKind.i64 0] 59)).drewN (m1 + 1)).heap[w.heap.size]? = some (.cells #[Value.int IntKind.i64 0, Value.int IntKind.i64 0, Value.int IntKind.i64 0] 59 (0, 0)) := heap_alloc_new w _
        refine bodyPost_ret (results_cell_row rfl _ _ w.heap.size 59 #[.int .i64 (h0 % b), .int .i64 ((h0 + h9) % b), .int .i64 ((h0 + 2 * h9) % b)] (0, 0) _ rfl (blk_put (blk_put (blk_put BK 0 _ rfl) 1 _ rfl) 2 _ rfl) Try.underlying59 rfl (by kernel_rfl)) rfl ?_
        refine ⟨by rw [← hh0, ← hh9], below_set (below_set (below_set (pw_below_drewN (impl_FilterHas.pl_vb (Below.refl _ _) _) _) (Nat.le_refl _)) (Nat.le_refl _)) (Nat.le_refl _)⟩
theorem impl_FilterHas.hs_idx (c0 c1 c2 : Int) (w : World) :
    ((Instr.index 59 (.agg #[.int .i64 c0, .int .i64 c1, .int .i64 c2]) (.int .i64 0)).run Try.prog w = .ok (.int .i64 c0) w) ∧ ((Instr.index 59 (.agg #[.int .i64 c0, .int .i64 c1, .int .i64 c2]) (.int .i64 1)).run Try.prog w = .ok (.int .i64 c1) w) ∧ ((Instr.index 59 (.agg #[.int .i64 c0, .int .i64 c1, .int .i64 c2]) (.int .i64 2)).run Try.prog w = .ok (.int .i64 c2) w) := by
  have hs : ∀ w, (Go.sizeOf 3).run Try.prog w = .ok 1 w := fun w => by first | rfl | kernel_rfl
  refine ⟨?_, ?_, ?_⟩ <;> simp [Instr.index, run_underlying Try.underlying59, asIntOf, hs, go_sem, Go.part]
def impl_FilterHas.hs_b (a : ByteArray) (p : Int) : Int := Go.bits .and .u8 (bt a (p.tdiv 8) / 2 ^ min (p.tmod 8).toNat 8) 1
set_option maxHeartbeats 8000000 in
set_option maxRecDepth 100000 in
theorem impl_FilterHas.hs_calls (k : Nat) (a0 a1 : ByteArray) (h : Int) (r : Bool) (w : World) (H : impl_FilterHas.pl_l0 k a1 2166136261 0 = some h) (h1 : 0 ≤ h) (h2 : h < 4294967296) (b1 : 0 < (a0.size : Int)) (b2 : (a0.size : Int) ≤ 1099511627) (p0 p1 p2 : Int)
    (e0 : h % 65536 % (8 * (a0.size : Int)) = p0) (e1 : (h % 65536 + (h / 65536 + 1)) % (8 * (a0.size : Int)) = p1) (e2 : (h % 65536 + 2 * (h / 65536 + 1)) % (8 * (a0.size : Int)) = p2)
    (hr : (if impl_FilterHas.hs_b a0 p0 = 0 then false else if impl_FilterHas.hs_b a0 p1 = 0 then false else if impl_FilterHas.hs_b a0 p2 = 0 then false else true) = r) :
    Calls Try.prog 9 #[.string a0, .string a1] w fun e w' => e = .returned (.bool r) ∧ Below w.heap.size w w' := by
  have H' := Aside0.mk H
  clear H
  have HR := Aside0.mk hr
  clear hr
  have i0 : 0 ≤ p0 ∧ p0 < 8 * (a0.size : Int) := by rw [← e0]; exact ⟨Int.emod_nonneg _ (by omega), Int.emod_lt_of_pos _ (by omega)⟩
  have i1 : 0 ≤ p1 ∧ p1 < 8 * (a0.size : Int) := by rw [← e1]; exact ⟨Int.emod_nonneg _ (by omega), Int.emod_lt_of_pos _ (by omega)⟩
  have i2 : 0 ≤ p2 ∧ p2 < 8 * (a0.size : Int) := by rw [← e2]; exact ⟨Int.emod_nonneg _ (by omega), Int.emod_lt_of_pos _ (by omega)⟩
  have hz : a0.toList.isEmpty = false := impl_FilterHas.hs_nil _ b1
  go_enter Try.func9, Try.ntmps9
  go_wp2_with (first | ((with_reducible refine gate_callee (f := 28) rfl ?_); refine goesL_ (some 13) rfl rfl Try.func28 (by kernel_rfl) rfl #[.string a1, .int .i64 (8 * (a0.size : Int))] rfl (by (try simp only [List.map_toArray, List.map_cons, List.map_nil]); first | done | rfl | (simp only [List.length_drop, List.length_take]; rfl)) ?_; (with_reducible refine (impl_FilterHas.pl_calls k a1 (8 * (a0.size : Int)) h _ H'.out h1 h2 (by omega) (by omega)).mono ?_); rintro e w' ⟨rfl, hB⟩; refine ⟨_, rfl, ?_⟩))
  have HB := Aside0.mk hB
  clear hB H'

  clear e0 e1 e2
  have HI := fun w => impl_FilterHas.hs_idx p0 p1 p2 w
  have HI0 := fun w => (HI w).1
  have HI1 := fun w => (HI w).2.1
  have HI2 := fun w => (HI w).2.2
  clear HI
  go_loopg [14] 4 (fun kq v14 w' => ((kq = 4 ∧ v14 = .int .i64 0 ∧ Aside0 ((if impl_FilterHas.hs_b a0 p0 = 0 then false else if impl_FilterHas.hs_b a0 p1 = 0 then false else if impl_FilterHas.hs_b a0 p2 = 0 then false else true) = r)) ∨ (kq = 3 ∧ v14 = .int .i64 1 ∧ Aside0 ((if impl_FilterHas.hs_b a0 p1 = 0 then false else if impl_FilterHas.hs_b a0 p2 = 0 then false else true) = r)) ∨ (kq = 2 ∧ v14 = .int .i64 2 ∧ Aside0 ((if impl_FilterHas.hs_b a0 p2 = 0 then false else true) = r)) ∨ (kq = 1 ∧ v14 = .int .i64 3 ∧ Aside0 (true = r))) ∧ Below w.heap.size w w')
  case atStart => exact ⟨.inl ⟨rfl, rfl, HR⟩, HB.out⟩
  case round =>
    clear HR HB
    obtain ⟨hc, hB⟩ := hrel
    have HB := Aside0.mk hB
    clear hB
    rcases hc with ⟨rfl, rfl, HR⟩ | ⟨rfl, rfl, HR⟩ | ⟨rfl, rfl, HR⟩ | ⟨rfl, rfl, HR⟩
    · obtain ⟨q, hq⟩ : ∃ q, Int.tdiv p0 8 = q := ⟨_, rfl⟩
      obtain ⟨m, hm⟩ : ∃ m, Int.tmod p0 8 = m := ⟨_, rfl⟩
      have hq' : q = p0 / 8 := by rw [← hq]; exact Int.tdiv_eq_ediv_of_nonneg (by omega)
      have hm' : m = p0 % 8 := by rw [← hm]; exact Int.tmod_eq_emod_of_nonneg (by omega)
      have hqw : IntKind.i64.wrap q = q := IntWalk.i64_in _ (by omega)
      have hqw2 : wrap64 q = q := (i64_w _).symm.trans hqw
      have c0 : 0 ≤ q := by omega
      have c1 : q < (a0.size : Int) := by omega
      have c2 : 0 ≤ m := by omega
      have c3b : decide (0 ≤ m) = true := decide_eq_true c2
      have hx := bt_at a0 q
      have HR' := HR.out
      clear HR
      simp only [impl_FilterHas.hs_b, hq, hm] at HR'
      replace c0 := eq_true c0
      replace c1 := eq_true c1
      replace c2 := eq_true c2
      by_cases z : Go.bits .and .u8 (bt a0 q / 2 ^ min m.toNat 8) 1 = 0
      · rw [if_pos z] at HR'
        have z0 : (Go.bits .and .u8 (bt a0 q / 2 ^ min m.toNat 8) 1 == 0) = true := beq_iff_eq.mpr z
        clear hq' hm'
        obtain rfl := HR'
        go_wp2
        go_ret
        exact ⟨rfl, HB.out⟩
      · rw [if_neg z] at HR'
        have z0 : (Go.bits .and .u8 (bt a0 q / 2 ^ min m.toNat 8) 1 == 0) = false := beq_eq_false_iff_ne.mpr z
        have HR := Aside0.mk HR'
        clear hq' hm' HR'
        go_wp2
        go_roundg 3
        case measure => omega
        case rel => first | exact ⟨.inr (.inl ⟨rfl, rfl, HR⟩), HB.out⟩ | exact ⟨.inr (.inr (.inl ⟨rfl, rfl, HR⟩)), HB.out⟩ | exact ⟨.inr (.inr (.inr ⟨rfl, rfl, HR⟩)), HB.out⟩
    · obtain ⟨q, hq⟩ : ∃ q, Int.tdiv p1 8 = q := ⟨_, rfl⟩
      obtain ⟨m, hm⟩ : ∃ m, Int.tmod p1 8 = m := ⟨_, rfl⟩
      have hq' : q = p1 / 8 := by rw [← hq]; exact Int.tdiv_eq_ediv_of_nonneg (by omega)
      have hm' : m = p1 % 8 := by rw [← hm]; exact Int.tmod_eq_emod_of_nonneg (by omega)
      have hqw : IntKind.i64.wrap q = q := IntWalk.i64_in _ (by omega)
      have hqw2 : wrap64 q = q := (i64_w _).symm.trans hqw
      have c0 : 0 ≤ q := by omega
      have c1 : q < (a0.size : Int) := by omega
      have c2 : 0 ≤ m := by omega
      have c3b : decide (0 ≤ m) = true := decide_eq_true c2
      have hx := bt_at a0 q
      have HR' := HR.out
      clear HR
      simp only [impl_FilterHas.hs_b, hq, hm] at HR'
      replace c0 := eq_true c0
      replace c1 := eq_true c1
      replace c2 := eq_true c2
      by_cases z : Go.bits .and .u8 (bt a0 q / 2 ^ min m.toNat 8) 1 = 0
      · rw [if_pos z] at HR'
        have z0 : (Go.bits .and .u8 (bt a0 q / 2 ^ min m.toNat 8) 1 == 0) = true := beq_iff_eq.mpr z
        clear hq' hm'
        obtain rfl := HR'
        go_wp2
        go_ret
        exact ⟨rfl, HB.out⟩
      · rw [if_neg z] at HR'
        have z0 : (Go.bits .and .u8 (bt a0 q / 2 ^ min m.toNat 8) 1 == 0) = false := beq_eq_false_iff_ne.mpr z
        have HR := Aside0.mk HR'
        clear hq' hm' HR'
        go_wp2
        go_roundg 2
        case measure => omega
        case rel => first | exact ⟨.inr (.inl ⟨rfl, rfl, HR⟩), HB.out⟩ | exact ⟨.inr (.inr (.inl ⟨rfl, rfl, HR⟩)), HB.out⟩ | exact ⟨.inr (.inr (.inr ⟨rfl, rfl, HR⟩)), HB.out⟩
    · obtain ⟨q, hq⟩ : ∃ q, Int.tdiv p2 8 = q := ⟨_, rfl⟩
      obtain ⟨m, hm⟩ : ∃ m, Int.tmod p2 8 = m := ⟨_, rfl⟩
      have hq' : q = p2 / 8 := by rw [← hq]; exact Int.tdiv_eq_ediv_of_nonneg (by omega)
      have hm' : m = p2 % 8 := by rw [← hm]; exact Int.tmod_eq_emod_of_nonneg (by omega)
      have hqw : IntKind.i64.wrap q = q := IntWalk.i64_in _ (by omega)
      have hqw2 : wrap64 q = q := (i64_w _).symm.trans hqw
      have c0 : 0 ≤ q := by omega
      have c1 : q < (a0.size : Int) := by omega
      have c2 : 0 ≤ m := by omega
      have c3b : decide (0 ≤ m) = true := decide_eq_true c2
      have hx := bt_at a0 q
      have HR' := HR.out
      clear HR
      simp only [impl_FilterHas.hs_b, hq, hm] at HR'
      replace c0 := eq_true c0
      replace c1 := eq_true c1
      replace c2 := eq_true c2
      by_cases z : Go.bits .and .u8 (bt a0 q / 2 ^ min m.toNat 8) 1 = 0
      · rw [if_pos z] at HR'
        have z0 : (Go.bits .and .u8 (bt a0 q / 2 ^ min m.toNat 8) 1 == 0) = true := beq_iff_eq.mpr z
        clear hq' hm'
        obtain rfl := HR'
        go_wp2
        go_ret
        exact ⟨rfl, HB.out⟩
      · rw [if_neg z] at HR'
        have z0 : (Go.bits .and .u8 (bt a0 q / 2 ^ min m.toNat 8) 1 == 0) = false := beq_eq_false_iff_ne.mpr z
        have HR := Aside0.mk HR'
        clear hq' hm' HR'
        go_wp2
        go_roundg 1
        case measure => omega
        case rel => first | exact ⟨.inr (.inl ⟨rfl, rfl, HR⟩), HB.out⟩ | exact ⟨.inr (.inr (.inl ⟨rfl, rfl, HR⟩)), HB.out⟩ | exact ⟨.inr (.inr (.inr ⟨rfl, rfl, HR⟩)), HB.out⟩
    · obtain rfl := HR.out
      go_wp2
      go_ret
      exact ⟨rfl, HB.out⟩
def impl_FilterHas.f (k : Nat) (a0 a1 : ByteArray) : Option Bool := if (a0.size : Int) = 0 then some true else (impl_FilterHas.pl_l0 k a1 2166136261 0).bind fun h => if 0 ≤ h then (if h < 4294967296 then (if (a0.size : Int) ≤ 1099511627 then some (if impl_FilterHas.hs_b a0 (h % 65536 % (8 * (a0.size : Int))) = 0 then false else if impl_FilterHas.hs_b a0 ((h % 65536 + (h / 65536 + 1)) % (8 * (a0.size : Int))) = 0 then false else if impl_FilterHas.hs_b a0 ((h % 65536 + 2 * (h / 65536 + 1)) % (8 * (a0.size : Int))) = 0 then false else true) else none) else none) else none
theorem impl_FilterHas.pl_mono_l : ∀ k, (∀ y0 y1 y2, LeO (impl_FilterHas.pl_l0 k y0 y1 y2) (impl_FilterHas.pl_l0 (k + 1) y0 y1 y2))
  | 0 => fun _ _ _ r h => by simp [impl_FilterHas.pl_l0] at h
  | k + 1 => by
    have ih0 := impl_FilterHas.pl_mono_l k
    · intro y0 y1 y2
      unfold impl_FilterHas.pl_l0
      repeat' first
      | (with_reducible exact ih0 _ _ _)
      | (with_reducible exact LeO.refl _)
      | (with_reducible exact LeO.none _)
      | (with_reducible refine LeO.ite ?_ ?_)
theorem impl_FilterHas.mono : ∀ a0 a1 k, LeO (impl_FilterHas.f k a0 a1) (impl_FilterHas.f (k + 1) a0 a1) := by
  intro a0 a1 k
  have ih0 := impl_FilterHas.pl_mono_l k
  unfold impl_FilterHas.f
  repeat' first
      | (with_reducible exact ih0 _ _ _)
      | (with_reducible exact LeO.refl _)
      | (with_reducible exact LeO.none _)
      | (with_reducible refine LeO.ite ?_ ?_)
      | (with_reducible refine LeO.bind ?_ (fun _ => ?_))
theorem impl_FilterHas.calls (k : Nat) (a0 a1 : ByteArray) (r : Bool) (w : World) (h : impl_FilterHas.f k a0 a1 = some r) :
    Calls Try.prog 9 #[.string a0, .string a1] w fun e w' => e = .returned (.bool r) ∧ Below w.heap.size w w' := by
  unfold impl_FilterHas.f at h
  by_cases c : (a0.size : Int) = 0
  · rw [if_pos c] at h
    obtain rfl := Option.some.inj h
    have hz := impl_FilterHas.hs_nil0 a0 c
    go_enter Try.func9, Try.ntmps9
    go_wp2
    go_ret
    exact ⟨rfl, Below.refl _ _⟩
  · rw [if_neg c] at h
    obtain ⟨v, hv, h⟩ := Option.bind_eq_some_iff.mp h
    split at h
    · rename_i d1
      split at h
      · rename_i d2
        split at h
        · rename_i d3
          exact impl_FilterHas.hs_calls k a0 a1 v r w hv d1 d2 (by omega) d3 _ _ _ rfl rfl rfl (Option.some.inj h)
        · cases h
      · cases h
    · cases h


/-! ### laws_FnExactFilterHas: function 3 -/
def laws_FnExactFilterHas.f (k : Nat) (a0 : ByteArray) (a1 : ByteArray) : Option (Bool) := if (a0.size : Int) > 1048576 then (some true) else (if (a1.size : Int) > 1048576 then (some true) else ((spec_FilterHas.f k a0 a1).bind fun t103 => ((impl_FilterHas.f k a0 a1).bind fun t104 => (if (t104 != t103) = true then (some false) else (some true)))))
theorem laws_FnExactFilterHas.mono : ∀ a0 a1 k, LeO (laws_FnExactFilterHas.f k a0 a1) (laws_FnExactFilterHas.f (k + 1) a0 a1) := by
  intro a0 a1 k
  unfold laws_FnExactFilterHas.f
  repeat' first
      | (with_reducible exact impl_FilterHas.mono _ _ _)
      | (with_reducible exact spec_FilterHas.mono _ _ _)
      | (with_reducible exact LeO.refl _)
      | (with_reducible exact LeO.none _)
      | (with_reducible refine LeO.ite ?_ ?_)
      | (with_reducible refine LeO.bind ?_ (fun _ => ?_))
      | exact impl_FilterHas.mono _ _ _
      | exact spec_FilterHas.mono _ _ _
      | exact LeO.none _
      | refine LeO.ite ?_ ?_
      | refine LeO.bind ?_ (fun _ => ?_)
set_option maxHeartbeats 8000000 in
set_option maxRecDepth 100000 in
theorem laws_FnExactFilterHas.calls (k : Nat) (a0 : ByteArray) (a1 : ByteArray) (r : Bool) (w : World) (h : laws_FnExactFilterHas.f k a0 a1 = some r) (ht_ : r = true) :
    Calls Try.prog 3 #[.string a0, .string a1] w fun e w' => e = .returned (.bool r) ∧ Below w.heap.size w w' := by
  have HB := Aside0.mk (Below.refl w.heap.size w)
  have HT9_ := Aside0.mk ht_
  clear ht_
  have H : (if (a0.size : Int) > 1048576 then (some true) else (if (a1.size : Int) > 1048576 then (some true) else ((spec_FilterHas.f k a0 a1).bind fun t103 => ((impl_FilterHas.f k a0 a1).bind fun t104 => (if (t104 != t103) = true then (some false) else (some true)))))) = some r := h
  clear h
  by_cases c3 : (a0.size : Int) > 1048576
  · rw [if_pos c3] at H
    have c3b0 : decide (1048576 < (a0.size : Int)) = true := decide_eq_true c3
    have c3b1 : decide (1048576 < a0.size) = true := decide_eq_true (by omega)
    clear c3
    obtain rfl := Option.some.inj H
    go_enter Try.func3, Try.ntmps3
    go_wp2
    go_ret
    exact ⟨by first | rfl | (simp [errW_none, errW_some] <;> rfl) | (simp [*, errW_none, errW_some] <;> rfl), by repeat (first | (with_reducible first | exact HB.out | apply below_alloc | apply pw_below_drewN | apply below_drew1) | exact HB.out)⟩
  · rw [if_neg c3] at H
    have c3b0 : decide (1048576 < (a0.size : Int)) = false := decide_eq_false c3
    have c3b1 : decide (1048576 < a0.size) = false := decide_eq_false (by omega)
    clear c3
    by_cases c4 : (a1.size : Int) > 1048576
    · rw [if_pos c4] at H
      have c4b0 : decide (1048576 < (a1.size : Int)) = true := decide_eq_true c4
      have c4b1 : decide (1048576 < a1.size) = true := decide_eq_true (by omega)
      clear c4
      obtain rfl := Option.some.inj H
      go_enter Try.func3, Try.ntmps3
      go_wp2
      go_ret
      exact ⟨by first | rfl | (simp [errW_none, errW_some] <;> rfl) | (simp [*, errW_none, errW_some] <;> rfl), by repeat (first | (with_reducible first | exact HB.out | apply below_alloc | apply pw_below_drewN | apply below_drew1) | exact HB.out)⟩
    · rw [if_neg c4] at H
      have c4b0 : decide (1048576 < (a1.size : Int)) = false := decide_eq_false c4
      have c4b1 : decide (1048576 < a1.size) = false := decide_eq_false (by omega)
      clear c4
      replace H := Option.bind_eq_some_iff.mp H
      obtain ⟨t103, A50, H⟩ := H
      replace H : ((impl_FilterHas.f k a0 a1).bind fun t104 => (if (t104 != t103) = true then (some false) else (some true))) = some r := H
      have A5 := Aside0.mk A50
      clear A50
      replace H := Option.bind_eq_some_iff.mp H
      obtain ⟨t104, A60, H⟩ := H
      replace H : (if (t104 != t103) = true then (some false) else (some true)) = some r := H
      have A6 := Aside0.mk A60
      clear A60
      by_cases c7 : (t104 != t103) = true
      · rw [if_pos c7] at H
        have c7b0 : (t104 != t103) = true := c7
        (try (have c7b1 : decide (t104 = t103) = false := by simpa using c7))
        (try (have c7b2 : (t104 == t103) = false := by simpa using c7))
        (try (have c7b3 : ¬ (t104 = t103) := by simpa using c7))
        clear c7
        exact absurd (Option.some.inj H) (by rw [HT9_.out]; decide)
      · rw [if_neg c7] at H
        have c7b0 : (t104 != t103) = false := by simpa using c7
        (try (have c7b1 : decide (t104 = t103) = true := by simpa using c7))
        (try (have c7b2 : (t104 == t103) = true := by simpa using c7))
        clear c7
        obtain rfl := Option.some.inj H
        go_enter Try.func3, Try.ntmps3
        go_wp2_with (first | ((with_reducible refine gate_callee (f := 8) rfl ?_); refine goesL_ (some 15) rfl rfl Try.func8 (by kernel_rfl) rfl #[.string a0, .string a1] rfl (by (try simp only [List.map_toArray, List.map_cons, List.map_nil]); first | done | rfl | (simp only [List.length_drop, List.length_take]; rfl)) ?_; (with_reducible refine (spec_FilterHas.calls k a0 a1 t103 _ A5.out).mono ?_); rintro e w' ⟨rfl, ⟨nd, rfl⟩⟩; refine ⟨_, rfl, ?_⟩) | ((with_reducible refine gate_callee (f := 9) rfl ?_); refine goesL_ (some 18) rfl rfl Try.func9 (by kernel_rfl) rfl #[.string a0, .string a1] rfl (by (try simp only [List.map_toArray, List.map_cons, List.map_nil]); first | done | rfl | (simp only [List.length_drop, List.length_take]; rfl)) ?_; (with_reducible refine (impl_FilterHas.calls k a0 a1 t104 _ A6.out).mono ?_); rintro e w8 ⟨rfl, hb⟩; refine ⟨_, rfl, ?_⟩; have n0_ := Aside0.mk (below_step (by repeat (first | (with_reducible first | exact HB.out | apply below_alloc | apply pw_below_drewN | apply below_drew1) | exact HB.out)) hb); clear HB; have HB := n0_; clear n0_; (try clear hb); (try clear hb2); (try clear hk); (try clear hi)))
        go_ret
        exact ⟨by first | rfl | (simp [errW_none, errW_some] <;> rfl) | (simp [*, errW_none, errW_some] <;> rfl), by repeat (first | (with_reducible first | exact HB.out | apply below_alloc | apply pw_below_drewN | apply below_drew1) | exact HB.out)⟩

end Go.Proofs.Ytnicllekmkkhlaa.QFnExactFilterHas
