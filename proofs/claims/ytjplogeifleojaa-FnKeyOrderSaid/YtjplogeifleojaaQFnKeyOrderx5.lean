/- The functions that the law reaches, each as a plain Lean function with the proof that the Go code comes to its answers: written by a program of this session. No condition. -/
import Derived.Test.YtjplogeifleojaaQFnKeyOrderx0
import Derived.Test.YtjplogeifleojaaQFnKeyOrderx1
namespace Go.Proofs.Ytjplogeifleojaa.QFnKeyOrder
open Go.RowKit Go.Proofs.YtjplogeifleojaaW.PrintWords Go.Proofs.YtjplogeifleojaaW.PrintLast Go.Proofs.YtjplogeifleojaaW.PrintMore
attribute [local go_sem] max2_int min2_int max_two min_two max_three min_three max_four min_four str_gtr str_leq str_geq pw_at_slice   -- for this text's walks alone
set_option linter.unusedVariables false
set_option linter.unusedSimpArgs false

attribute [local go_sem high] eqA42
/-! ### impl_printable: function 48 -/
set_option maxRecDepth 100000 in
def impl_printable.l0 : Nat → ByteArray → Int → Option (Bool)
  | 0, _, _ => none
  | k + 1, x0, x3 => if x3 < (x0.size : Int) then (if 0 ≤ x3 then (if (bt x0 x3) < 32 then (some false) else (if (bt x0 x3) > 126 then (some false) else (impl_printable.l0 k x0 (wrap64 (x3 + 1))))) else (none)) else (some true)
def impl_printable.f (k : Nat) (a0 : ByteArray) : Option (Bool) := impl_printable.l0 k a0 0
set_option maxHeartbeats 8000000 in
set_option maxRecDepth 100000 in
theorem impl_printable.calls (k : Nat) (a0 : ByteArray) (r : Bool) (w : World) (h : impl_printable.f k a0 = some r) :
    Calls Try.prog 48 #[.string a0] w fun e w' => e = .returned (.bool r) ∧ Drawn0 w w' := by
  have H : (impl_printable.l0 k a0 0) = some r := h
  clear h
  have H' := Aside0.mk H
  clear H
  go_enter Try.func48, Try.ntmps48
  go_wp2
  go_loopg [3] k (fun kq v3 w' => ∃ (x3_1 : Int), v3 = .int .i64 x3_1 ∧ Aside0 (impl_printable.l0 kq a0 x3_1 = some r) ∧ Aside0 (kq ≤ k) ∧ Drawn0 w w')
  case atStart => exact ⟨(0), (by first | rfl | (simp; done) | (simp [*]; done)), H', ⟨Nat.le_refl _⟩, by repeat (first | exact Drawn0.refl _ | apply Drawn0.step)⟩
  case round =>
    clear H'
    obtain ⟨x3_1, rfl, HA, HK1, ⟨m1, rfl⟩⟩ := hrel
    cases gk with
    | zero => exact absurd HA.out (by simp [impl_printable.l0])
    | succ k1 =>
      have H := HA.out
      clear HA
      simp only [impl_printable.l0] at H
      by_cases c2 : x3_1 < (a0.size : Int)
      · rw [if_pos c2] at H
        have c2b0 : decide (x3_1 < (a0.size : Int)) = true := decide_eq_true c2
        clear c2
        by_cases c3 : 0 ≤ x3_1
        · rw [if_pos c3] at H
          have c3b0 : decide (0 ≤ x3_1) = true := decide_eq_true c3
          clear c3
          by_cases c5 : (bt a0 x3_1) < 32
          · rw [if_pos c5] at H
            have c5b0 : decide ((bt a0 x3_1) < 32) = true := decide_eq_true c5
            clear c5
            obtain rfl := Option.some.inj H
            have p4 : 0 ≤ (x3_1 : Int) := of_decide_eq_true (by first | (with_reducible assumption) | assumption)
            have q4 : x3_1 < (a0.size : Int) := of_decide_eq_true (by first | (with_reducible assumption) | assumption)
            have hx4 := bt_at a0 x3_1
            replace p4 := eq_true p4
            replace q4 := eq_true q4
            go_wp2
            go_ret
            exact ⟨by first | rfl | (simp; done) | (simp [*]; done), by repeat (first | exact Drawn0.refl _ | apply Drawn0.step)⟩
          · rw [if_neg c5] at H
            have c5b0 : decide ((bt a0 x3_1) < 32) = false := decide_eq_false c5
            clear c5
            by_cases c7 : (bt a0 x3_1) > 126
            · rw [if_pos c7] at H
              have c7b0 : decide (126 < (bt a0 x3_1)) = true := decide_eq_true c7
              clear c7
              obtain rfl := Option.some.inj H
              have p4 : 0 ≤ (x3_1 : Int) := of_decide_eq_true (by first | (with_reducible assumption) | assumption)
              have q4 : x3_1 < (a0.size : Int) := of_decide_eq_true (by first | (with_reducible assumption) | assumption)
              have hx4 := bt_at a0 x3_1
              replace p4 := eq_true p4
              replace q4 := eq_true q4
              have p6 : 0 ≤ (x3_1 : Int) := of_decide_eq_true (by first | (with_reducible assumption) | assumption)
              have q6 : x3_1 < (a0.size : Int) := of_decide_eq_true (by first | (with_reducible assumption) | assumption)
              have hx6 := bt_at a0 x3_1
              replace p6 := eq_true p6
              replace q6 := eq_true q6
              go_wp2
              go_ret
              exact ⟨by first | rfl | (simp; done) | (simp [*]; done), by repeat (first | exact Drawn0.refl _ | apply Drawn0.step)⟩
            · rw [if_neg c7] at H
              have c7b0 : decide (126 < (bt a0 x3_1)) = false := decide_eq_false c7
              clear c7
              have H' := Aside0.mk H
              clear H
              have p4 : 0 ≤ (x3_1 : Int) := of_decide_eq_true (by first | (with_reducible assumption) | assumption)
              have q4 : x3_1 < (a0.size : Int) := of_decide_eq_true (by first | (with_reducible assumption) | assumption)
              have hx4 := bt_at a0 x3_1
              replace p4 := eq_true p4
              replace q4 := eq_true q4
              have p6 : 0 ≤ (x3_1 : Int) := of_decide_eq_true (by first | (with_reducible assumption) | assumption)
              have q6 : x3_1 < (a0.size : Int) := of_decide_eq_true (by first | (with_reducible assumption) | assumption)
              have hx6 := bt_at a0 x3_1
              replace p6 := eq_true p6
              replace q6 := eq_true q6
              go_wp2
              go_roundg k1
              case measure => have := HK1.out; omega
              case rel => exact ⟨(wrap64 (x3_1 + 1)), (by first | rfl | (simp; done) | (simp [*]; done)), H', ⟨by have := HK1.out; omega⟩, by repeat (first | exact Drawn0.refl _ | apply Drawn0.step)⟩
        · rw [if_neg c3] at H
          exact absurd H (by simp)
      · rw [if_neg c2] at H
        have c2b0 : decide (x3_1 < (a0.size : Int)) = false := decide_eq_false c2
        clear c2
        obtain rfl := Option.some.inj H
        go_wp2
        go_ret
        exact ⟨by first | rfl | (simp; done) | (simp [*]; done), by repeat (first | exact Drawn0.refl _ | apply Drawn0.step)⟩

/-! ### impl_ValueOK: function 24 -/
def impl_ValueOK.f (k : Nat) (a0_0 : Int) (a0_1 : Int) (a0_2 : Int) (a0_3 : ByteArray) : Option (Bool) := if a0_0 = 0 then (some (a0_1 == 0 && (a0_2 == 0 && (a0_3.toList == ([] : List UInt8))))) else (if a0_0 = 1 then (if a0_1 < 0 then (some false) else (if a0_1 > 1 then (some false) else (some (a0_2 == 0 && (a0_3.toList == ([] : List UInt8)))))) else (if a0_0 = 2 then (if a0_1 < (-1000000000000000) then (some false) else (if a0_1 > 1000000000000000 then (some false) else (some (a0_2 == 0 && (a0_3.toList == ([] : List UInt8)))))) else (if a0_0 = 3 then (if a0_1 < (-1000000000) then (some false) else (if a0_1 > 1000000000 then (some false) else (if a0_2 < 0 then (some false) else (if a0_2 > 6 then (some false) else (if a0_2 > 0 then (if (Int.tmod a0_1 10) = 0 then (some false) else (some (a0_3.toList == ([] : List UInt8)))) else (some (a0_3.toList == ([] : List UInt8)))))))) else (if a0_0 = 4 then (if (a0_3.size : Int) > 200 then (some false) else ((impl_printable.f k a0_3).bind fun t109 => (if t109 = true then (some (a0_1 == 0 && (a0_2 == 0))) else (some false)))) else (if a0_0 = 5 then (if a0_1 < 0 then (some false) else (if a0_1 > 3652058 then (some false) else (some (a0_2 == 0 && (a0_3.toList == ([] : List UInt8)))))) else (some false))))))
theorem impl_ValueOK.vb {w W : World} (h : Below w.heap.size w W) (o : Obj) : Below w.heap.size w (W.alloc o) := h.alloc h.size o
set_option maxHeartbeats 8000000 in
set_option maxRecDepth 100000 in
theorem impl_ValueOK.k0 (k : Nat) (N S : Int) (s : ByteArray) (r : Bool) (w : World) (h : impl_ValueOK.f k 0 N S s = some r) :
    Calls Try.prog 24 #[.agg #[.int .i64 0, .int .i64 N, .int .i64 S, .string s]] w fun e w' => e = .returned (.bool r) ∧ Below w.heap.size w w' := by
  have H := Aside0.mk h
  clear h
  have hu := Try.underlying42
  go_enter Try.func24, Try.ntmps24
  go_wp2
  all_goals
    go_ret
    refine ⟨?_, ?_⟩
    · have h := H.out
      clear H
      first
      | (simp_all [impl_ValueOK.f]; done)
      | (simp (disch := omega) only [impl_ValueOK.f, if_pos, if_neg, Option.some.injEq] at h; simp only [if_true, if_false, Option.some.injEq] at h; subst h; simp; done)
      | (simp (disch := omega) only [impl_ValueOK.f, if_pos, if_neg] at h; simp only [if_true, if_false] at h; simp_all; done)
      | (unfold impl_ValueOK.f at h; repeat' split at h
         all_goals first | (exfalso; omega) | (simp_all; done) | (exfalso; simp_all; omega))
    · repeat (first | exact Below.refl _ _ | refine impl_ValueOK.vb ?_ _ | refine Below.setCell ?_ (by simp) _)
set_option maxHeartbeats 8000000 in
set_option maxRecDepth 100000 in
theorem impl_ValueOK.k1 (k : Nat) (N S : Int) (s : ByteArray) (r : Bool) (w : World) (h : impl_ValueOK.f k 1 N S s = some r) :
    Calls Try.prog 24 #[.agg #[.int .i64 1, .int .i64 N, .int .i64 S, .string s]] w fun e w' => e = .returned (.bool r) ∧ Below w.heap.size w w' := by
  have H := Aside0.mk h
  clear h
  have hu := Try.underlying42
  go_enter Try.func24, Try.ntmps24
  go_wp2
  all_goals
    go_ret
    refine ⟨?_, ?_⟩
    · have h := H.out
      clear H
      first
      | (simp_all [impl_ValueOK.f]; done)
      | (simp (disch := omega) only [impl_ValueOK.f, if_pos, if_neg, Option.some.injEq] at h; simp only [if_true, if_false, Option.some.injEq] at h; subst h; simp; done)
      | (simp (disch := omega) only [impl_ValueOK.f, if_pos, if_neg] at h; simp only [if_true, if_false] at h; simp_all; done)
      | (unfold impl_ValueOK.f at h; repeat' split at h
         all_goals first | (exfalso; omega) | (simp_all; done) | (exfalso; simp_all; omega))
    · repeat (first | exact Below.refl _ _ | refine impl_ValueOK.vb ?_ _ | refine Below.setCell ?_ (by simp) _)
set_option maxHeartbeats 8000000 in
set_option maxRecDepth 100000 in
theorem impl_ValueOK.k2 (k : Nat) (N S : Int) (s : ByteArray) (r : Bool) (w : World) (h : impl_ValueOK.f k 2 N S s = some r) :
    Calls Try.prog 24 #[.agg #[.int .i64 2, .int .i64 N, .int .i64 S, .string s]] w fun e w' => e = .returned (.bool r) ∧ Below w.heap.size w w' := by
  have H := Aside0.mk h
  clear h
  have hu := Try.underlying42
  go_enter Try.func24, Try.ntmps24
  go_wp2
  all_goals
    go_ret
    refine ⟨?_, ?_⟩
    · have h := H.out
      clear H
      first
      | (simp_all [impl_ValueOK.f]; done)
      | (simp (disch := omega) only [impl_ValueOK.f, if_pos, if_neg, Option.some.injEq] at h; simp only [if_true, if_false, Option.some.injEq] at h; subst h; simp; done)
      | (simp (disch := omega) only [impl_ValueOK.f, if_pos, if_neg] at h; simp only [if_true, if_false] at h; simp_all; done)
      | (unfold impl_ValueOK.f at h; repeat' split at h
         all_goals first | (exfalso; omega) | (simp_all; done) | (exfalso; simp_all; omega))
    · repeat (first | exact Below.refl _ _ | refine impl_ValueOK.vb ?_ _ | refine Below.setCell ?_ (by simp) _)
set_option maxHeartbeats 8000000 in
set_option maxRecDepth 100000 in
theorem impl_ValueOK.k3 (k : Nat) (N S : Int) (s : ByteArray) (r : Bool) (w : World) (h : impl_ValueOK.f k 3 N S s = some r) :
    Calls Try.prog 24 #[.agg #[.int .i64 3, .int .i64 N, .int .i64 S, .string s]] w fun e w' => e = .returned (.bool r) ∧ Below w.heap.size w w' := by
  have H := Aside0.mk h
  clear h
  have hu := Try.underlying42
  go_enter Try.func24, Try.ntmps24
  go_wp2
  all_goals
    go_ret
    refine ⟨?_, ?_⟩
    · have h := H.out
      clear H
      first
      | (simp_all [impl_ValueOK.f]; done)
      | (simp (disch := omega) only [impl_ValueOK.f, if_pos, if_neg, Option.some.injEq] at h; simp only [if_true, if_false, Option.some.injEq] at h; subst h; simp; done)
      | (simp (disch := omega) only [impl_ValueOK.f, if_pos, if_neg] at h; simp only [if_true, if_false] at h; simp_all; done)
      | (unfold impl_ValueOK.f at h; repeat' split at h
         all_goals first | (exfalso; omega) | (simp_all; done) | (exfalso; simp_all; omega))
    · repeat (first | exact Below.refl _ _ | refine impl_ValueOK.vb ?_ _ | refine Below.setCell ?_ (by simp) _)
set_option maxHeartbeats 8000000 in
set_option maxRecDepth 100000 in
theorem impl_ValueOK.k5 (k : Nat) (N S : Int) (s : ByteArray) (r : Bool) (w : World) (h : impl_ValueOK.f k 5 N S s = some r) :
    Calls Try.prog 24 #[.agg #[.int .i64 5, .int .i64 N, .int .i64 S, .string s]] w fun e w' => e = .returned (.bool r) ∧ Below w.heap.size w w' := by
  have H := Aside0.mk h
  clear h
  have hu := Try.underlying42
  go_enter Try.func24, Try.ntmps24
  go_wp2
  all_goals
    go_ret
    refine ⟨?_, ?_⟩
    · have h := H.out
      clear H
      first
      | (simp_all [impl_ValueOK.f]; done)
      | (simp (disch := omega) only [impl_ValueOK.f, if_pos, if_neg, Option.some.injEq] at h; simp only [if_true, if_false, Option.some.injEq] at h; subst h; simp; done)
      | (simp (disch := omega) only [impl_ValueOK.f, if_pos, if_neg] at h; simp only [if_true, if_false] at h; simp_all; done)
      | (unfold impl_ValueOK.f at h; repeat' split at h
         all_goals first | (exfalso; omega) | (simp_all; done) | (exfalso; simp_all; omega))
    · repeat (first | exact Below.refl _ _ | refine impl_ValueOK.vb ?_ _ | refine Below.setCell ?_ (by simp) _)
set_option maxHeartbeats 8000000 in
set_option maxRecDepth 100000 in
theorem impl_ValueOK.k4 (k : Nat) (N S : Int) (s : ByteArray) (r : Bool) (w : World) (h : impl_ValueOK.f k 4 N S s = some r) :
    Calls Try.prog 24 #[.agg #[.int .i64 4, .int .i64 N, .int .i64 S, .string s]] w fun e w' => e = .returned (.bool r) ∧ Below w.heap.size w w' := by
  have hu := Try.underlying42
  simp only [impl_ValueOK.f] at h
  rw [if_neg (by omega), if_neg (by omega), if_neg (by omega), if_neg (by omega), if_pos (by trivial)] at h
  by_cases c : (s.size : Int) > 200
  · rw [if_pos c] at h
    obtain rfl := Option.some.inj h
    clear h
    have c' : 200 < s.size := by omega
    clear c
    go_enter Try.func24, Try.ntmps24
    go_wp2_with fail
    go_ret
    refine ⟨rfl, ?_⟩
    repeat (first | exact Below.refl _ _ | refine impl_ValueOK.vb ?_ _ | refine Below.setCell ?_ (by simp) _)
  · rw [if_neg c] at h
    have c' : ¬ 200 < s.size := by omega
    have c1 : decide (200 < (s.size : Int)) = false := decide_eq_false (by omega)
    have c2 : decide (200 < s.size) = false := decide_eq_false c'
    clear c
    obtain ⟨t, hp, h⟩ := Option.bind_eq_some_iff.mp h
    have HP := Aside0.mk hp
    clear hp
    cases t with
    | true =>
      rw [if_pos rfl] at h
      obtain rfl := Option.some.inj h
      clear h
      go_enter Try.func24, Try.ntmps24
      go_wp2_with (go_at_call 48; refine (impl_printable.calls k s true _ HP.out).mono ?_; rintro e w' ⟨rfl, hd⟩; obtain ⟨nd, rfl⟩ := hd.out)
      go_ret
      refine ⟨by simp, ?_⟩
      repeat (first | exact Below.refl _ _ | refine impl_ValueOK.vb ?_ _ | refine Below.setCell ?_ (by simp) _ | refine pw_below_drewN ?_ _)
    | false =>
      rw [if_neg (by simp)] at h
      obtain rfl := Option.some.inj h
      clear h
      go_enter Try.func24, Try.ntmps24
      go_wp2_with (go_at_call 48; refine (impl_printable.calls k s false _ HP.out).mono ?_; rintro e w' ⟨rfl, hd⟩; obtain ⟨nd, rfl⟩ := hd.out)
      go_ret
      refine ⟨rfl, ?_⟩
      repeat (first | exact Below.refl _ _ | refine impl_ValueOK.vb ?_ _ | refine Below.setCell ?_ (by simp) _ | refine pw_below_drewN ?_ _)
set_option maxHeartbeats 8000000 in
set_option maxRecDepth 100000 in
theorem impl_ValueOK.kx (k : Nat) (K N S : Int) (s : ByteArray) (r : Bool) (w : World) (k0 : K ≠ 0) (k1 : K ≠ 1) (k2 : K ≠ 2) (k3 : K ≠ 3) (k4 : K ≠ 4) (k5 : K ≠ 5) (h : impl_ValueOK.f k K N S s = some r) :
    Calls Try.prog 24 #[.agg #[.int .i64 K, .int .i64 N, .int .i64 S, .string s]] w fun e w' => e = .returned (.bool r) ∧ Below w.heap.size w w' := by
  have hu := Try.underlying42
  simp only [impl_ValueOK.f] at h
  rw [if_neg k0, if_neg k1, if_neg k2, if_neg k3, if_neg k4, if_neg k5] at h
  obtain rfl := Option.some.inj h
  clear h
  have h0 : (K == 0) = false := beq_eq_false_iff_ne.mpr k0
  have h1 : (K == 1) = false := beq_eq_false_iff_ne.mpr k1
  have h2 : (K == 2) = false := beq_eq_false_iff_ne.mpr k2
  have h3 : (K == 3) = false := beq_eq_false_iff_ne.mpr k3
  have h4 : (K == 4) = false := beq_eq_false_iff_ne.mpr k4
  have h5 : (K == 5) = false := beq_eq_false_iff_ne.mpr k5
  clear k0 k1 k2 k3 k4 k5
  go_enter Try.func24, Try.ntmps24
  go_wp2
  go_ret
  refine ⟨rfl, ?_⟩
  repeat (first | exact Below.refl _ _ | refine impl_ValueOK.vb ?_ _ | refine Below.setCell ?_ (by simp) _)
theorem impl_ValueOK.calls (k : Nat) (a0_0 : Int) (a0_1 : Int) (a0_2 : Int) (a0_3 : ByteArray) (r : Bool) (w : World) (h : impl_ValueOK.f k a0_0 a0_1 a0_2 a0_3 = some r) :
    Calls Try.prog 24 #[.agg #[.int .i64 a0_0, .int .i64 a0_1, .int .i64 a0_2, .string a0_3]] w fun e w' => e = .returned (.bool r) ∧ Below w.heap.size w w' := by
  by_cases k0 : a0_0 = 0
  · subst k0; exact impl_ValueOK.k0 k a0_1 a0_2 a0_3 r w h
  · by_cases k1 : a0_0 = 1
    · subst k1; exact impl_ValueOK.k1 k a0_1 a0_2 a0_3 r w h
    · by_cases k2 : a0_0 = 2
      · subst k2; exact impl_ValueOK.k2 k a0_1 a0_2 a0_3 r w h
      · by_cases k3 : a0_0 = 3
        · subst k3; exact impl_ValueOK.k3 k a0_1 a0_2 a0_3 r w h
        · by_cases k4 : a0_0 = 4
          · subst k4; exact impl_ValueOK.k4 k a0_1 a0_2 a0_3 r w h
          · by_cases k5 : a0_0 = 5
            · subst k5; exact impl_ValueOK.k5 k a0_1 a0_2 a0_3 r w h
            · exact impl_ValueOK.kx k a0_0 a0_1 a0_2 a0_3 r w k0 k1 k2 k3 k4 k5 h


-- NOT PRINTED: function 59 (abi_NoEscape)

-- NOT PRINTED: function 49 (strings_Builder_copyCheck)

-- NOT PRINTED: function 25 (strings_Builder_WriteByte)

-- NOT PRINTED: function 26 (strings_Builder_WriteString)

/-! ### impl_p10: function 27 -/
set_option maxRecDepth 100000 in
def impl_p10.l0 : Nat → Int → Int → Option (Int)
  | 0, _, _ => none
  | k + 1, x0, x3 => if x0 > 0 then (impl_p10.l0 k (wrap64 (x0 - 1)) (wrap64 (x3 * 10))) else (some x3)
def impl_p10.f (k : Nat) (a0 : Int) : Option (Int) := impl_p10.l0 k a0 1
set_option maxHeartbeats 8000000 in
set_option maxRecDepth 100000 in
theorem impl_p10.calls (k : Nat) (a0 : Int) (r : Int) (w : World) (h : impl_p10.f k a0 = some r) :
    Calls Try.prog 27 #[.int .i64 a0] w fun e w' => e = .returned (.int .i64 r) ∧ Drawn0 w w' := by
  have H : (impl_p10.l0 k a0 1) = some r := h
  clear h
  have H' := Aside0.mk H
  clear H
  go_enter Try.func27, Try.ntmps27
  go_wp2
  go_loopg [0, 3] k (fun kq v0 v3 w' => ∃ (x0_1 : Int) (x3_1 : Int), v0 = .int .i64 x0_1 ∧ v3 = .int .i64 x3_1 ∧ Aside0 (impl_p10.l0 kq x0_1 x3_1 = some r) ∧ Aside0 (kq ≤ k) ∧ Drawn0 w w')
  case atStart => exact ⟨(a0), (1), (by first | rfl | (simp; done) | (simp [*]; done)), (by first | rfl | (simp; done) | (simp [*]; done)), H', ⟨Nat.le_refl _⟩, by repeat (first | exact Drawn0.refl _ | apply Drawn0.step)⟩
  case round =>
    clear H'
    try clear p1
    obtain ⟨x0_1, x3_1, rfl, rfl, HA, HK1, ⟨m1, rfl⟩⟩ := hrel
    cases gk with
    | zero => exact absurd HA.out (by simp [impl_p10.l0])
    | succ k1 =>
      have H := HA.out
      clear HA
      simp only [impl_p10.l0] at H
      by_cases c2 : x0_1 > 0
      · rw [if_pos c2] at H
        have c2b0 : decide (0 < x0_1) = true := decide_eq_true c2
        clear c2
        have H' := Aside0.mk H
        clear H
        go_wp2
        go_roundg k1
        case measure => have := HK1.out; omega
        case rel => exact ⟨(wrap64 (x0_1 - 1)), (wrap64 (x3_1 * 10)), (by first | rfl | (simp; done) | (simp [*]; done)), (by first | rfl | (simp; done) | (simp [*]; done)), H', ⟨by have := HK1.out; omega⟩, by repeat (first | exact Drawn0.refl _ | apply Drawn0.step)⟩
      · rw [if_neg c2] at H
        have c2b0 : decide (0 < x0_1) = false := decide_eq_false c2
        clear c2
        obtain rfl := Option.some.inj H
        go_wp2
        go_ret
        exact ⟨by first | rfl | (simp; done) | (simp [*]; done), by repeat (first | exact Drawn0.refl _ | apply Drawn0.step)⟩

/-! ### impl_bytesOf: function 28 -/
set_option maxRecDepth 100000 in
def impl_bytesOf.l0 : Nat → Int → List Int → Int → Option (ByteArray)
  | 0, _, _, _ => none
  | k + 1, x0, x5, x6 => if x6 ≥ 0 then (if 0 ≤ x6 then (if x6 < (x5.length : Int) then (impl_bytesOf.l0 k (x0 / 256) (x5.set (x6 : Int).toNat ((x0) % 256)) (wrap64 (x6 - 1))) else (none)) else (none)) else (some (strOfNums x5))
def impl_bytesOf.f (k : Nat) (a0 : Int) (a1 : Int) : Option (ByteArray) := if 0 ≤ a1 then (if (a1 : Int).toNat ≤ 281474976710656 then (impl_bytesOf.l0 k a0 (List.replicate (a1 : Int).toNat 0) (wrap64 (a1 - 1))) else (none)) else (none)
set_option maxHeartbeats 8000000 in
set_option maxRecDepth 100000 in
theorem impl_bytesOf.calls (k : Nat) (a0 : Int) (a1 : Int) (r : ByteArray) (w : World) (h : impl_bytesOf.f k a0 a1 = some r) :
    Calls Try.prog 28 #[.int .i64 a0, .int .i64 a1] w fun e w' => e = .returned (.string r) ∧ Below w.heap.size w w' := by
  have HB := Aside0.mk (Below.refl w.heap.size w)
  have H : (if 0 ≤ a1 then (if (a1 : Int).toNat ≤ 281474976710656 then (impl_bytesOf.l0 k a0 (List.replicate (a1 : Int).toNat 0) (wrap64 (a1 - 1))) else (none)) else (none)) = some r := h
  clear h
  by_cases c3 : 0 ≤ a1
  · rw [if_pos c3] at H
    have c3b0 := eq_true c3
    have c3b1 : decide (0 ≤ a1) = true := decide_eq_true c3
    clear c3
    by_cases c4 : (a1 : Int).toNat ≤ 281474976710656
    · rw [if_pos c4] at H
      have c4b0 := eq_true c4
      have c4b1 : decide ((a1 : Int).toNat ≤ 281474976710656) = true := decide_eq_true c4
      clear c4
      obtain ⟨y625, hy625⟩ : ∃ y_ : List Int, y_ = (List.replicate (a1 : Int).toNat 0) := ⟨_, rfl⟩
      replace H : (impl_bytesOf.l0 k a0 y625 (wrap64 (a1 - 1))) = some r := by first | (rw [hy625]; with_reducible exact H) | (have H2_ := (Option.bind_some _ _).symm.trans H; rw [hy625]; with_reducible exact H2_) | (have H2_ := (Option.bind_some _ _).symm.trans H; with_reducible exact H2_) | with_reducible exact H | (rw [hy625]; exact H) | exact H
      have Ny625 := Aside0.mk hy625
      clear hy625
      have H' := Aside0.mk H
      clear H
      go_enter Try.func28, Try.ntmps28
      go_wp2_with (first | ((with_reducible refine gate_dst (N := 8) rfl ?_); refine Kd.R_make (Kd.int .u8) _ 5 rfl (N := 8) rfl 34 _ _ rfl a1 rfl rfl Try.underlying34 (.int .u8 0) 1 info5 rfl (by decide) (by omega) 0 (ok := fun _ => True) (okp := fun _ => True) rfl (fun _ hk => hk) trivial (of_decide_eq_true (by first | (with_reducible assumption) | assumption)) (Nat.le_trans (Nat.mul_le_mul_right _ (of_decide_eq_true (by first | (with_reducible assumption) | assumption) : a1.toNat ≤ 281474976710656)) (by omega)) (Below.refl _ _) (Nat.le_refl _) ?_; intro v626 w5 ho6 hb hg_ hnew_; clear hg_ hnew_; (first | rw [← Ny625.out] at ho6 | (simp only [Int.reduceToNat] at ho6; rw [← Ny625.out] at ho6)); have n0_ := Aside0.mk (Kd.R_lower ho6 (below_size (by repeat (first | (with_reducible first | exact HB.out | apply below_alloc | apply pw_below_drewN | apply below_drew1) | exact HB.out)))); have n1_ := Aside0.mk (below_step (by repeat (first | (with_reducible first | exact HB.out | apply below_alloc | apply pw_below_drewN | apply below_drew1) | exact HB.out)) hb); clear HB; have HO627 := n0_; have HB := n1_; clear n0_ n1_; clear hb ho6))
      go_loopg [0, 6] k (fun kq v0 v6 w' => ∃ (x0_1 : Int) (x5_1 : List Int) (x6_1 : Int), v0 = .int .i64 x0_1 ∧ v6 = .int .i64 x6_1 ∧ Aside0 (impl_bytesOf.l0 kq x0_1 x5_1 x6_1 = some r) ∧ Aside0 (kq ≤ k) ∧ Aside0 (Kd.R (Kd.int .u8) 5 w' w.heap.size (fun _ => True) v626 x5_1) ∧ Aside0 (Below w.heap.size w w'))
      case atStart => exact ⟨(a0), (y625), (wrap64 (a1 - 1)), (by first | rfl | (simp; done) | (simp [*]; done)), (by first | rfl | (simp; done) | (simp [*]; done)), H', ⟨Nat.le_refl _⟩, ⟨by (with_reducible repeat (first | apply Kd.R_alloc | apply Kd.R_drewN | apply Kd.R_drew)); exact HO627.out⟩, ⟨by repeat (first | (with_reducible first | exact HB.out | apply below_alloc | apply pw_below_drewN | apply below_drew1) | exact HB.out)⟩⟩
      case round =>
        clear H'
        try clear c2
        try clear p2
        try clear c3
        try clear c3b0
        try clear c3b1
        try clear c4
        try clear c4b0
        try clear c4b1
        try clear p6
        obtain ⟨x0_1, x5_1, x6_1, rfl, rfl, HA, HK1, HO_5, HB⟩ := hrel
        cases gk with
        | zero => exact absurd HA.out (by simp [impl_bytesOf.l0])
        | succ k1 =>
          have H := HA.out
          clear HA
          simp only [impl_bytesOf.l0] at H
          by_cases c7 : x6_1 ≥ 0
          · rw [if_pos c7] at H
            have c7b0 : decide (0 ≤ x6_1) = true := decide_eq_true c7
            clear c7
            by_cases c8 : 0 ≤ x6_1
            · rw [if_pos c8] at H
              have c8b0 : decide (0 ≤ x6_1) = true := decide_eq_true c8
              clear c8
              by_cases c9 : x6_1 < (x5_1.length : Int)
              · rw [if_pos c9] at H
                have c9b0 : decide (x6_1 < (x5_1.length : Int)) = true := decide_eq_true c9
                clear c9
                obtain ⟨y628, hy628⟩ : ∃ y_ : List Int, y_ = (x5_1.set (x6_1 : Int).toNat ((x0_1) % 256)) := ⟨_, rfl⟩
                replace H : (impl_bytesOf.l0 k1 (x0_1 / 256) y628 (wrap64 (x6_1 - 1))) = some r := by first | (rw [hy628]; with_reducible exact H) | (have H2_ := (Option.bind_some _ _).symm.trans H; rw [hy628]; with_reducible exact H2_) | (have H2_ := (Option.bind_some _ _).symm.trans H; with_reducible exact H2_) | with_reducible exact H | (rw [hy628]; exact H) | exact H
                have Ny628 := Aside0.mk hy628
                clear hy628
                have H' := Aside0.mk H
                clear H
                have p10 : 0 ≤ (x6_1 : Int) := of_decide_eq_true (by first | (with_reducible assumption) | assumption)
                have q10 : (x6_1 : Int) < ((x5_1.length : Int) : Int) := of_decide_eq_true (by first | (with_reducible assumption) | assumption)
                obtain ⟨go10, co10, eo10, gb10, gl10, cl10, HG10⟩ := Kd.R_form HO_5.out (by omega)
                (first | cases eo10 | (injection eo10 with ea_ en_ ec_; (first | subst ea_ | (injection ea_ with ea_; subst ea_)); subst ec_; clear en_))
                have GB10 := Aside0.mk gb10
                have GG10 := Aside0.mk HG10
                clear gb10 gl10 HG10
                obtain ⟨hx10_0, hf10_0⟩ := Kd.R_celln 0 HO_5.out (x6_1 : Int) p10 q10
                replace p10 := eq_true p10
                replace q10 := eq_true q10
                have HP11 := Kd.R_putg HO_5.out (x6_1 : Int) ((x0_1) % 256)
                go_wp2_with (first | ((with_reducible refine gate_store (t := 5) (p := 19) rfl ?_); refine store_event (t := 5) (p := 19) (v := ?vo_w12) (w1 := (wr.setCell ⟨go10, (x6_1 : Int).toNat, none⟩ (.int .u8 ((x0_1) % 256)))) ?hg ?ho ?hn ?hr ?_; (case ho => rfl); (case hg => rfl); (case hn => rfl); (case hr => first | (go_simp; done) | (go_simp; rfl)); intro w12 hw; have hg : wr.grownBy w12 (some go10) := (by rw [hw]; exact HP11.2); have hp_ : Kd.R (Kd.int .u8) 5 w12 w.heap.size (fun _ => True) (.slice (some ⟨go10, 0, none⟩) x5_1.length co10) y628 := (by rw [hw, Ny628.out]; exact HP11.1); clear HP11; have n0_ := Aside0.mk (hp_); have n1_ := Aside0.mk ((by rw [hw]; exact below_set (HB.out) GB10.out : Below w.heap.size w w12)); clear HO_5; clear HB; have HO_5 := n0_; have HB := n1_; clear n0_ n1_; clear hg hw hp_))
                go_roundg k1
                case measure => have := HK1.out; omega
                case rel => exact ⟨(x0_1 / 256), (y628), (wrap64 (x6_1 - 1)), (by first | rfl | (simp; done) | (simp [*]; done)), (by first | rfl | (simp; done) | (simp [*]; done)), H', ⟨by have := HK1.out; omega⟩, ⟨by (with_reducible repeat (first | apply Kd.R_alloc | apply Kd.R_drewN | apply Kd.R_drew)); exact HO_5.out⟩, ⟨by repeat (first | (with_reducible first | exact HB.out | apply below_alloc | apply pw_below_drewN | apply below_drew1) | exact HB.out)⟩⟩
              · rw [if_neg c9] at H
                exact absurd H (by simp)
            · rw [if_neg c8] at H
              exact absurd H (by simp)
          · rw [if_neg c7] at H
            have c7b0 : decide (0 ≤ x6_1) = false := decide_eq_false c7
            clear c7
            obtain rfl := Option.some.inj H
            have hcv13 := own_string (P := Try.prog) Try.underlying34 Try.underlying5 Try.underlying9 (Kd.own_of_R HO_5.out)
            go_wp2
            go_ret
            exact ⟨by first | rfl | (simp [errW_none, errW_some] <;> rfl) | (simp [*, errW_none, errW_some] <;> rfl), by repeat (first | (with_reducible first | exact HB.out | apply below_alloc | apply pw_below_drewN | apply below_drew1) | exact HB.out)⟩
    · rw [if_neg c4] at H
      exact absurd H (by simp)
  · rw [if_neg c3] at H
    exact absurd H (by simp)

-- NOT PRINTED: function 29 (strings_Builder_String)

end Go.Proofs.Ytjplogeifleojaa.QFnKeyOrder
