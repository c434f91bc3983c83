/- The functions that the law reaches, each as a plain Lean function with the proof that the Go code comes to its answers: written by a program of this session. No condition. -/
import Derived.Test.YtiolnbhcmoafjaaQFnExactTableOKx0
import Derived.Test.YtiolnbhcmoafjaaQFnExactTableOKx6
namespace Go.Proofs.Ytiolnbhcmoafjaa.QFnExactTableOK
open Go.RowKit Go.Proofs.YtiolnbhcmoafjaaW.PrintWords Go.Proofs.YtiolnbhcmoafjaaW.PrintLast Go.Proofs.YtiolnbhcmoafjaaW.PrintMore
attribute [local go_sem] max2_int min2_int max_two min_two max_three min_three max_four min_four str_gtr str_leq str_geq pw_at_slice   -- for this text's walks alone
set_option linter.unusedVariables false
set_option linter.unusedSimpArgs false

theorem x7_sz_lit1 (x : UInt8) : (⟨#[x]⟩ : ByteArray).size = 1 := rfl
/-! ### strings_Contains: function 69 -/
/-- internal/bytealg.MaxLen holds some number. -/
def GM (w : World) : Prop := ∃ m, w.cell? ⟨0, 0, none⟩ = some (.int .i64 m)
theorem gm_up {w w' : World} (h : GM w) (hb : Below w.heap.size w w') : GM w' := by
 obtain ⟨m, hm⟩ := h
 exact ⟨m, (hb.cell (World.block_lt_of_cell? w _ hm)).trans hm⟩
theorem gm_alloc {w : World} (h : GM w) (o : Obj) : GM (w.alloc o) := gm_up h (below_alloc (Below.refl _ _) o)
theorem gm_drewN {w : World} (h : GM w) (n : Nat) : GM (w.drewN n) := gm_up h (pw_below_drewN (Below.refl _ _) n)
theorem gm_drew {w : World} (h : GM w) : GM w.drew := gm_up h (below_drew1 (Below.refl _ _))
def strings_Contains.f (a0 : ByteArray) (a1 : ByteArray) : Option (Bool) := if a0.size < 4294967281 then some (Go.Lib.contains a0.data.toList a1.data.toList) else none
theorem strings_Contains.calls (a0 : ByteArray) (a1 : ByteArray) (r : Bool) (w : World) (h : strings_Contains.f a0 a1 = some r) (hm_ : GM w := by first | exact HM_.out | exact gm_up HM_.out zb | (repeat (first | exact HM_.out | apply gm_alloc | apply gm_drewN | apply gm_drew))) :
  Calls Try.prog 69 #[.string a0, .string a1] w fun e w' => e = .returned (.bool r) ∧ Drawn0 w w' := by
 unfold strings_Contains.f at h
 by_cases c : a0.size < 4294967281
 ·rw [if_pos c] at h
  injection h with h
  subst h
  obtain ⟨m, hm⟩ := hm_
  exact (Try.strings_Contains a0 a1 m w c hm).mono fun e w' ⟨he, hw⟩ => ⟨he, hw ▸ Drawn0.refl _⟩
 ·rw [if_neg c] at h
  cases h


/-! ### impl_kIsName: function 48 -/
set_option maxRecDepth 100000 in
mutual
def impl_kIsName.j0 : Nat → ByteArray → Bool → Option (Bool)
 | 0, _, _ => none
 | k + 1, x0, x17 => if x17 = true then (some false) else (impl_kIsName.l0 k x0 (x0.size : Int) 0)
def impl_kIsName.l0 : Nat → ByteArray → Int → Int → Option (Bool)
 | 0, _, _, _ => none
 | k + 1, x0, x19, x20 => if x20 < x19 then (if 0 ≤ x20 then (if x20 < (x0.size : Int) then (if (bt x0 x20) ≥ 97 then (if (bt x0 x20) ≤ 122 then (impl_kIsName.l0 k x0 x19 (wrap64 (x20 + 1))) else (if (bt x0 x20) = 95 then (impl_kIsName.l0 k x0 x19 (wrap64 (x20 + 1))) else (if x20 > 0 then (if (bt x0 x20) ≥ 48 then (if ((bt x0 x20) ≤ 57) then (impl_kIsName.l0 k x0 x19 (wrap64 (x20 + 1))) else (some false)) else (some false)) else (some false)))) else (if (bt x0 x20) = 95 then (impl_kIsName.l0 k x0 x19 (wrap64 (x20 + 1))) else (if x20 > 0 then (if (bt x0 x20) ≥ 48 then (if ((bt x0 x20) ≤ 57) then (impl_kIsName.l0 k x0 x19 (wrap64 (x20 + 1))) else (some false)) else (some false)) else (some false)))) else (none)) else (none)) else (some true)
end
def impl_kIsName.f (k : Nat) (a0 : ByteArray) : Option (Bool) := if a0.toList = ([] : List UInt8) then (impl_kIsName.j0 k a0 true) else (if (a0.size : Int) > 30 then (impl_kIsName.j0 k a0 true) else (if 1 + a0.size ≤ 9223372036854775807 then (if ((⟨#[32]⟩ : ByteArray) ++ a0).size + 1 ≤ 9223372036854775807 then ((strings_Contains.f (⟨#[32, 97, 108, 108, 32, 97, 110, 100, 32, 97, 115, 32, 97, 115, 99, 32, 98, 101, 103, 105, 110, 32, 98, 101, 116, 119, 101, 101, 110, 32, 98, 121, 32, 99, 97, 115, 101, 32, 99, 97, 115, 116, 32, 99, 111, 109, 109, 105, 116, 32, 99, 114, 101, 97, 116, 101, 32, 99, 114, 111, 115, 115, 32, 100, 97, 121, 32, 100, 101, 108, 101, 116, 101, 32, 100, 101, 115, 99, 32, 100, 105, 115, 116, 105, 110, 99, 116, 32, 100, 114, 111, 112, 32, 101, 108, 115, 101, 32, 101, 110, 100, 32, 101, 120, 99, 101, 112, 116, 32, 101, 120, 105, 115, 116, 115, 32, 101, 120, 112, 108, 97, 105, 110, 32, 102, 97, 108, 115, 101, 32, 102, 114, 111, 109, 32, 103, 114, 111, 117, 112, 32, 104, 97, 118, 105, 110, 103, 32, 105, 110, 32, 105, 110, 100, 101, 120, 32, 105, 110, 115, 101, 114, 116, 32, 105, 110, 116, 101, 114, 115, 101, 99, 116, 32, 105, 110, 116, 111, 32, 105, 115, 32, 106, 111, 105, 110, 32, 107, 101, 121, 32, 108, 101, 102, 116, 32, 108, 105, 109, 105, 116, 32, 110, 111, 116, 32, 110, 117, 108, 108, 32, 111, 110, 32, 111, 114, 32, 111, 114, 100, 101, 114, 32, 111, 118, 101, 114, 32, 112, 97, 114, 116, 105, 116, 105, 111, 110, 32, 112, 114, 105, 109, 97, 114, 121, 32, 114, 101, 99, 117, 114, 115, 105, 118, 101, 32, 114, 111, 108, 108, 98, 97, 99, 107, 32, 115, 101, 108, 101, 99, 116, 32, 115, 101, 116, 32, 116, 97, 98, 108, 101, 32, 116, 104, 101, 110, 32, 116, 114, 117, 101, 32, 117, 110, 105, 111, 110, 32, 117, 110, 105, 113, 117, 101, 32, 117, 112, 100, 97, 116, 101, 32, 118, 97, 108, 117, 101, 115, 32, 118, 105, 101, 119, 32, 119, 104, 101, 110, 32, 119, 104, 101, 114, 101, 32, 119, 105, 116, 104, 32, 97, 108, 116, 101, 114, 32, 97, 100, 100, 32, 99, 111, 108, 117, 109, 110, 32, 108, 101, 118, 101, 108, 32, 115, 101, 114, 105, 97, 108, 32, 115, 110, 97, 112, 115, 104, 111, 116, 32, 108, 97, 116, 101, 115, 116, 32]⟩ : ByteArray) (((⟨#[32]⟩ : ByteArray) ++ a0) ++ (⟨#[32]⟩ : ByteArray))).bind fun t693 => (impl_kIsName.j0 k a0 t693)) else (none)) else (none)))
set_option maxHeartbeats 8000000 in
set_option maxRecDepth 100000 in
theorem impl_kIsName.calls (k : Nat) (a0 : ByteArray) (r : Bool) (w : World) (h : impl_kIsName.f k a0 = some r) (hm_ : GM w := by first | exact HM_.out | exact gm_up HM_.out zb | (repeat (first | exact HM_.out | apply gm_alloc | apply gm_drewN | apply gm_drew))) :
  Calls Try.prog 48 #[.string a0] w fun e w' => e = .returned (.bool r) ∧ Drawn0 w w' := by
 have HM_ := Aside0.mk hm_
 clear hm_
 have H : (if a0.toList = ([] : List UInt8) then (impl_kIsName.j0 k a0 true) else (if (a0.size : Int) > 30 then (impl_kIsName.j0 k a0 true) else (if 1 + a0.size ≤ 9223372036854775807 then (if ((⟨#[32]⟩ : ByteArray) ++ a0).size + 1 ≤ 9223372036854775807 then ((strings_Contains.f (⟨#[32, 97, 108, 108, 32, 97, 110, 100, 32, 97, 115, 32, 97, 115, 99, 32, 98, 101, 103, 105, 110, 32, 98, 101, 116, 119, 101, 101, 110, 32, 98, 121, 32, 99, 97, 115, 101, 32, 99, 97, 115, 116, 32, 99, 111, 109, 109, 105, 116, 32, 99, 114, 101, 97, 116, 101, 32, 99, 114, 111, 115, 115, 32, 100, 97, 121, 32, 100, 101, 108, 101, 116, 101, 32, 100, 101, 115, 99, 32, 100, 105, 115, 116, 105, 110, 99, 116, 32, 100, 114, 111, 112, 32, 101, 108, 115, 101, 32, 101, 110, 100, 32, 101, 120, 99, 101, 112, 116, 32, 101, 120, 105, 115, 116, 115, 32, 101, 120, 112, 108, 97, 105, 110, 32, 102, 97, 108, 115, 101, 32, 102, 114, 111, 109, 32, 103, 114, 111, 117, 112, 32, 104, 97, 118, 105, 110, 103, 32, 105, 110, 32, 105, 110, 100, 101, 120, 32, 105, 110, 115, 101, 114, 116, 32, 105, 110, 116, 101, 114, 115, 101, 99, 116, 32, 105, 110, 116, 111, 32, 105, 115, 32, 106, 111, 105, 110, 32, 107, 101, 121, 32, 108, 101, 102, 116, 32, 108, 105, 109, 105, 116, 32, 110, 111, 116, 32, 110, 117, 108, 108, 32, 111, 110, 32, 111, 114, 32, 111, 114, 100, 101, 114, 32, 111, 118, 101, 114, 32, 112, 97, 114, 116, 105, 116, 105, 111, 110, 32, 112, 114, 105, 109, 97, 114, 121, 32, 114, 101, 99, 117, 114, 115, 105, 118, 101, 32, 114, 111, 108, 108, 98, 97, 99, 107, 32, 115, 101, 108, 101, 99, 116, 32, 115, 101, 116, 32, 116, 97, 98, 108, 101, 32, 116, 104, 101, 110, 32, 116, 114, 117, 101, 32, 117, 110, 105, 111, 110, 32, 117, 110, 105, 113, 117, 101, 32, 117, 112, 100, 97, 116, 101, 32, 118, 97, 108, 117, 101, 115, 32, 118, 105, 101, 119, 32, 119, 104, 101, 110, 32, 119, 104, 101, 114, 101, 32, 119, 105, 116, 104, 32, 97, 108, 116, 101, 114, 32, 97, 100, 100, 32, 99, 111, 108, 117, 109, 110, 32, 108, 101, 118, 101, 108, 32, 115, 101, 114, 105, 97, 108, 32, 115, 110, 97, 112, 115, 104, 111, 116, 32, 108, 97, 116, 101, 115, 116, 32]⟩ : ByteArray) (((⟨#[32]⟩ : ByteArray) ++ a0) ++ (⟨#[32]⟩ : ByteArray))).bind fun t693 => (impl_kIsName.j0 k a0 t693)) else (none)) else (none)))) = some r := h
 clear h
 have HC2 := Aside0.mk H
 clear H
 go_enter Try.func48, Try.ntmps48
 go_upto_region 1 with (fail)
 go_cut [17] (fun v17 wc => ∃ (kq : Nat) (x17_1 : Bool), v17 = .bool x17_1 ∧ Aside0 (impl_kIsName.j0 kq a0 x17_1 = some r) ∧ Aside0 (kq ≤ k) ∧ Drawn0 w wc)
 case first =>
  have H := HC2.out
  clear HC2
  by_cases c3 : a0.toList = ([] : List UInt8)
  ·rw [if_pos c3] at H
   have c3b0 : (a0.toList == ([] : List UInt8)) = true := beq_iff_eq.mpr c3
   have c3b1 : (a0.toList != ([] : List UInt8)) = false := bne_eq_false_iff_eq.mpr c3
   clear c3
   (first | rw [c3b0] | (simp only [i64_w, i32_w]; rw [c3b0]) | skip)
   have H' := Aside0.mk H
   clear H
   go_wp2
   go_meet
   case rel => exact ⟨_, (true), (by first | rfl | (simp; done) | (simp [*]; done)), H', ⟨by first | omega | exact Nat.le_refl _⟩, by repeat (first | exact Drawn0.refl _ | apply Drawn0.step)⟩
  ·rw [if_neg c3] at H
   have c3b0 : (a0.toList == ([] : List UInt8)) = false := beq_eq_false_iff_ne.mpr c3
   have c3b1 : (a0.toList != ([] : List UInt8)) = true := bne_iff_ne.mpr c3
   (first | rw [c3b0] | (simp only [i64_w, i32_w]; rw [c3b0]) | skip)
   by_cases c4 : (a0.size : Int) > 30
   ·rw [if_pos c4] at H
    have c4b0 : decide (30 < (a0.size : Int)) = true := decide_eq_true c4
    have c4b1 : decide (30 < a0.size) = true := decide_eq_true (by omega)
    clear c4
    have H' := Aside0.mk H
    clear H
    go_wp2
    go_meet
    case rel => exact ⟨_, (true), (by first | rfl | (simp; done) | (simp [*]; done)), H', ⟨by first | omega | exact Nat.le_refl _⟩, by repeat (first | exact Drawn0.refl _ | apply Drawn0.step)⟩
   ·rw [if_neg c4] at H
    have c4b0 : decide (30 < (a0.size : Int)) = false := decide_eq_false c4
    have c4b1 : decide (30 < a0.size) = false := decide_eq_false (by omega)
    clear c4
    by_cases c5 : 1 + a0.size ≤ 9223372036854775807
    ·rw [if_pos c5] at H
     have c5b0 := eq_true c5
     have c5b1 : decide (1 + a0.size ≤ 9223372036854775807) = true := decide_eq_true c5
     try have c5b2 : (9223372036854775807 < 1 + a0.size) = False := eq_false (Nat.not_lt.2 c5)
     try (have c5b3 := c5b2; simp only [ByteArray.size_append] at c5b3)
     try (have c5b6 := c5b2; simp only [ByteArray.size_append, x7_sz_lit1] at c5b6)
     by_cases c6 : ((⟨#[32]⟩ : ByteArray) ++ a0).size + 1 ≤ 9223372036854775807
     ·rw [if_pos c6] at H
      have c6b0 := eq_true c6
      have c6b1 : decide (((⟨#[32]⟩ : ByteArray) ++ a0).size + 1 ≤ 9223372036854775807) = true := decide_eq_true c6
      try have c6b2 : (9223372036854775807 < ((⟨#[32]⟩ : ByteArray) ++ a0).size + 1) = False := eq_false (Nat.not_lt.2 c6)
      try (have c6b3 := c6b2; simp only [ByteArray.size_append] at c6b3)
      try (have c6b6 := c6b2; simp only [ByteArray.size_append, x7_sz_lit1] at c6b6)
      replace H := Option.bind_eq_some_iff.mp H
      obtain ⟨t693, A70, H⟩ := H
      replace H : (impl_kIsName.j0 k a0 t693) = some r := H
      have A7 := Aside0.mk A70
      clear A70
      have H' := Aside0.mk H
      clear H
      go_wp2_with (first | (go_at_call 69; (with_reducible refine (strings_Contains.calls (⟨#[32, 97, 108, 108, 32, 97, 110, 100, 32, 97, 115, 32, 97, 115, 99, 32, 98, 101, 103, 105, 110, 32, 98, 101, 116, 119, 101, 101, 110, 32, 98, 121, 32, 99, 97, 115, 101, 32, 99, 97, 115, 116, 32, 99, 111, 109, 109, 105, 116, 32, 99, 114, 101, 97, 116, 101, 32, 99, 114, 111, 115, 115, 32, 100, 97, 121, 32, 100, 101, 108, 101, 116, 101, 32, 100, 101, 115, 99, 32, 100, 105, 115, 116, 105, 110, 99, 116, 32, 100, 114, 111, 112, 32, 101, 108, 115, 101, 32, 101, 110, 100, 32, 101, 120, 99, 101, 112, 116, 32, 101, 120, 105, 115, 116, 115, 32, 101, 120, 112, 108, 97, 105, 110, 32, 102, 97, 108, 115, 101, 32, 102, 114, 111, 109, 32, 103, 114, 111, 117, 112, 32, 104, 97, 118, 105, 110, 103, 32, 105, 110, 32, 105, 110, 100, 101, 120, 32, 105, 110, 115, 101, 114, 116, 32, 105, 110, 116, 101, 114, 115, 101, 99, 116, 32, 105, 110, 116, 111, 32, 105, 115, 32, 106, 111, 105, 110, 32, 107, 101, 121, 32, 108, 101, 102, 116, 32, 108, 105, 109, 105, 116, 32, 110, 111, 116, 32, 110, 117, 108, 108, 32, 111, 110, 32, 111, 114, 32, 111, 114, 100, 101, 114, 32, 111, 118, 101, 114, 32, 112, 97, 114, 116, 105, 116, 105, 111, 110, 32, 112, 114, 105, 109, 97, 114, 121, 32, 114, 101, 99, 117, 114, 115, 105, 118, 101, 32, 114, 111, 108, 108, 98, 97, 99, 107, 32, 115, 101, 108, 101, 99, 116, 32, 115, 101, 116, 32, 116, 97, 98, 108, 101, 32, 116, 104, 101, 110, 32, 116, 114, 117, 101, 32, 117, 110, 105, 111, 110, 32, 117, 110, 105, 113, 117, 101, 32, 117, 112, 100, 97, 116, 101, 32, 118, 97, 108, 117, 101, 115, 32, 118, 105, 101, 119, 32, 119, 104, 101, 110, 32, 119, 104, 101, 114, 101, 32, 119, 105, 116, 104, 32, 97, 108, 116, 101, 114, 32, 97, 100, 100, 32, 99, 111, 108, 117, 109, 110, 32, 108, 101, 118, 101, 108, 32, 115, 101, 114, 105, 97, 108, 32, 115, 110, 97, 112, 115, 104, 111, 116, 32, 108, 97, 116, 101, 115, 116, 32]⟩ : ByteArray) (((⟨#[32]⟩ : ByteArray) ++ a0) ++ (⟨#[32]⟩ : ByteArray)) t693 _ A7.out).mono ?_); rintro e w' ⟨rfl, ⟨nd, rfl⟩⟩))
      go_meet
      case rel => exact ⟨_, (t693), (by first | rfl | (simp; done) | (simp [*]; done)), H', ⟨by first | omega | exact Nat.le_refl _⟩, by repeat (first | exact Drawn0.refl _ | apply Drawn0.step)⟩
     ·rw [if_neg c6] at H
      cases H
    ·rw [if_neg c5] at H
     cases H
 case rest =>
  clear HC2
  obtain ⟨kq, x17_1, rfl, HA, HJ1, ⟨mc1, rfl⟩⟩ := hcut
  cases kq with
  | zero => exact absurd HA.out (by simp [impl_kIsName.j0])
  | succ kj1 =>
   have H := HA.out
   clear HA
   simp only [impl_kIsName.j0] at H
   by_cases c8 : x17_1 = true
   ·subst c8
    have H1 : (some false) = some r := by rw [if_pos rfl] at H; exact H
    clear H
    have H := H1
    clear H1
    obtain rfl := Option.some.inj H
    go_wp2
    go_ret
    exact ⟨by first | rfl | (simp; done) | (simp [*]; done), by repeat (first | exact Drawn0.refl _ | apply Drawn0.step)⟩
   ·replace c8 := Bool.eq_false_iff.mpr c8
    subst c8
    have H1 : (impl_kIsName.l0 kj1 a0 (a0.size : Int) 0) = some r := by rw [if_neg (show ¬ (false = true) by decide)] at H; exact H
    clear H
    have H := H1
    clear H1
    have H' := Aside0.mk H
    clear H
    go_wp2
    go_loopg [20] kj1 (fun kq v20 w' => ∃ (x20_2 : Int), v20 = .int .i64 x20_2 ∧ Aside0 (impl_kIsName.l0 kq a0 (a0.size : Int) x20_2 = some r) ∧ Aside0 (kq ≤ kj1) ∧ Drawn0 w w')
    case atStart => exact ⟨(0), (by first | rfl | (simp; done) | (simp [*]; done)), H', ⟨Nat.le_refl _⟩, by repeat (first | exact Drawn0.refl _ | apply Drawn0.step)⟩
    case round =>
     clear H'
     try clear c8
     obtain ⟨x20_2, rfl, HA, HK2, ⟨m2, rfl⟩⟩ := hrel
     cases gk with
     | zero => exact absurd HA.out (by simp [impl_kIsName.l0])
     | succ k2 =>
      have H := HA.out
      clear HA
      simp only [impl_kIsName.l0] at H
      by_cases c9 : x20_2 < (a0.size : Int)
      ·rw [if_pos c9] at H
       have c9b0 : decide (x20_2 < (a0.size : Int)) = true := decide_eq_true c9
       clear c9
       by_cases c10 : 0 ≤ x20_2
       ·rw [if_pos c10] at H
        have c10b0 : decide (0 ≤ x20_2) = true := decide_eq_true c10
        clear c10
        by_cases c11 : x20_2 < (a0.size : Int)
        ·rw [if_pos c11] at H
         have c11b0 : decide (x20_2 < (a0.size : Int)) = true := decide_eq_true c11
         clear c11
         by_cases c13 : (bt a0 x20_2) ≥ 97
         ·rw [if_pos c13] at H
          have c13b0 : decide (97 ≤ (bt a0 x20_2)) = true := decide_eq_true c13
          clear c13
          by_cases c14 : (bt a0 x20_2) ≤ 122
          ·rw [if_pos c14] at H
           have c14b0 : decide ((bt a0 x20_2) ≤ 122) = true := decide_eq_true c14
           clear c14
           have H' := Aside0.mk H
           clear H
           have p12 : 0 ≤ (x20_2 : Int) := of_decide_eq_true (by first | (with_reducible assumption) | assumption)
           have q12 : x20_2 < (a0.size : Int) := of_decide_eq_true (by first | (with_reducible assumption) | assumption)
           have hx12 := bt_at a0 x20_2
           replace p12 := eq_true p12
           replace q12 := eq_true q12
           go_wp2
           go_roundg k2
           case measure => have := HJ1.out; have := HK2.out; omega
           case rel => exact ⟨(wrap64 (x20_2 + 1)), (by first | rfl | (simp; done) | (simp [*]; done)), H', ⟨by have := HJ1.out; have := HK2.out; omega⟩, by repeat (first | exact Drawn0.refl _ | apply Drawn0.step)⟩
          ·rw [if_neg c14] at H
           have c14b0 : decide ((bt a0 x20_2) ≤ 122) = false := decide_eq_false c14
           clear c14
           by_cases c15 : (bt a0 x20_2) = 95
           ·rw [if_pos c15] at H
            have c15b0 : ((bt a0 x20_2) == 95) = true := beq_iff_eq.mpr c15
            have c15b1 : ((bt a0 x20_2) != 95) = false := bne_eq_false_iff_eq.mpr c15
            clear c15
            have H' := Aside0.mk H
            clear H
            have p12 : 0 ≤ (x20_2 : Int) := of_decide_eq_true (by first | (with_reducible assumption) | assumption)
            have q12 : x20_2 < (a0.size : Int) := of_decide_eq_true (by first | (with_reducible assumption) | assumption)
            have hx12 := bt_at a0 x20_2
            replace p12 := eq_true p12
            replace q12 := eq_true q12
            go_wp2
            go_roundg k2
            case measure => have := HJ1.out; have := HK2.out; omega
            case rel => exact ⟨(wrap64 (x20_2 + 1)), (by first | rfl | (simp; done) | (simp [*]; done)), H', ⟨by have := HJ1.out; have := HK2.out; omega⟩, by repeat (first | exact Drawn0.refl _ | apply Drawn0.step)⟩
           ·rw [if_neg c15] at H
            have c15b0 : ((bt a0 x20_2) == 95) = false := beq_eq_false_iff_ne.mpr c15
            have c15b1 : ((bt a0 x20_2) != 95) = true := bne_iff_ne.mpr c15
            by_cases c16 : x20_2 > 0
            ·rw [if_pos c16] at H
             have c16b0 : decide (0 < x20_2) = true := decide_eq_true c16
             clear c16
             by_cases c17 : (bt a0 x20_2) ≥ 48
             ·rw [if_pos c17] at H
              have c17b0 : decide (48 ≤ (bt a0 x20_2)) = true := decide_eq_true c17
              clear c17
              by_cases c18 : ((bt a0 x20_2) ≤ 57)
              ·rw [if_pos c18] at H
               have c18b0 : decide ((bt a0 x20_2) ≤ 57) = true := decide_eq_true c18
               clear c18
               have H' := Aside0.mk H
               clear H
               have p12 : 0 ≤ (x20_2 : Int) := of_decide_eq_true (by first | (with_reducible assumption) | assumption)
               have q12 : x20_2 < (a0.size : Int) := of_decide_eq_true (by first | (with_reducible assumption) | assumption)
               have hx12 := bt_at a0 x20_2
               replace p12 := eq_true p12
               replace q12 := eq_true q12
               go_wp2
               go_roundg k2
               case measure => have := HJ1.out; have := HK2.out; omega
               case rel => exact ⟨(wrap64 (x20_2 + 1)), (by first | rfl | (simp; done) | (simp [*]; done)), H', ⟨by have := HJ1.out; have := HK2.out; omega⟩, by repeat (first | exact Drawn0.refl _ | apply Drawn0.step)⟩
              ·rw [if_neg c18] at H
               have c18b0 : decide ((bt a0 x20_2) ≤ 57) = false := decide_eq_false c18
               clear c18
               obtain rfl := Option.some.inj H
               have p12 : 0 ≤ (x20_2 : Int) := of_decide_eq_true (by first | (with_reducible assumption) | assumption)
               have q12 : x20_2 < (a0.size : Int) := of_decide_eq_true (by first | (with_reducible assumption) | assumption)
               have hx12 := bt_at a0 x20_2
               replace p12 := eq_true p12
               replace q12 := eq_true q12
               go_wp2
               go_ret
               exact ⟨by first | rfl | (simp; done) | (simp [*]; done), by repeat (first | exact Drawn0.refl _ | apply Drawn0.step)⟩
             ·rw [if_neg c17] at H
              have c17b0 : decide (48 ≤ (bt a0 x20_2)) = false := decide_eq_false c17
              clear c17
              obtain rfl := Option.some.inj H
              have p12 : 0 ≤ (x20_2 : Int) := of_decide_eq_true (by first | (with_reducible assumption) | assumption)
              have q12 : x20_2 < (a0.size : Int) := of_decide_eq_true (by first | (with_reducible assumption) | assumption)
              have hx12 := bt_at a0 x20_2
              replace p12 := eq_true p12
              replace q12 := eq_true q12
              go_wp2
              go_ret
              exact ⟨by first | rfl | (simp; done) | (simp [*]; done), by repeat (first | exact Drawn0.refl _ | apply Drawn0.step)⟩
            ·rw [if_neg c16] at H
             have c16b0 : decide (0 < x20_2) = false := decide_eq_false c16
             clear c16
             obtain rfl := Option.some.inj H
             have p12 : 0 ≤ (x20_2 : Int) := of_decide_eq_true (by first | (with_reducible assumption) | assumption)
             have q12 : x20_2 < (a0.size : Int) := of_decide_eq_true (by first | (with_reducible assumption) | assumption)
             have hx12 := bt_at a0 x20_2
             replace p12 := eq_true p12
             replace q12 := eq_true q12
             go_wp2
             go_ret
             exact ⟨by first | rfl | (simp; done) | (simp [*]; done), by repeat (first | exact Drawn0.refl _ | apply Drawn0.step)⟩
         ·rw [if_neg c13] at H
          have c13b0 : decide (97 ≤ (bt a0 x20_2)) = false := decide_eq_false c13
          clear c13
          by_cases c19 : (bt a0 x20_2) = 95
          ·rw [if_pos c19] at H
           have c19b0 : ((bt a0 x20_2) == 95) = true := beq_iff_eq.mpr c19
           have c19b1 : ((bt a0 x20_2) != 95) = false := bne_eq_false_iff_eq.mpr c19
           clear c19
           have H' := Aside0.mk H
           clear H
           have p12 : 0 ≤ (x20_2 : Int) := of_decide_eq_true (by first | (with_reducible assumption) | assumption)
           have q12 : x20_2 < (a0.size : Int) := of_decide_eq_true (by first | (with_reducible assumption) | assumption)
           have hx12 := bt_at a0 x20_2
           replace p12 := eq_true p12
           replace q12 := eq_true q12
           go_wp2
           go_roundg k2
           case measure => have := HJ1.out; have := HK2.out; omega
           case rel => exact ⟨(wrap64 (x20_2 + 1)), (by first | rfl | (simp; done) | (simp [*]; done)), H', ⟨by have := HJ1.out; have := HK2.out; omega⟩, by repeat (first | exact Drawn0.refl _ | apply Drawn0.step)⟩
          ·rw [if_neg c19] at H
           have c19b0 : ((bt a0 x20_2) == 95) = false := beq_eq_false_iff_ne.mpr c19
           have c19b1 : ((bt a0 x20_2) != 95) = true := bne_iff_ne.mpr c19
           by_cases c20 : x20_2 > 0
           ·rw [if_pos c20] at H
            have c20b0 : decide (0 < x20_2) = true := decide_eq_true c20
            clear c20
            by_cases c21 : (bt a0 x20_2) ≥ 48
            ·rw [if_pos c21] at H
             have c21b0 : decide (48 ≤ (bt a0 x20_2)) = true := decide_eq_true c21
             clear c21
             by_cases c22 : ((bt a0 x20_2) ≤ 57)
             ·rw [if_pos c22] at H
              have c22b0 : decide ((bt a0 x20_2) ≤ 57) = true := decide_eq_true c22
              clear c22
              have H' := Aside0.mk H
              clear H
              have p12 : 0 ≤ (x20_2 : Int) := of_decide_eq_true (by first | (with_reducible assumption) | assumption)
              have q12 : x20_2 < (a0.size : Int) := of_decide_eq_true (by first | (with_reducible assumption) | assumption)
              have hx12 := bt_at a0 x20_2
              replace p12 := eq_true p12
              replace q12 := eq_true q12
              go_wp2
              go_roundg k2
              case measure => have := HJ1.out; have := HK2.out; omega
              case rel => exact ⟨(wrap64 (x20_2 + 1)), (by first | rfl | (simp; done) | (simp [*]; done)), H', ⟨by have := HJ1.out; have := HK2.out; omega⟩, by repeat (first | exact Drawn0.refl _ | apply Drawn0.step)⟩
             ·rw [if_neg c22] at H
              have c22b0 : decide ((bt a0 x20_2) ≤ 57) = false := decide_eq_false c22
              clear c22
              obtain rfl := Option.some.inj H
              have p12 : 0 ≤ (x20_2 : Int) := of_decide_eq_true (by first | (with_reducible assumption) | assumption)
              have q12 : x20_2 < (a0.size : Int) := of_decide_eq_true (by first | (with_reducible assumption) | assumption)
              have hx12 := bt_at a0 x20_2
              replace p12 := eq_true p12
              replace q12 := eq_true q12
              go_wp2
              go_ret
              exact ⟨by first | rfl | (simp; done) | (simp [*]; done), by repeat (first | exact Drawn0.refl _ | apply Drawn0.step)⟩
            ·rw [if_neg c21] at H
             have c21b0 : decide (48 ≤ (bt a0 x20_2)) = false := decide_eq_false c21
             clear c21
             obtain rfl := Option.some.inj H
             have p12 : 0 ≤ (x20_2 : Int) := of_decide_eq_true (by first | (with_reducible assumption) | assumption)
             have q12 : x20_2 < (a0.size : Int) := of_decide_eq_true (by first | (with_reducible assumption) | assumption)
             have hx12 := bt_at a0 x20_2
             replace p12 := eq_true p12
             replace q12 := eq_true q12
             go_wp2
             go_ret
             exact ⟨by first | rfl | (simp; done) | (simp [*]; done), by repeat (first | exact Drawn0.refl _ | apply Drawn0.step)⟩
           ·rw [if_neg c20] at H
            have c20b0 : decide (0 < x20_2) = false := decide_eq_false c20
            clear c20
            obtain rfl := Option.some.inj H
            have p12 : 0 ≤ (x20_2 : Int) := of_decide_eq_true (by first | (with_reducible assumption) | assumption)
            have q12 : x20_2 < (a0.size : Int) := of_decide_eq_true (by first | (with_reducible assumption) | assumption)
            have hx12 := bt_at a0 x20_2
            replace p12 := eq_true p12
            replace q12 := eq_true q12
            go_wp2
            go_ret
            exact ⟨by first | rfl | (simp; done) | (simp [*]; done), by repeat (first | exact Drawn0.refl _ | apply Drawn0.step)⟩
        ·rw [if_neg c11] at H
         cases H
       ·rw [if_neg c10] at H
        cases H
      ·rw [if_neg c9] at H
       have c9b0 : decide (x20_2 < (a0.size : Int)) = false := decide_eq_false c9
       clear c9
       obtain rfl := Option.some.inj H
       go_wp2
       go_ret
       exact ⟨by first | rfl | (simp; done) | (simp [*]; done), by repeat (first | exact Drawn0.refl _ | apply Drawn0.step)⟩

end Go.Proofs.Ytiolnbhcmoafjaa.QFnExactTableOK
