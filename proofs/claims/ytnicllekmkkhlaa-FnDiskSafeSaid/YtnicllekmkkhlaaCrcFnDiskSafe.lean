/- The checksum: the reference's and the program's loops come to the same number below 2^32, whatever the text. No condition but that the text's size is an int. -/
import Derived.Test.YtnicllekmkkhlaaQFnDiskSafex7
import Derived.Test.YtnicllekmkkhlaaQFnDiskSafex11
import Derived.Laws.BitsAllLaws
namespace Go.Proofs.Ytnicllekmkkhlaa.QFnDiskSafeC
set_option linter.unusedVariables false
set_option linter.unusedSimpArgs false
open Go.RowKit Go.Proofs.Ytnicllekmkkhlaa.QFnDiskSafe Go.Proofs.YtnicllekmkkhlaaW.PrintWords
theorem wrap_in (x : Int) (h0 : -9223372036854775808 ≤ x) (h1 : x ≤ 9223372036854775807) : wrap64 x = x := by
  unfold wrap64
  omega
theorem ofInt_64 (a : Nat) (ha : a < 18446744073709551616) : (BitVec.ofInt 64 (a : Int)).toNat = a := by
  rw [BitVec.ofInt_natCast, BitVec.toNat_ofNat]; exact Nat.mod_eq_of_lt (by omega)
theorem wrap_nat (n : Nat) (h : n < 9223372036854775808) : IntKind.i64.wrap (n : Int) = n := by
  exact IntWalk.i64_in _ (by omega)
theorem i64_xor (a b : Nat) (ha : a < 9223372036854775808) (hb : b < 9223372036854775808) : Go.bits .xor .i64 (a : Int) (b : Int) = ((a ^^^ b : Nat) : Int) := by
  have hx : a ^^^ b < 2 ^ 63 := Nat.xor_lt_two_pow (by omega) (by omega)
  show IntKind.i64.wrap ((BitVec.ofInt 64 (a : Int) ^^^ BitVec.ofInt 64 (b : Int)).toNat : Int) = _
  rw [BitVec.toNat_xor, ofInt_64 a (by omega), ofInt_64 b (by omega)]
  exact wrap_nat _ (by omega)
theorem i64_and1 (a : Nat) (ha : a < 9223372036854775808) : Go.bits .and .i64 (a : Int) 1 = ((a % 2 : Nat) : Int) := by
  have hx : a &&& 1 = a % 2 := Nat.and_two_pow_sub_one_eq_mod a 1
  show IntKind.i64.wrap ((BitVec.ofInt 64 (a : Int) &&& BitVec.ofInt 64 ((1 : Nat) : Int)).toNat : Int) = _
  rw [BitVec.toNat_and, ofInt_64 a (by omega), ofInt_64 1 (by omega), hx]
  exact wrap_nat _ (by omega)
/-- One bit's turn. -/
def st (c : Nat) : Nat := if c % 2 = 1 then (c / 2) ^^^ 3988292384 else c / 2
theorem xor_lt (a b : Nat) (ha : a < 4294967296) (hb : b < 4294967296) : a ^^^ b < 4294967296 := by
  have : a ^^^ b < 2 ^ 32 := Nat.xor_lt_two_pow (by omega) (by omega)
  omega
theorem st_lt (c : Nat) (h : c < 4294967296) : st c < 4294967296 := by
  unfold st
  split
  · exact xor_lt _ _ (by omega) (by omega)
  · omega
theorem half_xor (a b : Nat) : (a ^^^ b) / 2 = a / 2 ^^^ b / 2 := by
  have h := Nat.shiftRight_xor_distrib (a := a) (b := b) (i := 1)
  simpa [Nat.shiftRight_succ, Nat.shiftRight_zero] using h
theorem st_xor (r b : Nat) : st (r ^^^ b) = (if (r ^^^ b) % 2 = 1 then (r / 2) ^^^ 3988292384 else r / 2) ^^^ (b / 2) := by
  unfold st
  rw [half_xor]
  split
  · rw [Nat.xor_assoc, Nat.xor_comm (b / 2), ← Nat.xor_assoc]
  · rfl
def sts : Nat → Nat → Nat
  | 0, c => c
  | n + 1, c => sts n (st c)
theorem sts_lt : ∀ (n c : Nat), c < 4294967296 → sts n c < 4294967296
  | 0, c, h => h
  | n + 1, c, h => sts_lt n (st c) (st_lt c h)
theorem spec_byte (s : ByteArray) (i : Int) (h0 : 0 ≤ i) (h1 : i < 9223372036854775807) (v : Int) (d : Nat) : ∀ (r b : Nat), d ≤ 8 → r < 4294967296 → b < 2 ^ d →
    Ev (fun k => spec_Crc.l0 k s ((sts d (r ^^^ b) : Nat) : Int) (i + 1)) v → Ev (fun k => spec_Crc.l1 k s (r : Int) i (b : Int) (8 - d)) v := by
  induction d with
  | zero =>
    intro r b _ hr hb hv
    obtain rfl : b = 0 := by simpa using hb
    refine Ev.step (f := fun k => spec_Crc.l0 k s (r : Int) (i + 1)) (fun k => ?_) (by simpa [sts] using hv)
    simp only [spec_Crc.l1]
    rw [if_neg (by omega), wrap_in _ (by omega) (by omega)]
  | succ d ih =>
    intro r b hd hr hb hv
    have hp : 2 ^ (d + 1) ≤ 2 ^ 8 := Nat.pow_le_pow_right (by omega) hd
    have hp2 : 2 ^ (d + 1) = 2 * 2 ^ d := by rw [Nat.pow_succ]; omega
    have hx : r ^^^ b < 4294967296 := xor_lt _ _ hr (by omega)
    have hc : Go.bits .and .i64 (Go.bits .xor .i64 (r : Int) (b : Int)) 1 = (((r ^^^ b) % 2 : Nat) : Int) := by
      rw [i64_xor r b (by omega) (by omega), i64_and1 _ (by omega)]
    have hj : wrap64 ((8 : Int) - ((d + 1 : Nat) : Int) + 1) = 8 - (d : Int) := by rw [wrap_in _ (by omega) (by omega)]; omega
    have hst : sts (d + 1) (r ^^^ b) = sts d ((if (r ^^^ b) % 2 = 1 then (r / 2) ^^^ 3988292384 else r / 2) ^^^ (b / 2)) := by rw [sts, st_xor]
    by_cases hbit : (r ^^^ b) % 2 = 1
    · refine Ev.step (f := fun k => spec_Crc.l1 k s (((r / 2) ^^^ 3988292384 : Nat) : Int) i ((b / 2 : Nat) : Int) (8 - d)) (fun k => ?_) ?_
      · simp only [spec_Crc.l1]
        rw [if_pos (by omega), hc, if_pos (by omega), hj, show ((r : Int) / 2) = ((r / 2 : Nat) : Int) by omega, show ((b : Int) / 2) = ((b / 2 : Nat) : Int) by omega]
        rw [show (3988292384 : Int) = ((3988292384 : Nat) : Int) from rfl, i64_xor _ _ (by omega) (by omega)]
      · exact ih _ _ (by omega) (xor_lt _ _ (by omega) (by omega)) (by omega) (by rw [hst, if_pos hbit] at hv; exact hv)
    · refine Ev.step (f := fun k => spec_Crc.l1 k s ((r / 2 : Nat) : Int) i ((b / 2 : Nat) : Int) (8 - d)) (fun k => ?_) ?_
      · simp only [spec_Crc.l1]
        rw [if_pos (by omega), hc, if_neg (by omega), hj, show ((r : Int) / 2) = ((r / 2 : Nat) : Int) by omega, show ((b : Int) / 2) = ((b / 2 : Nat) : Int) by omega]
      · exact ih _ _ (by omega) (by omega) (by omega) (by rw [hst, if_neg hbit] at hv; exact hv)
theorem impl_byte (s : ByteArray) (i : Int) (h0 : 0 ≤ i) (h1 : i < 9223372036854775807) (v : Int) (d : Nat) : ∀ (c : Nat), d ≤ 8 → c < 4294967296 →
    Ev (fun k => impl_Crc.l0 k s ((sts d c : Nat) : Int) (i + 1)) v → Ev (fun k => impl_Crc.l1 k s (c : Int) i (8 - d)) v := by
  induction d with
  | zero =>
    intro c _ hc hv
    refine Ev.step (f := fun k => impl_Crc.l0 k s (c : Int) (i + 1)) (fun k => ?_) (by simpa [sts] using hv)
    simp only [impl_Crc.l1]
    rw [if_neg (by omega), wrap_in _ (by omega) (by omega)]
  | succ d ih =>
    intro c hd hc hv
    have hj : wrap64 ((8 : Int) - ((d + 1 : Nat) : Int) + 1) = 8 - (d : Int) := by rw [wrap_in _ (by omega) (by omega)]; omega
    have ha : Go.bits .and .u32 (c : Int) 1 = ((c % 2 : Nat) : Int) := by
      have := u32_and_nat c 1 (by omega) (by omega)
      rw [show c &&& 1 = c % 2 from Nat.and_two_pow_sub_one_eq_mod c 1] at this
      exact this
    refine Ev.step (f := fun k => impl_Crc.l1 k s ((st c : Nat) : Int) i (8 - d)) (fun k => ?_) (ih _ (by omega) (st_lt c hc) hv)
    simp only [impl_Crc.l1]
    rw [if_pos (by omega), hj, ha, show ((c : Int) / 2) = ((c / 2 : Nat) : Int) by omega]
    unfold st
    by_cases hbit : c % 2 = 1
    · rw [if_pos hbit, hbit, show (3988292384 * ((1 : Nat) : Int)) % 4294967296 = ((3988292384 : Nat) : Int) from rfl, u32_xor_nat _ _ (by omega) (by omega)]
    · rw [if_neg hbit, show c % 2 = 0 by omega, show (3988292384 * ((0 : Nat) : Int)) % 4294967296 = ((0 : Nat) : Int) from rfl, u32_xor_nat _ _ (by omega) (by omega), Nat.xor_zero]
theorem crc_from (s : ByteArray) (hs : s.size ≤ 9223372036854775807) (d : Nat) : ∀ (r : Nat) (i : Int), r < 4294967296 → 0 ≤ i → i ≤ s.size → (s.size : Int) - i = d →
    ∃ v : Nat, v < 4294967296 ∧ Ev (fun k => spec_Crc.l0 k s (r : Int) i) (v : Int) ∧ Ev (fun k => impl_Crc.l0 k s (r : Int) i) (v : Int) := by
  induction d with
  | zero =>
    intro r i hr h0 h1 hd
    refine ⟨r ^^^ 4294967295, xor_lt _ _ hr (by omega), ?_, ?_⟩
    · refine Ev.step (f := fun _ => some ((r ^^^ 4294967295 : Nat) : Int)) (fun k => ?_) (Ev.now _)
      simp only [spec_Crc.l0]
      rw [if_neg (by omega), show (4294967295 : Int) = ((4294967295 : Nat) : Int) from rfl, i64_xor _ _ (by omega) (by omega)]
    · refine Ev.step (f := fun _ => some ((r ^^^ 4294967295 : Nat) : Int)) (fun k => ?_) (Ev.now _)
      simp only [impl_Crc.l0]
      rw [if_neg (by omega), show IntKind.u32.max = ((4294967295 : Nat) : Int) from rfl, u32_xor_nat _ _ (by omega) (by omega), Nat.xor_comm]
      have := xor_lt r 4294967295 hr (by omega)
      rw [wrap_in _ (by omega) (by omega)]
  | succ d ih =>
    intro r i hr h0 h1 hd
    obtain ⟨hb0, hb1⟩ := bt_range s i
    obtain ⟨b, hb⟩ := Int.eq_ofNat_of_zero_le hb0
    have hx : r ^^^ b < 4294967296 := xor_lt _ _ hr (by omega)
    obtain ⟨v, hv, h2, h3⟩ := ih (sts 8 (r ^^^ b)) (i + 1) (sts_lt 8 _ hx) (by omega) (by omega) (by omega)
    refine ⟨v, hv, ?_, ?_⟩
    · refine Ev.step (f := fun k => spec_Crc.l1 k s (r : Int) i (b : Int) (8 - (8 : Nat))) (fun k => ?_) (spec_byte s i h0 (by omega) v 8 r b (by omega) hr (by omega) h2)
      simp only [spec_Crc.l0]
      rw [if_pos (by omega), if_pos h0, hb, wrap_in _ (by omega) (by omega)]
      rfl
    · refine Ev.step (f := fun k => impl_Crc.l1 k s ((r ^^^ b : Nat) : Int) i (8 - (8 : Nat))) (fun k => ?_) (impl_byte s i h0 (by omega) v 8 _ (by omega) hx h3)
      simp only [impl_Crc.l0]
      rw [if_pos (by omega), if_pos h0, hb, show ((b : Int) % 4294967296) = (b : Int) by omega, u32_xor_nat _ _ (by omega) (by omega)]
      rfl
theorem crc_alike (s : ByteArray) (hs : s.size ≤ 9223372036854775807) : ∃ v : Nat, v < 4294967296 ∧ Ev (fun k => spec_Crc.f k s) (v : Int) ∧ Ev (fun k => impl_Crc.f k s) (v : Int) :=
  crc_from s hs s.size 4294967295 0 (by omega) (by omega) (by omega) (by omega)
end Go.Proofs.Ytnicllekmkkhlaa.QFnDiskSafeC
