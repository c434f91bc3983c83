/- The filter's hash: the reference's loop and the program's come to the same number below 2^32, whatever the text. No condition but that the text's size is an int. -/
import Derived.Test.YtnicllekmkkhlaaQFnExactFilterMakex2
import Derived.Test.YtnicllekmkkhlaaUtil
import Derived.Laws.BitsAllLaws
namespace Go.Proofs.Ytnicllekmkkhlaa.QFnExactFilterMakeH
set_option linter.unusedVariables false
set_option linter.unusedSimpArgs false
open Go.RowKit Go.Proofs.Ytnicllekmkkhlaa.QFnExactFilterMake Go.Proofs.YtnicllekmkkhlaaW.PrintWords Go.Proofs.YtnicllekmkkhlaaW.PrintMore Go.Proofs.YtnicllekmkkhlaaU
theorem w_in (x : Int) (h0 : -9223372036854775808 ≤ x) (h1 : x ≤ 9223372036854775807) : wrap64 x = x := Go.Proofs.YtnicllekmkkhlaaU.wrap_in x h0 h1
theorem ofInt_64 (a : Nat) (ha : a < 18446744073709551616) : (BitVec.ofInt 64 (a : Int)).toNat = a := by
  rw [BitVec.ofInt_natCast, BitVec.toNat_ofNat]; exact Nat.mod_eq_of_lt (by omega)
theorem i64_xor (a b : Nat) (ha : a < 9223372036854775808) (hb : b < 9223372036854775808) : Go.bits .xor .i64 (a : Int) (b : Int) = ((a ^^^ b : Nat) : Int) := by
  have hx : a ^^^ b < 2 ^ 63 := Nat.xor_lt_two_pow (by omega) (by omega)
  show IntKind.i64.wrap ((BitVec.ofInt 64 (a : Int) ^^^ BitVec.ofInt 64 (b : Int)).toNat : Int) = _
  rw [BitVec.toNat_xor, ofInt_64 a (by omega), ofInt_64 b (by omega)]
  exact IntWalk.i64_in _ (by omega)
theorem xor_lt (a b : Nat) (ha : a < 4294967296) (hb : b < 4294967296) : a ^^^ b < 4294967296 := by
  have : a ^^^ b < 2 ^ 32 := Nat.xor_lt_two_pow (by omega) (by omega)
  omega
theorem hash_from (s : ByteArray) (hs : s.size ≤ 9223372036854775807) (d : Nat) : ∀ (r : Nat) (i : Int), r < 4294967296 → 0 ≤ i → i ≤ s.size → (s.size : Int) - i = d →
    ∃ v : Nat, v < 4294967296 ∧ Ev (fun k => spec_l03Hash.l0 k s (r : Int) i) ((v : Int) % 65536, (v : Int) / 65536 + 1) ∧ Ev (fun k => impl_FilterMake.pl_l0 k s (r : Int) i) (v : Int) := by
  induction d with
  | zero =>
    intro r i hr h0 h1 hd
    refine ⟨r, hr, Ev.succ ?_, Ev.succ ?_⟩
    · simp only [spec_l03Hash.l0]
      refine Ev.neg (by omega) (Ev.some' ?_)
      rw [Int.tmod_eq_emod_of_nonneg (by omega), Int.tdiv_eq_ediv_of_nonneg (by omega), w_in ((r : Int) / 65536) (by omega) (by omega), w_in _ (by omega) (by omega)]
    · simp only [impl_FilterMake.pl_l0]
      exact Ev.neg (by omega) (Ev.some' rfl)
  | succ d ih =>
    intro r i hr h0 h1 hd
    obtain ⟨hb0, hb1⟩ := bt_range s i
    obtain ⟨b, hb⟩ := Int.eq_ofNat_of_zero_le hb0
    have hx : r ^^^ b < 4294967296 := xor_lt _ _ hr (by omega)
    obtain ⟨v, hv, h2, h3⟩ := ih ((r ^^^ b) * 16777619 % 4294967296) (i + 1) (by omega) (by omega) (by omega) (by omega)
    have e : (((r ^^^ b) * 16777619 % 4294967296 : Nat) : Int) = (((r ^^^ b : Nat) : Int) * 16777619) % 4294967296 := by omega
    refine ⟨v, hv, Ev.succ ?_, Ev.succ ?_⟩
    · simp only [spec_l03Hash.l0]
      refine Ev.pos (by omega) (Ev.pos h0 ?_)
      rw [hb, w_in (b : Int) (by omega) (by omega), i64_xor _ _ (by omega) (by omega), w_in _ (by omega) (by omega), Int.tmod_eq_emod_of_nonneg (by omega), w_in (i + 1) (by omega) (by omega), ← e]
      exact h2
    · simp only [impl_FilterMake.pl_l0]
      refine Ev.pos (by omega) (Ev.pos h0 ?_)
      rw [hb, show IntKind.u32.wrap ((b : Nat) : Int) = ((b : Nat) : Int) from (by show ((b : Nat) : Int) % 4294967296 = _; omega), u32_xor_nat _ _ (by omega) (by omega), w_in (i + 1) (by omega) (by omega), show ∀ x : Int, IntKind.u32.wrap x = x % 4294967296 from fun _ => rfl, ← e]
      exact h3
theorem hash_alike (s : ByteArray) (hs : s.size ≤ 9223372036854775807) : ∃ h : Int, 0 ≤ h ∧ h < 4294967296 ∧ Ev (fun k => spec_l03Hash.f k s) (h % 65536, h / 65536 + 1) ∧ Ev (fun k => impl_FilterMake.pl_l0 k s 2166136261 0) h := by
  obtain ⟨v, hv, h1, h2⟩ := hash_from s hs s.size 2166136261 0 (by omega) (by omega) (by omega) (by omega)
  exact ⟨v, by omega, by omega, h1, h2⟩
end Go.Proofs.Ytnicllekmkkhlaa.QFnExactFilterMakeH
