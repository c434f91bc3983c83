/- The reference's cursor over drawn bytes: from a state in range a byte, a pick and a size are there, in range, and leave a state in range. No condition. -/
import Derived.Test.YtnicllekmkkhlaaQFnDiskSafex12
import Derived.Test.YtnicllekmkkhlaaUtil
namespace Go.Proofs.Ytnicllekmkkhlaa.QFnDiskSafeR
set_option linter.unusedVariables false
set_option linter.unusedSimpArgs false
open Go.RowKit Go.Proofs.Ytnicllekmkkhlaa.QFnDiskSafe Go.Proofs.YtnicllekmkkhlaaW.PrintWords Go.Proofs.YtnicllekmkkhlaaU
/-- A cursor in range. -/
structure Cur (c : List Int) (a s : Int) : Prop where
  a0 : 0 ≤ a
  s0 : 0 ≤ s
  s1 : s < 2147483648
  len : c.length ≤ 2097152
  bytes : ∀ x ∈ c, 0 ≤ x ∧ x ≤ 255
theorem byte_ok {c : List Int} {a s : Int} (h : Cur c a s) (ha : a ≤ 1099511627776) : ∃ v s', spec_l01Cur_byte.f c a s = some (v, a + 1, s') ∧ Cur c (a + 1) s' ∧ 0 ≤ v ∧ v ≤ 255 := by
  unfold spec_l01Cur_byte.f
  rw [if_pos ⟨h.a0, ha, h.s0, h.s1, h.len, h.bytes⟩]
  by_cases e1 : a + 1 > 4000 + 4 * (c.length : Int)
  · rw [if_pos e1]
    exact ⟨_, _, rfl, ⟨by have := h.a0; omega, h.s0, h.s1, h.len, h.bytes⟩, by omega, by omega⟩
  · rw [if_neg e1]
    have h0 := h.a0
    have h1 := h.s0
    by_cases e2 : a + 1 > (c.length : Int)
    · rw [if_pos e2]
      exact ⟨_, _, rfl, ⟨by omega, by omega, by omega, h.len, h.bytes⟩, by omega, by omega⟩
    · rw [if_neg e2]
      have hb := h.bytes _ (rd_mem c a (by omega))
      exact ⟨_, _, rfl, ⟨by omega, by omega, by omega, h.len, h.bytes⟩, hb.1, hb.2⟩
theorem pick_ok {c : List Int} {a s : Int} (h : Cur c a s) (ha : a ≤ 1099511627775) (n : Int) :
    ∃ v a' s', spec_l01Cur_pick.f c a s n = some (v, a', s') ∧ Cur c a' s' ∧ a' ≤ a + 2 ∧ 0 ≤ v ∧ (n ≤ 1 → v = 0) ∧ (2 ≤ n → v < n) ∧ v ≤ 65535 := by
  unfold spec_l01Cur_pick.f
  by_cases c1 : n ≤ 1
  · rw [if_pos c1]
    exact ⟨_, _, _, rfl, h, by omega, by omega, fun _ => rfl, fun h2 => by omega, by omega⟩
  · rw [if_neg c1]
    obtain ⟨v, s', e, hc, v0, v1⟩ := byte_ok h (by omega)
    by_cases c2 : n ≤ 256
    · rw [if_pos c2, e]
      simp only [Option.bind_some]
      rw [if_neg (by omega), tmod_nn _ _ v0]
      exact ⟨_, _, _, rfl, hc, by omega, Int.emod_nonneg _ (by omega), fun h2 => by omega, fun _ => Int.emod_lt_of_pos _ (by omega), by
        have := Int.emod_lt_of_pos v (show 0 < n by omega)
        omega⟩
    · rw [if_neg c2, e]
      simp only [Option.bind_some]
      obtain ⟨u, s2, e2, hc2, u0, u1⟩ := byte_ok hc (by omega)
      rw [e2]
      simp only [Option.bind_some]
      rw [if_neg (by omega), wrap_in (v * 256) (by omega) (by omega), wrap_in _ (by omega) (by omega), tmod_nn _ _ (by omega)]
      refine ⟨_, _, _, rfl, hc2, by omega, Int.emod_nonneg _ (by omega), fun h2 => by omega, fun _ => Int.emod_lt_of_pos _ (by omega), ?_⟩
      have h1 := Int.emod_nonneg (v * 256 + u) (show n ≠ 0 by omega)
      have h2 : (v * 256 + u) % n ≤ v * 256 + u := by
        obtain ⟨X, hX⟩ := Int.eq_ofNat_of_zero_le (show 0 ≤ v * 256 + u by omega)
        obtain ⟨M, rfl⟩ := Int.eq_ofNat_of_zero_le (show 0 ≤ n by omega)
        rw [hX]
        exact Int.ofNat_le.2 (Nat.mod_le X M)
      omega
theorem size_ok {c : List Int} {a s : Int} (h : Cur c a s) (ha : a ≤ 1099511627775) (n : Int) (hn0 : 0 ≤ n) (hn : n ≤ 1000000) :
    ∃ v a' s', spec_l01Cur_size.f c a s n = some (v, a', s') ∧ Cur c a' s' ∧ a' ≤ a + 2 ∧ 0 ≤ v ∧ v ≤ n := by
  have hl := h.len
  have h12 : 0 ≤ (c.length : Int) / 12 ∧ (c.length : Int) / 12 ≤ 2097152 := by omega
  unfold spec_l01Cur_size.f
  rw [wrap_in ((c.length : Int) / 12) (by omega) (by omega), wrap_in (1 + (c.length : Int) / 12) (by omega) (by omega), wrap_in (n + 1) (by omega) (by omega), wrap_in (1 + (c.length : Int) / 12 + 1) (by omega) (by omega)]
  by_cases c1 : 1 + (c.length : Int) / 12 > n
  · rw [if_pos c1]
    obtain ⟨v, a', s', e, hc, h1, h2, h3, h4, _⟩ := pick_ok h ha (n + 1)
    rw [e]
    refine ⟨v, a', s', rfl, hc, h1, h2, ?_⟩
    rcases Int.lt_or_le (n + 1) 2 with hh | hh
    · have := h3 (by omega); omega
    · have := h4 hh; omega
  · rw [if_neg c1]
    obtain ⟨v, a', s', e, hc, h1, h2, h3, h4, _⟩ := pick_ok h ha (1 + (c.length : Int) / 12 + 1)
    rw [e]
    exact ⟨v, a', s', rfl, hc, h1, h2, by have := h4 (by omega); omega⟩
theorem cur_new {c : List Int} (hl : c.length ≤ 1048576) (hb : ∀ x ∈ c, (Lit.int .u8 x).wf = true) : spec_l01DrawCur.f c = some (c, 0, 17 + (c.length : Int)) ∧ Cur c 0 (17 + (c.length : Int)) := by
  refine ⟨?_, ⟨by omega, by omega, by omega, by omega, fun x hx => wf8 (hb x hx)⟩⟩
  unfold spec_l01DrawCur.f
  rw [wrap_in _ (by omega) (by omega)]
end Go.Proofs.Ytnicllekmkkhlaa.QFnDiskSafeR
