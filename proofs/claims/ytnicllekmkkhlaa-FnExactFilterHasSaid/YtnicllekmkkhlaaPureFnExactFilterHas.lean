/- The program's FilterHas and the reference's answer alike at every two texts. No condition but that a text's size is an int. -/
import Derived.Test.YtnicllekmkkhlaaQFnExactFilterHasx1
import Derived.Test.YtnicllekmkkhlaaHashFnExactFilterHas
namespace Go.Proofs.Ytnicllekmkkhlaa.Pure
set_option linter.unusedVariables false
set_option linter.unusedSimpArgs false
open Go.RowKit Go.Proofs.Ytnicllekmkkhlaa.QFnExactFilterHas Go.Proofs.YtnicllekmkkhlaaW.PrintWords Go.Proofs.YtnicllekmkkhlaaW.PrintMore Go.Proofs.YtnicllekmkkhlaaU Go.Proofs.Ytnicllekmkkhlaa.QFnExactFilterHasH
theorem bit_at (a : ByteArray) (p : Int) (h0 : 0 ≤ p) : Go.bits .and .u8 (shr .u8 (bt a (p / 8)) (p % 8)) 1 = impl_FilterHas.hs_b a p := by
  unfold impl_FilterHas.hs_b shr
  rw [Int.tmod_eq_emod_of_nonneg h0, Int.tdiv_eq_ediv_of_nonneg h0]
  rfl
theorem turn (K : Nat) (a : ByteArray) (A B k : Int) (hA : 0 ≤ A ∧ A < 65536) (hB : 1 ≤ B ∧ B ≤ 65536) (hk : k = 0 ∨ k = 1 ∨ k = 2) (h0 : 0 < (a.size : Int)) (h1 : (a.size : Int) ≤ 1048576) :
    spec_FilterHas.l0 (K + 1) a (a.size : Int) A B k = if impl_FilterHas.hs_b a ((A + k * B) % (8 * (a.size : Int))) = 0 then some false else spec_FilterHas.l0 K a (a.size : Int) A B (k + 1) := by
  have hkB : 0 ≤ k * B ∧ k * B ≤ 131072 := by rcases hk with rfl | rfl | rfl <;> omega
  have p0 : 0 ≤ (A + k * B) % (8 * (a.size : Int)) := Int.emod_nonneg _ (by omega)
  have p1 : (A + k * B) % (8 * (a.size : Int)) < 8 * (a.size : Int) := Int.emod_lt_of_pos _ (by omega)
  conv => lhs; unfold spec_FilterHas.l0
  rw [if_pos (by omega), wrap_in (8 * (a.size : Int)) (by omega) (by omega), if_neg (by omega), wrap_in (k * B) (by omega) (by omega), wrap_in (A + k * B) (by omega) (by omega), Int.tmod_eq_emod_of_nonneg (show 0 ≤ A + k * B by omega), wrap_in (k + 1) (by omega) (by omega)]
  generalize (A + k * B) % (8 * (a.size : Int)) = p at *
  rw [Int.tmod_eq_emod_of_nonneg p0, Int.tdiv_eq_ediv_of_nonneg p0, wrap_in (p / 8) (by omega) (by omega), show IntKind.u64.wrap (p % 8) = p % 8 from (by show (p % 8) % 18446744073709551616 = _; omega), if_pos (by omega), if_pos (by omega), if_pos (by omega), bit_at a p p0]
theorem has_alike (a b : ByteArray) (h1 : (a.size : Int) ≤ 1048576) (hb : b.size ≤ 9223372036854775807) : ∃ r, Ev (fun k => spec_FilterHas.f k a b) r ∧ Ev (fun k => impl_FilterHas.f k a b) r := by
  by_cases c : (a.size : Int) = 0
  · refine ⟨true, ?_, ?_⟩
    · simp only [spec_FilterHas.f]; exact Ev.pos c (Ev.some' rfl)
    · simp only [impl_FilterHas.f]; exact Ev.pos c (Ev.some' rfl)
  · obtain ⟨h, e0, e1, hs, hi⟩ := hash_alike b hb
    refine ⟨_, ?_, by simp only [impl_FilterHas.f]; exact Ev.neg c (Ev.bind hi (Ev.pos e0 (Ev.pos e1 (Ev.pos (by omega) (Ev.some' rfl)))))⟩
    simp only [spec_FilterHas.f]
    refine Ev.neg c (Ev.bind hs ?_)
    have t0 := fun K => turn K a (h % 65536) (h / 65536 + 1) 0 (by omega) (by omega) (by omega) (by omega) h1
    have t1 := fun K => turn K a (h % 65536) (h / 65536 + 1) 1 (by omega) (by omega) (by omega) (by omega) h1
    have t2 := fun K => turn K a (h % 65536) (h / 65536 + 1) 2 (by omega) (by omega) (by omega) (by omega) h1
    simp only [Int.zero_mul, Int.add_zero, Int.one_mul] at t0 t1
    refine Ev.succ (Ev.succ (Ev.succ (Ev.succ ?_)))
    simp only [t0]
    split
    · exact Ev.some' rfl
    · simp only [show (0 : Int) + 1 = 1 from rfl, t1]
      split
      · exact Ev.some' rfl
      · simp only [show (1 : Int) + 1 = 2 from rfl, t2]
        split
        · exact Ev.some' rfl
        · simp only [spec_FilterHas.l0]
          exact Ev.neg (by omega) (Ev.some' rfl)
theorem FnExactFilterHas : ∀ (a b : ByteArray), a.size ≤ 140737488351232 → b.size ≤ 140737488351232 → ∃ k, laws_FnExactFilterHas.f k a b = some true := by
  intro a b ha hb
  refine Ev.at ?_
  simp only [laws_FnExactFilterHas.f]
  by_cases c1 : (a.size : Int) > 1048576
  · exact Ev.pos c1 (Ev.some' rfl)
  · refine Ev.neg c1 ?_
    by_cases c2 : (b.size : Int) > 1048576
    · exact Ev.pos c2 (Ev.some' rfl)
    · refine Ev.neg c2 ?_
      obtain ⟨r, hs, hi⟩ := has_alike a b (by omega) (by omega)
      refine Ev.bind hs (Ev.bind hi ?_)
      exact Ev.neg (by simp) (Ev.some' rfl)
end Go.Proofs.Ytnicllekmkkhlaa.Pure
