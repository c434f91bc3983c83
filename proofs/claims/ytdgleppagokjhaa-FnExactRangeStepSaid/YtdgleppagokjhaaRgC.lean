/- The closure of the program's RangeStep: is n a member of the range that the captured pointer leads to? No condition but where the pointer and the members lie. -/
import Derived.Test.YtdgleppagokjhaaQFnExactRangeStepx0
import Derived.Test.YtdgleppagokjhaaRgS
namespace Go.Proofs.Ytdgleppagokjhaa.QFnExactRangeStep
open Go.RowKit Go.Proofs.YtdgleppagokjhaaW.PrintWords Go.Proofs.YtdgleppagokjhaaW.PrintLast Go.Proofs.YtdgleppagokjhaaW.PrintMore
attribute [local go_sem] max2_int min2_int max_two min_two max_three min_three max_four min_four str_gtr str_leq str_geq pw_at_slice   -- for this text's walks alone
set_option linter.unusedVariables false
set_option linter.unusedSimpArgs false
set_option maxHeartbeats 8000000 in
set_option maxRecDepth 100000 in
theorem impl_RangeStep.node (n m : Int) (B g o : Nat) (w : World) (hB : w.heap[B]? = some (.cells #[.pointer (some ⟨g, o, none⟩)] 69 (0, 0))) (hM : w.cell? ⟨g, o + 3, none⟩ = some (.int .i64 m)) :
    Calls Try.prog 42 #[.int .i64 n, .pointer (some ⟨B, 0, none⟩)] w fun e w' => e = .returned (.bool (QFnExactRangeStepS.bit m n)) ∧ Below w.heap.size w w' := by
  have HM := Aside0.mk hM
  have HQ := Aside0.mk ((blk_cell hB 0).trans rfl : w.cell? ⟨B, 0, none⟩ = some (.pointer (some ⟨g, o, none⟩)))
  clear hM hB
  by_cases c0 : 0 ≤ n
  · by_cases c1 : n ≤ 7
    · have e : QFnExactRangeStepS.bit m n = (Go.bits .and .i64 (shr .i64 m n) 1 == 1) := by
        unfold QFnExactRangeStepS.bit
        rw [decide_eq_true (show 0 ≤ n ∧ n < 8 by omega), Bool.true_and]
      have E := Aside0.mk e
      have b0 : decide (0 ≤ n) = true := decide_eq_true c0
      have b1 : decide (n ≤ 7) = true := decide_eq_true c1
      have b2 : (0 ≤ n) = True := eq_true c0
      have hm := HM.out
      have hq := HQ.out
      clear c0 c1 e
      go_enter Try.func42, Try.ntmps42
      go_wp2
      go_ret
      exact ⟨by rw [E.out]; rfl, by repeat (first | exact Below.refl _ _ | apply below_alloc | apply pw_below_drewN | apply below_drew1)⟩
    · have e : QFnExactRangeStepS.bit m n = false := by
        unfold QFnExactRangeStepS.bit
        rw [decide_eq_false (show ¬ (0 ≤ n ∧ n < 8) by omega), Bool.false_and]
      have E := Aside0.mk e
      have b0 : decide (0 ≤ n) = true := decide_eq_true c0
      have b1 : decide (n ≤ 7) = false := decide_eq_false c1
      clear c0 c1 e
      go_enter Try.func42, Try.ntmps42
      go_wp2
      go_ret
      exact ⟨by rw [E.out]; rfl, by repeat (first | exact Below.refl _ _ | apply below_alloc | apply pw_below_drewN | apply below_drew1)⟩
  · have e : QFnExactRangeStepS.bit m n = false := by
      unfold QFnExactRangeStepS.bit
      rw [decide_eq_false (show ¬ (0 ≤ n ∧ n < 8) by omega), Bool.false_and]
    have E := Aside0.mk e
    have b0 : decide (0 ≤ n) = false := decide_eq_false c0
    clear c0 e
    go_enter Try.func42, Try.ntmps42
    go_wp2
    go_ret
    exact ⟨by rw [E.out]; rfl, by repeat (first | exact Below.refl _ _ | apply below_alloc | apply pw_below_drewN | apply below_drew1)⟩
end Go.Proofs.Ytdgleppagokjhaa.QFnExactRangeStep
