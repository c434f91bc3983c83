/- Tables of the program's RangeStep's regions that draw, a store as one step of such a region, and what a list is that one element was set in. No condition. -/
import Derived.Test.YtdgleppagokjhaaRgC
namespace Go.Proofs.Ytdgleppagokjhaa.QFnExactRangeStep
open Go.RowKit Go.Proofs.YtdgleppagokjhaaW.PrintWords Go.Proofs.YtdgleppagokjhaaW.PrintLast Go.Proofs.YtdgleppagokjhaaW.PrintMore
set_option linter.unusedVariables false
set_option linter.unusedSimpArgs false
def impl_RangeStep.T25 : Bool × List (List Nat × List Nat) := (true, [([], []), ([0], [0]), ([], []), ([2], [2]), ([0, 1], []), ([4, 1, 0, 1], [1, 4]), ([0, 1, 2, 3, 4, 5], []), ([6, 3, 5, 0, 1, 2, 3, 4, 5], [3, 6])])
def impl_RangeStep.B25 : List Nat := [0, 1, 0, 4, 3, 19, 63, 127]
theorem impl_RangeStep.tab25 : rtab .any (opsOf Try.f24 25) = impl_RangeStep.T25 := by kernel_rfl
theorem impl_RangeStep.bits25 : waitsOk impl_RangeStep.T25.2 impl_RangeStep.B25 = true := by kernel_rfl
def impl_RangeStep.T27 : Bool × List (List Nat × List Nat) := (true, [([], []), ([], []), ([1], [1]), ([0, 2], [0, 2]), ([3], [3]), ([], []), ([5], [5]), ([4, 6, 4], [4, 6]), ([], []), ([], []), ([9], [9]), ([8, 10], [8, 10]), ([7, 11, 7], [7, 11]), ([12, 12, 0, 1, 2, 3, 4, 5, 6, 7, 8, 9, 10, 11, 12], [0, 8, 12])])
def impl_RangeStep.B27 : List Nat := [0, 0, 2, 7, 15, 0, 32, 127, 0, 0, 512, 1792, 4095, 8191]
theorem impl_RangeStep.tab27 : rtab .any (opsOf Try.f24 27) = impl_RangeStep.T27 := by kernel_rfl
theorem impl_RangeStep.bits27 : waitsOk impl_RangeStep.T27.2 impl_RangeStep.B27 = true := by kernel_rfl
def impl_RangeStep.T36 : Bool × List (List Nat × List Nat) := (true, [([], []), ([], []), ([1], [1]), ([0, 2], [0, 2]), ([3], [3]), ([], []), ([], []), ([6], [6]), ([5, 7], [5, 7]), ([4, 8, 4], [4, 8]), ([9, 9, 0, 1, 2, 3, 4, 5, 6, 7, 8, 9], [0, 5, 9])])
def impl_RangeStep.B36 : List Nat := [0, 0, 2, 7, 15, 0, 0, 64, 224, 511, 1023]
theorem impl_RangeStep.tab36 : rtab .any (opsOf Try.f24 36) = impl_RangeStep.T36 := by kernel_rfl
theorem impl_RangeStep.bits36 : waitsOk impl_RangeStep.T36.2 impl_RangeStep.B36 = true := by kernel_rfl
/-- A store as one step of a region that draws. -/
theorem store_step {P : Program} {ops : Array Oper} {o : Oper} {a : Act} {Q : Exit → Act → World → Prop} {Kc : Act → World → Prop} {W w1 : World} (hw : Region.wanted o (yielded ops a.tmps) = true) (hN : o.dst = none)
    (hrun : (execOp a.eval o).run P W = .ok .skip w1) (h : ∀ w', w' = w1 → Kc a w') : if Region.wanted o (yielded ops a.tmps) = true then Oper.wp P o a W Kc Q else Kc (a.put none undef) W := by
  rw [if_pos hw]
  unfold Oper.wp
  rw [hrun]
  show Kc (a.put o.dst undef) w1
  rw [hN]
  exact h w1 rfl
theorem set_take (l : List S30) (a : Nat) (h : a < l.length) (x : S30) : (l.set a x).take (a + 1) = l.take a ++ [x] := by
  rw [List.set_eq_take_append_cons_drop, if_pos h, show l.take a ++ x :: l.drop (a + 1) = (l.take a ++ [x]) ++ l.drop (a + 1) by simp]
  exact List.take_left' (by rw [List.length_append, List.length_take, List.length_singleton]; omega)
theorem set_drop (l : List S30) (a : Nat) (h : a < l.length) (x : S30) (s : Nat) : (l.set a x).drop (a + 1 + s) = l.drop (a + 1 + s) := by
  rw [List.set_eq_take_append_cons_drop, if_pos h, show l.take a ++ x :: l.drop (a + 1) = (l.take a ++ [x]) ++ l.drop (a + 1) by simp, ← List.drop_drop, List.drop_left' (by rw [List.length_append, List.length_take, List.length_singleton]; omega), List.drop_drop]
theorem mid_get (p q : List S30) (x z : S30) : ((p ++ [x]) ++ q).getD p.length z = x := by
  rw [List.append_assoc, List.getD_eq_getElem?_getD, List.getElem?_append_right (Nat.le_refl _), Nat.sub_self]
  rfl
theorem mid_get' (p q : List S30) (x z : S30) (n : Nat) (h : p.length = n) : ((p ++ [x]) ++ q).getD n z = x := by subst h; exact mid_get p q x z
end Go.Proofs.Ytdgleppagokjhaa.QFnExactRangeStep
