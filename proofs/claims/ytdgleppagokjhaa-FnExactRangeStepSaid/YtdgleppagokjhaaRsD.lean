/- The functions that the law reaches, each as a plain Lean function with the proof that the Go code comes to its answers: written by a program of this session. No condition. -/
import Derived.Test.YtdgleppagokjhaaQFnExactRangeStepx0
import Derived.Test.YtdgleppagokjhaaQFnExactRangeStepx8
import Derived.Test.YtdgleppagokjhaaRgS
import Derived.Test.YtdgleppagokjhaaRgD
namespace Go.Proofs.Ytdgleppagokjhaa.QFnExactRangeStep
open Go.RowKit Go.Proofs.YtdgleppagokjhaaW.PrintWords Go.Proofs.YtdgleppagokjhaaW.PrintLast Go.Proofs.YtdgleppagokjhaaW.PrintMore
attribute [local go_sem] max2_int min2_int max_two min_two max_three min_three max_four min_four str_gtr str_leq str_geq pw_at_slice   -- for this text's walks alone
set_option linter.unusedVariables false
set_option linter.unusedSimpArgs false
/-- What the program does behind its loop: at index a, `there` where the other number is taken. -/
def impl_new (l : List S30) (a : Int) (mid : List S30) (skip : Int) : List S30 × Int := (l.take a.toNat ++ mid ++ l.drop (a + skip).toNat, 0)
def impl_tl (l : List S30) (a : Int) (there : Bool) (kind id : Int) (key : ByteArray) (node dst : Int) : List S30 × Int :=
  if kind = 1 then
    if key.toList = ([] : List UInt8) ∨ (4000 : Int) < key.size ∨ Op.bytesLess (rd_T30 l a).f1.toList key.toList = false ∨ ((rd_T30 l a).f2.toList ≠ ([] : List UInt8) ∧ Op.bytesLess key.toList (rd_T30 l a).f2.toList = false) ∨ node < 1 ∨ node > 1000000 ∨ there = true then ([], 1)
    else if (l.length : Int) ≥ 64 then ([], 9)
    else if wrap64 ((rd_T30 l a).f5 + 1) > 1000000 then ([], 3)
    else impl_new l a [⟨(rd_T30 l a).f0, (rd_T30 l a).f1, key, (rd_T30 l a).f3, (rd_T30 l a).f4, wrap64 ((rd_T30 l a).f5 + 1)⟩, ⟨node, key, (rd_T30 l a).f2, (rd_T30 l a).f3, (rd_T30 l a).f4, wrap64 ((rd_T30 l a).f5 + 1)⟩] 1
  else if kind = 2 then
    if a = (l.length : Int) - 1 then ([], 14)
    else if (rd_T30 l (a + 1)).f3 ≠ (rd_T30 l a).f3 then ([], 13)
    else if wrap64 (max (rd_T30 l a).f5 (rd_T30 l (a + 1)).f5 + 1) > 1000000 then ([], 3)
    else impl_new l a [⟨(rd_T30 l a).f0, (rd_T30 l a).f1, (rd_T30 l (a + 1)).f2, (rd_T30 l a).f3, (rd_T30 l a).f4, wrap64 (max (rd_T30 l a).f5 (rd_T30 l (a + 1)).f5 + 1)⟩] 2
  else if kind = 3 then
    if QFnExactRangeStepS.bit (rd_T30 l a).f3 node = false ∨ dst < 0 ∨ dst > 7 ∨ QFnExactRangeStepS.bit (rd_T30 l a).f3 dst = true then ([], 1)
    else if node = (rd_T30 l a).f4 then ([], 13)
    else if wrap64 ((rd_T30 l a).f5 + 1) > 1000000 then ([], 3)
    else impl_new l a [⟨(rd_T30 l a).f0, (rd_T30 l a).f1, (rd_T30 l a).f2, wrap64 ((rd_T30 l a).f3 + wrap64 (shl .i64 1 dst - shl .i64 1 node)), (rd_T30 l a).f4, wrap64 ((rd_T30 l a).f5 + 1)⟩] 1
  else if kind = 4 then
    if QFnExactRangeStepS.bit (rd_T30 l a).f3 node = false then ([], 1)
    else if wrap64 ((rd_T30 l a).f5 + 1) > 1000000 then ([], 3)
    else impl_new l a [⟨(rd_T30 l a).f0, (rd_T30 l a).f1, (rd_T30 l a).f2, (rd_T30 l a).f3, node, wrap64 ((rd_T30 l a).f5 + 1)⟩] 1
  else if (rd_T30 l a).f5 > 1000000 then ([], 3) else (l, 0)
/-! ### impl_RangeStep: function 24 -/
set_option maxRecDepth 100000 in
mutual
def impl_RangeStep.j0 : Nat → List (S30) → Bool → Int → Int → ByteArray → Int → Int → Option ((List (S30)) × Int)
  | 0, _, _, _, _, _, _, _ => none
  | k + 1, x0, x27, x820000, x820001, x820002, x820003, x820004 => if x27 = true then (some (([] : List (S30)), 1)) else (impl_RangeStep.l0 k (-1) false x0 (x0.length : Int) 0 x820000 x820001 x820002 x820003 x820004)
def impl_RangeStep.l0 : Nat → Int → Bool → List (S30) → Int → Int → Int → Int → ByteArray → Int → Int → Option ((List (S30)) × Int)
  | 0, _, _, _, _, _, _, _, _, _, _ => none
  | k + 1, x6, x7, x28, x29, x30, x820000, x820001, x820002, x820003, x820004 => if x30 < x29 then (if 0 ≤ x30 then (if x30 < (x28.length : Int) then (if ((rd_T30 x28 x30).f0) = x820001 then (if x7 = true then (impl_RangeStep.l0 k x30 true x28 x29 (wrap64 (x30 + 1)) x820000 x820001 x820002 x820003 x820004) else (impl_RangeStep.l0 k x30 (((rd_T30 x28 x30).f0) == x820003) x28 x29 (wrap64 (x30 + 1)) x820000 x820001 x820002 x820003 x820004)) else (if x7 = true then (impl_RangeStep.l0 k x6 true x28 x29 (wrap64 (x30 + 1)) x820000 x820001 x820002 x820003 x820004) else (impl_RangeStep.l0 k x6 (((rd_T30 x28 x30).f0) == x820003) x28 x29 (wrap64 (x30 + 1)) x820000 x820001 x820002 x820003 x820004))) else (none)) else (none)) else (if x6 < 0 then (some (([] : List (S30)), 14)) else (if x6 < (x28.length : Int) then (some (impl_tl x28 x6 x7 x820000 x820001 x820002 x820003 x820004)) else none))
end
def impl_RangeStep.f (k : Nat) (l0 : List (S30)) (a1_0 : Int) (a1_1 : Int) (a1_2 : ByteArray) (a1_3 : Int) (a1_4 : Int) : Option ((List (S30)) × Int) := (impl_RangesOK.f k l0).bind fun t820 => (if t820 = true then (if a1_0 < 1 then (impl_RangeStep.j0 k l0 true a1_0 a1_1 a1_2 a1_3 a1_4) else (impl_RangeStep.j0 k l0 (decide (a1_0 > 4)) a1_0 a1_1 a1_2 a1_3 a1_4)) else (impl_RangeStep.j0 k l0 true a1_0 a1_1 a1_2 a1_3 a1_4))
end Go.Proofs.Ytdgleppagokjhaa.QFnExactRangeStep
