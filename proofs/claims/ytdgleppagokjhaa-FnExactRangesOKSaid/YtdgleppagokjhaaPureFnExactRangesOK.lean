/- The program's RangesOK and the reference's answer alike at every slice of ranges. No condition. -/
import Derived.Test.YtdgleppagokjhaaRngFnExactRangesOK
namespace Go.Proofs.Ytdgleppagokjhaa.Pure
set_option linter.unusedVariables false
set_option linter.unusedSimpArgs false
open Go.RowKit Go.Proofs.Ytdgleppagokjhaa.QFnExactRangesOK Go.Proofs.YtdgleppagokjhaaW.PrintWords Go.Proofs.YtdgleppagokjhaaU Go.Proofs.Ytdgleppagokjhaa.QFnExactRangesOKG
theorem FnExactRangesOK (l : List S61) (o : l.length ≤ 9223372036854775807 ∧ ∀ x ∈ l, (Lit.int .i64 x.f0).wf = true ∧ x.f1.size ≤ 9223372036854775807 ∧ x.f2.size ≤ 9223372036854775807 ∧ (Lit.int .i64 x.f3).wf = true ∧ (Lit.int .i64 x.f4).wf = true ∧ (Lit.int .i64 x.f5).wf = true) : ∃ k, laws_FnExactRangesOK.f k l = some true := by
  obtain ⟨hl, hs⟩ := o
  obtain ⟨z, hz, hc⟩ := sz_ends l 1048576 (by omega) (by omega) hl (fun x hx => ⟨(hs x hx).2.1, (hs x hx).2.2.1⟩)
  refine Ev.at ?_
  simp only [laws_FnExactRangesOK.f]
  refine Ev.bind hz ?_
  by_cases c : z < 0
  · exact Ev.pos c (Ev.some' rfl)
  · have hl' : (l.length : Int) ≤ 1048576 := by omega
    have hm : ((l.map cv).length : Int) ≤ 1048576 := by rw [List.length_map]; exact hl'
    obtain ⟨b, b1, b2, _⟩ := ok_alike (l.map cv) hm
    refine Ev.neg c (Ev.bind (to_same l hl') (Ev.bind b1 (Ev.bind (to_same l hl') (Ev.bind b2 (Ev.neg (by simp) (Ev.bind (to_same l hl') (Ev.bind (eq_same (l.map cv) hm) (Ev.pos (by trivial) (Ev.some' rfl)))))))))
end Go.Proofs.Ytdgleppagokjhaa.Pure
