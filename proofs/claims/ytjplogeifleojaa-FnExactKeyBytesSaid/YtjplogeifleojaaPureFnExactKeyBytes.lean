/- The program's KeyBytes and the reference's answer alike at every slice of values. No condition. -/
import Derived.Test.YtjplogeifleojaaKeyB
namespace Go.Proofs.Ytjplogeifleojaa.Pure
set_option linter.unusedVariables false
set_option linter.unusedSimpArgs false
open Go.RowKit Go.Proofs.Ytjplogeifleojaa.QFnExactKeyBytes Go.Proofs.YtjplogeifleojaaW.PrintWords Go.Proofs.YtjplogeifleojaaU Go.Proofs.Ytjplogeifleojaa.QFnExactKeyBytesB
theorem FnExactKeyBytes (l : List S45) (o : l.length ≤ 9223372036854775807 ∧ ∀ x ∈ l, (Lit.int .i64 x.f0).wf = true ∧ (Lit.int .i64 x.f1).wf = true ∧ (Lit.int .i64 x.f2).wf = true ∧ x.f3.size ≤ 9223372036854775807) : ∃ k, laws_FnExactKeyBytes.f k l = some true := by
  obtain ⟨hl, hs⟩ := o
  have hs3 : ∀ x ∈ l, x.f3.size ≤ 9223372036854775807 := fun x hx => (hs x hx).2.2.2
  obtain ⟨z, hz, hc⟩ := sz_ends l hl hs3
  refine Ev.at ?_
  simp only [laws_FnExactKeyBytes.f]
  refine Ev.bind hz ?_
  by_cases c : z < 0
  · exact Ev.pos c (Ev.some' rfl)
  · have hl' : (l.length : Int) ≤ 1048576 := hc (by omega)
    have hm : ((l.map cv_Value).length : Int) ≤ 1048576 := by rw [List.length_map]; exact hl'
    obtain ⟨r, r1, r2⟩ := keys_both (l.map cv_Value) (fun x hx => by obtain ⟨y, hy, rfl⟩ := List.mem_map.1 hx; exact hs3 y hy)
    refine Ev.neg c (Ev.bind (to_Value l hl') (Ev.bind r1 (Ev.bind (to_Value l hl') (Ev.bind r2 (Ev.pos rfl ?_)))))
    rw [bne_self_eq_false]
    refine Ev.succ ?_
    simp only [laws_FnExactKeyBytes.j0]
    exact Ev.neg (by simp) (Ev.bind (to_Value l hl') (Ev.bind (eq_Value (l.map cv_Value) hm) (Ev.pos (by trivial) (Ev.some' rfl))))
end Go.Proofs.Ytjplogeifleojaa.Pure
