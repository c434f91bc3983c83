/- The program's Compare and the reference's answer alike at every collation and every two values. No condition. -/
import Derived.Test.YtkhkhcgjopnchaaCmpFnExactCompare
namespace Go.Proofs.Ytkhkhcgjopnchaa.Pure
set_option linter.unusedVariables false
set_option linter.unusedSimpArgs false
open Go.RowKit Go.Proofs.Ytkhkhcgjopnchaa.QFnExactCompare Go.Proofs.YtkhkhcgjopnchaaW.PrintWords Go.Proofs.YtkhkhcgjopnchaaU Go.Proofs.Ytkhkhcgjopnchaa.QFnExactCompareM
theorem FnExactCompare (c : ByteArray) (aK aN aS : Int) (s : ByteArray) (bK bN bS : Int) (t : ByteArray) (hc : c.size ≤ 9223372036854775807)
    (oa : (Lit.int .i64 aK).wf = true ∧ (Lit.int .i64 aN).wf = true ∧ (Lit.int .i64 aS).wf = true ∧ s.size ≤ 9223372036854775807)
    (ob : (Lit.int .i64 bK).wf = true ∧ (Lit.int .i64 bN).wf = true ∧ (Lit.int .i64 bS).wf = true ∧ t.size ≤ 9223372036854775807) : ∃ k, laws_FnExactCompare.f k c aK aN aS s bK bN bS t = some true := by
  obtain ⟨r, h1, h2⟩ := cmp_alike c aK aN aS s bK bN bS t hc oa.2.2.2 ob.2.2.2
  refine Ev.at ?_
  simp only [laws_FnExactCompare.f, laws_toValue.f, laws_toColl.f, Option.bind_some, laws_szValue.f, laws_szColl.f]
  obtain ⟨x, hx⟩ : ∃ x, wrap64 (1048576 - (c.size : Int)) = x := ⟨_, rfl⟩
  rw [hx]
  by_cases c1 : x < 0
  · simp only [if_pos c1, Option.bind_some]; exact Ev.pos (by omega) (Ev.some' rfl)
  · simp only [if_neg c1, Option.bind_some]
    obtain ⟨y, hy⟩ : ∃ y, wrap64 (x - (s.size : Int)) = y := ⟨_, rfl⟩
    rw [hy]
    by_cases c2 : y < 0
    · simp only [if_pos c2, Option.bind_some]; exact Ev.pos (by omega) (Ev.some' rfl)
    · simp only [if_neg c2, Option.bind_some]
      obtain ⟨z, hz⟩ : ∃ z, wrap64 (y - (t.size : Int)) = z := ⟨_, rfl⟩
      rw [hz]
      by_cases c3 : z < 0
      · simp only [if_pos c3, Option.bind_some]; exact Ev.pos (by omega) (Ev.some' rfl)
      · simp only [if_neg c3, Option.bind_some]
        exact Ev.bind h1 (Ev.bind h2 (Ev.pos rfl (Ev.pos rfl (Ev.some' rfl))))
end Go.Proofs.Ytkhkhcgjopnchaa.Pure
