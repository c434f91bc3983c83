/- The reference's NodeNew and the program's answer alike at every pair; the answer holds no slice, so marking and looking back are one step each. -/
import Derived.Test.YtkfjgloalfpcmaaQFnExactNodeNewx6
import Derived.Test.YtkfjgloalfpcmaaUtil
namespace Go.Proofs.Ytkfjgloalfpcmaa.Pure
set_option linter.unusedVariables false
set_option linter.unusedSimpArgs false
open Go.RowKit Go.Proofs.Ytkfjgloalfpcmaa.QFnExactNodeNew Go.Proofs.YtkfjgloalfpcmaaW.PrintWords Go.Proofs.YtkfjgloalfpcmaaU
theorem new_spec (a0 a1 : Int) : spec_NodeNew.f a0 a1 = if 0 ≤ a0 ∧ a0 < 8 ∧ 1 ≤ a1 ∧ a1 ≤ 255 then some (a0, 0, (-1), 1, (-1), ([] : List (S54)), 0, 0, 0, a1, 0, 0, 0, 0, ([] : List Int), ([] : List Int), 0) else some (0, 0, 0, 0, 0, ([] : List (S54)), 0, 0, 0, 0, 0, 0, 0, 0, ([] : List Int), ([] : List Int), 1) := by
  by_cases h : 0 ≤ a0 ∧ a0 < 8 ∧ 1 ≤ a1 ∧ a1 ≤ 255
  · rw [if_pos h]
    simp only [spec_NodeNew.f, spec_l05Id.f]
    rw [if_pos (show a0 ≥ 0 by omega), Option.bind_some, decide_eq_true (show a0 < 8 by omega), if_pos rfl, if_neg (by omega), if_neg (by omega)]
  · rw [if_neg h]
    by_cases h0 : a0 ≥ 0 <;> by_cases h1 : a0 < 8 <;> by_cases h2 : a1 < 1 <;> by_cases h3 : a1 > 255 <;> first | omega | simp only [spec_NodeNew.f, spec_l05Id.f, h0, h1, h2, h3, if_true, if_false, Option.bind_some, decide_true, decide_false, Bool.false_eq_true]
theorem new_impl (a0 a1 : Int) : impl_NodeNew.f a0 a1 = if 0 ≤ a0 ∧ a0 < 8 ∧ 1 ≤ a1 ∧ a1 ≤ 255 then some (a0, 0, (-1), 1, (-1), ([] : List (S54)), 0, 0, 0, a1, 0, 0, 0, 0, ([] : List Int), ([] : List Int), 0) else some (0, 0, 0, 0, 0, ([] : List (S54)), 0, 0, 0, 0, 0, 0, 0, 0, ([] : List Int), ([] : List Int), 1) := by
  by_cases h : 0 ≤ a0 ∧ a0 < 8 ∧ 1 ≤ a1 ∧ a1 ≤ 255
  · rw [if_pos h]
    simp only [impl_NodeNew.f, impl_within.f]
    rw [if_pos (show a0 ≥ 0 by omega), Option.bind_some, decide_eq_true (show a0 ≤ 7 by omega), if_pos rfl, if_pos (show a1 ≥ 1 by omega), Option.bind_some, decide_eq_true (show a1 ≤ 255 by omega), if_pos rfl]
  · rw [if_neg h]
    by_cases h0 : a0 ≥ 0 <;> by_cases h1 : a0 ≤ 7 <;> by_cases h2 : a1 ≥ 1 <;> by_cases h3 : a1 ≤ 255 <;> first | omega | simp only [impl_NodeNew.f, impl_within.f, h0, h1, h2, h3, if_true, if_false, Option.bind_some, decide_true, decide_false, Bool.false_eq_true]
theorem FnExactNodeNew (a0 a1 : Int) (o0 : (Lit.int .i64 a0).wf = true) (o1 : (Lit.int .i64 a1).wf = true) : ∃ k, laws_FnExactNodeNew.f k a0 a1 = some true := by
  refine ⟨9, ?_⟩
  have hs := new_spec a0 a1
  have hi := new_impl a0 a1
  by_cases h : 0 ≤ a0 ∧ a0 < 8 ∧ 1 ≤ a1 ∧ a1 ≤ 255
  · rw [if_pos h] at hs hi
    simp [laws_FnExactNodeNew.f, laws_FnExactNodeNew.j0, laws_FnExactNodeNew.j1, hs, hi, laws_eqNode.f, laws_eqEntryS.f, laws_eqEntryS.l0, laws_eqIntS.f, laws_eqIntS.l0, laws_markNode.f, laws_markEntryS.f, laws_markEntryS.l0, laws_markIntS.f, laws_markIntS.l0, laws_heldNode.f, laws_heldEntryS.f, laws_heldEntryS.l0, laws_heldIntS.f, laws_heldIntS.l0]
  · rw [if_neg h] at hs hi
    simp [laws_FnExactNodeNew.f, laws_FnExactNodeNew.j0, laws_FnExactNodeNew.j1, hs, hi, laws_eqNode.f, laws_eqEntryS.f, laws_eqEntryS.l0, laws_eqIntS.f, laws_eqIntS.l0, laws_markNode.f, laws_markEntryS.f, laws_markEntryS.l0, laws_markIntS.f, laws_markIntS.l0, laws_heldNode.f, laws_heldEntryS.f, laws_heldEntryS.l0, laws_heldIntS.f, laws_heldIntS.l0]

end Go.Proofs.Ytkfjgloalfpcmaa.Pure
