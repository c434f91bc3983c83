/- A door grants no more than comes in: in a drawn run each grant stands behind its asking and once, of one Prio in the order of asking, and all together cost no more than came in. No condition but that the drawn bytes are bytes. -/
import Derived.Test.YtjnhbegppjeafaaDoorL
import Derived.Test.YtjnhbegppjeafaaDoorC
namespace Go.Proofs.Ytjnhbegppjeafaa.Pure
set_option linter.unusedVariables false
set_option linter.unusedSimpArgs false
open Go.RowKit Go.Proofs.Ytjnhbegppjeafaa.QFnDoor Go.Proofs.Ytjnhbegppjeafaa.QFnDoorD Go.Proofs.Ytjnhbegppjeafaa.QFnDoorL Go.Proofs.YtjnhbegppjeafaaW.PrintWords Go.Proofs.YtjnhbegppjeafaaU Go.Proofs.Ytjnhbegppjeafaa.QFnDoorR
theorem draw_from (c : List Int) (x6 x7 : Int) (h7 : 1 ≤ x7 ∧ x7 ≤ 12) (d : Nat) : ∀ (acc : List S58) (i a s : Int), i = d → Cur c a s → a ≤ 1000000 - 20 * i → (acc.length : Int) + i ≤ 120 → i ≤ 120 →
    ∃ r : Int × Int × List S58, Ev (fun k => spec_DrawAdmitRun.l0 k x6 x7 acc i c a s) r := by
  induction d with
  | zero =>
    intro acc i a s h1 hc ha hl hi
    obtain ⟨v1, a1, s1, e1, c1, b1, n1, _, m1, _⟩ := pick_ok hc (by omega) 20
    by_cases z : v1 = 0
    · obtain ⟨v2, a2, s2, e2, c2, b2, n2, _, m2, _⟩ := pick_ok c1 (by omega) 3
      obtain ⟨v3, a3, s3, e3, c3, b3, n3, _, m3, _⟩ := pick_ok c2 (by omega) 3
      have l2 := m2 (by omega)
      have l3 := m3 (by omega)
      refine ⟨(rd [0, 1000000000000000, 1000000000000001] v2, rd [0, 1000000000000000, 1000000000000001] v3, acc), Ev.succ ?_⟩
      simp only [spec_DrawAdmitRun.l0, Option.bind_some]
      exact Ev.neg (by omega) (Ev.bndc e1 (Ev.pos z (Ev.bndc e2 (Ev.pos n2 (Ev.pos (by simp only [List.length_cons, List.length_nil]; omega) (Ev.bndc e3 (Ev.pos n3 (Ev.pos (by simp only [List.length_cons, List.length_nil]; omega) (Ev.some' rfl)))))))))
    · refine ⟨(x6, x7, acc), Ev.succ ?_⟩
      simp only [spec_DrawAdmitRun.l0, Option.bind_some]
      exact Ev.neg (by omega) (Ev.bndc e1 (Ev.neg z (Ev.some' rfl)))
  | succ d ih =>
    intro acc i a s h1 hc ha hl hi
    have ew := wrap_in (i - 1) (by omega) (by omega)
    obtain ⟨v1, a1, s1, e1, c1, b1, n1, _, m1, _⟩ := pick_ok hc (by omega) 5
    obtain ⟨v2, a2, s2, e2, c2, b2, n2, _, m2, _⟩ := pick_ok c1 (by omega) x7
    obtain ⟨v3, a3, s3, e3, c3, b3, n3, _, m3, _⟩ := pick_ok c2 (by omega) 3
    obtain ⟨v4, a4, s4, e4, c4, b4, n4, _, m4, _⟩ := pick_ok c3 (by omega) 40
    have l1 := m1 (by omega)
    by_cases z : v4 = 0
    · obtain ⟨v5, a5, s5, e5, c5, b5, n5, _, m5, _⟩ := pick_ok c4 (by omega) 5
      obtain ⟨v6, a6, s6, e6, c6, b6, n6, _, m6, _⟩ := pick_ok c5 (by omega) 4
      obtain ⟨v7, a7, s7, e7, c7, b7, n7, _, m7, _⟩ := pick_ok c6 (by omega) 13
      have l6 := m6 (by omega)
      obtain ⟨r, hr⟩ := ih (acc ++ [(⟨v5, rd [0, 1000, 1001, wrap64 (x7 + 1)] v6, wrap64 (v7 - 1)⟩ : S58)]) (i - 1) a7 s7 (by omega) c7 (by omega) (by rw [List.length_append, List.length_singleton]; omega) (by omega)
      refine ⟨r, Ev.succ ?_⟩
      simp only [spec_DrawAdmitRun.l0, Option.bind_some, ew]
      exact Ev.pos (by omega) (Ev.bndc e1 (Ev.pos n1 (Ev.pos (by simp only [List.length_cons, List.length_nil]; omega) (Ev.bndc e2 (Ev.bndc e3 (Ev.bndc e4 (Ev.pos z (Ev.bndc e5 (Ev.bndc e6 (Ev.pos n6 (Ev.pos (by simp only [List.length_cons, List.length_nil]; omega) (Ev.bndc e7 (Ev.pos (by omega) hr)))))))))))))
    · obtain ⟨r, hr⟩ := ih (acc ++ [(⟨rd [1, 1, 1, 2, 3] v1, wrap64 (1 + v2), v3⟩ : S58)]) (i - 1) a4 s4 (by omega) c4 (by omega) (by rw [List.length_append, List.length_singleton]; omega) (by omega)
      refine ⟨r, Ev.succ ?_⟩
      simp only [spec_DrawAdmitRun.l0, Option.bind_some, ew]
      exact Ev.pos (by omega) (Ev.bndc e1 (Ev.pos n1 (Ev.pos (by simp only [List.length_cons, List.length_nil]; omega) (Ev.bndc e2 (Ev.bndc e3 (Ev.bndc e4 (Ev.neg z (Ev.pos (by omega) hr))))))))
theorem draw_ok (c : List Int) (hl : c.length ≤ 1048576) (hb : ∀ x ∈ c, (Lit.int .u8 x).wf = true) : ∃ r : Int × Int × List S58, Ev (fun k => spec_DrawAdmitRun.f k c) r := by
  obtain ⟨e0, c0⟩ := cur_new hl hb
  obtain ⟨v1, a1, s1, e1, c1, b1, n1, _, m1, _⟩ := pick_ok c0 (by omega) 4
  obtain ⟨v2, a2, s2, e2, c2, b2, n2, _, m2, _⟩ := pick_ok c1 (by omega) 12
  obtain ⟨v, a, s, e3, c3, b3, n3, m3⟩ := size_ok c2 (by omega) 120 (by omega) (by omega)
  have l1 := m1 (by omega)
  have l2 := m2 (by omega)
  have w1 := wrap_in (1 + v1) (by omega) (by omega)
  have w2 := wrap_in (1 + v2) (by omega) (by omega)
  obtain ⟨r, hr⟩ := draw_from c (1 + v1) (1 + v2) (by omega) v.toNat [] v a s (by omega) c3 (by omega) (by simp only [List.length_nil]; omega) (by omega)
  refine ⟨r, ?_⟩
  simp only [spec_DrawAdmitRun.f]
  refine Ev.bndc e0 (Ev.bndc e1 (Ev.bndc e2 (Ev.bndc e3 ?_)))
  simp only [w1, w2]
  exact hr
theorem FnDoor (c : List Int) (o : c.length ≤ 9223372036854775807 ∧ ∀ x ∈ c, (Lit.int .u8 x).wf = true) : ∃ k, laws_FnDoor.f k c = some true := by
  obtain ⟨_, hb⟩ := o
  refine Ev.at ?_
  simp only [laws_FnDoor.f]
  refine Ev.bndc (b := decide ((c.length : Int) > 1048576)) rfl ?_
  by_cases z : (c.length : Int) > 1048576
  · exact Ev.pos (decide_eq_true z) (Ev.some' rfl)
  · refine Ev.neg (by simpa using z) ?_
    obtain ⟨⟨a0, a1, x2⟩, hd⟩ := draw_ok c (by omega) hb
    obtain ⟨⟨out, code⟩, hs, hi, hr⟩ := admit_both a0 a1 x2
    refine Ev.bind hd (Ev.bind hs (Ev.bind hi (Ev.pos rfl ?_)))
    refine Ev.succ ?_
    simp only [laws_FnDoor.j0]
    refine Ev.neg (by simp) ?_
    by_cases e : code = 0
    · obtain ⟨h0, h1, h2, h3⟩ := hr e
      exact Ev.pos e (Law a0 a1 x2 out h0 h1 h2 h3)
    · exact Ev.neg e (Ev.some' rfl)
end Go.Proofs.Ytjnhbegppjeafaa.Pure
