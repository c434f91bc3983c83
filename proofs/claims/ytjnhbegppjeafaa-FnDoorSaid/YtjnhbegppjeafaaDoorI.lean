/- What holds of a door's askers beside what the law keeps: costs, prios, who is granted. No condition. -/
import Derived.Test.YtjnhbegppjeafaaDoorD
namespace Go.Proofs.Ytjnhbegppjeafaa.QFnDoorI
set_option linter.unusedVariables false
set_option linter.unusedSimpArgs false
open Go.RowKit Go.Proofs.Ytjnhbegppjeafaa.QFnDoor Go.Proofs.Ytjnhbegppjeafaa.QFnDoorD Go.Proofs.YtjnhbegppjeafaaW.PrintWords Go.Proofs.YtjnhbegppjeafaaU
theorem rdOf_set (l : List Bool) (i j : Nat) (hi : i < l.length) : rdOf false (l.set i true) (j : Int) = if j = i then true else rdOf false l (j : Int) := by
  unfold rdOf
  rw [Int.toNat_natCast, List.getD_eq_getElem?_getD, List.getD_eq_getElem?_getD, List.getElem?_set]
  by_cases h : j = i
  · subst h; simp [hi]
  · rw [if_neg h, if_neg (fun e => h e.symm)]
theorem rdOf_app (l : List Bool) (b : Bool) (j : Nat) : rdOf false (l ++ [b]) (j : Int) = if j = l.length then b else rdOf false l (j : Int) := by
  unfold rdOf
  rw [Int.toNat_natCast, List.getD_eq_getElem?_getD, List.getD_eq_getElem?_getD]
  by_cases h : j = l.length
  · subst h; simp
  · rw [if_neg h]
    rcases Nat.lt_or_ge j l.length with h1 | h1
    · rw [List.getElem?_append_left h1]
    · rw [List.getElem?_append_right h1, List.getElem?_eq_none (by simp; omega), List.getElem?_eq_none h1]
theorem rd_app (l : List Int) (b : Int) (j : Nat) : rd (l ++ [b]) (j : Int) = if j = l.length then b else rd l (j : Int) := by
  unfold rd
  rw [Int.toNat_natCast, List.getD_eq_getElem?_getD, List.getD_eq_getElem?_getD]
  by_cases h : j = l.length
  · subst h; simp
  · rw [if_neg h]
    rcases Nat.lt_or_ge j l.length with h1 | h1
    · rw [List.getElem?_append_left h1]
    · rw [List.getElem?_append_right h1, List.getElem?_eq_none (by simp; omega), List.getElem?_eq_none h1]
/-- The askers that wait, beside the law's rows of all that asked. -/
structure Askers (l : List S78) (m : Nat) (cs ps : List Int) (ds : List Bool) : Prop where
  c : cs.length = m
  p : ps.length = m
  d : ds.length = m
  srt : l.Pairwise (fun a b => a.f0 < b.f0)
  inn : ∀ x ∈ l, ∃ j : Nat, x.f0 = j ∧ j < m ∧ rd cs (j : Int) = x.f1 ∧ rd ps (j : Int) = x.f2 ∧ rdOf false ds (j : Int) = false
  out : ∀ j : Nat, j < m → rdOf false ds (j : Int) = false → ∃ x ∈ l, x.f0 = j
theorem Askers.nil : Askers [] 0 [] [] [] := ⟨rfl, rfl, rfl, .nil, fun x h => absurd h (by simp), fun j h => absurd h (by omega)⟩
/-- One more asks. -/
theorem Askers.snoc {l : List S78} {m : Nat} {cs ps : List Int} {ds : List Bool} (h : Askers l m cs ps ds) (a b : Int) : Askers (l ++ [⟨(m : Int), a, b⟩]) (m + 1) (cs ++ [a]) (ps ++ [b]) (ds ++ [false]) := by
  refine ⟨by simp [h.c], by simp [h.p], by simp [h.d], ?_, ?_, ?_⟩
  · rw [List.pairwise_append]
    refine ⟨h.srt, List.pairwise_singleton _ _, fun x hx y hy => ?_⟩
    rw [List.mem_singleton.mp hy]
    obtain ⟨j, e, hj, _⟩ := h.inn x hx
    show x.f0 < (m : Int)
    omega
  · intro x hx
    rcases List.mem_append.mp hx with hx | hx
    · obtain ⟨j, e, hj, e1, e2, e3⟩ := h.inn x hx
      refine ⟨j, e, by omega, ?_, ?_, ?_⟩
      · rw [rd_app, if_neg (by rw [h.c]; omega)]; exact e1
      · rw [rd_app, if_neg (by rw [h.p]; omega)]; exact e2
      · rw [rdOf_app, if_neg (by rw [h.d]; omega)]; exact e3
    · rw [List.mem_singleton.mp hx]
      refine ⟨m, rfl, by omega, ?_, ?_, ?_⟩
      · rw [rd_app, if_pos h.c.symm]
      · rw [rd_app, if_pos h.p.symm]
      · rw [rdOf_app, if_pos h.d.symm]
  · intro j hj e
    rw [rdOf_app] at e
    by_cases q : j = ds.length
    · exact ⟨_, List.mem_append.mpr (.inr (List.mem_singleton.mpr rfl)), by rw [q, h.d]⟩
    · rw [if_neg q] at e
      obtain ⟨x, hx, e⟩ := h.out j (by rw [h.d] at q; omega) e
      exact ⟨x, List.mem_append.mpr (.inl hx), e⟩
theorem rd_at (l : List S78) (b : Nat) (h : b < l.length) : rd_T78 l (b : Int) = l[b] := by
  unfold rd_T78
  rw [Int.toNat_natCast, List.getD_eq_getElem?_getD, List.getElem?_eq_getElem h]
  rfl
/-- The best one is granted: nobody of its Prio that asked before waits. -/
theorem Askers.first {l : List S78} {m : Nat} {cs ps : List Int} {ds : List Bool} (h : Askers l m cs ps ds) (hl : 0 < l.length) (j i : Nat) (hi : (rd_T78 l ((top l l.length : Nat) : Int)).f0 = (i : Int)) (hj : j < i) (he : rd ps (j : Int) = rd ps (i : Int)) : rdOf false ds (j : Int) = true := by
  have hb : top l l.length < l.length := bst_lt _ _ hl
  obtain ⟨i', e0, hi', e1, e2, e3⟩ := h.inn _ (rd_mem l _ hb)
  have : i' = i := by omega
  subst this
  cases hd : rdOf false ds (j : Int) with
  | true => rfl
  | false =>
    obtain ⟨x, hx, ex⟩ := h.out j (by omega) hd
    obtain ⟨k, hk, rfl⟩ := List.mem_iff_getElem.mp hx
    obtain ⟨j', g0, _, _, g2, _⟩ := h.inn _ hx
    have : j' = j := by omega
    subst this
    have hkb : k < top l l.length := by
      rcases Nat.lt_or_ge k (top l l.length) with q | q
      · exact q
      · rcases Nat.eq_or_lt_of_le q with q | q
        · have : l[k] = rd_T78 l ((top l l.length : Nat) : Int) := by rw [rd_at l _ hb]; congr 1; exact q.symm
          rw [this] at ex; omega
        · have := List.pairwise_iff_getElem.mp h.srt (top l l.length) k hb hk q
          rw [← rd_at l _ hb] at this; omega
    have hp := bst_first (fun i => (rd_T78 l (i : Int)).f2) l.length k hkb
    have hp' : (rd_T78 l (k : Int)).f2 < (rd_T78 l ((top l l.length : Nat) : Int)).f2 := hp
    rw [rd_at l k hk] at hp'
    omega
/-- Behind a grant. -/
theorem Askers.grant {l : List S78} {m : Nat} {cs ps : List Int} {ds : List Bool} (h : Askers l m cs ps ds) (b i : Nat) (hb : b < l.length) (hi : (rd_T78 l (b : Int)).f0 = (i : Int)) : Askers (l.take b ++ l.drop (b + 1)) m cs ps (ds.set i true) := by
  have hs : (l.take b ++ l.drop (b + 1)).Sublist l := by rw [← List.eraseIdx_eq_take_drop_succ]; exact List.eraseIdx_sublist l b
  obtain ⟨i', e0, hi', e1, e2, e3⟩ := h.inn _ (rd_mem l _ hb)
  have : i' = i := by omega
  subst this
  rw [rd_at l b hb] at hi
  have hne : ∀ x ∈ l.take b ++ l.drop (b + 1), x.f0 ≠ l[b].f0 := by
    intro x hx
    rcases List.mem_append.mp hx with hx | hx
    · obtain ⟨k, hk, rfl⟩ := List.mem_iff_getElem.mp hx
      rw [List.length_take] at hk
      rw [List.getElem_take]
      have := List.pairwise_iff_getElem.mp h.srt k b (by omega) hb (by omega)
      omega
    · obtain ⟨k, hk, rfl⟩ := List.mem_iff_getElem.mp hx
      rw [List.length_drop] at hk
      rw [List.getElem_drop]
      have := List.pairwise_iff_getElem.mp h.srt b (b + 1 + k) hb (by omega) (by omega)
      omega
  refine ⟨h.c, h.p, by rw [List.length_set]; exact h.d, h.srt.sublist hs, ?_, ?_⟩
  · intro x hx
    obtain ⟨j, g0, hj, g1, g2, g3⟩ := h.inn x (hs.subset hx)
    have := hne x hx
    refine ⟨j, g0, hj, g1, g2, ?_⟩
    rw [rdOf_set _ _ _ (by rw [h.d]; exact hi'), if_neg (by omega)]
    exact g3
  · intro j hj e
    rw [rdOf_set _ _ _ (by rw [h.d]; exact hi')] at e
    by_cases q : j = i'
    · rw [if_pos q] at e; cases e
    · rw [if_neg q] at e
      obtain ⟨x, hx, ex⟩ := h.out j hj e
      refine ⟨x, ?_, ex⟩
      obtain ⟨k, hk, rfl⟩ := List.mem_iff_getElem.mp hx
      rw [List.mem_append]
      rcases Nat.lt_trichotomy k b with u | u | u
      · exact .inl (List.mem_iff_getElem.mpr ⟨k, by rw [List.length_take]; omega, by rw [List.getElem_take]⟩)
      · subst u; omega
      · exact .inr (List.mem_iff_getElem.mpr ⟨k - (b + 1), by rw [List.length_drop]; omega, by rw [List.getElem_drop]; congr 1; omega⟩)
end Go.Proofs.Ytjnhbegppjeafaa.QFnDoorI
