/- In a drawn run of leases what is told as used between two publishings is one of two neighbouring versions, and never ahead of what was published. No condition but that the drawn bytes are bytes. -/
import Derived.Test.YtjnhbegppjeafaaLeaseFnLeases
import Derived.Test.YtjnhbegppjeafaaCurFnLeases
import Derived.Test.YtjnhbegppjeafaaQFnLeasesx6
namespace Go.Proofs.Ytjnhbegppjeafaa.Pure
set_option linter.unusedVariables false
set_option linter.unusedSimpArgs false
open Go.RowKit Go.Proofs.Ytjnhbegppjeafaa.QFnLeases Go.Proofs.YtjnhbegppjeafaaW.PrintWords Go.Proofs.YtjnhbegppjeafaaU Go.Proofs.Ytjnhbegppjeafaa.QFnLeasesG Go.Proofs.Ytjnhbegppjeafaa.QFnLeasesR
theorem draw_from (c : List Int) (d : Nat) : ∀ (acc : List S39) (i a s : Int), 0 ≤ i → i = d → Cur c a s → a ≤ 1000000 - 20 * i → (acc.length : Int) + i ≤ 70 → i ≤ 70 →
    ∃ r : List S39, r.length ≤ 70 ∧ Ev (fun k => spec_DrawLeaseRun.l0 k acc i c a s) r := by
  induction d with
  | zero =>
    intro acc i a s h0 h1 hc ha hl hi
    exact ⟨acc, by omega, Ev.succ (by simp only [spec_DrawLeaseRun.l0]; exact Ev.neg (by omega) (Ev.some' rfl))⟩
  | succ d ih =>
    intro acc i a s h0 h1 hc ha hl hi
    have ew := wrap_in (i - 1) (by omega) (by omega)
    obtain ⟨v1, a1, s1, e1, c1, b1, n1, _, m1, _⟩ := pick_ok hc (by omega) 8
    obtain ⟨v2, a2, s2, e2, c2, b2, n2, _, m2, _⟩ := pick_ok c1 (by omega) 4
    obtain ⟨v3, a3, s3, e3, c3, b3, n3, _, m3, _⟩ := pick_ok c2 (by omega) 6
    obtain ⟨v4, a4, s4, e4, c4, b4, n4, _, m4, _⟩ := pick_ok c3 (by omega) 30
    have l1 := m1 (by omega)
    by_cases z : v4 = 0
    · obtain ⟨v5, a5, s5, e5, c5, b5, n5, _, m5, _⟩ := pick_ok c4 (by omega) 8
      obtain ⟨v6, a6, s6, e6, c6, b6, n6, _, m6, _⟩ := pick_ok c5 (by omega) 12
      obtain ⟨v7, a7, s7, e7, c7, b7, n7, _, m7, _⟩ := pick_ok c6 (by omega) 4
      have l7 := m7 (by omega)
      obtain ⟨r, rl, hr⟩ := ih (acc ++ [(⟨wrap64 (v5 - 1), wrap64 (v6 - 2), rd [(-1), 1000, 1001, 10] v7⟩ : S39)]) (i - 1) a7 s7 (by omega) (by omega) c7 (by omega) (by rw [List.length_append, List.length_singleton]; omega) (by omega)
      refine ⟨r, rl, Ev.succ ?_⟩
      simp only [spec_DrawLeaseRun.l0, Option.bind_some, ew]
      refine Ev.pos (by omega) (Ev.bndc e1 (Ev.pos n1 (Ev.pos (by simp only [List.length_cons, List.length_nil]; omega) (Ev.bndc e2 (Ev.bndc e3 (Ev.bndc e4 (Ev.pos z (Ev.bndc e5 (Ev.bndc e6 (Ev.bndc e7 (Ev.pos n7 (Ev.pos (by simp only [List.length_cons, List.length_nil]; omega) (Ev.pos (by omega) hr)))))))))))))
    · obtain ⟨r, rl, hr⟩ := ih (acc ++ [(⟨rd [1, 2, 2, 3, 3, 4, 5, 5] v1, v2, v3⟩ : S39)]) (i - 1) a4 s4 (by omega) (by omega) c4 (by omega) (by rw [List.length_append, List.length_singleton]; omega) (by omega)
      refine ⟨r, rl, Ev.succ ?_⟩
      simp only [spec_DrawLeaseRun.l0, Option.bind_some, ew]
      exact Ev.pos (by omega) (Ev.bndc e1 (Ev.pos n1 (Ev.pos (by simp only [List.length_cons, List.length_nil]; omega) (Ev.bndc e2 (Ev.bndc e3 (Ev.bndc e4 (Ev.neg z (Ev.pos (by omega) hr))))))))
theorem draw_ok (c : List Int) (hl : c.length ≤ 1048576) (hb : ∀ x ∈ c, (Lit.int .u8 x).wf = true) : ∃ r : List S39, r.length ≤ 70 ∧ Ev (fun k => spec_DrawLeaseRun.f k c) r := by
  obtain ⟨e0, c0⟩ := cur_new hl hb
  obtain ⟨v, a, s, e1, c1, b1, n1, m1⟩ := size_ok c0 (by omega) 70 (by omega) (by omega)
  obtain ⟨r, rl, hr⟩ := draw_from c v.toNat [] v a s n1 (by omega) c1 (by omega) (by simp only [List.length_nil]; omega) (by omega)
  refine ⟨r, rl, ?_⟩
  simp only [spec_DrawLeaseRun.f]
  exact Ev.bndc e0 (Ev.bndc e1 hr)
/-- What holds between two steps: each lease that still runs is of this version or of the one before. -/
structure Inv (now ver : Int) (has til : List Int) (i : Int) : Prop where
  hh : has.length = 8
  ht : til.length = 8
  n0 : 0 ≤ now
  n1 : now ≤ 1000 * i
  v0 : 1 ≤ ver
  v1 : ver ≤ 1 + i
  nb : ∀ j : Int, 0 ≤ j → j < 8 → rd has j = 0 ∨ rd has j = ver ∨ rd has j = ver - 1 ∨ rd til j ≤ now
theorem rd_set (xs : List Int) (i j x : Int) (hi : 0 ≤ i) (hi2 : i < xs.length) (hj : 0 ≤ j) : rd (xs.set i.toNat x) j = if j = i then x else rd xs j := by
  unfold rd
  rw [List.getD_eq_getElem?_getD, List.getD_eq_getElem?_getD, List.getElem?_set]
  by_cases e : j = i
  · subst e
    rw [if_pos rfl, if_pos rfl, if_pos (by omega)]
    rfl
  · rw [if_neg e, if_neg (by omega)]
theorem law_from (l : List S39) (hl : l.length ≤ 70) (d : Nat) : ∀ (pre : List S37) (now ver : Int) (has til : List Int) (i : Int), 0 ≤ i → i ≤ l.length → (l.length : Int) - i = d → (pre.length : Int) = i → Inv now ver has til i →
    Ev (fun k => laws_FnLeases.l0 k l (pre ++ run (l.drop i.toNat) now ver has til) (pre ++ run (l.drop i.toNat) now ver has til) ver i) true := by
  induction d with
  | zero =>
    intro pre now ver has til i h0 h1 hd hp hv
    have e0 : pre ++ run (l.drop i.toNat) now ver has til = pre := by rw [List.drop_of_length_le (by omega)]; simp [run]
    rw [e0]
    exact Ev.succ (by simp only [laws_FnLeases.l0]; exact Ev.neg (by omega) (Ev.some' rfl))
  | succ d ih =>
    intro pre now ver has til i h0 h1 hd hp hv
    have ew := wrap_in (i + 1) (by omega) (by omega)
    have hlt : i < l.length := by omega
    obtain ⟨k0, hk⟩ : ∃ k0, (rd_T39 l i).f0 = k0 := ⟨_, rfl⟩
    obtain ⟨nd, hnd⟩ : ∃ nd, (rd_T39 l i).f1 = nd := ⟨_, rfl⟩
    obtain ⟨n, hn⟩ : ∃ n, (rd_T39 l i).f2 = n := ⟨_, rfl⟩
    obtain ⟨R, hR⟩ : ∃ R, pre ++ run (l.drop i.toNat) now ver has til = R := ⟨_, rfl⟩
    have hRl : (R.length : Int) = l.length := by rw [← hR, List.length_append, run_len, List.length_drop]; omega
    -- the step's answer stands at its place, and the rest is the law of the rest
    have nx : ∀ (c : S37) (now' ver' : Int) (has' til' : List Int), stp k0 nd n now ver has til = (c, now', ver', has', til') → Inv now' ver' has' til' (i + 1) → rd_T37 R i = c ∧ Ev (fun k => laws_FnLeases.l0 k l R R ver' (i + 1)) true := by
      intro c now' ver' has' til' e hv'
      have e2 := run_at l i h0 hlt (now := now) (ver := ver) (has := has) (til := til) (c := c) (now' := now') (ver' := ver') (has' := has') (til' := til') (by rw [hk, hnd, hn]; exact e)
      have e3 : pre ++ [c] ++ run (l.drop (i + 1).toNat) now' ver' has' til' = R := by rw [← hR, e2, List.append_assoc]; rfl
      have h := ih (pre ++ [c]) now' ver' has' til' (i + 1) (by omega) (by omega) (by omega) (by rw [List.length_append, List.length_singleton]; omega) hv'
      rw [e3] at h
      refine ⟨?_, h⟩
      rw [← hR, e2]
      unfold rd_T37
      rw [show i.toNat = pre.length by omega, List.getD_eq_getElem?_getD, List.getElem?_append_right (Nat.le_refl _), Nat.sub_self]
      rfl
    rw [hR]
    have hmono : Inv now ver has til (i + 1) := ⟨hv.hh, hv.ht, hv.n0, by have := hv.n1; omega, hv.v0, by have := hv.v1; omega, hv.nb⟩
    clear hR ih hp
    have v0 := hv.v0
    have v1 := hv.v1
    have n0 := hv.n0
    have n1 := hv.n1
    refine Ev.succ ?_
    simp only [laws_FnLeases.l0, ew, hk]
    refine Ev.pos (by omega) (Ev.pos h0 (Ev.pos (by omega) (Ev.pos (by trivial) ?_)))
    by_cases k1 : k0 = 1 ∧ 0 ≤ n ∧ n ≤ 1000
    · have en := wrap_in (now + n) (by omega) (by omega)
      obtain ⟨q1, q2⟩ := nx ⟨0, 0⟩ (now + n) ver has til (by unfold stp; rw [if_pos k1, en]) ⟨hv.hh, hv.ht, by omega, by omega, v0, by omega, fun j j0 j8 => by
        rcases hv.nb j j0 j8 with h | h | h | h
        · exact .inl h
        · exact .inr (.inl h)
        · exact .inr (.inr (.inl h))
        · exact .inr (.inr (.inr (by omega)))⟩
      rw [q1]
      exact Ev.pos rfl (Ev.pos (by omega) (Ev.neg (by omega) (Ev.neg (by omega) (Ev.neg (by omega) q2))))
    by_cases k2 : k0 = 2 ∧ 0 ≤ nd ∧ nd < 8
    · obtain ⟨q1, q2⟩ := nx ⟨0, ver⟩ now ver (has.set nd.toNat ver) (til.set nd.toNat (wrap64 (now + 10))) (by unfold stp; rw [if_neg k1, if_pos k2]) ⟨by rw [List.length_set]; exact hv.hh, by rw [List.length_set]; exact hv.ht, n0, by omega, v0, by omega, fun j j0 j8 => by
        rw [rd_set _ _ _ _ k2.2.1 (by rw [hv.hh]; omega) j0, rd_set _ _ _ _ k2.2.1 (by rw [hv.ht]; omega) j0]
        by_cases e : j = nd
        · rw [if_pos e]; exact .inr (.inl rfl)
        · rw [if_neg e, if_neg e]; exact hv.nb j j0 j8⟩
      rw [q1]
      exact Ev.pos rfl (Ev.pos (by omega) (Ev.neg (by omega) (Ev.pos k2.1 (Ev.pos rfl q2))))
    by_cases k3 : k0 = 3 ∧ 0 ≤ nd ∧ nd < 8
    · by_cases g : rd has nd = 0 ∨ rd til nd ≤ now
      · obtain ⟨q1, q2⟩ := nx ⟨10, 0⟩ now ver has til (by unfold stp; rw [if_neg k1, if_neg k2, if_pos k3, if_pos g]) hmono
        rw [q1]
        exact Ev.neg (by decide) q2
      · obtain ⟨q1, q2⟩ := nx ⟨0, rd has nd⟩ now ver has til (by unfold stp; rw [if_neg k1, if_neg k2, if_pos k3, if_neg g]) hmono
        rw [q1]
        have hb := hv.nb nd k3.2.1 k3.2.2
        refine Ev.pos rfl (Ev.pos (by omega) (Ev.neg (by omega) (Ev.neg (by omega) (Ev.pos k3.1 ?_))))
        by_cases e : rd has nd = ver
        · exact Ev.pos e q2
        · have e2 : rd has nd = ver - 1 := by
            rcases hb with h | h | h | h
            · exact absurd (.inl h) g
            · exact absurd h e
            · exact h
            · exact absurd (.inr h) g
          exact Ev.neg e (Ev.pos (by rw [wrap_in _ (by omega) (by omega)]; exact e2) q2)
    by_cases k4 : k0 = 4 ∧ 0 ≤ nd ∧ nd < 8
    · obtain ⟨q1, q2⟩ := nx ⟨0, 0⟩ now ver (has.set nd.toNat 0) til (by unfold stp; rw [if_neg k1, if_neg k2, if_neg k3, if_pos k4]) ⟨by rw [List.length_set]; exact hv.hh, hv.ht, n0, by omega, v0, by omega, fun j j0 j8 => by
        rw [rd_set _ _ _ _ k4.2.1 (by rw [hv.hh]; omega) j0]
        by_cases e : j = nd
        · rw [if_pos e]; exact .inl rfl
        · rw [if_neg e]; exact hv.nb j j0 j8⟩
      rw [q1]
      exact Ev.pos rfl (Ev.pos (by omega) (Ev.neg (by omega) (Ev.neg (by omega) (Ev.neg (by omega) q2))))
    by_cases k5 : k0 = 5
    · cases hz : bz now ver has til 8 with
      | true =>
        obtain ⟨q1, q2⟩ := nx ⟨13, 0⟩ now ver has til (by unfold stp; rw [if_neg k1, if_neg k2, if_neg k3, if_neg k4, if_pos k5, if_pos hz]) hmono
        rw [q1]
        exact Ev.neg (by decide) q2
      | false =>
        have en := wrap_in (ver + 1) (by omega) (by omega)
        obtain ⟨q1, q2⟩ := nx ⟨0, ver + 1⟩ now (ver + 1) has til (by unfold stp; rw [if_neg k1, if_neg k2, if_neg k3, if_neg k4, if_pos k5, if_neg (by rw [hz]; decide), en]) ⟨hv.hh, hv.ht, n0, by omega, by omega, by omega, fun j j0 j8 => by
          have hb := bz_false (Nat.le_refl 8) hz j (by omega) j8
          by_cases g0 : rd has j = 0
          · exact .inl g0
          by_cases g1 : rd has j = ver
          · exact .inr (.inr (.inl (by omega)))
          by_cases g2 : rd til j ≤ now
          · exact .inr (.inr (.inr g2))
          have h3 : rd has j = ver - 1 := by
            rcases hv.nb j j0 j8 with h | h | h | h
            · exact absurd h g0
            · exact absurd h g1
            · exact h
            · exact absurd h g2
          unfold bat at hb
          rw [decide_eq_true (show rd has j > 0 by omega), decide_eq_true (show rd has j < ver by omega), decide_eq_true (show rd til j > now by omega)] at hb
          cases hb⟩
        rw [q1]
        refine Ev.pos rfl (Ev.pos (by omega) (Ev.pos k5 (Ev.pos (by rw [en]) ?_)))
        rw [en]
        exact q2
    · obtain ⟨q1, q2⟩ := nx ⟨1, 0⟩ now ver has til (by unfold stp; rw [if_neg k1, if_neg k2, if_neg k3, if_neg k4, if_neg k5]) hmono
      rw [q1]
      exact Ev.neg (by decide) q2
theorem FnLeases (c : List Int) (o : c.length ≤ 9223372036854775807 ∧ ∀ x ∈ c, (Lit.int .u8 x).wf = true) : ∃ k, laws_FnLeases.f k c = some true := by
  obtain ⟨hl, hb⟩ := o
  refine Ev.at ?_
  simp only [laws_FnLeases.f, laws_big.f, Option.bind_some]
  by_cases cb : (c.length : Int) > 1048576
  · exact Ev.pos (by rw [decide_eq_true cb]) (Ev.some' rfl)
  · refine Ev.neg (by rw [decide_eq_false cb]; decide) ?_
    obtain ⟨r, rl, hr⟩ := draw_ok c (by omega) hb
    obtain ⟨r1, r2⟩ := lease_run r (by omega)
    refine Ev.bind hr (Ev.bind r1 (Ev.bind r2 (Ev.pos rfl (Ev.succ ?_))))
    simp only [laws_FnLeases.j0]
    refine Ev.neg (by simp) ?_
    have h := law_from r rl r.length [] 0 1 [0, 0, 0, 0, 0, 0, 0, 0] [0, 0, 0, 0, 0, 0, 0, 0] 0 (by omega) (by omega) (by omega) rfl ⟨rfl, rfl, by omega, by omega, by omega, by omega, fun j j0 j8 => .inl (by
      have : j = 0 ∨ j = 1 ∨ j = 2 ∨ j = 3 ∨ j = 4 ∨ j = 5 ∨ j = 6 ∨ j = 7 := by omega
      rcases this with rfl | rfl | rfl | rfl | rfl | rfl | rfl | rfl <;> rfl)⟩
    simpa using h
end Go.Proofs.Ytjnhbegppjeafaa.Pure
