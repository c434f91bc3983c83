/- The reference's and the program's LeaseRun answer alike at every list of steps. No condition. -/
import Derived.Test.YtjnhbegppjeafaaQFnExactLeaseRunx6
import Derived.Test.YtjnhbegppjeafaaUtil
namespace Go.Proofs.Ytjnhbegppjeafaa.QFnExactLeaseRunG
set_option linter.unusedVariables false
set_option linter.unusedSimpArgs false
open Go.RowKit Go.Proofs.Ytjnhbegppjeafaa.QFnExactLeaseRun Go.Proofs.YtjnhbegppjeafaaW.PrintWords Go.Proofs.YtjnhbegppjeafaaU
theorem kw (a b c : Int) : impl_kWithin.f a b c = some (decide (b ≤ a) && decide (a ≤ c)) := by
  unfold impl_kWithin.f
  by_cases h : a ≥ b
  · rw [if_pos h, decide_eq_true (show b ≤ a from h), Bool.true_and]
  · rw [if_neg h, decide_eq_false (show ¬ b ≤ a from h), Bool.false_and]
theorem sp_in {l : List S39} {acc : List S37} {now ver : Int} {has til : List Int} {i : Int} {R : List S37 × Int} (h0 : 0 ≤ i) (h1 : i < l.length)
    (h : Ev (fun k => spec_LeaseRun.j1 k l acc now ver has til i (decide (0 ≤ (rd_T39 l i).f1) && decide ((rd_T39 l i).f1 < 8)) (rd_T39 l i).f0 (rd_T39 l i).f1 (rd_T39 l i).f2 0 0) R) :
    Ev (fun k => spec_LeaseRun.l0 k l acc now ver has til i) R := by
  refine Ev.succ ?_
  simp only [spec_LeaseRun.l0]
  refine Ev.pos h1 (Ev.pos h0 ?_)
  by_cases c : (rd_T39 l i).f1 ≥ 0
  · rw [decide_eq_true (show 0 ≤ (rd_T39 l i).f1 from c), Bool.true_and] at h
    exact Ev.pos c h
  · rw [decide_eq_false (show ¬ 0 ≤ (rd_T39 l i).f1 from c), Bool.false_and] at h
    exact Ev.neg c h
theorem im_in {l : List S39} {acc : List S37} {now ver : Int} {has til : List Int} {i : Int} {R : List S37 × Int} (h0 : 0 ≤ i) (h1 : i < l.length)
    (h : Ev (fun k => impl_LeaseRun.j1 k now ver has til acc ((rd_T39 l i).f0 == 2 || ((rd_T39 l i).f0 == 3 || (rd_T39 l i).f0 == 4)) l (l.length : Int) i (rd_T39 l i).f0 (rd_T39 l i).f1 (rd_T39 l i).f2 0 0) R) :
    Ev (fun k => impl_LeaseRun.l0 k now ver has til acc l (l.length : Int) i) R := by
  refine Ev.succ ?_
  simp only [impl_LeaseRun.l0]
  refine Ev.pos h1 (Ev.pos h0 (Ev.pos h1 ?_))
  by_cases c : (rd_T39 l i).f0 = 2
  · rw [show ((rd_T39 l i).f0 == 2) = true from beq_iff_eq.mpr c, Bool.true_or] at h
    exact Ev.pos c h
  · rw [show ((rd_T39 l i).f0 == 2) = false from beq_eq_false_iff_ne.mpr c, Bool.false_or] at h
    refine Ev.neg c ?_
    by_cases c3 : (rd_T39 l i).f0 = 3
    · rw [show ((rd_T39 l i).f0 == 3) = true from beq_iff_eq.mpr c3, Bool.true_or] at h
      exact Ev.pos c3 h
    · rw [show ((rd_T39 l i).f0 == 3) = false from beq_eq_false_iff_ne.mpr c3, Bool.false_or] at h
      exact Ev.neg c3 h
/-- Behind the tests of the kind: what the program does with a step that is taken as bad or not. -/
theorem im_bad {l : List S39} {acc : List S37} {now ver : Int} {has til : List Int} {i k0 nd n : Int} {R : List S37 × Int}
    (h : Ev (fun k => impl_LeaseRun.j2 k now ver has til acc l (l.length : Int) i (decide (k0 < 1) || (decide (5 < k0) || ((k0 == 2 || (k0 == 3 || k0 == 4)) && !(decide (0 ≤ nd) && decide (nd ≤ 7)) || (k0 == 1) && !(decide (0 ≤ n) && decide (n ≤ 1000))))) k0 nd n 0 0) R) :
    Ev (fun k => impl_LeaseRun.j1 k now ver has til acc (k0 == 2 || (k0 == 3 || k0 == 4)) l (l.length : Int) i k0 nd n 0 0) R := by
  refine Ev.succ ?_
  simp only [impl_LeaseRun.j1, kw, Option.bind_some]
  by_cases c0 : k0 < 1
  · rw [decide_eq_true c0, Bool.true_or] at h
    exact Ev.pos c0 h
  · rw [decide_eq_false c0, Bool.false_or] at h
    refine Ev.neg c0 ?_
    by_cases c1 : k0 > 5
    · rw [decide_eq_true (show 5 < k0 from c1), Bool.true_or] at h
      exact Ev.pos c1 h
    · rw [decide_eq_false (show ¬ 5 < k0 from c1), Bool.false_or] at h
      refine Ev.neg c1 ?_
      obtain ⟨b, hb⟩ : ∃ b, (k0 == 2 || (k0 == 3 || k0 == 4)) = b := ⟨_, rfl⟩
      rw [hb] at h ⊢
      obtain ⟨p, hp⟩ : ∃ p, (decide (0 ≤ nd) && decide (nd ≤ 7)) = p := ⟨_, rfl⟩
      rw [hp] at h ⊢
      obtain ⟨q, hq⟩ : ∃ q, (decide (0 ≤ n) && decide (n ≤ 1000)) = q := ⟨_, rfl⟩
      rw [hq] at h ⊢
      by_cases c2 : k0 = 1
      · rw [show (k0 == 1) = true from beq_iff_eq.mpr c2] at h
        cases b with
        | true =>
          refine Ev.pos rfl ?_
          cases p with
          | true => exact Ev.pos rfl (Ev.pos c2 (by simpa using h))
          | false => exact Ev.neg (by simp) (by simpa using h)
        | false => exact Ev.neg (by simp) (Ev.pos c2 (by simpa using h))
      · rw [show (k0 == 1) = false from beq_eq_false_iff_ne.mpr c2] at h
        cases b with
        | true =>
          refine Ev.pos rfl ?_
          cases p with
          | true => exact Ev.pos rfl (Ev.neg c2 (by simpa using h))
          | false => exact Ev.neg (by simp) (by simpa using h)
        | false => exact Ev.neg (by simp) (Ev.neg c2 (by simpa using h))
/-- The look for a lease of an elder version: both come to the same. -/
theorem busy_both (l : List S39) (acc : List S37) (now ver : Int) (has til : List Int) (i : Int) (hh : has.length = 8) (ht : til.length = 8) (r : Int → List S37 × Int)
    (hs : ∀ c, (c = 0 ∨ c = 13) → Ev (fun k => spec_LeaseRun.l1 k l acc now ver has til i 8 c 0) (r c)) (hi : ∀ c, (c = 0 ∨ c = 13) → Ev (fun k => impl_LeaseRun.l1 k now ver has til acc l (l.length : Int) i 8 c 0) (r c)) (d : Nat) :
    ∀ (j : Int) (c : Int), (c = 0 ∨ c = 13) → 0 ≤ j → 8 - j = d → ∃ c', Ev (fun k => spec_LeaseRun.l1 k l acc now ver has til i j c 0) (r c') ∧ Ev (fun k => impl_LeaseRun.l1 k now ver has til acc l (l.length : Int) i j c 0) (r c') ∧ (c' = 0 ∨ c' = 13) := by
  induction d with
  | zero =>
    intro j c hc h0 hd
    obtain rfl : j = 8 := by omega
    exact ⟨c, hs c hc, hi c hc, hc⟩
  | succ d ih =>
    intro j c hc h0 hd
    have ew := wrap_in (j + 1) (by omega) (by omega)
    obtain ⟨q, q1, q2, q3⟩ := ih (j + 1) 13 (.inr rfl) (by omega) (by omega)
    obtain ⟨p, p1, p2, p3⟩ := ih (j + 1) c hc (by omega) (by omega)
    by_cases c1 : rd has j > 0
    · by_cases c2 : rd has j < ver
      · by_cases c3 : rd til j > now
        · refine ⟨q, Ev.succ ?_, Ev.succ ?_, q3⟩
          · simp only [spec_LeaseRun.l1, ew]
            exact Ev.pos (by omega) (Ev.pos h0 (Ev.pos (by omega) (Ev.pos c1 (Ev.pos c2 (Ev.pos (by omega) (Ev.pos c3 q1))))))
          · simp only [impl_LeaseRun.l1, ew]
            exact Ev.pos (by omega) (Ev.pos h0 (Ev.pos (by omega) (Ev.pos c1 (Ev.pos c2 (Ev.pos (by omega) (Ev.pos c3 q2))))))
        · refine ⟨p, Ev.succ ?_, Ev.succ ?_, p3⟩
          · simp only [spec_LeaseRun.l1, ew]
            exact Ev.pos (by omega) (Ev.pos h0 (Ev.pos (by omega) (Ev.pos c1 (Ev.pos c2 (Ev.pos (by omega) (Ev.neg c3 p1))))))
          · simp only [impl_LeaseRun.l1, ew]
            exact Ev.pos (by omega) (Ev.pos h0 (Ev.pos (by omega) (Ev.pos c1 (Ev.pos c2 (Ev.pos (by omega) (Ev.neg c3 p2))))))
      · refine ⟨p, Ev.succ ?_, Ev.succ ?_, p3⟩
        · simp only [spec_LeaseRun.l1, ew]
          exact Ev.pos (by omega) (Ev.pos h0 (Ev.pos (by omega) (Ev.pos c1 (Ev.neg c2 p1))))
        · simp only [impl_LeaseRun.l1, ew]
          exact Ev.pos (by omega) (Ev.pos h0 (Ev.pos (by omega) (Ev.pos c1 (Ev.neg c2 p2))))
    · refine ⟨p, Ev.succ ?_, Ev.succ ?_, p3⟩
      · simp only [spec_LeaseRun.l1, ew]
        exact Ev.pos (by omega) (Ev.pos h0 (Ev.pos (by omega) (Ev.neg c1 p1)))
      · simp only [impl_LeaseRun.l1, ew]
        exact Ev.pos (by omega) (Ev.pos h0 (Ev.pos (by omega) (Ev.neg c1 p2)))
/-- What a step tells, and what stands behind it. -/
def stp (o : S39) (now ver : Int) (has til : List Int) (busy : Int) : S37 × Int × Int × List Int × List Int :=
  if o.f0 = 1 ∧ 0 ≤ o.f2 ∧ o.f2 ≤ 1000 then (⟨0, 0⟩, wrap64 (now + o.f2), ver, has, til)
  else if o.f0 = 2 ∧ 0 ≤ o.f1 ∧ o.f1 < 8 then (⟨0, ver⟩, now, ver, has.set o.f1.toNat ver, til.set o.f1.toNat (wrap64 (now + 10)))
  else if o.f0 = 3 ∧ 0 ≤ o.f1 ∧ o.f1 < 8 then (if rd has o.f1 = 0 ∨ rd til o.f1 ≤ now then (⟨10, 0⟩, now, ver, has, til) else (⟨0, rd has o.f1⟩, now, ver, has, til))
  else if o.f0 = 4 ∧ 0 ≤ o.f1 ∧ o.f1 < 8 then (⟨0, 0⟩, now, ver, has.set o.f1.toNat 0, til)
  else if o.f0 = 5 then (if busy = 0 then (⟨0, wrap64 (ver + 1)⟩, now, wrap64 (ver + 1), has, til) else (⟨busy, 0⟩, now, ver, has, til))
  else (⟨1, 0⟩, now, ver, has, til)
theorem lease_from (l : List S39) (hl : l.length ≤ 500) (d : Nat) : ∀ (acc : List S37) (now ver : Int) (has til : List Int) (i : Int), has.length = 8 → til.length = 8 → 0 ≤ i → i ≤ l.length → (l.length : Int) - i = d → (acc.length : Int) ≤ i →
    ∃ r : List S37, r.length ≤ 500 ∧ Ev (fun k => spec_LeaseRun.l0 k l acc now ver has til i) (r, 0) ∧ Ev (fun k => impl_LeaseRun.l0 k now ver has til acc l (l.length : Int) i) (r, 0) := by
  induction d with
  | zero =>
    intro acc now ver has til i hh ht h0 h1 hd ha
    exact ⟨acc, by omega, Ev.succ (by simp only [spec_LeaseRun.l0]; exact Ev.neg (by omega) (Ev.some' rfl)), Ev.succ (by simp only [impl_LeaseRun.l0]; exact Ev.neg (by omega) (Ev.some' rfl))⟩
  | succ d ih =>
    intro acc now ver has til i hh ht h0 h1 hd ha
    have ew := wrap_in (i + 1) (by omega) (by omega)
    have hlt : i < l.length := by omega
    have nx : ∀ (c : S37) (now' ver' : Int) (has' til' : List Int), has'.length = 8 → til'.length = 8 → ∃ r : List S37, r.length ≤ 500 ∧ Ev (fun k => spec_LeaseRun.l0 k l (acc ++ [c]) now' ver' has' til' (i + 1)) (r, 0) ∧ Ev (fun k => impl_LeaseRun.l0 k now' ver' has' til' (acc ++ [c]) l (l.length : Int) (i + 1)) (r, 0) :=
      fun c now' ver' has' til' a b => ih (acc ++ [c]) now' ver' has' til' (i + 1) a b (by omega) (by omega) (by omega) (by rw [List.length_append]; simp; omega)
    have hal : acc.length < 8796093022208 := by omega
    obtain ⟨k0, hk⟩ : ∃ k0, (rd_T39 l i).f0 = k0 := ⟨_, rfl⟩
    obtain ⟨nd, hnd⟩ : ∃ nd, (rd_T39 l i).f1 = nd := ⟨_, rfl⟩
    obtain ⟨n, hn⟩ : ∃ n, (rd_T39 l i).f2 = n := ⟨_, rfl⟩
    -- it is enough to come from the tests on
    suffices hx : ∃ r : List S37, r.length ≤ 500 ∧ Ev (fun k => spec_LeaseRun.j1 k l acc now ver has til i (decide (0 ≤ nd) && decide (nd < 8)) k0 nd n 0 0) (r, 0) ∧ Ev (fun k => impl_LeaseRun.j2 k now ver has til acc l (l.length : Int) i (decide (k0 < 1) || (decide (5 < k0) || ((k0 == 2 || (k0 == 3 || k0 == 4)) && !(decide (0 ≤ nd) && decide (nd ≤ 7)) || (k0 == 1) && !(decide (0 ≤ n) && decide (n ≤ 1000))))) k0 nd n 0 0) (r, 0) by
      obtain ⟨r, rl, r1, r2⟩ := hx
      exact ⟨r, rl, sp_in h0 hlt (by rw [hk, hnd, hn]; exact r1), im_in h0 hlt (by rw [hk, hnd, hn]; exact im_bad r2)⟩
    clear hk hnd hn ih
    -- a bad step
    obtain ⟨rb, rbl, rb1, rb2⟩ := nx ⟨1, 0⟩ now ver has til hh ht
    have imb : Ev (fun k => impl_LeaseRun.j2 k now ver has til acc l (l.length : Int) i true k0 nd n 0 0) (rb, 0) := by
      refine Ev.succ ?_
      simp only [impl_LeaseRun.j2, ew]
      exact Ev.pos (by trivial) (Ev.pos hal rb2)
    -- the reference's chain, where no case but the last is met
    have s5 : ∀ v : Bool, v = false → k0 ≠ 5 → Ev (fun k => spec_LeaseRun.j5 k l acc now ver has til i v k0 nd n 0 0) (rb, 0) := by
      rintro v rfl h5
      refine Ev.succ ?_
      simp only [spec_LeaseRun.j5, ew]
      exact Ev.neg (by simp) (Ev.neg h5 (Ev.pos hal rb1))
    by_cases k1 : k0 = 1
    · subst k1
      obtain ⟨p, hp⟩ : ∃ p, (decide (0 ≤ n) && decide (n ≤ 1000)) = p := ⟨_, rfl⟩
      obtain ⟨rg, rgl, rg1, rg2⟩ := nx ⟨0, 0⟩ (wrap64 (now + n)) ver has til hh ht
      have sp : ∀ b, Ev (fun k => spec_LeaseRun.j1 k l acc now ver has til i b 1 nd n 0 0) (if p = true then rg else rb, 0) := by
        intro b
        have s2 : ∀ x, x = p → Ev (fun k => spec_LeaseRun.j2 k l acc now ver has til i b x 1 nd n 0 0) (if p = true then rg else rb, 0) := by
          rintro x rfl
          refine Ev.succ ?_
          simp only [spec_LeaseRun.j2, ew]
          cases x with
          | true => exact Ev.pos rfl (Ev.pos hal rg1)
          | false =>
            refine Ev.neg (by simp) (Ev.neg (by decide) (Ev.succ ?_))
            simp only [spec_LeaseRun.j3]
            refine Ev.neg (by simp) (Ev.neg (by decide) (Ev.succ ?_))
            simp only [spec_LeaseRun.j4]
            exact Ev.neg (by simp) (Ev.neg (by decide) (s5 _ rfl (by decide)))
        refine Ev.succ ?_
        simp only [spec_LeaseRun.j1]
        refine Ev.pos (by trivial) ?_
        by_cases c : n ≥ 0
        · exact Ev.pos c (s2 _ (by rw [← hp, decide_eq_true (show 0 ≤ n from c), Bool.true_and]))
        · exact Ev.neg c (s2 _ (by rw [← hp, decide_eq_false (show ¬ 0 ≤ n from c), Bool.false_and]))
      refine ⟨_, ?_, sp _, ?_⟩
      · split <;> assumption
      · rw [hp]
        cases p with
        | false => exact imb
        | true =>
          refine Ev.succ ?_
          simp only [impl_LeaseRun.j2, ew]
          exact Ev.neg (by simp) (Ev.pos (by trivial) (Ev.pos hal rg2))
    have k1b : (k0 == 1) = false := beq_eq_false_iff_ne.mpr k1
    rw [k1b, Bool.false_and, Bool.or_false]
    have sj1 : ∀ {b : Bool} {R}, Ev (fun k => spec_LeaseRun.j2 k l acc now ver has til i b false k0 nd n 0 0) R → Ev (fun k => spec_LeaseRun.j1 k l acc now ver has til i b k0 nd n 0 0) R := by
      intro b R h
      refine Ev.succ ?_
      simp only [spec_LeaseRun.j1]
      exact Ev.neg k1 h
    obtain ⟨b, hb⟩ : ∃ b, (decide (0 ≤ nd) && decide (nd < 8)) = b := ⟨_, rfl⟩
    have hb7 : (decide (0 ≤ nd) && decide (nd ≤ 7)) = b := by
      rw [← hb]
      congr 1
      exact decide_eq_decide.mpr ⟨fun h => by omega, fun h => by omega⟩
    rw [hb, hb7]
    have hbt : b = true → 0 ≤ nd ∧ nd < 8 := by
      intro e
      rw [e] at hb
      simpa using hb
    clear hb hb7
    by_cases k2 : k0 = 2
    · subst k2
      obtain ⟨rg, rgl, rg1, rg2⟩ := nx ⟨0, ver⟩ now ver (has.set nd.toNat ver) (til.set nd.toNat (wrap64 (now + 10))) (by rw [List.length_set]; exact hh) (by rw [List.length_set]; exact ht)
      cases b with
      | true =>
        obtain ⟨n0, n8⟩ := hbt rfl
        refine ⟨rg, rgl, sj1 (Ev.succ ?_), ?_⟩
        · simp only [spec_LeaseRun.j2]
          refine Ev.neg (by simp) (Ev.pos (by trivial) (Ev.succ ?_))
          simp only [spec_LeaseRun.j3, ew]
          exact Ev.pos (by trivial) (Ev.pos n0 (Ev.pos (by omega) (Ev.pos (by omega) (Ev.pos hal rg1))))
        · refine Ev.succ ?_
          simp only [impl_LeaseRun.j2, ew]
          exact Ev.neg (by decide) (Ev.neg (by decide) (Ev.pos (by trivial) (Ev.pos n0 (Ev.pos n8 (Ev.pos (by omega) (Ev.pos (by omega) (Ev.pos hal rg2)))))))
      | false =>
        refine ⟨rb, rbl, sj1 (Ev.succ ?_), imb⟩
        simp only [spec_LeaseRun.j2]
        refine Ev.neg (by simp) (Ev.pos (by trivial) (Ev.succ ?_))
        simp only [spec_LeaseRun.j3, ew]
        refine Ev.neg (by simp) (Ev.neg (by decide) (Ev.succ ?_))
        simp only [spec_LeaseRun.j4]
        exact Ev.neg (by simp) (Ev.neg (by decide) (s5 _ rfl (by decide)))
    have sj2 : ∀ {b : Bool} {R}, Ev (fun k => spec_LeaseRun.j3 k l acc now ver has til i b false k0 nd n 0 0) R → Ev (fun k => spec_LeaseRun.j1 k l acc now ver has til i b k0 nd n 0 0) R := by
      intro b R h
      refine sj1 (Ev.succ ?_)
      simp only [spec_LeaseRun.j2]
      exact Ev.neg (by simp) (Ev.neg k2 h)
    have k2b : (k0 == 2) = false := beq_eq_false_iff_ne.mpr k2
    rw [k2b, Bool.false_or]
    by_cases k3 : k0 = 3
    · subst k3
      obtain ⟨rg, rgl, rg1, rg2⟩ := nx ⟨10, 0⟩ now ver has til hh ht
      obtain ⟨ru, rul, ru1, ru2⟩ := nx ⟨0, rd has nd⟩ now ver has til hh ht
      cases b with
      | true =>
        obtain ⟨n0, n8⟩ := hbt rfl
        by_cases c1 : rd has nd = 0
        · refine ⟨rg, rgl, sj2 (Ev.succ ?_), ?_⟩
          · simp only [spec_LeaseRun.j3]
            refine Ev.neg (by simp) (Ev.pos (by trivial) (Ev.succ ?_))
            simp only [spec_LeaseRun.j4, ew]
            exact Ev.pos (by trivial) (Ev.pos n0 (Ev.pos (by omega) (Ev.pos c1 (Ev.pos hal rg1))))
          · refine Ev.succ ?_
            simp only [impl_LeaseRun.j2, ew]
            exact Ev.neg (by decide) (Ev.neg (by decide) (Ev.neg (by decide) (Ev.pos (by trivial) (Ev.pos n0 (Ev.pos n8 (Ev.pos (by omega) (Ev.pos c1 (Ev.pos hal rg2))))))))
        · by_cases c2 : rd til nd ≤ now
          · refine ⟨rg, rgl, sj2 (Ev.succ ?_), ?_⟩
            · simp only [spec_LeaseRun.j3]
              refine Ev.neg (by simp) (Ev.pos (by trivial) (Ev.succ ?_))
              simp only [spec_LeaseRun.j4, ew]
              exact Ev.pos (by trivial) (Ev.pos n0 (Ev.pos (by omega) (Ev.neg c1 (Ev.pos (by omega) (Ev.pos c2 (Ev.pos hal rg1))))))
            · refine Ev.succ ?_
              simp only [impl_LeaseRun.j2, ew]
              exact Ev.neg (by decide) (Ev.neg (by decide) (Ev.neg (by decide) (Ev.pos (by trivial) (Ev.pos n0 (Ev.pos n8 (Ev.pos (by omega) (Ev.neg c1 (Ev.pos (by omega) (Ev.pos c2 (Ev.pos hal rg2))))))))))
          · refine ⟨ru, rul, sj2 (Ev.succ ?_), ?_⟩
            · simp only [spec_LeaseRun.j3]
              refine Ev.neg (by simp) (Ev.pos (by trivial) (Ev.succ ?_))
              simp only [spec_LeaseRun.j4, ew]
              exact Ev.pos (by trivial) (Ev.pos n0 (Ev.pos (by omega) (Ev.neg c1 (Ev.pos (by omega) (Ev.neg c2 (Ev.pos hal ru1))))))
            · refine Ev.succ ?_
              simp only [impl_LeaseRun.j2, ew]
              exact Ev.neg (by decide) (Ev.neg (by decide) (Ev.neg (by decide) (Ev.pos (by trivial) (Ev.pos n0 (Ev.pos n8 (Ev.pos (by omega) (Ev.neg c1 (Ev.pos (by omega) (Ev.neg c2 (Ev.pos hal ru2))))))))))
      | false =>
        refine ⟨rb, rbl, sj2 (Ev.succ ?_), imb⟩
        simp only [spec_LeaseRun.j3]
        refine Ev.neg (by simp) (Ev.pos (by trivial) (Ev.succ ?_))
        simp only [spec_LeaseRun.j4]
        exact Ev.neg (by simp) (Ev.neg (by decide) (s5 _ rfl (by decide)))
    have sj3 : ∀ {b : Bool} {R}, Ev (fun k => spec_LeaseRun.j4 k l acc now ver has til i b false k0 nd n 0 0) R → Ev (fun k => spec_LeaseRun.j1 k l acc now ver has til i b k0 nd n 0 0) R := by
      intro b R h
      refine sj2 (Ev.succ ?_)
      simp only [spec_LeaseRun.j3]
      exact Ev.neg (by simp) (Ev.neg k3 h)
    have k3b : (k0 == 3) = false := beq_eq_false_iff_ne.mpr k3
    rw [k3b, Bool.false_or]
    by_cases k4 : k0 = 4
    · subst k4
      obtain ⟨rg, rgl, rg1, rg2⟩ := nx ⟨0, 0⟩ now ver (has.set nd.toNat 0) til (by rw [List.length_set]; exact hh) ht
      cases b with
      | true =>
        obtain ⟨n0, n8⟩ := hbt rfl
        refine ⟨rg, rgl, sj3 (Ev.succ ?_), ?_⟩
        · simp only [spec_LeaseRun.j4]
          refine Ev.neg (by simp) (Ev.pos (by trivial) (Ev.succ ?_))
          simp only [spec_LeaseRun.j5, ew]
          exact Ev.pos (by trivial) (Ev.pos n0 (Ev.pos (by omega) (Ev.pos hal rg1)))
        · refine Ev.succ ?_
          simp only [impl_LeaseRun.j2, ew]
          exact Ev.neg (by decide) (Ev.neg (by decide) (Ev.neg (by decide) (Ev.neg (by decide) (Ev.pos (by trivial) (Ev.pos n0 (Ev.pos n8 (Ev.pos (by omega) (Ev.pos hal rg2))))))))
      | false =>
        refine ⟨rb, rbl, sj3 (Ev.succ ?_), imb⟩
        simp only [spec_LeaseRun.j4]
        exact Ev.neg (by simp) (Ev.pos (by trivial) (s5 _ rfl (by decide)))
    have k4b : (k0 == 4) = false := beq_eq_false_iff_ne.mpr k4
    rw [k4b, Bool.false_and, Bool.or_false]
    by_cases k5 : k0 = 5
    · subst k5
      obtain ⟨rg, rgl, rg1, rg2⟩ := nx ⟨0, wrap64 (ver + 1)⟩ now (wrap64 (ver + 1)) has til hh ht
      obtain ⟨ru, rul, ru1, ru2⟩ := nx ⟨13, 0⟩ now ver has til hh ht
      obtain ⟨c', b1, b2, b3⟩ := busy_both l acc now ver has til i hh ht (fun c => (if c = 0 then rg else ru, 0)) (by
        intro c hc
        refine Ev.succ ?_
        simp only [spec_LeaseRun.l1, ew]
        refine Ev.neg (by decide) ?_
        rcases hc with rfl | rfl
        · exact Ev.pos rfl (Ev.pos hal rg1)
        · exact Ev.neg (by decide) (Ev.pos hal ru1)) (by
        intro c hc
        refine Ev.succ ?_
        simp only [impl_LeaseRun.l1, ew]
        refine Ev.neg (by decide) ?_
        rcases hc with rfl | rfl
        · exact Ev.pos rfl (Ev.pos hal rg2)
        · exact Ev.neg (by decide) (Ev.pos hal ru2)) 8 0 0 (.inl rfl) (by omega) (by omega)
      refine ⟨if c' = 0 then rg else ru, ?_, sj3 (Ev.succ ?_), Ev.succ ?_⟩
      · split <;> assumption
      · simp only [spec_LeaseRun.j4]
        refine Ev.neg (by simp) (Ev.neg (by decide) (Ev.succ ?_))
        simp only [spec_LeaseRun.j5]
        exact Ev.neg (by simp) (Ev.pos (by trivial) b1)
      · simp only [impl_LeaseRun.j2]
        exact Ev.neg (by decide) (Ev.neg (by decide) (Ev.neg (by decide) (Ev.neg (by decide) (Ev.neg (by decide) b2))))
    · refine ⟨rb, rbl, sj3 (Ev.succ ?_), ?_⟩
      · simp only [spec_LeaseRun.j4]
        exact Ev.neg (by simp) (Ev.neg k4 (s5 _ rfl k5))
      · have e : (decide (k0 < 1) || decide (5 < k0)) = true := by
          by_cases c : k0 < 1
          · rw [decide_eq_true c, Bool.true_or]
          · rw [decide_eq_true (show 5 < k0 by omega), Bool.or_true]
        rw [e]
        exact imb
theorem lease_alike (l : List S39) : ∃ (r : List S37) (c : Int), r.length ≤ 500 ∧ Ev (fun k => spec_LeaseRun.f k l) (r, c) ∧ Ev (fun k => impl_LeaseRun.f k l) (r, c) := by
  simp only [spec_LeaseRun.f, impl_LeaseRun.f, Option.bind_some]
  by_cases c : (l.length : Int) > 500
  · exact ⟨[], 1, by simp, Ev.pos c (Ev.some' rfl), Ev.pos c (Ev.some' rfl)⟩
  · obtain ⟨r, rl, r1, r2⟩ := lease_from l (by omega) l.length [] 0 1 [0, 0, 0, 0, 0, 0, 0, 0] [0, 0, 0, 0, 0, 0, 0, 0] 0 rfl rfl (by omega) (by omega) (by omega) (by simp)
    exact ⟨r, 0, rl, Ev.neg c (Ev.pos (by decide) r1), Ev.neg c r2⟩
end Go.Proofs.Ytjnhbegppjeafaa.QFnExactLeaseRunG
