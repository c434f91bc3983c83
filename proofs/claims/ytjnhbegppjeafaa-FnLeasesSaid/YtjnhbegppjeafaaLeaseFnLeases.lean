/- The reference's and the program's LeaseRun come to one list of answers, written out. No condition. -/
import Derived.Test.YtjnhbegppjeafaaQFnLeasesx6
import Derived.Test.YtjnhbegppjeafaaUtil
namespace Go.Proofs.Ytjnhbegppjeafaa.QFnLeasesG
set_option linter.unusedVariables false
set_option linter.unusedSimpArgs false
open Go.RowKit Go.Proofs.Ytjnhbegppjeafaa.QFnLeases Go.Proofs.YtjnhbegppjeafaaW.PrintWords Go.Proofs.YtjnhbegppjeafaaU
theorem kw (a b c : Int) : impl_kWithin.f a b c = some (decide (b ≤ a) && decide (a ≤ c)) := by
  unfold impl_kWithin.f
  by_cases h : a ≥ b
  · rw [if_pos h, decide_eq_true (show b ≤ a from h), Bool.true_and]
  · rw [if_neg h, decide_eq_false (show ¬ b ≤ a from h), Bool.false_and]
theorem sp_in {l : List S39} {acc : List S37} {now ver : Int} {has til : List Int} {i : Int} {R : List S37 × Int} (h0 : 0 ≤ i) (h1 : i < l.length)
    (h : Ev (fun k => spec_LeaseRun.j1 k l acc now ver has til i (decide (0 ≤ (rd_T39 l i).f1) && decide ((rd_T39 l i).f1 < 8)) (rd_T39 l i).f0 (rd_T39 l i).f1 (rd_T39 l i).f2 0 0) R) :
    Ev (fun k => spec_LeaseRun.l0 k l acc now ver has til i) R := by
  refine Ev.succ ?_
  simp only [spec_LeaseRun.l0]
  refine Ev.pos h1 (Ev.pos h0 ?_)
  by_cases c : (rd_T39 l i).f1 ≥ 0
  · rw [decide_eq_true (show 0 ≤ (rd_T39 l i).f1 from c), Bool.true_and] at h
    exact Ev.pos c h
  · rw [decide_eq_false (show ¬ 0 ≤ (rd_T39 l i).f1 from c), Bool.false_and] at h
    exact Ev.neg c h
theorem im_in {l : List S39} {acc : List S37} {now ver : Int} {has til : List Int} {i : Int} {R : List S37 × Int} (h0 : 0 ≤ i) (h1 : i < l.length)
    (h : Ev (fun k => impl_LeaseRun.j1 k now ver has til acc ((rd_T39 l i).f0 == 2 || ((rd_T39 l i).f0 == 3 || (rd_T39 l i).f0 == 4)) l (l.length : Int) i (rd_T39 l i).f0 (rd_T39 l i).f1 (rd_T39 l i).f2 0 0) R) :
    Ev (fun k => impl_LeaseRun.l0 k now ver has til acc l (l.length : Int) i) R := by
  refine Ev.succ ?_
  simp only [impl_LeaseRun.l0]
  refine Ev.pos h1 (Ev.pos h0 (Ev.pos h1 ?_))
  by_cases c : (rd_T39 l i).f0 = 2
  · rw [show ((rd_T39 l i).f0 == 2) = true from beq_iff_eq.mpr c, Bool.true_or] at h
    exact Ev.pos c h
  · rw [show ((rd_T39 l i).f0 == 2) = false from beq_eq_false_iff_ne.mpr c, Bool.false_or] at h
    refine Ev.neg c ?_
    by_cases c3 : (rd_T39 l i).f0 = 3
    · rw [show ((rd_T39 l i).f0 == 3) = true from beq_iff_eq.mpr c3, Bool.true_or] at h
      exact Ev.pos c3 h
    · rw [show ((rd_T39 l i).f0 == 3) = false from beq_eq_false_iff_ne.mpr c3, Bool.false_or] at h
      exact Ev.neg c3 h
/-- Behind the tests of the kind: what the program does with a step that is taken as bad or not. -/
theorem im_bad {l : List S39} {acc : List S37} {now ver : Int} {has til : List Int} {i k0 nd n : Int} {R : List S37 × Int}
    (h : Ev (fun k => impl_LeaseRun.j2 k now ver has til acc l (l.length : Int) i (decide (k0 < 1) || (decide (5 < k0) || ((k0 == 2 || (k0 == 3 || k0 == 4)) && !(decide (0 ≤ nd) && decide (nd ≤ 7)) || (k0 == 1) && !(decide (0 ≤ n) && decide (n ≤ 1000))))) k0 nd n 0 0) R) :
    Ev (fun k => impl_LeaseRun.j1 k now ver has til acc (k0 == 2 || (k0 == 3 || k0 == 4)) l (l.length : Int) i k0 nd n 0 0) R := by
  refine Ev.succ ?_
  simp only [impl_LeaseRun.j1, kw, Option.bind_some]
  by_cases c0 : k0 < 1
  · rw [decide_eq_true c0, Bool.true_or] at h
    exact Ev.pos c0 h
  · rw [decide_eq_false c0, Bool.false_or] at h
    refine Ev.neg c0 ?_
    by_cases c1 : k0 > 5
    · rw [decide_eq_true (show 5 < k0 from c1), Bool.true_or] at h
      exact Ev.pos c1 h
    · rw [decide_eq_false (show ¬ 5 < k0 from c1), Bool.false_or] at h
      refine Ev.neg c1 ?_
      obtain ⟨b, hb⟩ : ∃ b, (k0 == 2 || (k0 == 3 || k0 == 4)) = b := ⟨_, rfl⟩
      rw [hb] at h ⊢
      obtain ⟨p, hp⟩ : ∃ p, (decide (0 ≤ nd) && decide (nd ≤ 7)) = p := ⟨_, rfl⟩
      rw [hp] at h ⊢
      obtain ⟨q, hq⟩ : ∃ q, (decide (0 ≤ n) && decide (n ≤ 1000)) = q := ⟨_, rfl⟩
      rw [hq] at h ⊢
      by_cases c2 : k0 = 1
      · rw [show (k0 == 1) = true from beq_iff_eq.mpr c2] at h
        cases b with
        | true =>
          refine Ev.pos rfl ?_
          cases p with
          | true => exact Ev.pos rfl (Ev.pos c2 (by simpa using h))
          | false => exact Ev.neg (by simp) (by simpa using h)
        | false => exact Ev.neg (by simp) (Ev.pos c2 (by simpa using h))
      · rw [show (k0 == 1) = false from beq_eq_false_iff_ne.mpr c2] at h
        cases b with
        | true =>
          refine Ev.pos rfl ?_
          cases p with
          | true => exact Ev.pos rfl (Ev.neg c2 (by simpa using h))
          | false => exact Ev.neg (by simp) (by simpa using h)
        | false => exact Ev.neg (by simp) (Ev.neg c2 (by simpa using h))
/-- Is the lease of node j one of an elder version, still running? -/
def bat (now ver : Int) (has til : List Int) (j : Int) : Bool := decide (rd has j > 0) && (decide (rd has j < ver) && decide (rd til j > now))
def bz (now ver : Int) (has til : List Int) : Nat → Bool
  | 0 => false
  | d + 1 => bat now ver has til (8 - ((d : Int) + 1)) || bz now ver has til d
theorem bz_false {now ver : Int} {has til : List Int} : ∀ {d : Nat}, d ≤ 8 → bz now ver has til d = false → ∀ j : Int, 8 - (d : Int) ≤ j → j < 8 → bat now ver has til j = false
  | 0, _, _, j, h1, h2 => by omega
  | d + 1, hd, h, j, h1, h2 => by
    unfold bz at h
    rw [Bool.or_eq_false_iff] at h
    by_cases e : j = 8 - ((d : Int) + 1)
    · rw [e]; exact h.1
    · exact bz_false (by omega) h.2 j (by omega) h2
/-- The look for a lease of an elder version: both come to the same. -/
theorem busy_both (l : List S39) (acc : List S37) (now ver : Int) (has til : List Int) (i : Int) (hh : has.length = 8) (ht : til.length = 8) (r : Int → List S37 × Int) (x : Int)
    (hs : Ev (fun k => spec_LeaseRun.l1 k l acc now ver has til i 8 x 0) (r x)) (hi : Ev (fun k => impl_LeaseRun.l1 k now ver has til acc l (l.length : Int) i 8 x 0) (r x)) (d : Nat) :
    ∀ (j : Int) (c : Int), 0 ≤ j → 8 - j = d → (if bz now ver has til d = true then 13 else c) = x → Ev (fun k => spec_LeaseRun.l1 k l acc now ver has til i j c 0) (r x) ∧ Ev (fun k => impl_LeaseRun.l1 k now ver has til acc l (l.length : Int) i j c 0) (r x) := by
  induction d with
  | zero =>
    intro j c h0 hd hx
    obtain rfl : j = 8 := by omega
    obtain rfl : c = x := by simpa [bz] using hx
    exact ⟨hs, hi⟩
  | succ d ih =>
    intro j c h0 hd hx
    have ew := wrap_in (j + 1) (by omega) (by omega)
    have ej : 8 - ((d : Int) + 1) = j := by omega
    unfold bz at hx
    rw [ej] at hx
    by_cases c1 : rd has j > 0
    · by_cases c2 : rd has j < ver
      · by_cases c3 : rd til j > now
        · have eb : bat now ver has til j = true := by unfold bat; rw [decide_eq_true c1, decide_eq_true c2, decide_eq_true c3]; rfl
          rw [eb, Bool.true_or, if_pos rfl] at hx
          obtain ⟨q1, q2⟩ := ih (j + 1) 13 (by omega) (by omega) (by rw [← hx]; split <;> rfl)
          refine ⟨Ev.succ ?_, Ev.succ ?_⟩
          · simp only [spec_LeaseRun.l1, ew]
            exact Ev.pos (by omega) (Ev.pos h0 (Ev.pos (by omega) (Ev.pos c1 (Ev.pos c2 (Ev.pos (by omega) (Ev.pos c3 q1))))))
          · simp only [impl_LeaseRun.l1, ew]
            exact Ev.pos (by omega) (Ev.pos h0 (Ev.pos (by omega) (Ev.pos c1 (Ev.pos c2 (Ev.pos (by omega) (Ev.pos c3 q2))))))
        · have eb : bat now ver has til j = false := by unfold bat; rw [decide_eq_false c3, Bool.and_false, Bool.and_false]
          rw [eb, Bool.false_or] at hx
          obtain ⟨p1, p2⟩ := ih (j + 1) c (by omega) (by omega) hx
          refine ⟨Ev.succ ?_, Ev.succ ?_⟩
          · simp only [spec_LeaseRun.l1, ew]
            exact Ev.pos (by omega) (Ev.pos h0 (Ev.pos (by omega) (Ev.pos c1 (Ev.pos c2 (Ev.pos (by omega) (Ev.neg c3 p1))))))
          · simp only [impl_LeaseRun.l1, ew]
            exact Ev.pos (by omega) (Ev.pos h0 (Ev.pos (by omega) (Ev.pos c1 (Ev.pos c2 (Ev.pos (by omega) (Ev.neg c3 p2))))))
      · have eb : bat now ver has til j = false := by unfold bat; rw [decide_eq_false c2, Bool.false_and, Bool.and_false]
        rw [eb, Bool.false_or] at hx
        obtain ⟨p1, p2⟩ := ih (j + 1) c (by omega) (by omega) hx
        refine ⟨Ev.succ ?_, Ev.succ ?_⟩
        · simp only [spec_LeaseRun.l1, ew]
          exact Ev.pos (by omega) (Ev.pos h0 (Ev.pos (by omega) (Ev.pos c1 (Ev.neg c2 p1))))
        · simp only [impl_LeaseRun.l1, ew]
          exact Ev.pos (by omega) (Ev.pos h0 (Ev.pos (by omega) (Ev.pos c1 (Ev.neg c2 p2))))
    · have eb : bat now ver has til j = false := by unfold bat; rw [decide_eq_false c1, Bool.false_and]
      rw [eb, Bool.false_or] at hx
      obtain ⟨p1, p2⟩ := ih (j + 1) c (by omega) (by omega) hx
      refine ⟨Ev.succ ?_, Ev.succ ?_⟩
      · simp only [spec_LeaseRun.l1, ew]
        exact Ev.pos (by omega) (Ev.pos h0 (Ev.pos (by omega) (Ev.neg c1 p1)))
      · simp only [impl_LeaseRun.l1, ew]
        exact Ev.pos (by omega) (Ev.pos h0 (Ev.pos (by omega) (Ev.neg c1 p2)))
/-- What a step tells, and what stands behind it. -/
def stp (k0 nd n now ver : Int) (has til : List Int) : S37 × Int × Int × List Int × List Int :=
  if k0 = 1 ∧ 0 ≤ n ∧ n ≤ 1000 then (⟨0, 0⟩, wrap64 (now + n), ver, has, til)
  else if k0 = 2 ∧ 0 ≤ nd ∧ nd < 8 then (⟨0, ver⟩, now, ver, has.set nd.toNat ver, til.set nd.toNat (wrap64 (now + 10)))
  else if k0 = 3 ∧ 0 ≤ nd ∧ nd < 8 then (if rd has nd = 0 ∨ rd til nd ≤ now then (⟨10, 0⟩, now, ver, has, til) else (⟨0, rd has nd⟩, now, ver, has, til))
  else if k0 = 4 ∧ 0 ≤ nd ∧ nd < 8 then (⟨0, 0⟩, now, ver, has.set nd.toNat 0, til)
  else if k0 = 5 then (if bz now ver has til 8 = true then (⟨13, 0⟩, now, ver, has, til) else (⟨0, wrap64 (ver + 1)⟩, now, wrap64 (ver + 1), has, til))
  else (⟨1, 0⟩, now, ver, has, til)
theorem stp_bad {k0 nd n now ver : Int} {has til : List Int} (h1 : k0 = 1 → ¬ (0 ≤ n ∧ n ≤ 1000)) (h2 : k0 = 2 ∨ k0 = 3 ∨ k0 = 4 → ¬ (0 ≤ nd ∧ nd < 8)) (h5 : k0 ≠ 5) : stp k0 nd n now ver has til = (⟨1, 0⟩, now, ver, has, til) := by
  unfold stp
  rw [if_neg (fun h => h1 h.1 h.2), if_neg (fun h => h2 (.inl h.1) h.2), if_neg (fun h => h2 (.inr (.inl h.1)) h.2), if_neg (fun h => h2 (.inr (.inr h.1)) h.2), if_neg h5]
def run : List S39 → Int → Int → List Int → List Int → List S37
  | [], _, _, _, _ => []
  | o :: os, now, ver, has, til => (stp o.f0 o.f1 o.f2 now ver has til).1 :: run os (stp o.f0 o.f1 o.f2 now ver has til).2.1 (stp o.f0 o.f1 o.f2 now ver has til).2.2.1 (stp o.f0 o.f1 o.f2 now ver has til).2.2.2.1 (stp o.f0 o.f1 o.f2 now ver has til).2.2.2.2
theorem run_len : ∀ (os : List S39) (now ver : Int) (has til : List Int), (run os now ver has til).length = os.length
  | [], _, _, _, _ => rfl
  | o :: os, _, _, _, _ => by unfold run; rw [List.length_cons, List.length_cons, run_len os]
theorem run_at (l : List S39) (i : Int) (h0 : 0 ≤ i) (h1 : i < l.length) {now ver : Int} {has til : List Int} {c : S37} {now' ver' : Int} {has' til' : List Int}
    (e : stp (rd_T39 l i).f0 (rd_T39 l i).f1 (rd_T39 l i).f2 now ver has til = (c, now', ver', has', til')) : run (l.drop i.toNat) now ver has til = c :: run (l.drop (i + 1).toNat) now' ver' has' til' := by
  have hi : i.toNat < l.length := by omega
  have e2 : (i + 1).toNat = i.toNat + 1 := by omega
  have e3 : rd_T39 l i = l[i.toNat] := by unfold rd_T39; rw [List.getD_eq_getElem?_getD, List.getElem?_eq_getElem hi]; rfl
  rw [List.drop_eq_getElem_cons hi, e2]
  rw [e3] at e
  rw [run, e]
theorem lease_from (l : List S39) (hl : l.length ≤ 500) (d : Nat) : ∀ (acc : List S37) (now ver : Int) (has til : List Int) (i : Int), has.length = 8 → til.length = 8 → 0 ≤ i → i ≤ l.length → (l.length : Int) - i = d → (acc.length : Int) ≤ i →
    Ev (fun k => spec_LeaseRun.l0 k l acc now ver has til i) (acc ++ run (l.drop i.toNat) now ver has til, 0) ∧ Ev (fun k => impl_LeaseRun.l0 k now ver has til acc l (l.length : Int) i) (acc ++ run (l.drop i.toNat) now ver has til, 0) := by
  induction d with
  | zero =>
    intro acc now ver has til i hh ht h0 h1 hd ha
    have e0 : acc ++ run (l.drop i.toNat) now ver has til = acc := by rw [List.drop_of_length_le (by omega)]; simp [run]
    rw [e0]
    exact ⟨Ev.succ (by simp only [spec_LeaseRun.l0]; exact Ev.neg (by omega) (Ev.some' rfl)), Ev.succ (by simp only [impl_LeaseRun.l0]; exact Ev.neg (by omega) (Ev.some' rfl))⟩
  | succ d ih =>
    intro acc now ver has til i hh ht h0 h1 hd ha
    have ew := wrap_in (i + 1) (by omega) (by omega)
    have hlt : i < l.length := by omega
    have hal : acc.length < 8796093022208 := by omega
    obtain ⟨k0, hk⟩ : ∃ k0, (rd_T39 l i).f0 = k0 := ⟨_, rfl⟩
    obtain ⟨nd, hnd⟩ : ∃ nd, (rd_T39 l i).f1 = nd := ⟨_, rfl⟩
    obtain ⟨n, hn⟩ : ∃ n, (rd_T39 l i).f2 = n := ⟨_, rfl⟩
    obtain ⟨R, hR⟩ : ∃ R, acc ++ run (l.drop i.toNat) now ver has til = R := ⟨_, rfl⟩
    have nx : ∀ (c : S37) (now' ver' : Int) (has' til' : List Int), has'.length = 8 → til'.length = 8 → stp k0 nd n now ver has til = (c, now', ver', has', til') → Ev (fun k => spec_LeaseRun.l0 k l (acc ++ [c]) now' ver' has' til' (i + 1)) (R, 0) ∧ Ev (fun k => impl_LeaseRun.l0 k now' ver' has' til' (acc ++ [c]) l (l.length : Int) (i + 1)) (R, 0) := by
      intro c now' ver' has' til' a b e
      have h := ih (acc ++ [c]) now' ver' has' til' (i + 1) a b (by omega) (by omega) (by omega) (by rw [List.length_append, List.length_singleton]; omega)
      have e2 := run_at l i h0 hlt (now := now) (ver := ver) (has := has) (til := til) (c := c) (now' := now') (ver' := ver') (has' := has') (til' := til') (by rw [hk, hnd, hn]; exact e)
      have e3 : acc ++ [c] ++ run (l.drop (i + 1).toNat) now' ver' has' til' = R := by rw [← hR, e2, List.append_assoc]; rfl
      rw [e3] at h
      exact h
    rw [hR]
    -- it is enough to come from the tests on
    suffices hx : Ev (fun k => spec_LeaseRun.j1 k l acc now ver has til i (decide (0 ≤ nd) && decide (nd < 8)) k0 nd n 0 0) (R, 0) ∧ Ev (fun k => impl_LeaseRun.j2 k now ver has til acc l (l.length : Int) i (decide (k0 < 1) || (decide (5 < k0) || ((k0 == 2 || (k0 == 3 || k0 == 4)) && !(decide (0 ≤ nd) && decide (nd ≤ 7)) || (k0 == 1) && !(decide (0 ≤ n) && decide (n ≤ 1000))))) k0 nd n 0 0) (R, 0) by
      obtain ⟨r1, r2⟩ := hx
      exact ⟨sp_in h0 hlt (by rw [hk, hnd, hn]; exact r1), im_in h0 hlt (by rw [hk, hnd, hn]; exact im_bad r2)⟩
    clear hk hnd hn ih hR
    -- a bad step
    have imb : stp k0 nd n now ver has til = (⟨1, 0⟩, now, ver, has, til) → Ev (fun k => impl_LeaseRun.j2 k now ver has til acc l (l.length : Int) i true k0 nd n 0 0) (R, 0) := by
      intro e
      obtain ⟨rb1, rb2⟩ := nx ⟨1, 0⟩ now ver has til hh ht e
      refine Ev.succ ?_
      simp only [impl_LeaseRun.j2, ew]
      exact Ev.pos (by trivial) (Ev.pos hal rb2)
    -- the reference's chain, where no case but the last is met
    have s5 : stp k0 nd n now ver has til = (⟨1, 0⟩, now, ver, has, til) → ∀ v : Bool, v = false → k0 ≠ 5 → Ev (fun k => spec_LeaseRun.j5 k l acc now ver has til i v k0 nd n 0 0) (R, 0) := by
      rintro e v rfl h5
      obtain ⟨rb1, rb2⟩ := nx ⟨1, 0⟩ now ver has til hh ht e
      refine Ev.succ ?_
      simp only [spec_LeaseRun.j5, ew]
      exact Ev.neg (by simp) (Ev.neg h5 (Ev.pos hal rb1))
    by_cases k1 : k0 = 1
    · subst k1
      obtain ⟨p, hp⟩ : ∃ p, (decide (0 ≤ n) && decide (n ≤ 1000)) = p := ⟨_, rfl⟩
      have ebad : p = false → stp 1 nd n now ver has til = (⟨1, 0⟩, now, ver, has, til) := fun e => stp_bad (fun _ h => by rw [e, decide_eq_true h.1, decide_eq_true h.2] at hp; cases hp) (fun h => by omega) (by omega)
      have egood : p = true → stp 1 nd n now ver has til = (⟨0, 0⟩, wrap64 (now + n), ver, has, til) := fun e => by
        rw [e, Bool.and_eq_true, decide_eq_true_eq, decide_eq_true_eq] at hp
        unfold stp
        rw [if_pos ⟨rfl, hp.1, hp.2⟩]
      have sp : ∀ b, Ev (fun k => spec_LeaseRun.j1 k l acc now ver has til i b 1 nd n 0 0) (R, 0) := by
        intro b
        have s2 : ∀ x, x = p → Ev (fun k => spec_LeaseRun.j2 k l acc now ver has til i b x 1 nd n 0 0) (R, 0) := by
          rintro x rfl
          refine Ev.succ ?_
          simp only [spec_LeaseRun.j2, ew]
          cases x with
          | true => exact Ev.pos rfl (Ev.pos hal (nx _ _ _ _ _ hh ht (egood rfl)).1)
          | false =>
            refine Ev.neg (by simp) (Ev.neg (by decide) (Ev.succ ?_))
            simp only [spec_LeaseRun.j3]
            refine Ev.neg (by simp) (Ev.neg (by decide) (Ev.succ ?_))
            simp only [spec_LeaseRun.j4]
            exact Ev.neg (by simp) (Ev.neg (by decide) (s5 (ebad rfl) _ rfl (by decide)))
        refine Ev.succ ?_
        simp only [spec_LeaseRun.j1]
        refine Ev.pos (by trivial) ?_
        by_cases c : n ≥ 0
        · exact Ev.pos c (s2 _ (by rw [← hp, decide_eq_true (show 0 ≤ n from c), Bool.true_and]))
        · exact Ev.neg c (s2 _ (by rw [← hp, decide_eq_false (show ¬ 0 ≤ n from c), Bool.false_and]))
      refine ⟨sp _, ?_⟩
      rw [hp]
      cases p with
      | false => exact imb (ebad rfl)
      | true =>
        refine Ev.succ ?_
        simp only [impl_LeaseRun.j2, ew]
        exact Ev.neg (by simp) (Ev.pos (by trivial) (Ev.pos hal (nx _ _ _ _ _ hh ht (egood rfl)).2))
    have k1b : (k0 == 1) = false := beq_eq_false_iff_ne.mpr k1
    rw [k1b, Bool.false_and, Bool.or_false]
    have sj1 : ∀ {b : Bool} {R}, Ev (fun k => spec_LeaseRun.j2 k l acc now ver has til i b false k0 nd n 0 0) R → Ev (fun k => spec_LeaseRun.j1 k l acc now ver has til i b k0 nd n 0 0) R := by
      intro b R h
      refine Ev.succ ?_
      simp only [spec_LeaseRun.j1]
      exact Ev.neg k1 h
    obtain ⟨b, hb⟩ : ∃ b, (decide (0 ≤ nd) && decide (nd < 8)) = b := ⟨_, rfl⟩
    have hb7 : (decide (0 ≤ nd) && decide (nd ≤ 7)) = b := by
      rw [← hb]
      congr 1
      exact decide_eq_decide.mpr ⟨fun h => by omega, fun h => by omega⟩
    rw [hb, hb7]
    have hbt : b = true → 0 ≤ nd ∧ nd < 8 := by
      intro e
      rw [e] at hb
      simpa using hb
    have ebad : b = false → k0 ≠ 5 → stp k0 nd n now ver has til = (⟨1, 0⟩, now, ver, has, til) := fun e h5 => stp_bad (fun h => absurd h k1) (fun _ h => by rw [e, decide_eq_true h.1, decide_eq_true h.2] at hb; cases hb) h5
    clear hb hb7
    by_cases k2 : k0 = 2
    · subst k2
      cases b with
      | true =>
        obtain ⟨n0, n8⟩ := hbt rfl
        obtain ⟨rg1, rg2⟩ := nx ⟨0, ver⟩ now ver (has.set nd.toNat ver) (til.set nd.toNat (wrap64 (now + 10))) (by rw [List.length_set]; exact hh) (by rw [List.length_set]; exact ht) (by unfold stp; rw [if_neg (by omega), if_pos ⟨rfl, n0, n8⟩])
        refine ⟨sj1 (Ev.succ ?_), ?_⟩
        · simp only [spec_LeaseRun.j2]
          refine Ev.neg (by simp) (Ev.pos (by trivial) (Ev.succ ?_))
          simp only [spec_LeaseRun.j3, ew]
          exact Ev.pos (by trivial) (Ev.pos n0 (Ev.pos (by omega) (Ev.pos (by omega) (Ev.pos hal rg1))))
        · refine Ev.succ ?_
          simp only [impl_LeaseRun.j2, ew]
          exact Ev.neg (by decide) (Ev.neg (by decide) (Ev.pos (by trivial) (Ev.pos n0 (Ev.pos n8 (Ev.pos (by omega) (Ev.pos (by omega) (Ev.pos hal rg2)))))))
      | false =>
        refine ⟨sj1 (Ev.succ ?_), imb (ebad rfl (by decide))⟩
        simp only [spec_LeaseRun.j2]
        refine Ev.neg (by simp) (Ev.pos (by trivial) (Ev.succ ?_))
        simp only [spec_LeaseRun.j3, ew]
        refine Ev.neg (by simp) (Ev.neg (by decide) (Ev.succ ?_))
        simp only [spec_LeaseRun.j4]
        exact Ev.neg (by simp) (Ev.neg (by decide) (s5 (ebad rfl (by decide)) _ rfl (by decide)))
    have sj2 : ∀ {b : Bool} {R}, Ev (fun k => spec_LeaseRun.j3 k l acc now ver has til i b false k0 nd n 0 0) R → Ev (fun k => spec_LeaseRun.j1 k l acc now ver has til i b k0 nd n 0 0) R := by
      intro b R h
      refine sj1 (Ev.succ ?_)
      simp only [spec_LeaseRun.j2]
      exact Ev.neg (by simp) (Ev.neg k2 h)
    have k2b : (k0 == 2) = false := beq_eq_false_iff_ne.mpr k2
    rw [k2b, Bool.false_or]
    by_cases k3 : k0 = 3
    · subst k3
      cases b with
      | true =>
        obtain ⟨n0, n8⟩ := hbt rfl
        have st3 : stp 3 nd n now ver has til = (if rd has nd = 0 ∨ rd til nd ≤ now then (⟨10, 0⟩, now, ver, has, til) else (⟨0, rd has nd⟩, now, ver, has, til)) := by unfold stp; rw [if_neg (by omega), if_neg (by omega), if_pos ⟨rfl, n0, n8⟩]
        have rg := fun (h : rd has nd = 0 ∨ rd til nd ≤ now) => nx ⟨10, 0⟩ now ver has til hh ht (by rw [st3, if_pos h])
        have ru := fun (h : ¬ (rd has nd = 0 ∨ rd til nd ≤ now)) => nx ⟨0, rd has nd⟩ now ver has til hh ht (by rw [st3, if_neg h])
        by_cases c1 : rd has nd = 0
        · refine ⟨sj2 (Ev.succ ?_), ?_⟩
          · simp only [spec_LeaseRun.j3]
            refine Ev.neg (by simp) (Ev.pos (by trivial) (Ev.succ ?_))
            simp only [spec_LeaseRun.j4, ew]
            exact Ev.pos (by trivial) (Ev.pos n0 (Ev.pos (by omega) (Ev.pos c1 (Ev.pos hal (rg (.inl c1)).1))))
          · refine Ev.succ ?_
            simp only [impl_LeaseRun.j2, ew]
            exact Ev.neg (by decide) (Ev.neg (by decide) (Ev.neg (by decide) (Ev.pos (by trivial) (Ev.pos n0 (Ev.pos n8 (Ev.pos (by omega) (Ev.pos c1 (Ev.pos hal (rg (.inl c1)).2))))))))
        · by_cases c2 : rd til nd ≤ now
          · refine ⟨sj2 (Ev.succ ?_), ?_⟩
            · simp only [spec_LeaseRun.j3]
              refine Ev.neg (by simp) (Ev.pos (by trivial) (Ev.succ ?_))
              simp only [spec_LeaseRun.j4, ew]
              exact Ev.pos (by trivial) (Ev.pos n0 (Ev.pos (by omega) (Ev.neg c1 (Ev.pos (by omega) (Ev.pos c2 (Ev.pos hal (rg (.inr c2)).1))))))
            · refine Ev.succ ?_
              simp only [impl_LeaseRun.j2, ew]
              exact Ev.neg (by decide) (Ev.neg (by decide) (Ev.neg (by decide) (Ev.pos (by trivial) (Ev.pos n0 (Ev.pos n8 (Ev.pos (by omega) (Ev.neg c1 (Ev.pos (by omega) (Ev.pos c2 (Ev.pos hal (rg (.inr c2)).2))))))))))
          · refine ⟨sj2 (Ev.succ ?_), ?_⟩
            · simp only [spec_LeaseRun.j3]
              refine Ev.neg (by simp) (Ev.pos (by trivial) (Ev.succ ?_))
              simp only [spec_LeaseRun.j4, ew]
              exact Ev.pos (by trivial) (Ev.pos n0 (Ev.pos (by omega) (Ev.neg c1 (Ev.pos (by omega) (Ev.neg c2 (Ev.pos hal (ru (fun h => h.elim c1 c2)).1))))))
            · refine Ev.succ ?_
              simp only [impl_LeaseRun.j2, ew]
              exact Ev.neg (by decide) (Ev.neg (by decide) (Ev.neg (by decide) (Ev.pos (by trivial) (Ev.pos n0 (Ev.pos n8 (Ev.pos (by omega) (Ev.neg c1 (Ev.pos (by omega) (Ev.neg c2 (Ev.pos hal (ru (fun h => h.elim c1 c2)).2))))))))))
      | false =>
        refine ⟨sj2 (Ev.succ ?_), imb (ebad rfl (by decide))⟩
        simp only [spec_LeaseRun.j3]
        refine Ev.neg (by simp) (Ev.pos (by trivial) (Ev.succ ?_))
        simp only [spec_LeaseRun.j4]
        exact Ev.neg (by simp) (Ev.neg (by decide) (s5 (ebad rfl (by decide)) _ rfl (by decide)))
    have sj3 : ∀ {b : Bool} {R}, Ev (fun k => spec_LeaseRun.j4 k l acc now ver has til i b false k0 nd n 0 0) R → Ev (fun k => spec_LeaseRun.j1 k l acc now ver has til i b k0 nd n 0 0) R := by
      intro b R h
      refine sj2 (Ev.succ ?_)
      simp only [spec_LeaseRun.j3]
      exact Ev.neg (by simp) (Ev.neg k3 h)
    have k3b : (k0 == 3) = false := beq_eq_false_iff_ne.mpr k3
    rw [k3b, Bool.false_or]
    by_cases k4 : k0 = 4
    · subst k4
      cases b with
      | true =>
        obtain ⟨n0, n8⟩ := hbt rfl
        obtain ⟨rg1, rg2⟩ := nx ⟨0, 0⟩ now ver (has.set nd.toNat 0) til (by rw [List.length_set]; exact hh) ht (by unfold stp; rw [if_neg (by omega), if_neg (by omega), if_neg (by omega), if_pos ⟨rfl, n0, n8⟩])
        refine ⟨sj3 (Ev.succ ?_), ?_⟩
        · simp only [spec_LeaseRun.j4]
          refine Ev.neg (by simp) (Ev.pos (by trivial) (Ev.succ ?_))
          simp only [spec_LeaseRun.j5, ew]
          exact Ev.pos (by trivial) (Ev.pos n0 (Ev.pos (by omega) (Ev.pos hal rg1)))
        · refine Ev.succ ?_
          simp only [impl_LeaseRun.j2, ew]
          exact Ev.neg (by decide) (Ev.neg (by decide) (Ev.neg (by decide) (Ev.neg (by decide) (Ev.pos (by trivial) (Ev.pos n0 (Ev.pos n8 (Ev.pos (by omega) (Ev.pos hal rg2))))))))
      | false =>
        refine ⟨sj3 (Ev.succ ?_), imb (ebad rfl (by decide))⟩
        simp only [spec_LeaseRun.j4]
        exact Ev.neg (by simp) (Ev.pos (by trivial) (s5 (ebad rfl (by decide)) _ rfl (by decide)))
    have k4b : (k0 == 4) = false := beq_eq_false_iff_ne.mpr k4
    rw [k4b, Bool.false_and, Bool.or_false]
    by_cases k5 : k0 = 5
    · subst k5
      have st5 : stp 5 nd n now ver has til = (if bz now ver has til 8 = true then (⟨13, 0⟩, now, ver, has, til) else (⟨0, wrap64 (ver + 1)⟩, now, wrap64 (ver + 1), has, til)) := by unfold stp; rw [if_neg (by omega), if_neg (by omega), if_neg (by omega), if_neg (by omega), if_pos rfl]
      obtain ⟨z, hz⟩ : ∃ z, bz now ver has til 8 = z := ⟨_, rfl⟩
      obtain ⟨b1, b2⟩ := busy_both l acc now ver has til i hh ht (fun _ => (R, 0)) (if z = true then 13 else 0) (by
        refine Ev.succ ?_
        simp only [spec_LeaseRun.l1, ew]
        refine Ev.neg (by decide) ?_
        cases z with
        | false => exact Ev.pos (by trivial) (Ev.pos hal (nx ⟨0, wrap64 (ver + 1)⟩ now (wrap64 (ver + 1)) has til hh ht (by rw [st5, if_neg (by rw [hz]; decide)])).1)
        | true => exact Ev.neg (by decide) (Ev.pos hal (nx ⟨13, 0⟩ now ver has til hh ht (by rw [st5, if_pos hz])).1)) (by
        refine Ev.succ ?_
        simp only [impl_LeaseRun.l1, ew]
        refine Ev.neg (by decide) ?_
        cases z with
        | false => exact Ev.pos (by trivial) (Ev.pos hal (nx ⟨0, wrap64 (ver + 1)⟩ now (wrap64 (ver + 1)) has til hh ht (by rw [st5, if_neg (by rw [hz]; decide)])).2)
        | true => exact Ev.neg (by decide) (Ev.pos hal (nx ⟨13, 0⟩ now ver has til hh ht (by rw [st5, if_pos hz])).2)) 8 0 0 (by omega) (by omega) (by rw [hz])
      refine ⟨sj3 (Ev.succ ?_), Ev.succ ?_⟩
      · simp only [spec_LeaseRun.j4]
        refine Ev.neg (by simp) (Ev.neg (by decide) (Ev.succ ?_))
        simp only [spec_LeaseRun.j5]
        exact Ev.neg (by simp) (Ev.pos (by trivial) b1)
      · simp only [impl_LeaseRun.j2]
        exact Ev.neg (by decide) (Ev.neg (by decide) (Ev.neg (by decide) (Ev.neg (by decide) (Ev.neg (by decide) b2))))
    · have eb : stp k0 nd n now ver has til = (⟨1, 0⟩, now, ver, has, til) := stp_bad (fun h => absurd h k1) (fun h => by omega) k5
      refine ⟨sj3 (Ev.succ ?_), ?_⟩
      · simp only [spec_LeaseRun.j4]
        exact Ev.neg (by simp) (Ev.neg k4 (s5 eb _ rfl k5))
      · have e : (decide (k0 < 1) || decide (5 < k0)) = true := by
          by_cases c : k0 < 1
          · rw [decide_eq_true c, Bool.true_or]
          · rw [decide_eq_true (show 5 < k0 by omega), Bool.or_true]
        rw [e]
        exact imb eb
theorem lease_run (l : List S39) (hl : l.length ≤ 500) : Ev (fun k => spec_LeaseRun.f k l) (run l 0 1 [0, 0, 0, 0, 0, 0, 0, 0] [0, 0, 0, 0, 0, 0, 0, 0], 0) ∧ Ev (fun k => impl_LeaseRun.f k l) (run l 0 1 [0, 0, 0, 0, 0, 0, 0, 0] [0, 0, 0, 0, 0, 0, 0, 0], 0) := by
  simp only [spec_LeaseRun.f, impl_LeaseRun.f, Option.bind_some]
  obtain ⟨r1, r2⟩ := lease_from l hl l.length [] 0 1 [0, 0, 0, 0, 0, 0, 0, 0] [0, 0, 0, 0, 0, 0, 0, 0] 0 rfl rfl (by omega) (by omega) (by omega) (by simp)
  simp only [List.nil_append, Int.toNat_zero, List.drop_zero] at r1 r2
  exact ⟨Ev.neg (by omega) (Ev.pos (by decide) r1), Ev.neg (by omega) r2⟩
end Go.Proofs.Ytjnhbegppjeafaa.QFnLeasesG
