/- A door's run as the law reads it: what is granted is asked for, not granted before, of one Prio in order, and covered by what came in. No condition. -/
import Derived.Test.YtjnhbegppjeafaaQFnDoorx6
import Derived.Test.YtjnhbegppjeafaaDoorI
namespace Go.Proofs.Ytjnhbegppjeafaa.QFnDoorL
set_option linter.unusedVariables false
set_option linter.unusedSimpArgs false
open Go.RowKit Go.Proofs.Ytjnhbegppjeafaa.QFnDoor Go.Proofs.Ytjnhbegppjeafaa.QFnDoorD Go.Proofs.Ytjnhbegppjeafaa.QFnDoorI Go.Proofs.YtjnhbegppjeafaaW.PrintWords Go.Proofs.YtjnhbegppjeafaaU
theorem gr_pre (n : Nat) : ∀ (l : List S78) (t : Int) (g : List Int), ∃ s, (gr n l t g).2.2 = g ++ s := by
  induction n with
  | zero => intro l t g; exact ⟨[], by simp [gr]⟩
  | succ n ih =>
    intro l t g
    simp only [gr]
    by_cases h : l = []
    · rw [if_pos h]; exact ⟨[], by simp⟩
    · rw [if_neg h]
      by_cases c : (rd_T78 l ((top l l.length : Nat) : Int)).f1 > t
      · rw [if_pos c]; exact ⟨[], by simp⟩
      · rw [if_neg c]
        obtain ⟨s, e⟩ := ih (l.take (top l l.length) ++ l.drop (top l l.length + 1)) (t - (rd_T78 l ((top l l.length : Nat) : Int)).f1) (g ++ [(rd_T78 l ((top l l.length : Nat) : Int)).f0])
        exact ⟨(rd_T78 l ((top l l.length : Nat) : Int)).f0 :: s, by rw [e, List.append_assoc]; rfl⟩
theorem law_l2 (x3 : Int) (x5 : List S58) (x6 x8 : List S56) (cs ps : List Int) (ds : List Bool) (room sp x15 x16 : Int) (m i : Nat) (hc : cs.length = m) (hp : ps.length = m) (hd : ds.length = m) (hi : i < m) (hm : m ≤ 500)
    (ho : ∀ j : Nat, j < i → rd ps (j : Int) = rd ps (i : Int) → rdOf false ds (j : Int) = true)
    (h : Ev (fun k => laws_FnDoor.l1 k x3 x5 x6 x8 cs ps (ds.set i true) room (wrap64 (sp + rd cs (i : Int))) x15 (wrap64 (x16 + 1))) true) (d : Nat) :
    ∀ j : Nat, j + d = i → Ev (fun k => laws_FnDoor.l2 k x3 x5 x6 x8 cs ps ds room sp x15 x16 (i : Int) (j : Int)) true := by
  induction d with
  | zero =>
    intro j hj
    refine Ev.succ ?_
    simp only [laws_FnDoor.l2]
    refine Ev.neg (by omega) (Ev.pos (by omega) (Ev.pos (by omega) (Ev.pos (by omega) ?_)))
    rw [Int.toNat_natCast]
    exact h
  | succ d ih =>
    intro j hj
    have w : wrap64 ((j : Int) + 1) = ((j + 1 : Nat) : Int) := by rw [wrap_in _ (by omega) (by omega)]; omega
    have q := ih (j + 1) (by omega)
    refine Ev.succ ?_
    simp only [laws_FnDoor.l2, w]
    refine Ev.pos (by omega) (Ev.pos (by omega) (Ev.pos (by omega) (Ev.pos (by omega) (Ev.pos (by omega) ?_))))
    by_cases c : rd ps (j : Int) = rd ps (i : Int)
    · exact Ev.pos c (Ev.pos (by omega) (Ev.pos (ho j (by omega) c) q))
    · exact Ev.neg c q
theorem law_grants (x3 : Int) (x5 : List S58) (x6 x8 : List S56) (cs ps : List Int) (room : Int) (i m : Nat) (hi : i < x8.length) (hm : m ≤ 500) (n : Nat) :
    ∀ (l : List S78) (t : Int) (g : List Int) (ds : List Bool) (sp : Int), Askers l m cs ps ds → l.length = n → n ≤ 50 → g.length + n ≤ 100 → 0 ≤ t → 0 ≤ sp → t + sp ≤ 1000000000000000000 → t + sp ≤ room → (∀ x ∈ l, 1 ≤ x.f1 ∧ x.f1 ≤ 1000000000000000) → (rd_T56 x8 (i : Int)).f2 = (gr n l t g).2.2 →
      (∀ (ds' : List Bool) (sp' : Int), Askers (gr n l t g).1 m cs ps ds' → 0 ≤ sp' → (gr n l t g).2.1 + sp' = t + sp → Ev (fun k => laws_FnDoor.l0 k x3 x5 x6 x8 cs ps ds' (if room > 2305843009213693952 then 2305843009213693952 else room) sp' ((i + 1 : Nat) : Int)) true) →
      i < 500 → Ev (fun k => laws_FnDoor.l1 k x3 x5 x6 x8 cs ps ds room sp (i : Int) (g.length : Int)) true := by
  have done : ∀ (g : List Int) (ds : List Bool) (sp t : Int), (rd_T56 x8 (i : Int)).f2 = g → 0 ≤ t → 0 ≤ sp → t + sp ≤ 1000000000000000000 → t + sp ≤ room → i < 500 → Ev (fun k => laws_FnDoor.l0 k x3 x5 x6 x8 cs ps ds (if room > 2305843009213693952 then 2305843009213693952 else room) sp ((i + 1 : Nat) : Int)) true → Ev (fun k => laws_FnDoor.l1 k x3 x5 x6 x8 cs ps ds room sp (i : Int) (g.length : Int)) true := by
    intro g ds sp t hG h0 hs hb hr hi5 q
    have w : wrap64 ((i : Int) + 1) = ((i + 1 : Nat) : Int) := by rw [wrap_in _ (by omega) (by omega)]; omega
    refine Ev.succ ?_
    simp only [laws_FnDoor.l1, hG, w]
    refine Ev.pos (by omega) (Ev.pos (by omega) (Ev.neg (by omega) ?_))
    by_cases c : room > 2305843009213693952
    · rw [if_pos c] at q
      exact Ev.pos c (Ev.neg (by omega) q)
    · rw [if_neg c] at q
      exact Ev.neg c (Ev.neg (by omega) q)
  induction n with
  | zero =>
    intro l t g ds sp ha hl hn hg h0 hs hb hr hc hG k hi5
    simp only [gr] at hG k
    exact done g ds sp t hG h0 hs hb hr hi5 (k ds sp ha hs rfl)
  | succ n ih =>
    intro l t g ds sp ha hl hn hg h0 hs hb hr hc hG k hi5
    have hne : l ≠ [] := fun e => by subst e; simp at hl
    have hbb : top l l.length < l.length := bst_lt _ _ (by omega)
    have hmm := hc _ (QFnDoorD.rd_mem l _ hbb)
    obtain ⟨s, es⟩ := gr_pre (n + 1) l t g
    simp only [gr, if_neg hne] at hG k
    by_cases c : (rd_T78 l ((top l l.length : Nat) : Int)).f1 > t
    · rw [if_pos c] at hG k
      exact done g ds sp t hG h0 hs hb hr hi5 (k ds sp ha hs rfl)
    · rw [if_neg c] at hG k
      obtain ⟨j, e0, hj, e1, e2, e3⟩ := ha.inn _ (QFnDoorD.rd_mem l _ hbb)
      obtain ⟨s, es⟩ := gr_pre n (l.take (top l l.length) ++ l.drop (top l l.length + 1)) (t - (rd_T78 l ((top l l.length : Nat) : Int)).f1) (g ++ [(rd_T78 l ((top l l.length : Nat) : Int)).f0])
      have hlen : g.length < (rd_T56 x8 (i : Int)).f2.length := by rw [hG, es]; simp
      have hrd : rd (rd_T56 x8 (i : Int)).f2 (g.length : Int) = (j : Int) := by
        rw [hG, es, ← e0]
        unfold rd
        rw [Int.toNat_natCast, List.getD_eq_getElem?_getD, List.append_assoc, List.getElem?_append_right (Nat.le_refl _), Nat.sub_self]
        rfl
      have w1 : wrap64 ((g.length : Int) + 1) = ((g ++ [(rd_T78 l ((top l l.length : Nat) : Int)).f0]).length : Int) := by rw [wrap_in _ (by omega) (by omega), List.length_append, List.length_singleton]; omega
      have w2 : wrap64 (sp + rd cs (j : Int)) = sp + (rd_T78 l ((top l l.length : Nat) : Int)).f1 := by rw [e1]; exact wrap_in _ (by omega) (by omega)
      have q := ih (l.take (top l l.length) ++ l.drop (top l l.length + 1)) (t - (rd_T78 l ((top l l.length : Nat) : Int)).f1) (g ++ [(rd_T78 l ((top l l.length : Nat) : Int)).f0]) (ds.set j true) (sp + (rd_T78 l ((top l l.length : Nat) : Int)).f1)
        (ha.grant _ j hbb e0) (by rw [List.length_append, List.length_take, List.length_drop]; omega) (by omega) (by rw [List.length_append, List.length_singleton]; omega) (by omega) (by omega) (by omega) (by omega)
        (fun x hx => by
          rcases List.mem_append.mp hx with hx | hx
          · exact hc x (List.mem_of_mem_take hx)
          · exact hc x (List.mem_of_mem_drop hx)) hG
        (fun ds' sp' h1 h2 h3 => k ds' sp' h1 h2 (by omega)) hi5
      refine Ev.succ ?_
      simp only [laws_FnDoor.l1, hrd]
      refine Ev.pos (by omega) (Ev.pos (by omega) (Ev.pos (by omega) (Ev.pos (by omega) (Ev.neg (by omega) (Ev.neg (by rw [ha.c]; omega) (Ev.pos (by omega) (Ev.pos (by rw [ha.d]; omega) ?_)))))))
      rw [e3]
      refine Ev.succ ?_
      simp only [laws_FnDoor.j5]
      refine Ev.neg (by decide) ?_
      have L2 := law_l2 x3 x5 x6 x8 cs ps ds room sp (i : Int) (g.length : Int) m j ha.c ha.p ha.d hj hm (fun j' hj' he => ha.first (by omega) j' j e0 hj' he) (by rw [w1, w2]; exact q) j 0 (by omega)
      exact L2
theorem rd56_drop {l s : List S56} {a : S56} {i : Nat} (h : l.drop i = a :: s) : rd_T56 l (i : Int) = a ∧ i < l.length ∧ l.drop (i + 1) = s := by
  have hi : i < l.length := by
    rcases Nat.lt_or_ge i l.length with h1 | h1
    · exact h1
    · rw [List.drop_of_length_le h1] at h; cases h
  rw [List.drop_eq_getElem_cons hi] at h
  injection h with h1 h2
  refine ⟨?_, hi, h2⟩
  unfold rd_T56
  rw [Int.toNat_natCast, List.getD_eq_getElem?_getD, List.getElem?_eq_getElem hi]
  exact h1
theorem law_run (x0 x1 : Int) (x2 : List S58) (out : List S56) (h0 : 1 ≤ x0 ∧ x0 ≤ 1000000000000000) (h1 : 1 ≤ x1 ∧ x1 ≤ 1000000000000000) (hn : x2.length ≤ 500) (d : Nat) :
    ∀ (i : Nat) (l : List S78) (t : Int) (m : Nat) (cs ps : List Int) (ds : List Bool) (room sp : Int), i + d = x2.length → Inv x1 l t (m : Int) i → Askers l m cs ps ds → out.drop i = run x0 x1 (x2.drop i) l t (m : Int) → 0 ≤ sp → t + sp ≤ room → t + sp ≤ 1000000000000000 * ((i : Int) + 1) → room ≤ 2305843009213693952 →
      Ev (fun k => laws_FnDoor.l0 k x0 x2 out out cs ps ds room sp (i : Int)) true := by
  induction d with
  | zero =>
    intro i l t m cs ps ds room sp hi hv ha ho hs hr hb hR
    rw [List.drop_of_length_le (show x2.length ≤ i by omega)] at ho
    have : out.length ≤ i := by simpa [run] using ho
    refine Ev.succ ?_
    simp only [laws_FnDoor.l0]
    exact Ev.neg (by omega) (Ev.some' rfl)
  | succ d ih =>
    intro i l t m cs ps ds room sp hi hv ha ho hs hr hb hR
    have w : wrap64 ((i : Int) + 1) = ((i + 1 : Nat) : Int) := by rw [wrap_in _ (by omega) (by omega)]; omega
    have hm : m ≤ 500 := by have := hv.id1; omega
    have ht0 := hv.t0
    have ht1 := hv.t1
    have hl50 := hv.len
    have hi2 : (i : Int) < x2.length := by omega
    have hi0 : 0 ≤ (i : Int) := by omega
    have hv2 := gq_inv x0 x1 (rd_T58 x2 (i : Int)) l t m i h0.1 h1.1 hv
    have hop := opn_inv x0 x1 (rd_T58 x2 (i : Int)) l t m i h0.1 h1.1 hv
    rw [drop_cons x2 i (Int.ofNat_lt.1 hi2)] at ho
    simp only [run] at ho
    obtain ⟨er, hlt, ho2⟩ := rd56_drop ho
    clear ho
    have hlt' : (i : Int) < out.length := Int.ofNat_lt.2 hlt
    clear hv
    generalize hO : rd_T58 x2 (i : Int) = o at hv2 hop er ho2
    generalize hE : rd_T56 out (i : Int) = e at er
    obtain ⟨p, hp⟩ : ∃ p, opn x0 x1 o l t m = p := ⟨_, rfl⟩
    rw [hp] at hv2 hop er ho2
    obtain ⟨pc, pi, pl, pt, pn⟩ := p
    dsimp only at hv2 hop er ho2
    obtain ⟨a, b, c, e0, e1, f, g⟩ := hop
    refine Ev.succ ?_
    simp only [laws_FnDoor.l0, hE]
    refine Ev.pos hlt' (Ev.pos hi0 (Ev.pos hlt' (Ev.pos trivial ?_)))
    rw [show ((e.f2.length : Int) != (e.f2.length : Int)) = false by simp]
    refine Ev.succ ?_
    simp only [laws_FnDoor.j2, hE, hO]
    refine Ev.neg (by decide) (Ev.pos hi0 (Ev.pos hlt' ?_))
    by_cases z : pc = 0
    · refine Ev.pos (by rw [er]; exact z) (Ev.pos hi2 ?_)
      simp only [gq, if_pos z] at er hv2 ho2
      -- behind the kinds
      have J3 : ∀ (m' : Nat) (cs' ps' : List Int) (ds' : List Bool) (room' : Int), pn = (m' : Int) → m' ≤ 500 → Askers pl m' cs' ps' ds' → pt + sp ≤ room' → room' ≤ 2305843009213693952 + 1000000000000000000 → Ev (fun k => laws_FnDoor.j3 k x0 x2 out out cs' ps' ds' room' sp (i : Int)) true := by
        intro m' cs' ps' ds' room' hid hm' ha' hr' hR'
        refine Ev.succ ?_
        simp only [laws_FnDoor.j3]
        refine law_grants x0 x2 out out cs' ps' room' i m' hlt hm' _ pl pt [] ds' sp ha' rfl c (by simp only [List.length_nil]; omega) a hs (by omega) hr' (fun x hx => ⟨(f x hx).1, by have := (f x hx).2; omega⟩) (by rw [hE, er]) ?_ (by omega)
        intro ds2 sp2 ha2 hs2 ht2
        subst hid
        have hg2 := hv2.t0
        refine ih (i + 1) _ _ m' cs' ps' ds2 _ sp2 (by omega) hv2 ha2 ho2 hs2 ?_ ?_ ?_
        · rw [ht2]; split <;> omega
        · rw [ht2]; omega
        · split <;> omega
      by_cases c1 : o.f0 = 1 ∧ (1 ≤ o.f1 ∧ o.f1 ≤ x1) ∧ (0 ≤ o.f2 ∧ o.f2 ≤ 9)
      · have hh : l.length ≠ 50 := by
          intro q
          simp only [opn, if_pos c1, if_pos q] at hp
          have := congrArg Prod.fst hp
          dsimp only at this
          omega
        simp only [opn, if_pos c1, if_neg hh, Prod.mk.injEq] at hp
        obtain ⟨_, rfl, rfl, rfl, rfl⟩ := hp
        refine Ev.pos c1.1 (Ev.pos (by rw [er, ha.c]) (Ev.pos (by rw [ha.c]; omega) (Ev.pos (by rw [ha.p]; omega) (Ev.pos (by rw [ha.d]; omega) ?_))))
        exact J3 (m + 1) _ _ _ room (by omega) (by omega) (ha.snoc _ _) hr (by omega)
      · by_cases c2 : o.f0 = 2 ∧ (1 ≤ o.f1 ∧ o.f1 ≤ 1000)
        · have hmul : 1 ≤ o.f1 * x0 ∧ o.f1 * x0 ≤ 1000000000000000000 := by
            constructor
            · have := Int.mul_le_mul c2.2.1 h0.1 (by omega) (by omega); omega
            · have := Int.mul_le_mul c2.2.2 h0.2 (by omega) (by omega); omega
          simp only [opn, if_neg c1, if_pos c2, Prod.mk.injEq] at hp
          obtain ⟨_, rfl, rfl, hpt, rfl⟩ := hp
          refine Ev.neg (by omega) (Ev.pos c2.1 ?_)
          generalize o.f1 * x0 = y at *
          rw [wrap_in y (by omega) (by omega), wrap_in (room + y) (by omega) (by omega)]
          exact J3 m _ _ _ _ rfl hm ha (by rw [← hpt]; split <;> omega) (by omega)
        · by_cases c3 : o.f0 = 3 ∧ (1 ≤ o.f1 ∧ o.f1 ≤ x1)
          · simp only [opn, if_neg c1, if_neg c2, if_pos c3, Prod.mk.injEq] at hp
            obtain ⟨_, rfl, rfl, hpt, rfl⟩ := hp
            refine Ev.neg (by omega) (Ev.neg (by omega) (Ev.pos c3.1 ?_))
            rw [wrap_in (room + o.f1) (by omega) (by omega)]
            exact J3 m _ _ _ _ rfl hm ha (by rw [← hpt]; split <;> omega) (by omega)
          · exfalso
            simp only [opn, if_neg c1, if_neg c2, if_neg c3, Prod.mk.injEq] at hp
            omega
    · refine Ev.neg (by rw [er]; exact z) ?_
      rw [w]
      obtain ⟨u1, u2⟩ := g z
      subst u1 u2
      have hid : pn = (m : Int) := by
        unfold opn at hp
        split at hp
        · split at hp
          · simp only [Prod.mk.injEq] at hp; exact hp.2.2.2.2.symm
          · simp only [Prod.mk.injEq] at hp; omega
        · split at hp
          · simp only [Prod.mk.injEq] at hp; omega
          · split at hp
            · simp only [Prod.mk.injEq] at hp; omega
            · simp only [Prod.mk.injEq] at hp; exact hp.2.2.2.2.symm
      subst hid
      simp only [gq, if_neg z] at hv2 ho2
      exact ih (i + 1) _ _ m cs ps ds room sp (by omega) hv2 ha ho2 hs hr (by omega) hR
theorem Law (a0 a1 : Int) (x2 : List S58) (out : List S56) (h0 : 1 ≤ a0 ∧ a0 ≤ 1000000000000000) (h1 : 1 ≤ a1 ∧ a1 ≤ 1000000000000000) (hn : x2.length ≤ 500) (ho : out = run a0 a1 x2 [] a1 0) :
    Ev (fun k => laws_FnDoor.l0 k a0 x2 out out [] [] [] a1 0 0) true :=
  law_run a0 a1 x2 out h0 h1 hn x2.length 0 [] a1 0 [] [] [] a1 0 (by omega) ⟨by omega, by omega, by simp, by omega, by simp, by simp, .inl rfl⟩ Askers.nil (by simpa using ho) (by omega) (by omega) (by omega) (by omega)
end Go.Proofs.Ytjnhbegppjeafaa.QFnDoorL
