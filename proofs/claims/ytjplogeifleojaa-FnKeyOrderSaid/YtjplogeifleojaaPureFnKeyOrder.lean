/- The order of key bytes: the law holds at every two drawn codes. No condition. -/
import Derived.Test.YtjplogeifleojaaKoDraw
import Derived.Test.YtjplogeifleojaaKoCmp
namespace Go.Proofs.Ytjplogeifleojaa.Pure
set_option linter.unusedVariables false
set_option linter.unusedSimpArgs false
open Go.RowKit Go.Proofs.Ytjplogeifleojaa.QFnKeyOrder Go.Proofs.YtjplogeifleojaaW.PrintWords Go.Proofs.YtjplogeifleojaaW.PrintMore Go.Proofs.YtjplogeifleojaaU Go.Proofs.Ytjplogeifleojaa.QFnKeyOrderR Go.Proofs.Ytjplogeifleojaa.QFnKeyOrderD Go.Proofs.Ytjplogeifleojaa.QFnKeyOrderV Go.Proofs.Ytjplogeifleojaa.QFnKeyOrderO Go.Proofs.Ytjplogeifleojaa.QFnKeyOrderB Go.Proofs.Ytjplogeifleojaa.QFnKeyOrderM
/-- Two values are the same. -/
def Same (x y : S42) : Prop := x.f0 = y.f0 ∧ x.f1 = y.f1 ∧ x.f2 = y.f2 ∧ x.f3 = y.f3
theorem same_eq {x y : S42} (h : Same x y) : x = y := by
  cases x; cases y
  obtain ⟨h1, h2, h3, h4⟩ := h
  simp only at h1 h2 h3 h4
  rw [h1, h2, h3, h4]
theorem same_b (x y : S42) : (!((x.f0) == (y.f0)) || (!((x.f1) == (y.f1)) || (!((x.f2) == (y.f2)) || (!(((x.f3).toList) == ((y.f3).toList)))))) = true ↔ ¬ Same x y := by
  have h : ((x.f3).toList == (y.f3).toList) = decide (x.f3 = y.f3) := by
    rw [Bool.eq_iff_iff, beq_iff_eq, decide_eq_true_eq]; exact ⟨toList_inj, fun h => h ▸ rfl⟩
  have g1 : (x.f0 == y.f0) = decide (x.f0 = y.f0) := rfl
  have g2 : (x.f1 == y.f1) = decide (x.f1 = y.f1) := rfl
  have g3 : (x.f2 == y.f2) = decide (x.f2 = y.f2) := rfl
  unfold Same
  rw [h, g1, g2, g3]
  by_cases h1 : x.f0 = y.f0 <;> by_cases h2 : x.f1 = y.f1 <;> by_cases h3 : x.f2 = y.f2 <;> by_cases h4 : x.f3 = y.f3 <;> simp [h1, h2, h3, h4]
theorem same_from (l m : List S42) (hl : l.length = m.length) (hn : l.length ≤ 1000) (d : Nat) : ∀ i : Nat, i ≤ l.length → l.length - i = d →
    ∃ b : Bool, (b = true ↔ l.drop i = m.drop i) ∧ Ev (fun k => laws_sameValues.l0 k l m (i : Int)) b := by
  induction d with
  | zero =>
    intro i h1 hd
    refine ⟨true, ⟨fun _ => by rw [List.drop_of_length_le (by omega), List.drop_of_length_le (by omega)], fun _ => rfl⟩, Ev.succ ?_⟩
    simp only [laws_sameValues.l0]; exact Ev.neg (by omega) (Ev.some' rfl)
  | succ d ih =>
    intro i h1 hd
    have hi : i < l.length := by omega
    have hj : i < m.length := by omega
    have e1 : rd_T42 l (i : Int) = l[i] := rd42 l (i : Int) (by simpa using hi)
    have e2 : rd_T42 m (i : Int) = m[i] := rd42 m (i : Int) (by simpa using hj)
    by_cases c : Same l[i] m[i]
    · obtain ⟨b, hb, e⟩ := ih (i + 1) (by omega) (by omega)
      refine ⟨b, ?_, Ev.succ ?_⟩
      · rw [hb, List.drop_eq_getElem_cons hi, List.drop_eq_getElem_cons hj, List.cons.injEq]
        exact ⟨fun h => ⟨same_eq c, h⟩, fun h => h.2⟩
      · simp only [laws_sameValues.l0]
        rw [wrap_in _ (by omega) (by omega)]
        refine Ev.pos (by omega) (Ev.pos (by omega) (Ev.pos (by omega) (Ev.neg ?_ e)))
        rw [e1, e2, same_b]; exact fun h => h c
    · refine ⟨false, ⟨fun h => by simp at h, fun h => ?_⟩, Ev.succ ?_⟩
      · rw [List.drop_eq_getElem_cons hi, List.drop_eq_getElem_cons hj] at h
        have e : l[i] = m[i] := (List.cons.inj h).1
        exact absurd (show Same l[i] m[i] by rw [e]; exact ⟨rfl, rfl, rfl, rfl⟩) c
      · simp only [laws_sameValues.l0]
        refine Ev.pos (by omega) (Ev.pos (by omega) (Ev.pos (by omega) (Ev.pos ?_ (Ev.some' rfl))))
        rw [e1, e2, same_b]; exact c
theorem same_ok (l m : List S42) (hn : l.length ≤ 1000) : ∃ b : Bool, (b = true ↔ l = m) ∧ Ev (fun k => laws_sameValues.f k l m) b := by
  simp only [laws_sameValues.f]
  by_cases c : l.length = m.length
  · obtain ⟨b, hb, e⟩ := same_from l m c hn l.length 0 (by omega) (by omega)
    exact ⟨b, by simpa using hb, Ev.pos (by omega) e⟩
  · exact ⟨false, ⟨fun h => by simp at h, fun h => absurd (h ▸ rfl) c⟩, Ev.neg (by omega) (Ev.some' rfl)⟩
/-! ### rows -/
theorem enc_ne (K N S : Int) (t : List Int) : ∃ u r, encI K N S t = u :: r := by
  obtain ⟨r, h⟩ := enc_tag K N S t
  exact ⟨_, r, h⟩
theorem cat_ne : ∀ l m : List S42, RowOK l → RowOK m → l ≠ m → catI l ≠ catI m
  | [], [], _, _, h => absurd rfl h
  | [], y :: m, _, _, _ => by
    obtain ⟨u, r, e⟩ := enc_ne y.f0 y.f1 y.f2 (bnums y.f3)
    rw [catI_cons, e]; exact fun h => by cases h
  | x :: l, [], _, _, _ => by
    obtain ⟨u, r, e⟩ := enc_ne x.f0 x.f1 x.f2 (bnums x.f3)
    rw [catI_cons, e]; exact fun h => by cases h
  | x :: l, y :: m, hl, hm, h => by
    rw [catI_cons, catI_cons]
    rcases value_diff x.f0 x.f1 x.f2 x.f3 y.f0 y.f1 y.f2 y.f3 (hl x List.mem_cons_self) (hm y List.mem_cons_self) with ⟨g, _⟩ | ⟨lt, d, _⟩
    · have e : x = y := same_eq g
      subst e
      intro q
      exact cat_ne l m (fun z hz => hl z (List.mem_cons_of_mem _ hz)) (fun z hz => hm z (List.mem_cons_of_mem _ hz)) (fun e => h (e ▸ rfl)) (List.append_cancel_left q)
    · exact (d.app _ _).ne
theorem loop_ok (l m : List S42) (p q : ByteArray) (hl : RowOK l) (hm : RowOK m) (sl : ∀ x ∈ l, x.f3.size ≤ 201) (sm : ∀ x ∈ m, x.f3.size ≤ 201) (nl : l.length ≤ 1000) (nm : m.length ≤ 1000) (hp : bnums p = catI l) (hq : bnums q = catI m) (d : Nat) :
    ∀ i : Nat, i ≤ l.length → i ≤ m.length → l.length - i = d → l.take i = m.take i → Ev (fun k => laws_FnKeyOrder.l0 k l m p q (i : Int)) true := by
  have hless : ∀ i : Nat, l.take i = m.take i → Op.bytesLess p.toList q.toList = lx (catI (l.drop i)) (catI (m.drop i)) := by
    intro i h
    have e1 : catI l = catI (l.take i) ++ catI (l.drop i) := by unfold catI; rw [← List.flatMap_append, List.take_append_drop]
    have e2 : catI m = catI (m.take i) ++ catI (m.drop i) := by unfold catI; rw [← List.flatMap_append, List.take_append_drop]
    rw [less_nums, hp, hq, e1, e2, h, lx_pre]
  induction d with
  | zero =>
    intro i h1 h2 hd ht
    have hi : i = l.length := by omega
    refine Ev.succ ?_
    simp only [laws_FnKeyOrder.l0]
    refine Ev.neg (by omega) (Ev.succ ?_)
    simp only [laws_FnKeyOrder.j4]
    refine Ev.neg (by simp) (Ev.some' ?_)
    rw [hless i ht, List.drop_of_length_le (show l.length ≤ i by omega)]
    by_cases c : l.length < m.length
    · obtain ⟨u, r, e⟩ := enc_ne (m[i]'(by omega)).f0 (m[i]'(by omega)).f1 (m[i]'(by omega)).f2 (bnums (m[i]'(by omega)).f3)
      rw [List.drop_eq_getElem_cons (show i < m.length by omega), catI_cons, e, decide_eq_true (show (l.length : Int) < m.length by omega)]
      rfl
    · rw [List.drop_of_length_le (show m.length ≤ i by omega), decide_eq_false (show ¬ (l.length : Int) < m.length by omega), lx_self]
      rfl
  | succ d ih =>
    intro i h1 h2 hd ht
    have hi : i < l.length := by omega
    refine Ev.succ ?_
    simp only [laws_FnKeyOrder.l0]
    refine Ev.pos (by omega) ?_
    by_cases hj : i < m.length
    · have e1 : rd_T42 l (i : Int) = l[i] := rd42 l (i : Int) (by simpa using hi)
      have e2 : rd_T42 m (i : Int) = m[i] := rd42 m (i : Int) (by simpa using hj)
      have w : wrap64 ((i : Int) + 1) = ((i + 1 : Nat) : Int) := by rw [wrap_in _ (by omega) (by omega)]; omega
      have vl := hl l[i] (List.getElem_mem hi)
      have vm := hm m[i] (List.getElem_mem hj)
      have zl := sl l[i] (List.getElem_mem hi)
      have zm := sm m[i] (List.getElem_mem hj)
      have hc := cmp_ok _ _ _ _ _ _ _ _ vl vm (by omega) (by omega)
      have hcat : catI (l.drop i) = encI l[i].f0 l[i].f1 l[i].f2 (bnums l[i].f3) ++ catI (l.drop (i + 1)) := by rw [List.drop_eq_getElem_cons hi, catI_cons]
      have hcatm : catI (m.drop i) = encI m[i].f0 m[i].f1 m[i].f2 (bnums m[i].f3) ++ catI (m.drop (i + 1)) := by rw [List.drop_eq_getElem_cons hj, catI_cons]
      have hb := hless i ht
      rw [decide_eq_true (show (i : Int) < m.length by omega)]
      refine Ev.succ ?_
      simp only [laws_FnKeyOrder.j4, e1, e2]
      refine Ev.pos (by trivial) (Ev.pos (by omega) (Ev.pos (by omega) (Ev.pos (by omega) (Ev.bind hc ?_))))
      have j5f : ∀ n : Int, ∀ b : Bool, b = false → (n = 0 → l[i] = m[i]) → (n ≠ 0 → decide (n < 0) = Op.bytesLess p.toList q.toList) → Ev (fun k => laws_FnKeyOrder.j5 k l m p q (i : Int) n b) true := by
        rintro n b rfl h3 h4
        refine Ev.succ ?_
        simp only [laws_FnKeyOrder.j5]
        refine Ev.neg (by simp) ?_
        by_cases c : n = 0
        · refine Ev.pos c ?_
          rw [w]
          refine ih (i + 1) (by omega) (by omega) (by omega) ?_
          rw [List.take_succ_eq_append_getElem hi, List.take_succ_eq_append_getElem hj, ht, h3 c]
        · exact Ev.neg c (Ev.some' (by rw [h4 c]; simp))
      rcases value_diff _ _ _ _ _ _ _ _ vl vm with ⟨g, hr⟩ | ⟨lt, df, hns, h⟩
      · rw [hr]
        refine Ev.pos rfl (Ev.pos rfl (j5f 0 _ ?_ (fun _ => same_eq g) (fun h => absurd rfl h)))
        rw [g.1]; simp
      · have hlt : Op.bytesLess p.toList q.toList = lt := by rw [hb, hcat, hcatm]; exact (df.app _ _).lx
        rcases h with ⟨h3, h4⟩ | ⟨h3, h4, h5⟩ | ⟨h3, h4, h5, h6⟩
        · refine Ev.neg h3 (Ev.some' ?_)
          rw [hlt, h4]; simp
        · refine Ev.pos h3 (Ev.neg h4 (j5f _ _ rfl (fun e => absurd e h4) (fun _ => ?_)))
          rw [hlt, h5]
        · refine Ev.pos h3 (Ev.pos h4 (Ev.succ ?_))
          simp only [laws_FnKeyOrder.j5, e1, e2]
          refine Ev.pos (by simpa using h5) (Ev.pos (by omega) (Ev.pos (by omega) (Ev.pos (by omega) ?_)))
          by_cases c : l[i].f0 > m[i].f0
          · refine Ev.pos c (Ev.neg (by omega) (Ev.some' ?_))
            rw [hlt, h6, decide_eq_false (show ¬ l[i].f0 < m[i].f0 by omega)]; rfl
          · refine Ev.neg c (Ev.neg (by omega) (Ev.some' ?_))
            rw [hlt, h6, decide_eq_true (show l[i].f0 < m[i].f0 by omega)]; rfl
    · rw [decide_eq_false (show ¬ (i : Int) < m.length by omega)]
      refine Ev.succ ?_
      simp only [laws_FnKeyOrder.j4]
      refine Ev.neg (by simp) (Ev.some' ?_)
      obtain ⟨u, r, e⟩ := enc_ne l[i].f0 l[i].f1 l[i].f2 (bnums l[i].f3)
      rw [hless i ht, List.drop_of_length_le (show m.length ≤ i by omega), List.drop_eq_getElem_cons hi, catI_cons, e, decide_eq_false (show ¬ (l.length : Int) < m.length by omega)]
      rfl
/-! ### the law -/
theorem FnKeyOrder (l0 : List Int) (l1 : List Int) (o0 : l0.length ≤ 9223372036854775807 ∧ ∀ x ∈ l0, (Lit.int .u8 x).wf = true) (o1 : l1.length ≤ 9223372036854775807 ∧ ∀ x ∈ l1, (Lit.int .u8 x).wf = true) : ∃ k, laws_FnKeyOrder.f k l0 l1 = some true := by
  refine Ev.at ?_
  simp only [laws_FnKeyOrder.f, laws_big.f, Option.bind_some]
  have jt : ∀ b : Bool, b = true → Ev (fun k => laws_FnKeyOrder.j0 k l0 l1 b) true := by
    rintro b rfl
    exact Ev.succ (by simp only [laws_FnKeyOrder.j0]; exact Ev.pos (by trivial) (Ev.some' rfl))
  by_cases b0 : (l0.length : Int) > 1048576
  · exact Ev.pos (by simpa using b0) (jt _ rfl)
  refine Ev.neg (by simpa using b0) ?_
  by_cases b1 : (l1.length : Int) > 1048576
  · exact jt _ (by simpa using b1)
  rw [decide_eq_false b1]
  obtain ⟨l, dl, sl, _⟩ := keys_drawn (c := l0) (by omega) o0.2
  obtain ⟨m, dm, sm, _⟩ := keys_drawn (c := l1) (by omega) o1.2
  obtain ⟨⟨p, cp⟩, p1, p2, p3⟩ := keys_both l (fun x hx => by have := sl x hx; omega)
  obtain ⟨⟨q, cq⟩, q1, q2, q3⟩ := keys_both m (fun x hx => by have := sm x hx; omega)
  simp only at p3 q3
  have yes : ∀ b : Bool, b = true → Ev (fun k => laws_FnKeyOrder.j2 k l m p q b) true := by
    rintro b rfl
    exact Ev.succ (by simp only [laws_FnKeyOrder.j2]; exact Ev.pos (by trivial) (Ev.some' rfl))
  have hp : ∀ r : ByteArray, (r.toList != r.toList) = false := fun r => by simp
  refine Ev.succ ?_
  simp only [laws_FnKeyOrder.j0]
  refine Ev.neg (by simp) (Ev.bind dl (Ev.bind dm (Ev.bind p1 (Ev.bind q1 (Ev.bind p2 (Ev.bind q2 (Ev.pos rfl (Ev.pos rfl (Ev.pos rfl ?_)))))))))
  rw [hp]
  refine Ev.succ ?_
  simp only [laws_FnKeyOrder.j1]
  refine Ev.neg (by simp) ?_
  by_cases k1 : cp = 0
  · refine Ev.pos k1 ?_
    by_cases k2 : cq = 0
    · obtain ⟨nl, hl, el⟩ := p3 k1
      obtain ⟨nm, hm, em⟩ := q3 k2
      obtain ⟨b, hb, e⟩ := same_ok l m (by omega)
      rw [show (cq != 0) = false by simpa using k2]
      refine Ev.succ ?_
      simp only [laws_FnKeyOrder.j2]
      refine Ev.neg (by simp) (Ev.bind e (Ev.neg ?_ (loop_ok l m p q hl hm sl sm (by omega) (by omega) el em l.length 0 (by omega) (by omega) (by omega) rfl)))
      have hbb : (p.toList == q.toList) = b := by
        rw [Bool.eq_iff_iff, beq_iff_eq, hb]
        constructor
        · intro h
          have h2 : p = q := toList_inj h
          by_cases c : l = m
          · exact c
          · exact absurd (by rw [← el, ← em, h2]) (cat_ne l m hl hm c)
        · intro h
          have h2 : bnums p = bnums q := by rw [el, em, h]
          rw [nums_inj h2]
      rw [hbb]; simp
    · exact yes _ (by simpa using k2)
  · exact Ev.neg k1 (yes _ rfl)
end Go.Proofs.Ytjplogeifleojaa.Pure
