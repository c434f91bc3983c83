/- In a drawn run of clocks what each node tells grows strictly, and whatever a node tells behind a message that it has seen is later than that one's time. No condition but that the drawn bytes are bytes. -/
import Derived.Test.YtiolnbhcmoafjaaQFnClocksx7
import Derived.Test.YtiolnbhcmoafjaaClkD
import Derived.Test.YtiolnbhcmoafjaaClkC
namespace Go.Proofs.Ytiolnbhcmoafjaa.Pure
set_option linter.unusedVariables false
set_option linter.unusedSimpArgs false
open Go.RowKit Go.Proofs.Ytiolnbhcmoafjaa.QFnClocks Go.Proofs.Ytiolnbhcmoafjaa.QFnClocksD Go.Proofs.YtiolnbhcmoafjaaW.PrintWords Go.Proofs.YtiolnbhcmoafjaaU Go.Proofs.Ytiolnbhcmoafjaa.QFnClocksR
theorem wall_ok {c : List Int} {a s : Int} (h : Cur c a s) (ha : a ≤ 1000000) : ∃ v a' s', spec_l02DrawWall.f c a s = some (v, a', s') ∧ Cur c a' s' ∧ a' ≤ a + 6 := by
  obtain ⟨v1, a1, s1, e1, c1, b1, n1, _, m1, _⟩ := pick_ok h (by omega) 50
  obtain ⟨v2, a2, s2, e2, c2, b2, n2, _, m2, _⟩ := pick_ok c1 (by omega) 12
  simp only [spec_l02DrawWall.f, e1, Option.bind_some, e2]
  by_cases z : v2 = 0
  · obtain ⟨v3, a3, s3, e3, c3, b3, n3, _, m3, _⟩ := pick_ok c2 (by omega) 8
    have l3 := m3 (by omega)
    rw [if_pos z, e3]
    simp only [Option.bind_some]
    rw [if_pos n3, if_pos (by simp only [List.length_cons, List.length_nil]; omega)]
    exact ⟨_, _, _, rfl, c3, by omega⟩
  · rw [if_neg z]
    by_cases y : v2 = 1
    · obtain ⟨v3, a3, s3, e3, c3, b3, n3, _, m3, _⟩ := pick_ok c2 (by omega) 2000
      rw [if_pos y, e3]
      exact ⟨v3, a3, s3, rfl, c3, by omega⟩
    · rw [if_neg y]
      exact ⟨_, _, _, rfl, c2, by omega⟩
theorem draw_from (c : List Int) (x5 : Int) (d : Nat) : ∀ (acc : List S44) (i a s : Int), i = d → Cur c a s → a ≤ 900000 - 40 * i → (acc.length : Int) + i ≤ 60 → i ≤ 60 →
    ∃ r : Int × List S44, Ev (fun k => spec_DrawClockRun.l0 k x5 acc i c a s) r := by
  induction d with
  | zero =>
    intro acc i a s h1 hc ha hl hi
    obtain ⟨v1, a1, s1, e1, c1, b1, n1, _, m1, _⟩ := pick_ok hc (by omega) 20
    by_cases z : v1 = 0
    · obtain ⟨v2, a2, s2, e2, c2, b2, n2, _, m2, _⟩ := pick_ok c1 (by omega) 4
      have l2 := m2 (by omega)
      refine ⟨(rd [0, 9, 8, (-1)] v2, acc), Ev.succ ?_⟩
      simp only [spec_DrawClockRun.l0, Option.bind_some]
      exact Ev.neg (by omega) (Ev.bndc e1 (Ev.pos z (Ev.bndc e2 (Ev.pos n2 (Ev.pos (by simp only [List.length_cons, List.length_nil]; omega) (Ev.some' rfl))))))
    · refine ⟨(x5, acc), Ev.succ ?_⟩
      simp only [spec_DrawClockRun.l0, Option.bind_some]
      exact Ev.neg (by omega) (Ev.bndc e1 (Ev.neg z (Ev.some' rfl)))
  | succ d ih =>
    intro acc i a s h1 hc ha hl hi
    have ew := wrap_in (i - 1) (by omega) (by omega)
    have J2 : ∀ (a s : Int) (f0 f1 f2 f3 : Int), Cur c a s → a ≤ 900000 - 40 * i + 30 → ∃ r : Int × List S44, Ev (fun k => spec_DrawClockRun.j2 k x5 acc i c a s f0 f1 f2 f3) r := by
      intro a s f0 f1 f2 f3 hc ha
      obtain ⟨v1, a1, s1, e1, c1, b1, n1, _, m1, _⟩ := pick_ok hc (by omega) 30
      by_cases z : v1 = 0
      · obtain ⟨v2, a2, s2, e2, c2, b2, n2, _, m2, _⟩ := pick_ok c1 (by omega) 10
        obtain ⟨r, hr⟩ := ih (acc ++ [(⟨f0, f1, wrap64 (v2 - 1), f3⟩ : S44)]) (i - 1) a2 s2 (by omega) c2 (by omega) (by rw [List.length_append, List.length_singleton]; omega) (by omega)
        refine ⟨r, Ev.succ ?_⟩
        simp only [spec_DrawClockRun.j2, ew]
        exact Ev.bndc e1 (Ev.pos z (Ev.bndc e2 (Ev.pos (by omega) hr)))
      · obtain ⟨r, hr⟩ := ih (acc ++ [(⟨f0, f1, f2, f3⟩ : S44)]) (i - 1) a1 s1 (by omega) c1 (by omega) (by rw [List.length_append, List.length_singleton]; omega) (by omega)
        refine ⟨r, Ev.succ ?_⟩
        simp only [spec_DrawClockRun.j2, ew]
        exact Ev.bndc e1 (Ev.neg z (Ev.pos (by omega) hr))
    have J1 : ∀ (a s : Int) (f0 f1 f2 f3 : Int), Cur c a s → a ≤ 900000 - 40 * i + 24 → ∃ r : Int × List S44, Ev (fun k => spec_DrawClockRun.j1 k x5 acc i c a s f0 f1 f2 f3) r := by
      intro a s f0 f1 f2 f3 hc ha
      obtain ⟨v1, a1, s1, e1, c1, b1, n1, _, m1, _⟩ := pick_ok hc (by omega) 30
      by_cases z : v1 = 0
      · obtain ⟨v2, a2, s2, e2, c2, b2, n2, _, m2, _⟩ := pick_ok c1 (by omega) 6
        obtain ⟨r, hr⟩ := J2 a2 s2 (wrap64 (v2 - 1)) f1 f2 f3 c2 (by omega)
        refine ⟨r, Ev.succ ?_⟩
        simp only [spec_DrawClockRun.j1]
        exact Ev.bndc e1 (Ev.pos z (Ev.bndc e2 hr))
      · obtain ⟨r, hr⟩ := J2 a1 s1 f0 f1 f2 f3 c1 (by omega)
        refine ⟨r, Ev.succ ?_⟩
        simp only [spec_DrawClockRun.j1]
        exact Ev.bndc e1 (Ev.neg z hr)
    obtain ⟨v1, a1, s1, e1, c1, b1, n1, _, m1, _⟩ := pick_ok hc (by omega) 3
    obtain ⟨v2, a2, s2, e2, c2, b2, n2, _, m2, _⟩ := pick_ok c1 (by omega) x5
    obtain ⟨v3, a3, s3, e3, c3, b3, n3, _, m3, _⟩ := pick_ok c2 (by omega) x5
    obtain ⟨v4, a4, s4, e4, c4, b4, n4, _, m4, _⟩ := pick_ok c3 (by omega) 60
    obtain ⟨v5, a5, s5, e5, c5, b5, n5, _, m5, _⟩ := pick_ok c4 (by omega) 8
    by_cases z : v5 = 0
    · obtain ⟨v6, a6, s6, e6, c6, b6⟩ := wall_ok c5 (by omega)
      obtain ⟨r, hr⟩ := J1 a6 s6 (wrap64 (1 + v1)) v2 v3 v6 c6 (by omega)
      refine ⟨r, Ev.succ ?_⟩
      simp only [spec_DrawClockRun.l0]
      exact Ev.pos (by omega) (Ev.bndc e1 (Ev.bndc e2 (Ev.bndc e3 (Ev.bndc e4 (Ev.bndc e5 (Ev.pos z (Ev.bndc e6 hr)))))))
    · obtain ⟨r, hr⟩ := J1 a5 s5 (wrap64 (1 + v1)) v2 v3 v4 c5 (by omega)
      refine ⟨r, Ev.succ ?_⟩
      simp only [spec_DrawClockRun.l0]
      exact Ev.pos (by omega) (Ev.bndc e1 (Ev.bndc e2 (Ev.bndc e3 (Ev.bndc e4 (Ev.bndc e5 (Ev.neg z hr))))))
theorem draw_ok (c : List Int) (hl : c.length ≤ 1048576) (hb : ∀ x ∈ c, (Lit.int .u8 x).wf = true) : ∃ r : Int × List S44, Ev (fun k => spec_DrawClockRun.f k c) r := by
  obtain ⟨e0, c0⟩ := cur_new hl hb
  obtain ⟨v1, a1, s1, e1, c1, b1, n1, _, m1, _⟩ := pick_ok c0 (by omega) 4
  obtain ⟨v, a, s, e3, c3, b3, n3, m3⟩ := size_ok c1 (by omega) 60 (by omega) (by omega)
  obtain ⟨r, hr⟩ := draw_from c (wrap64 (1 + v1)) v.toNat [] v a s (by omega) c3 (by omega) (by simp only [List.length_nil]; omega) (by omega)
  refine ⟨r, ?_⟩
  simp only [spec_DrawClockRun.f]
  exact Ev.bndc e0 (Ev.bndc e1 (Ev.bndc e3 hr))
theorem drop42 {l s : List S42} {a : S42} {i : Nat} (h : l.drop i = a :: s) : rd_T42 l (i : Int) = a ∧ i < l.length ∧ l.drop (i + 1) = s := by
  have hi : i < l.length := by
    rcases Nat.lt_or_ge i l.length with h1 | h1
    · exact h1
    · rw [List.drop_of_length_le h1] at h; cases h
  rw [List.drop_eq_getElem_cons hi] at h
  injection h with h1 h2
  refine ⟨?_, hi, h2⟩
  unfold rd_T42
  rw [Int.toNat_natCast, List.getD_eq_getElem?_getD, List.getElem?_eq_getElem hi]
  exact h1
/-- What the law keeps is no later than what the clocks hold. -/
def Le (n : Int) (V L : List S40) : Prop := ∀ j : Int, 0 ≤ j → j < n → ¬ lt40 (rd_T40 L j) (rd_T40 V j)
theorem Le.setL {n : Int} {V L : List S40} (h : Le n V L) (i : Int) (x : S40) (h0 : 0 ≤ i) (h1 : i < n) (hl : (L.length : Int) = n) (hx : ¬ lt40 x (rd_T40 V i)) : Le n V (L.set i.toNat x) := by
  intro j j0 j1
  rw [rd40_set L i j x h0 (by omega) j0]
  split
  · rename_i e; rw [e]; exact hx
  · exact h j j0 j1
theorem Le.setV {n : Int} {V L : List S40} (h : Le n V L) (i : Int) (x : S40) (h0 : 0 ≤ i) (h1 : i < n) (hl : (V.length : Int) = n) (hx : ¬ lt40 (rd_T40 L i) x) : Le n (V.set i.toNat x) L := by
  intro j j0 j1
  rw [rd40_set V i j x h0 (by omega) j0]
  split
  · rename_i e; rw [e]; exact hx
  · exact h j j0 j1
theorem lt_tr {a b c : S40} (h1 : ¬ lt40 a b) (h2 : lt40 a c) : lt40 b c := by unfold lt40 at *; omega
theorem le_tr {a b c : S40} (h1 : ¬ lt40 a b) (h2 : ¬ lt40 c a) : ¬ lt40 c b := by unfold lt40 at *; omega
theorem lt_as {a b : S40} (h : lt40 a b) : ¬ lt40 b a := by unfold lt40 at *; omega
theorem lt_ir (a : S40) : ¬ lt40 a a := by unfold lt40; omega
theorem law_run (n : Int) (x1 : List S44) (out : List S42) (hl : x1.length ≤ 500) (d : Nat) : ∀ (i : Nat) (V L : List S40) (W : List Int), i + d = x1.length → Inv n L W → (V.length : Int) = n → Le n V L → out.drop i = run n (x1.drop i) L W →
    Ev (fun k => laws_FnClocks.l0 k x1 out out V (i : Int)) true := by
  induction d with
  | zero =>
    intro i V L W hi h hv hle ho
    refine Ev.succ ?_
    simp only [laws_FnClocks.l0]
    exact Ev.neg (by omega) (Ev.some' rfl)
  | succ d ih =>
    intro i V L W hi h hv hle ho
    have w : wrap64 ((i : Int) + 1) = ((i + 1 : Nat) : Int) := by rw [wrap_in _ (by omega) (by omega)]; omega
    rw [drop44 x1 i (by omega)] at ho
    simp only [run] at ho
    obtain ⟨er, hlt, ho2⟩ := drop42 ho
    have hinv := stp_inv n (rd_T44 x1 (i : Int)) L W h
    have hw := stp_ways n (rd_T44 x1 (i : Int)) L W h
    have nxt : ∀ V' : List S40, (V'.length : Int) = n → Le n V' (stp n (rd_T44 x1 (i : Int)) L W).2.1 → Ev (fun k => laws_FnClocks.l0 k x1 out out V' ((i + 1 : Nat) : Int)) true := fun V' h1 h2 => ih (i + 1) V' _ _ (by omega) hinv h1 h2 ho2
    have hil : (i : Int) < x1.length := by omega
    have hlt' : (i : Int) < out.length := by omega
    clear ho ho2 hinv ih
    generalize hO : rd_T44 x1 (i : Int) = o at er hw nxt
    have J2 : ∀ b : Bool, b = true → Le n V (stp n o L W).2.1 → Ev (fun k => laws_FnClocks.j2 k x1 out out V (i : Int) b) true := by
      intro b hb h2
      refine Ev.succ ?_
      simp only [laws_FnClocks.j2, w]
      exact Ev.pos hb (nxt V hv h2)
    refine Ev.succ ?_
    simp only [laws_FnClocks.l0, hO]
    refine Ev.pos hil (Ev.pos (by omega) (Ev.pos hlt' (Ev.pos hlt' (Ev.pos trivial ?_))))
    rw [er]
    rcases hw with ⟨_, e⟩ | ⟨c1, c2, _, e⟩ | ⟨c1, c2, r, _, hw⟩
    · rw [e] at J2 ⊢
      exact Ev.neg (by simp) (J2 _ rfl hle)
    · rw [e] at J2 ⊢
      exact Ev.pos (by simp) (J2 _ (by simp [c2]) hle)
    · rcases hw with ⟨z3, e⟩ | ⟨z0, g1, g2, hw⟩
      · rw [e] at J2 ⊢
        exact Ev.neg (by show ¬ r.2 = 0; omega) (J2 _ rfl hle)
      · have hle1 : Le n V (L.set o.f1.toNat r.1) := hle.setL o.f1 r.1 c1.1 c1.2 h.ll (lt_as (lt_tr (hle o.f1 c1.1 c1.2) g2))
        rcases hw with ⟨d4, e⟩ | ⟨d4, d5, s, _, ⟨y0, k1, k2, k3, e⟩ | ⟨y0, e⟩⟩
        · rw [e] at nxt er ⊢
          refine Ev.pos (by simp) ?_
          rw [show (o.f0 == 1) = false by simp [d4]]
          refine Ev.succ ?_
          simp only [laws_FnClocks.j2, hO, er, w]
          obtain ⟨x, ex, _, ex2⟩ := cmp_spec r.1.f0 r.1.f1 (rd_T40 V o.f1).f0 (rd_T40 V o.f1).f1
          refine Ev.neg (by decide) (Ev.pos (by omega) (Ev.pos hlt' (Ev.pos hil (Ev.pos c1.1 (Ev.pos (by rw [hv]; exact c1.2) (Ev.bndc ex (Ev.neg (fun q => (ex2.1 q) (lt_tr (hle o.f1 c1.1 c1.2) g2)) (Ev.bndc rfl (Ev.neg (by omega) (nxt _ (by rw [List.length_set]; exact hv) ?_))))))))))
          refine Le.setV hle1 o.f1 r.1 c1.1 c1.2 hv ?_
          rw [rd40_set L o.f1 o.f1 r.1 c1.1 (by rw [h.ll]; exact c1.2) c1.1, if_pos rfl]
          exact lt_ir _
        · rw [e] at nxt er ⊢
          refine Ev.pos (by simp) ?_
          rw [show (o.f0 == 1) = false by simp [d4]]
          refine Ev.succ ?_
          simp only [laws_FnClocks.j2, hO, er, w]
          obtain ⟨x, ex, _, ex2⟩ := cmp_spec r.1.f0 r.1.f1 (rd_T40 V o.f1).f0 (rd_T40 V o.f1).f1
          have hle2 : Le n (V.set o.f1.toNat r.1) (L.set o.f1.toNat r.1) := by
            refine Le.setV hle1 o.f1 r.1 c1.1 c1.2 hv ?_
            rw [rd40_set L o.f1 o.f1 r.1 c1.1 (by rw [h.ll]; exact c1.2) c1.1, if_pos rfl]
            exact lt_ir _
          have hv2 : ((V.set o.f1.toNat r.1).length : Int) = n := by rw [List.length_set]; exact hv
          have hl2 : ((L.set o.f1.toNat r.1).length : Int) = n := by rw [List.length_set]; exact h.ll
          have hle3 : Le n (V.set o.f1.toNat r.1) ((L.set o.f1.toNat r.1).set o.f2.toNat s.1) := hle2.setL o.f2 s.1 d5.1 d5.2 hl2 (le_tr (hle2 o.f2 d5.1 d5.2) k2)
          obtain ⟨y, ey, ey1, _⟩ := cmp_spec (rd_T40 (V.set o.f1.toNat r.1) o.f2).f0 (rd_T40 (V.set o.f1.toNat r.1) o.f2).f1 r.1.f0 r.1.f1
          refine Ev.neg (by decide) (Ev.pos (by omega) (Ev.pos hlt' (Ev.pos hil (Ev.pos c1.1 (Ev.pos (by rw [hv]; exact c1.2) (Ev.bndc ex (Ev.neg (fun q => (ex2.1 q) (lt_tr (hle o.f1 c1.1 c1.2) g2)) (Ev.bndc rfl (Ev.pos d4 (Ev.pos d5.1 (Ev.pos (by rw [hv]; exact d5.2) (Ev.bndc ey ?_))))))))))))
          by_cases q : y < 0
          · refine Ev.pos q (nxt _ (by rw [List.length_set]; exact hv2) (hle3.setV o.f2 r.1 d5.1 d5.2 hv2 ?_))
            rw [rd40_set _ o.f2 o.f2 s.1 d5.1 (by rw [hl2]; exact d5.2) d5.1, if_pos rfl]
            exact k3
          · exact Ev.neg q (nxt _ hv2 hle3)
        · rw [e] at J2 ⊢
          exact Ev.neg y0 (J2 _ rfl hle1)
theorem FnClocks (c : List Int) (o : c.length ≤ 9223372036854775807 ∧ ∀ x ∈ c, (Lit.int .u8 x).wf = true) : ∃ k, laws_FnClocks.f k c = some true := by
  obtain ⟨_, hb⟩ := o
  refine Ev.at ?_
  simp only [laws_FnClocks.f]
  refine Ev.bndc (b := decide ((c.length : Int) > 1048576)) rfl ?_
  by_cases z : (c.length : Int) > 1048576
  · exact Ev.pos (decide_eq_true z) (Ev.some' rfl)
  · refine Ev.neg (by simpa using z) ?_
    obtain ⟨⟨n, x1⟩, hd⟩ := draw_ok c (by omega) hb
    obtain ⟨⟨out, code⟩, hs, hi, hr, _⟩ := clock_both n x1
    refine Ev.bind hd (Ev.bind hs (Ev.bind hi (Ev.pos rfl ?_)))
    refine Ev.succ ?_
    simp only [laws_FnClocks.j0]
    refine Ev.neg (by simp) ?_
    by_cases e : code = 0
    · obtain ⟨⟨h0, h1⟩, h2, h3⟩ := hr e
      have hi0 := inv0 n h0 h1
      refine Ev.pos e (Ev.pos (by omega) (Ev.pos (by omega) ?_))
      exact law_run n x1 out h2 x1.length 0 (List.replicate n.toNat z40) _ _ (by omega) hi0 hi0.ll (fun j _ _ => lt_ir _) (by simpa using h3)
    · exact Ev.neg e (Ev.some' rfl)
end Go.Proofs.Ytiolnbhcmoafjaa.Pure
