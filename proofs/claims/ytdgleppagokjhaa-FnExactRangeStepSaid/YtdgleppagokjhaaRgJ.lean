/- The program's RangeStep as the reference's plain answer: where RangesOK takes the list. No condition but that. -/
import Derived.Test.YtdgleppagokjhaaRsD
import Derived.Test.YtdgleppagokjhaaRngFnExactRangeStep
namespace Go.Proofs.Ytdgleppagokjhaa.QFnExactRangeStepJ
set_option linter.unusedVariables false
set_option linter.unusedSimpArgs false
open Go.RowKit Go.Proofs.Ytdgleppagokjhaa.QFnExactRangeStep Go.Proofs.Ytdgleppagokjhaa.QFnExactRangeStepH Go.Proofs.Ytdgleppagokjhaa.QFnExactRangeStepS Go.Proofs.YtdgleppagokjhaaW.PrintWords Go.Proofs.YtdgleppagokjhaaU
theorem ix_le (l : List S30) (id : Int) : ∀ (d : Nat) (i j : Int), i ≤ j → j < i + d → (rd_T30 l j).f0 = id → i ≤ ix l id d i ∧ ix l id d i ≤ j
  | 0, i, j, h0, h1, e => by omega
  | d + 1, i, j, h0, h1, e => by
    unfold ix
    by_cases c : (rd_T30 l i).f0 = id
    · rw [if_pos c]; omega
    · rw [if_neg c]
      have hne : i ≠ j := by rintro rfl; exact c e
      have := ix_le l id d (i + 1) j (by omega) (by omega) e
      omega
theorem at_uniq (l : List S30) (hg : Fine l) (id j : Int) (h0 : 0 ≤ j) (h1 : j < l.length) (e : (rd_T30 l j).f0 = id) : at_ l id = j := by
  obtain ⟨a, b⟩ := ix_le l id l.length 0 j h0 (by omega) e
  show ix l id l.length 0 = j
  rcases ix_range l id l.length 0 (by omega) with q | ⟨q0, q1, q2⟩
  · omega
  · by_cases c : ix l id l.length 0 = j
    · exact c
    · exact absurd (q2.trans e.symm) ((hg.at_ j h0 h1).ids _ q0 (by omega))
theorem at_none (l : List S30) (id : Int) (h : ∀ j : Int, 0 ≤ j → j < l.length → (rd_T30 l j).f0 ≠ id) : at_ l id = -1 := by
  show ix l id l.length 0 = -1
  rcases ix_range l id l.length 0 (by omega) with q | ⟨q0, q1, q2⟩
  · exact q
  · exact absurd q2 (h _ q0 (by omega))
theorem shl_in (n : Int) (h0 : 0 ≤ n) (h1 : n < 8) : 0 ≤ shl .i64 1 n ∧ shl .i64 1 n ≤ 128 := by
  have hq : n = 0 ∨ n = 1 ∨ n = 2 ∨ n = 3 ∨ n = 4 ∨ n = 5 ∨ n = 6 ∨ n = 7 := by omega
  rcases hq with rfl | rfl | rfl | rfl | rfl | rfl | rfl | rfl <;> decide
theorem tl_stp (l : List S30) (hg : Fine l) (kind id : Int) (key : ByteArray) (node dst : Int) (k0 : 1 ≤ kind) (k4 : kind ≤ 4) (a : Int) (a0 : 0 ≤ a) (a1 : a < l.length) (e : (rd_T30 l a).f0 = id) (there : Bool) (ht : there = true ↔ 0 ≤ at_ l node) :
    impl_tl l a there kind id key node dst = stp l kind id key node dst := by
  have ea := at_uniq l hg id a a0 a1 e
  have one := (hg.at_ a a0 a1).one
  have wg : wrap64 ((rd_T30 l a).f5 + 1) = (rd_T30 l a).f5 + 1 := wrap_in _ (by have := one.gen; omega) (by have := one.gen; omega)
  have n1 : (a + 1).toNat = a.toNat + 1 := by omega
  have n2 : (a + 2).toNat = a.toNat + 2 := by omega
  have cc : ¬ (kind < 1 ∨ kind > 4) := by omega
  unfold stp impl_tl impl_new put
  rw [if_neg cc, ea, if_neg (show ¬ a < 0 by omega), wg]
  by_cases k1 : kind = 1
  · rw [if_pos k1, if_pos k1, n1]
    have hb : (key.toList = ([] : List UInt8) ∨ (4000 : Int) < key.size ∨ Op.bytesLess (rd_T30 l a).f1.toList key.toList = false ∨ ((rd_T30 l a).f2.toList ≠ ([] : List UInt8) ∧ Op.bytesLess key.toList (rd_T30 l a).f2.toList = false) ∨ node < 1 ∨ node > 1000000 ∨ there = true) ↔ badSplit l (rd_T30 l a) key node := by
      unfold badSplit; rw [ht]
    by_cases p : badSplit l (rd_T30 l a) key node
    · rw [if_pos p, if_pos (hb.2 p)]
    · rw [if_neg p, if_neg (fun h => p (hb.1 h))]
  · rw [if_neg k1, if_neg k1]
    by_cases k2 : kind = 2
    · rw [if_pos k2, if_pos k2, n2]
      by_cases p1 : a + 1 ≥ (l.length : Int)
      · rw [if_pos p1, if_pos (show a = (l.length : Int) - 1 by omega)]
      · rw [if_neg p1, if_neg (show ¬ a = (l.length : Int) - 1 by omega)]
        have one' := (hg.at_ (a + 1) (by omega) (by omega)).one
        have em : wrap64 (max (rd_T30 l a).f5 (rd_T30 l (a + 1)).f5 + 1) = if (rd_T30 l (a + 1)).f5 ≥ (rd_T30 l a).f5 + 1 then (rd_T30 l (a + 1)).f5 + 1 else (rd_T30 l a).f5 + 1 := by
          have g1 := one.gen
          have g2 := one'.gen
          rw [wrap_in _ (by omega) (by omega)]
          split <;> omega
        rw [em]
    · rw [if_neg k2, if_neg k2]
      by_cases k3 : kind = 3
      · rw [if_pos k3, if_pos k3, n1]
        by_cases p : bit (rd_T30 l a).f3 node = false ∨ dst < 0 ∨ dst > 7 ∨ bit (rd_T30 l a).f3 dst = true
        · rw [if_pos p, if_pos p]
        · rw [if_neg p, if_neg p]
          have hn : 0 ≤ node ∧ node < 8 := bit_in (by
            cases hb : bit (rd_T30 l a).f3 node with
            | true => rfl
            | false => exact absurd (.inl hb) p)
          have hd : 0 ≤ dst ∧ dst < 8 := ⟨Int.not_lt.mp fun h => p (.inr (.inl h)), Int.not_le.mp fun h => p (.inr (.inr (.inl (by omega))))⟩
          have s1 := shl_in node hn.1 hn.2
          have s2 := shl_in dst hd.1 hd.2
          have m1 := one.members
          have em : wrap64 ((rd_T30 l a).f3 + wrap64 (shl .i64 1 dst - shl .i64 1 node)) = moved (rd_T30 l a).f3 node dst := by
            unfold moved
            rw [wrap_in (shl .i64 1 dst - shl .i64 1 node) (by omega) (by omega), wrap_in (_ + _) (by omega) (by omega), wrap_in ((rd_T30 l a).f3 - shl .i64 1 node) (by omega) (by omega), wrap_in _ (by omega) (by omega)]
            omega
          rw [em]
          by_cases q : node = (rd_T30 l a).f4
          · rw [if_pos q, if_pos q.symm]
          · rw [if_neg q, if_neg (show ¬ (rd_T30 l a).f4 = node from fun h => q h.symm)]
      · rw [if_neg k3, if_neg k3, if_pos (show kind = 4 by omega), n1]
/-- Is one of the first i ranges of that number? -/
theorem there_iff (l : List S30) (hg : Fine l) (node : Int) : (∃ j : Int, 0 ≤ j ∧ j < l.length ∧ (rd_T30 l j).f0 = node) ↔ 0 ≤ at_ l node := by
  constructor
  · rintro ⟨j, j0, j1, e⟩
    rw [at_uniq l hg node j j0 j1 e]; exact j0
  · intro h
    rcases ix_range l node l.length 0 (by omega) with q | ⟨q0, q1, q2⟩
    · exact absurd h (by show ¬ 0 ≤ ix l node l.length 0; omega)
    · exact ⟨_, q0, by omega, q2⟩
theorem loop_ev (l : List S30) (hg : Fine l) (kind id : Int) (key : ByteArray) (node dst : Int) (k0 : 1 ≤ kind) (k4 : kind ≤ 4) : ∀ (d : Nat) (i x6 : Int) (x7 : Bool), 0 ≤ i → i + d = l.length →
    ((x6 = -1 ∧ ∀ j : Int, 0 ≤ j → j < i → (rd_T30 l j).f0 ≠ id) ∨ (0 ≤ x6 ∧ x6 < i ∧ (rd_T30 l x6).f0 = id)) → (x7 = true ↔ ∃ j : Int, 0 ≤ j ∧ j < i ∧ (rd_T30 l j).f0 = node) →
    Ev (fun k => impl_RangeStep.l0 k x6 x7 l (l.length : Int) i kind id key node dst) (stp l kind id key node dst)
  | 0, i, x6, x7, h0, h1, hx, hy => by
    refine Ev.succ ?_
    simp only [impl_RangeStep.l0]
    refine Ev.neg (by omega) ?_
    have hi : i = (l.length : Int) := by omega
    subst hi
    rcases hx with ⟨rfl, no⟩ | ⟨x0, x1, e⟩
    · refine Ev.pos (by omega) (Ev.some' ?_)
      unfold stp
      rw [if_neg (by omega), at_none l id no, if_pos (by omega)]
    · refine Ev.neg (by omega) (Ev.pos x1 (Ev.some' ?_))
      exact tl_stp l hg kind id key node dst k0 k4 x6 x0 x1 e x7 (hy.trans (there_iff l hg node))
  | d + 1, i, x6, x7, h0, h1, hx, hy => by
    have hl := hg.len.2
    have ew := wrap_in (i + 1) (by omega) (by omega)
    refine Ev.succ ?_
    simp only [impl_RangeStep.l0, ew]
    refine Ev.pos (by omega) (Ev.pos h0 (Ev.pos (by omega) ?_))
    have step : ∀ (y6 : Int) (y7 : Bool), ((y6 = -1 ∧ ∀ j : Int, 0 ≤ j → j < i + 1 → (rd_T30 l j).f0 ≠ id) ∨ (0 ≤ y6 ∧ y6 < i + 1 ∧ (rd_T30 l y6).f0 = id)) → (y7 = true ↔ ∃ j : Int, 0 ≤ j ∧ j < i + 1 ∧ (rd_T30 l j).f0 = node) →
        Ev (fun k => impl_RangeStep.l0 k y6 y7 l (l.length : Int) (i + 1) kind id key node dst) (stp l kind id key node dst) := fun y6 y7 a b => loop_ev l hg kind id key node dst k0 k4 d (i + 1) y6 y7 (by omega) (by omega) a b
    have h7 : ∀ y7 : Bool, (y7 = true ↔ (x7 = true ∨ (rd_T30 l i).f0 = node)) → (y7 = true ↔ ∃ j : Int, 0 ≤ j ∧ j < i + 1 ∧ (rd_T30 l j).f0 = node) := by
      intro y7 hy7
      rw [hy7, hy]
      constructor
      · rintro (⟨j, a, b, c⟩ | c)
        · exact ⟨j, a, by omega, c⟩
        · exact ⟨i, h0, by omega, c⟩
      · rintro ⟨j, a, b, c⟩
        by_cases q : j = i
        · subst q; exact .inr c
        · exact .inl ⟨j, a, by omega, c⟩
    have t7 : x7 = true → ∀ y7 : Bool, y7 = true → (y7 = true ↔ (x7 = true ∨ (rd_T30 l i).f0 = node)) := fun a y7 b => ⟨fun _ => .inl a, fun _ => b⟩
    have f7 : ¬ x7 = true → (((rd_T30 l i).f0 == node) = true ↔ (x7 = true ∨ (rd_T30 l i).f0 = node)) := fun a => ⟨fun b => .inr (eq_of_beq b), fun b => by rcases b with b | b; exact absurd b a; exact beq_iff_eq.mpr b⟩
    by_cases c : (rd_T30 l i).f0 = id
    · refine Ev.pos c ?_
      by_cases c7 : x7 = true
      · exact Ev.pos c7 (step i true (.inr ⟨h0, by omega, c⟩) (h7 _ (t7 c7 _ rfl)))
      · exact Ev.neg c7 (step i _ (.inr ⟨h0, by omega, c⟩) (h7 _ (f7 c7)))
    · refine Ev.neg c ?_
      have h6 : (x6 = -1 ∧ ∀ j : Int, 0 ≤ j → j < i + 1 → (rd_T30 l j).f0 ≠ id) ∨ (0 ≤ x6 ∧ x6 < i + 1 ∧ (rd_T30 l x6).f0 = id) := by
        rcases hx with ⟨a, b⟩ | ⟨a, b, e⟩
        · refine .inl ⟨a, fun j j0 j1 => ?_⟩
          by_cases q : j = i
          · subst q; exact c
          · exact b j j0 (by omega)
        · exact .inr ⟨a, by omega, e⟩
      by_cases c7 : x7 = true
      · exact Ev.pos c7 (step x6 true h6 (h7 _ (t7 c7 _ rfl)))
      · exact Ev.neg c7 (step x6 _ h6 (h7 _ (f7 c7)))
theorem impl_stp (l : List S30) (hg : Fine l) (hk : Ev (fun k => impl_RangesOK.f k l) true) (kind id : Int) (key : ByteArray) (node dst : Int) : Ev (fun k => impl_RangeStep.f k l kind id key node dst) (stp l kind id key node dst) := by
  have bad : ∀ x : Bool, x = true → Ev (fun k => impl_RangeStep.j0 k l x kind id key node dst) ([], 1) := by
    rintro x rfl
    exact Ev.succ (by simp only [impl_RangeStep.j0]; exact Ev.pos (by trivial) (Ev.some' rfl))
  simp only [impl_RangeStep.f]
  refine Ev.bind hk (Ev.pos (by trivial) ?_)
  by_cases c0 : kind < 1
  · have e : stp l kind id key node dst = ([], 1) := by unfold stp; rw [if_pos (.inl c0)]
    rw [e]; exact Ev.pos c0 (bad _ rfl)
  refine Ev.neg c0 ?_
  by_cases c1 : kind > 4
  · have e : stp l kind id key node dst = ([], 1) := by unfold stp; rw [if_pos (.inr c1)]
    rw [e]; exact bad _ (decide_eq_true c1)
  rw [decide_eq_false c1]
  refine Ev.succ ?_
  simp only [impl_RangeStep.j0]
  refine Ev.neg (by simp) ?_
  exact loop_ev l hg kind id key node dst (by omega) (by omega) l.length 0 (-1) false (by omega) (by omega) (.inl ⟨rfl, fun j a b => by omega⟩) ⟨fun h => by simp at h, fun ⟨j, a, b, _⟩ => by omega⟩
theorem impl_bad (l : List S30) (hk : Ev (fun k => impl_RangesOK.f k l) false) (kind id : Int) (key : ByteArray) (node dst : Int) : Ev (fun k => impl_RangeStep.f k l kind id key node dst) ([], 1) := by
  simp only [impl_RangeStep.f]
  refine Ev.bind hk (Ev.neg (by simp) (Ev.succ ?_))
  simp only [impl_RangeStep.j0]
  exact Ev.pos (by trivial) (Ev.some' rfl)
end Go.Proofs.Ytdgleppagokjhaa.QFnExactRangeStepJ
