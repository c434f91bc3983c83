/- Of drawn waits the victim is one on a circle with the one that it begins from, and none is greater on it; where there is no circle through it, nobody is. No condition but that the drawn bytes are bytes. -/
import Derived.Test.YtjnhbegppjeafaaQFnVictimsx2
import Derived.Test.YtjnhbegppjeafaaCurVictims
namespace Go.Proofs.Ytjnhbegppjeafaa.Pure
set_option linter.unusedVariables false
set_option linter.unusedSimpArgs false
open Go.RowKit Go.Proofs.Ytjnhbegppjeafaa.QFnVictims Go.Proofs.YtjnhbegppjeafaaW.PrintWords Go.Proofs.YtjnhbegppjeafaaW.PrintMore Go.Proofs.YtjnhbegppjeafaaU Go.Proofs.Ytjnhbegppjeafaa.QFnVictimsR
/-- n + 1 places below n: two are alike. -/
theorem pigeon : ∀ (n : Nat) (f : Nat → Nat), (∀ i, i ≤ n → f i < n) → ∃ i j, i < j ∧ j ≤ n ∧ f i = f j
  | 0, f, h => absurd (h 0 (Nat.le_refl _)) (by omega)
  | n + 1, f, h => by
    by_cases hx : ∃ i, i ≤ n ∧ f i = f (n + 1)
    · obtain ⟨i, hi, e⟩ := hx
      exact ⟨i, n + 1, by omega, Nat.le_refl _, e⟩
    · have hne : ∀ i, i ≤ n → f i ≠ f (n + 1) := fun i hi e => hx ⟨i, hi, e⟩
      obtain ⟨i, j, h1, h2, h3⟩ := pigeon n (fun i => if f i = n then f (n + 1) else f i) (fun i hi => by
        have hl := h i (by omega)
        have hl2 := h (n + 1) (Nat.le_refl _)
        have hn := hne i hi
        show (if f i = n then f (n + 1) else f i) < n
        split <;> omega)
      have h3' : (if f i = n then f (n + 1) else f i) = (if f j = n then f (n + 1) else f j) := h3
      have hi := hne i (by omega)
      have hj := hne j h2
      refine ⟨i, j, h1, by omega, ?_⟩
      split at h3' <;> split at h3' <;> omega
/-- What is reached by n steps. -/
def orb (w : List Int) (from_ : Int) : Nat → Int
  | 0 => from_
  | n + 1 => rd w (orb w from_ n)
theorem orb_per {w : List Int} {x : Int} {i j : Nat} (e : orb w x i = orb w x j) : ∀ m, orb w x (i + m) = orb w x (j + m)
  | 0 => e
  | m + 1 => by
    show rd w (orb w x (i + m)) = rd w (orb w x (j + m))
    rw [orb_per e m]
/-- Whoever hasn't come back in as many steps as there are never does, and stays inside. -/
theorem orb_stays {w : List Int} {x : Int} (hx : 0 ≤ x ∧ x < (w.length : Int)) (h : ∀ n, 1 ≤ n → n ≤ w.length + 1 → (0 ≤ orb w x n ∧ orb w x n < (w.length : Int)) ∧ orb w x n ≠ x) :
    ∀ n, 1 ≤ n → (0 ≤ orb w x n ∧ orb w x n < (w.length : Int)) ∧ orb w x n ≠ x := by
  have hin : ∀ n, n ≤ w.length → 0 ≤ orb w x n ∧ orb w x n < (w.length : Int) := fun n hn => by
    rcases Nat.eq_zero_or_pos n with rfl | hp
    · exact hx
    · exact (h n hp (by omega)).1
  obtain ⟨i, j, hij, hj, e⟩ := pigeon w.length (fun n => (orb w x n).toNat) (fun n hn => by have := hin n hn; omega)
  have e' : orb w x i = orb w x j := by
    have h1 := hin i (by omega)
    have h2 := hin j hj
    have e2 : (orb w x i).toNat = (orb w x j).toNat := e
    omega
  have hi1 : 1 ≤ i := by
    rcases Nat.eq_zero_or_pos i with rfl | hp
    · exact absurd e'.symm (h j (by omega) (by omega)).2
    · exact hp
  have key : ∀ n, 1 ≤ n → ∃ s, 1 ≤ s ∧ s ≤ w.length ∧ orb w x n = orb w x s := by
    intro n
    induction n using Nat.strongRecOn with
    | _ n ih =>
      intro hn
      by_cases hl : n ≤ w.length
      · exact ⟨n, hn, hl, rfl⟩
      · obtain ⟨s, s1, s2, s3⟩ := ih (n - (j - i)) (by omega) (by omega)
        refine ⟨s, s1, s2, ?_⟩
        rw [← s3]
        have := orb_per e' (n - j)
        rw [show j + (n - j) = n by omega, show i + (n - j) = n - (j - i) by omega] at this
        exact this.symm
  intro n hn
  obtain ⟨s, s1, s2, s3⟩ := key n hn
  rw [s3]
  exact h s s1 (by omega)
/-- The program's loop where nobody comes back: nobody. -/
theorem impl_none (w : List Int) (x : Int) (hx : 0 ≤ x ∧ x < (w.length : Int)) (h : ∀ n, 1 ≤ n → (0 ≤ orb w x n ∧ orb w x n < (w.length : Int)) ∧ orb w x n ≠ x) (d : Nat) :
    ∀ (n : Nat) (b : Int), n ≤ 64 → 64 - n = d → Ev (fun k => impl_WaitVictim.l0 k w x b (orb w x n) n) (-1) := by
  induction d with
  | zero =>
    intro n b hn hd
    refine Ev.succ ?_
    simp only [impl_WaitVictim.l0]
    exact Ev.neg (by omega) (Ev.some' rfl)
  | succ d ih =>
    intro n b hn hd
    have h0 : 0 ≤ orb w x n ∧ orb w x n < (w.length : Int) := by
      rcases Nat.eq_zero_or_pos n with rfl | hp
      · exact hx
      · exact (h n hp).1
    have h1 := h (n + 1) (by omega)
    have e1 : rd w (orb w x n) = orb w x (n + 1) := rfl
    refine Ev.succ ?_
    simp only [impl_WaitVictim.l0]
    refine Ev.pos (by omega) (Ev.pos h0.1 (Ev.pos h0.2 ?_))
    rw [e1]
    refine Ev.neg h1.2 (Ev.neg (by omega) (Ev.neg (by omega) ?_))
    rw [wrap_in _ (by omega) (by omega)]
    exact ih (n + 1) _ (by omega) (by omega)
theorem mx_eq (a b : Int) : mx a b = if b > a then b else a := by
  unfold mx
  by_cases h : a < b
  · rw [if_pos h]
  · rw [if_neg h]
/-- Both loops side by side. -/
theorem side (w : List Int) (x : Int) (hw : w.length ≤ 60) (hx : 0 ≤ x ∧ x < (w.length : Int)) (d : Nat) :
    ∀ (n : Nat) (b : Int), w.length + 1 - n = d → n ≤ w.length + 1 → x ≤ b → (∀ m, 1 ≤ m → m ≤ n → (0 ≤ orb w x m ∧ orb w x m < (w.length : Int)) ∧ orb w x m ≠ x) →
      ∃ v, Ev (fun k => impl_WaitVictim.l0 k w x b (orb w x n) n) v ∧ Ev (fun k => laws_FnVictims.l0 k w x v (orb w x n) b n) true := by
  induction d with
  | zero =>
    intro n b hd hn hb h
    obtain rfl : n = w.length + 1 := by omega
    refine ⟨-1, impl_none w x hx (orb_stays hx h) (64 - (w.length + 1)) _ _ (by omega) rfl, ?_⟩
    refine Ev.succ ?_
    simp only [laws_FnVictims.l0]
    rw [wrap_in _ (by omega) (by omega)]
    exact Ev.neg (by omega) (Ev.some' rfl)
  | succ d ih =>
    intro n b hd hn hb h
    have h0 : 0 ≤ orb w x n ∧ orb w x n < (w.length : Int) := by
      rcases Nat.eq_zero_or_pos n with rfl | hp
      · exact hx
      · exact (h n hp (Nat.le_refl _)).1
    have e1 : rd w (orb w x n) = orb w x (n + 1) := rfl
    -- the program's round
    have impl_round : ∀ v, Ev (fun k => if orb w x (n + 1) = x then some b else if orb w x (n + 1) < 0 then some (-1) else if orb w x (n + 1) ≥ (w.length : Int) then some (-1) else impl_WaitVictim.l0 k w x (mx b (orb w x (n + 1))) (orb w x (n + 1)) ((n + 1 : Nat) : Int)) v →
        Ev (fun k => impl_WaitVictim.l0 k w x b (orb w x n) n) v := by
      intro v hv
      refine Ev.succ ?_
      simp only [impl_WaitVictim.l0]
      refine Ev.pos (by omega) (Ev.pos h0.1 (Ev.pos h0.2 ?_))
      rw [e1, wrap_in _ (by omega) (by omega)]
      exact hv
    have law_round : ∀ v, Ev (fun k => if orb w x (n + 1) < 0 then laws_FnVictims.j2 k w x v (orb w x (n + 1)) b n true else laws_FnVictims.j2 k w x v (orb w x (n + 1)) b n (decide (orb w x (n + 1) ≥ (w.length : Int)))) true →
        Ev (fun k => laws_FnVictims.l0 k w x v (orb w x n) b n) true := by
      intro v hv
      refine Ev.succ ?_
      simp only [laws_FnVictims.l0]
      rw [wrap_in _ (by omega) (by omega)]
      refine Ev.pos (by omega) (Ev.pos h0.1 (Ev.pos h0.2 ?_))
      rw [e1]
      exact hv
    generalize hy : orb w x (n + 1) = y at impl_round law_round
    by_cases c1 : y < 0
    · refine ⟨-1, impl_round _ (Ev.neg (by omega) (Ev.pos c1 (Ev.some' rfl))), law_round _ (Ev.pos c1 (Ev.succ ?_))⟩
      simp only [laws_FnVictims.j2]
      exact Ev.some' rfl
    · by_cases c2 : y ≥ (w.length : Int)
      · refine ⟨-1, impl_round _ (Ev.neg (by omega) (Ev.neg c1 (Ev.pos c2 (Ev.some' rfl)))), law_round _ (Ev.neg c1 (Ev.succ ?_))⟩
        simp only [laws_FnVictims.j2]
        exact Ev.pos (decide_eq_true c2) (Ev.some' rfl)
      · by_cases c3 : y = x
        · subst c3
          refine ⟨b, impl_round _ (Ev.pos rfl (Ev.some' rfl)), law_round _ (Ev.neg c1 (Ev.succ ?_))⟩
          simp only [laws_FnVictims.j2]
          exact Ev.neg (by simpa using c2) (Ev.neg (by omega) (Ev.pos (by trivial) (Ev.some' (by simp))))
        · have hh : ∀ m, 1 ≤ m → m ≤ n + 1 → (0 ≤ orb w x m ∧ orb w x m < (w.length : Int)) ∧ orb w x m ≠ x := by
            intro m m1 m2
            rcases Nat.lt_or_ge m (n + 1) with hm | hm
            · exact h m m1 (by omega)
            · obtain rfl : m = n + 1 := by omega
              rw [hy]; exact ⟨by omega, c3⟩
          obtain ⟨v, hv1, hv2⟩ := ih (n + 1) (mx b y) (by omega) (by omega) (by rw [mx_eq]; split <;> omega) hh
          rw [hy] at hv1 hv2
          refine ⟨v, impl_round _ (Ev.neg c3 (Ev.neg c1 (Ev.neg c2 hv1))), law_round _ (Ev.neg c1 (Ev.succ ?_))⟩
          simp only [laws_FnVictims.j2]
          refine Ev.neg (by simpa using c2) ?_
          rw [mx_eq] at hv2
          rw [wrap_in _ (by omega) (by omega)]
          by_cases c4 : y > b
          · rw [if_pos c4] at hv2
            exact Ev.pos c4 (Ev.neg c3 hv2)
          · rw [if_neg c4] at hv2
            exact Ev.neg c4 (Ev.neg c3 hv2)
/-- The draw: at most eight waits. -/
theorem draw_waits {c : List Int} (n : Int) (hn0 : 0 ≤ n) (hn : n ≤ 7) (d : Nat) : ∀ (l : List Int) (i a s : Int), Cur c a s → a ≤ 1000 - 4 * d → 0 ≤ i → i ≤ n → n - i = d → (l.length : Int) = i →
    ∃ w f, Ev (fun k => spec_DrawWaitVictim.l0 k n l i c a s) (w, f) ∧ w.length ≤ 8 := by
  induction d with
  | zero =>
    intro l i a s hc ha h0 h1 hd hl
    obtain ⟨v, a1, s1, e1, hc1, ha1, _⟩ := pick_ok hc (by omega) 10
    by_cases c1 : v = 0
    · obtain ⟨u, a2, s2, e2, hc2, ha2, u0, _, _, u1⟩ := pick_ok hc1 (by omega) (n + 2)
      refine ⟨l ++ [99], u - 1, Ev.succ ?_, by rw [List.length_append]; simp; omega⟩
      simp only [spec_DrawWaitVictim.l0]
      refine Ev.neg (by omega) (Ev.bndc e1 (Ev.pos c1 (Ev.pos (by omega) ?_)))
      rw [wrap_in (n + 2) (by omega) (by omega)]
      refine Ev.bndc e2 (Ev.some' ?_)
      rw [wrap_in _ (by omega) (by omega)]
    · obtain ⟨u, a2, s2, e2, hc2, ha2, u0, _, _, u1⟩ := pick_ok hc1 (by omega) (n + 2)
      refine ⟨l, u - 1, Ev.succ ?_, by omega⟩
      simp only [spec_DrawWaitVictim.l0]
      refine Ev.neg (by omega) (Ev.bndc e1 (Ev.neg c1 ?_))
      rw [wrap_in (n + 2) (by omega) (by omega)]
      refine Ev.bndc e2 (Ev.some' ?_)
      rw [wrap_in _ (by omega) (by omega)]
  | succ d ih =>
    intro l i a s hc ha h0 h1 hd hl
    obtain ⟨v, a1, s1, e1, hc1, ha1, v0, _, _, v1⟩ := pick_ok hc (by omega) (n + 1)
    obtain ⟨w, f, hw, hl2⟩ := ih (l ++ [wrap64 (v - 1)]) (i + 1) a1 s1 hc1 (by omega) (by omega) (by omega) (by omega) (by rw [List.length_append]; simp; omega)
    refine ⟨w, f, Ev.succ ?_, hl2⟩
    simp only [spec_DrawWaitVictim.l0]
    refine Ev.pos (by omega) ?_
    rw [wrap_in (n + 1) (by omega) (by omega), wrap_in (i + 1) (by omega) (by omega)]
    exact Ev.bndc e1 (Ev.pos (by omega) hw)
theorem law_of (w : List Int) (x : Int) (hw : w.length ≤ 60) : ∃ v, Ev (fun k => impl_WaitVictim.f k w x) v ∧
    Ev (fun k => if x < 0 then laws_FnVictims.j0 k w x v true else laws_FnVictims.j0 k w x v (decide (x ≥ (w.length : Int)))) true := by
  by_cases c1 : x < 0
  · refine ⟨-1, ?_, Ev.pos c1 (Ev.succ ?_)⟩
    · simp only [impl_WaitVictim.f]
      refine Ev.pos c1 (Ev.succ ?_)
      simp only [impl_WaitVictim.j0]
      exact Ev.some' rfl
    · simp only [laws_FnVictims.j0]
      exact Ev.some' rfl
  · by_cases c2 : x ≥ (w.length : Int)
    · refine ⟨-1, ?_, Ev.neg c1 (Ev.succ ?_)⟩
      · simp only [impl_WaitVictim.f]
        refine Ev.neg c1 (Ev.succ ?_)
        simp only [impl_WaitVictim.j0]
        exact Ev.pos (decide_eq_true c2) (Ev.some' rfl)
      · simp only [laws_FnVictims.j0]
        exact Ev.pos (decide_eq_true c2) (Ev.some' rfl)
    · obtain ⟨v, h1, h2⟩ := side w x hw ⟨by omega, by omega⟩ (w.length + 1) 0 x (by omega) (by omega) (Int.le_refl _) (fun m m1 m2 => by omega)
      refine ⟨v, ?_, Ev.neg c1 (Ev.succ ?_)⟩
      · simp only [impl_WaitVictim.f]
        refine Ev.neg c1 (Ev.succ ?_)
        simp only [impl_WaitVictim.j0]
        exact Ev.neg (by simpa using c2) h1
      · simp only [laws_FnVictims.j0]
        exact Ev.neg (by simpa using c2) h2
theorem FnVictims (c : List Int) (o : c.length ≤ 9223372036854775807 ∧ ∀ x ∈ c, (Lit.int .u8 x).wf = true) : ∃ k, laws_FnVictims.f k c = some true := by
  refine Ev.rounds ?_
  simp only [laws_FnVictims.f, laws_big.f, Option.bind_some]
  by_cases hb : (c.length : Int) > 1048576
  · exact Ev.pos (decide_eq_true hb) (Ev.some' rfl)
  · refine Ev.neg (by simpa using hb) ?_
    obtain ⟨e0, hc0⟩ := cur_new (c := c) (by omega) o.2
    obtain ⟨n, a1, s1, e1, hc1, ha1, n0, _, n1, _⟩ := pick_ok hc0 (by omega) 8
    obtain ⟨w, f, hw, hl⟩ := draw_waits n n0 (by have := n1 (by omega); omega) n.toNat [] 0 a1 s1 hc1 (by have := n1 (by omega); omega) (by omega) n0 (by omega) rfl
    obtain ⟨v, h1, h2⟩ := law_of w f (by omega)
    refine Ev.bind (a := (w, f)) ?_ (Ev.bind h1 h2)
    simp only [spec_DrawWaitVictim.f]
    exact Ev.bndc e0 (Ev.bndc e1 hw)
end Go.Proofs.Ytjnhbegppjeafaa.Pure
