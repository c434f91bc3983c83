/- The program's WaitVictim and the reference's answer alike at every list of waits and every beginning. No condition. -/
import Derived.Test.YtjnhbegppjeafaaQFnExactWaitVictimx2
import Derived.Test.YtjnhbegppjeafaaUtil
namespace Go.Proofs.Ytjnhbegppjeafaa.Pure
set_option linter.unusedVariables false
set_option linter.unusedSimpArgs false
open Go.RowKit Go.Proofs.Ytjnhbegppjeafaa.QFnExactWaitVictim Go.Proofs.YtjnhbegppjeafaaW.PrintWords Go.Proofs.YtjnhbegppjeafaaW.PrintMore Go.Proofs.YtjnhbegppjeafaaU
theorem to_from (l : List Int) (hl : l.length ≤ 1048576) (d : Nat) : ∀ i : Nat, i ≤ l.length → l.length - i = d →
    Ev (fun k => laws_toIntS.l0 k l ((l.take i).map id ++ List.replicate (l.length - i) 0) i) l := by
  induction d with
  | zero =>
    intro i hi hd
    obtain rfl : i = l.length := by omega
    refine Ev.succ ?_
    simp only [laws_toIntS.l0]
    refine Ev.neg (by omega) (Ev.some' ?_)
    rw [fill_all]; simp
  | succ d ih =>
    intro i hi hd
    have hlt : i < l.length := by omega
    refine Ev.succ ?_
    simp only [laws_toIntS.l0]
    rw [fill_len _ _ _ _ hi]
    refine Ev.pos (by omega) (Ev.pos (by omega) (Ev.pos (by omega) ?_))
    rw [wrap_in _ (by omega) (by omega), rd_get l _ (by simpa using hlt)]
    have hs := fill_set (f := id) (0 : Int) l i hlt
    simp only [Int.toNat_natCast]
    rw [show l[i] = id l[i] from rfl, hs]
    exact ih (i + 1) (by omega) (by omega)
theorem to_all (l : List Int) (hl : l.length ≤ 1048576) : Ev (fun k => laws_toIntS.f k l) l := by
  simp only [laws_toIntS.f]
  refine Ev.pos (by omega) (Ev.pos (by simp only [Int.toNat_natCast]; omega) ?_)
  have h := to_from l hl l.length 0 (by omega) (by omega)
  rw [← fill_zero] at h
  exact h
theorem eq_from (l : List Int) (hl : l.length ≤ 1048576) (d : Nat) : ∀ i : Nat, i ≤ l.length → l.length - i = d → Ev (fun k => laws_eqIntS.l0 k l l i) true := by
  induction d with
  | zero =>
    intro i hi hd
    refine Ev.succ ?_
    simp only [laws_eqIntS.l0]
    exact Ev.neg (by omega) (Ev.some' rfl)
  | succ d ih =>
    intro i hi hd
    refine Ev.succ ?_
    simp only [laws_eqIntS.l0]
    refine Ev.pos (by omega) (Ev.pos (by omega) (Ev.pos (by omega) (Ev.pos (by trivial) ?_)))
    rw [wrap_in _ (by omega) (by omega)]
    exact ih (i + 1) (by omega) (by omega)
theorem eq_all (l : List Int) (hl : l.length ≤ 1048576) : Ev (fun k => laws_eqIntS.f k l l) true := by
  simp only [laws_eqIntS.f]
  exact Ev.pos (by trivial) (eq_from l hl l.length 0 (by omega) (by omega))
theorem side (w : List Int) (x : Int) (hw : w.length ≤ 1048576) (hx : 0 ≤ x ∧ x < (w.length : Int)) (d : Nat) :
    ∀ (n : Nat) (b a : Int), 64 - n = d → n ≤ 64 → 0 ≤ a → a < (w.length : Int) →
      ∃ v, Ev (fun k => impl_WaitVictim.l0 k w x b a n) v ∧ Ev (fun k => spec_WaitVictim.l0 k w x b (rd w a) n) v := by
  induction d with
  | zero =>
    intro n b a hd hn h0 h1
    refine ⟨-1, Ev.succ ?_, Ev.succ ?_⟩
    · simp only [impl_WaitVictim.l0]
      exact Ev.neg (by omega) (Ev.some' rfl)
    · simp only [spec_WaitVictim.l0]
      exact Ev.neg (by omega) (Ev.some' rfl)
  | succ d ih =>
    intro n b a hd hn h0 h1
    have impl_round : ∀ v, Ev (fun k => if rd w a = x then some b else if rd w a < 0 then some (-1) else if rd w a ≥ (w.length : Int) then some (-1) else impl_WaitVictim.l0 k w x (mx b (rd w a)) (rd w a) ((n + 1 : Nat) : Int)) v →
        Ev (fun k => impl_WaitVictim.l0 k w x b a n) v := by
      intro v hv
      refine Ev.succ ?_
      simp only [impl_WaitVictim.l0]
      refine Ev.pos (by omega) (Ev.pos h0 (Ev.pos h1 ?_))
      rw [wrap_in _ (by omega) (by omega)]
      exact hv
    have spec_round : ∀ v, Ev (fun k => if rd w a < 0 then spec_WaitVictim.j2 k w x b (rd w a) n true else spec_WaitVictim.j2 k w x b (rd w a) n (decide (rd w a ≥ (w.length : Int)))) v →
        Ev (fun k => spec_WaitVictim.l0 k w x b (rd w a) n) v := by
      intro v hv
      refine Ev.succ ?_
      simp only [spec_WaitVictim.l0]
      exact Ev.pos (by omega) hv
    generalize rd w a = y at impl_round spec_round ⊢
    by_cases c1 : y < 0
    · refine ⟨-1, impl_round _ (Ev.neg (by omega) (Ev.pos c1 (Ev.some' rfl))), spec_round _ (Ev.pos c1 (Ev.succ ?_))⟩
      simp only [spec_WaitVictim.j2]
      exact Ev.some' rfl
    · by_cases c2 : y ≥ (w.length : Int)
      · refine ⟨-1, impl_round _ (Ev.neg (by omega) (Ev.neg c1 (Ev.pos c2 (Ev.some' rfl)))), spec_round _ (Ev.neg c1 (Ev.succ ?_))⟩
        simp only [spec_WaitVictim.j2]
        exact Ev.pos (decide_eq_true c2) (Ev.some' rfl)
      · by_cases c3 : y = x
        · refine ⟨b, impl_round _ (Ev.pos c3 (Ev.some' rfl)), spec_round _ (Ev.neg c1 (Ev.succ ?_))⟩
          simp only [spec_WaitVictim.j2]
          exact Ev.neg (by simpa using c2) (Ev.pos c3 (Ev.some' rfl))
        · obtain ⟨v, h2, h3⟩ := ih (n + 1) (mx b y) y (by omega) (by omega) (by omega) (by omega)
          refine ⟨v, impl_round _ (Ev.neg c3 (Ev.neg c1 (Ev.neg c2 h2))), spec_round _ (Ev.neg c1 (Ev.succ ?_))⟩
          simp only [spec_WaitVictim.j2]
          refine Ev.neg (by simpa using c2) (Ev.neg c3 ?_)
          rw [wrap_in _ (by omega) (by omega)]
          unfold mx at h3
          by_cases c4 : y > b
          · rw [if_pos (show b < y from c4)] at h3
            exact Ev.pos c4 (Ev.pos (by omega) (Ev.pos (by omega) h3))
          · rw [if_neg (show ¬ b < y from c4)] at h3
            exact Ev.neg c4 (Ev.pos (by omega) (Ev.pos (by omega) h3))
theorem both (w : List Int) (x : Int) (hw : w.length ≤ 1048576) : ∃ v, Ev (fun k => spec_WaitVictim.f k w x) v ∧ Ev (fun k => impl_WaitVictim.f k w x) v := by
  simp only [spec_WaitVictim.f, impl_WaitVictim.f]
  by_cases c1 : x < 0
  · refine ⟨-1, Ev.pos c1 (Ev.succ ?_), Ev.pos c1 (Ev.succ ?_)⟩
    · simp only [spec_WaitVictim.j0]; exact Ev.some' rfl
    · simp only [impl_WaitVictim.j0]; exact Ev.some' rfl
  · by_cases c2 : x ≥ (w.length : Int)
    · refine ⟨-1, Ev.neg c1 (Ev.succ ?_), Ev.neg c1 (Ev.succ ?_)⟩
      · simp only [spec_WaitVictim.j0]; exact Ev.pos (decide_eq_true c2) (Ev.some' rfl)
      · simp only [impl_WaitVictim.j0]; exact Ev.pos (decide_eq_true c2) (Ev.some' rfl)
    · obtain ⟨v, h1, h2⟩ := side w x hw ⟨by omega, by omega⟩ 64 0 x x (by omega) (by omega) (by omega) (by omega)
      refine ⟨v, Ev.neg c1 (Ev.succ ?_), Ev.neg c1 (Ev.succ ?_)⟩
      · simp only [spec_WaitVictim.j0]; exact Ev.neg (by simpa using c2) (Ev.pos (by omega) (Ev.pos (by omega) h2))
      · simp only [impl_WaitVictim.j0]; exact Ev.neg (by simpa using c2) h1
theorem FnExactWaitVictim (w : List Int) (x : Int) (o : w.length ≤ 9223372036854775807 ∧ ∀ y ∈ w, (Lit.int .i64 y).wf = true) (hx : (Lit.int .i64 x).wf = true) : ∃ k, laws_FnExactWaitVictim.f k w x = some true := by
  refine Ev.rounds ?_
  simp only [laws_FnExactWaitVictim.f]
  by_cases hb : (w.length : Int) > 1048576
  · exact Ev.pos hb (Ev.some' rfl)
  · have ht := to_all w (by omega)
    obtain ⟨v, h1, h2⟩ := both w x (by omega)
    exact Ev.neg hb (Ev.bind ht (Ev.bind h1 (Ev.bind ht (Ev.bind h2 (Ev.pos (by trivial) (Ev.bind ht (Ev.bind (eq_all w (by omega)) (Ev.pos (by trivial) (Ev.some' rfl)))))))))
end Go.Proofs.Ytjnhbegppjeafaa.Pure
