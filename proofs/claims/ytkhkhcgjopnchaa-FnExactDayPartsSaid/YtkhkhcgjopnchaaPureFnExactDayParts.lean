/- The program's DayParts and the reference's answer alike at every value. No condition. -/
import Derived.Test.YtkhkhcgjopnchaaQFnExactDayPartsx4
import Derived.Test.YtkhkhcgjopnchaaValDayParts
namespace Go.Proofs.Ytkhkhcgjopnchaa.Pure
set_option linter.unusedVariables false
set_option linter.unusedSimpArgs false
open Go.RowKit Go.Proofs.Ytkhkhcgjopnchaa.QFnExactDayParts Go.Proofs.YtkhkhcgjopnchaaW.PrintWords Go.Proofs.YtkhkhcgjopnchaaU Go.Proofs.Ytkhkhcgjopnchaa.QFnExactDayPartsV
theorem month_ok (y m : Int) : ∃ v, spec_l01Month.f y m = some v ∧ impl_monthDays.f y m = some v ∧ 28 ≤ v ∧ v ≤ 31 := by
  have e : impl_monthDays.f y m = spec_l01Month.f y m := rfl
  rw [e]
  suffices h : ∃ v, spec_l01Month.f y m = some v ∧ 28 ≤ v ∧ v ≤ 31 by
    obtain ⟨v, h1, h2, h3⟩ := h
    exact ⟨v, h1, h1, h2, h3⟩
  have hleap : ∃ b, spec_l01Leap.f y = some b := by
    unfold spec_l01Leap.f
    split
    · split <;> exact ⟨_, rfl⟩
    · exact ⟨_, rfl⟩
  obtain ⟨b, hb⟩ := hleap
  unfold spec_l01Month.f
  rw [hb]
  simp only [Option.bind_some]
  split
  · split
    · exact ⟨29, rfl, by omega, by omega⟩
    · exact ⟨28, rfl, by omega, by omega⟩
  · split
    · exact ⟨30, rfl, by omega, by omega⟩
    · split
      · exact ⟨30, rfl, by omega, by omega⟩
      · split
        · exact ⟨30, rfl, by omega, by omega⟩
        · split
          · exact ⟨30, rfl, by omega, by omega⟩
          · exact ⟨31, rfl, by omega, by omega⟩
/-- The days ahead of a year. -/
def N0 (y : Int) : Int := (y - 1) * 365 + (y - 1) / 4 - (y - 1) / 100 + (y - 1) / 400
theorem n0_range (y : Int) (h0 : 1 ≤ y) (h1 : y ≤ 20000) : 0 ≤ N0 y ∧ N0 y ≤ 8000000 := by unfold N0; omega
theorem tdivs (x : Int) (h : 0 ≤ x) : Int.tdiv x 4 = x / 4 ∧ Int.tdiv x 100 = x / 100 ∧ Int.tdiv x 400 = x / 400 :=
  ⟨Int.tdiv_eq_ediv_of_nonneg h, Int.tdiv_eq_ediv_of_nonneg h, Int.tdiv_eq_ediv_of_nonneg h⟩
theorem ahead_eq (y : Int) (h0 : 1 ≤ y) (h1 : y ≤ 20000) : spec_l01Ahead.f y = some (N0 y) := by
  obtain ⟨d1, d2, d3⟩ := tdivs (y - 1) (by omega)
  unfold spec_l01Ahead.f N0
  rw [wrap_in (y - 1) (by omega) (by omega), d1, d2, d3, wrap_in ((y - 1) / 4) (by omega) (by omega), wrap_in ((y - 1) / 100) (by omega) (by omega), wrap_in ((y - 1) / 400) (by omega) (by omega)]
  rw [wrap_in ((y - 1) * 365) (by omega) (by omega), wrap_in ((y - 1) * 365 + (y - 1) / 4) (by omega) (by omega), wrap_in ((y - 1) * 365 + (y - 1) / 4 - (y - 1) / 100) (by omega) (by omega), wrap_in _ (by omega) (by omega)]
theorem day_one (y : Int) (h0 : 1 ≤ y) (h1 : y ≤ 9999) : Ev (fun k => impl_DayOf.f k y 1 1) (5, N0 y, 0, (⟨#[]⟩ : ByteArray), 0) := by
  obtain ⟨u, e1, e2, u0, u1⟩ := month_ok y 1
  have hn := n0_range y h0 (by omega)
  simp only [impl_DayOf.f]
  refine Ev.neg (by omega) (Ev.neg (by omega) (Ev.neg (by omega) (Ev.neg (by omega) (Ev.neg (by omega) (Ev.bndc e2 (Ev.succ ?_))))))
  simp only [impl_DayOf.j0]
  refine Ev.neg (by simp; omega) (Ev.succ ?_)
  simp only [impl_DayOf.l0]
  refine Ev.neg (by omega) (Ev.some' ?_)
  obtain ⟨d1, d2, d3⟩ := tdivs (y - 1) (by omega)
  rw [wrap_in (y - 1) (by omega) (by omega), d1, d2, d3, wrap_in ((y - 1) / 4) (by omega) (by omega), wrap_in ((y - 1) / 100) (by omega) (by omega), wrap_in ((y - 1) / 400) (by omega) (by omega)]
  rw [wrap_in (365 * (y - 1)) (by omega) (by omega), wrap_in (365 * (y - 1) + (y - 1) / 4) (by omega) (by omega), wrap_in (365 * (y - 1) + (y - 1) / 4 - (y - 1) / 100) (by omega) (by omega)]
  rw [wrap_in (365 * (y - 1) + (y - 1) / 4 - (y - 1) / 100 + (y - 1) / 400) (by omega) (by omega)]
  have : 365 * (y - 1) + (y - 1) / 4 - (y - 1) / 100 + (y - 1) / 400 = N0 y := by unfold N0; omega
  rw [this, wrap_in (N0 y + 1) (by omega) (by omega), wrap_in _ (by omega) (by omega), show N0 y + 1 - 1 = N0 y by omega]
theorem day_far : Ev (fun k => impl_DayOf.f k 10000 1 1) (0, 0, 0, (⟨#[]⟩ : ByteArray), 3) := by
  simp only [impl_DayOf.f]
  refine Ev.neg (by omega) (Ev.pos (by omega) (Ev.succ ?_))
  simp only [impl_DayOf.j0]
  exact Ev.some' rfl
theorem months (y : Int) (d : Nat) : ∀ n m : Int, n.toNat ≤ d → -9000000 ≤ n → n ≤ 9000000 → 1 ≤ m → m + d ≤ 20000000 →
    ∃ a b c, Ev (fun k => spec_l01Parts.l1 k n y m) (a, b, c) ∧ Ev (fun k => impl_DayParts.l1 k y n m) (a, b, c, 0) := by
  induction d with
  | zero =>
    intro n m h0 h1 h2 h3 h4
    obtain ⟨u, e1, e2, u0, u1⟩ := month_ok y m
    refine ⟨y, m, n + 1, Ev.succ ?_, Ev.succ ?_⟩
    · simp only [spec_l01Parts.l1]
      refine Ev.bndc e1 (Ev.neg (by omega) (Ev.some' ?_))
      rw [wrap_in _ (by omega) (by omega)]
    · simp only [impl_DayParts.l1]
      refine Ev.bndc e2 (Ev.neg (by omega) (Ev.some' ?_))
      rw [wrap_in _ (by omega) (by omega)]
  | succ d ih =>
    intro n m h0 h1 h2 h3 h4
    obtain ⟨u, e1, e2, u0, u1⟩ := month_ok y m
    by_cases hc : n ≥ u
    · obtain ⟨a, b, c, i1, i2⟩ := ih (n - u) (m + 1) (by omega) (by omega) (by omega) (by omega) (by omega)
      refine ⟨a, b, c, Ev.succ ?_, Ev.succ ?_⟩
      · simp only [spec_l01Parts.l1]
        refine Ev.bndc e1 (Ev.pos hc (Ev.bndc e1 ?_))
        rw [wrap_in (n - u) (by omega) (by omega), wrap_in (m + 1) (by omega) (by omega)]
        exact i1
      · simp only [impl_DayParts.l1]
        refine Ev.bndc e2 (Ev.pos hc (Ev.bndc e2 ?_))
        rw [wrap_in (n - u) (by omega) (by omega), wrap_in (m + 1) (by omega) (by omega)]
        exact i2
    · refine ⟨y, m, n + 1, Ev.succ ?_, Ev.succ ?_⟩
      · simp only [spec_l01Parts.l1]
        refine Ev.bndc e1 (Ev.neg hc (Ev.some' ?_))
        rw [wrap_in _ (by omega) (by omega)]
      · simp only [impl_DayParts.l1]
        refine Ev.bndc e2 (Ev.neg hc (Ev.some' ?_))
        rw [wrap_in _ (by omega) (by omega)]
theorem years (n K S : Int) (s : ByteArray) (hn0 : 0 ≤ n) (hn1 : n ≤ 3652058) (d : Nat) : ∀ y : Int, 1 ≤ y → y ≤ 9999 → 9999 - y = d →
    ∃ a b c, Ev (fun k => spec_l01Parts.l0 k n y) (a, b, c) ∧ Ev (fun k => impl_DayParts.l0 k y K n S s) (a, b, c, 0) := by
  have last : ∀ y : Int, 1 ≤ y → y ≤ 9999 → N0 (y + 1) > n → ∃ a b c, Ev (fun k => (spec_l01Ahead.f y).bind fun t106 => spec_l01Parts.l1 k (wrap64 (n - t106)) y 1) (a, b, c) ∧ Ev (fun k => impl_DayParts.j2 k y K n S s) (a, b, c, 0) := by
    intro y h0 h1 h2
    have hr := n0_range y h0 (by omega)
    obtain ⟨a, b, c, i1, i2⟩ := months y 9000000 (n - N0 y) 1 (by omega) (by omega) (by omega) (by omega) (by omega)
    refine ⟨a, b, c, Ev.bndc (ahead_eq y h0 (by omega)) ?_, Ev.succ ?_⟩
    · rw [wrap_in _ (by omega) (by omega)]; exact i1
    · simp only [impl_DayParts.j2]
      refine Ev.bind (day_one y h0 h1) ?_
      show Ev (fun k => impl_DayParts.l1 k y (wrap64 (n - N0 y)) 1) _
      rw [wrap_in _ (by omega) (by omega)]; exact i2
  induction d with
  | zero =>
    intro y h0 h1 hd
    obtain rfl : y = 9999 := by omega
    have h2 : N0 (9999 + 1) > n := by unfold N0; omega
    obtain ⟨a, b, c, i1, i2⟩ := last 9999 h0 h1 h2
    refine ⟨a, b, c, Ev.succ ?_, Ev.succ ?_⟩
    · simp only [spec_l01Parts.l0]
      rw [wrap_in (9999 + 1) (by omega) (by omega)]
      exact Ev.bndc (ahead_eq _ (by omega) (by omega)) (Ev.neg (by omega) i1)
    · simp only [impl_DayParts.l0]
      rw [wrap_in (9999 + 1) (by omega) (by omega)]
      exact Ev.bind day_far (Ev.neg (by simp) i2)
  | succ d ih =>
    intro y h0 h1 hd
    by_cases hc : N0 (y + 1) ≤ n
    · obtain ⟨a, b, c, i1, i2⟩ := ih (y + 1) (by omega) (by omega) (by omega)
      refine ⟨a, b, c, Ev.succ ?_, Ev.succ ?_⟩
      · simp only [spec_l01Parts.l0]
        rw [wrap_in (y + 1) (by omega) (by omega)]
        exact Ev.bndc (ahead_eq _ (by omega) (by omega)) (Ev.pos hc i1)
      · simp only [impl_DayParts.l0]
        rw [wrap_in (y + 1) (by omega) (by omega)]
        exact Ev.bind (day_one (y + 1) (by omega) (by omega)) (Ev.pos (by trivial) (Ev.neg (show ¬ N0 (y + 1) > n by omega) i2))
    · obtain ⟨a, b, c, i1, i2⟩ := last y h0 h1 (by omega)
      refine ⟨a, b, c, Ev.succ ?_, Ev.succ ?_⟩
      · simp only [spec_l01Parts.l0]
        rw [wrap_in (y + 1) (by omega) (by omega)]
        exact Ev.bndc (ahead_eq _ (by omega) (by omega)) (Ev.neg hc i1)
      · simp only [impl_DayParts.l0]
        rw [wrap_in (y + 1) (by omega) (by omega)]
        exact Ev.bind (day_one (y + 1) (by omega) (by omega)) (Ev.pos (by trivial) (Ev.pos (show N0 (y + 1) > n by omega) i2))
theorem parts_alike (K N S : Int) (s : ByteArray) (hs : s.size ≤ 9223372036854775807) : ∃ r, Ev (fun k => spec_DayParts.f k K N S s) r ∧ Ev (fun k => impl_DayParts.f k K N S s) r := by
  obtain ⟨b, hb, h1, h2⟩ := val_alike K N S s hs
  have no : Ev (fun k => impl_DayParts.j0 k true K N S s) (0, 0, 0, 1) := Ev.succ (by simp only [impl_DayParts.j0]; exact Ev.some' rfl)
  simp only [spec_DayParts.f, impl_DayParts.f]
  cases b with
  | false =>
    refine ⟨(0, 0, 0, 1), Ev.bind h1 (Ev.neg (by simp) (Ev.some' rfl)), ?_⟩
    by_cases k5 : K = 5
    · exact Ev.pos k5 (Ev.bind h2 no)
    · exact Ev.neg k5 no
  | true =>
    by_cases k5 : K = 5
    · have hv := hb.1 rfl
      have hn : 0 ≤ N ∧ N ≤ 3652058 := by rcases hv with h | h | h | h | h | h <;> omega
      have hd : Int.tdiv N 366 = N / 366 := Int.tdiv_eq_ediv_of_nonneg hn.1
      obtain ⟨a, b, c, i1, i2⟩ := years N K S s hn.1 hn.2 (9999 - (N / 366 + 1)).toNat (N / 366 + 1) (by omega) (by omega) (by omega)
      refine ⟨(a, b, c, 0), Ev.bind h1 (Ev.pos rfl (Ev.pos k5 (Ev.bind (a := (a, b, c)) ?_ (Ev.some' rfl)))), Ev.pos k5 (Ev.bind h2 (Ev.succ ?_))⟩
      · simp only [spec_l01Parts.f]
        rw [hd, wrap_in (N / 366) (by omega) (by omega), wrap_in _ (by omega) (by omega)]
        exact i1
      · simp only [impl_DayParts.j0]
        rw [hd, wrap_in (N / 366) (by omega) (by omega), wrap_in (N / 366 + 1) (by omega) (by omega)]
        exact Ev.neg (by simp) i2
    · exact ⟨(0, 0, 0, 1), Ev.bind h1 (Ev.pos rfl (Ev.neg k5 (Ev.some' rfl))), Ev.neg k5 no⟩
theorem FnExactDayParts (K N S : Int) (s : ByteArray) (o : (Lit.int .i64 K).wf = true ∧ (Lit.int .i64 N).wf = true ∧ (Lit.int .i64 S).wf = true ∧ s.size ≤ 9223372036854775807) : ∃ k, laws_FnExactDayParts.f k K N S s = some true := by
  obtain ⟨r, h1, h2⟩ := parts_alike K N S s o.2.2.2
  refine Ev.rounds ?_
  simp only [laws_FnExactDayParts.f, laws_toValue.f, Option.bind_some, laws_szValue.f]
  by_cases hc : wrap64 (1048576 - (s.size : Int)) < 0
  · simp only [if_pos hc, Option.bind_some]
    exact Ev.pos (by omega) (Ev.some' rfl)
  · simp only [if_neg hc, Option.bind_some]
    exact Ev.bind h1 (Ev.bind h2 (Ev.pos (by trivial) (Ev.pos (by trivial) (Ev.pos (by trivial) (Ev.pos (by trivial) (Ev.some' rfl))))))
end Go.Proofs.Ytkhkhcgjopnchaa.Pure
