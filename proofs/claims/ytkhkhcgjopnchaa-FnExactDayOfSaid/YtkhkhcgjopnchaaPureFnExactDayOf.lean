/- The program's DayOf and the reference's answer alike at every year, month and day. No condition. -/
import Derived.Test.YtkhkhcgjopnchaaPFnExactDayOfx2
import Derived.Test.YtkhkhcgjopnchaaUtil
namespace Go.Proofs.Ytkhkhcgjopnchaa.Pure
set_option linter.unusedVariables false
set_option linter.unusedSimpArgs false
open Go.RowKit Go.Proofs.Ytkhkhcgjopnchaa.PFnExactDayOf Go.Proofs.YtkhkhcgjopnchaaW.PrintWords Go.Proofs.YtkhkhcgjopnchaaU
theorem month_ok (y m : Int) : ∃ v, spec_l01Month.f y m = some v ∧ impl_monthDays.f y m = some v ∧ 28 ≤ v ∧ v ≤ 31 := by
  have e : impl_monthDays.f y m = spec_l01Month.f y m := rfl
  rw [e]
  suffices h : ∃ v, spec_l01Month.f y m = some v ∧ 28 ≤ v ∧ v ≤ 31 by
    obtain ⟨v, h1, h2, h3⟩ := h
    exact ⟨v, h1, h1, h2, h3⟩
  have hleap : ∃ b, spec_l01Leap.f y = some b := by
    unfold spec_l01Leap.f
    split
    · split <;> exact ⟨_, rfl⟩
    · exact ⟨_, rfl⟩
  obtain ⟨b, hb⟩ := hleap
  unfold spec_l01Month.f
  rw [hb]
  simp only [Option.bind_some]
  split
  · split
    · exact ⟨29, rfl, by omega, by omega⟩
    · exact ⟨28, rfl, by omega, by omega⟩
  · split
    · exact ⟨30, rfl, by omega, by omega⟩
    · split
      · exact ⟨30, rfl, by omega, by omega⟩
      · split
        · exact ⟨30, rfl, by omega, by omega⟩
        · split
          · exact ⟨30, rfl, by omega, by omega⟩
          · exact ⟨31, rfl, by omega, by omega⟩
/-- The days ahead of a year. -/
def N0 (y : Int) : Int := (y - 1) * 365 + (y - 1) / 4 - (y - 1) / 100 + (y - 1) / 400
theorem n0_range (y : Int) (h0 : 1 ≤ y) (h1 : y ≤ 20000) : 0 ≤ N0 y ∧ N0 y ≤ 8000000 := by unfold N0; omega
theorem tdivs (x : Int) (h : 0 ≤ x) : Int.tdiv x 4 = x / 4 ∧ Int.tdiv x 100 = x / 100 ∧ Int.tdiv x 400 = x / 400 :=
  ⟨Int.tdiv_eq_ediv_of_nonneg h, Int.tdiv_eq_ediv_of_nonneg h, Int.tdiv_eq_ediv_of_nonneg h⟩
theorem ahead_eq (y : Int) (h0 : 1 ≤ y) (h1 : y ≤ 20000) : spec_l01Ahead.f y = some (N0 y) := by
  obtain ⟨d1, d2, d3⟩ := tdivs (y - 1) (by omega)
  unfold spec_l01Ahead.f N0
  rw [wrap_in (y - 1) (by omega) (by omega), d1, d2, d3, wrap_in ((y - 1) / 4) (by omega) (by omega), wrap_in ((y - 1) / 100) (by omega) (by omega), wrap_in ((y - 1) / 400) (by omega) (by omega)]
  rw [wrap_in ((y - 1) * 365) (by omega) (by omega), wrap_in ((y - 1) * 365 + (y - 1) / 4) (by omega) (by omega), wrap_in ((y - 1) * 365 + (y - 1) / 4 - (y - 1) / 100) (by omega) (by omega), wrap_in _ (by omega) (by omega)]
theorem side (y mo day : Int) (hd0 : 1 ≤ day) (hd1 : day ≤ 31) (hm : mo ≤ 12) (d : Nat) : ∀ m s : Int, 1 ≤ m → m ≤ mo → mo - m = d → 0 ≤ s → s ≤ 9000000 - 31 * d →
    ∃ v, Ev (fun k => spec_DayOf.l0 k y mo (s + day - 1) m) (5, v, 0, (⟨#[]⟩ : ByteArray), 0) ∧ Ev (fun k => impl_DayOf.l0 k y mo day s m) (5, v, 0, (⟨#[]⟩ : ByteArray), 0) := by
  induction d with
  | zero =>
    intro m s h0 h1 h2 h3 h4
    refine ⟨s + day - 1, Ev.succ ?_, Ev.succ ?_⟩
    · simp only [spec_DayOf.l0]; exact Ev.neg (by omega) (Ev.some' rfl)
    · simp only [impl_DayOf.l0]
      rw [wrap_in (s + day) (by omega) (by omega), wrap_in (s + day - 1) (by omega) (by omega)]
      exact Ev.neg (by omega) (Ev.some' rfl)
  | succ d ih =>
    intro m s h0 h1 h2 h3 h4
    obtain ⟨u, e1, e2, u0, u1⟩ := month_ok y m
    obtain ⟨v, i1, i2⟩ := ih (m + 1) (s + u) (by omega) (by omega) (by omega) (by omega) (by omega)
    refine ⟨v, Ev.succ ?_, Ev.succ ?_⟩
    · simp only [spec_DayOf.l0]
      refine Ev.pos (by omega) (Ev.bndc e1 ?_)
      rw [wrap_in _ (by omega) (by omega), wrap_in _ (by omega) (by omega), show s + day - 1 + u = s + u + day - 1 by omega]
      exact i1
    · simp only [impl_DayOf.l0]
      refine Ev.pos (by omega) (Ev.bndc e2 ?_)
      rw [wrap_in _ (by omega) (by omega), wrap_in _ (by omega) (by omega)]
      exact i2
theorem day_alike (y m d : Int) : ∃ r, Ev (fun k => spec_DayOf.f k y m d) r ∧ Ev (fun k => impl_DayOf.f k y m d) r := by
  simp only [spec_DayOf.f, impl_DayOf.f]
  have no1 : Ev (fun k => spec_DayOf.j0 k y m d true) (0, 0, 0, (⟨#[]⟩ : ByteArray), 3) := Ev.succ (by simp only [spec_DayOf.j0]; exact Ev.some' rfl)
  have no2 : Ev (fun k => impl_DayOf.j0 k y m d true) (0, 0, 0, (⟨#[]⟩ : ByteArray), 3) := Ev.succ (by simp only [impl_DayOf.j0]; exact Ev.some' rfl)
  by_cases c1 : y < 1
  · exact ⟨_, Ev.pos c1 no1, Ev.pos c1 no2⟩
  · by_cases c2 : y > 9999
    · exact ⟨_, Ev.neg c1 (Ev.pos c2 no1), Ev.neg c1 (Ev.pos c2 no2)⟩
    · by_cases c3 : m < 1
      · exact ⟨_, Ev.neg c1 (Ev.neg c2 (Ev.pos c3 no1)), Ev.neg c1 (Ev.neg c2 (Ev.pos c3 no2))⟩
      · by_cases c4 : m > 12
        · exact ⟨_, Ev.neg c1 (Ev.neg c2 (Ev.neg c3 (Ev.pos c4 no1))), Ev.neg c1 (Ev.neg c2 (Ev.neg c3 (Ev.pos c4 no2)))⟩
        · by_cases c5 : d < 1
          · exact ⟨_, Ev.neg c1 (Ev.neg c2 (Ev.neg c3 (Ev.neg c4 (Ev.pos c5 no1)))), Ev.neg c1 (Ev.neg c2 (Ev.neg c3 (Ev.neg c4 (Ev.pos c5 no2))))⟩
          · obtain ⟨u, e1, e2, u0, u1⟩ := month_ok y m
            by_cases c6 : d > u
            · exact ⟨_, Ev.neg c1 (Ev.neg c2 (Ev.neg c3 (Ev.neg c4 (Ev.neg c5 (Ev.bndc e1 (by rw [decide_eq_true c6]; exact no1)))))), Ev.neg c1 (Ev.neg c2 (Ev.neg c3 (Ev.neg c4 (Ev.neg c5 (Ev.bndc e2 (by rw [decide_eq_true c6]; exact no2))))))⟩
            · have hn := n0_range y (by omega) (by omega)
              obtain ⟨v, i1, i2⟩ := side y m d (by omega) (by omega) (by omega) (m - 1).toNat 1 (N0 y) (by omega) (by omega) (by omega) hn.1 (by omega)
              refine ⟨(5, v, 0, (⟨#[]⟩ : ByteArray), 0), Ev.neg c1 (Ev.neg c2 (Ev.neg c3 (Ev.neg c4 (Ev.neg c5 (Ev.bndc e1 (Ev.succ ?_)))))), Ev.neg c1 (Ev.neg c2 (Ev.neg c3 (Ev.neg c4 (Ev.neg c5 (Ev.bndc e2 (Ev.succ ?_))))))⟩
              · simp only [spec_DayOf.j0]
                refine Ev.neg (by simpa using c6) (Ev.bndc (ahead_eq y (by omega) (by omega)) ?_)
                rw [wrap_in (N0 y + d) (by omega) (by omega), wrap_in _ (by omega) (by omega)]
                exact i1
              · simp only [impl_DayOf.j0]
                refine Ev.neg (by simpa using c6) ?_
                obtain ⟨d1, d2, d3⟩ := tdivs (y - 1) (by omega)
                rw [wrap_in (y - 1) (by omega) (by omega), d1, d2, d3, wrap_in ((y - 1) / 4) (by omega) (by omega), wrap_in ((y - 1) / 100) (by omega) (by omega), wrap_in ((y - 1) / 400) (by omega) (by omega)]
                rw [wrap_in (365 * (y - 1)) (by omega) (by omega), wrap_in (365 * (y - 1) + (y - 1) / 4) (by omega) (by omega), wrap_in (365 * (y - 1) + (y - 1) / 4 - (y - 1) / 100) (by omega) (by omega), wrap_in _ (by omega) (by omega)]
                have : 365 * (y - 1) + (y - 1) / 4 - (y - 1) / 100 + (y - 1) / 400 = N0 y := by unfold N0; omega
                rw [this]
                exact i2
theorem FnExactDayOf (y m d : Int) (h : (Lit.int .i64 y).wf = true) (h' : (Lit.int .i64 m).wf = true) (h'' : (Lit.int .i64 d).wf = true) : ∃ k, laws_FnExactDayOf.f k y m d = some true := by
  obtain ⟨r, h1, h2⟩ := day_alike y m d
  refine Ev.rounds ?_
  simp only [laws_FnExactDayOf.f]
  refine Ev.bind h1 (Ev.bind h2 (Ev.bndc (b := true) (by simp [laws_eqValue.f]) (Ev.pos (by trivial) (Ev.pos (by trivial) (Ev.some' rfl)))))
end Go.Proofs.Ytkhkhcgjopnchaa.Pure
