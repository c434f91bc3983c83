/- A run of clocks: the reference and the program come to one list of answers, and what the clocks hold. No condition. -/
import Derived.Test.YtiolnbhcmoafjaaQFnClocksx3
import Derived.Test.YtiolnbhcmoafjaaQFnClocksx5
import Derived.Test.YtiolnbhcmoafjaaUtil
namespace Go.Proofs.Ytiolnbhcmoafjaa.QFnClocksD
set_option linter.unusedVariables false
set_option linter.unusedSimpArgs false
open Go.RowKit Go.Proofs.Ytiolnbhcmoafjaa.QFnClocks Go.Proofs.YtiolnbhcmoafjaaW.PrintWords Go.Proofs.YtiolnbhcmoafjaaU
def tok (t : S40) : Prop := (0 ≤ t.f0 ∧ t.f0 ≤ 1000000000000) ∧ (0 ≤ t.f1 ∧ t.f1 ≤ 1000000)
abbrev lt40 (a b : S40) : Prop := a.f0 < b.f0 ∨ (a.f0 = b.f0 ∧ a.f1 < b.f1)
def nx (a b : Int) : Int × Int := if b < 1000000 then (a, b + 1) else if a < 1000000000000 then (a + 1, 0) else (0, 0)
def nowf (t : S40) (w : Int) : S40 × Int := if w > t.f0 then (⟨w, 0⟩, 0) else if t.f1 < 1000000 then (⟨t.f0, t.f1 + 1⟩, 0) else if t.f0 < 1000000000000 then (⟨t.f0 + 1, 0⟩, 0) else (⟨0, 0⟩, 3)
def seef (t : S40) (w : Int) (u : S40) : S40 × Int := if u.f0 > w + 500 then (⟨0, 0⟩, 6) else if lt40 t u then (u, 0) else (t, 0)
theorem ok_true (a b : Int) (h1 : 0 ≤ a) (h2 : a ≤ 1000000000000) (h3 : 0 ≤ b) (h4 : b ≤ 1000000) : spec_TimeOK.f a b = some true := by
  unfold spec_TimeOK.f
  rw [if_pos h1, if_pos h2, if_pos h3, decide_eq_true h4]
theorem ok_false (a b : Int) (h : ¬ (0 ≤ a ∧ a ≤ 1000000000000 ∧ 0 ≤ b ∧ b ≤ 1000000)) : spec_TimeOK.f a b = some false := by
  unfold spec_TimeOK.f
  by_cases h1 : a ≥ 0
  · by_cases h2 : a ≤ 1000000000000
    · by_cases h3 : b ≥ 0
      · rw [if_pos h1, if_pos h2, if_pos h3, decide_eq_false (by omega)]
      · rw [if_pos h1, if_pos h2, if_neg h3]
    · rw [if_pos h1, if_neg h2]
  · rw [if_neg h1]
theorem ok_same (a b : Int) : impl_TimeOK.f a b = spec_TimeOK.f a b := rfl
theorem next_spec (a b : Int) (h1 : 0 ≤ a) (h2 : a ≤ 1000000000000) (h3 : 0 ≤ b) (h4 : b ≤ 1000000) : spec_TimeNext.f a b = some (nx a b) := by
  simp only [spec_TimeNext.f, nx]
  rw [ok_true a b h1 h2 h3 h4, wrap_in (b + 1) (by omega) (by omega), wrap_in (a + 1) (by omega) (by omega)]
  simp only [Option.bind_some, if_true]
  by_cases c2 : b < 1000000
  · rw [if_neg (show ¬ b + 1 > 1000000 by omega), if_pos c2, ok_true _ _ h1 h2 (by omega) (by omega)]
    simp
  · rw [if_pos (show b + 1 > 1000000 by omega), if_neg c2]
    by_cases c3 : a < 1000000000000
    · rw [if_pos c3, ok_true _ _ (by omega) (by omega) (by omega) (by omega)]
      simp
    · rw [if_neg c3, ok_false _ _ (by omega)]
      simp
theorem next_impl (a b : Int) (h1 : 0 ≤ a) (h2 : a ≤ 1000000000000) (h3 : 0 ≤ b) (h4 : b ≤ 1000000) : impl_TimeNext.f a b = some (nx a b) := by
  simp only [impl_TimeNext.f, nx, ok_same]
  rw [ok_true a b h1 h2 h3 h4, wrap_in (b + 1) (by omega) (by omega), wrap_in (a + 1) (by omega) (by omega)]
  simp only [Option.bind_some, if_true]
  by_cases c2 : b < 1000000
  · rw [if_pos c2, if_pos c2]
  · rw [if_neg c2, if_neg c2]
    by_cases c3 : a < 1000000000000
    · rw [if_pos c3, if_pos c3]
    · rw [if_neg c3, if_neg c3]
theorem now_leaf (a b w : Int) (h1 : 0 ≤ a) (h3 : 0 ≤ b) (c : ¬ w > a) : (if ((nx a b).1 == 0 && ((nx a b).2 == 0)) = true then some ((nx a b).1, (nx a b).2, (3 : Int)) else some ((nx a b).1, (nx a b).2, (0 : Int))) = some ((nowf ⟨a, b⟩ w).1.f0, (nowf ⟨a, b⟩ w).1.f1, (nowf ⟨a, b⟩ w).2) := by
  unfold nx nowf
  rw [if_neg c]
  by_cases c2 : b < 1000000
  · have : ¬ ((a == 0 && (b + 1 == 0)) = true) := by simp; omega
    simp only [if_pos c2, if_neg this]
  · by_cases c3 : a < 1000000000000
    · have : ¬ ((a + 1 == 0 && ((0 : Int) == 0)) = true) := by simp; omega
      simp only [if_neg c2, if_pos c3, if_neg this]
    · have : ((0 : Int) == 0 && ((0 : Int) == 0)) = true := by simp
      simp only [if_neg c2, if_neg c3, if_pos this]
theorem now_spec (t : S40) (w : Int) (h : tok t) (hw : 0 ≤ w ∧ w ≤ 1000000000000) : Ev (fun k => spec_ClockNow.f k t.f0 t.f1 w) ((nowf t w).1.f0, (nowf t w).1.f1, (nowf t w).2) := by
  obtain ⟨a, b⟩ := t
  obtain ⟨⟨h1, h2⟩, h3, h4⟩ := h
  simp only at h1 h2 h3 h4
  simp only [spec_ClockNow.f, spec_l02Wall.f]
  refine Ev.bndc (ok_true a b h1 h2 h3 h4) (Ev.pos rfl ?_)
  rw [if_pos (show w ≥ 0 from hw.1)]
  refine Ev.bndc rfl (Ev.succ ?_)
  simp only [spec_ClockNow.j0]
  refine Ev.neg (by simp [hw.2]) ?_
  by_cases c : w > a
  · refine Ev.pos c (Ev.some' ?_)
    unfold nowf
    rw [if_pos c]
  · refine Ev.neg c (Ev.bndc (next_spec a b h1 h2 h3 h4) ?_)
    rw [now_leaf a b w h1 h3 c]
    exact Ev.some' rfl
theorem now_impl (t : S40) (w : Int) (h : tok t) (hw : 0 ≤ w ∧ w ≤ 1000000000000) : Ev (fun k => impl_ClockNow.f k t.f0 t.f1 w) ((nowf t w).1.f0, (nowf t w).1.f1, (nowf t w).2) := by
  obtain ⟨a, b⟩ := t
  obtain ⟨⟨h1, h2⟩, h3, h4⟩ := h
  simp only at h1 h2 h3 h4
  simp only [impl_ClockNow.f, ok_same]
  refine Ev.bndc (ok_true a b h1 h2 h3 h4) (Ev.pos rfl (Ev.neg (by omega) (Ev.succ ?_)))
  simp only [impl_ClockNow.j0]
  refine Ev.neg (by simp; omega) ?_
  by_cases c : w > a
  · refine Ev.pos c (Ev.some' ?_)
    unfold nowf
    rw [if_pos c]
  · refine Ev.neg c (Ev.bndc (next_impl a b h1 h2 h3 h4) ?_)
    rw [now_leaf a b w h1 h3 c]
    exact Ev.some' rfl
theorem cmp_spec (a b c d : Int) : ∃ x, spec_TimeCompare.f a b c d = some x ∧ (x < 0 ↔ lt40 ⟨a, b⟩ ⟨c, d⟩) ∧ (x ≤ 0 ↔ ¬ lt40 ⟨c, d⟩ ⟨a, b⟩) := by
  simp only [spec_TimeCompare.f, spec_l01Sign.f, lt40]
  rcases Int.lt_trichotomy a c with h1 | h1 | h1
  · rw [if_neg (by omega), if_pos h1]
    exact ⟨-1, rfl, by omega, by omega⟩
  · rw [if_pos h1]
    rcases Int.lt_trichotomy b d with h2 | h2 | h2
    · rw [if_pos h2]; exact ⟨-1, rfl, by omega, by omega⟩
    · rw [if_neg (by omega), if_neg (by omega)]; exact ⟨0, rfl, by omega, by omega⟩
    · rw [if_neg (by omega), if_pos h2]; exact ⟨1, rfl, by omega, by omega⟩
  · rw [if_neg (by omega), if_neg (by omega), if_pos h1]
    exact ⟨1, rfl, by omega, by omega⟩
theorem cmp_impl (a b c d : Int) : ∃ x, impl_TimeCompare.f a b c d = some x ∧ (x > 0 ↔ lt40 ⟨c, d⟩ ⟨a, b⟩) := by
  simp only [impl_TimeCompare.f, impl_cmpInt.f, lt40]
  rcases Int.lt_trichotomy a c with h1 | h1 | h1
  · rw [if_pos h1]
    exact ⟨-1, rfl, by omega⟩
  · rw [if_neg (by omega), if_neg (by omega), Option.bind_some, if_pos rfl]
    rcases Int.lt_trichotomy b d with h2 | h2 | h2
    · rw [if_pos h2]; exact ⟨-1, rfl, by omega⟩
    · rw [if_neg (by omega), if_neg (by omega)]; exact ⟨0, rfl, by omega⟩
    · rw [if_neg (by omega), if_pos h2]; exact ⟨1, rfl, by omega⟩
  · rw [if_neg (by omega), if_pos h1]
    exact ⟨1, rfl, by omega⟩
theorem see_spec (t : S40) (w : Int) (u : S40) (h : tok t) (hw : 0 ≤ w ∧ w ≤ 1000000000000) (hu : tok u) : Ev (fun k => spec_ClockSee.f k t.f0 t.f1 w u.f0 u.f1) ((seef t w u).1.f0, (seef t w u).1.f1, (seef t w u).2) := by
  obtain ⟨x, e, e1, _⟩ := cmp_spec t.f0 t.f1 u.f0 u.f1
  simp only [spec_ClockSee.f, spec_l02Wall.f]
  refine Ev.bndc (ok_true _ _ h.1.1 h.1.2 h.2.1 h.2.2) (Ev.pos rfl ?_)
  rw [if_pos (show w ≥ 0 from hw.1)]
  refine Ev.bndc rfl (Ev.pos (by simp [hw.2]) (Ev.bndc (ok_true _ _ hu.1.1 hu.1.2 hu.2.1 hu.2.2) (Ev.succ ?_)))
  simp only [spec_ClockSee.j0]
  rw [wrap_in (w + 500) (by omega) (by omega)]
  refine Ev.neg (by simp) ?_
  by_cases c : u.f0 > w + 500
  · have es : seef t w u = (⟨0, 0⟩, 6) := by unfold seef; rw [if_pos c]
    rw [es]; exact Ev.pos c (Ev.some' rfl)
  · refine Ev.neg c (Ev.bndc e ?_)
    by_cases c2 : lt40 t u
    · have es : seef t w u = (u, 0) := by unfold seef; rw [if_neg c, if_pos c2]
      rw [es]; exact Ev.pos (e1.2 c2) (Ev.some' rfl)
    · have es : seef t w u = (t, 0) := by unfold seef; rw [if_neg c, if_neg c2]
      rw [es]; exact Ev.neg (fun q => c2 (e1.1 q)) (Ev.some' rfl)
theorem see_impl (t : S40) (w : Int) (u : S40) (h : tok t) (hw : 0 ≤ w ∧ w ≤ 1000000000000) (hu : tok u) : Ev (fun k => impl_ClockSee.f k t.f0 t.f1 w u.f0 u.f1) ((seef t w u).1.f0, (seef t w u).1.f1, (seef t w u).2) := by
  obtain ⟨x, e, e1⟩ := cmp_impl u.f0 u.f1 t.f0 t.f1
  simp only [impl_ClockSee.f, ok_same]
  refine Ev.bndc (ok_true _ _ h.1.1 h.1.2 h.2.1 h.2.2) (Ev.pos rfl (Ev.neg (by omega) (Ev.neg (by omega) (Ev.bndc (ok_true _ _ hu.1.1 hu.1.2 hu.2.1 hu.2.2) (Ev.succ ?_)))))
  simp only [impl_ClockSee.j0]
  rw [wrap_in (w + 500) (by omega) (by omega)]
  refine Ev.neg (by simp) ?_
  by_cases c : u.f0 > w + 500
  · have es : seef t w u = (⟨0, 0⟩, 6) := by unfold seef; rw [if_pos c]
    rw [es]; exact Ev.pos c (Ev.some' rfl)
  · refine Ev.neg c (Ev.bndc e ?_)
    by_cases c2 : lt40 t u
    · have es : seef t w u = (u, 0) := by unfold seef; rw [if_neg c, if_pos c2]
      rw [es]; exact Ev.pos (e1.2 c2) (Ev.some' rfl)
    · have es : seef t w u = (t, 0) := by unfold seef; rw [if_neg c, if_neg c2]
      rw [es]; exact Ev.neg (fun q => c2 (e1.1 q)) (Ev.some' rfl)
theorem now_code (t : S40) (w : Int) : (nowf t w).2 = 0 ∨ (nowf t w).2 = 3 := by
  unfold nowf
  split
  · exact .inl rfl
  · split
    · exact .inl rfl
    · split
      · exact .inl rfl
      · exact .inr rfl
theorem now_good (t : S40) (w : Int) (h : tok t) (hw : 0 ≤ w ∧ w ≤ 1000000000000) (z : (nowf t w).2 = 0) : tok (nowf t w).1 ∧ lt40 t (nowf t w).1 := by
  obtain ⟨⟨h1, h2⟩, h3, h4⟩ := h
  unfold nowf at z ⊢
  by_cases c : w > t.f0
  · rw [if_pos c]; exact ⟨⟨⟨hw.1, hw.2⟩, by simp, by simp⟩, .inl c⟩
  · rw [if_neg c] at z ⊢
    by_cases c2 : t.f1 < 1000000
    · rw [if_pos c2]; exact ⟨⟨⟨h1, h2⟩, by show 0 ≤ t.f1 + 1; omega, by show t.f1 + 1 ≤ _; omega⟩, .inr ⟨rfl, by show t.f1 < t.f1 + 1; omega⟩⟩
    · rw [if_neg c2] at z ⊢
      by_cases c3 : t.f0 < 1000000000000
      · rw [if_pos c3]; exact ⟨⟨⟨by show 0 ≤ t.f0 + 1; omega, by show t.f0 + 1 ≤ _; omega⟩, by simp, by simp⟩, .inl (by show t.f0 < t.f0 + 1; omega)⟩
      · rw [if_neg c3] at z
        simp at z
theorem see_good (t : S40) (w : Int) (u : S40) (h : tok t) (hu : tok u) (z : (seef t w u).2 = 0) : tok (seef t w u).1 ∧ ¬ lt40 (seef t w u).1 t ∧ ¬ lt40 (seef t w u).1 u := by
  unfold seef at z ⊢
  by_cases c : u.f0 > w + 500
  · rw [if_pos c] at z; simp at z
  · rw [if_neg c]
    by_cases c2 : lt40 t u
    · rw [if_pos c2]
      exact ⟨hu, by show ¬ lt40 u t; unfold lt40 at *; omega, by show ¬ lt40 u u; unfold lt40; omega⟩
    · rw [if_neg c2]
      exact ⟨h, by show ¬ lt40 t t; unfold lt40; omega, c2⟩
/-! ### the rows -/
theorem rd40_set (xs : List S40) (i j : Int) (x : S40) (hi : 0 ≤ i) (hi2 : i < xs.length) (hj : 0 ≤ j) : rd_T40 (xs.set i.toNat x) j = if j = i then x else rd_T40 xs j := by
  unfold rd_T40
  rw [List.getD_eq_getElem?_getD, List.getD_eq_getElem?_getD, List.getElem?_set]
  by_cases e : j = i
  · subst e
    rw [if_pos rfl, if_pos rfl, if_pos (by omega)]
    rfl
  · rw [if_neg e, if_neg (by omega)]
theorem rd_set (xs : List Int) (i j x : Int) (hi : 0 ≤ i) (hi2 : i < xs.length) (hj : 0 ≤ j) : rd (xs.set i.toNat x) j = if j = i then x else rd xs j := by
  unfold rd
  rw [List.getD_eq_getElem?_getD, List.getD_eq_getElem?_getD, List.getElem?_set]
  by_cases e : j = i
  · subst e
    rw [if_pos rfl, if_pos rfl, if_pos (by omega)]
    rfl
  · rw [if_neg e, if_neg (by omega)]
structure Inv (n : Int) (L : List S40) (W : List Int) : Prop where
  ll : (L.length : Int) = n
  wl : (W.length : Int) = n
  lt : ∀ j : Int, 0 ≤ j → j < n → tok (rd_T40 L j)
  wt : ∀ j : Int, 0 ≤ j → j < n → 0 ≤ rd W j ∧ rd W j ≤ 1000000000000
theorem Inv.setL {n : Int} {L : List S40} {W : List Int} (h : Inv n L W) (i : Int) (x : S40) (h0 : 0 ≤ i) (h1 : i < n) (hx : tok x) : Inv n (L.set i.toNat x) W := by
  refine ⟨by rw [List.length_set]; exact h.ll, h.wl, fun j j0 j1 => ?_, h.wt⟩
  rw [rd40_set L i j x h0 (by rw [h.ll]; exact h1) j0]
  split
  · exact hx
  · exact h.lt j j0 j1
theorem Inv.setW {n : Int} {L : List S40} {W : List Int} (h : Inv n L W) (i x : Int) (h0 : 0 ≤ i) (h1 : i < n) (hx : 0 ≤ x ∧ x ≤ 1000000000000) : Inv n L (W.set i.toNat x) := by
  refine ⟨h.ll, by rw [List.length_set]; exact h.wl, h.lt, fun j j0 j1 => ?_⟩
  rw [rd_set W i j x h0 (by rw [h.wl]; exact h1) j0]
  split
  · exact hx
  · exact h.wt j j0 j1
def stp (n : Int) (o : S44) (L : List S40) (W : List Int) : S42 × List S40 × List Int :=
  if 0 ≤ o.f1 ∧ o.f1 < n then
    if o.f0 = 1 then (if 0 ≤ o.f3 ∧ o.f3 ≤ 1000000000000 then (⟨0, ⟨0, 0⟩⟩, L, W.set o.f1.toNat o.f3) else (⟨1, ⟨0, 0⟩⟩, L, W))
    else if o.f0 = 2 ∨ (o.f0 = 3 ∧ 0 ≤ o.f2 ∧ o.f2 < n) then
      (if (nowf (rd_T40 L o.f1) (rd W o.f1)).2 = 0 then
         (if o.f0 = 3 then
           (if (seef (rd_T40 (L.set o.f1.toNat (nowf (rd_T40 L o.f1) (rd W o.f1)).1) o.f2) (rd W o.f2) (nowf (rd_T40 L o.f1) (rd W o.f1)).1).2 = 0
            then (⟨0, (nowf (rd_T40 L o.f1) (rd W o.f1)).1⟩, (L.set o.f1.toNat (nowf (rd_T40 L o.f1) (rd W o.f1)).1).set o.f2.toNat (seef (rd_T40 (L.set o.f1.toNat (nowf (rd_T40 L o.f1) (rd W o.f1)).1) o.f2) (rd W o.f2) (nowf (rd_T40 L o.f1) (rd W o.f1)).1).1, W)
            else (⟨(seef (rd_T40 (L.set o.f1.toNat (nowf (rd_T40 L o.f1) (rd W o.f1)).1) o.f2) (rd W o.f2) (nowf (rd_T40 L o.f1) (rd W o.f1)).1).2, ⟨0, 0⟩⟩, L.set o.f1.toNat (nowf (rd_T40 L o.f1) (rd W o.f1)).1, W))
          else (⟨0, (nowf (rd_T40 L o.f1) (rd W o.f1)).1⟩, L.set o.f1.toNat (nowf (rd_T40 L o.f1) (rd W o.f1)).1, W))
       else (⟨(nowf (rd_T40 L o.f1) (rd W o.f1)).2, ⟨0, 0⟩⟩, L, W))
    else (⟨1, ⟨0, 0⟩⟩, L, W)
  else (⟨1, ⟨0, 0⟩⟩, L, W)
/-- The ways of a step. -/
theorem stp_ways (n : Int) (o : S44) (L : List S40) (W : List Int) (h : Inv n L W) :
    ((¬ (0 ≤ o.f1 ∧ o.f1 < n) ∨ (o.f0 = 1 ∧ ¬ (0 ≤ o.f3 ∧ o.f3 ≤ 1000000000000)) ∨ (o.f0 ≠ 1 ∧ ¬ (o.f0 = 2 ∨ (o.f0 = 3 ∧ 0 ≤ o.f2 ∧ o.f2 < n)))) ∧ stp n o L W = (⟨1, ⟨0, 0⟩⟩, L, W))
    ∨ ((0 ≤ o.f1 ∧ o.f1 < n) ∧ o.f0 = 1 ∧ (0 ≤ o.f3 ∧ o.f3 ≤ 1000000000000) ∧ stp n o L W = (⟨0, ⟨0, 0⟩⟩, L, W.set o.f1.toNat o.f3))
    ∨ ((0 ≤ o.f1 ∧ o.f1 < n) ∧ (o.f0 = 2 ∨ (o.f0 = 3 ∧ 0 ≤ o.f2 ∧ o.f2 < n)) ∧ ∃ r : S40 × Int, nowf (rd_T40 L o.f1) (rd W o.f1) = r ∧
        ((r.2 = 3 ∧ stp n o L W = (⟨r.2, ⟨0, 0⟩⟩, L, W))
         ∨ (r.2 = 0 ∧ tok r.1 ∧ lt40 (rd_T40 L o.f1) r.1 ∧ ((o.f0 = 2 ∧ stp n o L W = (⟨0, r.1⟩, L.set o.f1.toNat r.1, W))
            ∨ (o.f0 = 3 ∧ (0 ≤ o.f2 ∧ o.f2 < n) ∧ ∃ s : S40 × Int, seef (rd_T40 (L.set o.f1.toNat r.1) o.f2) (rd W o.f2) r.1 = s ∧
              ((s.2 = 0 ∧ tok s.1 ∧ ¬ lt40 s.1 (rd_T40 (L.set o.f1.toNat r.1) o.f2) ∧ ¬ lt40 s.1 r.1 ∧ stp n o L W = (⟨0, r.1⟩, (L.set o.f1.toNat r.1).set o.f2.toNat s.1, W)) ∨ (s.2 ≠ 0 ∧ stp n o L W = (⟨s.2, ⟨0, 0⟩⟩, L.set o.f1.toNat r.1, W)))))))) := by
  by_cases c1 : 0 ≤ o.f1 ∧ o.f1 < n
  · by_cases c2 : o.f0 = 1
    · by_cases c3 : 0 ≤ o.f3 ∧ o.f3 ≤ 1000000000000
      · exact .inr (.inl ⟨c1, c2, c3, by simp only [stp, if_pos c1, if_pos c2, if_pos c3]⟩)
      · exact .inl ⟨.inr (.inl ⟨c2, c3⟩), by simp only [stp, if_pos c1, if_pos c2, if_neg c3]⟩
    · by_cases c3 : o.f0 = 2 ∨ (o.f0 = 3 ∧ 0 ≤ o.f2 ∧ o.f2 < n)
      · refine .inr (.inr ⟨c1, c3, _, rfl, ?_⟩)
        rcases now_code (rd_T40 L o.f1) (rd W o.f1) with z | z
        · obtain ⟨g1, g2⟩ := now_good _ _ (h.lt _ c1.1 c1.2) (h.wt _ c1.1 c1.2) z
          refine .inr ⟨z, g1, g2, ?_⟩
          rcases c3 with c4 | ⟨c4, c5⟩
          · refine .inl ⟨c4, ?_⟩
            simp only [stp, if_pos c1, if_neg c2, if_pos (Or.inl c4 : o.f0 = 2 ∨ (o.f0 = 3 ∧ 0 ≤ o.f2 ∧ o.f2 < n)), if_pos z, if_neg (show ¬ o.f0 = 3 by omega)]
          · refine .inr ⟨c4, c5, _, rfl, ?_⟩
            have h2 := h.setL o.f1 _ c1.1 c1.2 g1
            by_cases y : (seef (rd_T40 (L.set o.f1.toNat (nowf (rd_T40 L o.f1) (rd W o.f1)).1) o.f2) (rd W o.f2) (nowf (rd_T40 L o.f1) (rd W o.f1)).1).2 = 0
            · obtain ⟨k1, k2, k3⟩ := see_good _ _ _ (h2.lt _ c5.1 c5.2) g1 y
              refine .inl ⟨y, k1, k2, k3, ?_⟩
              simp only [stp, if_pos c1, if_neg c2, if_pos (Or.inr ⟨c4, c5⟩ : o.f0 = 2 ∨ (o.f0 = 3 ∧ 0 ≤ o.f2 ∧ o.f2 < n)), if_pos z, if_pos c4, if_pos y]
            · refine .inr ⟨y, ?_⟩
              simp only [stp, if_pos c1, if_neg c2, if_pos (Or.inr ⟨c4, c5⟩ : o.f0 = 2 ∨ (o.f0 = 3 ∧ 0 ≤ o.f2 ∧ o.f2 < n)), if_pos z, if_pos c4, if_neg y]
        · refine .inl ⟨z, ?_⟩
          simp only [stp, if_pos c1, if_neg c2, if_pos c3, if_neg (show ¬ (nowf (rd_T40 L o.f1) (rd W o.f1)).2 = 0 by omega)]
      · exact .inl ⟨.inr (.inr ⟨c2, c3⟩), by simp only [stp, if_pos c1, if_neg c2, if_neg c3]⟩
  · exact .inl ⟨.inl c1, by simp only [stp, if_neg c1]⟩
theorem stp_inv (n : Int) (o : S44) (L : List S40) (W : List Int) (h : Inv n L W) : Inv n (stp n o L W).2.1 (stp n o L W).2.2 := by
  rcases stp_ways n o L W h with ⟨_, e⟩ | ⟨c1, _, c3, e⟩ | ⟨c1, _, r, _, ⟨_, e⟩ | ⟨_, g1, _, ⟨_, e⟩ | ⟨_, c5, s, _, ⟨_, k1, _, _, e⟩ | ⟨_, e⟩⟩⟩⟩
  · rw [e]; exact h
  · rw [e]; exact h.setW _ _ c1.1 c1.2 c3
  · rw [e]; exact h
  · rw [e]; exact h.setL _ _ c1.1 c1.2 g1
  · rw [e]; exact (h.setL _ _ c1.1 c1.2 g1).setL _ _ c5.1 c5.2 k1
  · rw [e]; exact h.setL _ _ c1.1 c1.2 g1
theorem spec_step (n : Int) (x1 : List S44) (L : List S40) (W : List Int) (out : List S42) (i : Nat) (R : List S42 × Int) (hi : i < x1.length) (hl : x1.length ≤ 500) (ho : out.length ≤ 500) (h : Inv n L W)
    (q : Ev (fun k => spec_ClockRun.l0 k n x1 (stp n (rd_T44 x1 (i : Int)) L W).2.1 (stp n (rd_T44 x1 (i : Int)) L W).2.2 (out ++ [(stp n (rd_T44 x1 (i : Int)) L W).1]) ((i + 1 : Nat) : Int)) R) :
    Ev (fun k => spec_ClockRun.l0 k n x1 L W out (i : Int)) R := by
  have w : wrap64 ((i : Int) + 1) = ((i + 1 : Nat) : Int) := by rw [wrap_in _ (by omega) (by omega)]; omega
  have hw := stp_ways n (rd_T44 x1 (i : Int)) L W h
  generalize hO : rd_T44 x1 (i : Int) = o at q hw
  refine Ev.succ ?_
  simp only [spec_ClockRun.l0, hO]
  refine Ev.pos (by omega) (Ev.pos (by omega) ?_)
  obtain ⟨f0, f1, f2, f3⟩ := o
  dsimp only at hw ⊢
  have J2 : Ev (fun k => spec_ClockRun.j2 k n x1 L W out (i : Int) (decide (0 ≤ f1 ∧ f1 < n)) f0 f1 f2 f3 1 0 0) R := by
    have bad2 : stp n ⟨f0, f1, f2, f3⟩ L W = (⟨1, ⟨0, 0⟩⟩, L, W) → Ev (fun k => if out.length < 5864062014805 then (spec_ClockRun.l0 k n x1 L W (out ++ [(⟨1, (⟨0, 0⟩ : S40)⟩ : S42)]) ((i + 1 : Nat) : Int)) else none) R := fun e => by
      rw [e] at q
      exact Ev.pos (by omega) q
    refine Ev.succ ?_
    simp only [spec_ClockRun.j2, w]
    by_cases c1 : 0 ≤ f1 ∧ f1 < n
    · refine Ev.pos (decide_eq_true c1) ?_
      have J3 : Ev (fun k => spec_ClockRun.j3 k n x1 L W out (i : Int) (decide (f0 = 1 ∧ (0 ≤ f3 ∧ f3 ≤ 1000000000000))) f0 f1 f2 f3 1 0 0) R := by
        refine Ev.succ ?_
        simp only [spec_ClockRun.j3, w]
        by_cases c2 : f0 = 1 ∧ (0 ≤ f3 ∧ f3 ≤ 1000000000000)
        · refine Ev.pos (decide_eq_true c2) (Ev.pos c1.1 (Ev.pos (by rw [h.wl]; exact c1.2) (Ev.pos (by omega) ?_)))
          have e : stp n ⟨f0, f1, f2, f3⟩ L W = (⟨0, ⟨0, 0⟩⟩, L, W.set f1.toNat f3) := by simp only [stp, if_pos c1, if_pos c2.1, if_pos c2.2]
          rw [e] at q
          exact q
        · refine Ev.neg (by simpa using c2) ?_
          have J4 : ∀ b : Bool, (b = true ↔ f0 ≠ 1 ∧ (f0 = 2 ∨ (f0 = 3 ∧ 0 ≤ f2 ∧ f2 < n))) → Ev (fun k => spec_ClockRun.j4 k n x1 L W out (i : Int) b f0 f1 f2 f3 1 0 0) R := by
            intro b hb
            refine Ev.succ ?_
            simp only [spec_ClockRun.j4, w]
            by_cases z : b = true
            · obtain ⟨d1, d2⟩ := hb.1 z
              rcases hw with ⟨d3, _⟩ | ⟨_, d3, _⟩ | ⟨_, _, r, er, hw⟩
              · rcases d3 with d3 | ⟨d3, _⟩ | ⟨_, d3⟩
                · exact absurd c1 d3
                · exact absurd d3 d1
                · exact absurd d2 d3
              · exact absurd d3 d1
              · have en := now_spec (rd_T40 L f1) (rd W f1) (h.lt _ c1.1 c1.2) (h.wt _ c1.1 c1.2)
                rw [er] at en
                refine Ev.pos z (Ev.pos c1.1 (Ev.pos (by rw [h.ll]; exact c1.2) (Ev.pos (by rw [h.wl]; exact c1.2) (Ev.bind en ?_))))
                rcases hw with ⟨z3, e⟩ | ⟨z0, g1, g2, hw⟩
                · rw [e] at q
                  refine Ev.neg (by show ¬ r.2 = 0; omega) (Ev.succ ?_)
                  simp only [spec_ClockRun.j5]
                  refine Ev.neg (by omega) (Ev.succ ?_)
                  simp only [spec_ClockRun.j6, w]
                  exact Ev.neg (by simp) (Ev.pos (by omega) q)
                · refine Ev.pos z0 (Ev.succ ?_)
                  simp only [spec_ClockRun.j5]
                  refine Ev.pos z0 (Ev.succ ?_)
                  simp only [spec_ClockRun.j6, w, z0]
                  rcases hw with ⟨d4, e⟩ | ⟨d4, d5, s, es, hw⟩
                  · rw [e] at q
                    exact Ev.neg (by simp [d4]) (Ev.pos (by omega) q)
                  · have h2 := h.setL f1 r.1 c1.1 c1.2 g1
                    have en2 := see_spec (rd_T40 (L.set f1.toNat r.1) f2) (rd W f2) r.1 (h2.lt _ d5.1 d5.2) (h.wt _ d5.1 d5.2) g1
                    rw [es] at en2
                    refine Ev.pos (by simp [d4]) (Ev.pos d5.1 (Ev.pos (by rw [List.length_set, h.ll]; exact d5.2) (Ev.pos (by rw [h.wl]; exact d5.2) (Ev.bind en2 ?_))))
                    rcases hw with ⟨y0, _, _, _, e⟩ | ⟨y0, e⟩
                    · rw [e] at q
                      exact Ev.pos y0 (Ev.pos (by omega) q)
                    · rw [e] at q
                      exact Ev.neg y0 (Ev.pos (by omega) q)
            · refine Ev.neg z (bad2 ?_)
              have z' : ¬ (f0 ≠ 1 ∧ (f0 = 2 ∨ (f0 = 3 ∧ 0 ≤ f2 ∧ f2 < n))) := fun g => z (hb.2 g)
              by_cases d1 : f0 = 1
              · simp only [stp, if_pos c1, if_pos d1, if_neg (fun g => c2 ⟨d1, g⟩)]
              · simp only [stp, if_pos c1, if_neg d1, if_neg (fun g => z' ⟨d1, g⟩)]
          by_cases d2 : f0 = 2
          · refine Ev.pos d2 (J4 _ ?_)
            rw [beq_iff_eq]
            exact ⟨fun g => ⟨by omega, .inl g⟩, fun _ => d2⟩
          · refine Ev.neg d2 ?_
            by_cases d3 : f0 = 3
            · refine Ev.pos d3 ?_
              by_cases d4 : f2 ≥ 0
              · refine Ev.pos d4 (J4 _ ?_)
                rw [decide_eq_true_eq]
                exact ⟨fun g => ⟨by omega, .inr ⟨d3, d4, g⟩⟩, fun g => by omega⟩
              · exact Ev.neg d4 (J4 _ ⟨fun g => (by cases g), fun g => by omega⟩)
            · exact Ev.neg d3 (J4 _ ⟨fun g => (by cases g), fun g => by omega⟩)
      by_cases d1 : f0 = 1
      · refine Ev.pos d1 ?_
        simp only [spec_l02Wall.f]
        by_cases d2 : f3 ≥ 0
        · rw [if_pos d2]
          refine Ev.bndc rfl ?_
          rw [show decide (f0 = 1 ∧ 0 ≤ f3 ∧ f3 ≤ 1000000000000) = decide (f3 ≤ 1000000000000) by rw [decide_eq_decide]; exact ⟨fun g => g.2.2, fun g => ⟨d1, d2, g⟩⟩] at J3
          exact J3
        · rw [if_neg d2]
          refine Ev.bndc rfl ?_
          rw [decide_eq_false (fun g => d2 g.2.1)] at J3
          exact J3
      · refine Ev.neg d1 ?_
        rw [decide_eq_false (fun g => d1 g.1)] at J3
        exact J3
    · refine Ev.neg (by simpa using c1) (bad2 ?_)
      simp only [stp, if_neg c1]
  by_cases c : f1 ≥ 0
  · refine Ev.pos c ?_
    rw [show decide (0 ≤ f1 ∧ f1 < n) = decide (f1 < n) by rw [decide_eq_decide]; exact ⟨fun g => g.2, fun g => ⟨c, g⟩⟩] at J2
    exact J2
  · refine Ev.neg c ?_
    rw [decide_eq_false (fun g => c g.1)] at J2
    exact J2
theorem is_f (a n : Int) : impl_ClockRun_1.f a n = some (decide (0 ≤ a ∧ a < n)) := by
  unfold impl_ClockRun_1.f
  by_cases c : a ≥ 0
  · rw [if_pos c, show decide (0 ≤ a ∧ a < n) = decide (a < n) by rw [decide_eq_decide]; exact ⟨fun g => g.2, fun g => ⟨c, g⟩⟩]
  · rw [if_neg c, decide_eq_false (fun g => c g.1)]
theorem impl_step (n : Int) (x1 : List S44) (L : List S40) (W : List Int) (out : List S42) (i : Nat) (R : List S42 × Int) (hi : i < x1.length) (hl : x1.length ≤ 500) (ho : out.length ≤ 500) (h : Inv n L W)
    (q : Ev (fun k => impl_ClockRun.l0 k n (stp n (rd_T44 x1 (i : Int)) L W).2.1 (stp n (rd_T44 x1 (i : Int)) L W).2.2 (out ++ [(stp n (rd_T44 x1 (i : Int)) L W).1]) x1 (x1.length : Int) ((i + 1 : Nat) : Int)) R) :
    Ev (fun k => impl_ClockRun.l0 k n L W out x1 (x1.length : Int) (i : Int)) R := by
  have w : wrap64 ((i : Int) + 1) = ((i + 1 : Nat) : Int) := by rw [wrap_in _ (by omega) (by omega)]; omega
  have hw := stp_ways n (rd_T44 x1 (i : Int)) L W h
  generalize hO : rd_T44 x1 (i : Int) = o at q hw
  refine Ev.succ ?_
  simp only [impl_ClockRun.l0, hO]
  refine Ev.pos (by omega) (Ev.pos (by omega) (Ev.pos (by omega) ?_))
  obtain ⟨f0, f1, f2, f3⟩ := o
  dsimp only at hw ⊢
  have J2 : ∀ b : Bool, (b = false ↔ (1 ≤ f0 ∧ f0 ≤ 3) ∧ (0 ≤ f1 ∧ f1 < n) ∧ (f0 = 3 → 0 ≤ f2 ∧ f2 < n)) → Ev (fun k => impl_ClockRun.j2 k n L W out x1 (x1.length : Int) (i : Int) b f0 f1 f2 f3 0 0 0) R := by
    intro b hb
    refine Ev.succ ?_
    simp only [impl_ClockRun.j2, w]
    have bad : stp n ⟨f0, f1, f2, f3⟩ L W = (⟨1, ⟨0, 0⟩⟩, L, W) → Ev (fun k => if out.length < 5864062014805 then (impl_ClockRun.l0 k n L W (out ++ [(⟨1, (⟨0, 0⟩ : S40)⟩ : S42)]) x1 (x1.length : Int) ((i + 1 : Nat) : Int)) else none) R := fun e => by
      rw [e] at q
      exact Ev.pos (by omega) q
    by_cases z : b = true
    · refine Ev.pos z (bad ?_)
      have z' : ¬ ((1 ≤ f0 ∧ f0 ≤ 3) ∧ (0 ≤ f1 ∧ f1 < n) ∧ (f0 = 3 → 0 ≤ f2 ∧ f2 < n)) := fun g => by rw [hb.2 g] at z; cases z
      rcases hw with ⟨_, e⟩ | ⟨c1, d1, _, _⟩ | ⟨c1, d1, _⟩
      · exact e
      · exact absurd ⟨by omega, c1, by omega⟩ z'
      · exact absurd ⟨by omega, c1, by omega⟩ z'
    · obtain ⟨c0, c1, c2⟩ := hb.1 (by simpa using z)
      refine Ev.neg z ?_
      by_cases d1 : f0 = 1
      · refine Ev.pos d1 ?_
        by_cases d2 : f3 < 0
        · exact Ev.pos d2 (bad (by simp only [stp, if_pos c1, if_pos d1, if_neg (show ¬ (0 ≤ f3 ∧ f3 ≤ 1000000000000) by omega)]))
        · refine Ev.neg d2 ?_
          by_cases d3 : f3 > 1000000000000
          · exact Ev.pos d3 (bad (by simp only [stp, if_pos c1, if_pos d1, if_neg (show ¬ (0 ≤ f3 ∧ f3 ≤ 1000000000000) by omega)]))
          · refine Ev.neg d3 (Ev.pos c1.1 (Ev.pos (by rw [h.wl]; exact c1.2) (Ev.pos (by omega) ?_)))
            have e : stp n ⟨f0, f1, f2, f3⟩ L W = (⟨0, ⟨0, 0⟩⟩, L, W.set f1.toNat f3) := by simp only [stp, if_pos c1, if_pos d1, if_pos (show 0 ≤ f3 ∧ f3 ≤ 1000000000000 by omega)]
            rw [e] at q
            exact q
      · refine Ev.neg d1 ?_
        rcases hw with ⟨d3, _⟩ | ⟨_, d3, _⟩ | ⟨_, _, r, er, hw⟩
        · exfalso
          rcases d3 with d3 | ⟨d3, _⟩ | ⟨_, d3⟩
          · exact d3 c1
          · exact d1 d3
          · omega
        · exact absurd d3 d1
        · have en := now_impl (rd_T40 L f1) (rd W f1) (h.lt _ c1.1 c1.2) (h.wt _ c1.1 c1.2)
          rw [er] at en
          refine Ev.pos c1.1 (Ev.pos (by rw [h.ll]; exact c1.2) (Ev.pos (by rw [h.wl]; exact c1.2) (Ev.bind en ?_)))
          rcases hw with ⟨z3, e⟩ | ⟨z0, g1, g2, hw⟩
          · rw [e] at q
            exact Ev.neg (by show ¬ r.2 = 0; omega) (Ev.pos (by omega) q)
          · refine Ev.pos z0 (Ev.bndc rfl ?_)
            rcases hw with ⟨d4, e⟩ | ⟨d4, d5, s, es, hw⟩
            · rw [e] at q
              refine Ev.neg (by omega) (Ev.pos (by omega) ?_)
              simp only [z0]
              exact q
            · have h2 := h.setL f1 r.1 c1.1 c1.2 g1
              have en2 := see_impl (rd_T40 (L.set f1.toNat r.1) f2) (rd W f2) r.1 (h2.lt _ d5.1 d5.2) (h.wt _ d5.1 d5.2) g1
              rw [es] at en2
              refine Ev.pos d4 (Ev.pos d5.1 (Ev.pos (by rw [h.ll]; exact d5.2) (Ev.pos (by rw [h.wl]; exact d5.2) (Ev.bind en2 ?_))))
              rcases hw with ⟨y0, _, _, _, e⟩ | ⟨y0, e⟩
              · rw [e] at q
                refine Ev.pos y0 (Ev.pos (by omega) ?_)
                simp only [z0]
                exact q
              · rw [e] at q
                exact Ev.neg y0 (Ev.pos (by omega) q)
  by_cases c1 : f0 < 1
  · exact Ev.pos c1 (J2 true ⟨fun g => (by cases g), fun g => by omega⟩)
  · refine Ev.neg c1 ?_
    by_cases c2 : f0 > 3
    · exact Ev.pos c2 (J2 true ⟨fun g => (by cases g), fun g => by omega⟩)
    · refine Ev.neg c2 (Ev.bndc (is_f f1 n) ?_)
      by_cases c3 : 0 ≤ f1 ∧ f1 < n
      · refine Ev.pos (decide_eq_true c3) ?_
        by_cases c4 : f0 = 3
        · refine Ev.pos c4 (Ev.bndc (is_f f2 n) (J2 _ ?_))
          rw [Bool.not_eq_false', decide_eq_true_eq]
          exact ⟨fun g => ⟨by omega, c3, fun _ => g⟩, fun g => g.2.2 c4⟩
        · exact Ev.neg c4 (J2 false ⟨fun _ => ⟨by omega, c3, fun g => absurd g c4⟩, fun _ => rfl⟩)
      · exact Ev.neg (by simpa using c3) (J2 true ⟨fun g => (by cases g), fun g => absurd g.2.1 c3⟩)
/-! ### the whole run -/
def run (n : Int) : List S44 → List S40 → List Int → List S42
  | [], _, _ => []
  | o :: os, L, W => (stp n o L W).1 :: run n os (stp n o L W).2.1 (stp n o L W).2.2
theorem drop44 (x2 : List S44) (i : Nat) (h : i < x2.length) : x2.drop i = rd_T44 x2 (i : Int) :: x2.drop (i + 1) := by
  unfold rd_T44
  rw [Int.toNat_natCast, List.getD_eq_getElem?_getD, List.getElem?_eq_getElem h, List.drop_eq_getElem_cons h]
  rfl
theorem both_run (n : Int) (x1 : List S44) (hl : x1.length ≤ 500) (d : Nat) : ∀ (i : Nat) (L : List S40) (W : List Int) (out : List S42), i + d = x1.length → out.length = i → Inv n L W →
    Ev (fun k => spec_ClockRun.l0 k n x1 L W out (i : Int)) (out ++ run n (x1.drop i) L W, 0) ∧ Ev (fun k => impl_ClockRun.l0 k n L W out x1 (x1.length : Int) (i : Int)) (out ++ run n (x1.drop i) L W, 0) := by
  induction d with
  | zero =>
    intro i L W out hi ho h
    rw [List.drop_of_length_le (by omega)]
    refine ⟨Ev.succ ?_, Ev.succ ?_⟩
    · simp only [spec_ClockRun.l0]
      exact Ev.neg (by omega) (Ev.some' (by simp [run]))
    · simp only [impl_ClockRun.l0]
      exact Ev.neg (by omega) (Ev.some' (by simp [run]))
  | succ d ih =>
    intro i L W out hi ho h
    obtain ⟨q1, q2⟩ := ih (i + 1) (stp n (rd_T44 x1 (i : Int)) L W).2.1 (stp n (rd_T44 x1 (i : Int)) L W).2.2 (out ++ [(stp n (rd_T44 x1 (i : Int)) L W).1]) (by omega) (by rw [List.length_append, List.length_singleton, ho]) (stp_inv n _ L W h)
    rw [List.append_assoc, List.singleton_append] at q1 q2
    rw [drop44 x1 i (by omega)]
    simp only [run]
    exact ⟨spec_step n x1 L W out i _ (by omega) hl (by omega) h q1, impl_step n x1 L W out i _ (by omega) hl (by omega) h q2⟩
theorem inv0 (n : Int) (h1 : 1 ≤ n) (h2 : n ≤ 8) : Inv n (List.replicate n.toNat z40) (List.replicate n.toNat 0) := by
  refine ⟨by rw [List.length_replicate]; omega, by rw [List.length_replicate]; omega, fun j j0 j1 => ?_, fun j j0 j1 => ?_⟩
  · unfold rd_T40
    rw [List.getD_eq_getElem?_getD, List.getElem?_replicate]
    rw [if_pos (by omega)]
    exact ⟨⟨by simp [z40], by simp [z40]⟩, by simp [z40], by simp [z40]⟩
  · unfold rd
    rw [List.getD_eq_getElem?_getD, List.getElem?_replicate]
    rw [if_pos (by omega)]
    simp
theorem clock_both (n : Int) (x1 : List S44) : ∃ r : List S42 × Int, Ev (fun k => spec_ClockRun.f k n x1) r ∧ Ev (fun k => impl_ClockRun.f k n x1) r ∧ (r.2 = 0 → (1 ≤ n ∧ n ≤ 8) ∧ x1.length ≤ 500 ∧ r.1 = run n x1 (List.replicate n.toNat z40) (List.replicate n.toNat 0)) ∧ (r.2 ≠ 0 → r.1 = []) := by
  have sb : ∀ b : Bool, b = true → Ev (fun k => spec_ClockRun.j0 k n x1 b) (([] : List S42), 1) := by
    rintro b rfl
    exact Ev.succ (by simp only [spec_ClockRun.j0]; exact Ev.pos (by trivial) (Ev.some' rfl))
  have ib : ∀ b : Bool, b = true → Ev (fun k => impl_ClockRun.j0 k n x1 b n) (([] : List S42), 1) := by
    rintro b rfl
    exact Ev.succ (by simp only [impl_ClockRun.j0]; exact Ev.pos (by trivial) (Ev.some' rfl))
  have bad : ∃ r : List S42 × Int, r = (([] : List S42), (1 : Int)) := ⟨_, rfl⟩
  simp only [spec_ClockRun.f, impl_ClockRun.f]
  by_cases c1 : n < 1
  · exact ⟨([], 1), Ev.pos c1 (sb _ rfl), Ev.pos c1 (ib _ rfl), fun h => by simp at h, fun _ => rfl⟩
  · by_cases c2 : n > 8
    · exact ⟨([], 1), Ev.neg c1 (Ev.pos c2 (sb _ rfl)), Ev.neg c1 (Ev.pos c2 (ib _ rfl)), fun h => by simp at h, fun _ => rfl⟩
    · by_cases c3 : (x1.length : Int) > 500
      · exact ⟨([], 1), Ev.neg c1 (Ev.neg c2 (sb _ (decide_eq_true c3))), Ev.neg c1 (Ev.neg c2 (ib _ (decide_eq_true c3))), fun h => by simp at h, fun _ => rfl⟩
      · obtain ⟨q1, q2⟩ := both_run n x1 (by omega) x1.length 0 (List.replicate n.toNat z40) (List.replicate n.toNat 0) [] (by omega) rfl (inv0 n (by omega) (by omega))
        refine ⟨(run n x1 (List.replicate n.toNat z40) (List.replicate n.toNat 0), 0), Ev.neg c1 (Ev.neg c2 ?_), Ev.neg c1 (Ev.neg c2 ?_), fun _ => ⟨⟨by omega, by omega⟩, by omega, rfl⟩, fun h => absurd rfl h⟩
        · rw [decide_eq_false c3]
          refine Ev.succ ?_
          simp only [spec_ClockRun.j0]
          exact Ev.neg (by simp) (Ev.pos (by omega) (Ev.pos (by omega) (Ev.pos (by omega) (by simpa using q1))))
        · rw [decide_eq_false c3]
          refine Ev.succ ?_
          simp only [impl_ClockRun.j0]
          exact Ev.neg (by simp) (Ev.pos (by omega) (Ev.pos (by omega) (Ev.pos (by omega) (by simpa using q2))))
end Go.Proofs.Ytiolnbhcmoafjaa.QFnClocksD
