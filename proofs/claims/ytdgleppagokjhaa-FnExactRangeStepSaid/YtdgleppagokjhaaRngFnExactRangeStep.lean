/- Ranges: what the law does with its argument, and RangesOK: the reference's and the program's come to one bool. No condition but that sizes are ints. -/
import Derived.Test.YtdgleppagokjhaaQFnExactRangeStepx1
import Derived.Test.YtdgleppagokjhaaQFnExactRangeStepx5
import Derived.Test.YtdgleppagokjhaaQFnExactRangeStepx8
import Derived.Test.YtdgleppagokjhaaUtil
namespace Go.Proofs.Ytdgleppagokjhaa.QFnExactRangeStepG
set_option linter.unusedVariables false
set_option linter.unusedSimpArgs false
open Go.RowKit Go.Proofs.Ytdgleppagokjhaa.QFnExactRangeStep Go.Proofs.YtdgleppagokjhaaW.PrintWords Go.Proofs.YtdgleppagokjhaaW.PrintLast Go.Proofs.YtdgleppagokjhaaW.PrintMore Go.Proofs.YtdgleppagokjhaaU
theorem rd61 (l : List S61) (i : Int) (h : i.toNat < l.length) : rd_T61 l i = l[i.toNat] := getD_get l _ _ h
theorem rd30 (l : List S30) (i : Int) (h : i.toNat < l.length) : rd_T30 l i = l[i.toNat] := getD_get l _ _ h
def cv (x : S61) : S30 := ⟨x.f0, x.f1, x.f2, x.f3, x.f4, x.f5⟩
/-- Both texts of a range have a size that is an int. -/
def Sz (x : S61) : Prop := x.f1.size ≤ 9223372036854775807 ∧ x.f2.size ≤ 9223372036854775807
theorem szOne (x : S61) (hx : Sz x) (n : Int) (h0 : -1 ≤ n) (h1 : n ≤ 1048576) : ∃ r, laws_szRange.f x.f0 x.f1 x.f2 x.f3 x.f4 x.f5 n = some r ∧ -1 ≤ r ∧ r ≤ 1048576 := by
  obtain ⟨a, b⟩ := hx
  unfold laws_szRange.f
  rw [wrap_in (n - (x.f1.size : Int)) (by omega) (by omega)]
  by_cases c : n - (x.f1.size : Int) < 0
  · exact ⟨-1, by rw [if_pos c], by omega, by omega⟩
  · rw [if_neg c, wrap_in _ (by omega) (by omega)]
    by_cases c2 : n - (x.f1.size : Int) - (x.f2.size : Int) < 0
    · exact ⟨-1, by rw [if_pos c2], by omega, by omega⟩
    · exact ⟨_, by rw [if_neg c2], by omega, by omega⟩
theorem sz_from (l : List S61) (hl : (l.length : Int) ≤ 1048576) (hs : ∀ x ∈ l, Sz x) (d : Nat) : ∀ (i x : Int), 0 ≤ i → i ≤ l.length → (l.length : Int) - i = d → -1 ≤ x → x ≤ 1048576 →
    ∃ r, Ev (fun k => laws_szRangeS.l0 k l x i) r := by
  induction d with
  | zero =>
    intro i x h0 h1 hd x0 x1
    exact ⟨x, Ev.succ (by simp only [laws_szRangeS.l0]; exact Ev.neg (by omega) (Ev.some' rfl))⟩
  | succ d ih =>
    intro i x h0 h1 hd x0 x1
    have hb : Sz (rd_T61 l i) := by rw [rd61 l i (by omega)]; exact hs _ (List.getElem_mem _)
    obtain ⟨r, e, r0, r1⟩ := szOne _ hb x x0 x1
    by_cases c : r < 0
    · refine ⟨-1, Ev.succ ?_⟩
      simp only [laws_szRangeS.l0]
      exact Ev.pos (by omega) (Ev.pos h0 (Ev.bndc e (Ev.pos c (Ev.some' rfl))))
    · obtain ⟨q, hq⟩ := ih (i + 1) r (by omega) (by omega) (by omega) (by omega) (by omega)
      refine ⟨q, Ev.succ ?_⟩
      simp only [laws_szRangeS.l0]
      refine Ev.pos (by omega) (Ev.pos h0 (Ev.bndc e (Ev.neg c ?_)))
      rw [wrap_in (i + 1) (by omega) (by omega)]
      exact hq
theorem sz_ends (l : List S61) (n : Int) (n0 : -1 ≤ n) (n1 : n ≤ 1048576) (hl : l.length ≤ 9223372036854775807) (hs : ∀ x ∈ l, Sz x) : ∃ r, Ev (fun k => laws_szRangeS.f k l n) r ∧ (r < 0 ∨ (l.length : Int) ≤ 1048576) := by
  have e := wrap_in (n - (l.length : Int)) (by omega) (by omega)
  by_cases c : n - (l.length : Int) < 0
  · exact ⟨-1, by simp only [laws_szRangeS.f]; exact Ev.pos (by rw [e]; exact c) (Ev.some' rfl), .inl (by omega)⟩
  · obtain ⟨r, hr⟩ := sz_from l (by omega) hs l.length 0 (n - (l.length : Int)) (by omega) (by omega) (by omega) (by omega) (by omega)
    refine ⟨r, ?_, .inr (by omega)⟩
    simp only [laws_szRangeS.f]
    refine Ev.neg (by rw [e]; exact c) ?_
    rw [e]
    exact hr
theorem to_from (l : List S61) (hl : (l.length : Int) ≤ 1048576) (d : Nat) : ∀ (i : Nat), i ≤ l.length → l.length - i = d →
    Ev (fun k => laws_toRangeS.l0 k l ((l.take i).map cv ++ List.replicate (l.length - i) z30) (i : Int)) (l.map cv) := by
  induction d with
  | zero =>
    intro i h1 hd
    have hi : i = l.length := by omega
    refine Ev.succ ?_
    simp only [laws_toRangeS.l0]
    refine Ev.neg (by omega) (Ev.some' ?_)
    subst hi
    rw [fill_all]
  | succ d ih =>
    intro i h1 hd
    refine Ev.succ ?_
    simp only [laws_toRangeS.l0]
    refine Ev.pos (by omega) (Ev.pos (by omega) (Ev.bndc rfl (Ev.pos (by rw [fill_len cv _ l i h1]; omega) ?_)))
    rw [wrap_in ((i : Int) + 1) (by omega) (by omega), rd61 l _ (by omega)]
    have := ih (i + 1) (by omega) (by omega)
    have e := fill_set cv z30 l i (by omega)
    simp only [Int.toNat_natCast]
    rw [show (⟨(l[i]).f0, (l[i]).f1, (l[i]).f2, (l[i]).f3, (l[i]).f4, (l[i]).f5⟩ : S30) = cv l[i] from rfl, e]
    exact this
theorem to_same (l : List S61) (hl : (l.length : Int) ≤ 1048576) : Ev (fun k => laws_toRangeS.f k l) (l.map cv) := by
  simp only [laws_toRangeS.f]
  refine Ev.pos (by omega) (Ev.pos (by omega) ?_)
  have := to_from l hl l.length 0 (by omega) (by omega)
  rw [← fill_zero] at this
  simpa using this
theorem eqOne (x : S30) : laws_eqRange.f x.f0 x.f1 x.f2 x.f3 x.f4 x.f5 x.f0 x.f1 x.f2 x.f3 x.f4 x.f5 = some true := by
  unfold laws_eqRange.f
  rw [if_pos rfl, if_pos rfl, if_pos rfl, if_pos rfl, if_pos rfl, if_pos rfl]
theorem eq_from (l : List S30) (hl : (l.length : Int) ≤ 1048576) (d : Nat) : ∀ (i : Int), 0 ≤ i → i ≤ l.length → (l.length : Int) - i = d → Ev (fun k => laws_eqRangeS.l0 k l l i) true := by
  induction d with
  | zero =>
    intro i h0 h1 hd
    exact Ev.succ (by simp only [laws_eqRangeS.l0]; exact Ev.neg (by omega) (Ev.some' rfl))
  | succ d ih =>
    intro i h0 h1 hd
    refine Ev.succ ?_
    simp only [laws_eqRangeS.l0]
    refine Ev.pos (by omega) (Ev.pos h0 (Ev.pos (by omega) (Ev.bndc (b := true) (eqOne _) (Ev.pos rfl ?_))))
    rw [wrap_in (i + 1) (by omega) (by omega)]
    exact ih (i + 1) (by omega) (by omega) (by omega)
theorem eq_same (l : List S30) (hl : (l.length : Int) ≤ 1048576) : Ev (fun k => laws_eqRangeS.f k l l) true := by
  simp only [laws_eqRangeS.f]
  exact Ev.pos (by trivial) (eq_from l hl l.length 0 (by omega) (by omega) (by omega))
/-! ### RangesOK -/
theorem bit_both (x : S30) (h0 : 0 ≤ x.f4) (h1 : x.f4 ≤ 7) (m0 : 1 ≤ x.f3) (m1 : x.f3 ≤ 255) : ∃ b : Bool, spec_l06Bit.f x.f3 x.f4 = some b ∧ (Go.bits .and .i64 (shr .i64 x.f3 x.f4) 1 == 0) = !b := by
  have e : IntKind.u64.wrap x.f4 = x.f4 := by
    show x.f4 % 18446744073709551616 = x.f4
    omega
  obtain ⟨n, hn⟩ := Int.eq_ofNat_of_zero_le (show 0 ≤ shr .i64 x.f3 x.f4 from by unfold shr; exact Int.ediv_nonneg (by omega) (by exact Int.le_of_lt (Int.pow_pos (by decide))))
  have hlt : shr .i64 x.f3 x.f4 ≤ x.f3 := by unfold shr; exact Int.ediv_le_self _ (by omega)
  have ha : Go.bits .and .i64 (n : Int) 1 = ((n % 2 : Nat) : Int) := by
    have hx : n &&& 1 = n % 2 := Nat.and_two_pow_sub_one_eq_mod n 1
    show IntKind.i64.wrap ((BitVec.ofInt 64 (n : Int) &&& BitVec.ofInt 64 ((1 : Nat) : Int)).toNat : Int) = _
    rw [BitVec.toNat_and, BitVec.ofInt_natCast, BitVec.ofInt_natCast, BitVec.toNat_ofNat, BitVec.toNat_ofNat, Nat.mod_eq_of_lt (show n < 2 ^ 64 by omega), Nat.mod_eq_of_lt (show 1 < 2 ^ 64 by omega), hx]
    exact IntWalk.i64_in _ (by omega)
  refine ⟨Go.bits .and .i64 (shr .i64 x.f3 x.f4) 1 == 1, ?_, ?_⟩
  · unfold spec_l06Bit.f
    rw [if_pos h0, if_pos (by omega), e, if_pos h0]
  · rw [hn, ha]
    have : n % 2 = 0 ∨ n % 2 = 1 := by omega
    rcases this with h | h <;> rw [h] <;> rfl
theorem one_alike (x : S30) : ∃ b : Bool, spec_l06One.f x.f0 x.f1 x.f2 x.f3 x.f4 x.f5 = some b ∧ ∀ s : Bool, impl_RangesOK.snd x s = (!b || s) := by
  unfold spec_l06One.f impl_RangesOK.snd
  by_cases c0 : x.f0 ≥ 1
  · rw [if_pos c0, decide_eq_false (show ¬ x.f0 < 1 by omega)]
    by_cases c1 : x.f0 ≤ 1000000
    · rw [if_pos c1, decide_eq_false (show ¬ 1000000 < x.f0 by omega)]
      by_cases c2 : (x.f1.size : Int) ≤ 4000
      · rw [show spec_l06Key.f x.f1 = some true from by unfold spec_l06Key.f; rw [decide_eq_true c2], decide_eq_false (show ¬ 4000 < x.f1.size by omega)]
        simp only [Option.bind_some, if_true]
        by_cases c3 : (x.f2.size : Int) ≤ 4000
        · rw [show spec_l06Key.f x.f2 = some true from by unfold spec_l06Key.f; rw [decide_eq_true c3], decide_eq_false (show ¬ 4000 < x.f2.size by omega)]
          simp only [Option.bind_some, if_true]
          by_cases c4 : x.f3 ≥ 1
          · rw [if_pos c4, decide_eq_false (show ¬ x.f3 < 1 by omega)]
            by_cases c5 : x.f3 ≤ 255
            · rw [if_pos c5, decide_eq_false (show ¬ 255 < x.f3 by omega)]
              by_cases c6 : 0 ≤ x.f4 ∧ x.f4 ≤ 7
              · obtain ⟨b, b1, b2⟩ := bit_both x c6.1 c6.2 c4 c5
                rw [b1, b2, decide_eq_false (show ¬ x.f4 < 0 by omega), decide_eq_false (show ¬ 7 < x.f4 by omega)]
                simp only [Option.bind_some]
                cases b with
                | false => exact ⟨false, rfl, fun s => by cases s <;> rfl⟩
                | true =>
                  simp only [if_true]
                  by_cases c7 : x.f5 ≥ 1
                  · rw [if_pos c7, decide_eq_false (show ¬ x.f5 < 1 by omega)]
                    by_cases c8 : x.f5 ≤ 1000000
                    · exact ⟨true, by rw [decide_eq_true c8], fun s => by rw [decide_eq_false (show ¬ 1000000 < x.f5 by omega)]; cases s <;> rfl⟩
                    · exact ⟨false, by rw [decide_eq_false c8], fun s => by rw [decide_eq_true (show 1000000 < x.f5 by omega)]; cases s <;> rfl⟩
                  · exact ⟨false, by rw [if_neg c7], fun s => by rw [decide_eq_true (show x.f5 < 1 by omega)]; cases s <;> rfl⟩
              · refine ⟨false, ?_, fun s => ?_⟩
                · have : spec_l06Bit.f x.f3 x.f4 = some false := by
                    unfold spec_l06Bit.f
                    by_cases d : x.f4 ≥ 0
                    · rw [if_pos d, if_neg (by omega)]
                    · rw [if_neg d]
                  rw [this]; rfl
                · by_cases d : x.f4 < 0
                  · rw [decide_eq_true d]; cases s <;> simp
                  · rw [decide_eq_true (show 7 < x.f4 by omega)]; cases s <;> simp
            · exact ⟨false, by rw [if_neg c5], fun s => by rw [decide_eq_true (show 255 < x.f3 by omega)]; cases s <;> simp⟩
          · exact ⟨false, by rw [if_neg c4], fun s => by rw [decide_eq_true (show x.f3 < 1 by omega)]; cases s <;> simp⟩
        · refine ⟨false, ?_, fun s => ?_⟩
          · rw [show spec_l06Key.f x.f2 = some false from by unfold spec_l06Key.f; rw [decide_eq_false c3]]; rfl
          · rw [decide_eq_true (show 4000 < x.f2.size by omega)]; simp
      · refine ⟨false, ?_, fun s => ?_⟩
        · rw [show spec_l06Key.f x.f1 = some false from by unfold spec_l06Key.f; rw [decide_eq_false c2]]; rfl
        · rw [decide_eq_true (show 4000 < x.f1.size by omega)]; simp
    · exact ⟨false, by rw [if_neg c1], fun s => by rw [decide_eq_true (show 1000000 < x.f0 by omega)]; simp⟩
  · exact ⟨false, by rw [if_neg c0], fun s => by rw [decide_eq_true (show x.f0 < 1 by omega)]; simp⟩
/-- The numbers of the first i ranges, the last first. -/
def ids (l : List S30) : Nat → List Int
  | 0 => []
  | i + 1 => (rd_T30 l i).f0 :: ids l i
theorem ids_mem (l : List S30) (y : Int) : ∀ i : Nat, y ∈ ids l i ↔ ∃ j : Nat, j < i ∧ (rd_T30 l j).f0 = y
  | 0 => by simp [ids]
  | i + 1 => by
    simp only [ids, List.mem_cons, ids_mem l y i]
    constructor
    · rintro (h | ⟨j, h1, h2⟩)
      · exact ⟨i, by omega, h.symm⟩
      · exact ⟨j, by omega, h2⟩
    · rintro ⟨j, h1, h2⟩
      by_cases e : j = i
      · subst e; exact .inl h2.symm
      · exact .inr ⟨j, by omega, h2⟩
/-- The reference's look for the same number among those ahead. -/
theorem twice_from (l : List S30) (hl : l.length ≤ 64) (i : Nat) (hi : i < l.length) (r : Bool) (hr : Ev (fun k => spec_RangesOK.l0 k l ((i : Int) + 1)) r) (d : Nat) : ∀ (j : Nat), j ≤ i → i - j = d → (∀ q : Nat, q < j → (rd_T30 l q).f0 ≠ (rd_T30 l i).f0) →
    Ev (fun k => spec_RangesOK.l1 k l (i : Int) (j : Int)) (if (rd_T30 l i).f0 ∈ ids l i then false else r) := by
  induction d with
  | zero =>
    intro j h1 hd hq
    have e : ¬ (rd_T30 l i).f0 ∈ ids l i := by
      rw [ids_mem]
      rintro ⟨q, q1, q2⟩
      exact hq q (by omega) q2
    rw [if_neg e]
    refine Ev.succ ?_
    simp only [spec_RangesOK.l1]
    rw [wrap_in ((i : Int) + 1) (by omega) (by omega)]
    exact Ev.neg (by omega) hr
  | succ d ih =>
    intro j h1 hd hq
    refine Ev.succ ?_
    simp only [spec_RangesOK.l1]
    refine Ev.pos (by omega) (Ev.pos (by omega) (Ev.pos (by omega) (Ev.pos (by omega) (Ev.pos (by omega) ?_))))
    by_cases c : (rd_T30 l (j : Int)).f0 = (rd_T30 l (i : Int)).f0
    · rw [if_pos (by rw [ids_mem]; exact ⟨j, by omega, c⟩)]
      exact Ev.pos c (Ev.some' rfl)
    · refine Ev.neg c ?_
      rw [wrap_in ((j : Int) + 1) (by omega) (by omega)]
      exact ih (j + 1) (by omega) (by omega) (fun q q1 => by
        by_cases e : q = j
        · subst e; exact c
        · exact hq q (by omega))
theorem ok_from (l : List S30) (hl : l.length ≤ 64) (d : Nat) : ∀ (i : Nat), i ≤ l.length → l.length - i = d → ∃ r, Ev (fun k => spec_RangesOK.l0 k l (i : Int)) r ∧ Ev (fun k => impl_RangesOK.l0 k l (ids l i) (i : Int)) r := by
  induction d with
  | zero =>
    intro i h1 hd
    exact ⟨true, Ev.succ (by simp only [spec_RangesOK.l0]; exact Ev.neg (by omega) (Ev.some' rfl)), Ev.succ (by simp only [impl_RangesOK.l0]; exact Ev.neg (by omega) (Ev.some' rfl))⟩
  | succ d ih =>
    intro i h1 hd
    obtain ⟨r, r1, r2⟩ := ih (i + 1) (by omega) (by omega)
    have ew : wrap64 ((i : Int) + 1) = ((i + 1 : Nat) : Int) := by rw [wrap_in _ (by omega) (by omega)]; omega
    have em : wrap64 ((i : Int) - 1) = (i : Int) - 1 := wrap_in _ (by omega) (by omega)
    obtain ⟨b, b1, b2⟩ := one_alike (rd_T30 l (i : Int))
    have bad : ∀ x : Bool, x = true → Ev (fun k => spec_RangesOK.j2 k l (i : Int) x) false := by
      rintro x rfl
      exact Ev.succ (by simp only [spec_RangesOK.j2]; exact Ev.pos (by trivial) (Ev.some' rfl))
    have good : ∀ x : Bool, x = false → Ev (fun k => spec_RangesOK.j2 k l (i : Int) x) (if (rd_T30 l i).f0 ∈ ids l i then false else r) := by
      rintro x rfl
      refine Ev.succ ?_
      simp only [spec_RangesOK.j2]
      refine Ev.neg (by simp) ?_
      exact twice_from l hl i (by omega) r (by rw [show ((i : Int) + 1) = ((i + 1 : Nat) : Int) by omega]; exact r1) i 0 (by omega) (by omega) (fun q q1 => by omega)
    -- the program, behind the look at the ends
    have pr : ∀ v : Bool, impl_RangesOK.fst l (i : Int) = v → Ev (fun k => impl_RangesOK.l0 k l (ids l i) (i : Int)) (if v = true then false else if b = true then (if (rd_T30 l i).f0 ∈ ids l i then false else r) else false) := by
      intro v hv
      refine Ev.succ ?_
      simp only [impl_RangesOK.l0, hv, b2]
      refine Ev.pos (by omega) (Ev.pos (by omega) ?_)
      cases v with
      | true => exact Ev.pos (by trivial) (Ev.some' rfl)
      | false =>
        refine Ev.neg (by simp) ?_
        cases b with
        | false => exact Ev.pos (by simp) (Ev.some' rfl)
        | true =>
          by_cases c : (rd_T30 l i).f0 ∈ ids l i
          · rw [if_neg (by simp), if_pos rfl, if_pos c]
            exact Ev.pos (by simp [c]) (Ev.some' rfl)
          · rw [if_neg (by simp), if_pos rfl, if_neg c]
            refine Ev.neg (by simp [c]) ?_
            rw [ew]
            exact r2
    refine ⟨_, ?_, pr _ rfl⟩
    refine Ev.succ ?_
    simp only [spec_RangesOK.l0, em]
    refine Ev.pos (by omega) (Ev.pos (by omega) (Ev.bndc b1 ?_))
    cases b with
    | false =>
      have e : (if impl_RangesOK.fst l (i : Int) = true then false else if false = true then (if (rd_T30 l i).f0 ∈ ids l i then false else r) else false) = false := by split <;> rfl
      rw [e]
      exact Ev.neg (by simp) (bad _ rfl)
    | true =>
      refine Ev.pos (by trivial) ?_
      unfold impl_RangesOK.fst
      by_cases c0 : (i : Int) > 0
      · rw [decide_eq_true (show 0 < (i : Int) from c0), Bool.true_and]
        refine Ev.pos c0 (Ev.pos (by omega) (Ev.pos (by omega) ?_))
        by_cases c1 : (rd_T30 l (i : Int)).f1.toList = (rd_T30 l ((i : Int) - 1)).f2.toList
        · rw [show ((rd_T30 l (i : Int)).f1.toList != (rd_T30 l ((i : Int) - 1)).f2.toList) = false from bne_eq_false_iff_eq.mpr c1, Bool.false_or]
          refine Ev.pos c1 ?_
          have et := less_tot (rd_T30 l (i : Int)).f1.toList (rd_T30 l ((i : Int) - 1)).f1.toList
          rw [← et, Bool.not_not]
          obtain ⟨z, hz⟩ : ∃ z, (Op.bytesLess (rd_T30 l (i : Int)).f1.toList (rd_T30 l ((i : Int) - 1)).f1.toList || (rd_T30 l (i : Int)).f1.toList == (rd_T30 l ((i : Int) - 1)).f1.toList) = z := ⟨_, rfl⟩
          rw [hz]
          cases z with
          | true => exact bad _ rfl
          | false => exact good _ rfl
        · rw [show ((rd_T30 l (i : Int)).f1.toList != (rd_T30 l ((i : Int) - 1)).f2.toList) = true from bne_iff_ne.mpr c1, Bool.true_or]
          exact Ev.neg c1 (bad _ rfl)
      · rw [decide_eq_false (show ¬ 0 < (i : Int) from c0), Bool.false_and]
        exact Ev.neg c0 (good _ rfl)
theorem ok_alike (l : List S30) (hl : (l.length : Int) ≤ 1048576) : ∃ b, Ev (fun k => spec_RangesOK.f k l) b ∧ Ev (fun k => impl_RangesOK.f k l) b ∧ (b = true → 1 ≤ l.length ∧ l.length ≤ 64) := by
  have bad : ∀ x : Bool, x = true → Ev (fun k => spec_RangesOK.j0 k l x) false := by
    rintro x rfl
    exact Ev.succ (by simp only [spec_RangesOK.j0]; exact Ev.pos (by trivial) (Ev.some' rfl))
  simp only [spec_RangesOK.f, impl_RangesOK.f]
  by_cases c0 : (l.length : Int) < 1
  · exact ⟨false, Ev.pos c0 (bad _ rfl), Ev.pos c0 (Ev.some' rfl), fun h => by cases h⟩
  · by_cases c1 : (l.length : Int) > 64
    · exact ⟨false, Ev.neg c0 (Ev.pos c1 (bad _ rfl)), Ev.neg c0 (Ev.pos c1 (Ev.some' rfl)), fun h => by cases h⟩
    · rw [wrap_in ((l.length : Int) - 1) (by omega) (by omega)]
      by_cases c2 : (rd_T30 l 0).f1.toList = ([] : List UInt8)
      · by_cases c3 : (rd_T30 l ((l.length : Int) - 1)).f2.toList = ([] : List UInt8)
        · obtain ⟨r, r1, r2⟩ := ok_from l (by omega) l.length 0 (by omega) (by omega)
          refine ⟨r, Ev.neg c0 (Ev.neg c1 (Ev.pos (by omega) (Ev.pos c2 (Ev.pos (by omega) (Ev.pos (by omega) ?_))))), Ev.neg c0 (Ev.neg c1 (Ev.pos c2 (Ev.pos c3 r2))), fun _ => by omega⟩
          rw [show ((rd_T30 l ((l.length : Int) - 1)).f2.toList != ([] : List UInt8)) = false from bne_eq_false_iff_eq.mpr c3]
          exact Ev.succ (by simp only [spec_RangesOK.j0]; exact Ev.neg (by simp) r1)
        · exact ⟨false, Ev.neg c0 (Ev.neg c1 (Ev.pos (by omega) (Ev.pos c2 (Ev.pos (by omega) (Ev.pos (by omega) (bad _ (bne_iff_ne.mpr c3))))))), Ev.neg c0 (Ev.neg c1 (Ev.pos c2 (Ev.neg c3 (Ev.some' rfl)))), fun h => by cases h⟩
      · exact ⟨false, Ev.neg c0 (Ev.neg c1 (Ev.pos (by omega) (Ev.neg c2 (bad _ rfl)))), Ev.neg c0 (Ev.neg c1 (Ev.neg c2 (Ev.some' rfl))), fun h => by cases h⟩
end Go.Proofs.Ytdgleppagokjhaa.QFnExactRangeStepG
