/- Comparing values: the reference's Compare and the program's come to the same answer; what it is for valid values. No condition but that the texts' sizes are ints. -/
import Derived.Test.YtkhkhcgjopnchaaValX
namespace Go.Proofs.Ytkhkhcgjopnchaa.QFnCollationM
set_option linter.unusedVariables false
set_option linter.unusedSimpArgs false
open Go.RowKit Go.Proofs.Ytkhkhcgjopnchaa.QFnCollation Go.Proofs.YtkhkhcgjopnchaaW.PrintWords Go.Proofs.YtkhkhcgjopnchaaW.PrintLast Go.Proofs.YtkhkhcgjopnchaaW.PrintMore Go.Proofs.YtkhkhcgjopnchaaU Go.Proofs.Ytkhkhcgjopnchaa.QFnCollationV
def sg (a b : Int) : Int := if a < b then -1 else if a > b then 1 else 0
theorem spec_sg (a b : Int) : spec_l01Sign.f a b = some (sg a b) := by
  unfold spec_l01Sign.f sg
  repeat' split
  all_goals rfl
theorem impl_sg (a b : Int) : impl_cmpInt.f a b = some (sg a b) := by
  unfold impl_cmpInt.f sg
  repeat' split
  all_goals rfl
/-! ### texts -/
theorem less_irr : ∀ a : List UInt8, Op.bytesLess a a = false
  | [] => rfl
  | x :: a => by simp [Op.bytesLess, less_irr a, UInt8.lt_irrefl]
theorem cmp_order : ∀ a b : List UInt8, Go.Lib.compareBytes a b = if Op.bytesLess a b = true then -1 else if Op.bytesLess b a = true then 1 else 0
  | [], [] => rfl
  | [], _ :: _ => rfl
  | _ :: _, [] => rfl
  | x :: a, y :: b => by
    unfold Go.Lib.compareBytes Op.bytesLess
    by_cases h1 : x < y
    · simp [h1]
    · by_cases h2 : y < x
      · have h3 : ¬ x = y := fun e => h1 (e ▸ h2)
        have h4 : ¬ y = x := fun e => h3 e.symm
        simp [h1, h2, h3]
      · have h3 : x = y := UInt8.le_antisymm (UInt8.not_lt.mp h2) (UInt8.not_lt.mp h1)
        subst h3
        simp [h1, cmp_order a b]
theorem order_both (a b : ByteArray) : ∃ r, spec_l01Order.f a b = some r ∧ strings_Compare.f a b = some r ∧ r = Go.Lib.compareBytes a.data.toList b.data.toList := by
  refine ⟨_, ?_, rfl, rfl⟩
  rw [cmp_order]
  unfold spec_l01Order.f
  rw [ByteArray.toList_eq, ByteArray.toList_eq]
  repeat' split
  all_goals rfl
/-! ### numbers -/
theorem from8 {α : Type} {g : Nat → Option α} {r : α} (h : ∀ k, g (k + 8) = some r) : Ev g r := ⟨8, fun n hn => by
  obtain ⟨m, rfl⟩ : ∃ m, n = m + 8 := ⟨n - 8, by omega⟩
  exact h m⟩
theorem seven {n : Int} (h0 : 0 ≤ n) (h1 : n ≤ 6) : n = 0 ∨ n = 1 ∨ n = 2 ∨ n = 3 ∨ n = 4 ∨ n = 5 ∨ n = 6 := by omega
/-- Ten to the n, n from 0 to 6. -/
def tn (n : Int) : Int := 10 ^ n.toNat
theorem pow_both {n : Int} (h0 : 0 ≤ n) (h1 : n ≤ 6) : Ev (fun k => spec_l01Power.f k n) (tn n) ∧ Ev (fun k => impl_p10.f k n) (tn n) := by
  rcases seven h0 h1 with rfl | rfl | rfl | rfl | rfl | rfl | rfl <;> exact ⟨from8 (fun k => by simp [spec_l01Power.f, spec_l01Power.l0, wrap64, tn]), from8 (fun k => by simp [impl_p10.f, impl_p10.l0, wrap64, tn])⟩
/-- A number's millionths. -/
def mil (N S : Int) : Int := N * tn (6 - S)
theorem split_ok (K N S : Int) (s : ByteArray) (hK : K = 2 ∧ S = 0 ∧ -1000000000000000 ≤ N ∧ N ≤ 1000000000000000 ∨ K = 3 ∧ 0 ≤ S ∧ S ≤ 6 ∧ -1000000000 ≤ N ∧ N ≤ 1000000000) :
    ∃ w x, Ev (fun k => spec_l01Split.f k K N S s) (w, x) ∧ w * 1000000 + x = mil N S ∧ 0 ≤ x ∧ x < 1000000 := by
  rcases hK with ⟨rfl, rfl, h0, h1⟩ | ⟨rfl, h2, h3, h0, h1⟩
  · refine ⟨N, 0, ?_, ?_, by omega, by omega⟩
    · simp only [spec_l01Split.f]; exact Ev.pos (by trivial) (Ev.some' rfl)
    · unfold mil tn
      rw [show (10 : Int) ^ ((6 : Int) - 0).toNat = 1000000 from rfl]
      omega
  · have hp : tn S ≠ 0 ∧ 0 < tn S ∧ tn S ≤ 1000000 := by rcases seven h2 h3 with rfl | rfl | rfl | rfl | rfl | rfl | rfl <;> decide
    have e1 := Int.mul_tdiv_add_tmod N (tn S)
    have e2 := Int.tmod_lt_of_pos N hp.2.1
    have e3 := Int.lt_tmod_of_pos N hp.2.1
    obtain ⟨p1, _⟩ := pow_both (n := S) h2 h3
    obtain ⟨p2, _⟩ := pow_both (n := 6 - S) (by omega) (by omega)
    obtain ⟨q, hq⟩ : ∃ q, Int.tdiv N (tn S) = q := ⟨_, rfl⟩
    obtain ⟨m, hm⟩ : ∃ m, Int.tmod N (tn S) = m := ⟨_, rfl⟩
    rw [hq, hm] at e1
    rw [hm] at e2 e3
    have hqb : -1000000001 ≤ q ∧ q ≤ 1000000001 := by
      rcases seven h2 h3 with rfl | rfl | rfl | rfl | rfl | rfl | rfl <;> simp only [tn, Int.reduceToNat, Int.reducePow] at e1 e2 e3 <;> omega
    have w6 : wrap64 (6 - S) = 6 - S := wrap_in _ (by omega) (by omega)
    by_cases c : m < 0
    · refine ⟨q - 1, (m + tn S) * tn (6 - S), ?_, ?_, ?_, ?_⟩
      · simp only [spec_l01Split.f]
        refine Ev.neg (by omega) (Ev.bind p1 (Ev.neg hp.1 (Ev.pos (by rw [hm]; exact c) ?_)))
        rw [w6]
        refine Ev.bind p2 (Ev.some' ?_)
        rw [hq, hm, wrap_in q (by omega) (by omega), wrap_in (q - 1) (by omega) (by omega), wrap_in (m + tn S) (by omega) (by omega)]
        congr 1
        rcases seven h2 h3 with rfl | rfl | rfl | rfl | rfl | rfl | rfl <;> simp only [tn, Int.reduceToNat, Int.reducePow, Int.reduceSub] at e1 e2 e3 hp ⊢ <;> exact wrap_in _ (by omega) (by omega)
      all_goals
        try unfold mil
        rcases seven h2 h3 with rfl | rfl | rfl | rfl | rfl | rfl | rfl <;> simp only [tn, Int.reduceToNat, Int.reducePow, Int.reduceSub] at e1 e2 e3 hp ⊢ <;> omega
    · refine ⟨q, m * tn (6 - S), ?_, ?_, ?_, ?_⟩
      · simp only [spec_l01Split.f]
        refine Ev.neg (by omega) (Ev.bind p1 (Ev.neg hp.1 (Ev.neg (by rw [hm]; exact c) ?_)))
        rw [w6]
        refine Ev.bind p2 (Ev.some' ?_)
        rw [hq, hm, wrap_in q (by omega) (by omega)]
        congr 1
        rcases seven h2 h3 with rfl | rfl | rfl | rfl | rfl | rfl | rfl <;> simp only [tn, Int.reduceToNat, Int.reducePow, Int.reduceSub] at e1 e2 e3 hp ⊢ <;> exact wrap_in _ (by omega) (by omega)
      all_goals
        try unfold mil
        rcases seven h2 h3 with rfl | rfl | rfl | rfl | rfl | rfl | rfl <;> simp only [tn, Int.reduceToNat, Int.reducePow, Int.reduceSub] at e1 e2 e3 hp ⊢ <;> omega
def isNum (K : Int) : Bool := K == 2 || K == 3
theorem spec_num (K N S : Int) (s : ByteArray) : spec_l01Number.f K N S s = some (isNum K) := by
  unfold spec_l01Number.f isNum
  by_cases c : K = 2
  · subst c; rfl
  · rw [if_neg c, show (K == 2) = false from by simpa using c]; rfl
theorem impl_num (K N S : Int) (s : ByteArray) : impl_isNum.f K N S s = some (isNum K) := by
  unfold impl_isNum.f isNum
  by_cases c : K = 2
  · subst c; rfl
  · rw [if_neg c, show (K == 2) = false from by simpa using c]; rfl
theorem num_val {K N S : Int} {s : ByteArray} (h : VOK K N S s) (hn : isNum K = true) : K = 2 ∧ S = 0 ∧ -1000000000000000 ≤ N ∧ N ≤ 1000000000000000 ∨ K = 3 ∧ 0 ≤ S ∧ S ≤ 6 ∧ -1000000000 ≤ N ∧ N ≤ 1000000000 := by
  have hk : K = 2 ∨ K = 3 := by unfold isNum at hn; simpa using hn
  rcases h with h | h | h | h | h | h <;> omega
theorem mil_bound {N S : Int} (h2 : 0 ≤ S) (h3 : S ≤ 6) (h0 : -1000000000 ≤ N) (h1 : N ≤ 1000000000) : wrap64 (N * tn (6 - S)) = mil N S ∧ -1000000000000000 ≤ mil N S ∧ mil N S ≤ 1000000000000000 := by
  unfold mil
  rcases seven h2 h3 with rfl | rfl | rfl | rfl | rfl | rfl | rfl <;> simp only [tn, Int.reduceToNat, Int.reducePow, Int.reduceSub] <;> exact ⟨wrap_in _ (by omega) (by omega), by omega, by omega⟩
theorem mil0 (N : Int) : mil N 0 = N * 1000000 := rfl
theorem cmpNum_ok (aK aN aS : Int) (s : ByteArray) (bK bN bS : Int) (t : ByteArray) (ha : aK = 2 ∧ aS = 0 ∧ -1000000000000000 ≤ aN ∧ aN ≤ 1000000000000000 ∨ aK = 3 ∧ 0 ≤ aS ∧ aS ≤ 6 ∧ -1000000000 ≤ aN ∧ aN ≤ 1000000000)
    (hb : bK = 2 ∧ bS = 0 ∧ -1000000000000000 ≤ bN ∧ bN ≤ 1000000000000000 ∨ bK = 3 ∧ 0 ≤ bS ∧ bS ≤ 6 ∧ -1000000000 ≤ bN ∧ bN ≤ 1000000000) :
    Ev (fun k => impl_cmpNum.f k aK aN aS s bK bN bS t) (sg (mil aN aS) (mil bN bS)) := by
  have last : ∀ aK aN aS bK bN bS : Int, 0 ≤ aS → aS ≤ 6 → -1000000000 ≤ aN → aN ≤ 1000000000 → 0 ≤ bS → bS ≤ 6 → -1000000000 ≤ bN → bN ≤ 1000000000 → ∀ b : Bool, b = false → Ev (fun k => impl_cmpNum.j2 k b aK aN aS s bK bN bS t) (sg (mil aN aS) (mil bN bS)) := by
    rintro aK aN aS bK bN bS a1 a2 a3 a4 b1 b2 b3 b4 b rfl
    refine Ev.succ ?_
    simp only [impl_cmpNum.j2]
    rw [wrap_in (6 - aS) (by omega) (by omega), wrap_in (6 - bS) (by omega) (by omega)]
    refine Ev.neg (by simp) (Ev.bind (pow_both (n := 6 - aS) (by omega) (by omega)).2 (Ev.bind (pow_both (n := 6 - bS) (by omega) (by omega)).2 ?_))
    rw [(mil_bound a1 a2 a3 a4).1, (mil_bound b1 b2 b3 b4).1]
    exact Ev.bndc (impl_sg _ _) (Ev.some' rfl)
  have low : ∀ aK aN aS bK bN bS : Int, ∀ b : Bool, b = true → sg (mil aN aS) (mil bN bS) = -1 → Ev (fun k => impl_cmpNum.j2 k b aK aN aS s bK bN bS t) (sg (mil aN aS) (mil bN bS)) := by
    rintro aK aN aS bK bN bS b rfl h
    rw [h]
    exact Ev.succ (by simp only [impl_cmpNum.j2]; exact Ev.pos (by trivial) (Ev.some' rfl))
  have high : ∀ aK aN aS bK bN bS : Int, ∀ b : Bool, b = true → sg (mil aN aS) (mil bN bS) = 1 → Ev (fun k => impl_cmpNum.j1 k b aK aN aS s bK bN bS t) (sg (mil aN aS) (mil bN bS)) := by
    rintro aK aN aS bK bN bS b rfl h
    rw [h]
    exact Ev.succ (by simp only [impl_cmpNum.j1]; exact Ev.pos (by trivial) (Ev.some' rfl))
  simp only [impl_cmpNum.f]
  rcases ha with ⟨rfl, rfl, a0, a1⟩ | ⟨rfl, a2, a3, a0, a1⟩
  · rcases hb with ⟨rfl, rfl, b0, b1⟩ | ⟨rfl, b2, b3, b0, b1⟩
    · refine Ev.pos (by trivial) (Ev.succ ?_)
      simp only [impl_cmpNum.j0]
      refine Ev.pos (by trivial) (Ev.bndc (impl_sg _ _) (Ev.some' ?_))
      rw [mil0, mil0]
      unfold sg
      repeat' split
      all_goals first | rfl | omega
    · obtain ⟨_, m1, m2⟩ := mil_bound b2 b3 b0 b1
      refine Ev.pos (by trivial) (Ev.succ ?_)
      simp only [impl_cmpNum.j0]
      refine Ev.neg (by simp) (Ev.pos (by trivial) ?_)
      by_cases c1 : aN > 1000000000
      · refine Ev.pos c1 (high _ _ _ _ _ _ _ rfl ?_)
        rw [mil0]; unfold sg; rw [if_neg (by omega), if_pos (by omega)]
      · refine Ev.neg c1 (Ev.neg (by omega) (Ev.succ ?_))
        simp only [impl_cmpNum.j1]
        refine Ev.neg (by simp) (Ev.pos (by trivial) ?_)
        by_cases c2 : aN < -1000000000
        · refine Ev.pos c2 (low _ _ _ _ _ _ _ rfl ?_)
          rw [mil0]; unfold sg; rw [if_pos (by omega)]
        · exact Ev.neg c2 (Ev.neg (by omega) (last _ _ _ _ _ _ (by omega) (by omega) (by omega) (by omega) b2 b3 b0 b1 _ rfl))
  · obtain ⟨_, m1, m2⟩ := mil_bound a2 a3 a0 a1
    rcases hb with ⟨rfl, rfl, b0, b1⟩ | ⟨rfl, b2, b3, b0, b1⟩
    · refine Ev.neg (by omega) (Ev.succ ?_)
      simp only [impl_cmpNum.j0]
      refine Ev.neg (by simp) (Ev.neg (by omega) (Ev.pos (by trivial) ?_))
      by_cases c1 : bN < -1000000000
      · refine high _ _ _ _ _ _ _ (decide_eq_true c1) ?_
        rw [mil0]; unfold sg; rw [if_neg (by omega), if_pos (by omega)]
      · rw [decide_eq_false c1]
        refine Ev.succ ?_
        simp only [impl_cmpNum.j1]
        refine Ev.neg (by simp) (Ev.neg (by omega) (Ev.pos (by trivial) ?_))
        by_cases c2 : bN > 1000000000
        · refine low _ _ _ _ _ _ _ (decide_eq_true c2) ?_
          rw [mil0]; unfold sg; rw [if_pos (by omega)]
        · exact last _ _ _ _ _ _ a2 a3 a0 a1 (by omega) (by omega) (by omega) (by omega) _ (decide_eq_false c2)
    · refine Ev.neg (by omega) (Ev.succ ?_)
      simp only [impl_cmpNum.j0]
      refine Ev.neg (by simp) (Ev.neg (by omega) (Ev.neg (by omega) (Ev.succ ?_)))
      simp only [impl_cmpNum.j1]
      exact Ev.neg (by simp) (Ev.neg (by omega) (Ev.neg (by omega) (last _ _ _ _ _ _ a2 a3 a0 a1 b2 b3 b0 b1 _ rfl)))
/-! ### weights -/
def Wok (c : ByteArray) : Prop := (c.size = 0 ∨ c.size = 95) ∧ Pr c
theorem coll_alike (c : ByteArray) (hc : c.size ≤ 9223372036854775807) : ∃ b : Bool, (b = true ↔ Wok c) ∧ Ev (fun k => spec_CollOK.f k c) b ∧ Ev (fun k => impl_CollOK.f k c) b := by
  obtain ⟨p, hp, p1, p2⟩ := pr_alike c hc
  simp only [spec_CollOK.f, impl_CollOK.f, toList_nil]
  by_cases c0 : (c.size : Int) = 0
  · have e : p = true := hp.2 (fun i h0 h1 => by omega)
    subst e
    exact ⟨true, ⟨fun _ => ⟨by omega, hp.1 rfl⟩, fun _ => rfl⟩, Ev.pos c0 (Ev.bind p1 (Ev.some' rfl)), Ev.pos c0 (Ev.some' rfl)⟩
  · by_cases c1 : (c.size : Int) = 95
    · refine ⟨p, ⟨fun h => ⟨by omega, hp.1 h⟩, fun h => hp.2 h.2⟩, Ev.neg c0 (Ev.pos c1 (Ev.bind p1 (Ev.some' rfl))), Ev.neg c0 (Ev.pos c1 (Ev.bind p2 (Ev.some' rfl)))⟩
    · exact ⟨false, ⟨fun h => by simp at h, fun h => by have := h.1; omega⟩, Ev.neg c0 (Ev.neg c1 (Ev.some' rfl)), Ev.neg c0 (Ev.neg c1 (Ev.some' rfl))⟩
theorem weigh_from (c s : ByteArray) (hc : c.size = 95) (hs : s.size ≤ 200) (hp : Pr s) (d : Nat) : ∀ (acc : List Int) (i : Int), 0 ≤ i → i ≤ s.size → (s.size : Int) - i = d → (acc.length : Int) ≤ i →
    ∃ r, Ev (fun k => spec_l01Weighed.l0 k s acc i c) r ∧ Ev (fun k => impl_weighed.l0 k s acc i c) r := by
  induction d with
  | zero =>
    intro acc i h0 h1 hd ha
    refine ⟨strOfNums acc, Ev.succ ?_, Ev.succ ?_⟩
    · simp only [spec_l01Weighed.l0]; exact Ev.neg (by omega) (Ev.some' rfl)
    · simp only [impl_weighed.l0]; exact Ev.neg (by omega) (Ev.some' rfl)
  | succ d ih =>
    intro acc i h0 h1 hd ha
    obtain ⟨b0, b1⟩ := hp i h0 (by omega)
    have e1 : wrap64 (wrap64 (bt s i) - 32) = bt s i - 32 := by rw [wrap_in (bt s i) (by omega) (by omega), wrap_in _ (by omega) (by omega)]
    have e2 : (bt s i - 32) % 256 = bt s i - 32 := by omega
    have e3 : wrap64 (i + 1) = i + 1 := wrap_in _ (by omega) (by omega)
    by_cases cw : bt c (bt s i - 32) = 32
    · obtain ⟨r, r1, r2⟩ := ih acc (i + 1) (by omega) (by omega) (by omega) (by omega)
      refine ⟨r, Ev.succ ?_, Ev.succ ?_⟩
      · simp only [spec_l01Weighed.l0, e1, e3]; exact Ev.pos (by omega) (Ev.pos h0 (Ev.pos (by omega) (Ev.pos (by omega) (Ev.pos cw r1))))
      · simp only [impl_weighed.l0, e2, e3]; exact Ev.pos (by omega) (Ev.pos h0 (Ev.pos (by omega) (Ev.pos (by omega) (Ev.pos cw r2))))
    · obtain ⟨r, r1, r2⟩ := ih (acc ++ [bt c (bt s i - 32)]) (i + 1) (by omega) (by omega) (by omega) (by rw [List.length_append]; simp; omega)
      refine ⟨r, Ev.succ ?_, Ev.succ ?_⟩
      · simp only [spec_l01Weighed.l0, e1, e3]; exact Ev.pos (by omega) (Ev.pos h0 (Ev.pos (by omega) (Ev.pos (by omega) (Ev.neg cw (Ev.pos (by omega) r1)))))
      · simp only [impl_weighed.l0, e2, e3]; exact Ev.pos (by omega) (Ev.pos h0 (Ev.pos (by omega) (Ev.pos (by omega) (Ev.neg cw (Ev.pos (by omega) r2)))))
theorem weigh_both (c s : ByteArray) (hc : Wok c) (hs : s.size ≤ 200) (hp : Pr s) : ∃ r, Ev (fun k => spec_l01Weighed.f k c s) r ∧ Ev (fun k => impl_weighed.f k c s) r := by
  simp only [spec_l01Weighed.f, impl_weighed.f, toList_nil]
  rcases hc.1 with h | h
  · exact ⟨s, Ev.neg (by omega) (Ev.some' rfl), Ev.pos (by omega) (Ev.some' rfl)⟩
  · obtain ⟨r, r1, r2⟩ := weigh_from c s h hs hp s.size [] 0 (by omega) (by omega) (by omega) (by simp)
    exact ⟨r, Ev.pos (by omega) r1, Ev.neg (by omega) r2⟩
/-! ### Compare -/
theorem cmp_valid (c : ByteArray) (aK aN aS : Int) (s : ByteArray) (bK bN bS : Int) (t : ByteArray) (hc : Wok c) (ha : VOK aK aN aS s) (hb : VOK bK bN bS t) :
    ∃ r, (∀ x : Bool, x = false → Ev (fun k => spec_Compare.j0 k x c aK aN aS s bK bN bS t) r) ∧ (∀ x : Bool, x = false → Ev (fun k => impl_Compare.j0 k x c aK aN aS s bK bN bS t) r) ∧
      (isNum aK = true → isNum bK = true → r = (sg (mil aN aS) (mil bN bS), 0)) ∧
      (aK = 4 → bK = 4 → ∃ u v, Ev (fun k => impl_weighed.f k c s) u ∧ Ev (fun k => impl_weighed.f k c t) v ∧ r = (Go.Lib.compareBytes u.data.toList v.data.toList, 0)) := by
  by_cases c0 : aK = 0 ∨ bK = 0
  · have hm : ∀ x : Int, 0 ≤ x → mn x 1 = if x = 0 then 0 else 1 := fun x hx => by unfold mn; split <;> split <;> omega
    have hf : ∀ x : Int, spec_l01Flag.f (x != 0) = some (if x = 0 then 0 else 1) := fun x => by
      unfold spec_l01Flag.f
      by_cases e : x = 0
      · subst e; rfl
      · rw [if_pos (by simpa using e), if_neg e]
    have ka : 0 ≤ aK := by rcases ha with h | h | h | h | h | h <;> omega
    have kb : 0 ≤ bK := by rcases hb with h | h | h | h | h | h <;> omega
    refine ⟨(sg (if aK = 0 then 0 else 1) (if bK = 0 then 0 else 1), 0), ?_, ?_, ?_, ?_⟩
    · rintro x rfl
      refine Ev.succ ?_
      simp only [spec_Compare.j0]
      refine Ev.neg (by simp) (Ev.bndc (b := true) ?_ (Ev.pos (by trivial) ?_))
      · unfold spec_l01Like.f
        rcases c0 with h | h
        · rw [if_pos h]
        · by_cases e : aK = 0
          · rw [if_pos e]
          · rw [if_neg e, if_pos h]
      · have jx : ∀ y : Bool, y = true → Ev (fun k => spec_l01Cmp.j0 k y c aK aN aS s bK bN bS t) (sg (if aK = 0 then 0 else 1) (if bK = 0 then 0 else 1)) := by
          rintro y rfl
          refine Ev.succ ?_
          simp only [spec_l01Cmp.j0]
          exact Ev.pos (by trivial) (Ev.bndc (hf aK) (Ev.bndc (hf bK) (Ev.bndc (spec_sg _ _) (Ev.some' rfl))))
        refine Ev.bind (a := sg (if aK = 0 then 0 else 1) (if bK = 0 then 0 else 1)) ?_ (Ev.some' rfl)
        simp only [spec_l01Cmp.f]
        by_cases e : aK = 0
        · exact Ev.pos e (jx _ rfl)
        · exact Ev.neg e (jx _ (by rw [beq_iff_eq]; omega))
    · rintro x rfl
      have jx : ∀ y : Bool, y = true → Ev (fun k => impl_Compare.j1 k y c aK aN aS s bK bN bS t) (sg (if aK = 0 then 0 else 1) (if bK = 0 then 0 else 1), 0) := by
        rintro y rfl
        refine Ev.succ ?_
        simp only [impl_Compare.j1]
        rw [hm aK ka, hm bK kb]
        exact Ev.pos (by trivial) (Ev.bndc (impl_sg _ _) (Ev.some' rfl))
      refine Ev.succ ?_
      simp only [impl_Compare.j0]
      refine Ev.neg (by simp) ?_
      by_cases e : aK = 0
      · exact Ev.pos e (jx _ rfl)
      · exact Ev.neg e (jx _ (by rw [beq_iff_eq]; omega))
    · intro h1 h2; unfold isNum at h1 h2; simp at h1 h2; omega
    · intro h1 h2; omega
  · have ea : aK ≠ 0 := fun h => c0 (.inl h)
    have eb : bK ≠ 0 := fun h => c0 (.inr h)
    have eb' : (bK == 0) = false := by simpa using eb
    -- into the program's second join
    have into : ∀ r, (Ev (fun k => (impl_isNum.f aK aN aS s).bind fun t175 => if t175 = true then (impl_isNum.f bK bN bS t).bind fun t176 => impl_Compare.j2 k t176 c aK aN aS s bK bN bS t else impl_Compare.j2 k false c aK aN aS s bK bN bS t) r) → ∀ x : Bool, x = false → Ev (fun k => impl_Compare.j0 k x c aK aN aS s bK bN bS t) r := by
      rintro r h x rfl
      refine Ev.succ ?_
      simp only [impl_Compare.j0]
      refine Ev.neg (by simp) (Ev.neg ea (Ev.succ ?_))
      simp only [impl_Compare.j1, eb']
      exact Ev.neg (by simp) h
    have like : ∀ r, spec_l01Like.f aK aN aS s bK bN bS t = some true → (∀ x : Bool, x = false → Ev (fun k => spec_l01Cmp.j0 k x c aK aN aS s bK bN bS t) r) → ∀ x : Bool, x = false → Ev (fun k => spec_Compare.j0 k x c aK aN aS s bK bN bS t) (r, 0) := by
      rintro r h1 h2 x rfl
      refine Ev.succ ?_
      simp only [spec_Compare.j0]
      refine Ev.neg (by simp) (Ev.bndc h1 (Ev.pos (by trivial) (Ev.bind (a := r) ?_ (Ev.some' rfl))))
      simp only [spec_l01Cmp.f]
      exact Ev.neg ea (h2 _ eb')
    by_cases na : isNum aK = true
    · have ka4 : aK ≠ 4 := by unfold isNum at na; simp at na; omega
      by_cases nb : isNum bK = true
      · obtain ⟨w, x, s1, m1, x0, x1⟩ := split_ok aK aN aS s (num_val ha na)
        obtain ⟨y, z, s2, m2, z0, z1⟩ := split_ok bK bN bS t (num_val hb nb)
        refine ⟨(sg (mil aN aS) (mil bN bS), 0), like _ ?_ ?_, into _ ?_, fun _ _ => rfl, fun h => absurd h ka4⟩
        · unfold spec_l01Like.f
          rw [if_neg ea, if_neg eb]
          by_cases e : aK = bK
          · rw [if_pos e]
          · rw [if_neg e, spec_num, na]; simp only [Option.bind_some, if_true]; rw [spec_num, nb]; rfl
        · rintro b rfl
          refine Ev.succ ?_
          simp only [spec_l01Cmp.j0]
          refine Ev.neg (by simp) (Ev.neg ka4 (Ev.bndc (spec_num ..) (Ev.pos na (Ev.bind s1 (Ev.bind s2 ?_)))))
          by_cases e : w = y
          · refine Ev.pos e (Ev.bndc (spec_sg _ _) (Ev.some' ?_))
            unfold sg
            repeat' split
            all_goals first | rfl | (exfalso; omega)
          · refine Ev.neg e (Ev.bndc (spec_sg _ _) (Ev.some' ?_))
            unfold sg
            repeat' split
            all_goals first | rfl | (exfalso; omega)
        · refine Ev.bndc (impl_num ..) (Ev.pos na (Ev.bndc (impl_num ..) (Ev.succ ?_)))
          simp only [impl_Compare.j2]
          exact Ev.pos nb (Ev.bind (cmpNum_ok aK aN aS s bK bN bS t (num_val ha na) (num_val hb nb)) (Ev.some' rfl))
      · have nb' : isNum bK = false := by simpa using nb
        have ne : aK ≠ bK := fun e => nb (e ▸ na)
        refine ⟨(0, 2), ?_, into _ ?_, fun _ h => absurd h nb, fun h => absurd h ka4⟩
        · rintro x rfl
          refine Ev.succ ?_
          simp only [spec_Compare.j0]
          refine Ev.neg (by simp) (Ev.bndc (b := false) ?_ (Ev.neg (by simp) (Ev.some' rfl)))
          unfold spec_l01Like.f
          rw [if_neg ea, if_neg eb, if_neg ne, spec_num, na]; simp only [Option.bind_some, if_true]; rw [spec_num, nb']; rfl
        · refine Ev.bndc (impl_num ..) (Ev.pos na (Ev.bndc (impl_num ..) (Ev.succ ?_)))
          simp only [impl_Compare.j2]
          exact Ev.neg nb (Ev.neg ne (Ev.some' rfl))
    · have na' : isNum aK = false := by simpa using na
      by_cases e : aK = bK
      · subst e
        by_cases k4 : aK = 4
        · subst k4
          have hs : s.size ≤ 200 ∧ Pr s := by rcases ha with h | h | h | h | h | h <;> first | omega | exact ⟨h.2.2.2.1, h.2.2.2.2⟩
          have ht : t.size ≤ 200 ∧ Pr t := by rcases hb with h | h | h | h | h | h <;> first | omega | exact ⟨h.2.2.2.1, h.2.2.2.2⟩
          obtain ⟨u, u1, u2⟩ := weigh_both c s hc hs.1 hs.2
          obtain ⟨v, v1, v2⟩ := weigh_both c t hc ht.1 ht.2
          obtain ⟨r, o1, o2, o3⟩ := order_both u v
          refine ⟨(r, 0), like _ ?_ ?_, into _ ?_, fun h => absurd h (by decide), fun _ _ => ⟨u, v, u2, v2, by rw [o3]⟩⟩
          · unfold spec_l01Like.f; rw [if_neg ea, if_neg eb, if_pos rfl]
          · rintro b rfl
            refine Ev.succ ?_
            simp only [spec_l01Cmp.j0]
            exact Ev.neg (by simp) (Ev.pos (by trivial) (Ev.bind u1 (Ev.bind v1 (Ev.bndc o1 (Ev.some' rfl)))))
          · refine Ev.bndc (impl_num ..) (Ev.neg na (Ev.succ ?_))
            simp only [impl_Compare.j2]
            exact Ev.neg (by simp) (Ev.pos (by trivial) (Ev.pos (by trivial) (Ev.bind u2 (Ev.bind v2 (Ev.bndc o2 (Ev.some' rfl))))))
        · refine ⟨(sg aN bN, 0), like _ ?_ ?_, into _ ?_, fun h => absurd h na, fun h => absurd h k4⟩
          · unfold spec_l01Like.f; rw [if_neg ea, if_neg eb, if_pos rfl]
          · rintro b rfl
            refine Ev.succ ?_
            simp only [spec_l01Cmp.j0]
            exact Ev.neg (by simp) (Ev.neg k4 (Ev.bndc (spec_num ..) (Ev.neg na (Ev.bndc (spec_sg _ _) (Ev.some' rfl)))))
          · refine Ev.bndc (impl_num ..) (Ev.neg na (Ev.succ ?_))
            simp only [impl_Compare.j2]
            exact Ev.neg (by simp) (Ev.pos (by trivial) (Ev.neg k4 (Ev.bndc (impl_sg _ _) (Ev.some' rfl))))
      · refine ⟨(0, 2), ?_, into _ ?_, fun h => absurd h na, fun h1 h2 => absurd (h1.trans h2.symm) e⟩
        · rintro x rfl
          refine Ev.succ ?_
          simp only [spec_Compare.j0]
          refine Ev.neg (by simp) (Ev.bndc (b := false) ?_ (Ev.neg (by simp) (Ev.some' rfl)))
          unfold spec_l01Like.f
          rw [if_neg ea, if_neg eb, if_neg e, spec_num, na']; rfl
        · refine Ev.bndc (impl_num ..) (Ev.neg na (Ev.succ ?_))
          simp only [impl_Compare.j2]
          exact Ev.neg (by simp) (Ev.neg e (Ev.some' rfl))
theorem cmp_alike (c : ByteArray) (aK aN aS : Int) (s : ByteArray) (bK bN bS : Int) (t : ByteArray) (hc : c.size ≤ 9223372036854775807) (hs : s.size ≤ 9223372036854775807) (ht : t.size ≤ 9223372036854775807) :
    ∃ r, Ev (fun k => spec_Compare.f k c aK aN aS s bK bN bS t) r ∧ Ev (fun k => impl_Compare.f k c aK aN aS s bK bN bS t) r := by
  obtain ⟨p, hp, p1, p2⟩ := coll_alike c hc
  obtain ⟨x, hx, x1, x2⟩ := val_alike aK aN aS s hs
  obtain ⟨y, hy, y1, y2⟩ := val_alike bK bN bS t ht
  have b1 : ∀ z : Bool, z = true → Ev (fun k => spec_Compare.j0 k z c aK aN aS s bK bN bS t) (0, 1) := by
    rintro z rfl; exact Ev.succ (by simp only [spec_Compare.j0]; exact Ev.pos (by trivial) (Ev.some' rfl))
  have b2 : ∀ z : Bool, z = true → Ev (fun k => impl_Compare.j0 k z c aK aN aS s bK bN bS t) (0, 1) := by
    rintro z rfl; exact Ev.succ (by simp only [impl_Compare.j0]; exact Ev.pos (by trivial) (Ev.some' rfl))
  simp only [spec_Compare.f, impl_Compare.f]
  cases p with
  | false => exact ⟨_, Ev.bind p1 (Ev.neg (by simp) (b1 _ rfl)), Ev.bind p2 (Ev.neg (by simp) (b2 _ rfl))⟩
  | true =>
    cases x with
    | false => exact ⟨_, Ev.bind p1 (Ev.pos (by trivial) (Ev.bind x1 (Ev.neg (by simp) (b1 _ rfl)))), Ev.bind p2 (Ev.pos (by trivial) (Ev.bind x2 (Ev.neg (by simp) (b2 _ rfl))))⟩
    | true =>
      cases y with
      | false => exact ⟨_, Ev.bind p1 (Ev.pos (by trivial) (Ev.bind x1 (Ev.pos (by trivial) (Ev.bind y1 (b1 _ rfl))))), Ev.bind p2 (Ev.pos (by trivial) (Ev.bind x2 (Ev.pos (by trivial) (Ev.bind y2 (b2 _ rfl)))))⟩
      | true =>
        obtain ⟨r, r1, r2, _⟩ := cmp_valid c aK aN aS s bK bN bS t (hp.1 rfl) (hx.1 rfl) (hy.1 rfl)
        exact ⟨r, Ev.bind p1 (Ev.pos (by trivial) (Ev.bind x1 (Ev.pos (by trivial) (Ev.bind y1 (r1 _ rfl))))), Ev.bind p2 (Ev.pos (by trivial) (Ev.bind x2 (Ev.pos (by trivial) (Ev.bind y2 (r2 _ rfl)))))⟩
end Go.Proofs.Ytkhkhcgjopnchaa.QFnCollationM
