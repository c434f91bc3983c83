/- The program's Compare of two valid values, by the empty collation, answers as the order of the values says. No condition. -/
import Derived.Test.YtjplogeifleojaaKoB
namespace Go.Proofs.Ytjplogeifleojaa.QFnKeyOrderM
set_option linter.unusedVariables false
set_option linter.unusedSimpArgs false
open Go.RowKit Go.Proofs.Ytjplogeifleojaa.QFnKeyOrder Go.Proofs.YtjplogeifleojaaW.PrintWords Go.Proofs.YtjplogeifleojaaW.PrintLast Go.Proofs.YtjplogeifleojaaW.PrintMore Go.Proofs.YtjplogeifleojaaU Go.Proofs.Ytjplogeifleojaa.QFnKeyOrderV Go.Proofs.Ytjplogeifleojaa.QFnKeyOrderO Go.Proofs.Ytjplogeifleojaa.QFnKeyOrderB
theorem impl_sg (a b : Int) : impl_cmpInt.f a b = some (sg a b) := by
  unfold impl_cmpInt.f sg
  repeat' split
  all_goals rfl
theorem cmp_order : ∀ a b : List UInt8, Go.Lib.compareBytes a b = if Op.bytesLess a b = true then -1 else if Op.bytesLess b a = true then 1 else 0
  | [], [] => rfl
  | [], _ :: _ => rfl
  | _ :: _, [] => rfl
  | x :: a, y :: b => by
    unfold Go.Lib.compareBytes Op.bytesLess
    by_cases h1 : x < y
    · simp [h1]
    · by_cases h2 : y < x
      · have h3 : ¬ x = y := fun e => h1 (e ▸ h2)
        have h4 : ¬ y = x := fun e => h3 e.symm
        simp [h1, h2, h3]
      · have h3 : x = y := UInt8.le_antisymm (UInt8.not_lt.mp h2) (UInt8.not_lt.mp h1)
        subst h3
        simp [h1, cmp_order a b]
theorem impl_num (K N S : Int) (s : ByteArray) : impl_isNum.f K N S s = some (isNum K) := by
  unfold impl_isNum.f isNum
  by_cases c : K = 2
  · subst c; rfl
  · rw [if_neg c, show (K == 2) = false from by simpa using c]; rfl
theorem mil_wrap {N S : Int} (h2 : 0 ≤ S) (h3 : S ≤ 6) (h0 : -1000000000 ≤ N) (h1 : N ≤ 1000000000) : wrap64 (N * tn (6 - S)) = mil N S ∧ -1000000000000000 ≤ mil N S ∧ mil N S ≤ 1000000000000000 := by
  unfold mil
  rcases seven h2 h3 with rfl | rfl | rfl | rfl | rfl | rfl | rfl <;> simp only [tn, Int.reduceToNat, Int.reducePow, Int.reduceSub] <;> exact ⟨wrap_in _ (by omega) (by omega), by omega, by omega⟩
theorem mil0 (N : Int) : mil N 0 = N * 1000000 := rfl
theorem cmpNum_ok (aK aN aS : Int) (s : ByteArray) (bK bN bS : Int) (t : ByteArray) (ha : aK = 2 ∧ aS = 0 ∧ -1000000000000000 ≤ aN ∧ aN ≤ 1000000000000000 ∨ aK = 3 ∧ 0 ≤ aS ∧ aS ≤ 6 ∧ -1000000000 ≤ aN ∧ aN ≤ 1000000000)
    (hb : bK = 2 ∧ bS = 0 ∧ -1000000000000000 ≤ bN ∧ bN ≤ 1000000000000000 ∨ bK = 3 ∧ 0 ≤ bS ∧ bS ≤ 6 ∧ -1000000000 ≤ bN ∧ bN ≤ 1000000000) :
    Ev (fun k => impl_cmpNum.f k aK aN aS s bK bN bS t) (sg (mil aN aS) (mil bN bS)) := by
  have last : ∀ aK aN aS bK bN bS : Int, 0 ≤ aS → aS ≤ 6 → -1000000000 ≤ aN → aN ≤ 1000000000 → 0 ≤ bS → bS ≤ 6 → -1000000000 ≤ bN → bN ≤ 1000000000 → ∀ b : Bool, b = false → Ev (fun k => impl_cmpNum.j2 k b aK aN aS s bK bN bS t) (sg (mil aN aS) (mil bN bS)) := by
    rintro aK aN aS bK bN bS a1 a2 a3 a4 b1 b2 b3 b4 b rfl
    refine Ev.succ ?_
    simp only [impl_cmpNum.j2]
    rw [wrap_in (6 - aS) (by omega) (by omega), wrap_in (6 - bS) (by omega) (by omega)]
    refine Ev.neg (by simp) (Ev.bind (pow_both (n := 6 - aS) (by omega) (by omega)).2 (Ev.bind (pow_both (n := 6 - bS) (by omega) (by omega)).2 ?_))
    rw [(mil_wrap a1 a2 a3 a4).1, (mil_wrap b1 b2 b3 b4).1]
    exact Ev.bndc (impl_sg _ _) (Ev.some' rfl)
  have low : ∀ aK aN aS bK bN bS : Int, ∀ b : Bool, b = true → sg (mil aN aS) (mil bN bS) = -1 → Ev (fun k => impl_cmpNum.j2 k b aK aN aS s bK bN bS t) (sg (mil aN aS) (mil bN bS)) := by
    rintro aK aN aS bK bN bS b rfl h
    rw [h]
    exact Ev.succ (by simp only [impl_cmpNum.j2]; exact Ev.pos (by trivial) (Ev.some' rfl))
  have high : ∀ aK aN aS bK bN bS : Int, ∀ b : Bool, b = true → sg (mil aN aS) (mil bN bS) = 1 → Ev (fun k => impl_cmpNum.j1 k b aK aN aS s bK bN bS t) (sg (mil aN aS) (mil bN bS)) := by
    rintro aK aN aS bK bN bS b rfl h
    rw [h]
    exact Ev.succ (by simp only [impl_cmpNum.j1]; exact Ev.pos (by trivial) (Ev.some' rfl))
  simp only [impl_cmpNum.f]
  rcases ha with ⟨rfl, rfl, a0, a1⟩ | ⟨rfl, a2, a3, a0, a1⟩
  · rcases hb with ⟨rfl, rfl, b0, b1⟩ | ⟨rfl, b2, b3, b0, b1⟩
    · refine Ev.pos (by trivial) (Ev.succ ?_)
      simp only [impl_cmpNum.j0]
      refine Ev.pos (by trivial) (Ev.bndc (impl_sg _ _) (Ev.some' ?_))
      rw [mil0, mil0]
      unfold sg
      repeat' split
      all_goals first | rfl | omega
    · obtain ⟨_, m1, m2⟩ := mil_wrap b2 b3 b0 b1
      refine Ev.pos (by trivial) (Ev.succ ?_)
      simp only [impl_cmpNum.j0]
      refine Ev.neg (by simp) (Ev.pos (by trivial) ?_)
      by_cases c1 : aN > 1000000000
      · refine Ev.pos c1 (high _ _ _ _ _ _ _ rfl ?_)
        rw [mil0]; unfold sg; rw [if_neg (by omega), if_pos (by omega)]
      · refine Ev.neg c1 (Ev.neg (by omega) (Ev.succ ?_))
        simp only [impl_cmpNum.j1]
        refine Ev.neg (by simp) (Ev.pos (by trivial) ?_)
        by_cases c2 : aN < -1000000000
        · refine Ev.pos c2 (low _ _ _ _ _ _ _ rfl ?_)
          rw [mil0]; unfold sg; rw [if_pos (by omega)]
        · exact Ev.neg c2 (Ev.neg (by omega) (last _ _ _ _ _ _ (by omega) (by omega) (by omega) (by omega) b2 b3 b0 b1 _ rfl))
  · obtain ⟨_, m1, m2⟩ := mil_wrap a2 a3 a0 a1
    rcases hb with ⟨rfl, rfl, b0, b1⟩ | ⟨rfl, b2, b3, b0, b1⟩
    · refine Ev.neg (by omega) (Ev.succ ?_)
      simp only [impl_cmpNum.j0]
      refine Ev.neg (by simp) (Ev.neg (by omega) (Ev.pos (by trivial) ?_))
      by_cases c1 : bN < -1000000000
      · refine high _ _ _ _ _ _ _ (decide_eq_true c1) ?_
        rw [mil0]; unfold sg; rw [if_neg (by omega), if_pos (by omega)]
      · rw [decide_eq_false c1]
        refine Ev.succ ?_
        simp only [impl_cmpNum.j1]
        refine Ev.neg (by simp) (Ev.neg (by omega) (Ev.pos (by trivial) ?_))
        by_cases c2 : bN > 1000000000
        · refine low _ _ _ _ _ _ _ (decide_eq_true c2) ?_
          rw [mil0]; unfold sg; rw [if_pos (by omega)]
        · exact last _ _ _ _ _ _ a2 a3 a0 a1 (by omega) (by omega) (by omega) (by omega) _ (decide_eq_false c2)
    · refine Ev.neg (by omega) (Ev.succ ?_)
      simp only [impl_cmpNum.j0]
      refine Ev.neg (by simp) (Ev.neg (by omega) (Ev.neg (by omega) (Ev.succ ?_)))
      simp only [impl_cmpNum.j1]
      exact Ev.neg (by simp) (Ev.neg (by omega) (Ev.neg (by omega) (last _ _ _ _ _ _ a2 a3 a0 a1 b2 b3 b0 b1 _ rfl)))

/-! ### Compare -/
theorem cmp_text (a b : ByteArray) : strings_Compare.f a b = some (if lx (bnums a) (bnums b) = true then -1 else if lx (bnums b) (bnums a) = true then 1 else 0) := by
  show some (Go.Lib.compareBytes a.data.toList b.data.toList) = _
  rw [cmp_order, less_lx, less_lx]
  rfl
theorem weigh0 (s : ByteArray) : Ev (fun k => impl_weighed.f k (⟨#[]⟩ : ByteArray) s) s := by
  simp only [impl_weighed.f]
  exact Ev.pos (by rw [toList_nil]; rfl) (Ev.some' rfl)
theorem coll0 : Ev (fun k => impl_CollOK.f k (⟨#[]⟩ : ByteArray)) true := by
  simp only [impl_CollOK.f]
  exact Ev.pos (by rw [toList_nil]; rfl) (Ev.some' rfl)
theorem drop_nok {K N S : Int} (h : NOK K N S) : K = 2 ∧ S = 0 ∧ -1000000000000000 ≤ N ∧ N ≤ 1000000000000000 ∨ K = 3 ∧ 0 ≤ S ∧ S ≤ 6 ∧ -1000000000 ≤ N ∧ N ≤ 1000000000 := by
  rcases h with h | h
  · exact .inl h
  · exact .inr ⟨h.1, h.2.1, h.2.2.1, h.2.2.2.1, h.2.2.2.2.1⟩
theorem cmp_ok (aK aN aS : Int) (s : ByteArray) (bK bN bS : Int) (t : ByteArray) (ha : VOK aK aN aS s) (hb : VOK bK bN bS t) (hs : s.size ≤ 9223372036854775807) (ht : t.size ≤ 9223372036854775807) :
    Ev (fun k => impl_Compare.f k (⟨#[]⟩ : ByteArray) aK aN aS s bK bN bS t) (cmpR aK aN aS (bnums s) bK bN bS (bnums t)) := by
  obtain ⟨x, hx, _, x1⟩ := val_alike aK aN aS s hs
  obtain ⟨y, hy, _, y1⟩ := val_alike bK bN bS t ht
  have e1 := hx.2 ha
  have e2 := hy.2 hb
  subst e1; subst e2
  have ka : 0 ≤ aK ∧ aK ≤ 5 := by rcases ha with h | h | h | h | h | h <;> omega
  have kb : 0 ≤ bK ∧ bK ≤ 5 := by rcases hb with h | h | h | h | h | h <;> omega
  simp only [impl_Compare.f]
  refine Ev.bind coll0 (Ev.pos (by trivial) (Ev.bind x1 (Ev.pos (by trivial) (Ev.bind y1 (Ev.succ ?_)))))
  simp only [impl_Compare.j0]
  refine Ev.neg (by simp) ?_
  unfold cmpR
  by_cases c0 : aK = 0 ∨ bK = 0
  · rw [if_pos c0]
    have hm : ∀ x : Int, 0 ≤ x → mn x 1 = if x = 0 then 0 else 1 := fun x hx => by unfold mn; split <;> split <;> omega
    have jx : ∀ y : Bool, y = true → Ev (fun k => impl_Compare.j1 k y (⟨#[]⟩ : ByteArray) aK aN aS s bK bN bS t) (sg (if aK = 0 then 0 else 1) (if bK = 0 then 0 else 1), 0) := by
      rintro y rfl
      refine Ev.succ ?_
      simp only [impl_Compare.j1]
      rw [hm aK ka.1, hm bK kb.1]
      exact Ev.pos (by trivial) (Ev.bndc (impl_sg _ _) (Ev.some' rfl))
    by_cases e : aK = 0
    · exact Ev.pos e (jx _ rfl)
    · exact Ev.neg e (jx _ (by rw [beq_iff_eq]; omega))
  · rw [if_neg c0]
    have hz : (bK == 0) = false := by rw [beq_eq_false_iff_ne]; omega
    rw [hz]
    refine Ev.neg (by omega) (Ev.succ ?_)
    simp only [impl_Compare.j1]
    refine Ev.neg (by simp) (Ev.bndc (impl_num aK aN aS s) ?_)
    have rest : ¬ (isNum aK = true ∧ isNum bK = true) → Ev (fun k => impl_Compare.j2 k false (⟨#[]⟩ : ByteArray) aK aN aS s bK bN bS t) (if aK = bK then (if aK = 4 then ((if lx (bnums s) (bnums t) = true then -1 else if lx (bnums t) (bnums s) = true then 1 else 0), 0) else (sg aN bN, 0)) else (0, 2)) := by
      intro hn
      refine Ev.succ ?_
      simp only [impl_Compare.j2]
      refine Ev.neg (by simp) ?_
      by_cases k1 : aK = bK
      · rw [if_pos k1]
        refine Ev.pos k1 ?_
        by_cases k4 : aK = 4
        · rw [if_pos k4]
          exact Ev.pos k4 (Ev.bind (weigh0 s) (Ev.bind (weigh0 t) (Ev.bndc (cmp_text s t) (Ev.some' rfl))))
        · rw [if_neg k4]
          exact Ev.neg k4 (Ev.bndc (impl_sg _ _) (Ev.some' rfl))
      · rw [if_neg k1]
        exact Ev.neg k1 (Ev.some' rfl)
    by_cases n1 : isNum aK = true
    · refine Ev.pos n1 (Ev.bndc (impl_num bK bN bS t) ?_)
      by_cases n2 : isNum bK = true
      · rw [if_pos ⟨n1, n2⟩, n2]
        have q1 : aK = 2 ∨ aK = 3 := by unfold isNum at n1; simpa using n1
        have q2 : bK = 2 ∨ bK = 3 := by unfold isNum at n2; simpa using n2
        refine Ev.succ ?_
        simp only [impl_Compare.j2]
        exact Ev.pos (by trivial) (Ev.bind (cmpNum_ok aK aN aS s bK bN bS t (drop_nok (nok ha q1)) (drop_nok (nok hb q2))) (Ev.some' rfl))
      · have hn : ¬ (isNum aK = true ∧ isNum bK = true) := fun h => n2 h.2
        rw [if_neg hn, show isNum bK = false by simpa using n2]
        exact rest hn
    · have hn : ¬ (isNum aK = true ∧ isNum bK = true) := fun h => n1 h.1
      rw [if_neg hn]
      exact Ev.neg n1 (rest hn)
end Go.Proofs.Ytjplogeifleojaa.QFnKeyOrderM
