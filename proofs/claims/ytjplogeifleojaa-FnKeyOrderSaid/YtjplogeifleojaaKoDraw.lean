/- Drawn rows of the reference: from a cursor in range each is there, its texts are no longer than 201 bytes, and the cursor stays in range. No condition. -/
import Derived.Test.YtjplogeifleojaaKoCur
namespace Go.Proofs.Ytjplogeifleojaa.QFnKeyOrderD
set_option linter.unusedVariables false
set_option linter.unusedSimpArgs false
open Go.RowKit Go.Proofs.Ytjplogeifleojaa.QFnKeyOrder Go.Proofs.YtjplogeifleojaaW.PrintWords Go.Proofs.YtjplogeifleojaaW.PrintLast Go.Proofs.YtjplogeifleojaaW.PrintMore Go.Proofs.YtjplogeifleojaaU Go.Proofs.Ytjplogeifleojaa.QFnKeyOrderR
/-! ### a text -/
set_option maxRecDepth 100000 in
theorem text0 {c : List Int} {a s : Int} (d : Nat) : ∀ t : ByteArray, t.size + d = 200 → ∃ r : ByteArray, Ev (fun k => spec_l01DrawText.l0 k t c a s) (r, a, s) ∧ r.size ≤ 200 := by
  induction d with
  | zero =>
    intro t hd
    refine ⟨t.extract 0 200, Ev.succ ?_, by rw [ByteArray.size_extract]; omega⟩
    show Ev (fun k => if (t.size : Int) < 200 then (if t.size + 1 ≤ 9223372036854775807 then (spec_l01DrawText.l0 k (t ++ (⟨#[113]⟩ : ByteArray)) c a s) else (none)) else (if (0 : Int) ≤ 200 then (if 200 ≤ (t.size : Int) then (some (t.extract 0 200, a, s)) else (none)) else (none))) _
    exact Ev.neg (by omega) (Ev.pos (by omega) (Ev.pos (by omega) (Ev.some' rfl)))
  | succ d ih =>
    intro t hd
    have h1 : (t ++ (⟨#[113]⟩ : ByteArray)).size = t.size + 1 := by rw [ByteArray.size_append]; rfl
    obtain ⟨r, e, z⟩ := ih (t ++ (⟨#[113]⟩ : ByteArray)) (by omega)
    refine ⟨r, Ev.succ ?_, z⟩
    show Ev (fun k => if (t.size : Int) < 200 then (if t.size + 1 ≤ 9223372036854775807 then (spec_l01DrawText.l0 k (t ++ (⟨#[113]⟩ : ByteArray)) c a s) else (none)) else (if (0 : Int) ≤ 200 then (if 200 ≤ (t.size : Int) then (some (t.extract 0 200, a, s)) else (none)) else (none))) _
    exact Ev.pos (by omega) (Ev.pos (by omega) e)
theorem rdOf_size (l : List ByteArray) (h : ∀ x ∈ l, x.size ≤ 200) (i : Int) : (rdOf ByteArray.empty l i).size ≤ 200 := by
  unfold rdOf
  rw [List.getD_eq_getElem?_getD]
  cases e : l[i.toNat]? with
  | none => exact Nat.le_trans (Nat.le_of_eq (rfl : ByteArray.empty.size = 0)) (Nat.zero_le 200)
  | some x => exact h x (List.mem_of_getElem? e)
theorem text_ok {c : List Int} {a s : Int} (h : Cur c a s) (ha : a ≤ 800000) : ∃ t a' s', Ev (fun k => spec_l01DrawText.f k c a s) (t, a', s') ∧ Cur c a' s' ∧ a' ≤ a + 4 ∧ t.size ≤ 200 := by
  simp only [spec_l01DrawText.f]
  have hw : ∀ (l : List ByteArray), (∀ x ∈ l, x.size ≤ 200) → l.length = 20 → ∃ t a' s', Ev (fun k => (some l).bind fun y242 => ((spec_l01Cur_pick.f c a s (y242.length : Int)).bind fun bt245 => (if 0 ≤ bt245.1 then (if bt245.1 < (y242.length : Int) then ((spec_l01Cur_pick.f c bt245.2.1 bt245.2.2 40).bind fun bt249 => (if bt249.1 = 0 then (spec_l01DrawText.l0 k (rdOf ByteArray.empty y242 bt245.1) c bt249.2.1 bt249.2.2) else (some (rdOf ByteArray.empty y242 bt245.1, bt249.2.1, bt249.2.2)))) else (none)) else (none)))) (t, a', s') ∧ Cur c a' s' ∧ a' ≤ a + 4 ∧ t.size ≤ 200 := by
    intro l hl hn
    obtain ⟨v, a1, s1, e1, c1, l1, p1, _, q1, _⟩ := pick_ok h (by omega) (l.length : Int)
    obtain ⟨v2, a2, s2, e2, c2, l2, p2, _, q2, _⟩ := pick_ok c1 (by omega) 40
    have b1 := q1 (by omega)
    by_cases k : v2 = 0
    · obtain ⟨r, e, z⟩ := text0 (c := c) (a := a2) (s := s2) (200 - (rdOf ByteArray.empty l v).size) (rdOf ByteArray.empty l v) (by have := rdOf_size l hl v; omega)
      exact ⟨r, a2, s2, Ev.bndc (b := l) rfl (Ev.bndc e1 (Ev.pos p1 (Ev.pos b1 (Ev.bndc e2 (Ev.pos k e))))), c2, by omega, z⟩
    · exact ⟨_, a2, s2, Ev.bndc (b := l) rfl (Ev.bndc e1 (Ev.pos p1 (Ev.pos b1 (Ev.bndc e2 (Ev.neg k (Ev.some' rfl)))))), c2, (by (try dsimp only); omega), rdOf_size l hl v⟩
  exact hw _ (by decide) rfl
/-! ### a number with places -/
theorem dec1 (d : Nat) : ∀ n s : Int, s ≤ d → -1000 ≤ s → s ≤ 1000 → ∃ x1 x2 x3 x4 x5, Ev (fun k => spec_l01Decimal.l1 k n s) (x1, x2, x3, x4, x5) ∧ x4.size = 0 := by
  have stop : ∀ n s : Int, (¬ s > 0 ∨ Int.tmod n 10 ≠ 0) → ∃ x1 x2 x3 x4 x5, Ev (fun k => spec_l01Decimal.l1 k n s) (x1, x2, x3, x4, x5) ∧ x4.size = 0 := by
    intro n s h
    by_cases c1 : n > 1000000000
    · refine ⟨_, _, _, _, _, Ev.succ (r := (0, 0, 0, (⟨#[]⟩ : ByteArray), 3)) ?_, rfl⟩
      simp only [spec_l01Decimal.l1]
      by_cases c : s > 0
      · exact Ev.pos c (Ev.neg (h.resolve_left (fun g => g c)) (Ev.pos c1 (Ev.some' rfl)))
      · exact Ev.neg c (Ev.pos c1 (Ev.some' rfl))
    · by_cases c2 : n < -1000000000
      · refine ⟨_, _, _, _, _, Ev.succ (r := (0, 0, 0, (⟨#[]⟩ : ByteArray), 3)) ?_, rfl⟩
        simp only [spec_l01Decimal.l1]
        by_cases c : s > 0
        · exact Ev.pos c (Ev.neg (h.resolve_left (fun g => g c)) (Ev.neg c1 (Ev.pos c2 (Ev.some' rfl))))
        · exact Ev.neg c (Ev.neg c1 (Ev.pos c2 (Ev.some' rfl)))
      · refine ⟨_, _, _, _, _, Ev.succ (r := (3, n, s, (⟨#[]⟩ : ByteArray), 0)) ?_, rfl⟩
        simp only [spec_l01Decimal.l1]
        by_cases c : s > 0
        · exact Ev.pos c (Ev.neg (h.resolve_left (fun g => g c)) (Ev.neg c1 (Ev.neg c2 (Ev.some' rfl))))
        · exact Ev.neg c (Ev.neg c1 (Ev.neg c2 (Ev.some' rfl)))
  induction d with
  | zero => intro n s h h0 h9; exact stop n s (.inl (by omega))
  | succ d ih =>
    intro n s h h0 h9
    by_cases c : s > 0
    · by_cases c2 : Int.tmod n 10 = 0
      · obtain ⟨x1, x2, x3, x4, x5, e, z⟩ := ih (wrap64 (Int.tdiv n 10)) (wrap64 (s - 1)) (by rw [wrap_in _ (by omega) (by omega)]; omega) (by rw [wrap_in _ (by omega) (by omega)]; omega) (by rw [wrap_in _ (by omega) (by omega)]; omega)
        refine ⟨x1, x2, x3, x4, x5, Ev.succ ?_, z⟩
        simp only [spec_l01Decimal.l1]
        exact Ev.pos c (Ev.pos c2 e)
      · exact stop n s (.inr c2)
    · exact stop n s (.inl c)
theorem dec_ok (n s : Int) (h0 : 0 ≤ s) (h1 : s ≤ 6) : ∃ x1 x2 x3 x4 x5, Ev (fun k => spec_l01Decimal.f k n s) (x1, x2, x3, x4, x5) ∧ x4.size = 0 := by
  obtain ⟨x1, x2, x3, x4, x5, e, z⟩ := dec1 6 n s h1 (by omega) (by omega)
  refine ⟨x1, x2, x3, x4, x5, ?_, z⟩
  simp only [spec_l01Decimal.f]
  refine Ev.succ ?_
  simp only [spec_l01Decimal.l0]
  exact Ev.neg (by omega) e
/-! ### a value -/
theorem kind_ok {c : List Int} {a s : Int} (h : Cur c a s) (ha : a ≤ 700000) (K : Int) : ∃ x1 x2 x3 x4 a' s', Ev (fun k => spec_l01DrawKind.f k c a s K) (x1, x2, x3, x4, a', s') ∧ Cur c a' s' ∧ a' ≤ a + 10 ∧ x4.size ≤ 200 := by
  have z0 : (⟨#[]⟩ : ByteArray).size ≤ 200 := by show (0 : Nat) ≤ 200; omega
  simp only [spec_l01DrawKind.f]
  by_cases k1 : K = 1
  · obtain ⟨v, a1, s1, e1, c1, l1, p1, _, q1, _⟩ := pick_ok h (by omega) 2
    by_cases b : (v == 1) = true
    · exact ⟨_, _, _, _, _, _, Ev.pos k1 (Ev.bndc e1 (Ev.bndc (b := (1, 1, 0, (⟨#[]⟩ : ByteArray))) (by unfold spec_l01Truth.f; rw [if_pos b]) (Ev.some' rfl))), c1, (by (try dsimp only); omega), z0⟩
    · exact ⟨_, _, _, _, _, _, Ev.pos k1 (Ev.bndc e1 (Ev.bndc (b := (1, 0, 0, (⟨#[]⟩ : ByteArray))) (by unfold spec_l01Truth.f; rw [if_neg b]) (Ev.some' rfl))), c1, (by (try dsimp only); omega), z0⟩
  by_cases k2 : K = 2
  · obtain ⟨v, a1, s1, e1, c1, l1, p1, _, q1, _⟩ := pick_ok h (by omega) 21
    obtain ⟨v2, a2, s2, e2, c2, l2, p2, _, q2, _⟩ := pick_ok c1 (by omega) 12
    by_cases b : v2 = 0
    · obtain ⟨v3, a3, s3, e3, c3, l3, p3, _, q3, _⟩ := pick_ok c2 (by omega) 60000
      obtain ⟨v4, a4, s4, e4, c4, l4, p4, _, q4, _⟩ := pick_ok c3 (by omega) 3
      exact ⟨_, _, _, _, _, _, Ev.neg k1 (Ev.pos k2 (Ev.bndc e1 (Ev.bndc e2 (Ev.pos b (Ev.bndc e3 (Ev.bndc e4 (Ev.bndc rfl (Ev.some' rfl)))))))), c4, (by (try dsimp only); omega), z0⟩
    · by_cases b1 : v2 = 1
      · obtain ⟨v3, a3, s3, e3, c3, l3, p3, _, q3, _⟩ := pick_ok c2 (by omega) 6
        exact ⟨_, _, _, _, _, _, Ev.neg k1 (Ev.pos k2 (Ev.bndc e1 (Ev.bndc e2 (Ev.neg b (Ev.pos b1 (Ev.bndc rfl (Ev.bndc e3 (Ev.pos p3 (Ev.pos (q3 (by omega)) (Ev.bndc rfl (Ev.some' rfl))))))))))), c3, (by (try dsimp only); omega), z0⟩
      · exact ⟨_, _, _, _, _, _, Ev.neg k1 (Ev.pos k2 (Ev.bndc e1 (Ev.bndc e2 (Ev.neg b (Ev.neg b1 (Ev.bndc rfl (Ev.some' rfl))))))), c2, (by (try dsimp only); omega), z0⟩
  by_cases k3 : K = 3
  · obtain ⟨v, a1, s1, e1, c1, l1, p1, _, q1, _⟩ := pick_ok h (by omega) 400
    obtain ⟨v2, a2, s2, e2, c2, l2, p2, _, q2, _⟩ := pick_ok c1 (by omega) 8
    by_cases b : v2 = 0
    · obtain ⟨v3, a3, s3, e3, c3, l3, p3, _, q3, _⟩ := pick_ok c2 (by omega) 7
      obtain ⟨v4, a4, s4, e4, c4, l4, p4, _, q4, _⟩ := pick_ok c3 (by omega) 7
      obtain ⟨x1, x2, x3, x4, x5, e5, z⟩ := dec_ok (rd [1000000000, (-1000000000), 999999999, (-999999999), 123456789, 333333, 1] v3) v4 p4 (by have := q4 (by omega); omega)
      exact ⟨_, _, _, _, _, _, Ev.neg k1 (Ev.neg k2 (Ev.pos k3 (Ev.bndc e1 (Ev.bndc e2 (Ev.pos b (Ev.bndc rfl (Ev.bndc e3 (Ev.pos p3 (Ev.pos (q3 (by omega)) (Ev.bndc e4 (Ev.bind e5 (Ev.some' rfl)))))))))))), c4, (by (try dsimp only); omega), (by show x4.size ≤ 200; omega)⟩
    · obtain ⟨v4, a4, s4, e4, c4, l4, p4, _, q4, _⟩ := pick_ok c2 (by omega) 7
      obtain ⟨x1, x2, x3, x4, x5, e5, z⟩ := dec_ok (wrap64 (v - 200)) v4 p4 (by have := q4 (by omega); omega)
      exact ⟨_, _, _, _, _, _, Ev.neg k1 (Ev.neg k2 (Ev.pos k3 (Ev.bndc e1 (Ev.bndc e2 (Ev.neg b (Ev.bndc e4 (Ev.bind e5 (Ev.some' rfl)))))))), c4, (by (try dsimp only); omega), (by show x4.size ≤ 200; omega)⟩
  by_cases k4 : K = 4
  · obtain ⟨t, a1, s1, e1, c1, l1, z⟩ := text_ok h (by omega)
    exact ⟨_, _, _, _, _, _, Ev.neg k1 (Ev.neg k2 (Ev.neg k3 (Ev.pos k4 (Ev.bind e1 (Ev.bndc rfl (Ev.some' rfl)))))), c1, (by (try dsimp only); omega), z⟩
  by_cases k5 : K = 5
  · obtain ⟨v, a1, s1, e1, c1, l1, p1, _, q1, _⟩ := pick_ok h (by omega) 1000
    obtain ⟨v2, a2, s2, e2, c2, l2, p2, _, q2, _⟩ := pick_ok c1 (by omega) 6
    by_cases b : v2 = 0
    · obtain ⟨v3, a3, s3, e3, c3, l3, p3, _, q3, _⟩ := pick_ok c2 (by omega) 60000
      by_cases g : wrap64 (v3 * 60) > 3652058
      · exact ⟨_, _, _, _, _, _, Ev.neg k1 (Ev.neg k2 (Ev.neg k3 (Ev.neg k4 (Ev.pos k5 (Ev.bndc e1 (Ev.bndc e2 (Ev.pos b (Ev.bndc e3 (Ev.pos g (Ev.some' rfl)))))))))), c3, (by (try dsimp only); omega), z0⟩
      · exact ⟨_, _, _, _, _, _, Ev.neg k1 (Ev.neg k2 (Ev.neg k3 (Ev.neg k4 (Ev.pos k5 (Ev.bndc e1 (Ev.bndc e2 (Ev.pos b (Ev.bndc e3 (Ev.neg g (Ev.some' rfl)))))))))), c3, (by (try dsimp only); omega), z0⟩
    · by_cases b1 : v2 = 1
      · obtain ⟨v3, a3, s3, e3, c3, l3, p3, _, q3, _⟩ := pick_ok c2 (by omega) 7
        by_cases g : rd [0, 3652058, 58, 59, 60, 36523, 146096] v3 > 3652058
        · exact ⟨_, _, _, _, _, _, Ev.neg k1 (Ev.neg k2 (Ev.neg k3 (Ev.neg k4 (Ev.pos k5 (Ev.bndc e1 (Ev.bndc e2 (Ev.neg b (Ev.pos b1 (Ev.bndc rfl (Ev.bndc e3 (Ev.pos p3 (Ev.pos (q3 (by omega)) (Ev.pos g (Ev.some' rfl)))))))))))))), c3, (by (try dsimp only); omega), z0⟩
        · exact ⟨_, _, _, _, _, _, Ev.neg k1 (Ev.neg k2 (Ev.neg k3 (Ev.neg k4 (Ev.pos k5 (Ev.bndc e1 (Ev.bndc e2 (Ev.neg b (Ev.pos b1 (Ev.bndc rfl (Ev.bndc e3 (Ev.pos p3 (Ev.pos (q3 (by omega)) (Ev.neg g (Ev.some' rfl)))))))))))))), c3, (by (try dsimp only); omega), z0⟩
      · by_cases g : wrap64 (738000 + v) > 3652058
        · exact ⟨_, _, _, _, _, _, Ev.neg k1 (Ev.neg k2 (Ev.neg k3 (Ev.neg k4 (Ev.pos k5 (Ev.bndc e1 (Ev.bndc e2 (Ev.neg b (Ev.neg b1 (Ev.pos g (Ev.some' rfl)))))))))), c2, (by (try dsimp only); omega), z0⟩
        · exact ⟨_, _, _, _, _, _, Ev.neg k1 (Ev.neg k2 (Ev.neg k3 (Ev.neg k4 (Ev.pos k5 (Ev.bndc e1 (Ev.bndc e2 (Ev.neg b (Ev.neg b1 (Ev.neg g (Ev.some' rfl)))))))))), c2, (by (try dsimp only); omega), z0⟩
  exact ⟨_, _, _, _, _, _, Ev.neg k1 (Ev.neg k2 (Ev.neg k3 (Ev.neg k4 (Ev.neg k5 (Ev.some' rfl))))), h, (by (try dsimp only); omega), z0⟩
theorem value_ok {c : List Int} {a s : Int} (h : Cur c a s) (ha : a ≤ 600000) : ∃ x1 x2 x3 x4 a' s', Ev (fun k => spec_l01DrawValue.f k c a s) (x1, x2, x3, x4, a', s') ∧ Cur c a' s' ∧ a' ≤ a + 20 ∧ x4.size ≤ 201 := by
  simp only [spec_l01DrawValue.f]
  obtain ⟨v, a1, s1, e1, c1, l1, p1, _, q1, _⟩ := pick_ok h (by omega) 10
  obtain ⟨y1, y2, y3, y4, a2, s2, e2, c2, l2, z2⟩ := kind_ok c1 (by omega) (rd [1, 2, 2, 2, 3, 3, 4, 4, 5, 0] v)
  obtain ⟨v3, a3, s3, e3, c3, l3, p3, _, q3, _⟩ := pick_ok c2 (by omega) 12
  have b1 := q1 (by omega)
  by_cases k : v3 = 0
  · obtain ⟨v4, a4, s4, e4, c4, l4, p4, _, q4, _⟩ := pick_ok c3 (by omega) 5
    by_cases g0 : v4 = 0
    · obtain ⟨v5, a5, s5, e5, c5, l5, p5, _, q5, _⟩ := pick_ok c4 (by omega) 9
      exact ⟨_, _, _, _, _, _, Ev.bndc rfl (Ev.bndc e1 (Ev.pos p1 (Ev.pos b1 (Ev.bind e2 (Ev.bndc e3 (Ev.pos k (Ev.bndc e4 (Ev.pos g0 (Ev.bndc e5 (Ev.some' rfl)))))))))), c5, (by (try dsimp only); omega), (by show y4.size ≤ 201; omega)⟩
    by_cases g1 : v4 = 1
    · exact ⟨_, _, _, _, _, _, Ev.bndc rfl (Ev.bndc e1 (Ev.pos p1 (Ev.pos b1 (Ev.bind e2 (Ev.bndc e3 (Ev.pos k (Ev.bndc e4 (Ev.neg g0 (Ev.pos g1 (Ev.some' rfl)))))))))), c4, (by (try dsimp only); omega), (by show y4.size ≤ 201; omega)⟩
    by_cases g2 : v4 = 2
    · exact ⟨_, _, _, _, _, _, Ev.bndc rfl (Ev.bndc e1 (Ev.pos p1 (Ev.pos b1 (Ev.bind e2 (Ev.bndc e3 (Ev.pos k (Ev.bndc e4 (Ev.neg g0 (Ev.neg g1 (Ev.pos g2 (Ev.some' rfl))))))))))), c4, (by (try dsimp only); omega), (by show y4.size ≤ 201; omega)⟩
    by_cases g3 : v4 = 3
    · have hz : (y4 ++ (⟨#[7]⟩ : ByteArray)).size = y4.size + 1 := by rw [ByteArray.size_append]; rfl
      exact ⟨_, _, _, _, _, _, Ev.bndc rfl (Ev.bndc e1 (Ev.pos p1 (Ev.pos b1 (Ev.bind e2 (Ev.bndc e3 (Ev.pos k (Ev.bndc e4 (Ev.neg g0 (Ev.neg g1 (Ev.neg g2 (Ev.pos g3 (Ev.pos (show y4.size + 1 ≤ 9223372036854775807 by omega) (Ev.some' rfl))))))))))))), c4, (by (try dsimp only); omega), (by show (y4 ++ (⟨#[7]⟩ : ByteArray)).size ≤ 201; omega)⟩
    by_cases g4 : v4 = 4
    · exact ⟨_, _, _, _, _, _, Ev.bndc rfl (Ev.bndc e1 (Ev.pos p1 (Ev.pos b1 (Ev.bind e2 (Ev.bndc e3 (Ev.pos k (Ev.bndc e4 (Ev.neg g0 (Ev.neg g1 (Ev.neg g2 (Ev.neg g3 (Ev.pos g4 (Ev.some' rfl))))))))))))), c4, (by (try dsimp only); omega), (by show y4.size ≤ 201; omega)⟩
    exact ⟨_, _, _, _, _, _, Ev.bndc rfl (Ev.bndc e1 (Ev.pos p1 (Ev.pos b1 (Ev.bind e2 (Ev.bndc e3 (Ev.pos k (Ev.bndc e4 (Ev.neg g0 (Ev.neg g1 (Ev.neg g2 (Ev.neg g3 (Ev.neg g4 (Ev.some' rfl))))))))))))), c4, (by (try dsimp only); omega), (by show y4.size ≤ 201; omega)⟩
  · exact ⟨_, _, _, _, _, _, Ev.bndc rfl (Ev.bndc e1 (Ev.pos p1 (Ev.pos b1 (Ev.bind e2 (Ev.bndc e3 (Ev.neg k (Ev.some' rfl))))))), c3, (by (try dsimp only); omega), (by show y4.size ≤ 201; omega)⟩
/-! ### a row -/
theorem row0 {c : List Int} (d : Nat) : ∀ (n i : Int) (xs : List S42) (a s : Int), Cur c a s → a ≤ 600000 - 20 * d → 0 ≤ i → i ≤ n → n ≤ 1000 → n - i = d → (xs.length : Int) ≤ i → (∀ x ∈ xs, x.f3.size ≤ 201) →
    ∃ r a' s', Ev (fun k => spec_l01DrawRow.l0 k n xs i c a s) (r, a', s') ∧ Cur c a' s' ∧ a' ≤ a + 20 * d ∧ (∀ x ∈ r, x.f3.size ≤ 201) ∧ (r.length : Int) ≤ xs.length + d := by
  induction d with
  | zero =>
    intro n i xs a s h ha h0 h1 hn hd hl hs
    exact ⟨xs, a, s, Ev.succ (by simp only [spec_l01DrawRow.l0]; exact Ev.neg (by omega) (Ev.some' rfl)), h, by omega, hs, by omega⟩
  | succ d ih =>
    intro n i xs a s h ha h0 h1 hn hd hl hs
    obtain ⟨v, a1, s1, e1, c1, l1, p1, _, q1, _⟩ := pick_ok h (by have := h.a0; omega) 6
    obtain ⟨x1, x2, x3, x4, a2, s2, e2, c2, l2, z2⟩ := kind_ok c1 (by omega) v
    have hi : wrap64 (i + 1) = i + 1 := wrap_in _ (by omega) (by omega)
    obtain ⟨r, a', s', e, c', l', hr, hrl⟩ := ih n (i + 1) (xs ++ [(⟨x1, x2, x3, x4⟩ : S42)]) a2 s2 c2 (by omega) (by omega) (by omega) hn (by omega) (by rw [List.length_append]; simp; omega) (by
      intro x hx
      rcases List.mem_append.1 hx with hx | hx
      · exact hs x hx
      · rw [List.mem_singleton.1 hx]; show x4.size ≤ 201; omega)
    refine ⟨r, a', s', Ev.succ ?_, c', by omega, hr, by rw [List.length_append] at hrl; simp at hrl; omega⟩
    simp only [spec_l01DrawRow.l0, hi]
    exact Ev.pos (by omega) (Ev.bndc e1 (Ev.bind e2 (Ev.pos (by omega) e)))
theorem row_ok {c : List Int} {a s : Int} (h : Cur c a s) (ha : a ≤ 300000) (n : Int) (h0 : 0 ≤ n) (h1 : n ≤ 1000) :
    ∃ r a' s', Ev (fun k => spec_l01DrawRow.f k c a s n) (r, a', s') ∧ Cur c a' s' ∧ a' ≤ a + 20000 ∧ (∀ x ∈ r, x.f3.size ≤ 201) ∧ r.length ≤ 1000 := by
  obtain ⟨r, a', s', e, c', l', hr, hl⟩ := row0 (c := c) n.toNat n 0 [] a s h (by omega) (by omega) (by omega) h1 (by omega) (by simp) (by simp)
  exact ⟨r, a', s', by simp only [spec_l01DrawRow.f]; exact e, c', by omega, hr, by simp at hl; omega⟩
theorem keys_drawn {c : List Int} (hl : c.length ≤ 1048576) (hb : ∀ x ∈ c, (Lit.int .u8 x).wf = true) :
    ∃ r, Ev (fun k => spec_DrawKeyBytes.f k c) r ∧ (∀ x ∈ r, x.f3.size ≤ 201) ∧ r.length ≤ 1001 := by
  obtain ⟨e0, h0⟩ := cur_new hl hb
  obtain ⟨n, a1, s1, e1, h1, l1, p1, _, q1, _⟩ := pick_ok h0 (by omega) 5
  have b1 := q1 (by omega)
  obtain ⟨r, a2, s2, e2, h2, l2, z2, y2⟩ := row_ok h1 (by omega) n (by omega) (by omega)
  obtain ⟨v, a3, s3, e3, h3, l3, p3, _, q3, _⟩ := pick_ok h2 (by omega) 12
  have last : ∀ (xs : List S42) (a s : Int), Cur c a s → a ≤ 100000 → (∀ x ∈ xs, x.f3.size ≤ 201) → xs.length ≤ 1001 → ∃ r, Ev (fun k => spec_DrawKeyBytes.j0 k xs c a s) r ∧ (∀ x ∈ r, x.f3.size ≤ 201) ∧ r.length ≤ 1001 := by
    intro xs a s h ha hx hn
    obtain ⟨v4, a4, s4, e4, h4, l4, p4, _, q4, _⟩ := pick_ok h (by omega) 20
    by_cases k : v4 = 0
    · obtain ⟨v5, a5, s5, e5, h5, l5, p5, _, q5, _⟩ := pick_ok h4 (by omega) 2
      have b5 := q5 (by omega)
      obtain ⟨r, a6, s6, e6, h6, l6, z6, y6⟩ := row_ok h5 (by omega) (wrap64 (16 + v5)) (by rw [wrap_in _ (by omega) (by omega)]; omega) (by rw [wrap_in _ (by omega) (by omega)]; omega)
      exact ⟨r, Ev.succ (by simp only [spec_DrawKeyBytes.j0]; exact Ev.bndc e4 (Ev.pos k (Ev.bndc e5 (Ev.bind e6 (Ev.some' rfl))))), z6, by omega⟩
    · exact ⟨xs, Ev.succ (by simp only [spec_DrawKeyBytes.j0]; exact Ev.bndc e4 (Ev.neg k (Ev.some' rfl))), hx, hn⟩
  simp only [spec_DrawKeyBytes.f]
  by_cases k : v = 0
  · obtain ⟨u1, u2, u3, u4, a4, s4, e4, h4, l4, z4⟩ := value_ok h3 (by omega)
    obtain ⟨q, eq, zq, yq⟩ := last (r ++ [(⟨u1, u2, u3, u4⟩ : S42)]) a4 s4 h4 (by omega) (by
      intro x hx
      rcases List.mem_append.1 hx with hx | hx
      · exact z2 x hx
      · rw [List.mem_singleton.1 hx]; exact z4) (by rw [List.length_append]; simp; omega)
    exact ⟨q, Ev.bndc e0 (Ev.bndc e1 (Ev.bind e2 (Ev.bndc e3 (Ev.pos k (Ev.bind e4 (Ev.pos (show r.length < 3518437208883 by omega) eq)))))), zq, yq⟩
  · obtain ⟨q, eq, zq, yq⟩ := last r a3 s3 h3 (by omega) z2 (by omega)
    exact ⟨q, Ev.bndc e0 (Ev.bndc e1 (Ev.bind e2 (Ev.bndc e3 (Ev.neg k eq)))), zq, yq⟩
end Go.Proofs.Ytjplogeifleojaa.QFnKeyOrderD
