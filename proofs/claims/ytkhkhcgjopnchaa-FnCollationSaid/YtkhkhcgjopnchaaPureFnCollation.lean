/- Drawn texts stand in one order: the law on collations holds at every two drawn codes. No condition. -/
import Derived.Test.YtkhkhcgjopnchaaDraw
import Derived.Test.YtkhkhcgjopnchaaCmp
namespace Go.Proofs.Ytkhkhcgjopnchaa.Pure
set_option linter.unusedVariables false
set_option linter.unusedSimpArgs false
open Go.RowKit Go.Proofs.Ytkhkhcgjopnchaa.QFnCollation Go.Proofs.YtkhkhcgjopnchaaW.PrintWords Go.Proofs.YtkhkhcgjopnchaaW.PrintMore Go.Proofs.YtkhkhcgjopnchaaU Go.Proofs.Ytkhkhcgjopnchaa.QFnCollationR Go.Proofs.Ytkhkhcgjopnchaa.QFnCollationD Go.Proofs.Ytkhkhcgjopnchaa.QFnCollationV Go.Proofs.Ytkhkhcgjopnchaa.QFnCollationM
/-! ### the order of bytes -/
theorem less_asym : ∀ a b : List UInt8, Op.bytesLess a b = true → Op.bytesLess b a = false
  | [], [], h => by simp [Op.bytesLess] at h
  | _ :: _, [], h => by simp [Op.bytesLess] at h
  | [], _ :: _, _ => rfl
  | x :: a, y :: b, h => by
    simp only [Op.bytesLess, Bool.or_eq_true, Bool.and_eq_true, decide_eq_true_eq, beq_iff_eq] at h
    rcases h with h | ⟨rfl, h⟩
    · have h1 : ¬ y < x := fun g => absurd (UInt8.lt_trans h g) (UInt8.lt_irrefl x)
      have h2 : ¬ y = x := fun g => absurd (g ▸ h) (UInt8.lt_irrefl _)
      simp [Op.bytesLess, h1, h2]
    · simp [Op.bytesLess, UInt8.lt_irrefl, less_asym a b h]
theorem less_no : ∀ a b d : List UInt8, Op.bytesLess b a = false → Op.bytesLess d b = false → Op.bytesLess d a = false
  | [], _, [], _, _ => rfl
  | [], _, _ :: _, _, _ => rfl
  | x :: a, [], d, h, _ => by simp [Op.bytesLess] at h
  | x :: a, y :: b, [], _, h => by simp [Op.bytesLess] at h
  | x :: a, y :: b, z :: d, h1, h2 => by
    simp only [Op.bytesLess, Bool.or_eq_false_iff, Bool.and_eq_false_iff, decide_eq_false_iff_not, beq_eq_false_iff_ne] at h1 h2 ⊢
    obtain ⟨p1, q1⟩ := h1
    obtain ⟨p2, q2⟩ := h2
    have l1 := UInt8.not_lt.mp p1
    have l2 := UInt8.not_lt.mp p2
    refine ⟨UInt8.not_lt.mpr (UInt8.le_trans l1 l2), ?_⟩
    by_cases e : z = x
    · subst e
      have e2 : y = z := UInt8.le_antisymm l2 l1
      subst e2
      rcases q1 with q1 | q1
      · exact absurd rfl q1
      · rcases q2 with q2 | q2
        · exact absurd rfl q2
        · exact .inr (less_no a b d q1 q2)
    · exact .inl e
theorem cb_le (a b : List UInt8) : Go.Lib.compareBytes a b ≤ 0 ↔ Op.bytesLess b a = false := by
  rw [cmp_order]
  by_cases h : Op.bytesLess a b = true
  · rw [if_pos h]; exact ⟨fun _ => less_asym a b h, fun _ => by omega⟩
  · rw [if_neg h]
    by_cases g : Op.bytesLess b a = true
    · rw [if_pos g, g]; exact ⟨fun h => by omega, fun h => by simp at h⟩
    · rw [if_neg g]; exact ⟨fun _ => by simpa using g, fun _ => by omega⟩
theorem cb_ge (a b : List UInt8) : Go.Lib.compareBytes a b ≥ 0 ↔ Op.bytesLess a b = false := by
  rw [cmp_order]
  by_cases h : Op.bytesLess a b = true
  · rw [if_pos h, h]; exact ⟨fun h => by omega, fun h => by simp at h⟩
  · rw [if_neg h]
    refine ⟨fun _ => by simpa using h, fun _ => ?_⟩
    split <;> omega
theorem cb_trans (a b d : List UInt8) : (Go.Lib.compareBytes a b ≤ 0 → Go.Lib.compareBytes b d ≤ 0 → Go.Lib.compareBytes a d ≤ 0) ∧ (Go.Lib.compareBytes a b ≥ 0 → Go.Lib.compareBytes b d ≥ 0 → Go.Lib.compareBytes a d ≥ 0) :=
  ⟨fun h1 h2 => (cb_le _ _).2 (less_no a b d ((cb_le _ _).1 h1) ((cb_le _ _).1 h2)), fun h1 h2 => (cb_ge _ _).2 (less_no d b a ((cb_ge _ _).1 h2) ((cb_ge _ _).1 h1))⟩
/-! ### two texts -/
theorem ev_one {α : Type} {g : Nat → Option α} {a b : α} (h : Ev g a) (h' : Ev g b) : a = b := by
  obtain ⟨k, h1, h2⟩ := Ev.both h h'
  rw [h1] at h2
  exact Option.some.inj h2
theorem cmp_text (c : ByteArray) (aN aS : Int) (s : ByteArray) (bN bS : Int) (t : ByteArray) (hc : c.size ≤ 9223372036854775807) (hs : s.size ≤ 9223372036854775807) (ht : t.size ≤ 9223372036854775807) (wc : Wok c) (va : VOK 4 aN aS s) (vb : VOK 4 bN bS t) :
    ∃ u v, Ev (fun k => impl_weighed.f k c s) u ∧ Ev (fun k => impl_weighed.f k c t) v ∧ Ev (fun k => spec_Compare.f k c 4 aN aS s 4 bN bS t) (Go.Lib.compareBytes u.data.toList v.data.toList, 0) ∧ Ev (fun k => impl_Compare.f k c 4 aN aS s 4 bN bS t) (Go.Lib.compareBytes u.data.toList v.data.toList, 0) := by
  obtain ⟨p, hp, p1, p2⟩ := coll_alike c hc
  obtain ⟨x, hx, x1, x2⟩ := val_alike 4 aN aS s hs
  obtain ⟨y, hy, y1, y2⟩ := val_alike 4 bN bS t ht
  have e1 := hp.2 wc
  have e2 := hx.2 va
  have e3 := hy.2 vb
  subst e1; subst e2; subst e3
  obtain ⟨r, r1, r2, _, r4⟩ := cmp_valid c 4 aN aS s 4 bN bS t wc va vb
  obtain ⟨u, v, hu, hv, rfl⟩ := r4 rfl rfl
  refine ⟨u, v, hu, hv, ?_, ?_⟩
  · simp only [spec_Compare.f]; exact Ev.bind p1 (Ev.pos (by trivial) (Ev.bind x1 (Ev.pos (by trivial) (Ev.bind y1 (r1 _ rfl)))))
  · simp only [impl_Compare.f]; exact Ev.bind p2 (Ev.pos (by trivial) (Ev.bind x2 (Ev.pos (by trivial) (Ev.bind y2 (r2 _ rfl)))))
theorem tail (x y z : Int) (h1 : x ≤ 0 → y ≤ 0 → z ≤ 0) (h2 : x ≥ 0 → y ≥ 0 → z ≥ 0) :
    (if x ≤ 0 then (if y ≤ 0 then (if z > 0 then (some false) else (if x ≥ 0 then (if y ≥ 0 then (if z < 0 then (some false) else (if x = 0 then (if y = 0 then (some (!(z != 0))) else (some (!false))) else (some (!false)))) else (if x = 0 then (if y = 0 then (some (!(z != 0))) else (some (!false))) else (some (!false)))) else (if x = 0 then (if y = 0 then (some (!(z != 0))) else (some (!false))) else (some (!false))))) else (if x ≥ 0 then (if y ≥ 0 then (if z < 0 then (some false) else (if x = 0 then (if y = 0 then (some (!(z != 0))) else (some (!false))) else (some (!false)))) else (if x = 0 then (if y = 0 then (some (!(z != 0))) else (some (!false))) else (some (!false)))) else (if x = 0 then (if y = 0 then (some (!(z != 0))) else (some (!false))) else (some (!false))))) else (if x ≥ 0 then (if y ≥ 0 then (if z < 0 then (some false) else (if x = 0 then (if y = 0 then (some (!(z != 0))) else (some (!false))) else (some (!false)))) else (if x = 0 then (if y = 0 then (some (!(z != 0))) else (some (!false))) else (some (!false)))) else (if x = 0 then (if y = 0 then (some (!(z != 0))) else (some (!false))) else (some (!false))))) = some true := by
  have e : ∀ q : Bool, q = true → some q = some true := fun q h => by rw [h]
  repeat' split
  all_goals first | rfl | (exfalso; omega) | (refine e _ ?_; have hz : z = 0 := (by omega); simp [hz])
/-! ### the law -/
theorem FnCollation (l0 : List Int) (l1 : List Int) (o0 : l0.length ≤ 9223372036854775807 ∧ ∀ x ∈ l0, (Lit.int .u8 x).wf = true) (o1 : l1.length ≤ 9223372036854775807 ∧ ∀ x ∈ l1, (Lit.int .u8 x).wf = true) : ∃ k, laws_FnCollation.f k l0 l1 = some true := by
  refine Ev.at ?_
  simp only [laws_FnCollation.f, laws_big.f, Option.bind_some]
  have jt : ∀ b : Bool, b = true → Ev (fun k => laws_FnCollation.j0 k l0 l1 b) true := by
    rintro b rfl
    exact Ev.succ (by simp only [laws_FnCollation.j0]; exact Ev.pos (by trivial) (Ev.some' rfl))
  by_cases b0 : (l0.length : Int) > 1048576
  · exact Ev.pos (by simpa using b0) (jt _ rfl)
  refine Ev.neg (by simpa using b0) ?_
  by_cases b1 : (l1.length : Int) > 1048576
  · exact jt _ (by simpa using b1)
  rw [decide_eq_false b1]
  obtain ⟨c, aK, aN, aS, s, bK, bN, bS, t, d0, zc, zs, zt⟩ := compare_ok (c := l0) (by omega) o0.2
  obtain ⟨c', dK, dN, dS, u, eK, eN, eS, v, d1, _, zu, _⟩ := compare_ok (c := l1) (by omega) o1.2
  obtain ⟨p, hp, p1, p2⟩ := coll_alike c (by omega)
  have yes : ∀ b : Bool, b = true → Ev (fun k => laws_FnCollation.j1 k b c aK aN aS s bK bN bS t dK dN dS u) true := by
    rintro b rfl
    refine Ev.succ ?_
    simp only [laws_FnCollation.j1]
    exact Ev.pos (by trivial) (Ev.bind p2 (Ev.bind p1 (Ev.some' (by simp))))
  refine Ev.succ ?_
  simp only [laws_FnCollation.j0]
  refine Ev.neg (by simp) (Ev.bind d0 (Ev.bind d1 (Ev.bind p1 ?_)))
  cases p with
  | false => exact Ev.neg (by simp) (yes _ rfl)
  | true =>
  refine Ev.pos (by trivial) ?_
  by_cases k1 : aK = 4
  · by_cases k2 : bK = 4
    · by_cases k3 : dK = 4
      · subst k1; subst k2; subst k3
        obtain ⟨x, hx, x1, _⟩ := val_alike 4 aN aS s (by omega)
        obtain ⟨y, hy, y1, _⟩ := val_alike 4 bN bS t (by omega)
        obtain ⟨z, hz, z1, _⟩ := val_alike 4 dN dS u (by omega)
        refine Ev.pos rfl (Ev.pos rfl (Ev.pos rfl (Ev.bind x1 ?_)))
        cases x with
        | false => exact Ev.neg (by simp) (yes _ rfl)
        | true =>
        refine Ev.pos (by trivial) (Ev.bind y1 ?_)
        cases y with
        | false => exact Ev.neg (by simp) (yes _ rfl)
        | true =>
        refine Ev.pos (by trivial) (Ev.bind z1 ?_)
        cases z with
        | false => exact yes _ rfl
        | true =>
        obtain ⟨f, g, w1, w2, q1, q2⟩ := cmp_text c aN aS s bN bS t (by omega) (by omega) (by omega) (hp.1 rfl) (hx.1 rfl) (hy.1 rfl)
        obtain ⟨g', h, w3, w4, _, q3⟩ := cmp_text c bN bS t dN dS u (by omega) (by omega) (by omega) (hp.1 rfl) (hy.1 rfl) (hz.1 rfl)
        obtain ⟨f', h', w5, w6, _, q4⟩ := cmp_text c aN aS s dN dS u (by omega) (by omega) (by omega) (hp.1 rfl) (hx.1 rfl) (hz.1 rfl)
        obtain rfl := ev_one w2 w3
        obtain rfl := ev_one w1 w5
        obtain rfl := ev_one w4 w6
        obtain ⟨m1, m2⟩ := cb_trans f.data.toList g.data.toList h.data.toList
        refine Ev.succ ?_
        simp only [laws_FnCollation.j1]
        refine Ev.neg (by simp) (Ev.bind q2 (Ev.bind q3 (Ev.bind q4 (Ev.bind q1 (Ev.pos rfl (Ev.pos rfl (Ev.pos rfl (Ev.pos rfl ?_))))))))
        have T := tail _ _ _ m1 m2
        simp only [T]
        exact Ev.some' rfl
      · exact Ev.pos k1 (Ev.pos k2 (Ev.neg k3 (yes _ rfl)))
    · exact Ev.pos k1 (Ev.neg k2 (yes _ rfl))
  · exact Ev.neg k1 (yes _ rfl)
end Go.Proofs.Ytkhkhcgjopnchaa.Pure
