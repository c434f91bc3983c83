/- Drawn records that are packed, cut anywhere, are scanned as the first ones of them; with one bit turned in the last one's sum, as all but the last one: at every two codes. No condition. -/
import Derived.Test.YtnicllekmkkhlaaScanFnLogCut
import Derived.Test.YtnicllekmkkhlaaCurFnLogCut
namespace Go.Proofs.Ytnicllekmkkhlaa.Pure
set_option linter.unusedVariables false
set_option linter.unusedSimpArgs false
open Go.RowKit Go.Proofs.Ytnicllekmkkhlaa.QFnLogCut Go.Proofs.YtnicllekmkkhlaaW.PrintWords Go.Proofs.YtnicllekmkkhlaaW.PrintLast Go.Proofs.YtnicllekmkkhlaaW.PrintMore Go.Proofs.YtnicllekmkkhlaaU Go.Proofs.Ytnicllekmkkhlaa.QFnLogCutR Go.Proofs.Ytnicllekmkkhlaa.QFnLogCutB
/-! ### what is drawn -/
theorem grow (c : List Int) (a s : Int) (d : Nat) : ∀ (x : ByteArray), 200 - x.size = d → ∃ t, Ev (fun k => spec_l01DrawText.l0 k x c a s) (t, a, s) := by
  induction d with
  | zero =>
    intro x hx
    refine ⟨x.extract 0 200, Ev.succ ?_⟩
    simp only [spec_l01DrawText.l0]
    exact Ev.neg (by omega) (Ev.pos (by omega) (Ev.pos (by omega) (Ev.some' rfl)))
  | succ d ih =>
    intro x hx
    obtain ⟨t, ht⟩ := ih (x ++ (⟨#[113]⟩ : ByteArray)) (by rw [ByteArray.size_append]; show 200 - (x.size + 1) = d; omega)
    refine ⟨t, Ev.succ ?_⟩
    simp only [spec_l01DrawText.l0]
    exact Ev.pos (by omega) (Ev.pos (by omega) ht)
theorem text_ok {c : List Int} {a s : Int} (h : Cur c a s) (ha : a ≤ 1000000000) : ∃ t a' s', Ev (fun k => spec_l01DrawText.f k c a s) (t, a', s') ∧ Cur c a' s' ∧ a' ≤ a + 4 := by
  simp only [spec_l01DrawText.f, Option.bind_some]
  obtain ⟨v, a1, s1, e1, h1, b1, v0, _, v1, _⟩ := pick_ok h (by omega) 20
  have v2 := v1 (by omega)
  obtain ⟨u, a2, s2, e2, h2, b2, u0, _, _, _⟩ := pick_ok h1 (by omega) 40
  by_cases c0 : u = 0
  · obtain ⟨t, ht⟩ := grow c a2 s2 _ (rdOf ByteArray.empty _ v) rfl
    exact ⟨t, a2, s2, Ev.bndc e1 (Ev.pos v0 (Ev.pos v2 (Ev.bndc e2 (Ev.pos c0 ht)))), h2, by omega⟩
  · exact ⟨_, a2, s2, Ev.bndc e1 (Ev.pos v0 (Ev.pos v2 (Ev.bndc e2 (Ev.neg c0 (Ev.some' rfl))))), h2, by omega⟩
theorem rec_end {c : List Int} {a s : Int} (h : Cur c a s) (ha : a ≤ 1000000000) (K : Int) (t : ByteArray) : ∃ K' t' a' s', Ev (fun k => spec_l04DrawRec.j0 k c a s K t) (K', t', a', s') ∧ Cur c a' s' ∧ a' ≤ a + 4 := by
  obtain ⟨v, a1, s1, e1, h1, b1, _, _, _, _⟩ := pick_ok h (by omega) 60
  by_cases c0 : v = 0
  · obtain ⟨u, a2, s2, e2, h2, b2, u0, _, u1, _⟩ := pick_ok h1 (by omega) 2
    have u2 := u1 (by omega)
    have w := wrap_in (2000 + u) (by omega) (by omega)
    exact ⟨_, _, a2, s2, Ev.succ (by simp only [spec_l04DrawRec.j0]; exact Ev.bndc e1 (Ev.pos c0 (Ev.bndc e2 (Ev.pos (by rw [w]; omega) (Ev.pos (by rw [w]; omega) (Ev.some' rfl)))))), h2, by omega⟩
  · refine ⟨K, t, a1, s1, Ev.succ ?_, h1, by omega⟩
    simp only [spec_l04DrawRec.j0]
    exact Ev.bndc e1 (Ev.neg c0 (Ev.some' rfl))
theorem rec_ok {c : List Int} {a s : Int} (h : Cur c a s) (ha : a ≤ 900000000) : ∃ K t a' s', Ev (fun k => spec_l04DrawRec.f k c a s) (K, t, a', s') ∧ Cur c a' s' ∧ a' ≤ a + 14 := by
  simp only [spec_l04DrawRec.f, Option.bind_some]
  obtain ⟨v, a1, s1, e1, h1, b1, _, _, _, _⟩ := pick_ok h (by omega) 5
  obtain ⟨t, a2, s2, e2, h2, b2⟩ := text_ok h1 (by omega)
  obtain ⟨u, a3, s3, e3, h3, b3, _, _, _, _⟩ := pick_ok h2 (by omega) 40
  by_cases c0 : u = 0
  · obtain ⟨z, a4, s4, e4, h4, b4, z0, _, z1, _⟩ := pick_ok h3 (by omega) 4
    have z2 := z1 (by omega)
    obtain ⟨K, t', a5, s5, e5, h5, b5⟩ := rec_end h4 (by omega) (rd [0, 255, 256, (-1)] z) t
    exact ⟨K, t', a5, s5, Ev.bndc e1 (Ev.bind e2 (Ev.bndc e3 (Ev.pos c0 (Ev.bndc e4 (Ev.pos z0 (Ev.pos z2 e5)))))), h5, by omega⟩
  · obtain ⟨K, t', a5, s5, e5, h5, b5⟩ := rec_end h3 (by omega) (wrap64 (1 + v)) t
    exact ⟨K, t', a5, s5, Ev.bndc e1 (Ev.bind e2 (Ev.bndc e3 (Ev.neg c0 e5))), h5, by omega⟩
theorem recs_ok {c : List Int} (d : Nat) : ∀ (acc : List S45) (a s : Int), Cur c a s → a + 14 * (d : Int) ≤ 800000000 → acc.length + d ≤ 1000 → ∃ r a' s', Ev (fun k => spec_l04DrawRecs.l0 k acc (d : Int) c a s) (r, a', s') := by
  induction d with
  | zero =>
    intro acc a s h ha hl
    exact ⟨acc, a, s, Ev.succ (by simp only [spec_l04DrawRecs.l0]; exact Ev.neg (by omega) (Ev.some' rfl))⟩
  | succ d ih =>
    intro acc a s h ha hl
    obtain ⟨K, t, a1, s1, e1, h1, b1⟩ := rec_ok h (by omega)
    obtain ⟨r, a2, s2, e2⟩ := ih (acc ++ [⟨K, t⟩]) a1 s1 h1 (by omega) (by rw [List.length_append, List.length_singleton]; omega)
    refine ⟨r, a2, s2, Ev.succ ?_⟩
    simp only [spec_l04DrawRecs.l0]
    refine Ev.pos (by omega) (Ev.bind e1 (Ev.pos (by omega) ?_))
    rw [wrap_in (((d + 1 : Nat) : Int) - 1) (by omega) (by omega), show ((d + 1 : Nat) : Int) - 1 = (d : Int) by omega]
    exact e2
theorem draw_ok (l : List Int) (hl : l.length ≤ 1048576) (hb : ∀ x ∈ l, (Lit.int .u8 x).wf = true) : ∃ r, Ev (fun k => spec_DrawLogPack.f k l) r := by
  obtain ⟨e0, h0⟩ := cur_new hl hb
  simp only [spec_DrawLogPack.f]
  have first : ∃ v a s, spec_l04DrawFirst.f l 0 (17 + (l.length : Int)) = some (v, a, s) ∧ Cur l a s ∧ a ≤ 4 := by
    unfold spec_l04DrawFirst.f
    obtain ⟨v, a1, s1, e1, h1, b1, _, _, _, _⟩ := pick_ok h0 (by omega) 10
    rw [e1]
    simp only [Option.bind_some]
    by_cases c0 : v = 0
    · obtain ⟨z, a2, s2, e2, h2, b2, z0, _, z1, _⟩ := pick_ok h1 (by omega) 4
      have z2 := z1 (by omega)
      exact ⟨_, a2, s2, by rw [if_pos c0, e2]; exact (if_pos z0).trans (if_pos z2), h2, by omega⟩
    · obtain ⟨z, a2, s2, e2, h2, b2, _, _, _, _⟩ := pick_ok h1 (by omega) 300
      refine ⟨z, a2, s2, ?_, h2, by omega⟩
      rw [if_neg c0, e2]
      rfl
  obtain ⟨v, a1, s1, e1, h1, b1⟩ := first
  obtain ⟨n, a2, s2, e2, h2, b2, n0, n1⟩ := size_ok h1 (by omega) 20 (by omega) (by omega)
  obtain ⟨d, rfl⟩ := Int.eq_ofNat_of_zero_le n0
  obtain ⟨r, a3, s3, e3⟩ := recs_ok d [] a2 s2 h2 (by omega) (by simp; omega)
  refine ⟨(v, r), Ev.bndc e0 (Ev.bndc e1 (Ev.bind (a := (r, a3, s3)) ?_ (Ev.some' rfl)))⟩
  simp only [spec_l04DrawRecs.f]
  exact Ev.bndc e2 e3
/-! ### the law's own picks -/
theorem rd_byte (l : List Int) (hb : ∀ x ∈ l, (Lit.int .u8 x).wf = true) (i : Int) (h : i.toNat < l.length) : 0 ≤ rd l i ∧ rd l i ≤ 255 := wf8 (hb _ (rd_mem l i h))
theorem pk_ok (l : List Int) (hl : l.length ≤ 1048576) (hb : ∀ x ∈ l, (Lit.int .u8 x).wf = true) (i n : Int) (i0 : 0 ≤ i) (i1 : i ≤ 3) (n0 : 2 ≤ n) (n1 : n ≤ 256) : ∃ v, laws_pick.f l i n = some v ∧ 0 ≤ v ∧ v < n := by
  unfold laws_pick.f
  rw [if_neg (by omega)]
  by_cases c : (l.length : Int) = 0
  · rw [if_pos c, if_neg (by omega)]
    exact ⟨_, rfl, by rw [tmod_nn _ _ i0]; exact Int.emod_nonneg _ (by omega), by rw [tmod_nn _ _ i0]; exact Int.emod_lt_of_pos _ (by omega)⟩
  · rw [if_neg c, tmod_nn i (l.length : Int) i0, Int.tdiv_eq_ediv_of_nonneg i0]
    have k0 := Int.emod_nonneg i c
    have k1 := Int.emod_lt_of_pos i (show 0 < (l.length : Int) by omega)
    rw [if_pos k0, if_pos k1, if_neg (by omega)]
    obtain ⟨b0, b1⟩ := rd_byte l hb (i % (l.length : Int)) (by omega)
    have d0 : 0 ≤ i / (l.length : Int) := Int.ediv_nonneg i0 (by omega)
    have d1 : i / (l.length : Int) ≤ i := Int.ediv_le_self _ i0
    obtain ⟨q, hq⟩ : ∃ q, i / (l.length : Int) = q := ⟨_, rfl⟩
    obtain ⟨b, hb2⟩ : ∃ b, rd l (i % (l.length : Int)) = b := ⟨_, rfl⟩
    rw [hq] at d0 d1 ⊢
    rw [hb2] at b0 b1 ⊢
    rw [wrap_in b (by omega) (by omega), wrap_in q (by omega) (by omega), wrap_in (q * 37) (by omega) (by omega), wrap_in (b + q * 37) (by omega) (by omega), tmod_nn _ _ (by omega)]
    exact ⟨_, rfl, Int.emod_nonneg _ (by omega), Int.emod_lt_of_pos _ (by omega)⟩
/-! ### a bit turned -/
theorem u8_ne (b : UInt8) (q : Int) (q0 : 0 ≤ q) (q1 : q < 8) : UInt8.ofNat (Go.bits .xor .u8 (b.toNat : Int) (shl .u8 1 (IntKind.u64.wrap q))).toNat ≠ b := by
  have hq : q = 0 ∨ q = 1 ∨ q = 2 ∨ q = 3 ∨ q = 4 ∨ q = 5 ∨ q = 6 ∨ q = 7 := by omega
  have hx : ∀ p : Nat, 0 < p → p < 256 → UInt8.ofNat (Go.bits .xor .u8 (b.toNat : Int) (p : Int)).toNat ≠ b := by
    intro p p0 p1 h
    have hb := b.toNat_lt
    have e : Go.bits .xor .u8 (b.toNat : Int) (p : Int) = ((b.toNat ^^^ p : Nat) : Int) := by
      have hlt : b.toNat ^^^ p < 2 ^ 8 := Nat.xor_lt_two_pow (by omega) (by omega)
      show IntKind.u8.wrap ((BitVec.ofInt 8 (b.toNat : Int) ^^^ BitVec.ofInt 8 (p : Int)).toNat : Int) = _
      rw [BitVec.toNat_xor, BitVec.ofInt_natCast, BitVec.ofInt_natCast, BitVec.toNat_ofNat, BitVec.toNat_ofNat, Nat.mod_eq_of_lt (show b.toNat < 2 ^ 8 by omega), Nat.mod_eq_of_lt (show p < 2 ^ 8 by omega)]
      show ((b.toNat ^^^ p : Nat) : Int) % 256 = _
      omega
    have hlt : b.toNat ^^^ p < 2 ^ 8 := Nat.xor_lt_two_pow (by omega) (by omega)
    have h2 := congrArg UInt8.toNat h
    rw [e, Int.toNat_natCast, UInt8.toNat_ofNat', Nat.mod_eq_of_lt (by omega)] at h2
    have h3 : p = 0 := by
      have := congrArg (fun z => b.toNat ^^^ z) h2
      simp only [← Nat.xor_assoc, Nat.xor_self, Nat.zero_xor] at this
      exact this
    omega
  rcases hq with rfl | rfl | rfl | rfl | rfl | rfl | rfl | rfl
  · exact hx 1 (by omega) (by omega)
  · exact hx 2 (by omega) (by omega)
  · exact hx 4 (by omega) (by omega)
  · exact hx 8 (by omega) (by omega)
  · exact hx 16 (by omega) (by omega)
  · exact hx 32 (by omega) (by omega)
  · exact hx 64 (by omega) (by omega)
  · exact hx 128 (by omega) (by omega)
theorem Frs_last : ∀ {n : Int} {l : List S45} {y : S45} {fs : List (List UInt8)}, Frs n (l ++ [y]) fs → ∃ fs0 g, fs = fs0 ++ [g] ∧ Frs n l fs0 ∧ Fr (n + l.length) y.f0 y.f1.data.toList g
  | n, [], y, fs, ⟨f, fs', e, hf, h⟩ => by
    cases h
    exact ⟨[], f, by rw [e]; rfl, rfl, by simpa using hf⟩
  | n, x :: l, y, fs, ⟨f, fs', e, hf, h⟩ => by
    obtain ⟨fs0, g, e2, h1, h2⟩ := Frs_last h
    refine ⟨f :: fs0, g, by rw [e, e2]; rfl, ⟨f, fs0, rfl, hf, h1⟩, ?_⟩
    rw [List.length_cons, show n + ((l.length + 1 : Nat) : Int) = n + 1 + (l.length : Int) by omega]
    exact h2
end Go.Proofs.Ytnicllekmkkhlaa.Pure
