/- The law FnDiskSafe holds at every code. No condition. -/
import Derived.Test.YtnicllekmkkhlaaDkK
import Derived.Test.YtnicllekmkkhlaaCurFnDiskSafe
namespace Go.Proofs.Ytnicllekmkkhlaa.Pure
set_option linter.unusedVariables false
set_option linter.unusedSimpArgs false
open Go.RowKit Go.Proofs.Ytnicllekmkkhlaa.QFnDiskSafe Go.Proofs.YtnicllekmkkhlaaW.PrintWords Go.Proofs.YtnicllekmkkhlaaW.PrintLast Go.Proofs.YtnicllekmkkhlaaW.PrintMore Go.Proofs.YtnicllekmkkhlaaU Go.Proofs.Ytnicllekmkkhlaa.QFnDiskSafeR Go.Proofs.Ytnicllekmkkhlaa.QFnDiskSafeB Go.Proofs.Ytnicllekmkkhlaa.QFnDiskSafeK
/-! ### what is drawn -/
theorem grow (c : List Int) (a s : Int) (d : Nat) : ∀ (x : ByteArray), 200 - x.size = d → ∃ t, Ev (fun k => spec_l01DrawText.l0 k x c a s) (t, a, s) := by
  induction d with
  | zero =>
    intro x hx
    refine ⟨x.extract 0 200, Ev.succ ?_⟩
    simp only [spec_l01DrawText.l0]
    exact Ev.neg (by omega) (Ev.pos (by omega) (Ev.pos (by omega) (Ev.some' rfl)))
  | succ d ih =>
    intro x hx
    obtain ⟨t, ht⟩ := ih (x ++ (⟨#[113]⟩ : ByteArray)) (by rw [ByteArray.size_append]; show 200 - (x.size + 1) = d; omega)
    refine ⟨t, Ev.succ ?_⟩
    simp only [spec_l01DrawText.l0]
    exact Ev.pos (by omega) (Ev.pos (by omega) ht)
theorem text_ok {c : List Int} {a s : Int} (h : Cur c a s) (ha : a ≤ 1000000000) : ∃ t a' s', Ev (fun k => spec_l01DrawText.f k c a s) (t, a', s') ∧ Cur c a' s' ∧ a' ≤ a + 4 := by
  simp only [spec_l01DrawText.f, Option.bind_some]
  obtain ⟨v, a1, s1, e1, h1, b1, v0, _, v1, _⟩ := pick_ok h (by omega) 20
  have v2 := v1 (by omega)
  obtain ⟨u, a2, s2, e2, h2, b2, u0, _, _, _⟩ := pick_ok h1 (by omega) 40
  by_cases c0 : u = 0
  · obtain ⟨t, ht⟩ := grow c a2 s2 _ (rdOf ByteArray.empty _ v) rfl
    exact ⟨t, a2, s2, Ev.bndc e1 (Ev.pos v0 (Ev.pos v2 (Ev.bndc e2 (Ev.pos c0 ht)))), h2, by omega⟩
  · exact ⟨_, a2, s2, Ev.bndc e1 (Ev.pos v0 (Ev.pos v2 (Ev.bndc e2 (Ev.neg c0 (Ev.some' rfl))))), h2, by omega⟩
theorem rec_end {c : List Int} {a s : Int} (h : Cur c a s) (ha : a ≤ 1000000000) (K : Int) (t : ByteArray) : ∃ K' t' a' s', Ev (fun k => spec_l04DrawRec.j0 k c a s K t) (K', t', a', s') ∧ Cur c a' s' ∧ a' ≤ a + 4 := by
  obtain ⟨v, a1, s1, e1, h1, b1, _, _, _, _⟩ := pick_ok h (by omega) 60
  by_cases c0 : v = 0
  · obtain ⟨u, a2, s2, e2, h2, b2, u0, _, u1, _⟩ := pick_ok h1 (by omega) 2
    have u2 := u1 (by omega)
    have w := wrap_in (2000 + u) (by omega) (by omega)
    exact ⟨_, _, a2, s2, Ev.succ (by simp only [spec_l04DrawRec.j0]; exact Ev.bndc e1 (Ev.pos c0 (Ev.bndc e2 (Ev.pos (by rw [w]; omega) (Ev.pos (by rw [w]; omega) (Ev.some' rfl)))))), h2, by omega⟩
  · refine ⟨K, t, a1, s1, Ev.succ ?_, h1, by omega⟩
    simp only [spec_l04DrawRec.j0]
    exact Ev.bndc e1 (Ev.neg c0 (Ev.some' rfl))
theorem rec_ok {c : List Int} {a s : Int} (h : Cur c a s) (ha : a ≤ 900000000) : ∃ K t a' s', Ev (fun k => spec_l04DrawRec.f k c a s) (K, t, a', s') ∧ Cur c a' s' ∧ a' ≤ a + 14 := by
  simp only [spec_l04DrawRec.f, Option.bind_some]
  obtain ⟨v, a1, s1, e1, h1, b1, _, _, _, _⟩ := pick_ok h (by omega) 5
  obtain ⟨t, a2, s2, e2, h2, b2⟩ := text_ok h1 (by omega)
  obtain ⟨u, a3, s3, e3, h3, b3, _, _, _, _⟩ := pick_ok h2 (by omega) 40
  by_cases c0 : u = 0
  · obtain ⟨z, a4, s4, e4, h4, b4, z0, _, z1, _⟩ := pick_ok h3 (by omega) 4
    have z2 := z1 (by omega)
    obtain ⟨K, t', a5, s5, e5, h5, b5⟩ := rec_end h4 (by omega) (rd [0, 255, 256, (-1)] z) t
    exact ⟨K, t', a5, s5, Ev.bndc e1 (Ev.bind e2 (Ev.bndc e3 (Ev.pos c0 (Ev.bndc e4 (Ev.pos z0 (Ev.pos z2 e5)))))), h5, by omega⟩
  · obtain ⟨K, t', a5, s5, e5, h5, b5⟩ := rec_end h3 (by omega) (wrap64 (1 + v)) t
    exact ⟨K, t', a5, s5, Ev.bndc e1 (Ev.bind e2 (Ev.bndc e3 (Ev.neg c0 e5))), h5, by omega⟩
theorem draw_from {c : List Int} (d : Nat) : ∀ (acc : List S56) (a s : Int), Cur c a s → a + 60 * (d : Int) ≤ 800000000 → acc.length + 2 * d ≤ 1000 → ∃ r, Ev (fun k => spec_DrawDiskRun.l0 k acc (d : Int) c a s) r := by
  induction d with
  | zero =>
    intro acc a s h ha hl
    exact ⟨acc, Ev.succ (by simp only [spec_DrawDiskRun.l0]; exact Ev.neg (by omega) (Ev.some' rfl))⟩
  | succ d ih =>
    intro acc a s h ha hl
    have J : ∀ (acc' : List S56) (K rk : Int) (rb : ByteArray) (M a' s' : Int), Cur c a' s' → a' ≤ a + 40 → acc'.length ≤ acc.length + 1 → ∃ r, Ev (fun k => spec_DrawDiskRun.j1 k acc' ((d + 1 : Nat) : Int) c a' s' K rk rb M) r := by
      intro acc' K rk rb M a' s' h' b' l'
      have ew : wrap64 (((d + 1 : Nat) : Int) - 1) = (d : Int) := by rw [wrap_in _ (by omega) (by omega)]; omega
      obtain ⟨v, a1, s1, e1, h1, b1, _, _, _, _⟩ := pick_ok h' (by omega) 40
      by_cases c0 : v = 0
      · obtain ⟨u, a2, s2, e2, h2, b2, _, _, _, _⟩ := pick_ok h1 (by omega) 7
        obtain ⟨r, hr⟩ := ih (acc' ++ [(⟨wrap64 (u - 1), ⟨rk, rb⟩, M⟩ : S56)]) a2 s2 h2 (by omega) (by rw [List.length_append, List.length_singleton]; omega)
        refine ⟨r, Ev.succ ?_⟩
        simp only [spec_DrawDiskRun.j1, ew]
        exact Ev.bndc e1 (Ev.pos c0 (Ev.bndc e2 (Ev.pos (by omega) hr)))
      · obtain ⟨r, hr⟩ := ih (acc' ++ [(⟨K, ⟨rk, rb⟩, M⟩ : S56)]) a1 s1 h1 (by omega) (by rw [List.length_append, List.length_singleton]; omega)
        refine ⟨r, Ev.succ ?_⟩
        simp only [spec_DrawDiskRun.j1, ew]
        exact Ev.bndc e1 (Ev.neg c0 (Ev.pos (by omega) hr))
    obtain ⟨v, a1, s1, e1, h1, b1, v0, _, v1, _⟩ := pick_ok h (by omega) 8
    have v2 := v1 (by omega)
    by_cases k1 : rd [1, 1, 1, 1, 2, 2, 3, 4] v = 1
    · obtain ⟨K, t, a2, s2, e2, h2, b2⟩ := rec_ok h1 (by omega)
      obtain ⟨r, hr⟩ := J acc (rd [1, 1, 1, 1, 2, 2, 3, 4] v) K t 0 a2 s2 h2 (by omega) (by omega)
      refine ⟨r, Ev.succ ?_⟩
      simp only [spec_DrawDiskRun.l0]
      exact Ev.pos (by omega) (Ev.bndc rfl (Ev.bndc e1 (Ev.pos v0 (Ev.pos v2 (Ev.pos k1 (Ev.bind e2 hr))))))
    · by_cases k3 : rd [1, 1, 1, 1, 2, 2, 3, 4] v = 3
      · obtain ⟨u, a2, s2, e2, h2, b2, _, _, _, _⟩ := pick_ok h1 (by omega) 80
        obtain ⟨z, a3, s3, e3, h3, b3, _, _, _, _⟩ := pick_ok h2 (by omega) 4
        by_cases c0 : z = 0
        · obtain ⟨y, a4, s4, e4, h4, b4, _, _, _, _⟩ := pick_ok h3 (by omega) 4
          obtain ⟨r, hr⟩ := J (acc ++ [(⟨rd [1, 1, 1, 1, 2, 2, 3, 4] v, ⟨0, ⟨#[]⟩⟩, wrap64 (u - 5)⟩ : S56)]) (wrap64 (1 + y)) 0 ⟨#[]⟩ 0 a4 s4 h4 (by omega) (by rw [List.length_append, List.length_singleton]; omega)
          refine ⟨r, Ev.succ ?_⟩
          simp only [spec_DrawDiskRun.l0]
          exact Ev.pos (by omega) (Ev.bndc rfl (Ev.bndc e1 (Ev.pos v0 (Ev.pos v2 (Ev.neg k1 (Ev.pos k3 (Ev.bndc e2 (Ev.pos (by omega) (Ev.bndc rfl (Ev.bndc e3 (Ev.pos c0 (Ev.bndc e4 hr))))))))))))
        · obtain ⟨r, hr⟩ := J (acc ++ [(⟨rd [1, 1, 1, 1, 2, 2, 3, 4] v, ⟨0, ⟨#[]⟩⟩, wrap64 (u - 5)⟩ : S56)]) 4 0 ⟨#[]⟩ 0 a3 s3 h3 (by omega) (by rw [List.length_append, List.length_singleton]; omega)
          refine ⟨r, Ev.succ ?_⟩
          simp only [spec_DrawDiskRun.l0]
          exact Ev.pos (by omega) (Ev.bndc rfl (Ev.bndc e1 (Ev.pos v0 (Ev.pos v2 (Ev.neg k1 (Ev.pos k3 (Ev.bndc e2 (Ev.pos (by omega) (Ev.bndc rfl (Ev.bndc e3 (Ev.neg c0 hr)))))))))))
      · obtain ⟨r, hr⟩ := J acc (rd [1, 1, 1, 1, 2, 2, 3, 4] v) 0 ⟨#[]⟩ 0 a1 s1 h1 (by omega) (by omega)
        refine ⟨r, Ev.succ ?_⟩
        simp only [spec_DrawDiskRun.l0]
        exact Ev.pos (by omega) (Ev.bndc rfl (Ev.bndc e1 (Ev.pos v0 (Ev.pos v2 (Ev.neg k1 (Ev.neg k3 hr))))))
theorem draw_ok (l : List Int) (hl : l.length ≤ 1048576) (hb : ∀ x ∈ l, (Lit.int .u8 x).wf = true) : ∃ r, Ev (fun k => spec_DrawDiskRun.f k l) r := by
  obtain ⟨e0, h0⟩ := cur_new hl hb
  obtain ⟨n, a2, s2, e2, h2, b2, n0, n1⟩ := size_ok h0 (by omega) 50 (by omega) (by omega)
  obtain ⟨d, rfl⟩ := Int.eq_ofNat_of_zero_le n0
  obtain ⟨r, e3⟩ := draw_from d [] a2 s2 h2 (by omega) (by simp; omega)
  refine ⟨r, ?_⟩
  simp only [spec_DrawDiskRun.f]
  exact Ev.bndc e0 (Ev.bndc e2 e3)
theorem FnDiskSafe (c : List Int) (hc : c.length ≤ 9223372036854775807 ∧ ∀ x ∈ c, (Lit.int .u8 x).wf = true) : ∃ k, laws_FnDiskSafe.f k c = some true := by
  refine Ev.at ?_
  simp only [laws_FnDiskSafe.f]
  by_cases b1 : (c.length : Int) > 1048576
  · exact Ev.bndc rfl (Ev.pos (decide_eq_true b1) (Ev.some' rfl))
  refine Ev.bndc rfl (Ev.neg (by simpa using b1) ?_)
  obtain ⟨ops, hd⟩ := draw_ok c (by omega) hc.2
  refine Ev.bind hd ?_
  by_cases hl : (ops.length : Int) > 500
  · have h1 : Ev (fun k => spec_DiskRun.f k ops) ([], 1) := by simp only [spec_DiskRun.f]; exact Ev.pos hl (Ev.some' rfl)
    have h2 : Ev (fun k => impl_DiskRun.f k ops) ([], 1) := by simp only [impl_DiskRun.f]; exact Ev.pos hl (Ev.some' rfl)
    refine Ev.bind h1 (Ev.bind h2 (Ev.pos (by trivial) ?_))
    rw [bne_self_eq_false]
    refine Ev.succ ?_
    simp only [laws_FnDiskSafe.j0]
    refine Ev.neg (by simp) (Ev.succ ?_)
    simp only [laws_FnDiskSafe.l0]
    exact Ev.neg (by simp) (Ev.some' rfl)
  · obtain ⟨h1, h2⟩ := both_run ops (by omega)
    refine Ev.bind h1 (Ev.bind h2 (Ev.pos (by trivial) ?_))
    rw [bne_self_eq_false]
    refine Ev.succ ?_
    simp only [laws_FnDiskSafe.j0]
    refine Ev.neg (by simp) ?_
    have := law_run ops [] [] σ0 rep0.inv (by simp; omega) rfl
    simpa [σ0] using this
end Go.Proofs.Ytnicllekmkkhlaa.Pure
