/- A value: the reference's and the program's ValueOK come to one bool, which tells just what the document says of a value. No condition but that the text's size is an int. -/
import Derived.Test.YtjplogeifleojaaQFnKeyOrderx13
import Derived.Test.YtjplogeifleojaaUtil
namespace Go.Proofs.Ytjplogeifleojaa.QFnKeyOrderV
set_option linter.unusedVariables false
set_option linter.unusedSimpArgs false
open Go.RowKit Go.Proofs.Ytjplogeifleojaa.QFnKeyOrder Go.Proofs.YtjplogeifleojaaW.PrintWords Go.Proofs.YtjplogeifleojaaU
def Pr (s : ByteArray) : Prop := ∀ i : Int, 0 ≤ i → i < s.size → 32 ≤ bt s i ∧ bt s i ≤ 126
theorem pr_from (s : ByteArray) (hs : s.size ≤ 9223372036854775807) (d : Nat) : ∀ i : Int, 0 ≤ i → i ≤ s.size → (s.size : Int) - i = d →
    ∃ b : Bool, (b = true ↔ ∀ j : Int, i ≤ j → j < s.size → 32 ≤ bt s j ∧ bt s j ≤ 126) ∧ Ev (fun k => spec_l01Printable.l0 k s i) b ∧ Ev (fun k => impl_printable.l0 k s i) b := by
  induction d with
  | zero =>
    intro i h0 h1 hd
    refine ⟨true, ⟨fun _ j h2 h3 => by omega, fun _ => rfl⟩, Ev.succ ?_, Ev.succ ?_⟩
    · simp only [spec_l01Printable.l0]; exact Ev.neg (by omega) (Ev.some' rfl)
    · simp only [impl_printable.l0]; exact Ev.neg (by omega) (Ev.some' rfl)
  | succ d ih =>
    intro i h0 h1 hd
    obtain ⟨b, hb, h2, h3⟩ := ih (i + 1) (by omega) (by omega) (by omega)
    by_cases c1 : bt s i < 32
    · refine ⟨false, ⟨fun h => by simp at h, fun h => absurd (h i (Int.le_refl _) (by omega)) (by omega)⟩, Ev.succ ?_, Ev.succ ?_⟩
      · simp only [spec_l01Printable.l0]; exact Ev.pos (by omega) (Ev.pos h0 (Ev.pos c1 (Ev.some' rfl)))
      · simp only [impl_printable.l0]; exact Ev.pos (by omega) (Ev.pos h0 (Ev.pos c1 (Ev.some' rfl)))
    · by_cases c2 : bt s i > 126
      · refine ⟨false, ⟨fun h => by simp at h, fun h => absurd (h i (Int.le_refl _) (by omega)) (by omega)⟩, Ev.succ ?_, Ev.succ ?_⟩
        · simp only [spec_l01Printable.l0]; exact Ev.pos (by omega) (Ev.pos h0 (Ev.neg c1 (Ev.pos c2 (Ev.some' rfl))))
        · simp only [impl_printable.l0]; exact Ev.pos (by omega) (Ev.pos h0 (Ev.neg c1 (Ev.pos c2 (Ev.some' rfl))))
      · refine ⟨b, ⟨fun h j h4 h5 => ?_, fun h => hb.2 (fun j h4 h5 => h j (by omega) h5)⟩, Ev.succ ?_, Ev.succ ?_⟩
        · rcases Int.lt_or_eq_of_le h4 with h6 | h6
          · exact hb.1 h j (by omega) h5
          · subst h6; exact ⟨by omega, by omega⟩
        · simp only [spec_l01Printable.l0]
          rw [wrap_in _ (by omega) (by omega)]
          exact Ev.pos (by omega) (Ev.pos h0 (Ev.neg c1 (Ev.neg c2 h2)))
        · simp only [impl_printable.l0]
          rw [wrap_in _ (by omega) (by omega)]
          exact Ev.pos (by omega) (Ev.pos h0 (Ev.neg c1 (Ev.neg c2 h3)))
theorem pr_alike (s : ByteArray) (hs : s.size ≤ 9223372036854775807) : ∃ b : Bool, (b = true ↔ Pr s) ∧ Ev (fun k => spec_l01Printable.f k s) b ∧ Ev (fun k => impl_printable.f k s) b :=
  pr_from s hs s.size 0 (Int.le_refl _) (by omega) (by omega)
/-- What a value is (chapter 1). -/
def VOK (K N S : Int) (s : ByteArray) : Prop :=
  (K = 0 ∧ N = 0 ∧ S = 0 ∧ s.size = 0) ∨ (K = 1 ∧ 0 ≤ N ∧ N ≤ 1 ∧ S = 0 ∧ s.size = 0) ∨ (K = 2 ∧ -1000000000000000 ≤ N ∧ N ≤ 1000000000000000 ∧ S = 0 ∧ s.size = 0) ∨
  (K = 3 ∧ -1000000000 ≤ N ∧ N ≤ 1000000000 ∧ 0 ≤ S ∧ S ≤ 6 ∧ (S = 0 ∨ Int.tmod N 10 ≠ 0) ∧ s.size = 0) ∨ (K = 4 ∧ N = 0 ∧ S = 0 ∧ s.size ≤ 200 ∧ Pr s) ∨ (K = 5 ∧ 0 ≤ N ∧ N ≤ 3652058 ∧ S = 0 ∧ s.size = 0)
theorem nil_beq (s : ByteArray) : (s.toList == ([] : List UInt8)) = decide (s.size = 0) := by
  rw [Bool.eq_iff_iff, beq_iff_eq, toList_nil, decide_eq_true_eq]
  omega
theorem spec_val (K N S : Int) (s : ByteArray) (hs : s.size ≤ 9223372036854775807) : ∃ b : Bool, (b = true ↔ VOK K N S s) ∧ Ev (fun k => spec_ValueOK.f k K N S s) b := by
  obtain ⟨p, hp, hp1, hp2⟩ := pr_alike s hs
  simp only [spec_ValueOK.f]
  by_cases k4 : K = 4
  · by_cases c1 : S = 0
    · by_cases c2 : N = 0
      · cases p with
        | true =>
          refine ⟨decide ((s.size : Int) ≤ 200), ?_, Ev.pos k4 (Ev.neg (by omega) (Ev.succ ?_))⟩
          · rw [decide_eq_true_eq]
            constructor
            · intro h; exact Or.inr (Or.inr (Or.inr (Or.inr (Or.inl ⟨k4, c2, c1, by omega, hp.1 rfl⟩))))
            · rintro (h | h | h | h | h | h) <;> omega
          · simp only [spec_ValueOK.j0]
            refine Ev.neg (by simp [c1]) (Ev.neg (by omega) (Ev.neg (by omega) (Ev.neg (by omega) (Ev.neg (by omega) (Ev.neg (by omega) (Ev.pos k4 (Ev.pos c2 (Ev.bind hp1 (Ev.pos rfl (Ev.some' rfl))))))))))
        | false =>
          refine ⟨false, ⟨fun h => by simp at h, ?_⟩, Ev.pos k4 (Ev.neg (by omega) (Ev.succ ?_))⟩
          · rintro (h | h | h | h | h | h) <;> first | omega | exact absurd (hp.2 h.2.2.2.2) (by simp)
          · simp only [spec_ValueOK.j0]
            refine Ev.neg (by simp [c1]) (Ev.neg (by omega) (Ev.neg (by omega) (Ev.neg (by omega) (Ev.neg (by omega) (Ev.neg (by omega) (Ev.pos k4 (Ev.pos c2 (Ev.bind hp1 (Ev.neg (by simp) (Ev.some' rfl))))))))))
      · refine ⟨false, ⟨fun h => by simp at h, ?_⟩, Ev.pos k4 (Ev.neg (by omega) (Ev.succ ?_))⟩
        · rintro (h | h | h | h | h | h) <;> omega
        · simp only [spec_ValueOK.j0]
          exact Ev.neg (by simp [c1]) (Ev.neg (by omega) (Ev.neg (by omega) (Ev.neg (by omega) (Ev.neg (by omega) (Ev.neg (by omega) (Ev.pos k4 (Ev.neg c2 (Ev.some' rfl))))))))
    · refine ⟨false, ⟨fun h => by simp at h, ?_⟩, Ev.pos k4 (Ev.neg (by omega) (Ev.succ ?_))⟩
      · rintro (h | h | h | h | h | h) <;> omega
      · simp only [spec_ValueOK.j0]
        exact Ev.pos (by simp [c1]) (Ev.some' rfl)
  · by_cases z : (s.size : Int) > 0
    · refine ⟨false, ⟨fun h => by simp at h, ?_⟩, Ev.neg k4 (Ev.pos z (Ev.succ ?_))⟩
      · rintro (h | h | h | h | h | h) <;> omega
      · simp only [spec_ValueOK.j0]
        exact Ev.some' rfl
    · by_cases k3 : K = 3
      · suffices h : ∃ b : Bool, (b = true ↔ VOK K N S s) ∧ Ev (fun k => spec_ValueOK.j0 k false K N S s) b by
          obtain ⟨b, h1, h2⟩ := h
          exact ⟨b, h1, Ev.neg k4 (Ev.neg z (Ev.pos k3 h2))⟩
        have enter : ∀ {g : Nat → Option Bool} {b : Bool}, Ev g b → (∀ k, spec_ValueOK.j0 (k + 1) false K N S s = g k) → Ev (fun k => spec_ValueOK.j0 k false K N S s) b := fun hg he => Ev.step he hg
        by_cases c1 : N ≥ -1000000000
        · by_cases c2 : N ≤ 1000000000
          · by_cases c3 : S ≥ 0
            · by_cases c4 : S ≤ 6
              · by_cases c5 : S = 0
                · refine ⟨true, ⟨fun _ => Or.inr (Or.inr (Or.inr (Or.inl ⟨k3, c1, c2, c3, c4, Or.inl c5, by omega⟩))), fun _ => rfl⟩, Ev.succ ?_⟩
                  simp only [spec_ValueOK.j0]
                  exact Ev.neg (by simp) (Ev.neg (by omega) (Ev.neg (by omega) (Ev.neg (by omega) (Ev.pos k3 (Ev.pos c1 (Ev.pos c2 (Ev.pos c3 (Ev.pos c4 (Ev.pos c5 (Ev.some' rfl))))))))))
                · refine ⟨(Int.tmod N 10) != 0, ?_, Ev.succ ?_⟩
                  · rw [bne_iff_ne]
                    constructor
                    · intro h; exact Or.inr (Or.inr (Or.inr (Or.inl ⟨k3, c1, c2, c3, c4, Or.inr h, by omega⟩)))
                    · rintro (h | h | h | h | h | h)
                      · omega
                      · omega
                      · omega
                      · rcases h.2.2.2.2.2.1 with h' | h'
                        · omega
                        · exact h'
                      · omega
                      · omega
                  · simp only [spec_ValueOK.j0]
                    exact Ev.neg (by simp) (Ev.neg (by omega) (Ev.neg (by omega) (Ev.neg (by omega) (Ev.pos k3 (Ev.pos c1 (Ev.pos c2 (Ev.pos c3 (Ev.pos c4 (Ev.neg c5 (Ev.some' rfl))))))))))
              · refine ⟨false, ⟨fun h => by simp at h, ?_⟩, Ev.succ ?_⟩
                · rintro (h | h | h | h | h | h) <;> omega
                · simp only [spec_ValueOK.j0]
                  exact Ev.neg (by simp) (Ev.neg (by omega) (Ev.neg (by omega) (Ev.neg (by omega) (Ev.pos k3 (Ev.pos c1 (Ev.pos c2 (Ev.pos c3 (Ev.neg c4 (Ev.some' rfl)))))))))
            · refine ⟨false, ⟨fun h => by simp at h, ?_⟩, Ev.succ ?_⟩
              · rintro (h | h | h | h | h | h) <;> omega
              · simp only [spec_ValueOK.j0]
                exact Ev.neg (by simp) (Ev.neg (by omega) (Ev.neg (by omega) (Ev.neg (by omega) (Ev.pos k3 (Ev.pos c1 (Ev.pos c2 (Ev.neg c3 (Ev.some' rfl))))))))
          · refine ⟨false, ⟨fun h => by simp at h, ?_⟩, Ev.succ ?_⟩
            · rintro (h | h | h | h | h | h) <;> omega
            · simp only [spec_ValueOK.j0]
              exact Ev.neg (by simp) (Ev.neg (by omega) (Ev.neg (by omega) (Ev.neg (by omega) (Ev.pos k3 (Ev.pos c1 (Ev.neg c2 (Ev.some' rfl)))))))
        · refine ⟨false, ⟨fun h => by simp at h, ?_⟩, Ev.succ ?_⟩
          · rintro (h | h | h | h | h | h) <;> omega
          · simp only [spec_ValueOK.j0]
            exact Ev.neg (by simp) (Ev.neg (by omega) (Ev.neg (by omega) (Ev.neg (by omega) (Ev.pos k3 (Ev.neg c1 (Ev.some' rfl))))))
      · suffices h : ∃ b : Bool, (b = true ↔ VOK K N S s) ∧ Ev (fun k => spec_ValueOK.j0 k (S != 0) K N S s) b by
          obtain ⟨b, h1, h2⟩ := h
          exact ⟨b, h1, Ev.neg k4 (Ev.neg z (Ev.neg k3 h2))⟩
        by_cases c0 : S = 0
        · by_cases k0 : K = 0
          · refine ⟨N == 0, ?_, Ev.succ ?_⟩
            · rw [beq_iff_eq]
              exact ⟨fun h => Or.inl ⟨k0, h, c0, by omega⟩, by rintro (h | h | h | h | h | h) <;> omega⟩
            · simp only [spec_ValueOK.j0]
              exact Ev.neg (by simp [c0]) (Ev.pos k0 (Ev.some' rfl))
          · by_cases k1 : K = 1
            · by_cases n0 : N = 0
              · refine ⟨true, ⟨fun _ => Or.inr (Or.inl ⟨k1, by omega, by omega, c0, by omega⟩), fun _ => rfl⟩, Ev.succ ?_⟩
                simp only [spec_ValueOK.j0]
                exact Ev.neg (by simp [c0]) (Ev.neg k0 (Ev.pos k1 (Ev.pos n0 (Ev.some' rfl))))
              · refine ⟨N == 1, ?_, Ev.succ ?_⟩
                · rw [beq_iff_eq]
                  exact ⟨fun h => Or.inr (Or.inl ⟨k1, by omega, by omega, c0, by omega⟩), by rintro (h | h | h | h | h | h) <;> omega⟩
                · simp only [spec_ValueOK.j0]
                  exact Ev.neg (by simp [c0]) (Ev.neg k0 (Ev.pos k1 (Ev.neg n0 (Ev.some' rfl))))
            · by_cases k2 : K = 2
              · by_cases n0 : N ≥ -1000000000000000
                · refine ⟨decide (N ≤ 1000000000000000), ?_, Ev.succ ?_⟩
                  · rw [decide_eq_true_eq]
                    exact ⟨fun h => Or.inr (Or.inr (Or.inl ⟨k2, n0, h, c0, by omega⟩)), by rintro (h | h | h | h | h | h) <;> omega⟩
                  · simp only [spec_ValueOK.j0]
                    exact Ev.neg (by simp [c0]) (Ev.neg k0 (Ev.neg k1 (Ev.pos k2 (Ev.pos n0 (Ev.some' rfl)))))
                · refine ⟨false, ⟨fun h => by simp at h, ?_⟩, Ev.succ ?_⟩
                  · rintro (h | h | h | h | h | h) <;> omega
                  · simp only [spec_ValueOK.j0]
                    exact Ev.neg (by simp [c0]) (Ev.neg k0 (Ev.neg k1 (Ev.pos k2 (Ev.neg n0 (Ev.some' rfl)))))
              · by_cases k5 : K = 5
                · by_cases n0 : N ≥ 0
                  · refine ⟨decide (N ≤ 3652058), ?_, Ev.succ ?_⟩
                    · rw [decide_eq_true_eq]
                      exact ⟨fun h => Or.inr (Or.inr (Or.inr (Or.inr (Or.inr ⟨k5, n0, h, c0, by omega⟩)))), by rintro (h | h | h | h | h | h) <;> omega⟩
                    · simp only [spec_ValueOK.j0]
                      exact Ev.neg (by simp [c0]) (Ev.neg k0 (Ev.neg k1 (Ev.neg k2 (Ev.neg k3 (Ev.pos k5 (Ev.pos n0 (Ev.some' rfl)))))))
                  · refine ⟨false, ⟨fun h => by simp at h, ?_⟩, Ev.succ ?_⟩
                    · rintro (h | h | h | h | h | h) <;> omega
                    · simp only [spec_ValueOK.j0]
                      exact Ev.neg (by simp [c0]) (Ev.neg k0 (Ev.neg k1 (Ev.neg k2 (Ev.neg k3 (Ev.pos k5 (Ev.neg n0 (Ev.some' rfl)))))))
                · refine ⟨false, ⟨fun h => by simp at h, ?_⟩, Ev.succ ?_⟩
                  · rintro (h | h | h | h | h | h) <;> omega
                  · simp only [spec_ValueOK.j0]
                    exact Ev.neg (by simp [c0]) (Ev.neg k0 (Ev.neg k1 (Ev.neg k2 (Ev.neg k3 (Ev.neg k5 (Ev.neg k4 (Ev.some' rfl)))))))
        · refine ⟨false, ⟨fun h => by simp at h, ?_⟩, Ev.succ ?_⟩
          · rintro (h | h | h | h | h | h) <;> omega
          · simp only [spec_ValueOK.j0]
            exact Ev.pos (by simp [c0]) (Ev.some' rfl)
theorem impl_val (K N S : Int) (s : ByteArray) (hs : s.size ≤ 9223372036854775807) : ∃ b : Bool, (b = true ↔ VOK K N S s) ∧ Ev (fun k => impl_ValueOK.f k K N S s) b := by
  obtain ⟨p, hp, hp1, hp2⟩ := pr_alike s hs
  simp only [impl_ValueOK.f, nil_beq]
  by_cases k0 : K = 0
  · refine ⟨_, ?_, Ev.pos k0 (Ev.some' rfl)⟩
    simp only [Bool.and_eq_true, beq_iff_eq, decide_eq_true_eq]
    exact ⟨fun h => Or.inl ⟨k0, h.1, h.2.1, h.2.2⟩, by rintro (h | h | h | h | h | h) <;> omega⟩
  · by_cases k1 : K = 1
    · by_cases c1 : N < 0
      · exact ⟨false, ⟨fun h => by simp at h, by rintro (h | h | h | h | h | h) <;> omega⟩, Ev.neg k0 (Ev.pos k1 (Ev.pos c1 (Ev.some' rfl)))⟩
      · by_cases c2 : N > 1
        · exact ⟨false, ⟨fun h => by simp at h, by rintro (h | h | h | h | h | h) <;> omega⟩, Ev.neg k0 (Ev.pos k1 (Ev.neg c1 (Ev.pos c2 (Ev.some' rfl))))⟩
        · refine ⟨_, ?_, Ev.neg k0 (Ev.pos k1 (Ev.neg c1 (Ev.neg c2 (Ev.some' rfl))))⟩
          simp only [Bool.and_eq_true, beq_iff_eq, decide_eq_true_eq]
          exact ⟨fun h => Or.inr (Or.inl ⟨k1, by omega, by omega, h.1, h.2⟩), by rintro (h | h | h | h | h | h) <;> omega⟩
    · by_cases k2 : K = 2
      · by_cases c1 : N < -1000000000000000
        · exact ⟨false, ⟨fun h => by simp at h, by rintro (h | h | h | h | h | h) <;> omega⟩, Ev.neg k0 (Ev.neg k1 (Ev.pos k2 (Ev.pos c1 (Ev.some' rfl))))⟩
        · by_cases c2 : N > 1000000000000000
          · exact ⟨false, ⟨fun h => by simp at h, by rintro (h | h | h | h | h | h) <;> omega⟩, Ev.neg k0 (Ev.neg k1 (Ev.pos k2 (Ev.neg c1 (Ev.pos c2 (Ev.some' rfl)))))⟩
          · refine ⟨_, ?_, Ev.neg k0 (Ev.neg k1 (Ev.pos k2 (Ev.neg c1 (Ev.neg c2 (Ev.some' rfl)))))⟩
            simp only [Bool.and_eq_true, beq_iff_eq, decide_eq_true_eq]
            exact ⟨fun h => Or.inr (Or.inr (Or.inl ⟨k2, by omega, by omega, h.1, h.2⟩)), by rintro (h | h | h | h | h | h) <;> omega⟩
      · by_cases k3 : K = 3
        · by_cases c1 : N < -1000000000
          · exact ⟨false, ⟨fun h => by simp at h, by rintro (h | h | h | h | h | h) <;> omega⟩, Ev.neg k0 (Ev.neg k1 (Ev.neg k2 (Ev.pos k3 (Ev.pos c1 (Ev.some' rfl)))))⟩
          · by_cases c2 : N > 1000000000
            · exact ⟨false, ⟨fun h => by simp at h, by rintro (h | h | h | h | h | h) <;> omega⟩, Ev.neg k0 (Ev.neg k1 (Ev.neg k2 (Ev.pos k3 (Ev.neg c1 (Ev.pos c2 (Ev.some' rfl))))))⟩
            · by_cases c3 : S < 0
              · exact ⟨false, ⟨fun h => by simp at h, by rintro (h | h | h | h | h | h) <;> omega⟩, Ev.neg k0 (Ev.neg k1 (Ev.neg k2 (Ev.pos k3 (Ev.neg c1 (Ev.neg c2 (Ev.pos c3 (Ev.some' rfl)))))))⟩
              · by_cases c4 : S > 6
                · exact ⟨false, ⟨fun h => by simp at h, by rintro (h | h | h | h | h | h) <;> omega⟩, Ev.neg k0 (Ev.neg k1 (Ev.neg k2 (Ev.pos k3 (Ev.neg c1 (Ev.neg c2 (Ev.neg c3 (Ev.pos c4 (Ev.some' rfl))))))))⟩
                · by_cases c5 : S > 0
                  · by_cases c6 : Int.tmod N 10 = 0
                    · refine ⟨false, ⟨fun h => by simp at h, ?_⟩, Ev.neg k0 (Ev.neg k1 (Ev.neg k2 (Ev.pos k3 (Ev.neg c1 (Ev.neg c2 (Ev.neg c3 (Ev.neg c4 (Ev.pos c5 (Ev.pos c6 (Ev.some' rfl))))))))))⟩
                      rintro (h | h | h | h | h | h)
                      · omega
                      · omega
                      · omega
                      · rcases h.2.2.2.2.2.1 with h' | h'
                        · omega
                        · exact absurd c6 h'
                      · omega
                      · omega
                    · refine ⟨_, ?_, Ev.neg k0 (Ev.neg k1 (Ev.neg k2 (Ev.pos k3 (Ev.neg c1 (Ev.neg c2 (Ev.neg c3 (Ev.neg c4 (Ev.pos c5 (Ev.neg c6 (Ev.some' rfl))))))))))⟩
                      simp only [decide_eq_true_eq]
                      exact ⟨fun h => Or.inr (Or.inr (Or.inr (Or.inl ⟨k3, by omega, by omega, by omega, by omega, Or.inr c6, h⟩))), by rintro (h | h | h | h | h | h) <;> omega⟩
                  · refine ⟨_, ?_, Ev.neg k0 (Ev.neg k1 (Ev.neg k2 (Ev.pos k3 (Ev.neg c1 (Ev.neg c2 (Ev.neg c3 (Ev.neg c4 (Ev.neg c5 (Ev.some' rfl)))))))))⟩
                    simp only [decide_eq_true_eq]
                    exact ⟨fun h => Or.inr (Or.inr (Or.inr (Or.inl ⟨k3, by omega, by omega, by omega, by omega, Or.inl (by omega), h⟩))), by rintro (h | h | h | h | h | h) <;> omega⟩
        · by_cases k4 : K = 4
          · by_cases c1 : (s.size : Int) > 200
            · exact ⟨false, ⟨fun h => by simp at h, by rintro (h | h | h | h | h | h) <;> omega⟩, Ev.neg k0 (Ev.neg k1 (Ev.neg k2 (Ev.neg k3 (Ev.pos k4 (Ev.pos c1 (Ev.some' rfl))))))⟩
            · cases p with
              | true =>
                refine ⟨_, ?_, Ev.neg k0 (Ev.neg k1 (Ev.neg k2 (Ev.neg k3 (Ev.pos k4 (Ev.neg c1 (Ev.bind hp2 (Ev.pos rfl (Ev.some' rfl))))))))⟩
                simp only [Bool.and_eq_true, beq_iff_eq]
                exact ⟨fun h => Or.inr (Or.inr (Or.inr (Or.inr (Or.inl ⟨k4, h.1, h.2, by omega, hp.1 rfl⟩)))), by rintro (h | h | h | h | h | h) <;> omega⟩
              | false =>
                refine ⟨false, ⟨fun h => by simp at h, ?_⟩, Ev.neg k0 (Ev.neg k1 (Ev.neg k2 (Ev.neg k3 (Ev.pos k4 (Ev.neg c1 (Ev.bind hp2 (Ev.neg (by simp) (Ev.some' rfl))))))))⟩
                rintro (h | h | h | h | h | h) <;> first | omega | exact absurd (hp.2 h.2.2.2.2) (by simp)
          · by_cases k5 : K = 5
            · by_cases c1 : N < 0
              · exact ⟨false, ⟨fun h => by simp at h, by rintro (h | h | h | h | h | h) <;> omega⟩, Ev.neg k0 (Ev.neg k1 (Ev.neg k2 (Ev.neg k3 (Ev.neg k4 (Ev.pos k5 (Ev.pos c1 (Ev.some' rfl)))))))⟩
              · by_cases c2 : N > 3652058
                · exact ⟨false, ⟨fun h => by simp at h, by rintro (h | h | h | h | h | h) <;> omega⟩, Ev.neg k0 (Ev.neg k1 (Ev.neg k2 (Ev.neg k3 (Ev.neg k4 (Ev.pos k5 (Ev.neg c1 (Ev.pos c2 (Ev.some' rfl))))))))⟩
                · refine ⟨_, ?_, Ev.neg k0 (Ev.neg k1 (Ev.neg k2 (Ev.neg k3 (Ev.neg k4 (Ev.pos k5 (Ev.neg c1 (Ev.neg c2 (Ev.some' rfl))))))))⟩
                  simp only [Bool.and_eq_true, beq_iff_eq, decide_eq_true_eq]
                  exact ⟨fun h => Or.inr (Or.inr (Or.inr (Or.inr (Or.inr ⟨k5, by omega, by omega, h.1, h.2⟩)))), by rintro (h | h | h | h | h | h) <;> omega⟩
            · exact ⟨false, ⟨fun h => by simp at h, by rintro (h | h | h | h | h | h) <;> omega⟩, Ev.neg k0 (Ev.neg k1 (Ev.neg k2 (Ev.neg k3 (Ev.neg k4 (Ev.neg k5 (Ev.some' rfl))))))⟩
/-- Both: one bool, and what it tells. -/
theorem val_alike (K N S : Int) (s : ByteArray) (hs : s.size ≤ 9223372036854775807) : ∃ b : Bool, (b = true ↔ VOK K N S s) ∧ Ev (fun k => spec_ValueOK.f k K N S s) b ∧ Ev (fun k => impl_ValueOK.f k K N S s) b := by
  obtain ⟨b, h1, h2⟩ := spec_val K N S s hs
  obtain ⟨c, h3, h4⟩ := impl_val K N S s hs
  have : c = b := by rw [Bool.eq_iff_iff]; exact h3.trans h1.symm
  subst this
  exact ⟨c, h1, h2, h4⟩
end Go.Proofs.Ytjplogeifleojaa.QFnKeyOrderV
