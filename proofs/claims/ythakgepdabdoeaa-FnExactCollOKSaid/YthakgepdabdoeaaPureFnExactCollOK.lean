/- The program's CollOK and the reference's answer alike at every collation. No condition. -/
import Derived.Test.YthakgepdabdoeaaPFnExactCollOKx1
namespace Go.Proofs.Ythakgepdabdoeaa.Pure
set_option linter.unusedVariables false
set_option linter.unusedSimpArgs false
open Go.RowKit Go.Proofs.Ythakgepdabdoeaa.PFnExactCollOK Go.Proofs.YthakgepdabdoeaaW.PrintWords
theorem alike (k : Nat) : ∀ (s : ByteArray) (i : Int), impl_printable.l0 k s i = spec_l01Printable.l0 k s i := by
  induction k with
  | zero => intro s i; rfl
  | succ k ih => intro s i; simp only [impl_printable.l0, spec_l01Printable.l0, ih]
theorem wrap_in (x : Int) (h0 : -9223372036854775808 ≤ x) (h1 : x ≤ 9223372036854775807) : wrap64 x = x := by
  unfold wrap64
  omega
theorem tells (s : ByteArray) (hs : s.size ≤ 9223372036854775807) (d : Nat) : ∀ (k : Nat) (i : Int), 0 ≤ i → i ≤ s.size → (s.size : Int) - i = d → d < k → ∃ b, spec_l01Printable.l0 k s i = some b := by
  induction d with
  | zero =>
    intro k i h0 h1 hd hk
    obtain ⟨k, rfl⟩ : ∃ m, k = m + 1 := ⟨k - 1, by omega⟩
    exact ⟨true, by simp only [spec_l01Printable.l0]; rw [if_neg (by omega)]⟩
  | succ d ih =>
    intro k i h0 h1 hd hk
    obtain ⟨k, rfl⟩ : ∃ m, k = m + 1 := ⟨k - 1, by omega⟩
    obtain ⟨b, hb⟩ := ih k (i + 1) (by omega) (by omega) (by omega) (by omega)
    simp only [spec_l01Printable.l0]
    rw [if_pos (by omega), if_pos h0, wrap_in (i + 1) (by omega) (by omega), hb]
    split
    · exact ⟨_, rfl⟩
    · split <;> exact ⟨_, rfl⟩
theorem toList_nil (s : ByteArray) : s.toList = ([] : List UInt8) ↔ (s.size : Int) = 0 := by
  rw [ByteArray.toList_eq]
  constructor
  · intro h
    have := congrArg List.length h
    rw [Array.length_toList] at this
    have h2 : s.size = 0 := this
    omega
  · intro h
    apply List.eq_nil_of_length_eq_zero
    rw [Array.length_toList]
    show s.size = 0
    omega
theorem FnExactCollOK (s : ByteArray) (hs : s.size ≤ 9223372036854775807) : ∃ k, laws_FnExactCollOK.f k s = some true := by
  obtain ⟨b, hb⟩ := tells s hs s.size (s.size + 1) 0 (by omega) (by omega) (by omega) (by omega)
  refine ⟨s.size + 1, ?_⟩
  have ha := alike (s.size + 1) s 0
  simp only [laws_FnExactCollOK.f, laws_toColl.f, laws_szColl.f, Option.bind_some, spec_CollOK.f, impl_CollOK.f, spec_l01Printable.f, impl_printable.f, ha, hb, toList_nil]
  by_cases c : wrap64 (1048576 - (s.size : Int)) < 0
  · simp [c]
  · rw [if_neg c]
    simp only [Option.bind_some]
    rw [if_neg c]
    clear c
    by_cases c0 : (s.size : Int) = 0
    · have e : b = true := by
        have h2 : spec_l01Printable.l0 (s.size + 1) s 0 = some true := by
          simp only [spec_l01Printable.l0]
          rw [if_neg (by omega)]
        rw [hb] at h2
        exact Option.some.inj h2
      simp [c0, e]
    · by_cases c1 : (s.size : Int) = 95
      · simp only [if_neg c0, if_pos c1, Option.bind_some]; simp
      · simp only [if_neg c0, if_neg c1, Option.bind_some]; simp
end Go.Proofs.Ythakgepdabdoeaa.Pure
