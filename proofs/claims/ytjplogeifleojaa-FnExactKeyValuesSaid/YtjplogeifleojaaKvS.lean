/- Key bytes read back: one step of the reference's and of the program's KeyValues comes to one end, and so do the two. No condition. -/
import Derived.Test.YtjplogeifleojaaKvB
namespace Go.Proofs.Ytjplogeifleojaa.QFnExactKeyValuesB
set_option linter.unusedVariables false
set_option linter.unusedSimpArgs false
open Go.RowKit Go.Proofs.Ytjplogeifleojaa.QFnExactKeyValues Go.Proofs.YtjplogeifleojaaW.PrintWords Go.Proofs.YtjplogeifleojaaW.PrintLast Go.Proofs.YtjplogeifleojaaW.PrintMore Go.Proofs.YtjplogeifleojaaU Go.Proofs.Ytjplogeifleojaa.QFnExactKeyValuesV
def Sp (s : ByteArray) : Option (S42 × Int) → Prop
  | none => ∃ a b c d, Ev (fun k => spec_l01Next.f k s) (a, b, c, d, 0)
  | some (v, n) => Ev (fun k => spec_l01Next.f k s) (v.f0, v.f1, v.f2, v.f3, n) ∧ 1 ≤ n ∧ n ≤ s.size
def Im (s : ByteArray) : Option (S42 × Int) → Prop
  | none => ∀ out, Ev (fun k => impl_KeyValues.l0 k out s) (([] : List S42), 5)
  | some (v, n) => ∀ out (r : List S42 × Int), out.length < 1000000 → Ev (fun k => impl_KeyValues.l0 k (out ++ [v]) (s.extract n.toNat s.size)) r → Ev (fun k => impl_KeyValues.l0 k out s) r
theorem ne_nil {s : ByteArray} (h : 0 < s.size) : ¬ s.toList = ([] : List UInt8) := fun e => by have := (toList_nil s).1 e; omega
theorem nil_size : (⟨#[]⟩ : ByteArray).size = 0 := rfl
abbrev E0 : ByteArray := ⟨#[]⟩
theorem enc_num (K N S : Int) (s : ByteArray) (hK : K = 2 ∨ K = 3) : nums (enc K N S s) = 3 :: (dig 8 (mil N S / 1000000 + 1152921504606846976) ++ (dig 3 (mil N S % 1000000) ++ [K])) := by
  have e : enc K N S s = (((⟨#[3]⟩ : ByteArray) ++ strOfNums (dig 8 (mil N S / 1000000 + 1152921504606846976))) ++ strOfNums (dig 3 (mil N S % 1000000))) ++ strOfNums [K % 256] := by
    unfold enc; rw [if_neg (by omega), if_neg (by omega), if_neg (by omega), if_neg (by omega)]
  rw [e, nums_app, nums_app, nums_app, nums_str _ (dig_range 8 _), nums_str _ (dig_range 3 _), nums_str [K % 256] (by intro x hx; simp at hx; subst hx; omega)]
  have hk : K % 256 = K := by omega
  rw [hk, List.append_assoc, List.append_assoc]
  rfl
theorem num_same (a b K e12 : Int) (A8 A3 : List Int) (h8 : A8.length = 8) (h3 : A3.length = 3) (r8 : ∀ x ∈ A8, 0 ≤ x ∧ x < 256) (r3 : ∀ x ∈ A3, 0 ≤ x ∧ x < 256) (a0 : 0 ≤ a) (a1 : a < 18446744073709551616) (b0 : 0 ≤ b) (b1 : b < 16777216) :
    (dig 8 a ++ (dig 3 b ++ [K])) = A8 ++ (A3 ++ [e12]) ↔ F A8 = a ∧ F A3 = b ∧ K = e12 := by
  constructor
  · intro h
    obtain ⟨h1, h2⟩ := List.append_inj h (by rw [dig_len, h8])
    obtain ⟨h4, h5⟩ := List.append_inj h2 (by rw [dig_len, h3])
    refine ⟨?_, ?_, by simpa using h5⟩
    · rw [← h1]; exact F_dig 8 a a0 a1
    · rw [← h4]; exact F_dig 3 b b0 b1
  · rintro ⟨rfl, rfl, rfl⟩
    have e8 := dig_F A8 r8
    have e3 := dig_F A3 r3
    rw [h8] at e8
    rw [h3] at e3
    rw [e8, e3]
/-! ### a step, by the first byte -/
theorem step1 (s : ByteArray) (h0 : 0 < s.size) (h1 : s.size ≤ 4000) (c : bt s 0 = 1) : ∃ o, Sp s o ∧ Im s o := by
  obtain ⟨x, rest, hL⟩ : ∃ x rest, nums s = x :: rest := by
    cases h : nums s with
    | nil => have := nums_len s; rw [h] at this; simp at this; omega
    | cons x r => exact ⟨x, r, rfl⟩
  have hx : x = 1 := by have := bt_nums s 0 h0; simp only [hL] at this; simpa using this.symm.trans c
  have hv : VOK 0 0 0 E0 := .inl ⟨rfl, rfl, rfl, rfl⟩
  refine ⟨some (⟨0, 0, 0, E0⟩, 1), ⟨?_, by omega, by omega⟩, fun out r ho h => ?_⟩
  · simp only [spec_l01Next.f]; exact Ev.pos (by omega) (Ev.pos c (Ev.some' rfl))
  · refine Ev.succ ?_
    simp only [impl_KeyValues.l0]
    refine Ev.neg (ne_nil h0) (Ev.pos (by omega) (Ev.pos c (j2_same out s 1 0 0 0 E0 (by omega) (by omega) hv ?_ ho r h)))
    rw [hL, hx]; rfl
theorem step2 (s : ByteArray) (h0 : 0 < s.size) (h1 : s.size ≤ 4000) (c : bt s 0 = 2) : ∃ o, Sp s o ∧ Im s o := by
  have n1 : ¬ bt s 0 = 1 := by omega
  by_cases hz : (s.size : Int) ≥ 2
  · obtain ⟨x, y, rest, hL⟩ : ∃ x y rest, nums s = x :: y :: rest := by
      match h : nums s with
      | [] => have := nums_len s; rw [h] at this; simp at this; omega
      | [_] => have := nums_len s; rw [h] at this; simp at this; omega
      | x :: y :: r => exact ⟨x, y, r, rfl⟩
    have hx : x = 2 := by have := bt_nums s 0 h0; simp only [hL] at this; simpa using this.symm.trans c
    have hy : bt s 1 = y := by have := bt_nums s 1 (by omega); simp only [hL] at this; simpa using this
    have hr := nums_range s y (by rw [hL]; simp)
    have hw : wrap64 (bt s 1) = y := by rw [hy]; exact wrap_in _ (by omega) (by omega)
    by_cases c2 : bt s 1 < 2
    · have hv : VOK 1 y 0 E0 := .inr (.inl ⟨rfl, by omega, by omega, rfl, rfl⟩)
      refine ⟨some (⟨1, y, 0, E0⟩, 2), ⟨?_, by omega, by omega⟩, fun out r ho h => ?_⟩
      · simp only [spec_l01Next.f]
        refine Ev.pos (by omega) (Ev.neg n1 (Ev.pos c (Ev.pos (by omega) (Ev.pos (by omega) (Ev.pos c2 ?_)))))
        refine Ev.bndc (b := (1, y, 0, E0)) ?_ (Ev.some' rfl)
        unfold spec_l01Truth.f
        rcases (show y = 0 ∨ y = 1 by omega) with rfl | rfl
        · rw [hy]; rfl
        · rw [hy]; rfl
      · refine Ev.succ ?_
        simp only [impl_KeyValues.l0]
        refine Ev.neg (ne_nil h0) (Ev.pos (by omega) (Ev.neg n1 (Ev.pos c (Ev.pos hz (Ev.pos (by omega) ?_)))))
        rw [hw]
        refine j2_same out s 2 1 y 0 E0 (by omega) (by omega) hv ?_ ho r h
        have e : enc 1 y 0 E0 = strOfNums [2, y % 256] := rfl
        rw [e, nums_str _ (by intro z hz; simp at hz; omega), hL, hx, show y % 256 = y by omega]
        rfl
    · refine ⟨none, ⟨0, 0, 0, E0, ?_⟩, fun out => ?_⟩
      · simp only [spec_l01Next.f]
        exact Ev.pos (by omega) (Ev.neg n1 (Ev.pos c (Ev.pos (by omega) (Ev.pos (by omega) (Ev.neg c2 (Ev.some' rfl))))))
      · refine Ev.succ ?_
        simp only [impl_KeyValues.l0]
        refine Ev.neg (ne_nil h0) (Ev.pos (by omega) (Ev.neg n1 (Ev.pos c (Ev.pos hz (Ev.pos (by omega) ?_)))))
        rw [hw]
        exact j2_bad out s 2 1 y 0 E0 (by omega) (by omega) (by rw [nil_size]; omega) (by rintro (h | h | h | h | h | h) <;> omega)
  · refine ⟨none, ⟨0, 0, 0, E0, ?_⟩, fun out => ?_⟩
    · simp only [spec_l01Next.f]
      exact Ev.pos (by omega) (Ev.neg n1 (Ev.pos c (Ev.neg (by omega) (Ev.some' rfl))))
    · refine Ev.succ ?_
      simp only [impl_KeyValues.l0]
      exact Ev.neg (ne_nil h0) (Ev.pos (by omega) (Ev.neg n1 (Ev.pos c (Ev.neg hz (j2_long out s 2 0 0 0 E0 (by omega) (by omega))))))
theorem step4 (s : ByteArray) (h0 : 0 < s.size) (h1 : s.size ≤ 4000) (c : bt s 0 = 4) : ∃ o, Sp s o ∧ Im s o := by
  have n1 : ¬ bt s 0 = 1 := by omega
  have n2 : ¬ bt s 0 = 2 := by omega
  have n3 : ¬ bt s 0 = 3 := by omega
  obtain ⟨x, rest, hL⟩ : ∃ x rest, nums s = x :: rest := by
    cases h : nums s with
    | nil => have := nums_len s; rw [h] at this; simp at this; omega
    | cons x r => exact ⟨x, r, rfl⟩
  have hx : x = 4 := by have := bt_nums s 0 h0; simp only [hL] at this; simpa using this.symm.trans c
  have hf : strings_IndexByte.f s 0 = some (Go.Lib.indexByte s.data.toList 0) := rfl
  rcases idx_bt s with ⟨e, hno⟩ | ⟨j, e, j1, j2', j3⟩
  · refine ⟨none, ⟨0, 0, 0, E0, ?_⟩, fun out => ?_⟩
    · simp only [spec_l01Next.f]
      refine Ev.pos (by omega) (Ev.neg n1 (Ev.neg n2 (Ev.neg n3 (Ev.pos c ?_))))
      exact text_from s h1 (-1) _ (fun _ => ⟨hno, rfl⟩) (fun j h => by omega) (.inl rfl) (s.size - 1) 1 (by omega) (by omega) rfl (fun j h => by omega)
    · refine Ev.succ ?_
      simp only [impl_KeyValues.l0]
      refine Ev.neg (ne_nil h0) (Ev.pos (by omega) (Ev.neg n1 (Ev.neg n2 (Ev.neg n3 (Ev.pos c (Ev.bndc hf ?_))))))
      rw [e]
      exact Ev.pos (by omega) (Ev.some' rfl)
  · have hj : 1 ≤ j := by
      rcases Nat.eq_zero_or_pos j with h | h
      · subst h; rw [show ((0 : Nat) : Int) = 0 from rfl, c] at j2'; omega
      · exact h
    have hz : (s.extract 1 j).size ≤ 9223372036854775807 := by rw [ByteArray.size_extract]; omega
    have hw : wrap64 ((j : Int) + 1) = (j : Int) + 1 := wrap_in _ (by omega) (by omega)
    have enter : ∀ out (r : List S42 × Int), Ev (fun k => impl_KeyValues.j2 k out s ((j : Int) + 1) 4 0 0 (s.extract 1 j)) r → Ev (fun k => impl_KeyValues.l0 k out s) r := by
      intro out r h
      refine Ev.succ ?_
      simp only [impl_KeyValues.l0]
      refine Ev.neg (ne_nil h0) (Ev.pos (by omega) (Ev.neg n1 (Ev.neg n2 (Ev.neg n3 (Ev.pos c (Ev.bndc hf ?_))))))
      rw [e]
      refine Ev.neg (by omega) (Ev.pos (by omega) (Ev.pos (by omega) ?_))
      rw [hw, Int.toNat_natCast]
      exact h
    have spec : ∀ R, (VOK 4 0 0 (s.extract 1 j) → R = (4, 0, 0, s.extract 1 j, (j : Int) + 1)) → (¬ VOK 4 0 0 (s.extract 1 j) → R = (0, 0, 0, E0, 0)) → Ev (fun k => spec_l01Next.f k s) R := by
      intro R r1 r2
      simp only [spec_l01Next.f]
      refine Ev.pos (by omega) (Ev.neg n1 (Ev.neg n2 (Ev.neg n3 (Ev.pos c ?_))))
      refine text_from s h1 j R (fun h => by omega) (fun j' h => ?_) (.inr ⟨j, rfl⟩) (s.size - 1) 1 (by omega) (by omega) rfl (fun j' h => by omega)
      obtain rfl : j = j' := by omega
      exact ⟨j1, j2', j3, r1, r2⟩
    by_cases hv : VOK 4 0 0 (s.extract 1 j)
    · refine ⟨some (⟨4, 0, 0, s.extract 1 j⟩, (j : Int) + 1), ⟨spec _ (fun _ => rfl) (fun h => absurd hv h), by omega, by omega⟩, fun out r ho h => enter out r ?_⟩
      refine j2_same out s ((j : Int) + 1) 4 0 0 (s.extract 1 j) (by omega) (by omega) hv ?_ ho r h
      have e4 : enc 4 0 0 (s.extract 1 j) = ((⟨#[4]⟩ : ByteArray) ++ s.extract 1 j) ++ (⟨#[0]⟩ : ByteArray) := rfl
      have hjl : j < (nums s).length := by rw [nums_len]; exact j1
      have hz0 : (nums s)[j] = 0 := by rw [← bt_nums s j j1]; exact j2'
      rw [e4, nums_app, nums_app, nums_ext, show ((j : Int) + 1).toNat = j + 1 by omega, List.take_succ_eq_append_getElem hjl, hz0]
      obtain ⟨i, rfl⟩ : ∃ i, j = i + 1 := ⟨j - 1, by omega⟩
      rw [hL, hx]
      rfl
    · exact ⟨none, ⟨0, 0, 0, E0, spec _ (fun h => absurd h hv) (fun _ => rfl)⟩, fun out => enter out _ (j2_bad out s _ 4 0 0 _ (by omega) (by omega) hz hv)⟩
theorem step5 (s : ByteArray) (h0 : 0 < s.size) (h1 : s.size ≤ 4000) (c : bt s 0 = 5) : ∃ o, Sp s o ∧ Im s o := by
  have n1 : ¬ bt s 0 = 1 := by omega
  have n2 : ¬ bt s 0 = 2 := by omega
  have n3 : ¬ bt s 0 = 3 := by omega
  have n4 : ¬ bt s 0 = 4 := by omega
  by_cases hz : (s.size : Int) ≥ 4
  · obtain ⟨x, e1, e2, e3, rest, hL⟩ : ∃ x e1 e2 e3 rest, nums s = x :: e1 :: e2 :: e3 :: rest := by
      match h : nums s with
      | [] | [_] | [_, _] | [_, _, _] => have := nums_len s; rw [h] at this; simp at this; omega
      | x :: y :: z :: u :: r => exact ⟨x, y, z, u, r, rfl⟩
    have hx : x = 5 := by have := bt_nums s 0 h0; simp only [hL] at this; simpa using this.symm.trans c
    have hA : nums (s.extract 1 4) = [e1, e2, e3] := by rw [nums_ext, hL]; rfl
    obtain ⟨p1, p2⟩ := read_ok (s.extract 1 4) (by rw [ByteArray.size_extract]; omega)
    have hF := F_lt (nums (s.extract 1 4)) (nums_range _)
    have hd := dig_F (nums (s.extract 1 4)) (nums_range _)
    rw [hA] at p1 p2 hF hd
    obtain ⟨X, hX⟩ : ∃ X, F [e1, e2, e3] = X := ⟨_, rfl⟩
    rw [hX] at p1 p2 hF hd
    have hb : 0 ≤ X ∧ X < 16777216 := by simp only [List.length_cons, List.length_nil, Nat.reduceAdd, Int.reducePow] at hF; exact hF
    rw [wrap_in X (by omega) (by omega)] at p1 p2
    have enter : ∀ out (r : List S42 × Int), Ev (fun k => impl_KeyValues.j2 k out s 4 5 X 0 E0) r → Ev (fun k => impl_KeyValues.l0 k out s) r := by
      intro out r h
      refine Ev.succ ?_
      simp only [impl_KeyValues.l0]
      exact Ev.neg (ne_nil h0) (Ev.pos (by omega) (Ev.neg n1 (Ev.neg n2 (Ev.neg n3 (Ev.neg n4 (Ev.pos c (Ev.pos hz (Ev.pos (by omega) (Ev.pos (by omega) (Ev.bind p2 h))))))))))
    by_cases cx : X ≤ 3652058
    · have hv : VOK 5 X 0 E0 := .inr (.inr (.inr (.inr (.inr ⟨rfl, by omega, cx, rfl, rfl⟩))))
      refine ⟨some (⟨5, X, 0, E0⟩, 4), ⟨?_, by omega, by omega⟩, fun out r ho h => enter out r ?_⟩
      · simp only [spec_l01Next.f]
        exact Ev.pos (by omega) (Ev.neg n1 (Ev.neg n2 (Ev.neg n3 (Ev.neg n4 (Ev.pos c (Ev.pos hz (Ev.pos (by omega) (Ev.pos (by omega) (Ev.bind p1 (Ev.pos cx (Ev.bind p1 (Ev.some' rfl))))))))))))
      · refine j2_same out s 4 5 X 0 E0 (by omega) (by omega) hv ?_ ho r h
        have e : enc 5 X 0 E0 = (⟨#[5]⟩ : ByteArray) ++ strOfNums (dig 3 X) := rfl
        rw [e, nums_app, nums_str _ (dig_range 3 X), show dig 3 X = [e1, e2, e3] from hd, hL, hx]
        rfl
    · refine ⟨none, ⟨0, 0, 0, E0, ?_⟩, fun out => enter out _ (j2_bad out s 4 5 X 0 E0 (by omega) (by omega) (by rw [nil_size]; omega) (by rintro (h | h | h | h | h | h) <;> omega))⟩
      simp only [spec_l01Next.f]
      exact Ev.pos (by omega) (Ev.neg n1 (Ev.neg n2 (Ev.neg n3 (Ev.neg n4 (Ev.pos c (Ev.pos hz (Ev.pos (by omega) (Ev.pos (by omega) (Ev.bind p1 (Ev.neg cx (Ev.some' rfl)))))))))))
  · refine ⟨none, ⟨0, 0, 0, E0, ?_⟩, fun out => ?_⟩
    · simp only [spec_l01Next.f]
      exact Ev.pos (by omega) (Ev.neg n1 (Ev.neg n2 (Ev.neg n3 (Ev.neg n4 (Ev.pos c (Ev.neg hz (Ev.some' rfl)))))))
    · refine Ev.succ ?_
      simp only [impl_KeyValues.l0]
      exact Ev.neg (ne_nil h0) (Ev.pos (by omega) (Ev.neg n1 (Ev.neg n2 (Ev.neg n3 (Ev.neg n4 (Ev.pos c (Ev.neg hz (j2_long out s 4 0 0 0 E0 (by omega) (by omega)))))))))
theorem step0 (s : ByteArray) (h0 : 0 < s.size) (h1 : s.size ≤ 4000) (n1 : ¬ bt s 0 = 1) (n2 : ¬ bt s 0 = 2) (n3 : ¬ bt s 0 = 3) (n4 : ¬ bt s 0 = 4) (n5 : ¬ bt s 0 = 5) : ∃ o, Sp s o ∧ Im s o := by
  refine ⟨none, ⟨0, 0, 0, E0, ?_⟩, fun out => ?_⟩
  · simp only [spec_l01Next.f]
    exact Ev.pos (by omega) (Ev.neg n1 (Ev.neg n2 (Ev.neg n3 (Ev.neg n4 (Ev.neg n5 (Ev.some' rfl))))))
  · refine Ev.succ ?_
    simp only [impl_KeyValues.l0]
    exact Ev.neg (ne_nil h0) (Ev.pos (by omega) (Ev.neg n1 (Ev.neg n2 (Ev.neg n3 (Ev.neg n4 (Ev.neg n5 (j2_zero out s 0 0 0 E0)))))))
/-! ### a number -/
theorem step3 (s : ByteArray) (h0 : 0 < s.size) (h1 : s.size ≤ 4000) (c : bt s 0 = 3) : ∃ o, Sp s o ∧ Im s o := by
  have n1 : ¬ bt s 0 = 1 := by omega
  have n2 : ¬ bt s 0 = 2 := by omega
  have no : ∀ b : Bool, b = true → Ev (fun k => spec_l01Next.j0 k s b) (0, 0, 0, E0, 0) := by
    rintro b rfl; exact Ev.succ (by simp only [spec_l01Next.j0]; exact Ev.pos (by trivial) (Ev.some' rfl))
  by_cases hz : (s.size : Int) ≥ 13
  · obtain ⟨x, e1, e2, e3, e4, e5, e6, e7, e8, e9, e10, e11, e12, rest, hL⟩ : ∃ x e1 e2 e3 e4 e5 e6 e7 e8 e9 e10 e11 e12 rest, nums s = x :: e1 :: e2 :: e3 :: e4 :: e5 :: e6 :: e7 :: e8 :: e9 :: e10 :: e11 :: e12 :: rest := by
      have hl := nums_len s
      match h : nums s with
      | x :: e1 :: e2 :: e3 :: e4 :: e5 :: e6 :: e7 :: e8 :: e9 :: e10 :: e11 :: e12 :: r => exact ⟨x, e1, e2, e3, e4, e5, e6, e7, e8, e9, e10, e11, e12, r, rfl⟩
      | [] | [_] | [_, _] | [_, _, _] | [_, _, _, _] | [_, _, _, _, _] | [_, _, _, _, _, _] | [_, _, _, _, _, _, _] | [_, _, _, _, _, _, _, _] | [_, _, _, _, _, _, _, _, _] | [_, _, _, _, _, _, _, _, _, _] | [_, _, _, _, _, _, _, _, _, _, _] | [_, _, _, _, _, _, _, _, _, _, _, _] => rw [h] at hl; simp at hl; omega
    have hx : x = 3 := by have := bt_nums s 0 h0; simp only [hL] at this; simpa using this.symm.trans c
    have hy : bt s 1 = e1 := by have := bt_nums s 1 (by omega); simp only [hL] at this; simpa using this
    have h12 : bt s 12 = e12 := by have := bt_nums s 12 (by omega); simp only [hL] at this; simpa using this
    have hA : nums (s.extract 1 9) = [e1, e2, e3, e4, e5, e6, e7, e8] := by rw [nums_ext, hL]; rfl
    have hB : nums (s.extract 9 12) = [e9, e10, e11] := by rw [nums_ext, hL]; rfl
    obtain ⟨p1, p2⟩ := read_ok (s.extract 1 9) (by rw [ByteArray.size_extract]; omega)
    obtain ⟨q1, q2⟩ := read_ok (s.extract 9 12) (by rw [ByteArray.size_extract]; omega)
    have rA := nums_range (s.extract 1 9)
    have rB := nums_range (s.extract 9 12)
    have r12 := nums_range s e12 (by rw [hL]; simp)
    rw [hA] at p1 p2 rA
    rw [hB] at q1 q2 rB
    have fB := F_lt _ rB
    have fA : (0 ≤ F [e1, e2, e3, e4, e5, e6, e7, e8] ∧ F [e1, e2, e3, e4, e5, e6, e7, e8] < 18446744073709551616) ∧ (e1 ≥ 128 ↔ F [e1, e2, e3, e4, e5, e6, e7, e8] ≥ 9223372036854775808) := by
      have a1 := rA e1 (by simp); have a2 := rA e2 (by simp); have a3 := rA e3 (by simp); have a4 := rA e4 (by simp)
      have a5 := rA e5 (by simp); have a6 := rA e6 (by simp); have a7 := rA e7 (by simp); have a8 := rA e8 (by simp)
      simp only [F, List.foldl_cons, List.foldl_nil]
      omega
    have same := fun (a b K : Int) => num_same a b K e12 [e1, e2, e3, e4, e5, e6, e7, e8] [e9, e10, e11] rfl rfl rA rB
    obtain ⟨G, hG⟩ : ∃ G, F [e1, e2, e3, e4, e5, e6, e7, e8] = G := ⟨_, rfl⟩
    obtain ⟨X, hX⟩ : ∃ X, F [e9, e10, e11] = X := ⟨_, rfl⟩
    rw [hG] at p1 p2 fA
    rw [hX] at q1 q2 fB
    simp only [hG, hX] at same
    obtain ⟨⟨G0, G1⟩, G2⟩ := fA
    have fX : 0 ≤ X ∧ X < 16777216 := by simp only [List.length_cons, List.length_nil, Nat.reduceAdd, Int.reducePow] at fB; exact fB
    rw [wrap_in X (by omega) (by omega)] at q1 q2
    have take : ∀ K N S, K = 2 ∨ K = 3 → (nums (enc K N S E0) = (nums s).take (13 : Int).toNat ↔ (dig 8 (mil N S / 1000000 + 1152921504606846976) ++ (dig 3 (mil N S % 1000000) ++ [K])) = [e1, e2, e3, e4, e5, e6, e7, e8] ++ ([e9, e10, e11] ++ [e12])) := by
      intro K N S hK
      rw [enc_num K N S E0 hK, hL, hx]
      exact ⟨fun h => List.tail_eq_of_cons_eq h, fun h => congrArg (List.cons 3) h⟩
    obtain ⟨W, hW⟩ : ∃ W, wrap64 (wrap64 G - 1152921504606846976) = W := ⟨_, rfl⟩
    have hWlo : e1 < 128 → W = G - 1152921504606846976 := fun h => by
      rw [← hW, wrap_in G (by omega) (by omega), wrap_in _ (by omega) (by omega)]
    have hWhi : ¬ e1 < 128 → W < -1000000000000001 ∨ W > 1000000000000000 := fun h => by
      have g : G ≥ 9223372036854775808 := G2.1 (by omega)
      rw [← hW, show wrap64 G = G - 18446744073709551616 by simp only [wrap64]; omega]
      simp only [wrap64]
      omega
    -- the program: into the two ways
    have into : ∀ out (r : List S42 × Int), (e12 = 3 → Ev (fun k => if W < -1000000001 then (impl_KeyValues.j1 k out s 13 W X true) else (impl_KeyValues.j1 k out s 13 W X (decide (W > 1000000000)))) r) → (e12 ≠ 3 → Ev (fun k => impl_KeyValues.j2 k out s 13 2 W 0 E0) r) → Ev (fun k => impl_KeyValues.l0 k out s) r := by
      intro out r f g
      refine Ev.succ ?_
      simp only [impl_KeyValues.l0]
      refine Ev.neg (ne_nil h0) (Ev.pos (by omega) (Ev.neg n1 (Ev.neg n2 (Ev.pos c (Ev.pos hz (Ev.pos (by omega) (Ev.pos (by omega) (Ev.bind p2 (Ev.pos (by omega) (Ev.pos (by omega) (Ev.bind q2 (Ev.pos (by omega) ?_))))))))))))
      rw [h12, hW]
      by_cases k : e12 = 3
      · exact Ev.pos k (f k)
      · exact Ev.neg k (g k)
    have j1t : ∀ out (b : Bool), b = true → Ev (fun k => impl_KeyValues.j1 k out s 13 W X b) (([] : List S42), 5) := by
      rintro out b rfl
      exact Ev.succ (by simp only [impl_KeyValues.j1]; exact Ev.pos (by trivial) (Ev.some' rfl))
    -- the reference, by the head's bound
    have sno : ¬ e1 < 128 → Ev (fun k => spec_l01Next.f k s) (0, 0, 0, E0, 0) := by
      intro h
      simp only [spec_l01Next.f]
      refine Ev.pos (by omega) (Ev.neg n1 (Ev.neg n2 (Ev.pos c (Ev.neg (by omega) (Ev.pos (by omega) (no _ ?_))))))
      rw [hy]
      simpa using (show e1 ≥ 128 by omega)
    have sin : e1 < 128 → ∀ r, Ev (fun k => if W > 1000000000000000 then (spec_l01Next.j1 k s W X true) else (if W < (-1000000000000000) then (spec_l01Next.j1 k s W X true) else (spec_l01Next.j1 k s W X (decide (X > 999999))))) r → Ev (fun k => spec_l01Next.f k s) r := by
      intro h r hr
      simp only [spec_l01Next.f]
      refine Ev.pos (by omega) (Ev.neg n1 (Ev.neg n2 (Ev.pos c (Ev.neg (by omega) (Ev.pos (by omega) ?_)))))
      rw [hy, decide_eq_false (show ¬ e1 ≥ 128 by omega)]
      refine Ev.succ ?_
      simp only [spec_l01Next.j0]
      refine Ev.neg (by simp) (Ev.pos (by omega) (Ev.pos (by omega) (Ev.bind p1 (Ev.pos (by omega) (Ev.pos (by omega) (Ev.bind q1 ?_))))))
      rw [hW]
      exact hr
    have s1t : ∀ b : Bool, b = true → Ev (fun k => spec_l01Next.j1 k s W X b) (0, 0, 0, E0, 0) := by
      rintro b rfl; exact Ev.succ (by simp only [spec_l01Next.j1]; exact Ev.pos (by trivial) (Ev.some' rfl))
    have sbig : e1 < 128 → (W > 1000000000000000 ∨ W < -1000000000000000 ∨ X > 999999) → Ev (fun k => spec_l01Next.f k s) (0, 0, 0, E0, 0) := by
      intro h hb
      refine sin h _ ?_
      by_cases a : W > 1000000000000000
      · exact Ev.pos a (s1t _ rfl)
      · by_cases b : W < -1000000000000000
        · exact Ev.neg a (Ev.pos b (s1t _ rfl))
        · exact Ev.neg a (Ev.neg b (s1t _ (by simpa using (show X > 999999 by omega))))
    have sj2 : e1 < 128 → -1000000000000000 ≤ W → W ≤ 1000000000000000 → X ≤ 999999 → ∀ r, (e12 = 2 → Ev (fun k => spec_l01Next.j2 k s W X (X == 0)) r) → (e12 ≠ 2 → Ev (fun k => spec_l01Next.j2 k s W X false) r) → Ev (fun k => spec_l01Next.f k s) r := by
      intro h w0 w1 x1 r f g
      refine sin h _ (Ev.neg (by omega) (Ev.neg (by omega) ?_))
      rw [decide_eq_false (show ¬ X > 999999 by omega)]
      refine Ev.succ ?_
      simp only [spec_l01Next.j1]
      refine Ev.neg (by simp) (Ev.pos (by omega) ?_)
      rw [h12]
      by_cases k : e12 = 2
      · exact Ev.pos k (f k)
      · exact Ev.neg k (g k)
    have s3f : ∀ b : Bool, b = false → Ev (fun k => spec_l01Next.j3 k W X b) (0, 0, 0, E0, 0) := by
      rintro b rfl; exact Ev.succ (by simp only [spec_l01Next.j3]; exact Ev.neg (by simp) (Ev.some' rfl))
    by_cases k3 : e12 = 3
    · -- a Dec
      by_cases wl : W < -1000000001
      · have hI : Im s none := fun out => into out _ (fun _ => Ev.pos wl (j1t out _ rfl)) (fun h => absurd k3 h)
        by_cases hh : e1 < 128
        · by_cases wb : W < -1000000000000000 ∨ X > 999999
          · exact ⟨none, ⟨0, 0, 0, E0, sbig hh (by omega)⟩, hI⟩
          · refine ⟨none, ⟨0, 0, 0, E0, sj2 hh (by omega) (by omega) (by omega) _ (fun h => by omega) (fun _ => Ev.succ ?_)⟩, hI⟩
            simp only [spec_l01Next.j2]
            refine Ev.neg (by simp) (Ev.pos (by omega) ?_)
            rw [h12, decide_eq_false (show ¬ W ≥ -1000000000 by omega)]
            exact Ev.pos k3 (Ev.pos (by omega) (s3f _ rfl))
        · exact ⟨none, ⟨0, 0, 0, E0, sno hh⟩, hI⟩
      by_cases wh : W > 1000000000
      · have hI : Im s none := fun out => into out _ (fun _ => Ev.neg wl (j1t out _ (by simpa using wh))) (fun h => absurd k3 h)
        by_cases hh : e1 < 128
        · by_cases wb : W > 1000000000000000 ∨ X > 999999
          · exact ⟨none, ⟨0, 0, 0, E0, sbig hh (by omega)⟩, hI⟩
          · refine ⟨none, ⟨0, 0, 0, E0, sj2 hh (by omega) (by omega) (by omega) _ (fun h => by omega) (fun _ => Ev.succ ?_)⟩, hI⟩
            simp only [spec_l01Next.j2]
            refine Ev.neg (by simp) (Ev.pos (by omega) ?_)
            rw [h12]
            exact Ev.pos k3 (Ev.neg (by omega) (s3f _ rfl))
        · exact ⟨none, ⟨0, 0, 0, E0, sno hh⟩, hI⟩
      have hh : e1 < 128 := by
        rcases Int.lt_or_le e1 128 with h | h
        · exact h
        · have := hWhi (by omega); omega
      have hWG := hWlo hh
      have hM : wrap64 (wrap64 (W * 1000000) + X) = W * 1000000 + X := by rw [wrap_in (W * 1000000) (by omega) (by omega), wrap_in _ (by omega) (by omega)]
      have p6 := pow_i (n := 6) (by omega) (by omega)
      rw [show tn 6 = 1000000 from rfl] at p6
      have ij1 : ∀ out (r : List S42 × Int), (∀ y1 y2 y3 y4 y5, Ev (fun k => impl_decOf.f k (W * 1000000 + X) 6) (y1, y2, y3, y4, y5) → Ev (fun k => if y5 = 0 then (impl_KeyValues.j2 k out s 13 y1 y2 y3 y4) else (some (([] : List S42), 5))) r) → (∃ y1 y2 y3 y4 y5, Ev (fun k => impl_decOf.f k (W * 1000000 + X) 6) (y1, y2, y3, y4, y5)) → Ev (fun k => impl_KeyValues.l0 k out s) r := by
        rintro out r f ⟨y1, y2, y3, y4, y5, hy5⟩
        refine into out r (fun _ => Ev.neg wl ?_) (fun h => absurd k3 h)
        rw [decide_eq_false wh]
        refine Ev.succ ?_
        simp only [impl_KeyValues.j1]
        refine Ev.neg (by simp) (Ev.bind p6 ?_)
        rw [hM]
        exact Ev.bind hy5 (f _ _ _ _ _ hy5)
      have uniq : ∀ {α : Type} {g : Nat → Option α} {a b : α}, Ev g a → Ev g b → a = b := fun h h' => by
        obtain ⟨k, u1, u2⟩ := Ev.both h h'
        rw [u1] at u2
        exact Option.some.inj u2
      rcases dec_both (W * 1000000 + X) (by omega) (by omega) with ⟨d1, d2⟩ | ⟨n', s', d1, d2, s0, s6, m0, m1, mt, mm⟩
      · -- out of range
        have hI : Im s none := fun out => ij1 out _ (fun y1 y2 y3 y4 y5 h => by
          have e := uniq h d2
          injection e with _ e; injection e with _ e; injection e with _ e; injection e with _ e
          subst e
          exact Ev.neg (by omega) (Ev.some' rfl)) ⟨_, _, _, _, _, d2⟩
        by_cases wb : X > 999999
        · exact ⟨none, ⟨0, 0, 0, E0, sbig hh (by omega)⟩, hI⟩
        · refine ⟨none, ⟨0, 0, 0, E0, sj2 hh (by omega) (by omega) (by omega) _ (fun h => by omega) (fun _ => Ev.succ ?_)⟩, hI⟩
          simp only [spec_l01Next.j2]
          refine Ev.neg (by simp) (Ev.pos (by omega) ?_)
          rw [h12]
          refine Ev.pos k3 (Ev.pos (by omega) ?_)
          by_cases wm : W ≥ -1000000000
          · rw [decide_eq_true wm]
            refine Ev.succ ?_
            simp only [spec_l01Next.j3]
            refine Ev.pos (by trivial) ?_
            rw [hM]
            exact Ev.bind d1 (Ev.neg (by show ¬ (3 : Int) = 0; omega) (Ev.some' rfl))
          · exact s3f _ (decide_eq_false wm)
      · have hv : VOK 3 n' s' E0 := .inr (.inr (.inr (.inl ⟨rfl, m0, m1, s0, s6, mt, rfl⟩)))
        have hml : -1000000000000000 ≤ mil n' s' ∧ mil n' s' ≤ 1000000000000000 := by
          unfold mil tn
          rcases seven s0 s6 with rfl | rfl | rfl | rfl | rfl | rfl | rfl <;> simp only [Int.reduceToNat, Int.reducePow, Int.reduceSub] <;> omega
        rw [mm] at hml
        by_cases wb : X > 999999
        · refine ⟨none, ⟨0, 0, 0, E0, sbig hh (by omega)⟩, fun out => ij1 out _ (fun y1 y2 y3 y4 y5 h => ?_) ⟨_, _, _, _, _, d2⟩⟩
          have e := uniq h d2
          injection e with e1' e; injection e with e2' e; injection e with e3' e; injection e with e4' e5'
          rw [e1', e2', e3', e4', e5']
          refine Ev.pos rfl (j2_other out s 13 3 n' s' E0 (by omega) (by omega) hv (fun hne => ?_))
          have := (same _ _ 3 (by rw [mm]; omega) (by rw [mm]; omega) (by rw [mm]; omega) (by rw [mm]; omega)).1 ((take 3 n' s' (.inr rfl)).1 hne)
          rw [mm] at this
          omega
        · have hq : mil n' s' / 1000000 = W ∧ mil n' s' % 1000000 = X := by rw [mm]; omega
          refine ⟨some (⟨3, n', s', E0⟩, 13), ⟨?_, by omega, by omega⟩, fun out r ho h => ij1 out r (fun y1 y2 y3 y4 y5 hh' => ?_) ⟨_, _, _, _, _, d2⟩⟩
          · refine sj2 hh (by omega) (by omega) (by omega) _ (fun h => by omega) (fun _ => Ev.succ ?_)
            simp only [spec_l01Next.j2]
            refine Ev.neg (by simp) (Ev.pos (by omega) ?_)
            rw [h12]
            refine Ev.pos k3 (Ev.pos (by omega) ?_)
            rw [decide_eq_true (show W ≥ -1000000000 by omega)]
            refine Ev.succ ?_
            simp only [spec_l01Next.j3]
            refine Ev.pos (by trivial) ?_
            rw [hM]
            exact Ev.bind d1 (Ev.pos rfl (Ev.some' rfl))
          · have e := uniq hh' d2
            injection e with e1' e; injection e with e2' e; injection e with e3' e; injection e with e4' e5'
            rw [e1', e2', e3', e4', e5']
            refine Ev.pos rfl (j2_same out s 13 3 n' s' E0 (by omega) (by omega) hv ?_ ho r h)
            refine (take 3 n' s' (.inr rfl)).2 ((same _ _ 3 ?_ ?_ ?_ ?_).2 ⟨?_, ?_, ?_⟩) <;> omega
    · -- an Int, or nothing
      have m2 : mil W 0 = W * 1000000 := rfl
      by_cases wv : -1000000000000000 ≤ W ∧ W ≤ 1000000000000000
      · have hh : e1 < 128 := by
          rcases Int.lt_or_le e1 128 with h | h
          · exact h
          · have := hWhi (by omega); omega
        have hWG := hWlo hh
        have hv : VOK 2 W 0 E0 := .inr (.inr (.inl ⟨rfl, wv.1, wv.2, rfl, rfl⟩))
        have crit : nums (enc 2 W 0 E0) = (nums s).take (13 : Int).toNat ↔ G = W + 1152921504606846976 ∧ X = 0 ∧ (2 : Int) = e12 := by
          rw [take 2 W 0 (.inl rfl), m2, show W * 1000000 / 1000000 = W by omega, show W * 1000000 % 1000000 = 0 by omega]
          exact same _ _ 2 (by omega) (by omega) (by omega) (by omega)
        by_cases good : X = 0 ∧ e12 = 2
        · refine ⟨some (⟨2, W, 0, E0⟩, 13), ⟨?_, by omega, by omega⟩, fun out r ho h => into out r (fun h => absurd h k3) (fun _ => j2_same out s 13 2 W 0 E0 (by omega) (by omega) hv (crit.2 ⟨by omega, good.1, good.2.symm⟩) ho r h)⟩
          refine sj2 hh (by omega) (by omega) (by omega) _ (fun _ => Ev.succ ?_) (fun h => absurd good.2 h)
          simp only [spec_l01Next.j2]
          exact Ev.pos (by simpa using good.1) (Ev.some' rfl)
        · have hI : Im s none := fun out => into out _ (fun h => absurd h k3) (fun _ => j2_other out s 13 2 W 0 E0 (by omega) (by omega) hv (fun h => good ⟨(crit.1 h).2.1, (crit.1 h).2.2.symm⟩))
          by_cases wb : X > 999999
          · exact ⟨none, ⟨0, 0, 0, E0, sbig hh (by omega)⟩, hI⟩
          · have t : ∀ b : Bool, b = false → Ev (fun k => spec_l01Next.j2 k s W X b) (0, 0, 0, E0, 0) := by
              rintro b rfl
              refine Ev.succ ?_
              simp only [spec_l01Next.j2]
              refine Ev.neg (by simp) (Ev.pos (by omega) ?_)
              rw [h12]
              exact Ev.neg k3 (s3f _ rfl)
            exact ⟨none, ⟨0, 0, 0, E0, sj2 hh (by omega) (by omega) (by omega) _ (fun h => t _ (by simpa using fun e => good ⟨e, h⟩)) (fun _ => t _ rfl)⟩, hI⟩
      · have hI : Im s none := fun out => into out _ (fun h => absurd h k3) (fun _ => j2_bad out s 13 2 W 0 E0 (by omega) (by omega) (by rw [nil_size]; omega) (by rintro (h | h | h | h | h | h) <;> omega))
        by_cases hh : e1 < 128
        · exact ⟨none, ⟨0, 0, 0, E0, sbig hh (by omega)⟩, hI⟩
        · exact ⟨none, ⟨0, 0, 0, E0, sno hh⟩, hI⟩
  · refine ⟨none, ⟨0, 0, 0, E0, ?_⟩, fun out => ?_⟩
    · simp only [spec_l01Next.f]
      exact Ev.pos (by omega) (Ev.neg n1 (Ev.neg n2 (Ev.pos c (Ev.pos (by omega) (no _ rfl)))))
    · refine Ev.succ ?_
      simp only [impl_KeyValues.l0]
      exact Ev.neg (ne_nil h0) (Ev.pos (by omega) (Ev.neg n1 (Ev.neg n2 (Ev.pos c (Ev.neg hz (j2_long out s 13 0 0 0 E0 (by omega) (by omega)))))))
theorem step (s : ByteArray) (h0 : 0 < s.size) (h1 : s.size ≤ 4000) : ∃ o, Sp s o ∧ Im s o := by
  by_cases n1 : bt s 0 = 1
  · exact step1 s h0 h1 n1
  by_cases n2 : bt s 0 = 2
  · exact step2 s h0 h1 n2
  by_cases n3 : bt s 0 = 3
  · exact step3 s h0 h1 n3
  by_cases n4 : bt s 0 = 4
  · exact step4 s h0 h1 n4
  by_cases n5 : bt s 0 = 5
  · exact step5 s h0 h1 n5
  exact step0 s h0 h1 n1 n2 n3 n4 n5
/-! ### all of a key -/
theorem full (d : Nat) : ∀ (s : ByteArray) (out : List S42), s.size ≤ d → s.size ≤ 4000 → 16 ≤ out.length → (out.length = 16 → 0 < s.size) → out.length + s.size ≤ 500000 → Ev (fun k => impl_KeyValues.l0 k out s) (([] : List S42), 5) := by
  have none_ : ∀ (s : ByteArray) (out : List S42), s.size = 0 → 16 < out.length → Ev (fun k => impl_KeyValues.l0 k out s) (([] : List S42), 5) := by
    intro s out hs ho
    refine Ev.succ ?_
    simp only [impl_KeyValues.l0]
    exact Ev.pos ((toList_nil s).2 (by omega)) (Ev.pos (by omega) (Ev.some' rfl))
  induction d with
  | zero => intro s out hd h1 h2 h3 h4; exact none_ s out (by omega) (by omega)
  | succ d ih =>
    intro s out hd h1 h2 h3 h4
    rcases Nat.eq_zero_or_pos s.size with hz | hz
    · exact none_ s out hz (by omega)
    · obtain ⟨o, _, hi⟩ := step s hz h1
      cases o with
      | none => exact hi out
      | some p =>
        obtain ⟨v, n⟩ := p
        obtain ⟨_, hs, _⟩ : Sp s (some (v, n)) ∧ _ ∧ True := ⟨by assumption, by assumption, trivial⟩
        have hn := ‹Sp s (some (v, n))›.2
        have hz2 : (s.extract n.toNat s.size).size = s.size - n.toNat := by rw [ByteArray.size_extract]; omega
        exact hi out _ (by omega) (ih _ _ (by rw [hz2]; omega) (by rw [hz2]; omega) (by rw [List.length_append]; simp; omega) (by rw [List.length_append]; simp; omega) (by rw [hz2, List.length_append]; simp; omega))
theorem kv_from (d : Nat) : ∀ (s : ByteArray) (out : List S42), s.size ≤ d → s.size ≤ 4000 → out.length ≤ 16 → ∃ r : List S42 × Int, Ev (fun k => spec_KeyValues.l0 k s out) r ∧ Ev (fun k => impl_KeyValues.l0 k out s) r ∧ r.1.length ≤ 16 := by
  have none_ : ∀ (s : ByteArray) (out : List S42), s.size = 0 → out.length ≤ 16 → ∃ r : List S42 × Int, Ev (fun k => spec_KeyValues.l0 k s out) r ∧ Ev (fun k => impl_KeyValues.l0 k out s) r ∧ r.1.length ≤ 16 := by
    intro s out hs ho
    refine ⟨(out, 0), Ev.succ ?_, Ev.succ ?_, ho⟩
    · simp only [spec_KeyValues.l0]; exact Ev.neg (by omega) (Ev.some' rfl)
    · simp only [impl_KeyValues.l0]; exact Ev.pos ((toList_nil s).2 (by omega)) (Ev.neg (by omega) (Ev.some' rfl))
  induction d with
  | zero => intro s out hd h1 h2; exact none_ s out (by omega) h2
  | succ d ih =>
    intro s out hd h1 h2
    rcases Nat.eq_zero_or_pos s.size with hz | hz
    · exact none_ s out hz h2
    · obtain ⟨o, hsp, hi⟩ := step s hz h1
      cases o with
      | none =>
        obtain ⟨a, b, c, e, hs⟩ := hsp
        refine ⟨([], 5), Ev.succ ?_, hi out, by simp⟩
        simp only [spec_KeyValues.l0]
        exact Ev.pos (by omega) (Ev.bind hs (Ev.pos rfl (Ev.some' rfl)))
      | some p =>
        obtain ⟨v, n⟩ := p
        obtain ⟨hs, hn1, hn2⟩ := hsp
        have hz2 : (s.extract n.toNat s.size).size = s.size - n.toNat := by rw [ByteArray.size_extract]; omega
        by_cases ho : (out.length : Int) ≥ 16
        · refine ⟨([], 5), Ev.succ ?_, full s.size s out (by omega) h1 (by omega) (fun _ => hz) (by omega), by simp⟩
          simp only [spec_KeyValues.l0]
          exact Ev.pos (by omega) (Ev.bind hs (Ev.neg (by show ¬ n = 0; omega) (Ev.pos ho (Ev.some' rfl))))
        · obtain ⟨r, r1, r2, r3⟩ := ih (s.extract n.toNat s.size) (out ++ [v]) (by rw [hz2]; omega) (by rw [hz2]; omega) (by rw [List.length_append]; simp; omega)
          refine ⟨r, Ev.succ ?_, hi out r (by omega) r2, r3⟩
          simp only [spec_KeyValues.l0]
          exact Ev.pos (by omega) (Ev.bind hs (Ev.neg (by show ¬ n = 0; omega) (Ev.neg ho (Ev.pos (by omega) (Ev.pos (by show 0 ≤ n; omega) (Ev.pos hn2 r1))))))
theorem kv_both (s : ByteArray) : ∃ r : List S42 × Int, Ev (fun k => spec_KeyValues.f k s) r ∧ Ev (fun k => impl_KeyValues.f k s) r ∧ r.1.length ≤ 16 := by
  simp only [spec_KeyValues.f, impl_KeyValues.f]
  by_cases c : (s.size : Int) > 4000
  · exact ⟨([], 5), Ev.pos c (Ev.some' rfl), Ev.pos c (Ev.some' rfl), by simp⟩
  · obtain ⟨r, r1, r2, r3⟩ := kv_from s.size s [] (by omega) (by omega) (by simp)
    exact ⟨r, Ev.neg c r1, Ev.neg c r2, r3⟩
end Go.Proofs.Ytjplogeifleojaa.QFnExactKeyValuesB
