/- Key bytes: the reference's and the program's KeyBytes write a valid row as its values' bytes one behind the other, and come to one code at every row. No condition but that the texts' sizes are ints. -/
import Derived.Test.YtjplogeifleojaaKoOrd
namespace Go.Proofs.Ytjplogeifleojaa.QFnKeyOrderB
set_option linter.unusedVariables false
set_option linter.unusedSimpArgs false
open Go.RowKit Go.Proofs.Ytjplogeifleojaa.QFnKeyOrder Go.Proofs.YtjplogeifleojaaW.PrintWords Go.Proofs.YtjplogeifleojaaW.PrintLast Go.Proofs.YtjplogeifleojaaW.PrintMore Go.Proofs.YtjplogeifleojaaU Go.Proofs.Ytjplogeifleojaa.QFnKeyOrderV Go.Proofs.Ytjplogeifleojaa.QFnKeyOrderO
theorem from8 {α : Type} {g : Nat → Option α} {r : α} (h : ∀ k, g (k + 8) = some r) : Ev g r := ⟨8, fun n hn => by
  obtain ⟨m, rfl⟩ : ∃ m, n = m + 8 := ⟨n - 8, by omega⟩
  exact h m⟩
theorem pow_both {n : Int} (h0 : 0 ≤ n) (h1 : n ≤ 6) : Ev (fun k => spec_l01Power.f k n) (tn n) ∧ Ev (fun k => impl_p10.f k n) (tn n) := by
  rcases seven h0 h1 with rfl | rfl | rfl | rfl | rfl | rfl | rfl <;> exact ⟨from8 (fun k => by simp [spec_l01Power.f, spec_l01Power.l0, wrap64, tn]), from8 (fun k => by simp [impl_p10.f, impl_p10.l0, wrap64, tn])⟩
theorem tn_pos {n : Int} (h0 : 0 ≤ n) (h1 : n ≤ 6) : tn n ≠ 0 ∧ 0 < tn n ∧ tn n ≤ 1000000 := by rcases seven h0 h1 with rfl | rfl | rfl | rfl | rfl | rfl | rfl <;> decide
/-! ### a number's bytes -/
theorem bytes_from (j : Nat) : ∀ (n : Int) (xs : List Int), 0 ≤ n → n ≤ 9223372036854775807 → j ≤ xs.length → xs.length ≤ 8 →
    Ev (fun k => spec_l01Bytes.l0 k n xs ((j : Int) - 1)) (strOfNums (dig j n ++ xs.drop j)) ∧ Ev (fun k => impl_bytesOf.l0 k n xs ((j : Int) - 1)) (strOfNums (dig j n ++ xs.drop j)) := by
  induction j with
  | zero =>
    intro n xs h0 h1 hj hx
    refine ⟨Ev.succ ?_, Ev.succ ?_⟩
    · simp only [spec_l01Bytes.l0]; exact Ev.neg (by omega) (Ev.some' (by simp [dig]))
    · simp only [impl_bytesOf.l0]; exact Ev.neg (by omega) (Ev.some' (by simp [dig]))
  | succ j ih =>
    intro n xs h0 h1 hj hx
    obtain ⟨e1, e2⟩ := ih (n / 256) (xs.set j (n % 256)) (by omega) (by omega) (by rw [List.length_set]; omega) (by rw [List.length_set]; omega)
    have hd : dig j (n / 256) ++ (xs.set j (n % 256)).drop j = dig (j + 1) n ++ xs.drop (j + 1) := by
      have hl : j < (xs.set j (n % 256)).length := by rw [List.length_set]; omega
      rw [List.drop_eq_getElem_cons hl, List.getElem_set_self, List.drop_set_of_lt (by omega), dig, List.append_assoc]
      rfl
    rw [hd] at e1 e2
    refine ⟨Ev.succ ?_, Ev.succ ?_⟩
    · simp only [spec_l01Bytes.l0]
      refine Ev.pos (by omega) (Ev.pos (by omega) (Ev.pos (by omega) ?_))
      rw [Int.tdiv_eq_ediv_of_nonneg h0, tmod_nn _ _ h0, wrap_in (n / 256) (by omega) (by omega), wrap_in (((j + 1 : Nat) : Int) - 1 - 1) (by omega) (by omega), show (((j + 1 : Nat) : Int) - 1).toNat = j by omega, show n % 256 % 256 = n % 256 by omega, show ((j + 1 : Nat) : Int) - 1 - 1 = (j : Int) - 1 by omega]
      exact e1
    · simp only [impl_bytesOf.l0]
      refine Ev.pos (by omega) (Ev.pos (by omega) (Ev.pos (by omega) ?_))
      rw [wrap_in (((j + 1 : Nat) : Int) - 1 - 1) (by omega) (by omega), show (((j + 1 : Nat) : Int) - 1).toNat = j by omega, show ((j + 1 : Nat) : Int) - 1 - 1 = (j : Int) - 1 by omega]
      exact e2
theorem dig_size (j : Nat) (n : Int) : (strOfNums (dig j n)).size = j := (strOfNums_size _).trans (dig_len j n)
theorem bytes_both (n : Int) (m : Nat) (h0 : 0 ≤ n) (h1 : n ≤ 9223372036854775807) (hm : m ≤ 8) :
    (strOfNums (dig m n)).size = m ∧ Ev (fun k => spec_l01Bytes.f k n (m : Int)) (strOfNums (dig m n)) ∧ Ev (fun k => impl_bytesOf.f k n (m : Int)) (strOfNums (dig m n)) := by
  obtain ⟨e1, e2⟩ := bytes_from m n (List.replicate m 0) h0 h1 (by simp) (by simp; exact hm)
  rw [List.drop_of_length_le (by simp), List.append_nil] at e1 e2
  refine ⟨dig_size m n, ?_, ?_⟩
  · simp only [spec_l01Bytes.f]
    refine Ev.pos (by omega) (Ev.pos (by omega) ?_)
    rw [wrap_in _ (by omega) (by omega), Int.toNat_natCast]
    exact e1
  · simp only [impl_bytesOf.f]
    refine Ev.pos (by omega) (Ev.pos (by omega) ?_)
    rw [wrap_in _ (by omega) (by omega), Int.toNat_natCast]
    exact e2
/-! ### one number: the reference's parts and the program's -/
theorem parts (K N S : Int) (s : ByteArray) (hK : K = 2 ∧ S = 0 ∧ -1000000000000000 ≤ N ∧ N ≤ 1000000000000000 ∨ K = 3 ∧ 0 ≤ S ∧ S ≤ 6 ∧ -1000000000 ≤ N ∧ N ≤ 1000000000) :
    ∃ w x, w * 1000000 + x = mil N S ∧ Ev (fun k => spec_l01Split.f k K N S s) (w, x) ∧ -1000000000000001 ≤ w ∧ w ≤ 1000000000000000 ∧ 0 ≤ x ∧ x < 1000000 ∧
      (0 ≤ S ∧ S ≤ 6) ∧ (Int.tmod N (tn S) < 0 → wrap64 ((wrap64 (Int.tdiv N (tn S))) - 1) = w ∧ wrap64 (wrap64 (Int.tmod N (tn S) + tn S) * tn (6 - S)) = x) ∧ (¬ Int.tmod N (tn S) < 0 → wrap64 (Int.tdiv N (tn S)) = w ∧ wrap64 (Int.tmod N (tn S) * tn (6 - S)) = x) := by
  rcases hK with ⟨rfl, rfl, h0, h1⟩ | ⟨rfl, h2, h3, h0, h1⟩
  · have e1 : tn 0 = 1 := rfl
    have e2 : Int.tmod N 1 = 0 := Int.tmod_one N
    have e3 : Int.tdiv N 1 = N := Int.tdiv_one N
    refine ⟨N, 0, ?_, ?_, by omega, by omega, by omega, by omega, by omega, fun h => ?_, fun _ => ?_⟩
    · unfold mil tn; rw [show (10 : Int) ^ ((6 : Int) - 0).toNat = 1000000 from rfl]; omega
    · simp only [spec_l01Split.f]; exact Ev.pos (by trivial) (Ev.some' rfl)
    · rw [e1, e2] at h; omega
    · rw [e1, e2, e3]; exact ⟨wrap_in N (by omega) (by omega), by rw [Int.zero_mul]; exact wrap_in 0 (by omega) (by omega)⟩
  · have hp := tn_pos h2 h3
    have e1 := Int.mul_tdiv_add_tmod N (tn S)
    have e2 := Int.tmod_lt_of_pos N hp.2.1
    have e3 := Int.lt_tmod_of_pos N hp.2.1
    obtain ⟨p1, _⟩ := pow_both (n := S) h2 h3
    obtain ⟨p2, _⟩ := pow_both (n := 6 - S) (by omega) (by omega)
    obtain ⟨q, hq⟩ : ∃ q, Int.tdiv N (tn S) = q := ⟨_, rfl⟩
    obtain ⟨m, hm⟩ : ∃ m, Int.tmod N (tn S) = m := ⟨_, rfl⟩
    rw [hq, hm] at e1
    rw [hm] at e2 e3
    have hqb : -1000000001 ≤ q ∧ q ≤ 1000000001 := by
      rcases seven h2 h3 with rfl | rfl | rfl | rfl | rfl | rfl | rfl <;> simp only [tn, Int.reduceToNat, Int.reducePow] at e1 e2 e3 <;> omega
    have w6 : wrap64 (6 - S) = 6 - S := wrap_in _ (by omega) (by omega)
    rw [hq, hm]
    by_cases c : m < 0
    · have a1 : 0 ≤ (m + tn S) * tn (6 - S) ∧ (m + tn S) * tn (6 - S) < 1000000 := by
        rcases seven h2 h3 with rfl | rfl | rfl | rfl | rfl | rfl | rfl <;> simp only [tn, Int.reduceToNat, Int.reducePow, Int.reduceSub] at e1 e2 e3 hp ⊢ <;> omega
      have a2 : wrap64 ((wrap64 q) - 1) = q - 1 := by rw [wrap_in q (by omega) (by omega), wrap_in (q - 1) (by omega) (by omega)]
      have a3 : wrap64 (wrap64 (m + tn S) * tn (6 - S)) = (m + tn S) * tn (6 - S) := by rw [wrap_in (m + tn S) (by omega) (by omega), wrap_in _ (by omega) (by omega)]
      refine ⟨q - 1, (m + tn S) * tn (6 - S), (by unfold mil; rcases seven h2 h3 with rfl | rfl | rfl | rfl | rfl | rfl | rfl <;> simp only [tn, Int.reduceToNat, Int.reducePow, Int.reduceSub] at e1 e2 e3 hp ⊢ <;> omega), ?_, by omega, by omega, a1.1, a1.2, by omega, fun _ => ⟨a2, a3⟩, fun h => absurd c h⟩
      simp only [spec_l01Split.f]
      refine Ev.neg (by omega) (Ev.bind p1 (Ev.neg hp.1 (Ev.pos (by rw [hm]; exact c) ?_)))
      rw [w6]
      refine Ev.bind p2 (Ev.some' ?_)
      rw [hq, hm, a2, a3]
    · have a1 : 0 ≤ m * tn (6 - S) ∧ m * tn (6 - S) < 1000000 := by
        rcases seven h2 h3 with rfl | rfl | rfl | rfl | rfl | rfl | rfl <;> simp only [tn, Int.reduceToNat, Int.reducePow, Int.reduceSub] at e1 e2 e3 hp ⊢ <;> omega
      have a2 : wrap64 q = q := wrap_in q (by omega) (by omega)
      have a3 : wrap64 (m * tn (6 - S)) = m * tn (6 - S) := wrap_in _ (by omega) (by omega)
      refine ⟨q, m * tn (6 - S), (by unfold mil; rcases seven h2 h3 with rfl | rfl | rfl | rfl | rfl | rfl | rfl <;> simp only [tn, Int.reduceToNat, Int.reducePow, Int.reduceSub] at e1 e2 e3 hp ⊢ <;> omega), ?_, by omega, by omega, a1.1, a1.2, by omega, fun h => absurd h c, fun _ => ⟨a2, a3⟩⟩
      simp only [spec_l01Split.f]
      refine Ev.neg (by omega) (Ev.bind p1 (Ev.neg hp.1 (Ev.neg (by rw [hm]; exact c) ?_)))
      rw [w6]
      refine Ev.bind p2 (Ev.some' ?_)
      rw [hq, hm, a2, a3]
/-! ### one value -/
theorem rd42 (l : List S42) (i : Int) (h : i.toNat < l.length) : rd_T42 l i = l[i.toNat] := getD_get l _ _ h
theorem sz1 (x : UInt8) : (⟨#[x]⟩ : ByteArray).size = 1 := rfl
theorem one (l : List S42) (i : Int) (h0 : 0 ≤ i) (h1 : i < l.length) (hl : l.length ≤ 16) (acc : ByteArray) (ha : (acc.size : Int) ≤ 202 * i) (hv : VOK (rd_T42 l i).f0 (rd_T42 l i).f1 (rd_T42 l i).f2 (rd_T42 l i).f3)
    (hs : (rd_T42 l i).f3.size ≤ 9223372036854775807) :
    ∃ bs : ByteArray, bnums bs = encI (rd_T42 l i).f0 (rd_T42 l i).f1 (rd_T42 l i).f2 (bnums (rd_T42 l i).f3) ∧ bs.size ≤ 202 ∧ (∀ r, Ev (fun k => spec_KeyBytes.l0 k l (acc ++ bs) (i + 1)) r → Ev (fun k => spec_KeyBytes.l0 k l acc i) r) ∧
      (∀ r, Ev (fun k => impl_KeyBytes.l0 k (acc ++ bs) l l.length (i + 1)) r → Ev (fun k => impl_KeyBytes.l0 k acc l l.length i) r) := by
  obtain ⟨b, hb, v1, v2⟩ := val_alike (rd_T42 l i).f0 (rd_T42 l i).f1 (rd_T42 l i).f2 (rd_T42 l i).f3 hs
  have hbt := hb.2 hv
  subst hbt
  have e3 : wrap64 (i + 1) = i + 1 := wrap_in _ (by omega) (by omega)
  -- what is written, and the two ends
  have s0 : ∀ r, Ev (fun k => (if (rd_T42 l i).f0 = 0 then (if acc.size + 1 ≤ 9223372036854775807 then (spec_KeyBytes.l0 k l (acc ++ (⟨#[1]⟩ : ByteArray)) (i + 1)) else (none)) else (if (rd_T42 l i).f0 = 1 then (if acc.size + 1 ≤ 9223372036854775807 then ((some (([((rd_T42 l i).f1) % 256] : List Int) : List Int)).bind fun y => (if (acc ++ (⟨#[2]⟩ : ByteArray)).size + (strOfNums y).size ≤ 9223372036854775807 then (spec_KeyBytes.l0 k l ((acc ++ (⟨#[2]⟩ : ByteArray)) ++ (strOfNums y)) (i + 1)) else (none))) else (none)) else (if (rd_T42 l i).f0 = 2 then (spec_KeyBytes.j1 k l acc i (rd_T42 l i).f0 ((rd_T42 l i).f0 == 2) (rd_T42 l i).f0 (rd_T42 l i).f1 (rd_T42 l i).f2 (rd_T42 l i).f3) else (spec_KeyBytes.j1 k l acc i (rd_T42 l i).f0 ((rd_T42 l i).f0 == 3) (rd_T42 l i).f0 (rd_T42 l i).f1 (rd_T42 l i).f2 (rd_T42 l i).f3))))) r → Ev (fun k => spec_KeyBytes.l0 k l acc i) r := by
    intro r h
    refine Ev.succ ?_
    simp only [spec_KeyBytes.l0, e3]
    exact Ev.pos (by omega) (Ev.pos h0 (Ev.bind v1 (Ev.pos (by trivial) h)))
  have i0 : ∀ r, Ev (fun k => (if (rd_T42 l i).f0 = 0 then (if acc.size + 1 ≤ 140737488355328 then (impl_KeyBytes.l0 k (acc ++ (⟨#[1]⟩ : ByteArray)) l l.length (i + 1)) else (none)) else (if (rd_T42 l i).f0 = 1 then ((some (([2, ((rd_T42 l i).f1) % 256] : List Int) : List Int)).bind fun y => (if acc.size + (strOfNums y).size ≤ 140737488355328 then (impl_KeyBytes.l0 k (acc ++ (strOfNums y)) l l.length (i + 1)) else (none))) else (if (rd_T42 l i).f0 = 2 then (impl_KeyBytes.j1 k acc l l.length i (rd_T42 l i).f0 ((rd_T42 l i).f0 == 2) (rd_T42 l i).f0 (rd_T42 l i).f1 (rd_T42 l i).f2 (rd_T42 l i).f3) else (impl_KeyBytes.j1 k acc l l.length i (rd_T42 l i).f0 ((rd_T42 l i).f0 == 3) (rd_T42 l i).f0 (rd_T42 l i).f1 (rd_T42 l i).f2 (rd_T42 l i).f3))))) r → Ev (fun k => impl_KeyBytes.l0 k acc l l.length i) r := by
    intro r h
    refine Ev.succ ?_
    simp only [impl_KeyBytes.l0, e3]
    exact Ev.pos (by omega) (Ev.pos h0 (Ev.pos (by omega) (Ev.bind v2 (Ev.pos (by trivial) h))))
  generalize (rd_T42 l i).f0 = K at *
  generalize (rd_T42 l i).f1 = N at *
  generalize (rd_T42 l i).f2 = S at *
  generalize (rd_T42 l i).f3 = s at *
  by_cases k0 : K = 0
  · refine ⟨⟨#[1]⟩, by unfold encI; rw [if_pos k0]; rfl, by rw [sz1]; omega, fun r h => s0 r (Ev.pos k0 (Ev.pos (by omega) h)), fun r h => i0 r (Ev.pos k0 (Ev.pos (by omega) h))⟩
  by_cases k1 : K = 1
  · have hz : (strOfNums [2, N % 256]).size = 2 := strOfNums_size _
    have hz1 : (strOfNums [N % 256]).size = 1 := strOfNums_size _
    have hap : (acc ++ (⟨#[2]⟩ : ByteArray)) ++ strOfNums [N % 256] = acc ++ strOfNums [2, N % 256] := by rw [ByteArray.append_assoc]; rfl
    refine ⟨strOfNums [2, N % 256], by unfold encI; rw [if_neg k0, if_pos k1]; exact nums_str _ (by intro x hx; simp at hx; omega), by omega, fun r h => s0 r (Ev.neg k0 (Ev.pos k1 (Ev.pos (by omega) ?_))), fun r h => i0 r (Ev.neg k0 (Ev.pos k1 ?_))⟩
    · simp only [Option.bind_some]
      refine Ev.pos (by rw [ByteArray.size_append, sz1, hz1]; omega) ?_
      rw [hap]; exact h
    · simp only [Option.bind_some]
      exact Ev.pos (by omega) h
  -- the second join
  have s1 : ∀ (B : Bool) r, (B = true ↔ (K = 2 ∨ K = 3)) → Ev (fun k => spec_KeyBytes.j1 k l acc i K B K N S s) r → Ev (fun k => spec_KeyBytes.l0 k l acc i) r := by
    intro B r hB h
    refine s0 r (Ev.neg k0 (Ev.neg k1 ?_))
    by_cases k2 : K = 2
    · refine Ev.pos k2 ?_
      rw [show (K == 2) = B from by rw [Bool.eq_iff_iff, hB]; simp [k2]]; exact h
    · refine Ev.neg k2 ?_
      rw [show (K == 3) = B from by rw [Bool.eq_iff_iff, hB]; simp [k2]]; exact h
  have i1 : ∀ (B : Bool) r, (B = true ↔ (K = 2 ∨ K = 3)) → Ev (fun k => impl_KeyBytes.j1 k acc l l.length i K B K N S s) r → Ev (fun k => impl_KeyBytes.l0 k acc l l.length i) r := by
    intro B r hB h
    refine i0 r (Ev.neg k0 (Ev.neg k1 ?_))
    by_cases k2 : K = 2
    · refine Ev.pos k2 ?_
      rw [show (K == 2) = B from by rw [Bool.eq_iff_iff, hB]; simp [k2]]; exact h
    · refine Ev.neg k2 ?_
      rw [show (K == 3) = B from by rw [Bool.eq_iff_iff, hB]; simp [k2]]; exact h
  clear s0 i0
  by_cases kn : K = 2 ∨ K = 3
  · have hn : K = 2 ∧ S = 0 ∧ -1000000000000000 ≤ N ∧ N ≤ 1000000000000000 ∨ K = 3 ∧ 0 ≤ S ∧ S ≤ 6 ∧ -1000000000 ≤ N ∧ N ≤ 1000000000 := by
      rcases hv with h | h | h | h | h | h <;> omega
    obtain ⟨w, x, hm, p, w0, w1, x0, x1, ⟨S0, S6⟩, hneg, hpos⟩ := parts K N S s hn
    obtain ⟨b8, hb8e⟩ : ∃ b8, b8 = strOfNums (dig 8 (w + 1152921504606846976)) := ⟨_, rfl⟩
    obtain ⟨b3, hb3e⟩ : ∃ b3, b3 = strOfNums (dig 3 x) := ⟨_, rfl⟩
    obtain ⟨hb8, u1, u2⟩ := bytes_both (w + 1152921504606846976) 8 (by omega) (by omega) (by omega)
    rw [← hb8e] at hb8 u1 u2
    obtain ⟨hb3, y1, y2⟩ := bytes_both x 3 (by omega) (by omega) (by omega)
    rw [← hb3e] at hb3 y1 y2
    have hz1 : (strOfNums [K % 256]).size = 1 := strOfNums_size _
    have hap : (((acc ++ (⟨#[3]⟩ : ByteArray)) ++ b8) ++ b3) ++ strOfNums [K % 256] = acc ++ ((((⟨#[3]⟩ : ByteArray) ++ b8) ++ b3) ++ strOfNums [K % 256]) := by
      simp only [ByteArray.append_assoc]
    have hsz : ((((⟨#[3]⟩ : ByteArray) ++ b8) ++ b3) ++ strOfNums [K % 256]).size = 13 := by
      rw [ByteArray.size_append, ByteArray.size_append, ByteArray.size_append, sz1, hb8, hb3, hz1]
    have hen : bnums ((((⟨#[3]⟩ : ByteArray) ++ b8) ++ b3) ++ strOfNums [K % 256]) = encI K N S (bnums s) := by
      unfold encI
      rw [if_neg k0, if_neg k1, if_neg (by omega), if_neg (by omega), show mil N S / 1000000 = w by omega, show mil N S % 1000000 = x by omega, nums_app, nums_app, nums_app, hb8e, hb3e, nums_str _ (dig_range _ _), nums_str _ (dig_range _ _), nums_str _ (by intro y hy; simp at hy; omega), List.append_assoc, List.append_assoc]
      rfl
    refine ⟨(((⟨#[3]⟩ : ByteArray) ++ b8) ++ b3) ++ strOfNums [K % 256], hen, by omega, fun r h => s1 true r ⟨fun _ => kn, fun _ => rfl⟩ (Ev.succ ?_), fun r h => i1 true r ⟨fun _ => kn, fun _ => rfl⟩ (Ev.succ ?_)⟩
    · simp only [spec_KeyBytes.j1, e3]
      refine Ev.pos (by trivial) (Ev.bind p (Ev.pos (by omega) ?_))
      rw [wrap_in (w + 1152921504606846976) (by omega) (by omega)]
      refine Ev.bind u1 (Ev.pos (by rw [ByteArray.size_append, sz1, hb8]; omega) (Ev.bind y1 (Ev.pos (by rw [ByteArray.size_append, ByteArray.size_append, sz1, hb8, hb3]; omega) ?_)))
      simp only [Option.bind_some]
      refine Ev.pos (by rw [ByteArray.size_append, ByteArray.size_append, ByteArray.size_append, sz1, hb8, hb3, hz1]; omega) ?_
      rw [hap]; exact h
    · simp only [impl_KeyBytes.j1, e3]
      have hp := tn_pos S0 S6
      have w6 : wrap64 (6 - S) = 6 - S := wrap_in _ (by omega) (by omega)
      refine Ev.pos (by trivial) (Ev.bind (pow_both S0 S6).2 (Ev.neg hp.1 ?_))
      rw [w6]
      by_cases c : Int.tmod N (tn S) < 0
      · obtain ⟨g1, g2⟩ := hneg c
        refine Ev.pos c ?_
        rw [g1, wrap_in (1152921504606846976 + w) (by omega) (by omega), show 1152921504606846976 + w = w + 1152921504606846976 by omega]
        refine Ev.bind u2 (Ev.pos (by rw [hb8]; omega) (Ev.bind (pow_both (n := 6 - S) (by omega) (by omega)).2 ?_))
        rw [g2]
        refine Ev.bind y2 (Ev.pos (by rw [ByteArray.size_append, sz1, hb8, hb3]; omega) ?_)
        simp only [Option.bind_some]
        refine Ev.pos (by rw [ByteArray.size_append, ByteArray.size_append, sz1, hb8, hb3, hz1]; omega) (Ev.pos (by rw [hsz]; omega) h)
      · obtain ⟨g1, g2⟩ := hpos c
        refine Ev.neg c ?_
        rw [g1, wrap_in (1152921504606846976 + w) (by omega) (by omega), show 1152921504606846976 + w = w + 1152921504606846976 by omega]
        refine Ev.bind u2 (Ev.pos (by rw [hb8]; omega) (Ev.bind (pow_both (n := 6 - S) (by omega) (by omega)).2 ?_))
        rw [g2]
        refine Ev.bind y2 (Ev.pos (by rw [ByteArray.size_append, sz1, hb8, hb3]; omega) ?_)
        simp only [Option.bind_some]
        refine Ev.pos (by rw [ByteArray.size_append, ByteArray.size_append, sz1, hb8, hb3, hz1]; omega) (Ev.pos (by rw [hsz]; omega) h)
  by_cases k4 : K = 4
  · have hs4 : s.size ≤ 200 := by rcases hv with h | h | h | h | h | h <;> omega
    have hap : ((acc ++ (⟨#[4]⟩ : ByteArray)) ++ s) ++ (⟨#[0]⟩ : ByteArray) = acc ++ (((⟨#[4]⟩ : ByteArray) ++ s) ++ (⟨#[0]⟩ : ByteArray)) := by simp only [ByteArray.append_assoc]
    have hsz : (((⟨#[4]⟩ : ByteArray) ++ s) ++ (⟨#[0]⟩ : ByteArray)).size = s.size + 2 := by rw [ByteArray.size_append, ByteArray.size_append, sz1, sz1]; omega
    refine ⟨((⟨#[4]⟩ : ByteArray) ++ s) ++ (⟨#[0]⟩ : ByteArray), by unfold encI; rw [if_neg k0, if_neg k1, if_pos k4, nums_app, nums_app, List.append_assoc]; rfl, by omega, fun r h => s1 false r ⟨fun h => by simp at h, fun h => absurd h kn⟩ (Ev.succ ?_), fun r h => i1 false r ⟨fun h => by simp at h, fun h => absurd h kn⟩ (Ev.succ ?_)⟩
    · simp only [spec_KeyBytes.j1, e3]
      refine Ev.neg (by simp) (Ev.pos k4 (Ev.pos (by omega) (Ev.pos (by rw [ByteArray.size_append, sz1]; omega) (Ev.pos (by rw [ByteArray.size_append, ByteArray.size_append, sz1]; omega) ?_))))
      rw [hap]; exact h
    · simp only [impl_KeyBytes.j1, e3]
      exact Ev.neg (by simp) (Ev.pos k4 (Ev.pos (by omega) (Ev.pos (by rw [ByteArray.size_append, sz1]; omega) (Ev.pos (by rw [hsz]; omega) h))))
  have k5 : K = 5 := by rcases hv with h | h | h | h | h | h <;> omega
  obtain ⟨N0, N1⟩ : 0 ≤ N ∧ N ≤ 3652058 := by rcases hv with h | h | h | h | h | h <;> omega
  obtain ⟨b3, hb3e⟩ : ∃ b3, b3 = strOfNums (dig 3 N) := ⟨_, rfl⟩
  obtain ⟨hb3, y1, y2⟩ := bytes_both N 3 (by omega) (by omega) (by omega)
  rw [← hb3e] at hb3 y1 y2
  have hap : (acc ++ (⟨#[5]⟩ : ByteArray)) ++ b3 = acc ++ ((⟨#[5]⟩ : ByteArray) ++ b3) := ByteArray.append_assoc
  have hsz : ((⟨#[5]⟩ : ByteArray) ++ b3).size = 4 := by rw [ByteArray.size_append, sz1, hb3]
  refine ⟨(⟨#[5]⟩ : ByteArray) ++ b3, by unfold encI; rw [if_neg k0, if_neg k1, if_neg k4, if_pos k5, nums_app, hb3e, nums_str _ (dig_range _ _)]; rfl, by omega, fun r h => s1 false r ⟨fun h => by simp at h, fun h => absurd h kn⟩ (Ev.succ ?_), fun r h => i1 false r ⟨fun h => by simp at h, fun h => absurd h kn⟩ (Ev.succ ?_)⟩
  · simp only [spec_KeyBytes.j1, e3]
    refine Ev.neg (by simp) (Ev.neg k4 (Ev.pos k5 (Ev.pos (by omega) (Ev.bind y1 (Ev.pos (by rw [ByteArray.size_append, sz1, hb3]; omega) ?_)))))
    rw [hap]; exact h
  · simp only [impl_KeyBytes.j1, e3]
    exact Ev.neg (by simp) (Ev.neg k4 (Ev.pos k5 (Ev.bind y2 (Ev.pos (by rw [hb3]; omega) (Ev.pos (by rw [hsz]; omega) h)))))
/-- A row's bytes. -/
def catI (l : List S42) : List Int := l.flatMap fun x => encI x.f0 x.f1 x.f2 (bnums x.f3)
theorem catI_cons (x : S42) (l : List S42) : catI (x :: l) = encI x.f0 x.f1 x.f2 (bnums x.f3) ++ catI l := by unfold catI; rw [List.flatMap_cons]
def RowOK (l : List S42) : Prop := ∀ x ∈ l, VOK x.f0 x.f1 x.f2 x.f3
theorem keys_from (l : List S42) (hl : l.length ≤ 16) (hs : ∀ x ∈ l, x.f3.size ≤ 9223372036854775807) (d : Nat) : ∀ (i : Int) (acc : ByteArray), 0 ≤ i → i ≤ l.length → (l.length : Int) - i = d → (acc.size : Int) ≤ 202 * i →
    ∃ r, Ev (fun k => spec_KeyBytes.l0 k l acc i) r ∧ Ev (fun k => impl_KeyBytes.l0 k acc l l.length i) r ∧ (r.2 = 0 → RowOK (l.drop i.toNat) ∧ bnums r.1 = bnums acc ++ catI (l.drop i.toNat)) := by
  induction d with
  | zero =>
    intro i acc h0 h1 hd ha
    refine ⟨(acc, 0), Ev.succ ?_, Ev.succ ?_, fun _ => ?_⟩
    · simp only [spec_KeyBytes.l0]; exact Ev.neg (by omega) (Ev.some' rfl)
    · simp only [impl_KeyBytes.l0]; exact Ev.neg (by omega) (Ev.some' rfl)
    · rw [List.drop_of_length_le (by omega)]
      exact ⟨fun x hx => absurd hx (by simp), by simp [catI]⟩
  | succ d ih =>
    intro i acc h0 h1 hd ha
    have hx : (rd_T42 l i).f3.size ≤ 9223372036854775807 := by rw [rd42 l i (by omega)]; exact hs _ (List.getElem_mem _)
    obtain ⟨b, hb, v1, v2⟩ := val_alike (rd_T42 l i).f0 (rd_T42 l i).f1 (rd_T42 l i).f2 (rd_T42 l i).f3 hx
    cases b with
    | false =>
      refine ⟨((⟨#[]⟩ : ByteArray), 1), Ev.succ ?_, Ev.succ ?_, fun h => absurd h (by decide)⟩
      · simp only [spec_KeyBytes.l0]; exact Ev.pos (by omega) (Ev.pos h0 (Ev.bind v1 (Ev.neg (by simp) (Ev.some' rfl))))
      · simp only [impl_KeyBytes.l0]; exact Ev.pos (by omega) (Ev.pos h0 (Ev.pos (by omega) (Ev.bind v2 (Ev.neg (by simp) (Ev.some' rfl)))))
    | true =>
      obtain ⟨bs, hen, hbs, e1, e2⟩ := one l i h0 (by omega) hl acc ha (hb.1 rfl) hx
      obtain ⟨r, r1, r2, r3⟩ := ih (i + 1) (acc ++ bs) (by omega) (by omega) (by omega) (by rw [ByteArray.size_append]; omega)
      refine ⟨r, e1 r r1, e2 r r2, fun h => ?_⟩
      obtain ⟨g1, g2⟩ := r3 h
      have hv := hb.1 rfl
      have hlt : i.toNat < l.length := by omega
      rw [rd42 l i hlt] at hv hen
      rw [show (i + 1).toNat = i.toNat + 1 by omega] at g1 g2
      rw [List.drop_eq_getElem_cons hlt]
      refine ⟨fun x hx => ?_, ?_⟩
      · rcases List.mem_cons.1 hx with rfl | hx
        · exact hv
        · exact g1 x hx
      · rw [g2, nums_app, hen, catI_cons, List.append_assoc]
theorem keys_both (l : List S42) (hs : ∀ x ∈ l, x.f3.size ≤ 9223372036854775807) : ∃ r, Ev (fun k => spec_KeyBytes.f k l) r ∧ Ev (fun k => impl_KeyBytes.f k l) r ∧ (r.2 = 0 → l.length ≤ 16 ∧ RowOK l ∧ bnums r.1 = catI l) := by
  simp only [spec_KeyBytes.f, impl_KeyBytes.f]
  by_cases c : (l.length : Int) > 16
  · exact ⟨((⟨#[]⟩ : ByteArray), 1), Ev.pos c (Ev.some' rfl), Ev.pos c (Ev.some' rfl), fun h => absurd h (by decide)⟩
  · obtain ⟨r, r1, r2, r3⟩ := keys_from l (by omega) hs l.length 0 (⟨#[]⟩ : ByteArray) (by omega) (by omega) (by omega) (by show ((0 : Nat) : Int) ≤ _; omega)
    exact ⟨r, Ev.neg c r1, Ev.neg c r2, fun h => ⟨by omega, by have := (r3 h).1; simpa using this, by have := (r3 h).2; rw [show bnums (⟨#[]⟩ : ByteArray) = [] from rfl, List.nil_append] at this; simpa using this⟩⟩
end Go.Proofs.Ytjplogeifleojaa.QFnKeyOrderB
