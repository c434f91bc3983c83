/- Key bytes read back: bytes as numbers, the values' bytes, one step of the reference's and of the program's KeyValues: they come to one end. No condition. -/
import Derived.Test.YtjplogeifleojaaValK
namespace Go.Proofs.Ytjplogeifleojaa.QFnExactKeyValuesB
set_option linter.unusedVariables false
set_option linter.unusedSimpArgs false
open Go.RowKit Go.Proofs.Ytjplogeifleojaa.QFnExactKeyValues Go.Proofs.YtjplogeifleojaaW.PrintWords Go.Proofs.YtjplogeifleojaaW.PrintLast Go.Proofs.YtjplogeifleojaaW.PrintMore Go.Proofs.YtjplogeifleojaaU Go.Proofs.Ytjplogeifleojaa.QFnExactKeyValuesV
def nums (s : ByteArray) : List Int := s.data.toList.map fun b => (b.toNat : Int)
theorem nums_len (s : ByteArray) : (nums s).length = s.size := by unfold nums; rw [List.length_map, Array.length_toList]; rfl
theorem str_nums (s : ByteArray) : strOfNums (nums s) = s := by
  unfold strOfNums nums
  rw [List.map_map]
  have : ((fun n : Int => UInt8.ofNat n.toNat) ∘ fun b : UInt8 => (b.toNat : Int)) = id := by
    funext b
    simp
  rw [this, List.map_id]
theorem nums_str : ∀ (l : List Int) (h : ∀ x ∈ l, 0 ≤ x ∧ x < 256), nums (strOfNums l) = l
  | [], _ => rfl
  | x :: l, h => by
    have ih := nums_str l (fun y hy => h y (List.mem_cons_of_mem _ hy))
    have hx := h x (List.mem_cons_self)
    unfold nums strOfNums at ih ⊢
    simp only [List.map_cons, List.cons.injEq] at ih ⊢
    refine ⟨?_, ih⟩
    rw [UInt8.toNat_ofNat']
    omega
theorem nums_app (a b : ByteArray) : nums (a ++ b) = nums a ++ nums b := by
  unfold nums; rw [ByteArray.data_append, Array.toList_append, List.map_append]
theorem nums_ext (s : ByteArray) (a b : Nat) : nums (s.extract a b) = ((nums s).take b).drop a := by
  unfold nums
  rw [ByteArray.data_extract, Array.toList_extract, List.extract_eq_drop_take', List.map_drop, List.map_take]
theorem bt_nums (s : ByteArray) (i : Nat) (h : i < s.size) : bt s (i : Int) = (nums s)[i]'(by rw [nums_len]; exact h) := by
  unfold bt nums
  rw [dif_pos (by simpa using h), List.getElem_map]
  rfl
theorem or_add (a b : Nat) (hb : b < 256) : a * 256 ||| b = a * 256 + b := by
  have := Nat.shiftLeft_add_eq_or_of_lt (i := 8) (b := b) (by simpa using hb) a
  rw [Nat.shiftLeft_eq] at this
  simpa using this.symm
theorem or256 (x b : Int) (h0 : 0 ≤ b) (h1 : b < 256) : Go.bits .or .i64 (wrap64 (wrap64 x * 256)) (wrap64 b) = wrap64 (x * 256 + b) := by
  show IntKind.i64.wrap ((BitVec.ofInt 64 (wrap64 (wrap64 x * 256)) ||| BitVec.ofInt 64 (wrap64 b)).toNat : Int) = _
  rw [i64_w, BitVec.toNat_or, BitVec.toNat_ofInt, BitVec.toNat_ofInt]
  have e1 : ((wrap64 (wrap64 x * 256)) % ((2 ^ 64 : Nat) : Int)).toNat = (x % 72057594037927936).toNat * 256 := by
    simp only [wrap64]
    omega
  have e2 : ((wrap64 b) % ((2 ^ 64 : Nat) : Int)).toNat = b.toNat := by
    simp only [wrap64]
    omega
  rw [e1, e2, or_add _ _ (by omega)]
  simp only [wrap64]
  omega
def F (l : List Int) : Int := l.foldl (fun a b => a * 256 + b) 0
theorem F_app (l : List Int) (b : Int) : F (l ++ [b]) = F l * 256 + b := by unfold F; rw [List.foldl_append]; rfl
def dig : Nat → Int → List Int
  | 0, _ => []
  | j + 1, n => dig j (n / 256) ++ [n % 256]
theorem dig_len : ∀ j n, (dig j n).length = j
  | 0, _ => rfl
  | j + 1, n => by rw [dig, List.length_append, dig_len j]; rfl
theorem dig_range : ∀ j n, ∀ x ∈ dig j n, 0 ≤ x ∧ x < 256
  | 0, _, x, h => by simp [dig] at h
  | j + 1, n, x, h => by
    rw [dig, List.mem_append] at h
    rcases h with h | h
    · exact dig_range j _ x h
    · simp at h; subst h; omega
theorem F_dig : ∀ j (n : Int), 0 ≤ n → n < 256 ^ j → F (dig j n) = n
  | 0, n, h0, h1 => by simp at h1; have : n = 0 := by omega
                       subst this; rfl
  | j + 1, n, h0, h1 => by
    rw [dig, F_app, F_dig j (n / 256) (by omega) (by rw [Int.pow_succ] at h1; exact Int.ediv_lt_of_lt_mul (by omega) h1)]
    omega
theorem F_lt (l : List Int) (h : ∀ x ∈ l, 0 ≤ x ∧ x < 256) : 0 ≤ F l ∧ F l < 256 ^ l.length := by
  induction hn : l.length generalizing l with
  | zero => obtain rfl := List.length_eq_zero_iff.mp hn; exact ⟨by decide, by decide⟩
  | succ n ih =>
    rcases List.eq_nil_or_concat l with rfl | ⟨l', b, rfl⟩
    · simp at hn
    · simp only [List.concat_eq_append] at hn h ⊢
      rw [List.length_append] at hn
      have := ih l' (fun x hx => h x (by simp [hx])) (by simpa using hn)
      have hb := h b (by simp)
      rw [F_app, Int.pow_succ]
      omega
theorem dig_F (l : List Int) (h : ∀ x ∈ l, 0 ≤ x ∧ x < 256) : dig l.length (F l) = l := by
  induction hn : l.length generalizing l with
  | zero => obtain rfl := List.length_eq_zero_iff.mp hn; rfl
  | succ n ih =>
    rcases List.eq_nil_or_concat l with rfl | ⟨l', b, rfl⟩
    · simp at hn
    · simp only [List.concat_eq_append] at hn h ⊢
      rw [List.length_append] at hn
      have := ih l' (fun x hx => h x (by simp [hx])) (by simpa using hn)
      have hb := h b (by simp)
      rw [F_app, dig, show (F l' * 256 + b) / 256 = F l' by omega, show (F l' * 256 + b) % 256 = b by omega, this]
theorem nums_range (s : ByteArray) : ∀ x ∈ nums s, 0 ≤ x ∧ x < 256 := by
  intro x hx
  obtain ⟨b, _, rfl⟩ := List.mem_map.1 hx
  have := b.toNat_lt
  omega
theorem nums_inj {a b : ByteArray} (h : nums a = nums b) : a = b := by rw [← str_nums a, ← str_nums b, h]
/-! ### reading a number -/
theorem read_from (s : ByteArray) (hs : s.size ≤ 4000) (d : Nat) : ∀ (i : Nat), i ≤ s.size → s.size - i = d →
    Ev (fun k => spec_l01Read.l0 k s (wrap64 (F ((nums s).take i))) (i : Int)) (wrap64 (F (nums s))) ∧ Ev (fun k => impl_numOf.l0 k s (wrap64 (F ((nums s).take i))) (i : Int)) (wrap64 (F (nums s))) := by
  induction d with
  | zero =>
    intro i h1 hd
    rw [List.take_of_length_le (by rw [nums_len]; omega)]
    refine ⟨Ev.succ ?_, Ev.succ ?_⟩
    · simp only [spec_l01Read.l0]; exact Ev.neg (by omega) (Ev.some' rfl)
    · simp only [impl_numOf.l0]; exact Ev.neg (by omega) (Ev.some' rfl)
  | succ d ih =>
    intro i h1 hd
    obtain ⟨e1, e2⟩ := ih (i + 1) (by omega) (by omega)
    have hi : i < (nums s).length := by rw [nums_len]; omega
    have hb := nums_range s _ (List.getElem_mem hi)
    have hbt := bt_nums s i (by omega)
    rw [List.take_succ_eq_append_getElem hi, F_app] at e1 e2
    generalize F ((nums s).take i) = x at *
    generalize (nums s)[i] = b at *
    refine ⟨Ev.succ ?_, Ev.succ ?_⟩
    · simp only [spec_l01Read.l0]
      refine Ev.pos (by omega) (Ev.pos (by omega) ?_)
      rw [hbt, wrap_in ((i : Int) + 1) (by omega) (by omega), show wrap64 (wrap64 (wrap64 x * 256) + wrap64 b) = wrap64 (x * 256 + b) by simp only [wrap64]; omega]
      exact e1
    · simp only [impl_numOf.l0]
      refine Ev.pos (by omega) (Ev.pos (by omega) ?_)
      rw [hbt, wrap_in ((i : Int) + 1) (by omega) (by omega), or256 x b hb.1 hb.2]
      exact e2
theorem read_ok (s : ByteArray) (hs : s.size ≤ 4000) : Ev (fun k => spec_l01Read.f k s) (wrap64 (F (nums s))) ∧ Ev (fun k => impl_numOf.f k s) (wrap64 (F (nums s))) := by
  have h := read_from s hs s.size 0 (by omega) (by omega)
  have h0 : wrap64 (F ((nums s).take 0)) = 0 := by rw [List.take_zero]; exact wrap_in 0 (by omega) (by omega)
  rw [h0] at h
  simp only [spec_l01Read.f, impl_numOf.f]
  exact h
/-! ### a number's bytes -/
theorem bytes_from (j : Nat) : ∀ (n : Int) (xs : List Int), 0 ≤ n → n ≤ 9223372036854775807 → j ≤ xs.length → xs.length ≤ 8 →
    Ev (fun k => impl_bytesOf.l0 k n xs ((j : Int) - 1)) (strOfNums (dig j n ++ xs.drop j)) := by
  induction j with
  | zero =>
    intro n xs h0 h1 hj hx
    refine Ev.succ ?_
    simp only [impl_bytesOf.l0]; exact Ev.neg (by omega) (Ev.some' rfl)
  | succ j ih =>
    intro n xs h0 h1 hj hx
    have e2 := ih (n / 256) (xs.set j (n % 256)) (by omega) (by omega) (by rw [List.length_set]; omega) (by rw [List.length_set]; omega)
    have hd : (xs.set j (n % 256)).drop j = (n % 256) :: xs.drop (j + 1) := by
      rw [List.drop_eq_getElem_cons (by rw [List.length_set]; omega), List.getElem_set_self, List.drop_set_of_lt (by omega)]
    rw [hd] at e2
    refine Ev.succ ?_
    simp only [impl_bytesOf.l0]
    refine Ev.pos (by omega) (Ev.pos (by omega) (Ev.pos (by omega) ?_))
    rw [wrap_in (((j + 1 : Nat) : Int) - 1 - 1) (by omega) (by omega), show (((j + 1 : Nat) : Int) - 1).toNat = j by omega, show ((j + 1 : Nat) : Int) - 1 - 1 = (j : Int) - 1 by omega, dig, List.append_assoc]
    exact e2
theorem bytes_ok (n : Int) (m : Nat) (h0 : 0 ≤ n) (h1 : n ≤ 9223372036854775807) (hm : m ≤ 8) : Ev (fun k => impl_bytesOf.f k n (m : Int)) (strOfNums (dig m n)) := by
  have e := bytes_from m n (List.replicate m 0) h0 h1 (by simp) (by simp; exact hm)
  rw [List.drop_of_length_le (by simp), List.append_nil] at e
  simp only [impl_bytesOf.f]
  refine Ev.pos (by omega) (Ev.pos (by omega) ?_)
  rw [wrap_in _ (by omega) (by omega), Int.toNat_natCast]
  exact e
/-! ### a value's bytes -/
theorem from8 {α : Type} {g : Nat → Option α} {r : α} (h : ∀ k, g (k + 8) = some r) : Ev g r := ⟨8, fun n hn => by
  obtain ⟨m, rfl⟩ : ∃ m, n = m + 8 := ⟨n - 8, by omega⟩
  exact h m⟩
theorem seven {n : Int} (h0 : 0 ≤ n) (h1 : n ≤ 6) : n = 0 ∨ n = 1 ∨ n = 2 ∨ n = 3 ∨ n = 4 ∨ n = 5 ∨ n = 6 := by omega
/-- Ten to the n, n from 0 to 6. -/
def tn (n : Int) : Int := 10 ^ n.toNat
theorem pow_i {n : Int} (h0 : 0 ≤ n) (h1 : n ≤ 6) : Ev (fun k => impl_p10.f k n) (tn n) := by
  rcases seven h0 h1 with rfl | rfl | rfl | rfl | rfl | rfl | rfl <;> exact from8 (fun k => by simp [impl_p10.f, impl_p10.l0, wrap64, tn])
theorem tn_pos {n : Int} (h0 : 0 ≤ n) (h1 : n ≤ 6) : tn n ≠ 0 ∧ 0 < tn n ∧ tn n ≤ 1000000 := by rcases seven h0 h1 with rfl | rfl | rfl | rfl | rfl | rfl | rfl <;> decide
/-- A number's millionths. -/
def mil (N S : Int) : Int := N * tn (6 - S)
def enc (K N S : Int) (s : ByteArray) : ByteArray :=
  if K = 0 then ⟨#[1]⟩ else if K = 1 then strOfNums [2, N % 256] else if K = 4 then ((⟨#[4]⟩ : ByteArray) ++ s) ++ (⟨#[0]⟩ : ByteArray) else if K = 5 then (⟨#[5]⟩ : ByteArray) ++ strOfNums (dig 3 N)
  else (((⟨#[3]⟩ : ByteArray) ++ strOfNums (dig 8 (mil N S / 1000000 + 1152921504606846976))) ++ strOfNums (dig 3 (mil N S % 1000000))) ++ strOfNums [K % 256]
theorem parts (K N S : Int) (hK : K = 2 ∧ S = 0 ∧ -1000000000000000 ≤ N ∧ N ≤ 1000000000000000 ∨ K = 3 ∧ 0 ≤ S ∧ S ≤ 6 ∧ -1000000000 ≤ N ∧ N ≤ 1000000000) :
    -1000000000000001 ≤ mil N S / 1000000 ∧ mil N S / 1000000 ≤ 1000000000000000 ∧ (0 ≤ S ∧ S ≤ 6) ∧
      (Int.tmod N (tn S) < 0 → wrap64 ((wrap64 (Int.tdiv N (tn S))) - 1) = mil N S / 1000000 ∧ wrap64 (wrap64 (Int.tmod N (tn S) + tn S) * tn (6 - S)) = mil N S % 1000000) ∧
      (¬ Int.tmod N (tn S) < 0 → wrap64 (Int.tdiv N (tn S)) = mil N S / 1000000 ∧ wrap64 (Int.tmod N (tn S) * tn (6 - S)) = mil N S % 1000000) := by
  unfold mil
  rcases hK with ⟨rfl, rfl, h0, h1⟩ | ⟨rfl, h2, h3, h0, h1⟩
  · have e1 : tn 0 = 1 := rfl
    have e6 : tn (6 - 0) = 1000000 := rfl
    have e2 : Int.tmod N 1 = 0 := Int.tmod_one N
    have e3 : Int.tdiv N 1 = N := Int.tdiv_one N
    rw [e1, e6, e2, e3]
    refine ⟨by omega, by omega, by omega, fun h => by omega, fun _ => ⟨?_, ?_⟩⟩
    · rw [wrap_in N (by omega) (by omega)]; omega
    · rw [Int.zero_mul, wrap_in 0 (by omega) (by omega)]; omega
  · have hp := tn_pos h2 h3
    have e1 := Int.mul_tdiv_add_tmod N (tn S)
    have e2 := Int.tmod_lt_of_pos N hp.2.1
    have e3 := Int.lt_tmod_of_pos N hp.2.1
    obtain ⟨q, hq⟩ : ∃ q, Int.tdiv N (tn S) = q := ⟨_, rfl⟩
    obtain ⟨m, hm⟩ : ∃ m, Int.tmod N (tn S) = m := ⟨_, rfl⟩
    rw [hq, hm] at e1
    rw [hm] at e2 e3
    rw [hq, hm]
    have hqb : -1000000001 ≤ q ∧ q ≤ 1000000001 := by
      rcases seven h2 h3 with rfl | rfl | rfl | rfl | rfl | rfl | rfl <;> simp only [tn, Int.reduceToNat, Int.reducePow] at e1 e2 e3 <;> omega
    have hall : (m < 0 → q - 1 = N * tn (6 - S) / 1000000 ∧ (m + tn S) * tn (6 - S) = N * tn (6 - S) % 1000000) ∧ (¬ m < 0 → q = N * tn (6 - S) / 1000000 ∧ m * tn (6 - S) = N * tn (6 - S) % 1000000) ∧ -1000000000 ≤ N * tn (6 - S) / 1000000 ∧ N * tn (6 - S) / 1000000 ≤ 1000000000 := by
      rcases seven h2 h3 with rfl | rfl | rfl | rfl | rfl | rfl | rfl <;> simp only [tn, Int.reduceToNat, Int.reducePow, Int.reduceSub] at e1 e2 e3 hp ⊢ <;> (refine ⟨fun h => ⟨?_, ?_⟩, fun h => ⟨?_, ?_⟩, ?_, ?_⟩ <;> omega)
    obtain ⟨g1, g2, g3, g4⟩ := hall
    refine ⟨by omega, by omega, by omega, fun h => ?_, fun h => ?_⟩
    · obtain ⟨f1, f2⟩ := g1 h
      rw [wrap_in q (by omega) (by omega), wrap_in (q - 1) (by omega) (by omega), wrap_in (m + tn S) (by omega) (by omega), f1, f2]
      exact ⟨rfl, wrap_in _ (by omega) (by omega)⟩
    · obtain ⟨f1, f2⟩ := g2 h
      rw [wrap_in q (by omega) (by omega), f1, f2]
      exact ⟨rfl, wrap_in _ (by omega) (by omega)⟩
/-! ### one value's key -/
theorem sz1 (x : UInt8) : (⟨#[x]⟩ : ByteArray).size = 1 := rfl
theorem rd_one (v : S42) : rd_T42 [v] 0 = v := rfl
theorem key_no (K N S : Int) (s : ByteArray) (hs : s.size ≤ 9223372036854775807) (hv : ¬ VOK K N S s) : Ev (fun k => impl_KeyBytes.f k [⟨K, N, S, s⟩]) ((⟨#[]⟩ : ByteArray), 1) := by
  obtain ⟨b, hb, v1, v2⟩ := val_alike K N S s hs
  have e : b = false := by cases b with | false => rfl | true => exact absurd (hb.1 rfl) hv
  subst e
  simp only [impl_KeyBytes.f]
  refine Ev.neg (by simp) (Ev.succ ?_)
  simp only [impl_KeyBytes.l0]
  exact Ev.pos (by simp) (Ev.pos (by omega) (Ev.pos (by simp) (Ev.bind v2 (Ev.neg (by simp) (Ev.some' rfl)))))
theorem key_yes (K N S : Int) (s : ByteArray) (hv : VOK K N S s) : Ev (fun k => impl_KeyBytes.f k [⟨K, N, S, s⟩]) (enc K N S s, 0) := by
  have hs : s.size ≤ 9223372036854775807 := by rcases hv with h | h | h | h | h | h <;> omega
  obtain ⟨b, hb, v1, v2⟩ := val_alike K N S s hs
  have e := hb.2 hv
  subst e
  have stop : ∀ acc : ByteArray, Ev (fun k => impl_KeyBytes.l0 k acc [⟨K, N, S, s⟩] (([⟨K, N, S, s⟩] : List S42).length : Int) (wrap64 (0 + 1))) (acc, 0) := by
    intro acc
    refine Ev.succ ?_
    simp only [impl_KeyBytes.l0]
    exact Ev.neg (by rw [wrap_in _ (by omega) (by omega)]; simp) (Ev.some' rfl)
  simp only [impl_KeyBytes.f]
  refine Ev.neg (by simp) (Ev.succ ?_)
  simp only [impl_KeyBytes.l0]
  refine Ev.pos (by simp) (Ev.pos (by omega) (Ev.pos (by simp) (Ev.bind v2 (Ev.pos (by trivial) ?_))))
  simp only [rd_one]
  have z0 : (⟨#[]⟩ : ByteArray).size = 0 := rfl
  have nil_app : ∀ b : ByteArray, (⟨#[]⟩ : ByteArray) ++ b = b := fun b => by
    apply ByteArray.ext
    rw [ByteArray.data_append]
    simp
  by_cases k0 : K = 0
  · refine Ev.pos k0 (Ev.pos (by rw [z0]; omega) ?_)
    rw [nil_app, show enc K N S s = ⟨#[1]⟩ from by unfold enc; rw [if_pos k0]]
    exact stop _
  by_cases k1 : K = 1
  · refine Ev.neg k0 (Ev.pos k1 ?_)
    simp only [Option.bind_some]
    refine Ev.pos (by rw [z0, strOfNums_size]; simp) ?_
    rw [nil_app, show enc K N S s = strOfNums [2, N % 256] from by unfold enc; rw [if_neg k0, if_pos k1]]
    exact stop _
  have i1 : ∀ (B : Bool) r, (B = true ↔ (K = 2 ∨ K = 3)) → Ev (fun k => impl_KeyBytes.j1 k (⟨#[]⟩ : ByteArray) [⟨K, N, S, s⟩] (([⟨K, N, S, s⟩] : List S42).length : Int) 0 K B K N S s) r → Ev (fun k => if K = 2 then (impl_KeyBytes.j1 k (⟨#[]⟩ : ByteArray) [⟨K, N, S, s⟩] (([⟨K, N, S, s⟩] : List S42).length : Int) 0 K (K == 2) K N S s) else (impl_KeyBytes.j1 k (⟨#[]⟩ : ByteArray) [⟨K, N, S, s⟩] (([⟨K, N, S, s⟩] : List S42).length : Int) 0 K (K == 3) K N S s)) r := by
    intro B r hB h
    by_cases k2 : K = 2
    · refine Ev.pos k2 ?_
      rw [show (K == 2) = B from by rw [Bool.eq_iff_iff, hB]; simp [k2]]; exact h
    · refine Ev.neg k2 ?_
      rw [show (K == 3) = B from by rw [Bool.eq_iff_iff, hB]; simp [k2]]; exact h
  refine Ev.neg k0 (Ev.neg k1 ?_)
  by_cases kn : K = 2 ∨ K = 3
  · have hn : K = 2 ∧ S = 0 ∧ -1000000000000000 ≤ N ∧ N ≤ 1000000000000000 ∨ K = 3 ∧ 0 ≤ S ∧ S ≤ 6 ∧ -1000000000 ≤ N ∧ N ≤ 1000000000 := by
      rcases hv with h | h | h | h | h | h <;> omega
    obtain ⟨w0, w1, ⟨S0, S6⟩, hneg, hpos⟩ := parts K N S hn
    have k4 : ¬ K = 4 := by omega
    have k5 : ¬ K = 5 := by omega
    rw [show enc K N S s = (((⟨#[3]⟩ : ByteArray) ++ strOfNums (dig 8 (mil N S / 1000000 + 1152921504606846976))) ++ strOfNums (dig 3 (mil N S % 1000000))) ++ strOfNums [K % 256] from by unfold enc; rw [if_neg k0, if_neg k1, if_neg k4, if_neg k5]]
    generalize hx : mil N S % 1000000 = x at *
    generalize mil N S / 1000000 = w at *
    have x0 : 0 ≤ x ∧ x < 1000000 := by omega
    have u2 := bytes_ok (w + 1152921504606846976) 8 (by omega) (by omega) (by omega)
    have y2 := bytes_ok x 3 (by omega) (by omega) (by omega)
    have hb8 : (strOfNums (dig 8 (w + 1152921504606846976))).size = 8 := by rw [strOfNums_size, dig_len]
    have hb3 : (strOfNums (dig 3 x)).size = 3 := by rw [strOfNums_size, dig_len]
    generalize strOfNums (dig 8 (w + 1152921504606846976)) = b8 at *
    generalize strOfNums (dig 3 x) = b3 at *
    have hz1 : (strOfNums [K % 256]).size = 1 := strOfNums_size _
    have hsz : ((((⟨#[3]⟩ : ByteArray) ++ b8) ++ b3) ++ strOfNums [K % 256]).size = 13 := by
      rw [ByteArray.size_append, ByteArray.size_append, ByteArray.size_append, sz1, hb8, hb3, hz1]
    refine i1 true _ ⟨fun _ => kn, fun _ => rfl⟩ (Ev.succ ?_)
    simp only [impl_KeyBytes.j1]
    have hp := tn_pos S0 S6
    have w6 : wrap64 (6 - S) = 6 - S := wrap_in _ (by omega) (by omega)
    refine Ev.pos (by trivial) (Ev.bind (pow_i S0 S6) (Ev.neg hp.1 ?_))
    rw [w6]
    by_cases c : Int.tmod N (tn S) < 0
    · obtain ⟨g1, g2⟩ := hneg c
      refine Ev.pos c ?_
      rw [g1, wrap_in (1152921504606846976 + w) (by omega) (by omega), show 1152921504606846976 + w = w + 1152921504606846976 by omega]
      refine Ev.bind u2 (Ev.pos (by rw [hb8]; omega) (Ev.bind (pow_i (n := 6 - S) (by omega) (by omega)) ?_))
      rw [g2]
      refine Ev.bind y2 (Ev.pos (by rw [ByteArray.size_append, sz1, hb8, hb3]; omega) ?_)
      simp only [Option.bind_some]
      refine Ev.pos (by rw [ByteArray.size_append, ByteArray.size_append, sz1, hb8, hb3, hz1]; omega) (Ev.pos (by rw [hsz, z0]; omega) ?_)
      rw [nil_app]
      exact stop _
    · obtain ⟨g1, g2⟩ := hpos c
      refine Ev.neg c ?_
      rw [g1, wrap_in (1152921504606846976 + w) (by omega) (by omega), show 1152921504606846976 + w = w + 1152921504606846976 by omega]
      refine Ev.bind u2 (Ev.pos (by rw [hb8]; omega) (Ev.bind (pow_i (n := 6 - S) (by omega) (by omega)) ?_))
      rw [g2]
      refine Ev.bind y2 (Ev.pos (by rw [ByteArray.size_append, sz1, hb8, hb3]; omega) ?_)
      simp only [Option.bind_some]
      refine Ev.pos (by rw [ByteArray.size_append, ByteArray.size_append, sz1, hb8, hb3, hz1]; omega) (Ev.pos (by rw [hsz, z0]; omega) ?_)
      rw [nil_app]
      exact stop _
  refine i1 false _ ⟨fun h => by simp at h, fun h => absurd h kn⟩ (Ev.succ ?_)
  simp only [impl_KeyBytes.j1]
  by_cases k4 : K = 4
  · have hs4 : s.size ≤ 200 := by rcases hv with h | h | h | h | h | h <;> omega
    have hsz : (((⟨#[4]⟩ : ByteArray) ++ s) ++ (⟨#[0]⟩ : ByteArray)).size = s.size + 2 := by rw [ByteArray.size_append, ByteArray.size_append, sz1, sz1]; omega
    refine Ev.neg (by simp) (Ev.pos k4 (Ev.pos (by omega) (Ev.pos (by rw [ByteArray.size_append, sz1]; omega) (Ev.pos (by rw [hsz, z0]; omega) ?_))))
    rw [nil_app, show enc K N S s = ((⟨#[4]⟩ : ByteArray) ++ s) ++ (⟨#[0]⟩ : ByteArray) from by unfold enc; rw [if_neg k0, if_neg k1, if_pos k4]]
    exact stop _
  have k5 : K = 5 := by rcases hv with h | h | h | h | h | h <;> omega
  obtain ⟨N0, N1⟩ : 0 ≤ N ∧ N ≤ 3652058 := by rcases hv with h | h | h | h | h | h <;> omega
  have y2 := bytes_ok N 3 (by omega) (by omega) (by omega)
  have hb3 : (strOfNums (dig 3 N)).size = 3 := by rw [strOfNums_size, dig_len]
  have hsz : ((⟨#[5]⟩ : ByteArray) ++ strOfNums (dig 3 N)).size = 4 := by rw [ByteArray.size_append, sz1, hb3]
  refine Ev.neg (by simp) (Ev.neg k4 (Ev.pos k5 (Ev.bind y2 (Ev.pos (by rw [hb3]; omega) (Ev.pos (by rw [hsz, z0]; omega) ?_)))))
  rw [nil_app, show enc K N S s = (⟨#[5]⟩ : ByteArray) ++ strOfNums (dig 3 N) from by unfold enc; rw [if_neg k0, if_neg k1, if_neg k4, if_pos k5]]
  exact stop _
/-! ### the program's step behind the reading: the key bytes must be the ones that were read -/
theorem j3_stop (out : List S42) (s : ByteArray) (n K N S : Int) (t : ByteArray) (b : Bool) (h : b = true) : Ev (fun k => impl_KeyValues.j3 k out s n b K N S t) (([] : List S42), 5) := by
  subst h
  exact Ev.succ (by simp only [impl_KeyValues.j3]; exact Ev.pos (by trivial) (Ev.some' rfl))
theorem j2_zero (out : List S42) (s : ByteArray) (K N S : Int) (t : ByteArray) : Ev (fun k => impl_KeyValues.j2 k out s 0 K N S t) (([] : List S42), 5) :=
  Ev.succ (by simp only [impl_KeyValues.j2]; exact Ev.pos (by trivial) (j3_stop _ _ _ _ _ _ _ _ rfl))
theorem j2_long (out : List S42) (s : ByteArray) (n K N S : Int) (t : ByteArray) (h0 : 1 ≤ n) (h : n > s.size) : Ev (fun k => impl_KeyValues.j2 k out s n K N S t) (([] : List S42), 5) :=
  Ev.succ (by simp only [impl_KeyValues.j2]; exact Ev.neg (by omega) (j3_stop _ _ _ _ _ _ _ _ (by simpa using h)))
theorem j2_bad (out : List S42) (s : ByteArray) (n K N S : Int) (t : ByteArray) (h0 : 1 ≤ n) (h1 : n ≤ s.size) (ht : t.size ≤ 9223372036854775807) (hv : ¬ VOK K N S t) : Ev (fun k => impl_KeyValues.j2 k out s n K N S t) (([] : List S42), 5) := by
  refine Ev.succ ?_
  simp only [impl_KeyValues.j2]
  refine Ev.neg (by omega) ?_
  rw [decide_eq_false (show ¬ n > (s.size : Int) by omega)]
  refine Ev.succ ?_
  simp only [impl_KeyValues.j3]
  exact Ev.neg (by simp) (Ev.bind (key_no K N S t ht hv) (Ev.neg (by simp) (Ev.some' rfl)))
theorem j2_other (out : List S42) (s : ByteArray) (n K N S : Int) (t : ByteArray) (h0 : 1 ≤ n) (h1 : n ≤ s.size) (hv : VOK K N S t) (he : nums (enc K N S t) ≠ (nums s).take n.toNat) : Ev (fun k => impl_KeyValues.j2 k out s n K N S t) (([] : List S42), 5) := by
  refine Ev.succ ?_
  simp only [impl_KeyValues.j2]
  refine Ev.neg (by omega) ?_
  rw [decide_eq_false (show ¬ n > (s.size : Int) by omega)]
  refine Ev.succ ?_
  simp only [impl_KeyValues.j3]
  refine Ev.neg (by simp) (Ev.bind (key_yes K N S t hv) (Ev.pos rfl (Ev.pos (by omega) (Ev.pos h1 (Ev.neg (fun h => he ?_) (Ev.some' rfl))))))
  have h' : enc K N S t = s.extract 0 n.toNat := toList_inj h
  rw [h', nums_ext, List.drop_zero]
theorem j2_same (out : List S42) (s : ByteArray) (n K N S : Int) (t : ByteArray) (h0 : 1 ≤ n) (h1 : n ≤ s.size) (hv : VOK K N S t) (he : nums (enc K N S t) = (nums s).take n.toNat) (ho : out.length < 1000000) (r : List S42 × Int)
    (h : Ev (fun k => impl_KeyValues.l0 k (out ++ [⟨K, N, S, t⟩]) (s.extract n.toNat s.size)) r) : Ev (fun k => impl_KeyValues.j2 k out s n K N S t) r := by
  refine Ev.succ ?_
  simp only [impl_KeyValues.j2]
  refine Ev.neg (by omega) ?_
  rw [decide_eq_false (show ¬ n > (s.size : Int) by omega)]
  refine Ev.succ ?_
  simp only [impl_KeyValues.j3]
  refine Ev.neg (by simp) (Ev.bind (key_yes K N S t hv) (Ev.pos rfl (Ev.pos (by omega) (Ev.pos h1 (Ev.pos ?_ (Ev.pos (by omega) h))))))
  refine congrArg _ (nums_inj ?_)
  rw [he, nums_ext, List.drop_zero]
/-! ### a number with places -/
theorem dec_from (d : Nat) : ∀ n s : Int, 0 ≤ s → s ≤ 6 → s ≤ d → -9000000000000000000 ≤ n → n ≤ 9000000000000000000 →
    (Ev (fun k => spec_l01Decimal.l1 k n s) (0, 0, 0, (⟨#[]⟩ : ByteArray), 3) ∧ Ev (fun k => impl_decOf.l0 k n s) (0, 0, 0, (⟨#[]⟩ : ByteArray), 3)) ∨
    ∃ n' s', Ev (fun k => spec_l01Decimal.l1 k n s) (3, n', s', (⟨#[]⟩ : ByteArray), 0) ∧ Ev (fun k => impl_decOf.l0 k n s) (3, n', s', (⟨#[]⟩ : ByteArray), 0) ∧ 0 ≤ s' ∧ s' ≤ 6 ∧ -1000000000 ≤ n' ∧ n' ≤ 1000000000 ∧ (s' = 0 ∨ Int.tmod n' 10 ≠ 0) ∧ mil n' s' = mil n s := by
  have stop : ∀ n s : Int, 0 ≤ s → s ≤ 6 → (¬ s > 0 ∨ Int.tmod n 10 ≠ 0) →
      (Ev (fun k => spec_l01Decimal.l1 k n s) (0, 0, 0, (⟨#[]⟩ : ByteArray), 3) ∧ Ev (fun k => impl_decOf.l0 k n s) (0, 0, 0, (⟨#[]⟩ : ByteArray), 3)) ∨
      ∃ n' s', Ev (fun k => spec_l01Decimal.l1 k n s) (3, n', s', (⟨#[]⟩ : ByteArray), 0) ∧ Ev (fun k => impl_decOf.l0 k n s) (3, n', s', (⟨#[]⟩ : ByteArray), 0) ∧ 0 ≤ s' ∧ s' ≤ 6 ∧ -1000000000 ≤ n' ∧ n' ≤ 1000000000 ∧ (s' = 0 ∨ Int.tmod n' 10 ≠ 0) ∧ mil n' s' = mil n s := by
    intro n s h0 h1 h
    have S : ∀ r, Ev (fun k => if n > 1000000000 then (some (0, 0, 0, (⟨#[]⟩ : ByteArray), 3)) else (if n < (-1000000000) then (some (0, 0, 0, (⟨#[]⟩ : ByteArray), 3)) else (some (3, n, s, (⟨#[]⟩ : ByteArray), 0)))) r → Ev (fun k => spec_l01Decimal.l1 k n s) r := by
      intro r hr
      refine Ev.succ ?_
      simp only [spec_l01Decimal.l1]
      by_cases c : s > 0
      · exact Ev.pos c (Ev.neg (h.resolve_left (fun g => g c)) hr)
      · exact Ev.neg c hr
    have I : ∀ r, Ev (fun k => if n < (-1000000000) then (some (0, 0, 0, (⟨#[]⟩ : ByteArray), 3)) else (if n > 1000000000 then (some (0, 0, 0, (⟨#[]⟩ : ByteArray), 3)) else (some (3, n, s, (⟨#[]⟩ : ByteArray), 0)))) r → Ev (fun k => impl_decOf.l0 k n s) r := by
      intro r hr
      refine Ev.succ ?_
      simp only [impl_decOf.l0]
      by_cases c : s > 0
      · exact Ev.pos c (Ev.neg (h.resolve_left (fun g => g c)) hr)
      · exact Ev.neg c hr
    by_cases c1 : n > 1000000000
    · exact .inl ⟨S _ (Ev.pos c1 (Ev.some' rfl)), I _ (Ev.neg (by omega) (Ev.pos c1 (Ev.some' rfl)))⟩
    · by_cases c2 : n < -1000000000
      · exact .inl ⟨S _ (Ev.neg c1 (Ev.pos c2 (Ev.some' rfl))), I _ (Ev.pos c2 (Ev.some' rfl))⟩
      · refine .inr ⟨n, s, S _ (Ev.neg c1 (Ev.neg c2 (Ev.some' rfl))), I _ (Ev.neg c2 (Ev.neg c1 (Ev.some' rfl))), h0, h1, by omega, by omega, ?_, rfl⟩
        rcases h with h | h
        · exact .inl (by omega)
        · exact .inr h
  induction d with
  | zero => intro n s h0 h1 hd b0 b1; exact stop n s h0 h1 (.inl (by omega))
  | succ d ih =>
    intro n s h0 h1 hd b0 b1
    by_cases c : s > 0
    · by_cases c2 : Int.tmod n 10 = 0
      · have hm := Int.mul_tdiv_add_tmod n 10
        rw [c2] at hm
        obtain ⟨q, hq⟩ : ∃ q, Int.tdiv n 10 = q := ⟨_, rfl⟩
        rw [hq] at hm
        have w1 : wrap64 (Int.tdiv n 10) = q := by rw [hq]; exact wrap_in _ (by omega) (by omega)
        have w2 : wrap64 (s - 1) = s - 1 := wrap_in _ (by omega) (by omega)
        have hmil : mil q (s - 1) = mil n s := by
          unfold mil tn
          rw [show (6 - (s - 1)).toNat = (6 - s).toNat + 1 by omega, Int.pow_succ, ← hm]
          rw [Int.mul_comm ((10 : Int) ^ (6 - s).toNat) 10, ← Int.mul_assoc, Int.add_zero, Int.mul_comm q 10]
        have S : ∀ r, Ev (fun k => spec_l01Decimal.l1 k q (s - 1)) r → Ev (fun k => spec_l01Decimal.l1 k n s) r := by
          intro r hr
          refine Ev.succ ?_
          simp only [spec_l01Decimal.l1, w1, w2]
          exact Ev.pos c (Ev.pos c2 hr)
        have I : ∀ r, Ev (fun k => impl_decOf.l0 k q (s - 1)) r → Ev (fun k => impl_decOf.l0 k n s) r := by
          intro r hr
          refine Ev.succ ?_
          simp only [impl_decOf.l0, w1, w2]
          exact Ev.pos c (Ev.pos c2 hr)
        rcases ih q (s - 1) (by omega) (by omega) (by omega) (by omega) (by omega) with ⟨e1, e2⟩ | ⟨n', s', e1, e2, r1, r2, r3, r4, r5, r6⟩
        · exact .inl ⟨S _ e1, I _ e2⟩
        · exact .inr ⟨n', s', S _ e1, I _ e2, r1, r2, r3, r4, r5, r6.trans hmil⟩
      · exact stop n s h0 h1 (.inr c2)
    · exact stop n s h0 h1 (.inl c)
theorem dec_both (n : Int) (b0 : -9000000000000000000 ≤ n) (b1 : n ≤ 9000000000000000000) :
    (Ev (fun k => spec_l01Decimal.f k n 6) (0, 0, 0, (⟨#[]⟩ : ByteArray), 3) ∧ Ev (fun k => impl_decOf.f k n 6) (0, 0, 0, (⟨#[]⟩ : ByteArray), 3)) ∨
    ∃ n' s', Ev (fun k => spec_l01Decimal.f k n 6) (3, n', s', (⟨#[]⟩ : ByteArray), 0) ∧ Ev (fun k => impl_decOf.f k n 6) (3, n', s', (⟨#[]⟩ : ByteArray), 0) ∧ 0 ≤ s' ∧ s' ≤ 6 ∧ -1000000000 ≤ n' ∧ n' ≤ 1000000000 ∧ (s' = 0 ∨ Int.tmod n' 10 ≠ 0) ∧ mil n' s' = n := by
  have S : ∀ r, Ev (fun k => spec_l01Decimal.l1 k n 6) r → Ev (fun k => spec_l01Decimal.f k n 6) r := by
    intro r h
    simp only [spec_l01Decimal.f]
    exact Ev.succ (by simp only [spec_l01Decimal.l0]; exact Ev.neg (by omega) h)
  have m6 : mil n 6 = n := by unfold mil tn; simp
  rcases dec_from 6 n 6 (by omega) (by omega) (by omega) b0 b1 with ⟨e1, e2⟩ | ⟨n', s', e1, e2, r1, r2, r3, r4, r5, r6⟩
  · exact .inl ⟨S _ e1, by simp only [impl_decOf.f]; exact e2⟩
  · exact .inr ⟨n', s', S _ e1, by simp only [impl_decOf.f]; exact e2, r1, r2, r3, r4, r5, r6.trans m6⟩
/-! ### the first zero byte -/
theorem idx_spec : ∀ l : List UInt8, (Go.Lib.indexByte l 0 = -1 ∧ ∀ i (h : i < l.length), l[i] ≠ 0) ∨ ∃ j : Nat, Go.Lib.indexByte l 0 = j ∧ ∃ h : j < l.length, l[j] = 0 ∧ ∀ i (h : i < j), l[i]'(by omega) ≠ 0
  | [] => .inl ⟨rfl, fun i h => absurd h (by simp)⟩
  | b :: l => by
    by_cases c : b = 0
    · subst c
      exact .inr ⟨0, rfl, by simp, rfl, fun i h => absurd h (by omega)⟩
    · have cb : (b == 0) = false := by simpa using c
      rcases idx_spec l with ⟨e, h⟩ | ⟨j, e, h1, h2, h3⟩
      · refine .inl ⟨by simp [Go.Lib.indexByte, cb, e], fun i h' => ?_⟩
        cases i with
        | zero => exact c
        | succ i => simpa using h i (by simpa using h')
      · refine .inr ⟨j + 1, ?_, by simpa using h1, by simpa using h2, fun i h' => ?_⟩
        · have : ((j : Int) == -1) = false := by simp
          simp [Go.Lib.indexByte, cb, e, this]
        · cases i with
          | zero => exact c
          | succ i => simpa using h3 i (by omega)
theorem bt_byte (s : ByteArray) (i : Nat) (h : i < s.data.toList.length) : bt s (i : Int) = ((s.data.toList[i]).toNat : Int) := by
  rw [bt_nums s i (by rw [Array.length_toList] at h; exact h)]
  simp [nums]
theorem idx_bt (s : ByteArray) : (Go.Lib.indexByte s.data.toList 0 = -1 ∧ ∀ i : Nat, i < s.size → bt s (i : Int) ≠ 0) ∨ ∃ j : Nat, Go.Lib.indexByte s.data.toList 0 = j ∧ j < s.size ∧ bt s (j : Int) = 0 ∧ ∀ i : Nat, i < j → bt s (i : Int) ≠ 0 := by
  have hl : s.data.toList.length = s.size := by rw [Array.length_toList]; rfl
  have nz : ∀ b : UInt8, b ≠ 0 → (b.toNat : Int) ≠ 0 := fun b hb h => hb (UInt8.toNat_inj.mp (by simpa using h))
  rcases idx_spec s.data.toList with ⟨e, h⟩ | ⟨j, e, h1, h2, h3⟩
  · exact .inl ⟨e, fun i hi => by rw [bt_byte s i (by omega)]; exact nz _ (h i (by omega))⟩
  · exact .inr ⟨j, e, by omega, by rw [bt_byte s j h1, h2]; rfl, fun i hi => by rw [bt_byte s i (by omega)]; exact nz _ (h3 i hi)⟩
theorem text_from (s : ByteArray) (hs : s.size ≤ 4000) (t : Int) (R : Int × Int × Int × ByteArray × Int)
    (hno : t = -1 → (∀ i : Nat, i < s.size → bt s (i : Int) ≠ 0) ∧ R = (0, 0, 0, (⟨#[]⟩ : ByteArray), 0))
    (hyes : ∀ j : Nat, t = j → j < s.size ∧ bt s (j : Int) = 0 ∧ (∀ i : Nat, i < j → bt s (i : Int) ≠ 0) ∧ ((VOK 4 0 0 (s.extract 1 j) → R = (4, 0, 0, s.extract 1 j, (j : Int) + 1)) ∧ (¬ VOK 4 0 0 (s.extract 1 j) → R = (0, 0, 0, (⟨#[]⟩ : ByteArray), 0))))
    (ht : t = -1 ∨ ∃ j : Nat, t = j) (d : Nat) : ∀ i : Nat, 1 ≤ i → i ≤ s.size → s.size - i = d → (∀ j : Nat, t = j → i ≤ j) → Ev (fun k => spec_l01Next.l0 k s (i : Int)) R := by
  induction d with
  | zero =>
    intro i h0 h1 hd hj
    rcases ht with ht | ⟨j, ht⟩
    · refine Ev.succ ?_
      simp only [spec_l01Next.l0]
      exact Ev.neg (by omega) (Ev.some' (hno ht).2.symm)
    · have a := (hyes j ht).1
      have b := hj j ht
      omega
  | succ d ih =>
    intro i h0 h1 hd hj
    have e3 : wrap64 ((i : Int) + 1) = ((i + 1 : Nat) : Int) := by rw [wrap_in _ (by omega) (by omega)]; omega
    by_cases c : bt s (i : Int) = 0
    · rcases ht with ht | ⟨j, ht⟩
      · exact absurd c ((hno ht).1 i (by omega))
      · obtain ⟨a1, a2, a3, a4, a5⟩ := hyes j ht
        have hij : j = i := by
          have b := hj j ht
          rcases Nat.lt_or_ge i j with g | g
          · exact absurd c (a3 i g)
          · omega
        subst hij
        have hz : (s.extract 1 j).size ≤ 9223372036854775807 := by rw [ByteArray.size_extract]; omega
        obtain ⟨b, hb, v1, _⟩ := val_alike 4 0 0 (s.extract 1 j) hz
        refine Ev.succ ?_
        simp only [spec_l01Next.l0]
        refine Ev.pos (by omega) (Ev.pos (by omega) (Ev.pos c (Ev.pos (by omega) (Ev.pos (by omega) (Ev.bndc (b := (4, 0, 0, s.extract 1 j)) (by rw [Int.toNat_natCast]; rfl) (Ev.bind v1 ?_))))))
        cases b with
        | true =>
          refine Ev.pos (by trivial) (Ev.some' ?_)
          rw [a4 (hb.1 rfl), e3]
          simp
        | false => exact Ev.neg (by simp) (Ev.some' (a5 (fun h => by simpa using hb.2 h)).symm)
    · have e := ih (i + 1) (by omega) (by omega) (by omega) (fun j h => by
        have b := hj j h
        rcases Nat.lt_or_eq_of_le b with g | g
        · omega
        · subst g; exact absurd (hyes i h).2.1 c)
      refine Ev.succ ?_
      simp only [spec_l01Next.l0]
      refine Ev.pos (by omega) (Ev.pos (by omega) (Ev.neg c ?_))
      rw [e3]
      exact e
end Go.Proofs.Ytjplogeifleojaa.QFnExactKeyValuesB
