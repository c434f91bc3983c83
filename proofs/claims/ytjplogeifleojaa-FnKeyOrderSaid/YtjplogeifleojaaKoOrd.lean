/- The order of key bytes: two values that differ are written so that the first byte in which they differ tells their order. No condition. -/
import Derived.Test.YtjplogeifleojaaKoVal
namespace Go.Proofs.Ytjplogeifleojaa.QFnKeyOrderO
set_option linter.unusedVariables false
set_option linter.unusedSimpArgs false
open Go.RowKit Go.Proofs.Ytjplogeifleojaa.QFnKeyOrder Go.Proofs.YtjplogeifleojaaW.PrintWords Go.Proofs.YtjplogeifleojaaU Go.Proofs.Ytjplogeifleojaa.QFnKeyOrderV
/-! ### lists of bytes -/
def lx : List Int → List Int → Bool
  | [], [] => false
  | [], _ :: _ => true
  | _ :: _, [] => false
  | x :: a, y :: b => decide (x < y) || (decide (x = y) && lx a b)
def bnums (s : ByteArray) : List Int := s.data.toList.map fun b => (b.toNat : Int)
theorem less_lx : ∀ a b : List UInt8, Op.bytesLess a b = lx (a.map fun b => (b.toNat : Int)) (b.map fun b => (b.toNat : Int))
  | [], [] => rfl
  | [], _ :: _ => rfl
  | _ :: _, [] => rfl
  | x :: a, y :: b => by
    have h1 : decide (x < y) = decide ((x.toNat : Int) < (y.toNat : Int)) := by
      rw [decide_eq_decide, UInt8.lt_iff_toNat_lt]; omega
    have h2 : (x == y) = decide ((x.toNat : Int) = (y.toNat : Int)) := by
      rw [Bool.eq_iff_iff, beq_iff_eq, decide_eq_true_eq, ← UInt8.toNat_inj]; omega
    simp only [Op.bytesLess, List.map_cons, lx, less_lx a b, h1, h2]
theorem less_nums (a b : ByteArray) : Op.bytesLess a.toList b.toList = lx (bnums a) (bnums b) := by
  rw [ByteArray.toList_eq, ByteArray.toList_eq, less_lx]; rfl
theorem bnums_len (s : ByteArray) : (bnums s).length = s.size := by unfold bnums; rw [List.length_map, Array.length_toList]; rfl
theorem nums_app (a b : ByteArray) : bnums (a ++ b) = bnums a ++ bnums b := by
  unfold bnums; rw [ByteArray.data_append, Array.toList_append, List.map_append]
theorem nums_str : ∀ (l : List Int) (h : ∀ x ∈ l, 0 ≤ x ∧ x < 256), bnums (strOfNums l) = l
  | [], _ => rfl
  | x :: l, h => by
    have ih := nums_str l (fun y hy => h y (List.mem_cons_of_mem _ hy))
    have hx := h x (List.mem_cons_self)
    unfold bnums strOfNums at ih ⊢
    simp only [List.map_cons, List.cons.injEq] at ih ⊢
    refine ⟨?_, ih⟩
    rw [UInt8.toNat_ofNat']
    omega
theorem str_nums (s : ByteArray) : strOfNums (bnums s) = s := by
  unfold strOfNums bnums
  rw [List.map_map]
  have : ((fun n : Int => UInt8.ofNat n.toNat) ∘ fun b : UInt8 => (b.toNat : Int)) = id := by
    funext b
    simp
  rw [this, List.map_id, Array.toArray_toList]
theorem nums_inj {a b : ByteArray} (h : bnums a = bnums b) : a = b := by rw [← str_nums a, ← str_nums b, h]
theorem nums_range (s : ByteArray) : ∀ x ∈ bnums s, 0 ≤ x ∧ x < 256 := by
  intro x hx
  obtain ⟨b, _, rfl⟩ := List.mem_map.1 hx
  have := b.toNat_lt
  omega
theorem bt_nums (s : ByteArray) (i : Nat) (h : i < s.size) : bt s (i : Int) = (bnums s)[i]'(by rw [bnums_len]; exact h) := by
  unfold bt bnums
  rw [dif_pos (by simpa using h), List.getElem_map]
  rfl
theorem lx_self : ∀ a, lx a a = false
  | [] => rfl
  | x :: a => by simp [lx, lx_self a]
theorem lx_pre (c : List Int) : ∀ a b, lx (c ++ a) (c ++ b) = lx a b := by
  induction c with
  | nil => intro a b; rfl
  | cons x c ih => intro a b; simp [lx, ih]
/-- The first place in which two lists differ lies within both; what stands there tells which is less. -/
def Diff (A B : List Int) (lt : Bool) : Prop := ∃ (c : List Int) (u v : Int) (a b : List Int), A = c ++ u :: a ∧ B = c ++ v :: b ∧ u ≠ v ∧ lt = decide (u < v)
theorem Diff.app {A B : List Int} {lt : Bool} (h : Diff A B lt) (p q : List Int) : Diff (A ++ p) (B ++ q) lt := by
  obtain ⟨c, u, v, a, b, rfl, rfl, h1, h2⟩ := h
  exact ⟨c, u, v, a ++ p, b ++ q, by simp, by simp, h1, h2⟩
theorem Diff.pre {A B : List Int} {lt : Bool} (h : Diff A B lt) (d : List Int) : Diff (d ++ A) (d ++ B) lt := by
  obtain ⟨c, u, v, a, b, rfl, rfl, h1, h2⟩ := h
  exact ⟨d ++ c, u, v, a, b, by simp, by simp, h1, h2⟩
theorem Diff.head {u v : Int} (a b : List Int) (h : u ≠ v) : Diff (u :: a) (v :: b) (decide (u < v)) := ⟨[], u, v, a, b, rfl, rfl, h, rfl⟩
theorem Diff.lx {A B : List Int} {lt : Bool} (h : Diff A B lt) : lx A B = lt := by
  obtain ⟨c, u, v, a, b, rfl, rfl, h1, h2⟩ := h
  rw [lx_pre, h2]
  simp [QFnKeyOrderO.lx, h1]
theorem Diff.ne {A B : List Int} {lt : Bool} (h : Diff A B lt) : A ≠ B := by
  obtain ⟨c, u, v, a, b, rfl, rfl, h1, h2⟩ := h
  intro e
  exact h1 (by simpa using (List.append_cancel_left e : u :: a = v :: b) |> List.cons.inj |>.1)
theorem Diff.swap {A B : List Int} {lt : Bool} (h : Diff A B lt) : Diff B A (!lt) := by
  obtain ⟨c, u, v, a, b, rfl, rfl, h1, rfl⟩ := h
  refine ⟨c, v, u, b, a, rfl, rfl, fun e => h1 e.symm, ?_⟩
  rw [Bool.eq_iff_iff, Bool.not_eq_true', decide_eq_false_iff_not, decide_eq_true_eq]
  omega
theorem Diff.cast {A B : List Int} {a b : Bool} (h : Diff A B a) (e : a = b) : Diff A B b := e ▸ h
/-! ### texts, closed by a zero -/
theorem text_diff : ∀ s t : List Int, (∀ x ∈ s, 0 < x) → (∀ x ∈ t, 0 < x) → s ≠ t → Diff (s ++ [0]) (t ++ [0]) (lx s t)
  | [], [], _, _, h => absurd rfl h
  | [], y :: t, _, ht, _ => by
    have := ht y (List.mem_cons_self)
    have e : decide (0 < y) = lx [] (y :: t) := by simp [lx, this]
    rw [← e, List.nil_append, List.cons_append]; exact Diff.head _ _ (by omega)
  | x :: s, [], hs, _, _ => by
    have := hs x (List.mem_cons_self)
    have e : decide (x < 0) = lx (x :: s) [] := by simp [lx]; omega
    rw [← e, List.nil_append, List.cons_append]; exact Diff.head _ _ (by omega)
  | x :: s, y :: t, hs, ht, h => by
    by_cases e : x = y
    · subst e
      have d := text_diff s t (fun z hz => hs z (List.mem_cons_of_mem _ hz)) (fun z hz => ht z (List.mem_cons_of_mem _ hz)) (fun e => h (e ▸ rfl))
      have q : lx s t = lx (x :: s) (x :: t) := by simp [lx]
      rw [← q]; exact d.pre [x]
    · have q : decide (x < y) = lx (x :: s) (y :: t) := by simp [lx, e]
      rw [← q, List.cons_append, List.cons_append]; exact Diff.head _ _ e
/-! ### numbers -/
def dig : Nat → Int → List Int
  | 0, _ => []
  | j + 1, n => dig j (n / 256) ++ [n % 256]
theorem dig_range : ∀ j n, ∀ x ∈ dig j n, 0 ≤ x ∧ x < 256
  | 0, _, x, h => by simp [dig] at h
  | j + 1, n, x, h => by
    rw [dig, List.mem_append] at h
    rcases h with h | h
    · exact dig_range j _ x h
    · rw [List.mem_singleton] at h; omega
theorem dig_len : ∀ j n, (dig j n).length = j
  | 0, _ => rfl
  | j + 1, n => by rw [dig, List.length_append, dig_len j]; rfl
theorem dig_diff : ∀ (j : Nat) (n m : Int), 0 ≤ n → n < m → m < 256 ^ j → Diff (dig j n) (dig j m) true
  | 0, n, m, h0, h1, h2 => by simp at h2; omega
  | j + 1, n, m, h0, h1, h2 => by
    have hm : m / 256 < 256 ^ j := by rw [Int.pow_succ] at h2; exact Int.ediv_lt_of_lt_mul (by omega) h2
    rw [dig, dig]
    by_cases e : n / 256 = m / 256
    · rw [e]
      exact ((Diff.head [] [] (by omega)).pre _).cast (by rw [decide_eq_true_eq]; omega)
    · exact (dig_diff j (n / 256) (m / 256) (by omega) (by omega) hm).app _ _
/-- Ten to the n, n from 0 to 6. -/
def tn (n : Int) : Int := 10 ^ n.toNat
theorem seven {n : Int} (h0 : 0 ≤ n) (h1 : n ≤ 6) : n = 0 ∨ n = 1 ∨ n = 2 ∨ n = 3 ∨ n = 4 ∨ n = 5 ∨ n = 6 := by omega
/-- A number's millionths. -/
def mil (N S : Int) : Int := N * tn (6 - S)
def NOK (K N S : Int) : Prop := K = 2 ∧ S = 0 ∧ -1000000000000000 ≤ N ∧ N ≤ 1000000000000000 ∨ K = 3 ∧ 0 ≤ S ∧ S ≤ 6 ∧ -1000000000 ≤ N ∧ N ≤ 1000000000 ∧ (S = 0 ∨ Int.tmod N 10 ≠ 0)
theorem mil_bound {K N S : Int} (h : NOK K N S) : -1000000000000000000000 ≤ mil N S ∧ mil N S ≤ 1000000000000000000000 := by
  unfold mil
  rcases h with ⟨_, rfl, h0, h1⟩ | ⟨_, h2, h3, h0, h1, _⟩
  · simp only [tn, Int.reduceToNat, Int.reducePow, Int.reduceSub]; omega
  · rcases seven h2 h3 with rfl | rfl | rfl | rfl | rfl | rfl | rfl <;> simp only [tn, Int.reduceToNat, Int.reducePow, Int.reduceSub] <;> omega
theorem tmod_ne {N q : Int} (h : Int.tmod N 10 ≠ 0) : N ≠ q * 10 := by
  rintro rfl
  exact h (Int.mul_tmod_left _ _)
theorem mil_inj {K N S N' S' : Int} (h : NOK K N S) (h' : NOK K N' S') (e : mil N S = mil N' S') : N = N' ∧ S = S' := by
  rcases h with ⟨k, rfl, h0, h1⟩ | ⟨k, h2, h3, h0, h1, hz⟩
  · rcases h' with ⟨_, rfl, _, _⟩ | ⟨k', _⟩
    · refine ⟨?_, rfl⟩
      simp only [mil, tn, Int.reduceToNat, Int.reducePow, Int.reduceSub] at e; omega
    · omega
  · rcases h' with ⟨k', _⟩ | ⟨_, h2', h3', h0', h1', hz'⟩
    · omega
    · have f1 : ∀ q, S ≠ 0 → N ≠ q * 10 := fun q hs => tmod_ne (hz.resolve_left hs)
      have f2 : ∀ q, S' ≠ 0 → N' ≠ q * 10 := fun q hs => tmod_ne (hz'.resolve_left hs)
      have g : ∀ j : Nat, ∀ a b : Int, a * 10 ^ j * 10 = b * 10 ^ j * 10 → a = b := fun j a b h => by
        have hp : (10 : Int) ^ j ≠ 0 := Int.pow_ne_zero (by omega)
        have : a * 10 ^ j = b * 10 ^ j := by omega
        exact Int.eq_of_mul_eq_mul_right hp this
      clear hz hz' g
      rcases seven h2 h3 with rfl | rfl | rfl | rfl | rfl | rfl | rfl <;> rcases seven h2' h3' with rfl | rfl | rfl | rfl | rfl | rfl | rfl <;>
        simp only [mil, tn, Int.reduceToNat, Int.reducePow, Int.reduceSub] at e <;>
        first
        | exact ⟨by omega, rfl⟩
        | (exfalso; have a1 := f1 (N / 10) (by omega); omega)
        | (exfalso; have a2 := f2 (N' / 10) (by omega); omega)
/-! ### one value's bytes -/
def encI (K N S : Int) (t : List Int) : List Int :=
  if K = 0 then [1] else if K = 1 then [2, N % 256] else if K = 4 then 4 :: (t ++ [0]) else if K = 5 then 5 :: dig 3 N
  else 3 :: (dig 8 (mil N S / 1000000 + 1152921504606846976) ++ (dig 3 (mil N S % 1000000) ++ [K % 256]))
def isNum (K : Int) : Bool := K == 2 || K == 3
def sg (a b : Int) : Int := if a < b then -1 else if a > b then 1 else 0
/-- What Compare answers of two valid values. -/
def cmpR (K N S : Int) (t : List Int) (K' N' S' : Int) (t' : List Int) : Int × Int :=
  if K = 0 ∨ K' = 0 then (sg (if K = 0 then 0 else 1) (if K' = 0 then 0 else 1), 0)
  else if isNum K = true ∧ isNum K' = true then (sg (mil N S) (mil N' S'), 0)
  else if K = K' then (if K = 4 then ((if lx t t' = true then -1 else if lx t' t = true then 1 else 0), 0) else (sg N N', 0))
  else (0, 2)
def tag (K : Int) : Int := if K = 0 then 1 else if K = 1 then 2 else if K = 4 then 4 else if K = 5 then 5 else 3
theorem enc_tag (K N S : Int) (t : List Int) : ∃ r, encI K N S t = tag K :: r := by
  unfold encI tag
  repeat' split
  all_goals exact ⟨_, rfl⟩
theorem num_diff {K N S K' N' S' : Int} (h : NOK K N S) (h' : NOK K' N' S') (hn : ¬ (K = K' ∧ N = N' ∧ S = S')) (t t' : List Int) :
    ∃ lt, Diff (encI K N S t) (encI K' N' S' t') lt ∧ (mil N S < mil N' S' → lt = true) ∧ (mil N S > mil N' S' → lt = false) ∧ (mil N S = mil N' S' → K ≠ K' ∧ lt = decide (K < K')) := by
  have k1 : K = 2 ∨ K = 3 := by rcases h with h | h <;> omega
  have k2 : K' = 2 ∨ K' = 3 := by rcases h' with h | h <;> omega
  have e1 : encI K N S t = [3] ++ (dig 8 (mil N S / 1000000 + 1152921504606846976) ++ (dig 3 (mil N S % 1000000) ++ [K % 256])) := by
    unfold encI; rw [if_neg (by omega), if_neg (by omega), if_neg (by omega), if_neg (by omega)]; rfl
  have e2 : encI K' N' S' t' = [3] ++ (dig 8 (mil N' S' / 1000000 + 1152921504606846976) ++ (dig 3 (mil N' S' % 1000000) ++ [K' % 256])) := by
    unfold encI; rw [if_neg (by omega), if_neg (by omega), if_neg (by omega), if_neg (by omega)]; rfl
  have b1 := mil_bound h
  have b2 := mil_bound h'
  rw [e1, e2]
  have low : ∀ (A B : Int) (K K' : Int), -1000000000000000000000 ≤ A → A < B → B ≤ 1000000000000000000000 →
      Diff ([3] ++ (dig 8 (A / 1000000 + 1152921504606846976) ++ (dig 3 (A % 1000000) ++ [K % 256]))) ([3] ++ (dig 8 (B / 1000000 + 1152921504606846976) ++ (dig 3 (B % 1000000) ++ [K' % 256]))) true := by
    intro A B K K' h0 h1 h2
    by_cases c : A / 1000000 = B / 1000000
    · rw [c]
      exact (((dig_diff 3 (A % 1000000) (B % 1000000) (by omega) (by omega) (by show _ < (256 : Int) ^ _; simp only [Int.reducePow]; omega)).app _ _).pre _).pre _
    · exact ((dig_diff 8 _ _ (by omega) (by omega) (by show _ < (256 : Int) ^ _; simp only [Int.reducePow]; omega)).app _ _).pre _
  rcases Int.lt_trichotomy (mil N S) (mil N' S') with c | c | c
  · exact ⟨true, low _ _ _ _ b1.1 c b2.2, fun _ => rfl, fun _ => by omega, fun _ => by omega⟩
  · have hk : K ≠ K' := by
      rintro rfl
      have := mil_inj h h' c
      exact hn ⟨rfl, this.1, this.2⟩
    rw [c]
    refine ⟨decide (K < K'), ((((Diff.head (u := K % 256) (v := K' % 256) [] [] (by omega)).cast ?_).pre _).pre _).pre _, fun _ => by omega, fun _ => by omega, fun _ => ⟨hk, rfl⟩⟩
    rw [decide_eq_decide]; omega
  · exact ⟨false, ((low _ _ _ _ b2.1 c b1.2).swap).cast rfl, fun _ => by omega, fun _ => rfl, fun _ => by omega⟩
theorem nok {K N S : Int} {s : ByteArray} (h : VOK K N S s) (hk : K = 2 ∨ K = 3) : NOK K N S := by
  rcases h with h | h | h | h | h | h
  · omega
  · omega
  · exact .inl ⟨h.1, h.2.2.2.1, h.2.1, h.2.2.1⟩
  · exact .inr ⟨h.1, h.2.2.2.1, h.2.2.2.2.1, h.2.1, h.2.2.1, h.2.2.2.2.2.1⟩
  · omega
  · omega
theorem text_pos {N S : Int} {s : ByteArray} (h : Pr s) : ∀ x ∈ bnums s, 0 < x := by
  intro x hx
  obtain ⟨i, hi, rfl⟩ := List.getElem_of_mem hx
  have h1 : i < s.size := by rw [bnums_len] at hi; exact hi
  have h2 := h i (by omega) (by omega)
  rw [bt_nums s i h1] at h2
  omega
/-- Two valid values: they are the same, or the bytes differ as Compare and the Kinds tell. -/
theorem value_diff (K N S : Int) (s : ByteArray) (K' N' S' : Int) (s' : ByteArray) (h : VOK K N S s) (h' : VOK K' N' S' s') :
    ((K = K' ∧ N = N' ∧ S = S' ∧ s = s') ∧ cmpR K N S (bnums s) K' N' S' (bnums s') = (0, 0)) ∨
    ∃ lt, Diff (encI K N S (bnums s)) (encI K' N' S' (bnums s')) lt ∧ ¬ (K = K' ∧ N = N' ∧ S = S' ∧ s = s') ∧
      (((cmpR K N S (bnums s) K' N' S' (bnums s')).2 ≠ 0 ∧ lt = decide (K < K')) ∨
       ((cmpR K N S (bnums s) K' N' S' (bnums s')).2 = 0 ∧ (cmpR K N S (bnums s) K' N' S' (bnums s')).1 ≠ 0 ∧ lt = decide ((cmpR K N S (bnums s) K' N' S' (bnums s')).1 < 0)) ∨
       ((cmpR K N S (bnums s) K' N' S' (bnums s')).2 = 0 ∧ (cmpR K N S (bnums s) K' N' S' (bnums s')).1 = 0 ∧ K ≠ K' ∧ lt = decide (K < K'))) := by
  have hk : 0 ≤ K ∧ K ≤ 5 := by rcases h with h | h | h | h | h | h <;> omega
  have hk' : 0 ≤ K' ∧ K' ≤ 5 := by rcases h' with h | h | h | h | h | h <;> omega
  have nil : ∀ {a b : ByteArray}, a.size = 0 → b.size = 0 → a = b := fun {a b} ha hb => by
    apply nums_inj
    rw [List.eq_nil_of_length_eq_zero (by rw [bnums_len]; exact ha : (bnums a).length = 0), List.eq_nil_of_length_eq_zero (by rw [bnums_len]; exact hb : (bnums b).length = 0)]
  by_cases ht : tag K = tag K'
  · by_cases hn : K = 2 ∨ K = 3
    · have hn' : K' = 2 ∨ K' = 3 := by unfold tag at ht; repeat' split at ht <;> omega
      have n1 : isNum K = true := by unfold isNum; rcases hn with rfl | rfl <;> rfl
      have n2 : isNum K' = true := by unfold isNum; rcases hn' with rfl | rfl <;> rfl
      have s0 : s = s' := nil (by rcases h with h | h | h | h | h | h <;> omega) (by rcases h' with h | h | h | h | h | h <;> omega)
      have hc : cmpR K N S (bnums s) K' N' S' (bnums s') = (sg (mil N S) (mil N' S'), 0) := by unfold cmpR; rw [if_neg (by omega), if_pos ⟨n1, n2⟩]
      by_cases he : K = K' ∧ N = N' ∧ S = S'
      · refine .inl ⟨⟨he.1, he.2.1, he.2.2, s0⟩, ?_⟩
        rw [hc, he.2.1, he.2.2]
        unfold sg; rw [if_neg (by omega), if_neg (by omega)]
      · obtain ⟨lt, d, d1, d2, d3⟩ := num_diff (nok h hn) (nok h' hn') he (bnums s) (bnums s')
        refine .inr ⟨lt, d, fun e => he ⟨e.1, e.2.1, e.2.2.1⟩, .inr ?_⟩
        rw [hc]
        rcases Int.lt_trichotomy (mil N S) (mil N' S') with c | c | c
        · refine .inl ⟨rfl, ?_⟩
          rw [d1 c]; unfold sg; rw [if_pos c]; exact ⟨by decide, by decide⟩
        · refine .inr ⟨rfl, ?_, d3 c⟩
          unfold sg; rw [if_neg (by omega), if_neg (by omega)]
        · refine .inl ⟨rfl, ?_⟩
          rw [d2 c]; unfold sg; rw [if_neg (by omega), if_pos c]; exact ⟨by decide, by decide⟩
    · have hkk : K = K' := by unfold tag at ht; repeat' split at ht <;> omega
      subst hkk
      have n1 : ¬ (isNum K = true ∧ isNum K = true) := by unfold isNum; simp only [Bool.or_eq_true, beq_iff_eq]; omega
      by_cases k0 : K = 0
      · subst k0
        refine .inl ⟨⟨rfl, by rcases h with h | h | h | h | h | h <;> rcases h' with h' | h' | h' | h' | h' | h' <;> omega, by rcases h with h | h | h | h | h | h <;> rcases h' with h' | h' | h' | h' | h' | h' <;> omega, nil (by rcases h with h | h | h | h | h | h <;> omega) (by rcases h' with h | h | h | h | h | h <;> omega)⟩, rfl⟩
      by_cases k4 : K = 4
      · subst k4
        have hN : N = 0 ∧ S = 0 ∧ Pr s := by rcases h with h | h | h | h | h | h <;> first | omega | exact ⟨h.2.1, h.2.2.1, h.2.2.2.2⟩
        have hN' : N' = 0 ∧ S' = 0 ∧ Pr s' := by rcases h' with h | h | h | h | h | h <;> first | omega | exact ⟨h.2.1, h.2.2.1, h.2.2.2.2⟩
        have hc : cmpR 4 N S (bnums s) 4 N' S' (bnums s') = ((if lx (bnums s) (bnums s') = true then -1 else if lx (bnums s') (bnums s) = true then 1 else 0), 0) := by unfold cmpR; rw [if_neg (by omega), if_neg n1, if_pos rfl, if_pos rfl]
        by_cases e : s = s'
        · subst e
          refine .inl ⟨⟨rfl, by omega, by omega, rfl⟩, ?_⟩
          rw [hc, lx_self]; rfl
        · have d := text_diff (bnums s) (bnums s') (text_pos (N := 0) (S := 0) hN.2.2) (text_pos (N := 0) (S := 0) hN'.2.2) (fun q => e (nums_inj q))
          have d' := text_diff (bnums s') (bnums s) (text_pos (N := 0) (S := 0) hN'.2.2) (text_pos (N := 0) (S := 0) hN.2.2) (fun q => e (nums_inj q).symm)
          have hsw : lx (bnums s') (bnums s) = !(lx (bnums s) (bnums s')) := d'.lx.symm.trans d.swap.lx
          refine .inr ⟨lx (bnums s) (bnums s'), d.pre [4], fun q => e q.2.2.2, .inr (.inl ?_)⟩
          rw [hc, hsw]
          cases lx (bnums s) (bnums s') <;> simp
      · have hc : cmpR K N S (bnums s) K N' S' (bnums s') = (sg N N', 0) := by unfold cmpR; rw [if_neg (by omega), if_neg n1, if_pos rfl, if_neg k4]
        have s0 : s = s' := nil (by rcases h with h | h | h | h | h | h <;> omega) (by rcases h' with h | h | h | h | h | h <;> omega)
        have hS : S = S' := by rcases h with h | h | h | h | h | h <;> rcases h' with h' | h' | h' | h' | h' | h' <;> omega
        have hN : 0 ≤ N ∧ 0 ≤ N' ∧ (K = 1 ∧ N ≤ 1 ∧ N' ≤ 1 ∨ K = 5 ∧ N ≤ 3652058 ∧ N' ≤ 3652058) := by rcases h with h | h | h | h | h | h <;> rcases h' with h' | h' | h' | h' | h' | h' <;> omega
        by_cases e : N = N'
        · refine .inl ⟨⟨rfl, e, hS, s0⟩, ?_⟩
          rw [hc, e]; unfold sg; rw [if_neg (by omega), if_neg (by omega)]
        · have hsg : sg N N' ≠ 0 ∧ decide (N < N') = decide (sg N N' < 0) := by
            unfold sg
            by_cases c : N < N'
            · rw [if_pos c]; simp [c]
            · rw [if_neg c, if_pos (by omega)]; simp [c]
          refine .inr ⟨decide (N < N'), ?_, fun q => e q.2.1, .inr (.inl ?_)⟩
          · obtain ⟨h0, h0', ⟨rfl, h1, h2⟩ | ⟨rfl, h1, h2⟩⟩ := hN
            · have := (Diff.head (u := N % 256) (v := N' % 256) [] [] (by omega)).pre [2]
              exact this.cast (by rw [decide_eq_decide]; omega)
            · rcases Int.lt_or_gt_of_ne e with c | c
              · exact ((dig_diff 3 N N' h0 c (by show _ < (256 : Int) ^ _; simp only [Int.reducePow]; omega)).pre [5]).cast (by simp [c])
              · exact (((dig_diff 3 N' N h0' c (by show _ < (256 : Int) ^ _; simp only [Int.reducePow]; omega)).swap).pre [5]).cast (by simp; omega)
          · rw [hc]; exact ⟨rfl, hsg.1, hsg.2⟩
  · obtain ⟨r, e1⟩ := enc_tag K N S (bnums s)
    obtain ⟨r', e2⟩ := enc_tag K' N' S' (bnums s')
    have hlt : decide (tag K < tag K') = decide (K < K') := by
      rw [decide_eq_decide]
      unfold tag at ht ⊢
      repeat' split at ht
      all_goals (repeat' split) <;> omega
    have hne : K ≠ K' := fun e => ht (e ▸ rfl)
    refine .inr ⟨decide (K < K'), ?_, fun e => hne e.1, ?_⟩
    · rw [e1, e2]
      exact (Diff.head r r' ht).cast hlt
    · by_cases c0 : K = 0 ∨ K' = 0
      · refine .inr (.inl ?_)
        have hc : cmpR K N S (bnums s) K' N' S' (bnums s') = (sg (if K = 0 then 0 else 1) (if K' = 0 then 0 else 1), 0) := by unfold cmpR; rw [if_pos c0]
        rw [hc]
        rcases c0 with rfl | rfl
        · rw [if_pos rfl, if_neg (by omega)]
          exact ⟨rfl, by decide, by rw [decide_eq_true (show (0 : Int) < K' by omega)]; decide⟩
        · rw [if_pos rfl, if_neg (by omega)]
          exact ⟨rfl, by decide, by rw [decide_eq_false (show ¬ K < (0 : Int) by omega)]; decide⟩
      · refine .inl ⟨?_, rfl⟩
        have n1 : ¬ (isNum K = true ∧ isNum K' = true) := by
          unfold isNum; simp only [Bool.or_eq_true, beq_iff_eq]
          rintro ⟨a, b⟩
          apply ht
          rcases a with rfl | rfl <;> rcases b with rfl | rfl <;> rfl
        unfold cmpR
        rw [if_neg c0, if_neg n1, if_neg hne]
        decide
end Go.Proofs.Ytjplogeifleojaa.QFnKeyOrderO
