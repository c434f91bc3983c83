/- A door's run: the reference's and the program's searches for the best asker, and what is granted. No condition. -/
import Derived.Test.YtjnhbegppjeafaaQFnExactAdmitRunx1
import Derived.Test.YtjnhbegppjeafaaQFnExactAdmitRunx3
import Derived.Test.YtjnhbegppjeafaaUtil
namespace Go.Proofs.Ytjnhbegppjeafaa.QFnAdmD
set_option linter.unusedVariables false
set_option linter.unusedSimpArgs false
open Go.RowKit Go.Proofs.Ytjnhbegppjeafaa.QFnExactAdmitRun Go.Proofs.YtjnhbegppjeafaaW.PrintWords Go.Proofs.YtjnhbegppjeafaaU
/-- The first of the greatest among the first n. -/
def bst (p : Nat → Int) : Nat → Nat
  | 0 => 0
  | n + 1 => if p n > p (bst p n) then n else bst p n
theorem bst_lt (p : Nat → Int) : ∀ n, 0 < n → bst p n < n
  | n + 1, _ => by
    unfold bst
    split
    · omega
    · rcases Nat.eq_zero_or_pos n with h | h
      · subst h; simp [bst]
      · have := bst_lt p n h; omega
theorem bst_ge (p : Nat → Int) : ∀ n i, i < n → p i ≤ p (bst p n)
  | n + 1, i, h => by
    unfold bst
    by_cases c : p n > p (bst p n)
    · rw [if_pos c]
      rcases Nat.lt_or_ge i n with h1 | h1
      · have := bst_ge p n i h1; omega
      · have : i = n := by omega
        subst this; omega
    · rw [if_neg c]
      rcases Nat.lt_or_ge i n with h1 | h1
      · exact bst_ge p n i h1
      · have : i = n := by omega
        subst this; omega
theorem bst_first (p : Nat → Int) : ∀ n i, i < bst p n → p i < p (bst p n)
  | n + 1, i, h => by
    unfold bst at h ⊢
    by_cases c : p n > p (bst p n)
    · rw [if_pos c] at h ⊢
      have := bst_ge p n i h
      omega
    · rw [if_neg c] at h ⊢
      exact bst_first p n i h
def cv (x : S78) : S81 := ⟨x.f0, x.f1, x.f2⟩
theorem rd_cv (l : List S78) (i : Int) : rd_T81 (l.map cv) i = cv (rd_T78 l i) := by
  unfold rd_T81 rd_T78
  rw [List.getD_eq_getElem?_getD, List.getD_eq_getElem?_getD, List.getElem?_map]
  cases l[i.toNat]? <;> rfl
/-- The greatest Prio's place among a row's askers. -/
def top (l : List S78) (n : Nat) : Nat := bst (fun i => (rd_T78 l (i : Int)).f2) n
theorem impl_top (x0 x1 : Int) (l : List S78) (x9 x10 : Int) (x11 : List S56) (x31 : List S58) (x32 x33 a b : Int) (g : List Int) (hl : l.length ≤ 50) (r : List S56 × Int)
    (h : Ev (fun k => impl_AdmitRun.l2 k x0 x1 (l.map cv) x9 x10 x11 (top l l.length) x31 x32 x33 l.length l.length a b g) r) (d : Nat) :
    ∀ i : Nat, i + d = l.length → Ev (fun k => impl_AdmitRun.l2 k x0 x1 (l.map cv) x9 x10 x11 (top l i) x31 x32 x33 l.length i a b g) r := by
  induction d with
  | zero =>
    intro i hi
    have : i = l.length := by omega
    subst this
    exact h
  | succ d ih =>
    intro i hi
    have q := ih (i + 1) (by omega)
    have hb : top l i ≤ i := by
      rcases Nat.eq_zero_or_pos i with h0 | h0
      · subst h0; exact Nat.le_refl _
      · exact Nat.le_of_lt (bst_lt _ i h0)
    have w1 : wrap64 ((i : Int) + 1) = ((i + 1 : Nat) : Int) := by rw [wrap_in _ (by omega) (by omega)]; omega
    refine Ev.succ ?_
    simp only [impl_AdmitRun.l2, w1, rd_cv, List.length_map]
    refine Ev.pos (by omega) (Ev.pos (by omega) (Ev.pos (by omega) (Ev.pos (by omega) (Ev.pos (by omega) ?_))))
    unfold top bst at q
    by_cases c : (rd_T78 l (i : Int)).f2 > (rd_T78 l ((top l i : Nat) : Int)).f2
    · have c' : (fun i : Nat => (rd_T78 l (i : Int)).f2) i > (fun i : Nat => (rd_T78 l (i : Int)).f2) (bst (fun i : Nat => (rd_T78 l (i : Int)).f2) i) := c
      rw [if_pos c'] at q
      exact Ev.pos c q
    · have c' : ¬ ((fun i : Nat => (rd_T78 l (i : Int)).f2) i > (fun i : Nat => (rd_T78 l (i : Int)).f2) (bst (fun i : Nat => (rd_T78 l (i : Int)).f2) i)) := c
      rw [if_neg c'] at q
      exact Ev.neg c q
theorem spec_top (x0 x1 : Int) (x2 : List S58) (x8 : List S56) (x9 : Int) (l : List S78) (x11 x12 a b : Int) (g : List Int) (hl : l.length ≤ 50) (r : List S56 × Int)
    (h : Ev (fun k => spec_AdmitRun.l2 k x0 x1 x2 x8 x9 l x11 x12 (top l l.length) l.length a b g) r) (d : Nat) :
    ∀ i : Nat, i + d = l.length → Ev (fun k => spec_AdmitRun.l2 k x0 x1 x2 x8 x9 l x11 x12 (top l i) i a b g) r := by
  induction d with
  | zero =>
    intro i hi
    have : i = l.length := by omega
    subst this
    exact h
  | succ d ih =>
    intro i hi
    have q := ih (i + 1) (by omega)
    have hb : top l i ≤ i := by
      rcases Nat.eq_zero_or_pos i with h0 | h0
      · subst h0; exact Nat.le_refl _
      · exact Nat.le_of_lt (bst_lt _ i h0)
    have w1 : wrap64 ((i : Int) + 1) = ((i + 1 : Nat) : Int) := by rw [wrap_in _ (by omega) (by omega)]; omega
    refine Ev.succ ?_
    simp only [spec_AdmitRun.l2, w1]
    refine Ev.pos (by omega) (Ev.pos (by omega) (Ev.pos (by omega) (Ev.pos (by omega) ?_)))
    unfold top bst at q
    by_cases c : (rd_T78 l (i : Int)).f2 > (rd_T78 l ((top l i : Nat) : Int)).f2
    · have c' : (fun i : Nat => (rd_T78 l (i : Int)).f2) i > (fun i : Nat => (rd_T78 l (i : Int)).f2) (bst (fun i : Nat => (rd_T78 l (i : Int)).f2) i) := c
      rw [if_pos c'] at q
      exact Ev.pos c q
    · have c' : ¬ ((fun i : Nat => (rd_T78 l (i : Int)).f2) i > (fun i : Nat => (rd_T78 l (i : Int)).f2) (bst (fun i : Nat => (rd_T78 l (i : Int)).f2) i)) := c
      rw [if_neg c'] at q
      exact Ev.neg c q
/-- What is granted: while the best asker's cost is there. -/
def gr : Nat → List S78 → Int → List Int → List S78 × Int × List Int
  | 0, l, t, g => (l, t, g)
  | n + 1, l, t, g => if l = [] then (l, t, g) else if (rd_T78 l ((top l l.length : Nat) : Int)).f1 > t then (l, t, g) else gr n (l.take (top l l.length) ++ l.drop (top l l.length + 1)) (t - (rd_T78 l ((top l l.length : Nat) : Int)).f1) (g ++ [(rd_T78 l ((top l l.length : Nat) : Int)).f0])
theorem rd_mem (l : List S78) (b : Nat) (h : b < l.length) : rd_T78 l (b : Int) ∈ l := by
  unfold rd_T78
  rw [Int.toNat_natCast, List.getD_eq_getElem?_getD, List.getElem?_eq_getElem h]
  exact List.getElem_mem h
theorem top_one (l : List S78) : top l 1 = 0 := by simp [top, bst]
theorem spec_grant (x0 x1 : Int) (x2 : List S58) (x8 : List S56) (x11 x12 b : Int) (h8 : x8.length ≤ 500) (h12 : 0 ≤ x12 ∧ x12 ≤ 500) (r : List S56 × Int) (n : Nat) :
    ∀ (l : List S78) (t : Int) (g : List Int), l.length = n → n ≤ 50 → g.length + n ≤ 100 → 0 ≤ t → t ≤ 1000000000000000 → (∀ x ∈ l, 1 ≤ x.f1 ∧ x.f1 ≤ 1000000000000000) →
      Ev (fun k => spec_AdmitRun.l0 k x0 x1 x2 (x8 ++ [(⟨0, b, (gr n l t g).2.2⟩ : S56)]) (gr n l t g).2.1 (gr n l t g).1 x11 (x12 + 1)) r → Ev (fun k => spec_AdmitRun.l1 k x0 x1 x2 x8 t l x11 x12 0 b g) r := by
  have w12 : wrap64 (x12 + 1) = x12 + 1 := wrap_in _ (by omega) (by omega)
  induction n with
  | zero =>
    intro l t g hl _ hg h0 h1 hc h
    have : l = [] := List.length_eq_zero_iff.mp hl
    subst this
    refine Ev.succ ?_
    simp only [spec_AdmitRun.l1]
    refine Ev.neg (by simp) (Ev.succ ?_)
    simp only [spec_AdmitRun.j8, w12]
    exact Ev.neg (by simp) (Ev.pos (by omega) h)
  | succ n ih =>
    intro l t g hl hn hg h0 h1 hc h
    have hne : l ≠ [] := fun e => by subst e; simp at hl
    have hb : top l l.length < l.length := bst_lt _ _ (by omega)
    have hm := hc _ (rd_mem l _ hb)
    refine Ev.succ ?_
    simp only [spec_AdmitRun.l1]
    refine Ev.pos (by omega) (Ev.succ ?_)
    simp only [spec_AdmitRun.j8]
    refine Ev.pos (by simp) ?_
    have q := fun h => spec_top x0 x1 x2 x8 t l x11 x12 0 b g (by omega) r h (l.length - 1) 1 (by omega)
    rw [top_one] at q
    refine q ?_
    refine Ev.succ ?_
    simp only [spec_AdmitRun.l2]
    refine Ev.neg (by omega) (Ev.pos (by omega) (Ev.pos (by omega) ?_))
    simp only [gr, if_neg hne] at h
    by_cases c : (rd_T78 l ((top l l.length : Nat) : Int)).f1 > t
    · rw [if_pos c] at h
      rw [w12]
      exact Ev.pos c (Ev.pos (by omega) h)
    · rw [if_neg c] at h
      have w1 : wrap64 (((top l l.length : Nat) : Int) + 1) = ((top l l.length + 1 : Nat) : Int) := by rw [wrap_in _ (by omega) (by omega)]; omega
      have w2 : wrap64 (t - (rd_T78 l ((top l l.length : Nat) : Int)).f1) = t - (rd_T78 l ((top l l.length : Nat) : Int)).f1 := wrap_in _ (by omega) (by omega)
      refine Ev.neg c (Ev.pos (by omega) ?_)
      simp only [Option.bind_some, w1, w2, Int.toNat_natCast, List.nil_append, List.length_nil, Nat.zero_add]
      refine Ev.pos (by omega) (Ev.pos (by rw [List.length_take]; omega) (Ev.pos (by omega) (Ev.pos (by omega) (Ev.pos (by rw [List.length_take, List.length_drop]; omega) ?_))))
      refine ih _ _ _ (by rw [List.length_append, List.length_take, List.length_drop]; omega) (by omega) (by rw [List.length_append, List.length_singleton]; omega) (by omega) (by omega) ?_ h
      intro x hx
      rcases List.mem_append.mp hx with hx | hx
      · exact hc x (List.mem_of_mem_take hx)
      · exact hc x (List.mem_of_mem_drop hx)
theorem impl_grant (x0 x1 x10 : Int) (x11 : List S56) (x31 : List S58) (x32 x33 a b : Int) (h11 : x11.length ≤ 500) (h33 : 0 ≤ x33 ∧ x33 ≤ 500) (r : List S56 × Int) (n : Nat) :
    ∀ (l : List S78) (t : Int) (g : List Int), l.length = n → n ≤ 50 → g.length + n ≤ 100 → 0 ≤ t → t ≤ 1000000000000000 → (∀ x ∈ l, 1 ≤ x.f1 ∧ x.f1 ≤ 1000000000000000) →
      Ev (fun k => impl_AdmitRun.l0 k x0 x1 ((gr n l t g).1.map cv) (gr n l t g).2.1 x10 (x11 ++ [(⟨a, b, (gr n l t g).2.2⟩ : S56)]) x31 x32 (x33 + 1)) r → Ev (fun k => impl_AdmitRun.l1 k x0 x1 (l.map cv) t x10 x11 x31 x32 x33 a b g) r := by
  have w12 : wrap64 (x33 + 1) = x33 + 1 := wrap_in _ (by omega) (by omega)
  induction n with
  | zero =>
    intro l t g hl _ hg h0 h1 hc h
    have : l = [] := List.length_eq_zero_iff.mp hl
    subst this
    refine Ev.succ ?_
    simp only [impl_AdmitRun.l1, w12]
    exact Ev.neg (by simp) (Ev.pos (by omega) h)
  | succ n ih =>
    intro l t g hl hn hg h0 h1 hc h
    have hne : l ≠ [] := fun e => by subst e; simp at hl
    have hb : top l l.length < l.length := bst_lt _ _ (by omega)
    have hm := hc _ (rd_mem l _ hb)
    refine Ev.succ ?_
    simp only [impl_AdmitRun.l1, List.length_map]
    refine Ev.pos (by omega) ?_
    refine impl_top x0 x1 l t x10 x11 x31 x32 x33 a b g (by omega) r ?_ l.length 0 (by omega)
    refine Ev.succ ?_
    simp only [impl_AdmitRun.l2, rd_cv, List.length_map]
    refine Ev.neg (by omega) (Ev.pos (by omega) (Ev.pos (by omega) ?_))
    simp only [gr, if_neg hne] at h
    by_cases c : (rd_T78 l ((top l l.length : Nat) : Int)).f1 > t
    · rw [if_pos c] at h
      rw [w12]
      exact Ev.pos c (Ev.pos (by omega) h)
    · rw [if_neg c] at h
      have w1 : wrap64 (((top l l.length : Nat) : Int) + 1) = ((top l l.length : Nat) : Int) + 1 := wrap_in _ (by omega) (by omega)
      have w2 : wrap64 (t - (cv (rd_T78 l ((top l l.length : Nat) : Int))).f1) = t - (rd_T78 l ((top l l.length : Nat) : Int)).f1 := wrap_in _ (by show _ ≤ t - (rd_T78 l ((top l l.length : Nat) : Int)).f1; omega) (by show t - (rd_T78 l ((top l l.length : Nat) : Int)).f1 ≤ _; omega)
      have hd : impl_waiter.f (l.map cv) ((top l l.length : Nat) : Int) (((top l l.length : Nat) : Int) + 1) = some ((l.take (top l l.length) ++ l.drop (top l l.length + 1)).map cv) := by
        unfold impl_waiter.f
        rw [if_pos (by omega), if_pos rfl, if_pos (by rw [List.length_map]; omega), Int.toNat_natCast, show (((top l l.length : Nat) : Int) + 1).toNat = top l l.length + 1 by omega, List.map_append, List.map_take, List.map_drop]
      refine Ev.neg c (Ev.pos (by omega) ?_)
      rw [w1, w2]
      refine Ev.bndc hd ?_
      refine ih _ _ _ (by rw [List.length_append, List.length_take, List.length_drop]; omega) (by omega) (by rw [List.length_append, List.length_singleton]; omega) (by omega) (by omega) ?_ h
      intro x hx
      rcases List.mem_append.mp hx with hx | hx
      · exact hc x (List.mem_of_mem_take hx)
      · exact hc x (List.mem_of_mem_drop hx)
/-- Nobody can be granted: none is there, or the best one's cost is not. -/
def stuck (l : List S78) (t : Int) : Prop := l = [] ∨ (rd_T78 l ((top l l.length : Nat) : Int)).f1 > t
theorem gr_stuck (n : Nat) (l : List S78) (t : Int) (g : List Int) (h : stuck l t) : gr n l t g = (l, t, g) := by
  cases n with
  | zero => rfl
  | succ n =>
    simp only [gr]
    by_cases c : l = []
    · rw [if_pos c]
    · rw [if_neg c, if_pos (h.resolve_left c)]
/-- What holds behind the granting. -/
theorem gr_facts (n : Nat) : ∀ (l : List S78) (t : Int) (g : List Int), l.length = n → 0 ≤ t → (∀ x ∈ l, 1 ≤ x.f1) →
    stuck (gr n l t g).1 (gr n l t g).2.1 ∧ 0 ≤ (gr n l t g).2.1 ∧ (gr n l t g).2.1 ≤ t ∧ (gr n l t g).1.length ≤ n ∧ (∀ x ∈ (gr n l t g).1, x ∈ l) ∧ (gr n l t g).2.2.length ≤ g.length + n := by
  induction n with
  | zero =>
    intro l t g hl h0 hc
    have : l = [] := List.length_eq_zero_iff.mp hl
    subst this
    exact ⟨.inl rfl, h0, Int.le_refl _, Nat.le_refl _, fun _ h => h, by simp [gr]⟩
  | succ n ih =>
    intro l t g hl h0 hc
    have hne : l ≠ [] := fun e => by subst e; simp at hl
    have hb : top l l.length < l.length := bst_lt _ _ (by omega)
    have hm := hc _ (rd_mem l _ hb)
    simp only [gr, if_neg hne]
    by_cases c : (rd_T78 l ((top l l.length : Nat) : Int)).f1 > t
    · rw [if_pos c]
      exact ⟨.inr c, h0, Int.le_refl _, by show l.length ≤ n + 1; omega, fun _ h => h, by show g.length ≤ g.length + (n + 1); omega⟩
    · rw [if_neg c]
      have hx : ∀ x ∈ l.take (top l l.length) ++ l.drop (top l l.length + 1), x ∈ l := by
        intro x hx
        rcases List.mem_append.mp hx with hx | hx
        · exact List.mem_of_mem_take hx
        · exact List.mem_of_mem_drop hx
      obtain ⟨q1, q2, q3, q4, q5, q6⟩ := ih (l.take (top l l.length) ++ l.drop (top l l.length + 1)) (t - (rd_T78 l ((top l l.length : Nat) : Int)).f1) (g ++ [(rd_T78 l ((top l l.length : Nat) : Int)).f0]) (by rw [List.length_append, List.length_take, List.length_drop]; omega) (by omega) (fun x h => hc x (hx x h))
      refine ⟨q1, q2, by omega, by omega, fun x h => hx x (q5 x h), ?_⟩
      rw [List.length_append, List.length_singleton] at q6
      omega
/-- One operation, ahead of the granting: the code, the id told, the row, the tokens, the next id. -/
def opn (x0 x1 : Int) (o : S58) (l : List S78) (t id : Int) : Int × Int × List S78 × Int × Int :=
  if o.f0 = 1 ∧ (1 ≤ o.f1 ∧ o.f1 ≤ x1) ∧ (0 ≤ o.f2 ∧ o.f2 ≤ 9) then (if l.length = 50 then (9, 0, l, t, id) else (0, id, l ++ [⟨id, o.f1, o.f2⟩], t, id + 1))
  else if o.f0 = 2 ∧ (1 ≤ o.f1 ∧ o.f1 ≤ 1000) then (0, 0, l, (if t + o.f1 * x0 > x1 then x1 else t + o.f1 * x0), id)
  else if o.f0 = 3 ∧ (1 ≤ o.f1 ∧ o.f1 ≤ x1) then (0, 0, l, (if t + o.f1 > x1 then x1 else t + o.f1), id)
  else (1, 0, l, t, id)
theorem spec_j5 (x0 x1 : Int) (x2 : List S58) (x8 : List S56) (x12 : Int) (r : List S56 × Int) (t : Int) (l : List S78) (id a b : Int)
    (h : Ev (fun k => spec_AdmitRun.l1 k x0 x1 x2 x8 (if t > x1 then x1 else t) l id x12 a b []) r) : Ev (fun k => spec_AdmitRun.j5 k x0 x1 x2 x8 t l id x12 a b) r := by
  refine Ev.succ ?_
  simp only [spec_AdmitRun.j5]
  by_cases c : t > x1
  · rw [if_pos c] at h
    exact Ev.pos c (Ev.succ (by simp only [spec_AdmitRun.j6]; exact h))
  · rw [if_neg c] at h
    exact Ev.neg c (Ev.succ (by simp only [spec_AdmitRun.j6]; exact h))
theorem spec_op (x0 x1 : Int) (x2 : List S58) (x8 : List S56) (x12 : Int) (r : List S56 × Int) (t : Int) (l : List S78) (id : Int) (o : S58) (ho : rd_T58 x2 x12 = o) (hi : 0 ≤ x12 ∧ x12 < x2.length) (h0 : 1 ≤ x0 ∧ x0 ≤ 1000000000000000) (h1 : 1 ≤ x1 ∧ x1 ≤ 1000000000000000) (ht : 0 ≤ t ∧ t ≤ x1) (hl : l.length ≤ 50) (hid : 0 ≤ id ∧ id ≤ 500)
    (h : Ev (fun k => spec_AdmitRun.l1 k x0 x1 x2 x8 (opn x0 x1 o l t id).2.2.2.1 (opn x0 x1 o l t id).2.2.1 (opn x0 x1 o l t id).2.2.2.2 x12 (opn x0 x1 o l t id).1 (opn x0 x1 o l t id).2.1 []) r) : Ev (fun k => spec_AdmitRun.l0 k x0 x1 x2 x8 t l id x12) r := by
  obtain ⟨f0, f1, f2⟩ := o
  have J5 := spec_j5 x0 x1 x2 x8 x12 r
  have nt : ¬ t > x1 := by omega
  -- behind the question whether it fits
  have J2 : Ev (fun k => spec_AdmitRun.j2 k x0 x1 x2 x8 t l id x12 (decide (1 ≤ f1 ∧ f1 ≤ x1)) f0 f1 f2 0 0) r := by
    have J3 : Ev (fun k => spec_AdmitRun.j3 k x0 x1 x2 x8 t l id x12 (decide (1 ≤ f1 ∧ f1 ≤ x1)) (decide (f0 = 1 ∧ (1 ≤ f1 ∧ f1 ≤ x1) ∧ (0 ≤ f2 ∧ f2 ≤ 9))) f0 f1 f2 0 0) r := by
      refine Ev.succ ?_
      simp only [spec_AdmitRun.j3]
      by_cases c : f0 = 1 ∧ (1 ≤ f1 ∧ f1 ≤ x1) ∧ (0 ≤ f2 ∧ f2 ≤ 9)
      · refine Ev.pos (decide_eq_true c) ?_
        simp only [opn, if_pos c] at h
        by_cases c2 : l.length = 50
        · rw [if_pos c2] at h
          refine Ev.pos (by omega) (J5 _ _ _ _ _ ?_)
          rw [if_neg nt]; exact h
        · rw [if_neg c2] at h
          refine Ev.neg (by omega) (Ev.pos (by omega) (J5 _ _ _ _ _ ?_))
          rw [if_neg nt, wrap_in (id + 1) (by omega) (by omega)]; exact h
      · refine Ev.neg (by simpa using c) ?_
        simp only [opn, if_neg c] at h
        have J4 : Ev (fun k => spec_AdmitRun.j4 k x0 x1 x2 x8 t l id x12 (decide (1 ≤ f1 ∧ f1 ≤ x1)) (decide (f0 = 2 ∧ (1 ≤ f1 ∧ f1 ≤ 1000))) f0 f1 f2 0 0) r := by
          refine Ev.succ ?_
          simp only [spec_AdmitRun.j4]
          by_cases d : f0 = 2 ∧ (1 ≤ f1 ∧ f1 ≤ 1000)
          · refine Ev.pos (decide_eq_true d) (J5 _ _ _ _ _ ?_)
            rw [if_pos d] at h
            have hm : 1 ≤ f1 * x0 ∧ f1 * x0 ≤ 1000000000000000000 := by
              constructor
              · have := Int.mul_le_mul d.2.1 h0.1 (by omega) (by omega); omega
              · have := Int.mul_le_mul d.2.2 h0.2 (by omega) (by omega); omega
            rw [wrap_in (f1 * x0) (by omega) (by omega), wrap_in (t + f1 * x0) (by omega) (by omega)]
            exact h
          · rw [if_neg d] at h
            refine Ev.neg (by simpa using d) ?_
            by_cases e : f0 = 3
            · refine Ev.pos e ?_
              by_cases e2 : 1 ≤ f1 ∧ f1 ≤ x1
              · rw [if_pos ⟨e, e2⟩] at h
                refine Ev.pos (decide_eq_true e2) (J5 _ _ _ _ _ ?_)
                rw [wrap_in (t + f1) (by omega) (by omega)]
                exact h
              · rw [if_neg (fun q => e2 q.2)] at h
                refine Ev.neg (by simpa using e2) (J5 _ _ _ _ _ ?_)
                rw [if_neg nt]; exact h
            · rw [if_neg (fun q => e q.1)] at h
              refine Ev.neg e (J5 _ _ _ _ _ ?_)
              rw [if_neg nt]; exact h
        by_cases d : f0 = 2
        · refine Ev.pos d ?_
          by_cases d1 : f1 ≥ 1
          · refine Ev.pos d1 ?_
            have e : decide (f0 = 2 ∧ (1 ≤ f1 ∧ f1 ≤ 1000)) = decide (f1 ≤ 1000) := by simp [d, d1]
            rw [e] at J4; exact J4
          · refine Ev.neg d1 ?_
            have e : decide (f0 = 2 ∧ (1 ≤ f1 ∧ f1 ≤ 1000)) = false := decide_eq_false (fun q => d1 q.2.1)
            rw [e] at J4; exact J4
        · refine Ev.neg d ?_
          have e : decide (f0 = 2 ∧ (1 ≤ f1 ∧ f1 ≤ 1000)) = false := decide_eq_false (fun q => d q.1)
          rw [e] at J4; exact J4
    refine Ev.succ ?_
    simp only [spec_AdmitRun.j2]
    by_cases c : f0 = 1
    · refine Ev.pos c ?_
      by_cases c1 : 1 ≤ f1 ∧ f1 ≤ x1
      · refine Ev.pos (decide_eq_true c1) ?_
        by_cases c2 : f2 ≥ 0
        · refine Ev.pos c2 ?_
          have e : decide (f0 = 1 ∧ (1 ≤ f1 ∧ f1 ≤ x1) ∧ (0 ≤ f2 ∧ f2 ≤ 9)) = decide (f2 ≤ 9) := by
            rw [decide_eq_decide]; exact ⟨fun q => q.2.2.2, fun q => ⟨c, c1, c2, q⟩⟩
          rw [e] at J3; exact J3
        · refine Ev.neg c2 ?_
          have e : decide (f0 = 1 ∧ (1 ≤ f1 ∧ f1 ≤ x1) ∧ (0 ≤ f2 ∧ f2 ≤ 9)) = false := decide_eq_false (fun q => c2 q.2.2.1)
          rw [e] at J3; exact J3
      · refine Ev.neg (by simpa using c1) ?_
        have e : decide (f0 = 1 ∧ (1 ≤ f1 ∧ f1 ≤ x1) ∧ (0 ≤ f2 ∧ f2 ≤ 9)) = false := decide_eq_false (fun q => c1 q.2.1)
        rw [e] at J3; exact J3
    · refine Ev.neg c ?_
      have e : decide (f0 = 1 ∧ (1 ≤ f1 ∧ f1 ≤ x1) ∧ (0 ≤ f2 ∧ f2 ≤ 9)) = false := decide_eq_false (fun q => c q.1)
      rw [e] at J3; exact J3
  refine Ev.succ ?_
  simp only [spec_AdmitRun.l0, ho]
  refine Ev.pos (by omega) (Ev.pos (by omega) ?_)
  by_cases c : f1 ≥ 1
  · refine Ev.pos c ?_
    have e : decide (1 ≤ f1 ∧ f1 ≤ x1) = decide (f1 ≤ x1) := by rw [decide_eq_decide]; exact ⟨fun q => q.2, fun q => ⟨c, q⟩⟩
    rw [e] at J2; exact J2
  · refine Ev.neg c ?_
    have e : decide (1 ≤ f1 ∧ f1 ≤ x1) = false := decide_eq_false (fun q => c q.1)
    rw [e] at J2; exact J2
theorem kw (a lo hi : Int) : impl_kWithin.f a lo hi = some (decide (lo ≤ a ∧ a ≤ hi)) := by
  unfold impl_kWithin.f
  by_cases c : a ≥ lo
  · rw [if_pos c, show decide (lo ≤ a ∧ a ≤ hi) = decide (a ≤ hi) by rw [decide_eq_decide]; exact ⟨fun q => q.2, fun q => ⟨c, q⟩⟩]
  · rw [if_neg c, decide_eq_false (fun q => c q.1)]
theorem mn_if (x t : Int) : mn x t = if t > x then x else t := by
  unfold mn
  split <;> split <;> omega
theorem impl_op (x0 x1 : Int) (x11 : List S56) (x31 : List S58) (x32 x33 : Int) (r : List S56 × Int) (t : Int) (l : List S78) (id : Int) (o : S58) (ho : rd_T58 x31 x33 = o) (hi : 0 ≤ x33 ∧ x33 < x31.length) (hn : x32 = x31.length) (h0 : 1 ≤ x0 ∧ x0 ≤ 1000000000000000) (h1 : 1 ≤ x1 ∧ x1 ≤ 1000000000000000) (ht : 0 ≤ t ∧ t ≤ x1) (hl : l.length ≤ 50) (hid : 0 ≤ id ∧ id ≤ 500)
    (h : Ev (fun k => impl_AdmitRun.l1 k x0 x1 ((opn x0 x1 o l t id).2.2.1.map cv) (opn x0 x1 o l t id).2.2.2.1 (opn x0 x1 o l t id).2.2.2.2 x11 x31 x32 x33 (opn x0 x1 o l t id).1 (opn x0 x1 o l t id).2.1 []) r) : Ev (fun k => impl_AdmitRun.l0 k x0 x1 (l.map cv) t id x11 x31 x32 x33) r := by
  obtain ⟨f0, f1, f2⟩ := o
  have J4 : ∀ (t' : Int) (l' : List S81) (id' a b : Int), Ev (fun k => impl_AdmitRun.l1 k x0 x1 l' t' id' x11 x31 x32 x33 a b []) r → Ev (fun k => impl_AdmitRun.j4 k x0 x1 l' t' id' x11 x31 x32 x33 a b) r := by
    intro t' l' id' a b q
    exact Ev.succ (by simp only [impl_AdmitRun.j4]; exact q)
  have J2 : Ev (fun k => impl_AdmitRun.j2 k x0 x1 (l.map cv) t id x11 x31 x32 x33 (decide (f0 = 1 ∧ (1 ≤ f1 ∧ f1 ≤ x1) ∧ (0 ≤ f2 ∧ f2 ≤ 9))) f0 f1 f2 0 0) r := by
    refine Ev.succ ?_
    simp only [impl_AdmitRun.j2, List.length_map]
    by_cases c : f0 = 1 ∧ (1 ≤ f1 ∧ f1 ≤ x1) ∧ (0 ≤ f2 ∧ f2 ≤ 9)
    · refine Ev.pos (decide_eq_true c) ?_
      simp only [opn, if_pos c] at h
      by_cases c2 : l.length = 50
      · rw [if_pos c2] at h
        exact Ev.pos (by omega) (J4 _ _ _ _ _ h)
      · rw [if_neg c2] at h
        refine Ev.neg (by omega) (Ev.pos (by omega) (J4 _ _ _ _ _ ?_))
        rw [wrap_in (id + 1) (by omega) (by omega)]
        simpa [cv] using h
    · refine Ev.neg (by simpa using c) ?_
      simp only [opn, if_neg c] at h
      have J3 : Ev (fun k => impl_AdmitRun.j3 k x0 x1 (l.map cv) t id x11 x31 x32 x33 (decide (f0 = 2 ∧ (1 ≤ f1 ∧ f1 ≤ 1000))) f0 f1 f2 0 0) r := by
        refine Ev.succ ?_
        simp only [impl_AdmitRun.j3]
        by_cases d : f0 = 2 ∧ (1 ≤ f1 ∧ f1 ≤ 1000)
        · refine Ev.pos (decide_eq_true d) (J4 _ _ _ _ _ ?_)
          rw [if_pos d] at h
          have hm : 1 ≤ f1 * x0 ∧ f1 * x0 ≤ 1000000000000000000 := by
            constructor
            · have := Int.mul_le_mul d.2.1 h0.1 (by omega) (by omega); omega
            · have := Int.mul_le_mul d.2.2 h0.2 (by omega) (by omega); omega
          rw [Int.mul_comm x0 f1, wrap_in (f1 * x0) (by omega) (by omega), wrap_in (t + f1 * x0) (by omega) (by omega), mn_if]
          exact h
        · rw [if_neg d] at h
          refine Ev.neg (by simpa using d) ?_
          by_cases e : f0 = 3
          · refine Ev.pos e (Ev.bndc (kw f1 1 x1) ?_)
            by_cases e2 : 1 ≤ f1 ∧ f1 ≤ x1
            · rw [if_pos ⟨e, e2⟩] at h
              refine Ev.pos (decide_eq_true e2) (J4 _ _ _ _ _ ?_)
              rw [wrap_in (t + f1) (by omega) (by omega), mn_if]
              exact h
            · rw [if_neg (fun q => e2 q.2)] at h
              exact Ev.neg (by simpa using e2) (J4 _ _ _ _ _ h)
          · rw [if_neg (fun q => e q.1)] at h
            exact Ev.neg e (J4 _ _ _ _ _ h)
      by_cases d : f0 = 2
      · refine Ev.pos d (Ev.bndc (kw f1 1 1000) ?_)
        have e : decide (f0 = 2 ∧ (1 ≤ f1 ∧ f1 ≤ 1000)) = decide (1 ≤ f1 ∧ f1 ≤ 1000) := by rw [decide_eq_decide]; exact ⟨fun q => q.2, fun q => ⟨d, q⟩⟩
        rw [e] at J3; exact J3
      · refine Ev.neg d ?_
        have e : decide (f0 = 2 ∧ (1 ≤ f1 ∧ f1 ≤ 1000)) = false := decide_eq_false (fun q => d q.1)
        rw [e] at J3; exact J3
  refine Ev.succ ?_
  simp only [impl_AdmitRun.l0, ho]
  refine Ev.pos (by omega) (Ev.pos (by omega) (Ev.pos (by omega) ?_))
  by_cases c : f0 = 1
  · refine Ev.pos c (Ev.bndc (kw f1 1 x1) ?_)
    by_cases c1 : 1 ≤ f1 ∧ f1 ≤ x1
    · refine Ev.pos (decide_eq_true c1) (Ev.bndc (kw f2 0 9) ?_)
      have e : decide (f0 = 1 ∧ (1 ≤ f1 ∧ f1 ≤ x1) ∧ (0 ≤ f2 ∧ f2 ≤ 9)) = decide (0 ≤ f2 ∧ f2 ≤ 9) := by rw [decide_eq_decide]; exact ⟨fun q => q.2.2, fun q => ⟨c, c1, q⟩⟩
      rw [e] at J2; exact J2
    · refine Ev.neg (by simpa using c1) ?_
      have e : decide (f0 = 1 ∧ (1 ≤ f1 ∧ f1 ≤ x1) ∧ (0 ≤ f2 ∧ f2 ≤ 9)) = false := decide_eq_false (fun q => c1 q.2.1)
      rw [e] at J2; exact J2
  · refine Ev.neg c ?_
    have e : decide (f0 = 1 ∧ (1 ≤ f1 ∧ f1 ≤ x1) ∧ (0 ≤ f2 ∧ f2 ≤ 9)) = false := decide_eq_false (fun q => c q.1)
    rw [e] at J2; exact J2
/-- What is granted behind an operation: nothing where its code is not OK. -/
def gq (c : Int) (l : List S78) (t : Int) : List S78 × Int × List Int := if c = 0 then gr l.length l t [] else (l, t, [])
def run (x0 x1 : Int) : List S58 → List S78 → Int → Int → List S56
  | [], _, _, _ => []
  | o :: os, l, t, id => ⟨(opn x0 x1 o l t id).1, (opn x0 x1 o l t id).2.1, (gq (opn x0 x1 o l t id).1 (opn x0 x1 o l t id).2.2.1 (opn x0 x1 o l t id).2.2.2.1).2.2⟩ :: run x0 x1 os (gq (opn x0 x1 o l t id).1 (opn x0 x1 o l t id).2.2.1 (opn x0 x1 o l t id).2.2.2.1).1 (gq (opn x0 x1 o l t id).1 (opn x0 x1 o l t id).2.2.1 (opn x0 x1 o l t id).2.2.2.1).2.1 (opn x0 x1 o l t id).2.2.2.2
/-- What holds between the operations. -/
structure Inv (x1 : Int) (l : List S78) (t id : Int) (n : Nat) : Prop where
  t0 : 0 ≤ t
  t1 : t ≤ x1
  len : l.length ≤ 50
  id0 : 0 ≤ id
  id1 : id ≤ n
  cost : ∀ x ∈ l, 1 ≤ x.f1 ∧ x.f1 ≤ x1
  stk : stuck l t
theorem opn_inv (x0 x1 : Int) (o : S58) (l : List S78) (t id : Int) (n : Nat) (h0 : 1 ≤ x0) (h1 : 1 ≤ x1) (h : Inv x1 l t id n) :
    0 ≤ (opn x0 x1 o l t id).2.2.2.1 ∧ (opn x0 x1 o l t id).2.2.2.1 ≤ x1 ∧ (opn x0 x1 o l t id).2.2.1.length ≤ 50 ∧ 0 ≤ (opn x0 x1 o l t id).2.2.2.2 ∧ (opn x0 x1 o l t id).2.2.2.2 ≤ ((n + 1 : Nat) : Int) ∧ (∀ x ∈ (opn x0 x1 o l t id).2.2.1, 1 ≤ x.f1 ∧ x.f1 ≤ x1) ∧ ((opn x0 x1 o l t id).1 ≠ 0 → (opn x0 x1 o l t id).2.2.1 = l ∧ (opn x0 x1 o l t id).2.2.2.1 = t) := by
  obtain ⟨a, b, c, d, e, f, g⟩ := h
  unfold opn
  split
  · rename_i q
    split
    · exact ⟨a, b, c, d, by show id ≤ _; omega, f, fun _ => ⟨rfl, rfl⟩⟩
    · refine ⟨a, b, by show (l ++ [_]).length ≤ 50; rw [List.length_append, List.length_singleton]; omega, by show 0 ≤ id + 1; omega, by show id + 1 ≤ _; omega, ?_, fun q => absurd rfl q⟩
      intro x hx
      rcases List.mem_append.mp hx with hx | hx
      · exact f x hx
      · rw [List.mem_singleton.mp hx]; exact q.2.1
  · split
    · rename_i q
      have hm : 1 ≤ o.f1 * x0 := by have := Int.mul_le_mul q.2.1 h0 (by omega) (by omega); omega
      refine ⟨?_, ?_, c, d, by show id ≤ _; omega, f, fun q => absurd rfl q⟩
      · dsimp only; split <;> omega
      · dsimp only; split <;> omega
    · split
      · rename_i q
        refine ⟨?_, ?_, c, d, by show id ≤ _; omega, f, fun q => absurd rfl q⟩
        · dsimp only; split <;> omega
        · dsimp only; split <;> omega
      · exact ⟨a, b, c, d, by show id ≤ _; omega, f, fun _ => ⟨rfl, rfl⟩⟩
theorem gq_inv (x0 x1 : Int) (o : S58) (l : List S78) (t id : Int) (n : Nat) (h0 : 1 ≤ x0) (h1 : 1 ≤ x1) (h : Inv x1 l t id n) :
    Inv x1 (gq (opn x0 x1 o l t id).1 (opn x0 x1 o l t id).2.2.1 (opn x0 x1 o l t id).2.2.2.1).1 (gq (opn x0 x1 o l t id).1 (opn x0 x1 o l t id).2.2.1 (opn x0 x1 o l t id).2.2.2.1).2.1 (opn x0 x1 o l t id).2.2.2.2 (n + 1) := by
  obtain ⟨a, b, c, d, e, f, g⟩ := opn_inv x0 x1 o l t id n h0 h1 h
  unfold gq
  by_cases q : (opn x0 x1 o l t id).1 = 0
  · rw [if_pos q]
    obtain ⟨g1, g2, g3, g4, g5, g6⟩ := gr_facts _ (opn x0 x1 o l t id).2.2.1 (opn x0 x1 o l t id).2.2.2.1 [] rfl a (fun x hx => (f x hx).1)
    exact ⟨g2, by omega, by omega, d, e, fun x hx => f x (g5 x hx), g1⟩
  · rw [if_neg q]
    obtain ⟨u1, u2⟩ := g q
    exact ⟨a, b, c, d, e, f, by rw [u1, u2]; exact h.stk⟩
theorem drop_cons (x2 : List S58) (i : Nat) (h : i < x2.length) : x2.drop i = rd_T58 x2 (i : Int) :: x2.drop (i + 1) := by
  unfold rd_T58
  rw [Int.toNat_natCast, List.getD_eq_getElem?_getD, List.getElem?_eq_getElem h, List.drop_eq_getElem_cons h]
  rfl
theorem spec_run (x0 x1 : Int) (x2 : List S58) (h0 : 1 ≤ x0 ∧ x0 ≤ 1000000000000000) (h1 : 1 ≤ x1 ∧ x1 ≤ 1000000000000000) (hn : x2.length ≤ 500) (d : Nat) :
    ∀ (i : Nat) (x8 : List S56) (l : List S78) (t id : Int), i + d = x2.length → x8.length = i → Inv x1 l t id i →
      Ev (fun k => spec_AdmitRun.l0 k x0 x1 x2 x8 t l id i) (x8 ++ run x0 x1 (x2.drop i) l t id, 0) := by
  induction d with
  | zero =>
    intro i x8 l t id hi _ _
    refine Ev.succ ?_
    simp only [spec_AdmitRun.l0]
    refine Ev.neg (by omega) (Ev.some' ?_)
    rw [List.drop_of_length_le (by omega)]
    simp [run]
  | succ d ih =>
    intro i x8 l t id hi h8 hv
    have h8' : x8.length < 3518437208883 := by omega
    have w12 : wrap64 ((i : Int) + 1) = ((i + 1 : Nat) : Int) := by rw [wrap_in _ (by omega) (by omega)]; omega
    have hv2 := gq_inv x0 x1 (rd_T58 x2 (i : Int)) l t id i h0.1 h1.1 hv
    obtain ⟨a, b, c, e0, e1, f, g⟩ := opn_inv x0 x1 (rd_T58 x2 (i : Int)) l t id i h0.1 h1.1 hv
    have q := ih (i + 1) (x8 ++ [(⟨(opn x0 x1 (rd_T58 x2 (i : Int)) l t id).1, (opn x0 x1 (rd_T58 x2 (i : Int)) l t id).2.1, (gq (opn x0 x1 (rd_T58 x2 (i : Int)) l t id).1 (opn x0 x1 (rd_T58 x2 (i : Int)) l t id).2.2.1 (opn x0 x1 (rd_T58 x2 (i : Int)) l t id).2.2.2.1).2.2⟩ : S56)]) _ _ _ (by omega) (by rw [List.length_append, List.length_singleton, h8]) hv2
    rw [drop_cons x2 i (by omega)]
    simp only [run]
    rw [List.append_assoc, List.singleton_append] at q
    have hid := hv.id1
    refine spec_op x0 x1 x2 x8 i _ t l id _ rfl ⟨by omega, by omega⟩ h0 h1 ⟨hv.t0, hv.t1⟩ hv.len ⟨hv.id0, by omega⟩ ?_
    by_cases z : (opn x0 x1 (rd_T58 x2 (i : Int)) l t id).1 = 0
    · simp only [gq, if_pos z] at q ⊢
      rw [z] at q ⊢
      exact spec_grant x0 x1 x2 x8 _ i _ (by omega) ⟨by omega, by omega⟩ _ _ _ _ [] rfl c (by simp; omega) a (by omega) (fun x hx => ⟨(f x hx).1, by have := (f x hx).2; omega⟩) q
    · simp only [gq, if_neg z] at q ⊢
      have J8 : ∀ R, Ev (fun k => spec_AdmitRun.l0 k x0 x1 x2 (x8 ++ [(⟨(opn x0 x1 (rd_T58 x2 (i : Int)) l t id).1, (opn x0 x1 (rd_T58 x2 (i : Int)) l t id).2.1, []⟩ : S56)]) (opn x0 x1 (rd_T58 x2 (i : Int)) l t id).2.2.2.1 (opn x0 x1 (rd_T58 x2 (i : Int)) l t id).2.2.1 (opn x0 x1 (rd_T58 x2 (i : Int)) l t id).2.2.2.2 ((i + 1 : Nat) : Int)) R → Ev (fun k => spec_AdmitRun.j8 k x0 x1 x2 x8 (opn x0 x1 (rd_T58 x2 (i : Int)) l t id).2.2.2.1 (opn x0 x1 (rd_T58 x2 (i : Int)) l t id).2.2.1 (opn x0 x1 (rd_T58 x2 (i : Int)) l t id).2.2.2.2 i false (opn x0 x1 (rd_T58 x2 (i : Int)) l t id).1 (opn x0 x1 (rd_T58 x2 (i : Int)) l t id).2.1 []) R := by
        intro R q
        refine Ev.succ ?_
        simp only [spec_AdmitRun.j8, w12]
        exact Ev.neg (by decide) (Ev.pos h8' q)
      refine Ev.succ ?_
      simp only [spec_AdmitRun.l1]
      by_cases y : ((opn x0 x1 (rd_T58 x2 (i : Int)) l t id).2.2.1.length : Int) > 0
      · refine Ev.pos y ?_
        rw [show ((opn x0 x1 (rd_T58 x2 (i : Int)) l t id).1 == 0) = false by simpa using z]
        exact J8 _ q
      · exact Ev.neg y (J8 _ q)
theorem impl_run (x0 x1 : Int) (x2 : List S58) (h0 : 1 ≤ x0 ∧ x0 ≤ 1000000000000000) (h1 : 1 ≤ x1 ∧ x1 ≤ 1000000000000000) (hn : x2.length ≤ 500) (d : Nat) :
    ∀ (i : Nat) (x8 : List S56) (l : List S78) (t id : Int), i + d = x2.length → x8.length = i → Inv x1 l t id i →
      Ev (fun k => impl_AdmitRun.l0 k x0 x1 (l.map cv) t id x8 x2 x2.length i) (x8 ++ run x0 x1 (x2.drop i) l t id, 0) := by
  induction d with
  | zero =>
    intro i x8 l t id hi _ _
    refine Ev.succ ?_
    simp only [impl_AdmitRun.l0]
    refine Ev.neg (by omega) (Ev.some' ?_)
    rw [List.drop_of_length_le (by omega)]
    simp [run]
  | succ d ih =>
    intro i x8 l t id hi h8 hv
    have h8' : x8.length ≤ 500 := by omega
    have hi' : 0 ≤ (i : Int) ∧ (i : Int) ≤ 500 := by omega
    have hi2 : 0 ≤ (i : Int) ∧ (i : Int) < x2.length := by omega
    have hx1 : x1 ≤ 1000000000000000 := h1.2
    have hv2 := gq_inv x0 x1 (rd_T58 x2 (i : Int)) l t id i h0.1 h1.1 hv
    obtain ⟨a, b, c, e0, e1, f, g⟩ := opn_inv x0 x1 (rd_T58 x2 (i : Int)) l t id i h0.1 h1.1 hv
    have q := ih (i + 1) (x8 ++ [(⟨(opn x0 x1 (rd_T58 x2 (i : Int)) l t id).1, (opn x0 x1 (rd_T58 x2 (i : Int)) l t id).2.1, (gq (opn x0 x1 (rd_T58 x2 (i : Int)) l t id).1 (opn x0 x1 (rd_T58 x2 (i : Int)) l t id).2.2.1 (opn x0 x1 (rd_T58 x2 (i : Int)) l t id).2.2.2.1).2.2⟩ : S56)]) _ _ _ (by omega) (by rw [List.length_append, List.length_singleton, h8]) hv2
    rw [drop_cons x2 i (by omega)]
    simp only [run]
    rw [List.append_assoc, List.singleton_append] at q
    have hid := hv.id1
    refine impl_op x0 x1 x8 x2 _ i _ t l id _ rfl hi2 rfl h0 h1 ⟨hv.t0, hv.t1⟩ hv.len ⟨hv.id0, by omega⟩ ?_
    have G := fun R => impl_grant x0 x1 (opn x0 x1 (rd_T58 x2 (i : Int)) l t id).2.2.2.2 x8 x2 x2.length i (opn x0 x1 (rd_T58 x2 (i : Int)) l t id).1 (opn x0 x1 (rd_T58 x2 (i : Int)) l t id).2.1 h8' hi' R _ (opn x0 x1 (rd_T58 x2 (i : Int)) l t id).2.2.1 (opn x0 x1 (rd_T58 x2 (i : Int)) l t id).2.2.2.1 [] rfl c (by simp; omega) a (Int.le_trans b hx1) (fun x hx => ⟨(f x hx).1, Int.le_trans (f x hx).2 hx1⟩)
    by_cases z : (opn x0 x1 (rd_T58 x2 (i : Int)) l t id).1 = 0
    · simp only [gq, if_pos z] at q ⊢
      exact G _ q
    · obtain ⟨u1, u2⟩ := g z
      have hs : stuck (opn x0 x1 (rd_T58 x2 (i : Int)) l t id).2.2.1 (opn x0 x1 (rd_T58 x2 (i : Int)) l t id).2.2.2.1 := by rw [u1, u2]; exact hv.stk
      simp only [gq, if_neg z] at q ⊢
      refine G _ ?_
      rw [gr_stuck _ _ _ _ hs]
      exact q
theorem admit_both (a0 a1 : Int) (x2 : List S58) : ∃ r : List S56 × Int, Ev (fun k => spec_AdmitRun.f k a0 a1 x2) r ∧ Ev (fun k => impl_AdmitRun.f k a0 a1 x2) r ∧ ((r.2 = 0 → (1 ≤ a0 ∧ a0 ≤ 1000000000000000) ∧ (1 ≤ a1 ∧ a1 ≤ 1000000000000000) ∧ x2.length ≤ 500 ∧ r.1 = run a0 a1 x2 [] a1 0) ∧ (r.2 ≠ 0 → r.1 = [])) := by
  have sb : ∀ b : Bool, b = true → Ev (fun k => spec_AdmitRun.j0 k a0 a1 x2 [] b) (([] : List S56), 1) := by
    rintro b rfl
    exact Ev.succ (by simp only [spec_AdmitRun.j0]; exact Ev.pos (by trivial) (Ev.some' rfl))
  have ib : ∀ b : Bool, b = true → Ev (fun k => impl_AdmitRun.j0 k a0 a1 x2 b) (([] : List S56), 1) := by
    rintro b rfl
    exact Ev.succ (by simp only [impl_AdmitRun.j0]; exact Ev.pos (by trivial) (Ev.some' rfl))
  simp only [spec_AdmitRun.f, impl_AdmitRun.f, Option.bind_some]
  by_cases c0 : 1 ≤ a0 ∧ a0 ≤ 1000000000000000
  · by_cases c1 : 1 ≤ a1 ∧ a1 ≤ 1000000000000000
    · by_cases c2 : x2.length ≤ 500
      · refine ⟨(run a0 a1 x2 [] a1 0, 0), Ev.neg (by omega) (Ev.neg (by omega) (Ev.neg (by omega) (Ev.neg (by omega) ?_))), Ev.bndc (kw _ _ _) (Ev.pos (decide_eq_true c0) (Ev.bndc (kw _ _ _) (Ev.pos (decide_eq_true c1) ?_))), ⟨fun _ => ⟨c0, c1, c2, rfl⟩, fun h => absurd rfl h⟩⟩
        · rw [decide_eq_false (show ¬ (x2.length : Int) > 500 by omega)]
          refine Ev.succ ?_
          simp only [spec_AdmitRun.j0]
          have q := spec_run a0 a1 x2 c0 c1 c2 x2.length 0 [] [] a1 0 (by omega) rfl ⟨by omega, by omega, by simp, by omega, by simp, by simp, .inl rfl⟩
          exact Ev.neg (by simp) (by simpa using q)
        · rw [decide_eq_false (show ¬ (x2.length : Int) > 500 by omega)]
          refine Ev.succ ?_
          simp only [impl_AdmitRun.j0]
          have q := impl_run a0 a1 x2 c0 c1 c2 x2.length 0 [] [] a1 0 (by omega) rfl ⟨by omega, by omega, by simp, by omega, by simp, by simp, .inl rfl⟩
          exact Ev.neg (by simp) (by simpa using q)
      · refine ⟨([], 1), Ev.neg (by omega) (Ev.neg (by omega) (Ev.neg (by omega) (Ev.neg (by omega) (sb _ (decide_eq_true (by omega)))))), Ev.bndc (kw _ _ _) (Ev.pos (decide_eq_true c0) (Ev.bndc (kw _ _ _) (Ev.pos (decide_eq_true c1) (ib _ (decide_eq_true (by omega)))))), ⟨fun h => (by simp at h), fun _ => rfl⟩⟩
    · refine ⟨([], 1), Ev.neg (by omega) (Ev.neg (by omega) ?_), Ev.bndc (kw _ _ _) (Ev.pos (decide_eq_true c0) (Ev.bndc (kw _ _ _) (Ev.neg (by simpa using c1) (ib _ rfl)))), ⟨fun h => (by simp at h), fun _ => rfl⟩⟩
      by_cases d : a1 < 1
      · exact Ev.pos d (sb _ rfl)
      · exact Ev.neg d (Ev.pos (by omega) (sb _ rfl))
  · refine ⟨([], 1), ?_, Ev.bndc (kw _ _ _) (Ev.neg (by simpa using c0) (ib _ rfl)), ⟨fun h => (by simp at h), fun _ => rfl⟩⟩
    by_cases d : a0 < 1
    · exact Ev.pos d (sb _ rfl)
    · exact Ev.neg d (Ev.pos (by omega) (sb _ rfl))
end Go.Proofs.Ytjnhbegppjeafaa.QFnAdmD
