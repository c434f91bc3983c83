/- The reference's RangeStep as one plain answer. No condition but that RangesOK takes the list and numbers are in range. -/
import Derived.Test.YtdgleppagokjhaaQFnExactRangeStepx7d
import Derived.Test.YtdgleppagokjhaaRgG
namespace Go.Proofs.Ytdgleppagokjhaa.QFnExactRangeStepS
set_option linter.unusedVariables false
set_option linter.unusedSimpArgs false
open Go.RowKit Go.Proofs.Ytdgleppagokjhaa.QFnExactRangeStep Go.Proofs.Ytdgleppagokjhaa.QFnExactRangeStepH Go.Proofs.YtdgleppagokjhaaW.PrintWords Go.Proofs.YtdgleppagokjhaaU
/-- The first index from i on of a range of that number, or -1. -/
def ix (l : List S30) (id : Int) : Nat → Int → Int
  | 0, _ => -1
  | d + 1, i => if (rd_T30 l i).f0 = id then i else ix l id d (i + 1)
abbrev at_ (l : List S30) (id : Int) : Int := ix l id l.length 0
theorem ix_range (l : List S30) (id : Int) : ∀ (d : Nat) (i : Int), 0 ≤ i → ix l id d i = -1 ∨ i ≤ ix l id d i ∧ ix l id d i < i + d ∧ (rd_T30 l (ix l id d i)).f0 = id
  | 0, i, _ => .inl rfl
  | d + 1, i, h => by
    unfold ix
    by_cases c : (rd_T30 l i).f0 = id
    · rw [if_pos c]; exact .inr ⟨Int.le_refl _, by omega, c⟩
    · rw [if_neg c]
      rcases ix_range l id d (i + 1) (by omega) with e | ⟨a, b, e⟩
      · exact .inl e
      · exact .inr ⟨by omega, by omega, e⟩
theorem at_from (l : List S30) (hl : l.length ≤ 64) (id : Int) : ∀ (d : Nat) (i : Int), 0 ≤ i → i + d = l.length → Ev (fun k => spec_l06At.l0 k l id i) (ix l id d i)
  | 0, i, h0, h1 => Ev.succ (by simp only [spec_l06At.l0]; exact Ev.neg (by omega) (Ev.some' rfl))
  | d + 1, i, h0, h1 => by
    refine Ev.succ ?_
    simp only [spec_l06At.l0, ix]
    refine Ev.pos (by omega) (Ev.pos h0 ?_)
    by_cases c : (rd_T30 l i).f0 = id
    · rw [if_pos c]; exact Ev.pos c (Ev.some' rfl)
    · rw [if_neg c]
      refine Ev.neg c ?_
      rw [wrap_in (i + 1) (by omega) (by omega)]
      exact at_from l hl id d (i + 1) (by omega) (by omega)
theorem at_spec (l : List S30) (hl : l.length ≤ 64) (id : Int) : Ev (fun k => spec_l06At.f k l id) (at_ l id) := at_from l hl id l.length 0 (by omega) (by omega)
/-- Is n a member? -/
def bit (m n : Int) : Bool := decide (0 ≤ n ∧ n < 8) && (Go.bits .and .i64 (shr .i64 m n) 1 == 1)
theorem u64_in (n : Int) (h0 : 0 ≤ n) (h1 : n < 8) : IntKind.u64.wrap n = n := by
  show n % 18446744073709551616 = n
  omega
theorem bit_spec (m n : Int) : spec_l06Bit.f m n = some (bit m n) := by
  unfold spec_l06Bit.f bit
  by_cases c0 : n ≥ 0
  · rw [if_pos c0]
    by_cases c1 : n < 8
    · rw [if_pos c1, u64_in n c0 c1, if_pos c0, decide_eq_true (show 0 ≤ n ∧ n < 8 from ⟨c0, c1⟩), Bool.true_and]
    · rw [if_neg c1, decide_eq_false (by omega), Bool.false_and]
  · rw [if_neg c0, decide_eq_false (by omega), Bool.false_and]
theorem bit_in {m n : Int} (h : bit m n = true) : 0 ≤ n ∧ n < 8 := by
  unfold bit at h
  exact of_decide_eq_true (Bool.and_eq_true_iff.mp h).1
/-- What a split asks for. -/
def badSplit (l : List S30) (r : S30) (key : ByteArray) (node : Int) : Prop :=
  key.toList = ([] : List UInt8) ∨ (4000 : Int) < key.size ∨ Op.bytesLess r.f1.toList key.toList = false ∨ (r.f2.toList ≠ ([] : List UInt8) ∧ Op.bytesLess key.toList r.f2.toList = false) ∨ node < 1 ∨ node > 1000000 ∨ 0 ≤ at_ l node
instance (l : List S30) (r : S30) (key : ByteArray) (node : Int) : Decidable (badSplit l r key node) := by unfold badSplit; infer_instance
/-- The list with what stands at an index taken out for others. -/
def put (l : List S30) (a : Int) (mid : List S30) (skip : Nat) : List S30 := l.take a.toNat ++ mid ++ l.drop (a.toNat + skip)
def moved (m node dst : Int) : Int := wrap64 (wrap64 (m - shl .i64 1 node) + shl .i64 1 dst)
def stp (l : List S30) (kind id : Int) (key : ByteArray) (node dst : Int) : List S30 × Int :=
  if kind < 1 ∨ kind > 4 then ([], 1)
  else if at_ l id < 0 then ([], 14)
  else if kind = 1 then
    if badSplit l (rd_T30 l (at_ l id)) key node then ([], 1)
    else if (l.length : Int) ≥ 64 then ([], 9)
    else if (rd_T30 l (at_ l id)).f5 + 1 > 1000000 then ([], 3)
    else (put l (at_ l id) [⟨(rd_T30 l (at_ l id)).f0, (rd_T30 l (at_ l id)).f1, key, (rd_T30 l (at_ l id)).f3, (rd_T30 l (at_ l id)).f4, (rd_T30 l (at_ l id)).f5 + 1⟩, ⟨node, key, (rd_T30 l (at_ l id)).f2, (rd_T30 l (at_ l id)).f3, (rd_T30 l (at_ l id)).f4, (rd_T30 l (at_ l id)).f5 + 1⟩] 1, 0)
  else if kind = 2 then
    if at_ l id + 1 ≥ l.length then ([], 14)
    else if (rd_T30 l (at_ l id + 1)).f3 ≠ (rd_T30 l (at_ l id)).f3 then ([], 13)
    else if (if (rd_T30 l (at_ l id + 1)).f5 ≥ (rd_T30 l (at_ l id)).f5 + 1 then (rd_T30 l (at_ l id + 1)).f5 + 1 else (rd_T30 l (at_ l id)).f5 + 1) > 1000000 then ([], 3)
    else (put l (at_ l id) [⟨(rd_T30 l (at_ l id)).f0, (rd_T30 l (at_ l id)).f1, (rd_T30 l (at_ l id + 1)).f2, (rd_T30 l (at_ l id)).f3, (rd_T30 l (at_ l id)).f4, if (rd_T30 l (at_ l id + 1)).f5 ≥ (rd_T30 l (at_ l id)).f5 + 1 then (rd_T30 l (at_ l id + 1)).f5 + 1 else (rd_T30 l (at_ l id)).f5 + 1⟩] 2, 0)
  else if kind = 3 then
    if bit (rd_T30 l (at_ l id)).f3 node = false ∨ dst < 0 ∨ dst > 7 ∨ bit (rd_T30 l (at_ l id)).f3 dst = true then ([], 1)
    else if (rd_T30 l (at_ l id)).f4 = node then ([], 13)
    else if (rd_T30 l (at_ l id)).f5 + 1 > 1000000 then ([], 3)
    else (put l (at_ l id) [⟨(rd_T30 l (at_ l id)).f0, (rd_T30 l (at_ l id)).f1, (rd_T30 l (at_ l id)).f2, moved (rd_T30 l (at_ l id)).f3 node dst, (rd_T30 l (at_ l id)).f4, (rd_T30 l (at_ l id)).f5 + 1⟩] 1, 0)
  else
    if bit (rd_T30 l (at_ l id)).f3 node = false then ([], 1)
    else if (rd_T30 l (at_ l id)).f5 + 1 > 1000000 then ([], 3)
    else (put l (at_ l id) [⟨(rd_T30 l (at_ l id)).f0, (rd_T30 l (at_ l id)).f1, (rd_T30 l (at_ l id)).f2, (rd_T30 l (at_ l id)).f3, node, (rd_T30 l (at_ l id)).f5 + 1⟩] 1, 0)
theorem Ev.const {α : Type} {o : Option α} {r : α} (h : o = some r) : Ev (fun _ => o) r := by subst h; exact Ev.some' rfl
theorem t1 (l : List S30) (hl : l.length ≤ 64) (n : Nat) : (l.take n).length ≤ 64 := by rw [List.length_take]; omega
theorem t2 (l : List S30) (hl : l.length ≤ 64) (n : Nat) : (l.drop n).length ≤ 64 := by rw [List.length_drop]; omega
theorem j1_ev (l : List S30) (hl : l.length ≤ 64) (a : Int) (h0 : 0 ≤ a) (h1 : a < l.length) (g : Int) (b : Bool) (kind id : Int) (key : ByteArray) (node dst f0 : Int) (f1 f2 : ByteArray) (f3 f4 f5 : Int) (r : List S30 × Int)
    (h : (b = true ∧ r = ([], 1)) ∨ (b = false ∧ (((l.length : Int) ≥ 64 ∧ r = ([], 9)) ∨ (¬ (l.length : Int) ≥ 64 ∧ ((g > 1000000 ∧ r = ([], 3)) ∨ (¬ g > 1000000 ∧ r = (put l a [⟨f0, f1, key, f3, f4, g⟩, ⟨node, key, f2, f3, f4, g⟩] 1, 0))))))) :
    Ev (fun k => spec_RangeStep.j1 k l [] a g 1 b kind id key node dst f0 f1 f2 f3 f4 f5) r := by
  refine Ev.succ ?_
  simp only [spec_RangeStep.j1]
  rcases h with ⟨rfl, rfl⟩ | ⟨rfl, h⟩
  · exact Ev.pos (by trivial) (Ev.some' rfl)
  · refine Ev.neg (by simp) ?_
    rcases h with ⟨c, rfl⟩ | ⟨c, h⟩
    · exact Ev.pos c (Ev.some' rfl)
    · refine Ev.neg c (Ev.const ?_)
      rw [wrap_in (a + 1) (by omega) (by omega)]
      simp only [Option.bind_some, List.nil_append, List.length_nil]
      rcases h with ⟨c1, rfl⟩ | ⟨c1, rfl⟩
      · rw [if_pos c1]
      · have u1 := t1 l hl a.toNat
        have u2 := t2 l hl (a.toNat + 1)
        rw [if_neg c1, if_pos h0, if_pos (by omega), if_pos (by omega), if_pos (by simp only [List.length_cons, List.length_nil]; omega), if_pos (by omega), if_pos (by omega), show (a + 1).toNat = a.toNat + 1 by omega, if_pos (by simp only [List.length_append, List.length_cons, List.length_nil]; omega)]
        rfl
theorem j2_ev (l : List S30) (hl : l.length ≤ 64) (a : Int) (h0 : 0 ≤ a) (h1 : a < l.length) (g : Int) (b : Bool) (kind id : Int) (key : ByteArray) (node dst f0 : Int) (f1 f2 : ByteArray) (f3 f4 f5 : Int) (r : List S30 × Int)
    (h : (b = true ∧ r = ([], 1)) ∨ (b = false ∧ ((0 ≤ node ∧ node < 8) ∧ 0 ≤ dst ∧ dst < 8) ∧ ((f4 = node ∧ r = ([], 13)) ∨ (¬ f4 = node ∧ ((g > 1000000 ∧ r = ([], 3)) ∨ (¬ g > 1000000 ∧ r = (put l a [⟨f0, f1, f2, moved f3 node dst, f4, g⟩] 1, 0))))))) :
    Ev (fun k => spec_RangeStep.j2 k l [] a g 1 b kind id key node dst f0 f1 f2 f3 f4 f5) r := by
  refine Ev.succ ?_
  simp only [spec_RangeStep.j2]
  rcases h with ⟨rfl, rfl⟩ | ⟨rfl, ⟨n0, d0⟩, h⟩
  · exact Ev.pos (by trivial) (Ev.some' rfl)
  · refine Ev.neg (by simp) ?_
    rcases h with ⟨c, rfl⟩ | ⟨c, h⟩
    · exact Ev.pos c (Ev.some' rfl)
    · refine Ev.neg c (Ev.const ?_)
      rw [wrap_in (a + 1) (by omega) (by omega), u64_in node n0.1 n0.2, u64_in dst d0.1 d0.2, if_pos n0.1, if_pos d0.1]
      simp only [Option.bind_some, List.nil_append, List.length_nil]
      rcases h with ⟨c1, rfl⟩ | ⟨c1, rfl⟩
      · rw [if_pos c1]
      · have u1 := t1 l hl a.toNat
        have u2 := t2 l hl (a.toNat + 1)
        rw [if_neg c1, if_pos h0, if_pos (by omega), if_pos (by omega), if_pos (by simp only [List.length_cons, List.length_nil]; omega), if_pos (by omega), if_pos (by omega), show (a + 1).toNat = a.toNat + 1 by omega, if_pos (by simp only [List.length_append, List.length_cons, List.length_nil]; omega)]
        rfl
theorem spec_bad (l : List S30) (hk : Ev (fun k => spec_RangesOK.f k l) false) (kind id : Int) (key : ByteArray) (node dst : Int) : Ev (fun k => spec_RangeStep.f k l kind id key node dst) ([], 1) := by
  simp only [spec_RangeStep.f, Option.bind_some]
  refine Ev.bind hk (Ev.neg (by simp) (Ev.succ ?_))
  simp only [spec_RangeStep.j0]
  exact Ev.pos (by trivial) (Ev.some' rfl)
theorem spec_stp (l : List S30) (hg : Fine l) (hk : Ev (fun k => spec_RangesOK.f k l) true) (kind id : Int) (key : ByteArray) (node dst : Int) : Ev (fun k => spec_RangeStep.f k l kind id key node dst) (stp l kind id key node dst) := by
  have hl := hg.len.2
  simp only [spec_RangeStep.f, Option.bind_some]
  refine Ev.bind hk (Ev.pos (by trivial) ?_)
  have bad : ∀ x : Bool, x = true → Ev (fun k => spec_RangeStep.j0 k l [] x kind id key node dst) ([], 1) := by
    rintro x rfl
    exact Ev.succ (by simp only [spec_RangeStep.j0]; exact Ev.pos (by trivial) (Ev.some' rfl))
  by_cases c0 : kind < 1
  · have e : stp l kind id key node dst = ([], 1) := by unfold stp; rw [if_pos (.inl c0)]
    rw [e]; exact Ev.pos c0 (bad _ rfl)
  refine Ev.neg c0 ?_
  by_cases c1 : kind > 4
  · have e : stp l kind id key node dst = ([], 1) := by unfold stp; rw [if_pos (.inr c1)]
    rw [e]; exact bad _ (decide_eq_true c1)
  rw [decide_eq_false c1]
  have cc : ¬ (kind < 1 ∨ kind > 4) := by omega
  refine Ev.succ ?_
  simp only [spec_RangeStep.j0]
  refine Ev.neg (by simp) (Ev.bind (at_spec l hl id) ?_)
  by_cases c2 : at_ l id < 0
  · have e : stp l kind id key node dst = ([], 14) := by unfold stp; rw [if_neg cc, if_pos c2]
    rw [e]; exact Ev.pos c2 (Ev.some' rfl)
  rcases ix_range l id l.length 0 (by omega) with q | ⟨a0, a1, a2⟩
  · exact absurd (show ix l id l.length 0 < 0 by rw [q]; decide) c2
  have a1 : at_ l id < (l.length : Int) := by have := a1; show ix l id l.length 0 < _; omega
  have one := (hg.at_ (at_ l id) a0 a1).one
  refine Ev.neg c2 (Ev.pos a0 (Ev.pos a1 ?_))
  have wg : wrap64 ((rd_T30 l (at_ l id)).f5 + 1) = (rd_T30 l (at_ l id)).f5 + 1 := wrap_in _ (by have := one.gen; omega) (by have := one.gen; omega)
  have w1 : wrap64 (at_ l id + 1) = at_ l id + 1 := wrap_in _ (by omega) (by omega)
  have w2 : wrap64 (at_ l id + 2) = at_ l id + 2 := wrap_in _ (by omega) (by omega)
  simp only [Option.bind_some, wg, w1, w2, bit_spec, spec_l06Key.f]
  have u1 := t1 l hl (at_ l id).toNat
  have u2 := t2 l hl ((at_ l id).toNat + 1)
  have u3 := t2 l hl ((at_ l id).toNat + 2)
  have n1 : (at_ l id + 1).toNat = (at_ l id).toNat + 1 := by omega
  have n2 : (at_ l id + 2).toNat = (at_ l id).toNat + 2 := by omega
  by_cases k1 : kind = 1
  · refine Ev.pos k1 ?_
    have J : ∀ b : Bool, b = decide (badSplit l (rd_T30 l (at_ l id)) key node) → Ev (fun k => spec_RangeStep.j1 k l [] (at_ l id) ((rd_T30 l (at_ l id)).f5 + 1) 1 b kind id key node dst (rd_T30 l (at_ l id)).f0 (rd_T30 l (at_ l id)).f1 (rd_T30 l (at_ l id)).f2 (rd_T30 l (at_ l id)).f3 (rd_T30 l (at_ l id)).f4 (rd_T30 l (at_ l id)).f5) (stp l kind id key node dst) := by
      intro b hb
      refine j1_ev l hl _ a0 a1 _ b kind id key node dst _ _ _ _ _ _ _ ?_
      unfold stp
      rw [if_neg cc, if_neg c2, if_pos k1]
      by_cases q : badSplit l (rd_T30 l (at_ l id)) key node
      · exact .inl ⟨by rw [hb]; exact decide_eq_true q, by rw [if_pos q]⟩
      · refine .inr ⟨by rw [hb]; exact decide_eq_false q, ?_⟩
        rw [if_neg q]
        by_cases q1 : (l.length : Int) ≥ 64
        · exact .inl ⟨q1, by rw [if_pos q1]⟩
        · refine .inr ⟨q1, ?_⟩
          rw [if_neg q1]
          by_cases q2 : (rd_T30 l (at_ l id)).f5 + 1 > 1000000
          · exact .inl ⟨q2, by rw [if_pos q2]⟩
          · exact .inr ⟨q2, by rw [if_neg q2]⟩
    by_cases p1 : key.toList = ([] : List UInt8)
    · exact Ev.pos p1 (J _ (decide_eq_true (.inl p1)).symm)
    refine Ev.neg p1 ?_
    by_cases p2 : (key.size : Int) ≤ 4000
    · rw [decide_eq_true p2]
      refine Ev.pos (by trivial) ?_
      by_cases p3 : Op.bytesLess (rd_T30 l (at_ l id)).f1.toList key.toList = true
      · refine Ev.pos p3 ?_
        have last : ¬ ((rd_T30 l (at_ l id)).f2.toList ≠ ([] : List UInt8) ∧ Op.bytesLess key.toList (rd_T30 l (at_ l id)).f2.toList = false) → Ev (fun k => if node < 1 then spec_RangeStep.j1 k l [] (at_ l id) ((rd_T30 l (at_ l id)).f5 + 1) 1 true kind id key node dst (rd_T30 l (at_ l id)).f0 (rd_T30 l (at_ l id)).f1 (rd_T30 l (at_ l id)).f2 (rd_T30 l (at_ l id)).f3 (rd_T30 l (at_ l id)).f4 (rd_T30 l (at_ l id)).f5 else if node > 1000000 then spec_RangeStep.j1 k l [] (at_ l id) ((rd_T30 l (at_ l id)).f5 + 1) 1 true kind id key node dst (rd_T30 l (at_ l id)).f0 (rd_T30 l (at_ l id)).f1 (rd_T30 l (at_ l id)).f2 (rd_T30 l (at_ l id)).f3 (rd_T30 l (at_ l id)).f4 (rd_T30 l (at_ l id)).f5 else (spec_l06At.f k l node).bind fun t => spec_RangeStep.j1 k l [] (at_ l id) ((rd_T30 l (at_ l id)).f5 + 1) 1 (decide (t ≥ 0)) kind id key node dst (rd_T30 l (at_ l id)).f0 (rd_T30 l (at_ l id)).f1 (rd_T30 l (at_ l id)).f2 (rd_T30 l (at_ l id)).f3 (rd_T30 l (at_ l id)).f4 (rd_T30 l (at_ l id)).f5) (stp l kind id key node dst) := by
          intro no
          by_cases p5 : node < 1
          · exact Ev.pos p5 (J _ (decide_eq_true (.inr (.inr (.inr (.inr (.inl p5)))))).symm)
          refine Ev.neg p5 ?_
          by_cases p6 : node > 1000000
          · exact Ev.pos p6 (J _ (decide_eq_true (.inr (.inr (.inr (.inr (.inr (.inl p6))))))).symm)
          refine Ev.neg p6 (Ev.bind (at_spec l hl node) (J _ ?_))
          refine decide_eq_decide.mpr ⟨fun h => .inr (.inr (.inr (.inr (.inr (.inr h))))), fun h => ?_⟩
          rcases h with h | h | h | h | h | h | h
          · exact absurd h p1
          · omega
          · rw [p3] at h; cases h
          · exact absurd h no
          · exact absurd h p5
          · exact absurd h p6
          · exact h
        by_cases p4 : (rd_T30 l (at_ l id)).f2.toList = ([] : List UInt8)
        · exact Ev.pos p4 (last (fun h => h.1 p4))
        · refine Ev.neg p4 ?_
          by_cases p7 : Op.bytesLess key.toList (rd_T30 l (at_ l id)).f2.toList = true
          · exact Ev.pos p7 (last (fun h => by rw [p7] at h; cases h.2))
          · exact Ev.neg p7 (J _ (decide_eq_true (.inr (.inr (.inr (.inl ⟨p4, Bool.eq_false_iff.mpr p7⟩))))).symm)
      · exact Ev.neg p3 (J _ (decide_eq_true (.inr (.inr (.inl (Bool.eq_false_iff.mpr p3))))).symm)
    · rw [decide_eq_false p2]
      exact Ev.neg (by simp) (J _ (decide_eq_true (.inr (.inl (by omega)))).symm)
  refine Ev.neg k1 ?_
  by_cases k2 : kind = 2
  · refine Ev.pos k2 ?_
    have e : stp l kind id key node dst = if at_ l id + 1 ≥ (l.length : Int) then ([], 14) else if (rd_T30 l (at_ l id + 1)).f3 ≠ (rd_T30 l (at_ l id)).f3 then ([], 13) else if (if (rd_T30 l (at_ l id + 1)).f5 ≥ (rd_T30 l (at_ l id)).f5 + 1 then (rd_T30 l (at_ l id + 1)).f5 + 1 else (rd_T30 l (at_ l id)).f5 + 1) > 1000000 then ([], 3) else (put l (at_ l id) [⟨(rd_T30 l (at_ l id)).f0, (rd_T30 l (at_ l id)).f1, (rd_T30 l (at_ l id + 1)).f2, (rd_T30 l (at_ l id)).f3, (rd_T30 l (at_ l id)).f4, if (rd_T30 l (at_ l id + 1)).f5 ≥ (rd_T30 l (at_ l id)).f5 + 1 then (rd_T30 l (at_ l id + 1)).f5 + 1 else (rd_T30 l (at_ l id)).f5 + 1⟩] 2, 0) := by
      unfold stp; rw [if_neg cc, if_neg c2, if_neg k1, if_pos k2]
    rw [e]
    refine Ev.const ?_
    by_cases p1 : at_ l id + 1 ≥ (l.length : Int)
    · rw [if_pos p1, if_pos p1]
    have one' := (hg.at_ (at_ l id + 1) (by omega) (by omega)).one
    have wh : wrap64 ((rd_T30 l (at_ l id + 1)).f5 + 1) = (rd_T30 l (at_ l id + 1)).f5 + 1 := wrap_in _ (by have := one'.gen; omega) (by have := one'.gen; omega)
    rw [if_neg p1, if_pos (show 0 ≤ at_ l id + 1 by omega), if_pos (show at_ l id + 1 < (l.length : Int) by omega), if_neg p1, wh]
    by_cases p2 : (rd_T30 l (at_ l id + 1)).f3 = (rd_T30 l (at_ l id)).f3
    · rw [if_pos p2, if_neg (show ¬ ((rd_T30 l (at_ l id + 1)).f3 ≠ (rd_T30 l (at_ l id)).f3) from fun h => h p2)]
      simp only [List.nil_append, List.length_nil]
      by_cases p3 : (rd_T30 l (at_ l id + 1)).f5 ≥ (rd_T30 l (at_ l id)).f5 + 1
      · rw [if_pos p3, if_pos p3]
        by_cases p4 : (rd_T30 l (at_ l id + 1)).f5 + 1 > 1000000
        · rw [if_pos p4, if_pos p4]
        · rw [if_neg p4, if_neg p4, if_pos (by omega), if_pos (by omega), if_pos (by simp only [List.length_cons, List.length_nil]; omega), if_pos (by omega), if_pos (by omega), n2, if_pos (by simp only [List.length_append, List.length_cons, List.length_nil]; omega)]
          rfl
      · rw [if_neg p3, if_neg p3]
        by_cases p4 : (rd_T30 l (at_ l id)).f5 + 1 > 1000000
        · rw [if_pos p4, if_pos p4]
        · rw [if_neg p4, if_neg p4, if_pos (by omega), if_pos (by omega), if_pos (by simp only [List.length_cons, List.length_nil]; omega), if_pos (by omega), if_pos (by omega), n2, if_pos (by simp only [List.length_append, List.length_cons, List.length_nil]; omega)]
          rfl
    · rw [if_neg p2, if_pos p2]
  refine Ev.neg k2 ?_
  by_cases k3 : kind = 3
  · refine Ev.pos k3 ?_
    have J : ∀ b : Bool, b = decide (bit (rd_T30 l (at_ l id)).f3 node = false ∨ dst < 0 ∨ dst > 7 ∨ bit (rd_T30 l (at_ l id)).f3 dst = true) → Ev (fun k => spec_RangeStep.j2 k l [] (at_ l id) ((rd_T30 l (at_ l id)).f5 + 1) 1 b kind id key node dst (rd_T30 l (at_ l id)).f0 (rd_T30 l (at_ l id)).f1 (rd_T30 l (at_ l id)).f2 (rd_T30 l (at_ l id)).f3 (rd_T30 l (at_ l id)).f4 (rd_T30 l (at_ l id)).f5) (stp l kind id key node dst) := by
      intro b hb
      refine j2_ev l hl _ a0 a1 _ b kind id key node dst _ _ _ _ _ _ _ ?_
      unfold stp
      rw [if_neg cc, if_neg c2, if_neg k1, if_neg k2, if_pos k3]
      by_cases q : bit (rd_T30 l (at_ l id)).f3 node = false ∨ dst < 0 ∨ dst > 7 ∨ bit (rd_T30 l (at_ l id)).f3 dst = true
      · exact .inl ⟨by rw [hb]; exact decide_eq_true q, by rw [if_pos q]⟩
      · have nb : bit (rd_T30 l (at_ l id)).f3 node = true := by
          cases z : bit (rd_T30 l (at_ l id)).f3 node with
          | true => rfl
          | false => exact absurd (.inl z) q
        refine .inr ⟨by rw [hb]; exact decide_eq_false q, ⟨bit_in nb, by omega, by omega⟩, ?_⟩
        rw [if_neg q]
        by_cases q1 : (rd_T30 l (at_ l id)).f4 = node
        · exact .inl ⟨q1, by rw [if_pos q1]⟩
        · refine .inr ⟨q1, ?_⟩
          rw [if_neg q1]
          by_cases q2 : (rd_T30 l (at_ l id)).f5 + 1 > 1000000
          · exact .inl ⟨q2, by rw [if_pos q2]⟩
          · exact .inr ⟨q2, by rw [if_neg q2]⟩
    cases p1 : bit (rd_T30 l (at_ l id)).f3 node with
    | false => exact Ev.neg (by simp) (J _ (decide_eq_true (.inl p1)).symm)
    | true =>
      refine Ev.pos (by trivial) ?_
      by_cases p2 : dst < 0
      · exact Ev.pos p2 (J _ (decide_eq_true (.inr (.inl p2))).symm)
      refine Ev.neg p2 ?_
      by_cases p3 : dst > 7
      · exact Ev.pos p3 (J _ (decide_eq_true (.inr (.inr (.inl p3)))).symm)
      refine Ev.neg p3 (J _ ?_)
      cases p4 : bit (rd_T30 l (at_ l id)).f3 dst with
      | true => exact (decide_eq_true (.inr (.inr (.inr rfl)))).symm
      | false =>
        refine (decide_eq_false ?_).symm
        rintro (h | h | h | h)
        · first | cases h | (rw [p1] at h; cases h)
        · exact p2 h
        · exact p3 h
        · first | cases h | (rw [p4] at h; cases h)
  refine Ev.neg k3 ?_
  have k4 : kind = 4 := by omega
  refine Ev.pos k4 (Ev.const ?_)
  have e : stp l kind id key node dst = if bit (rd_T30 l (at_ l id)).f3 node = false then ([], 1) else if (rd_T30 l (at_ l id)).f5 + 1 > 1000000 then ([], 3) else (put l (at_ l id) [⟨(rd_T30 l (at_ l id)).f0, (rd_T30 l (at_ l id)).f1, (rd_T30 l (at_ l id)).f2, (rd_T30 l (at_ l id)).f3, node, (rd_T30 l (at_ l id)).f5 + 1⟩] 1, 0) := by
    unfold stp; rw [if_neg cc, if_neg c2, if_neg k1, if_neg k2, if_neg k3]
  rw [e]
  cases p1 : bit (rd_T30 l (at_ l id)).f3 node with
  | false => rw [if_neg (by simp), if_pos rfl]
  | true =>
    rw [if_pos rfl, if_neg (show ¬ ((true : Bool) = false) by decide)]
    by_cases p4 : (rd_T30 l (at_ l id)).f5 + 1 > 1000000
    · rw [if_pos p4, if_pos p4]
    · simp only [List.nil_append, List.length_nil]
      rw [if_neg p4, if_neg p4, if_pos (by omega), if_pos (by omega), if_pos (by simp only [List.length_cons, List.length_nil]; omega), if_pos (by omega), if_pos (by omega), n1, if_pos (by simp only [List.length_append, List.length_cons, List.length_nil]; omega)]
      rfl
end Go.Proofs.Ytdgleppagokjhaa.QFnExactRangeStepS
