/- The program's NodeStart and the reference's answer alike at every node. No condition. -/
import Derived.Test.YtkfjgloalfpcmaaNodeFnExactNodeOK
import Derived.Test.YtkfjgloalfpcmaaStartC
import Derived.Test.YtkfjgloalfpcmaaNodeMark
namespace Go.Proofs.Ytkfjgloalfpcmaa.Pure
set_option linter.unusedVariables false
set_option linter.unusedSimpArgs false
open Go.RowKit Go.Proofs.Ytkfjgloalfpcmaa.QFnExactNodeOK Go.Proofs.YtkfjgloalfpcmaaW.PrintWords Go.Proofs.YtkfjgloalfpcmaaU Go.Proofs.Ytkfjgloalfpcmaa.QFnExactNodeOKG Go.Proofs.Ytkfjgloalfpcmaa.QFnExactNodeOKM
theorem ints_to_from (l : List Int) (hl : l.length ≤ 1048576) (d : Nat) : ∀ i : Nat, i ≤ l.length → l.length - i = d →
    Ev (fun k => laws_toIntS.l0 k l ((l.take i).map id ++ List.replicate (l.length - i) 0) i) l := by
  induction d with
  | zero =>
    intro i hi hd
    obtain rfl : i = l.length := by omega
    refine Ev.succ ?_
    simp only [laws_toIntS.l0]
    refine Ev.neg (by omega) (Ev.some' ?_)
    rw [fill_all]; simp
  | succ d ih =>
    intro i hi hd
    have hlt : i < l.length := by omega
    refine Ev.succ ?_
    simp only [laws_toIntS.l0]
    rw [fill_len _ _ _ _ hi]
    refine Ev.pos (by omega) (Ev.pos (by omega) (Ev.pos (by omega) ?_))
    rw [wrap_in _ (by omega) (by omega), rd_get l _ (by simpa using hlt)]
    have hs := fill_set (f := id) (0 : Int) l i hlt
    simp only [Int.toNat_natCast]
    rw [show l[i] = id l[i] from rfl, hs]
    exact ih (i + 1) (by omega) (by omega)
theorem ints_to (l : List Int) (hl : l.length ≤ 1048576) : Ev (fun k => laws_toIntS.f k l) l := by
  simp only [laws_toIntS.f]
  refine Ev.pos (by omega) (Ev.pos (by simp only [Int.toNat_natCast]; omega) ?_)
  have h := ints_to_from l hl l.length 0 (by omega) (by omega)
  rw [← fill_zero] at h
  exact h
theorem ints_eq_from (l : List Int) (hl : l.length ≤ 1048576) (d : Nat) : ∀ i : Nat, i ≤ l.length → l.length - i = d → Ev (fun k => laws_eqIntS.l0 k l l i) true := by
  induction d with
  | zero =>
    intro i hi hd
    refine Ev.succ ?_
    simp only [laws_eqIntS.l0]
    exact Ev.neg (by omega) (Ev.some' rfl)
  | succ d ih =>
    intro i hi hd
    refine Ev.succ ?_
    simp only [laws_eqIntS.l0]
    refine Ev.pos (by omega) (Ev.pos (by omega) (Ev.pos (by omega) (Ev.pos (by trivial) ?_)))
    rw [wrap_in _ (by omega) (by omega)]
    exact ih (i + 1) (by omega) (by omega)
theorem ints_eq (l : List Int) (hl : l.length ≤ 1048576) : Ev (fun k => laws_eqIntS.f k l l) true := by
  simp only [laws_eqIntS.f]
  exact Ev.pos (by trivial) (ints_eq_from l hl l.length 0 (by omega) (by omega))

/-! ### the copy of a slice of S88 -/
def cv_Entry (x : S88) : S54 := ⟨x.f0, x.f1, x.f2, x.f3, x.f4⟩
theorem rdto_Entry (l : List S88) (i : Nat) (h : i < l.length) : rd_T88 l (i : Int) = l[i] := by
  unfold rd_T88
  rw [Int.toNat_natCast, List.getD_eq_getElem?_getD, List.getElem?_eq_getElem h]
  rfl
theorem tofrom_Entry (l : List S88) (hl : (l.length : Int) ≤ 1048576) (d : Nat) : ∀ (i : Nat), i ≤ l.length → l.length - i = d →
    Ev (fun k => laws_toEntryS.l0 k l ((l.take i).map cv_Entry ++ List.replicate (l.length - i) z54) (i : Int)) (l.map cv_Entry) := by
  induction d with
  | zero =>
    intro i h1 hd
    have hi : i = l.length := by omega
    refine Ev.succ ?_
    simp only [laws_toEntryS.l0]
    refine Ev.neg (by omega) (Ev.some' ?_)
    subst hi
    rw [fill_all]
  | succ d ih =>
    intro i h1 hd
    refine Ev.succ ?_
    simp only [laws_toEntryS.l0]
    refine Ev.pos (by omega) (Ev.pos (by omega) (Ev.bndc rfl (Ev.pos (by rw [fill_len cv_Entry _ l i h1]; omega) ?_)))
    rw [wrap_in ((i : Int) + 1) (by omega) (by omega), rdto_Entry l _ (by omega)]
    have := ih (i + 1) (by omega) (by omega)
    have e := fill_set cv_Entry z54 l i (by omega)
    simp only [Int.toNat_natCast]
    rw [show (⟨(l[i]).f0, (l[i]).f1, (l[i]).f2, (l[i]).f3, (l[i]).f4⟩ : S54) = cv_Entry l[i] from rfl, e]
    exact this
theorem to_Entry (l : List S88) (hl : (l.length : Int) ≤ 1048576) : Ev (fun k => laws_toEntryS.f k l) (l.map cv_Entry) := by
  simp only [laws_toEntryS.f]
  refine Ev.pos (by omega) (Ev.pos (by omega) ?_)
  have := tofrom_Entry l hl l.length 0 (by omega) (by omega)
  rw [← fill_zero] at this
  simpa using this
/-! ### a slice of S54 is the same as itself -/
theorem eqOne_Entry (x : S54) : laws_eqEntry.f x.f0 x.f1 x.f2 x.f3 x.f4 x.f0 x.f1 x.f2 x.f3 x.f4 = some true := by
  unfold laws_eqEntry.f
  simp
theorem eqfrom_Entry (l : List S54) (hl : (l.length : Int) ≤ 1048576) (d : Nat) : ∀ (i : Int), 0 ≤ i → i ≤ l.length → (l.length : Int) - i = d → Ev (fun k => laws_eqEntryS.l0 k l l i) true := by
  induction d with
  | zero =>
    intro i h0 h1 hd
    exact Ev.succ (by simp only [laws_eqEntryS.l0]; exact Ev.neg (by omega) (Ev.some' rfl))
  | succ d ih =>
    intro i h0 h1 hd
    refine Ev.succ ?_
    simp only [laws_eqEntryS.l0]
    refine Ev.pos (by omega) (Ev.pos h0 (Ev.pos (by omega) (Ev.bndc (b := true) (eqOne_Entry _) (Ev.pos rfl ?_))))
    rw [wrap_in (i + 1) (by omega) (by omega)]
    exact ih (i + 1) (by omega) (by omega) (by omega)
theorem eq_Entry (l : List S54) (hl : (l.length : Int) ≤ 1048576) : Ev (fun k => laws_eqEntryS.f k l l) true := by
  simp only [laws_eqEntryS.f]
  exact Ev.pos (by trivial) (eqfrom_Entry l hl l.length 0 (by omega) (by omega) (by omega))
theorem sz_from (l : List S88) (hl : l.length ≤ 1048576) (hs : ∀ x ∈ l, x.f2.size ≤ 9223372036854775807) (d : Nat) : ∀ (i x : Int), 0 ≤ i → i ≤ l.length → (l.length : Int) - i = d → 0 ≤ x → x ≤ 1048576 → ∃ z, Ev (fun k => laws_szEntryS.l0 k l x i) z ∧ z ≤ 1048576 := by
  induction d with
  | zero =>
    intro i x h0 h1 hd hx0 hx1
    exact ⟨x, Ev.succ (by simp only [laws_szEntryS.l0]; exact Ev.neg (by omega) (Ev.some' rfl)), hx1⟩
  | succ d ih =>
    intro i x h0 h1 hd hx0 hx1
    have ew := wrap_in (i + 1) (by omega) (by omega)
    have hm : (rd_T88 l i).f2.size ≤ 9223372036854775807 := by
      have hi : i.toNat < l.length := by omega
      have e : rd_T88 l i = l[i.toNat] := by unfold rd_T88; rw [List.getD_eq_getElem?_getD, List.getElem?_eq_getElem hi]; rfl
      rw [e]
      exact hs _ (List.getElem_mem hi)
    have ez : laws_szEntry.f (rd_T88 l i).f0 (rd_T88 l i).f1 (rd_T88 l i).f2 (rd_T88 l i).f3 (rd_T88 l i).f4 x = some (if x - ((rd_T88 l i).f2.size : Int) < 0 then -1 else x - ((rd_T88 l i).f2.size : Int)) := by
      unfold laws_szEntry.f
      rw [wrap_in (x - ((rd_T88 l i).f2.size : Int)) (by omega) (by omega)]
      split <;> rfl
    by_cases c : x - ((rd_T88 l i).f2.size : Int) < 0
    · rw [if_pos c] at ez
      refine ⟨-1, Ev.succ ?_, by omega⟩
      simp only [laws_szEntryS.l0]
      exact Ev.pos (by omega) (Ev.pos h0 (Ev.bndc ez (Ev.pos (by omega) (Ev.some' rfl))))
    · rw [if_neg c] at ez
      obtain ⟨z, hz, hl⟩ := ih (i + 1) (x - ((rd_T88 l i).f2.size : Int)) (by omega) (by omega) (by omega) (by omega) (by omega)
      refine ⟨z, Ev.succ ?_, hl⟩
      simp only [laws_szEntryS.l0, ew]
      exact Ev.pos (by omega) (Ev.pos h0 (Ev.bndc ez (Ev.neg (by omega) hz)))
theorem szI (l : List Int) (x : Int) (hl : l.length ≤ 9223372036854775807) (hx : x ≤ 1048576) (hx0 : 0 ≤ x) : laws_szIntS.f l x = some (if x - (l.length : Int) < 0 then -1 else x - (l.length : Int)) := by
  unfold laws_szIntS.f
  rw [wrap_in (x - (l.length : Int)) (by omega) (by omega)]
  split <;> rfl
section
variable (a0 a1 a2 a3 a4 : Int) (l5 : List S88) (a6 a7 a8 a9 a10 a11 a12 a13 : Int) (l14 l15 : List Int)
theorem sz_node (h5 : l5.length ≤ 9223372036854775807) (hs : ∀ x ∈ l5, x.f2.size ≤ 9223372036854775807) (h14 : l14.length ≤ 9223372036854775807) (h15 : l15.length ≤ 9223372036854775807) :
    ∃ z, Ev (fun k => laws_szNode.f k a0 a1 a2 a3 a4 l5 a6 a7 a8 a9 a10 a11 a12 a13 l14 l15 1048576) z ∧ (0 ≤ z → (l5.length : Int) ≤ 1048576 ∧ (l14.length : Int) ≤ 1048576 ∧ (l15.length : Int) ≤ 1048576) := by
  simp only [laws_szNode.f, laws_szEntryS.f]
  rw [wrap_in (1048576 - (l5.length : Int)) (by omega) (by omega)]
  by_cases c : 1048576 - (l5.length : Int) < 0
  · exact ⟨-1, Ev.bind (Ev.pos c (Ev.some' rfl)) (Ev.pos (by omega) (Ev.some' rfl)), fun h => by omega⟩
  · obtain ⟨z, hz, zl⟩ := sz_from l5 (by omega) hs l5.length 0 (1048576 - (l5.length : Int)) (by omega) (by omega) (by omega) (by omega) (by omega)
    by_cases c1 : z < 0
    · exact ⟨-1, Ev.bind (Ev.neg c hz) (Ev.pos c1 (Ev.some' rfl)), fun h => by omega⟩
    · have e14 := szI l14 z h14 zl (by omega)
      by_cases c2 : z - (l14.length : Int) < 0
      · rw [if_pos c2] at e14
        exact ⟨-1, Ev.bind (Ev.neg c hz) (Ev.neg c1 (Ev.bndc e14 (Ev.pos (by omega) (Ev.some' rfl)))), fun h => by omega⟩
      · rw [if_neg c2] at e14
        have e15 := szI l15 (z - (l14.length : Int)) h15 (by omega) (by omega)
        by_cases c3 : z - (l14.length : Int) - (l15.length : Int) < 0
        · rw [if_pos c3] at e15
          exact ⟨-1, Ev.bind (Ev.neg c hz) (Ev.neg c1 (Ev.bndc e14 (Ev.neg c2 (Ev.bndc e15 (Ev.pos (by omega) (Ev.some' rfl)))))), fun h => by omega⟩
        · rw [if_neg c3] at e15
          exact ⟨_, Ev.bind (Ev.neg c hz) (Ev.neg c1 (Ev.bndc e14 (Ev.neg c2 (Ev.bndc e15 (Ev.neg c3 (Ev.some' rfl)))))), fun h => by omega⟩
theorem to_node (h5 : (l5.length : Int) ≤ 1048576) (h14 : (l14.length : Int) ≤ 1048576) (h15 : (l15.length : Int) ≤ 1048576) :
    Ev (fun k => laws_toNode.f k a0 a1 a2 a3 a4 l5 a6 a7 a8 a9 a10 a11 a12 a13 l14 l15) (a0, a1, a2, a3, a4, l5.map cv_Entry, a6, a7, a8, a9, a10, a11, a12, a13, l14, l15) := by
  simp only [laws_toNode.f]
  exact Ev.bind (to_Entry l5 h5) (Ev.bind (ints_to l14 (by omega)) (Ev.bind (ints_to l15 (by omega)) (Ev.some' rfl)))
theorem eq_node (l5 : List S54) (h5 : (l5.length : Int) ≤ 1048576) (h14 : (l14.length : Int) ≤ 1048576) (h15 : (l15.length : Int) ≤ 1048576) :
    Ev (fun k => laws_eqNode.f k a0 a1 a2 a3 a4 l5 a6 a7 a8 a9 a10 a11 a12 a13 l14 l15 a0 a1 a2 a3 a4 l5 a6 a7 a8 a9 a10 a11 a12 a13 l14 l15) true := by
  simp only [laws_eqNode.f]
  exact Ev.pos (by trivial) (Ev.pos (by trivial) (Ev.pos (by trivial) (Ev.pos (by trivial) (Ev.pos (by trivial) (Ev.bind (eq_Entry l5 h5) (Ev.pos (by trivial) (Ev.pos (by trivial) (Ev.pos (by trivial) (Ev.pos (by trivial) (Ev.pos (by trivial) (Ev.pos (by trivial) (Ev.pos (by trivial) (Ev.pos (by trivial) (Ev.pos (by trivial) (Ev.bind (ints_eq l14 (by omega)) (Ev.pos (by trivial) (Ev.bind (ints_eq l15 (by omega)) (Ev.pos (by trivial) (Ev.some' rfl)))))))))))))))))))
end
theorem start_both (a0 a1 a2 a3 a4 : Int) (l5 : List S54) (a6 a7 a8 a9 a10 a11 a12 a13 : Int) (l14 l15 : List Int) (h5 : (l5.length : Int) ≤ 1048576) (h14 : (l14.length : Int) ≤ 1048576) (h15 : (l15.length : Int) ≤ 1048576) :
    ∃ (r0 r1 r2 r3 r4 : Int) (r5 : List S54) (r6 r7 r8 r9 r10 r11 r12 r13 : Int) (r14 r15 : List Int) (r16 : Int), Ev (fun k => spec_NodeStart.f k a0 a1 a2 a3 a4 l5 a6 a7 a8 a9 a10 a11 a12 a13 l14 l15) (r0, r1, r2, r3, r4, r5, r6, r7, r8, r9, r10, r11, r12, r13, r14, r15, r16) ∧ Ev (fun k => impl_NodeStart.f k a0 a1 a2 a3 a4 l5 a6 a7 a8 a9 a10 a11 a12 a13 l14 l15) (r0, r1, r2, r3, r4, r5, r6, r7, r8, r9, r10, r11, r12, r13, r14, r15, r16) ∧ (r5.length : Int) ≤ 1048576 ∧ (r14.length : Int) ≤ 1048576 ∧ (r15.length : Int) ≤ 1048576 := by
  obtain ⟨v, v1, v2, _⟩ := nodeok_both a0 a1 a2 a3 a4 l5 a6 a7 a8 a9 a10 a11 a12 a13 l14 l15 h5
  have ec : spec_l05Copy.f a0 a1 a2 a3 a4 l5 a6 a7 a8 a9 a10 a11 a12 a13 l14 l15 = some (a0, a1, a2, a3, a4, l5, a6, a7, a8, a9, a10, a11, a12, a13, l14, l15) := by
    simp only [spec_l05Copy.f, Option.bind_some, List.length_nil, Nat.zero_add, List.nil_append]
    rw [if_pos (by omega), if_pos (by omega), if_pos (by omega)]
  simp only [spec_NodeStart.f, impl_NodeStart.f]
  cases v with
  | true =>
    refine ⟨_, _, _, _, _, _, _, _, _, _, _, _, _, _, _, _, _, Ev.bind v1 (Ev.pos rfl (Ev.bndc ec (Ev.some' rfl))), Ev.bind v2 (Ev.pos rfl (Ev.pos (by omega) (Ev.pos (by omega) (Ev.pos (by omega) (Ev.some' rfl))))), h5, by simp, by simp⟩
  | false =>
    refine ⟨_, _, _, _, _, _, _, _, _, _, _, _, _, _, _, _, _, Ev.bind v1 (Ev.neg (by decide) (Ev.some' rfl)), Ev.bind v2 (Ev.neg (by decide) (Ev.some' rfl)), by simp, by simp, by simp⟩
theorem FnExactNodeStart (a0 a1 a2 a3 a4 : Int) (l5 : List S88) (a6 a7 a8 a9 a10 a11 a12 a13 : Int) (l14 l15 : List Int)
    (o : (Lit.int .i64 a0).wf = true ∧ (Lit.int .i64 a1).wf = true ∧ (Lit.int .i64 a2).wf = true ∧ (Lit.int .i64 a3).wf = true ∧ (Lit.int .i64 a4).wf = true ∧ (l5.length ≤ 9223372036854775807 ∧ ∀ x ∈ l5, (Lit.int .i64 x.f0).wf = true ∧ (Lit.int .i64 x.f1).wf = true ∧ x.f2.size ≤ 9223372036854775807 ∧ (Lit.int .i64 x.f3).wf = true ∧ (Lit.int .i64 x.f4).wf = true) ∧ (Lit.int .i64 a6).wf = true ∧ (Lit.int .i64 a7).wf = true ∧ (Lit.int .i64 a8).wf = true ∧ (Lit.int .i64 a9).wf = true ∧ (Lit.int .i64 a10).wf = true ∧ (Lit.int .i64 a11).wf = true ∧ (Lit.int .i64 a12).wf = true ∧ (Lit.int .i64 a13).wf = true ∧ (l14.length ≤ 9223372036854775807 ∧ ∀ x ∈ l14, (Lit.int .i64 x).wf = true) ∧ (l15.length ≤ 9223372036854775807 ∧ ∀ x ∈ l15, (Lit.int .i64 x).wf = true)) :
    ∃ k, laws_FnExactNodeStart.f k a0 a1 a2 a3 a4 l5 a6 a7 a8 a9 a10 a11 a12 a13 l14 l15 = some true := by
  obtain ⟨_, _, _, _, _, ⟨h5, hs⟩, _, _, _, _, _, _, _, _, ⟨h14, _⟩, ⟨h15, _⟩⟩ := o
  refine Ev.at ?_
  simp only [laws_FnExactNodeStart.f]
  obtain ⟨z, hz, hc⟩ := sz_node a0 a1 a2 a3 a4 l5 a6 a7 a8 a9 a10 a11 a12 a13 l14 l15 h5 (fun x hx => (hs x hx).2.2.1) h14 h15
  refine Ev.bind hz ?_
  by_cases c : z < 0
  · exact Ev.pos c (Ev.some' rfl)
  obtain ⟨m5, m14, m15⟩ := hc (by omega)
  have tn := to_node a0 a1 a2 a3 a4 l5 a6 a7 a8 a9 a10 a11 a12 a13 l14 l15 m5 m14 m15
  have hm : ((l5.map cv_Entry).length : Int) ≤ 1048576 := by rw [List.length_map]; exact m5
  obtain ⟨r0, r1, r2, r3, r4, r5, r6, r7, r8, r9, r10, r11, r12, r13, r14, r15, r16, es, ei, n5, n14, n15⟩ := start_both a0 a1 a2 a3 a4 (l5.map cv_Entry) a6 a7 a8 a9 a10 a11 a12 a13 l14 l15 hm m14 m15
  have ew := eq_node r0 r1 r2 r3 r4 r6 r7 r8 r9 r10 r11 r12 r13 r14 r15 r5 n5 n14 n15
  have ex := eq_node a0 a1 a2 a3 a4 a6 a7 a8 a9 a10 a11 a12 a13 l14 l15 (l5.map cv_Entry) hm m14 m15
  have kx := mark_node a0 a1 a2 a3 a4 a6 a7 a8 a9 a10 a11 a12 a13 (l5.map cv_Entry) l14 l15 hm m14 m15
  have kg := mark_node r0 r1 r2 r3 r4 r6 r7 r8 r9 r10 r11 r12 r13 r5 r14 r15 n5 n14 n15
  have hg := held_node r0 r1 r2 r3 r4 r6 r7 r8 r9 r10 r11 r12 r13 r5.length r14.length r15.length n5 n14 n15
  refine Ev.neg c (Ev.bind tn (Ev.bind es (Ev.bind tn (Ev.bind ei (Ev.bind ew (Ev.pos rfl ?_))))))
  refine Ev.succ ?_
  simp only [laws_FnExactNodeStart.j0]
  refine Ev.neg (by simp) (Ev.bind tn (Ev.bind ex (Ev.pos rfl (Ev.bind kx (Ev.neg (by omega) (Ev.bind ew (Ev.pos rfl ?_)))))))
  refine Ev.succ ?_
  simp only [laws_FnExactNodeStart.j1]
  refine Ev.neg (by simp) (Ev.bind kg (Ev.bind hg (Ev.neg (by omega) (Ev.pos rfl (Ev.bind tn (Ev.bind ei (Ev.bind ew (Ev.pos rfl ?_))))))))
  refine Ev.succ ?_
  simp only [laws_FnExactNodeStart.j2]
  exact Ev.neg (by simp) (Ev.bind hg (Ev.neg (by omega) (Ev.pos rfl (Ev.some' rfl))))
end Go.Proofs.Ytkfjgloalfpcmaa.Pure
