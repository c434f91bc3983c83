/- The program's LogPack and the reference's answer alike at every number and every slice of records. No condition but that a length is an int. -/
import Derived.Test.YtnicllekmkkhlaaQFnExactLogPackx6
import Derived.Test.YtnicllekmkkhlaaFrameFnExactLogPack
namespace Go.Proofs.Ytnicllekmkkhlaa.Pure
set_option linter.unusedVariables false
set_option linter.unusedSimpArgs false
open Go.RowKit Go.Proofs.Ytnicllekmkkhlaa.QFnExactLogPack Go.Proofs.YtnicllekmkkhlaaW.PrintWords Go.Proofs.YtnicllekmkkhlaaU Go.Proofs.Ytnicllekmkkhlaa.QFnExactLogPackF
theorem rd62 (l : List S62) (i : Int) (h : i.toNat < l.length) : rd_T62 l i = l[i.toNat] := getD_get l _ _ h
theorem rd45 (l : List S45) (i : Int) (h : i.toNat < l.length) : rd_T45 l i = l[i.toNat] := getD_get l _ _ h
theorem nums_map (l : List UInt8) : strOfNums (l.map fun b => (b.toNat : Int)) = ⟨l.toArray⟩ := by
  unfold strOfNums
  congr 2
  rw [List.map_map]
  conv => rhs; rw [← List.map_id l]
  refine List.map_congr_left fun b _ => ?_
  simp
def cv (x : S62) : S45 := ⟨x.f0, x.f1⟩
theorem sz_from (l : List S62) (hl : (l.length : Int) ≤ 1048576) (hs : ∀ x ∈ l, x.f1.size ≤ 9223372036854775807) (d : Nat) : ∀ (i x : Int), 0 ≤ i → i ≤ l.length → (l.length : Int) - i = d → 0 ≤ x → x ≤ 1048576 →
    ∃ r, Ev (fun k => laws_szLogRecS.l0 k l x i) r := by
  induction d with
  | zero =>
    intro i x h0 h1 hd x0 x1
    exact ⟨x, Ev.succ (by simp only [laws_szLogRecS.l0]; exact Ev.neg (by omega) (Ev.some' rfl))⟩
  | succ d ih =>
    intro i x h0 h1 hd x0 x1
    have hb : (rd_T62 l i).f1.size ≤ 9223372036854775807 := by rw [rd62 l i (by omega)]; exact hs _ (List.getElem_mem _)
    have e := wrap_in (x - ((rd_T62 l i).f1.size : Int)) (by omega) (by omega)
    by_cases c : x - ((rd_T62 l i).f1.size : Int) < 0
    · refine ⟨-1, Ev.succ ?_⟩
      simp only [laws_szLogRecS.l0]
      exact Ev.pos (by omega) (Ev.pos h0 (Ev.bndc (by unfold laws_szLogRec.f; rw [e, if_pos c]) (Ev.pos (by omega) (Ev.some' rfl))))
    · obtain ⟨r, hr⟩ := ih (i + 1) (x - ((rd_T62 l i).f1.size : Int)) (by omega) (by omega) (by omega) (by omega) (by omega)
      refine ⟨r, Ev.succ ?_⟩
      simp only [laws_szLogRecS.l0]
      refine Ev.pos (by omega) (Ev.pos h0 (Ev.bndc (by unfold laws_szLogRec.f; rw [e, if_neg c]) (Ev.neg (by omega) ?_)))
      rw [wrap_in (i + 1) (by omega) (by omega)]
      exact hr
theorem sz_ends (l : List S62) (hl : l.length ≤ 9223372036854775807) (hs : ∀ x ∈ l, x.f1.size ≤ 9223372036854775807) : ∃ r, Ev (fun k => laws_szLogRecS.f k l 1048576) r ∧ (r < 0 ∨ (l.length : Int) ≤ 1048576) := by
  have e := wrap_in (1048576 - (l.length : Int)) (by omega) (by omega)
  by_cases c : 1048576 - (l.length : Int) < 0
  · exact ⟨-1, by simp only [laws_szLogRecS.f]; exact Ev.pos (by rw [e]; exact c) (Ev.some' rfl), .inl (by omega)⟩
  · obtain ⟨r, hr⟩ := sz_from l (by omega) hs l.length 0 (1048576 - (l.length : Int)) (by omega) (by omega) (by omega) (by omega) (by omega)
    refine ⟨r, ?_, .inr (by omega)⟩
    simp only [laws_szLogRecS.f]
    refine Ev.neg (by rw [e]; exact c) ?_
    rw [e]
    exact hr
theorem to_from (l : List S62) (hl : (l.length : Int) ≤ 1048576) (d : Nat) : ∀ (i : Nat), i ≤ l.length → l.length - i = d →
    Ev (fun k => laws_toLogRecS.l0 k l ((l.take i).map cv ++ List.replicate (l.length - i) z45) (i : Int)) (l.map cv) := by
  induction d with
  | zero =>
    intro i h1 hd
    have hi : i = l.length := by omega
    refine Ev.succ ?_
    simp only [laws_toLogRecS.l0]
    refine Ev.neg (by omega) (Ev.some' ?_)
    subst hi
    rw [fill_all]
  | succ d ih =>
    intro i h1 hd
    refine Ev.succ ?_
    simp only [laws_toLogRecS.l0]
    refine Ev.pos (by omega) (Ev.pos (by omega) (Ev.bndc rfl (Ev.pos (by rw [fill_len cv _ l i h1]; omega) ?_)))
    rw [wrap_in ((i : Int) + 1) (by omega) (by omega), rd62 l _ (by omega)]
    have := ih (i + 1) (by omega) (by omega)
    have e := fill_set cv z45 l i (by omega)
    simp only [Int.toNat_natCast]
    rw [show (⟨(l[i]).f0, (l[i]).f1⟩ : S45) = cv l[i] from rfl, e]
    exact this
theorem to_same (l : List S62) (hl : (l.length : Int) ≤ 1048576) : Ev (fun k => laws_toLogRecS.f k l) (l.map cv) := by
  simp only [laws_toLogRecS.f]
  refine Ev.pos (by omega) (Ev.pos (by omega) ?_)
  have := to_from l hl l.length 0 (by omega) (by omega)
  rw [← fill_zero] at this
  simpa using this
theorem eq_from (l : List S45) (hl : (l.length : Int) ≤ 1048576) (d : Nat) : ∀ (i : Int), 0 ≤ i → i ≤ l.length → (l.length : Int) - i = d → Ev (fun k => laws_eqLogRecS.l0 k l l i) true := by
  induction d with
  | zero =>
    intro i h0 h1 hd
    exact Ev.succ (by simp only [laws_eqLogRecS.l0]; exact Ev.neg (by omega) (Ev.some' rfl))
  | succ d ih =>
    intro i h0 h1 hd
    refine Ev.succ ?_
    simp only [laws_eqLogRecS.l0]
    refine Ev.pos (by omega) (Ev.pos h0 (Ev.pos (by omega) (Ev.bndc (b := true) (by unfold laws_eqLogRec.f; rw [if_pos rfl, if_pos rfl]) (Ev.pos rfl ?_))))
    rw [wrap_in (i + 1) (by omega) (by omega)]
    exact ih (i + 1) (by omega) (by omega) (by omega)
theorem eq_same (l : List S45) (hl : (l.length : Int) ≤ 1048576) : Ev (fun k => laws_eqLogRecS.f k l l) true := by
  simp only [laws_eqLogRecS.f]
  exact Ev.pos trivial (eq_from l hl l.length 0 (by omega) (by omega) (by omega))
/-- The texts that both have laid so far: numbers of bytes on one side, bytes on the other. -/
theorem pack_from (a : Int) (ha : 0 ≤ a ∧ a ≤ 1000000000) (l : List S45) (hl : (l.length : Int) ≤ 300) (hs : ∀ j : Int, 0 ≤ j → j < l.length → (rd_T45 l j).f1.size ≤ 2000) (d : Nat) : ∀ (acc : List UInt8) (i : Int), 0 ≤ i → i ≤ l.length → (l.length : Int) - i = d → (acc.length : Int) ≤ 2013 * i →
    ∃ r, Ev (fun k => spec_LogPack.l1 k a l (acc.map fun b => (b.toNat : Int)) i) r ∧ Ev (fun k => impl_LogPack.l1 k a l acc i) r := by
  induction d with
  | zero =>
    intro acc i h0 h1 hd hc
    refine ⟨(⟨acc.toArray⟩, 0), Ev.succ ?_, Ev.succ ?_⟩
    · simp only [spec_LogPack.l1]; exact Ev.neg (by omega) (Ev.some' (congrArg (fun y => (y, (0 : Int))) (nums_map acc)))
    · simp only [impl_LogPack.l1]; exact Ev.neg (by omega) (Ev.some' rfl)
  | succ d ih =>
    intro acc i h0 h1 hd hc
    have e := wrap_in (a + i) (by omega) (by omega)
    by_cases c : a + i > 1000000000
    · refine ⟨((⟨#[]⟩ : ByteArray), 3), Ev.succ ?_, Ev.succ ?_⟩
      · simp only [spec_LogPack.l1]
        exact Ev.pos (by omega) (Ev.bndc (b := false) (by unfold spec_l04Seq.f; rw [e, if_pos (by omega), decide_eq_false (by omega)]) (Ev.neg (by simp) (Ev.some' rfl)))
      · simp only [impl_LogPack.l1]
        exact Ev.pos (by omega) (Ev.pos h0 (Ev.pos (by rw [e]; exact c) (Ev.some' rfl)))
    · obtain ⟨t, ht, t1, t2⟩ := frame_alike (a + i) (rd_T45 l i).f0 (rd_T45 l i).f1 (by omega) (by omega) (by have := hs i h0 (by omega); omega)
      have hz := hs i h0 (by omega)
      have hd2 : t.data.toList.length = t.size := by rw [Array.length_toList]; rfl
      obtain ⟨r, r1, r2⟩ := ih (acc ++ t.data.toList) (i + 1) (by omega) (by omega) (by omega) (by rw [List.length_append, hd2]; omega)
      have hw := wrap_in (i + 1) (by omega) (by omega)
      refine ⟨r, Ev.succ ?_, Ev.succ ?_⟩
      · simp only [spec_LogPack.l1]
        refine Ev.pos (by omega) (Ev.bndc (b := true) (by unfold spec_l04Seq.f; rw [e, if_pos (by omega), decide_eq_true (by omega)]) (Ev.pos rfl (Ev.pos h0 ?_)))
        rw [e, hw]
        refine Ev.bind t1 (Ev.pos (by rw [List.length_map]; omega) ?_)
        rw [show (acc.map fun b => (b.toNat : Int)) ++ bytesOf t = (acc ++ t.data.toList).map fun b => (b.toNat : Int) from by rw [List.map_append]; rfl]
        exact r1
      · simp only [impl_LogPack.l1]
        refine Ev.pos (by omega) (Ev.pos h0 (Ev.neg (by rw [e]; exact c) ?_))
        rw [e, hw]
        exact Ev.bind t2 (Ev.pos (by omega) r2)
theorem recs_from (a : Int) (ha : 0 ≤ a ∧ a ≤ 1000000000) (l : List S45) (hl : (l.length : Int) ≤ 300) (d : Nat) : ∀ (i : Int), 0 ≤ i → i ≤ l.length → (l.length : Int) - i = d → (∀ j : Int, 0 ≤ j → j < i → (rd_T45 l j).f1.size ≤ 2000) →
    ∃ r, Ev (fun k => spec_LogPack.l0 k a l i) r ∧ Ev (fun k => impl_LogPack.l0 k a l i) r := by
  induction d with
  | zero =>
    intro i h0 h1 hd hs
    obtain ⟨r, r1, r2⟩ := pack_from a ha l hl (fun j j0 j1 => hs j j0 (by omega)) l.length [] 0 (by omega) (by omega) (by omega) (by simp)
    refine ⟨r, Ev.succ ?_, Ev.succ ?_⟩
    · simp only [spec_LogPack.l0]; exact Ev.neg (by omega) r1
    · simp only [impl_LogPack.l0]; exact Ev.neg (by omega) r2
  | succ d ih =>
    intro i h0 h1 hd hs
    obtain ⟨t, ht⟩ : ∃ t, spec_l04RecOK.f (rd_T45 l i).f0 (rd_T45 l i).f1 = some t := by unfold spec_l04RecOK.f; split <;> (try split) <;> exact ⟨_, rfl⟩
    have ht2 : impl_recOK.f (rd_T45 l i).f0 (rd_T45 l i).f1 = some t := ht
    cases t with
    | false =>
      refine ⟨((⟨#[]⟩ : ByteArray), 1), Ev.succ ?_, Ev.succ ?_⟩
      · simp only [spec_LogPack.l0]
        exact Ev.pos (by omega) (Ev.pos h0 (Ev.bndc ht (Ev.neg (by simp) (Ev.some' rfl))))
      · simp only [impl_LogPack.l0]
        exact Ev.pos (by omega) (Ev.pos h0 (Ev.bndc ht2 (Ev.neg (by simp) (Ev.some' rfl))))
    | true =>
      have hz : (rd_T45 l i).f1.size ≤ 2000 := by
        unfold spec_l04RecOK.f at ht
        split at ht
        · split at ht
          · have := of_decide_eq_true (Option.some.inj ht)
            omega
          · cases ht
        · cases ht
      obtain ⟨r, r1, r2⟩ := ih (i + 1) (by omega) (by omega) (by omega) (fun j j0 j1 => by
        by_cases c : j < i
        · exact hs j j0 c
        · rw [show j = i by omega]; exact hz)
      have hw := wrap_in (i + 1) (by omega) (by omega)
      refine ⟨r, Ev.succ ?_, Ev.succ ?_⟩
      · simp only [spec_LogPack.l0]
        exact Ev.pos (by omega) (Ev.pos h0 (Ev.bndc ht (Ev.pos rfl (by rw [hw]; exact r1))))
      · simp only [impl_LogPack.l0]
        exact Ev.pos (by omega) (Ev.pos h0 (Ev.bndc ht2 (Ev.pos rfl (by rw [hw]; exact r2))))
theorem pack_alike (a : Int) (l : List S45) : ∃ r, Ev (fun k => spec_LogPack.f k a l) r ∧ Ev (fun k => impl_LogPack.f k a l) r := by
  have bad : ∀ x : Bool, x = true → Ev (fun k => spec_LogPack.j0 k a l x) ((⟨#[]⟩ : ByteArray), 1) := by
    rintro x rfl
    exact Ev.succ (by simp only [spec_LogPack.j0]; exact Ev.pos trivial (Ev.some' rfl))
  by_cases c0 : a < 0
  · refine ⟨((⟨#[]⟩ : ByteArray), 1), ?_, ?_⟩
    · simp only [spec_LogPack.f]
      exact Ev.bndc (b := false) (by unfold spec_l04Seq.f; rw [if_neg (by omega)]) (Ev.neg (by simp) (bad _ rfl))
    · simp only [impl_LogPack.f]; exact Ev.pos c0 (Ev.some' rfl)
  · by_cases c1 : a > 1000000000
    · refine ⟨((⟨#[]⟩ : ByteArray), 1), ?_, ?_⟩
      · simp only [spec_LogPack.f]
        exact Ev.bndc (b := false) (by unfold spec_l04Seq.f; rw [if_pos (by omega), decide_eq_false (by omega)]) (Ev.neg (by simp) (bad _ rfl))
      · simp only [impl_LogPack.f]; exact Ev.neg c0 (Ev.pos c1 (Ev.some' rfl))
    · have hq : spec_l04Seq.f a = some true := by unfold spec_l04Seq.f; rw [if_pos (by omega), decide_eq_true (by omega)]
      by_cases c2 : (l.length : Int) > 300
      · refine ⟨((⟨#[]⟩ : ByteArray), 1), ?_, ?_⟩
        · simp only [spec_LogPack.f]
          exact Ev.bndc hq (Ev.pos rfl (bad _ (decide_eq_true c2)))
        · simp only [impl_LogPack.f]; exact Ev.neg c0 (Ev.neg c1 (Ev.pos c2 (Ev.some' rfl)))
      · obtain ⟨r, r1, r2⟩ := recs_from a (by omega) l (by omega) l.length 0 (by omega) (by omega) (by omega) (fun j j0 j1 => by omega)
        refine ⟨r, ?_, ?_⟩
        · simp only [spec_LogPack.f]
          refine Ev.bndc hq (Ev.pos rfl ?_)
          rw [decide_eq_false c2]
          exact Ev.succ (by simp only [spec_LogPack.j0]; exact Ev.neg (by simp) r1)
        · simp only [impl_LogPack.f]; exact Ev.neg c0 (Ev.neg c1 (Ev.neg c2 r2))
theorem FnExactLogPack (a : Int) (l : List S62) (ha : (Lit.int .i64 a).wf = true) (o : l.length ≤ 9223372036854775807 ∧ ∀ x ∈ l, (Lit.int .i64 x.f0).wf = true ∧ x.f1.size ≤ 9223372036854775807) : ∃ k, laws_FnExactLogPack.f k a l = some true := by
  obtain ⟨hl, hs⟩ := o
  refine Ev.at ?_
  simp only [laws_FnExactLogPack.f]
  obtain ⟨z, hz, hc⟩ := sz_ends l hl (fun x hx => (hs x hx).2)
  refine Ev.bind hz ?_
  by_cases c : z < 0
  · exact Ev.pos c (Ev.some' rfl)
  · have hl' : (l.length : Int) ≤ 1048576 := by omega
    obtain ⟨r, r1, r2⟩ := pack_alike a (l.map cv)
    refine Ev.neg c (Ev.bind (to_same l hl') (Ev.bind r1 (Ev.bind (to_same l hl') (Ev.bind r2 (Ev.pos rfl ?_)))))
    refine Ev.succ ?_
    simp only [laws_FnExactLogPack.j0]
    exact Ev.neg (by simp) (Ev.bind (to_same l hl') (Ev.bind (eq_same (l.map cv) (by rw [List.length_map]; exact hl')) (Ev.pos rfl (Ev.some' rfl))))
end Go.Proofs.Ytnicllekmkkhlaa.Pure
