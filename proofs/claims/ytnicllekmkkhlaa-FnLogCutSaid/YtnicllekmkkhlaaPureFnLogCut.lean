/- The law FnLogCut holds at every two codes. No condition. -/
import Derived.Test.YtnicllekmkkhlaaCutFnLogCut
import Derived.Test.YtnicllekmkkhlaaQFnLogCutx9
namespace Go.Proofs.Ytnicllekmkkhlaa.Pure
set_option linter.unusedVariables false
set_option linter.unusedSimpArgs false
open Go.RowKit Go.Proofs.Ytnicllekmkkhlaa.QFnLogCut Go.Proofs.YtnicllekmkkhlaaW.PrintWords Go.Proofs.YtnicllekmkkhlaaW.PrintLast Go.Proofs.YtnicllekmkkhlaaW.PrintMore Go.Proofs.YtnicllekmkkhlaaU Go.Proofs.Ytnicllekmkkhlaa.QFnLogCutR Go.Proofs.Ytnicllekmkkhlaa.QFnLogCutB
theorem scan_of (D : List UInt8) (a : Int) (ha : 0 ≤ a ∧ a ≤ 1000000000) (q : List S45 × Int) (h : Ev (fun k => impl_LogScan.l0 k (ba D) a [] ((0 : Nat) : Int)) q) : Ev (fun k => impl_LogScan.f k (ba D) a) q := by
  simp only [impl_LogScan.f]
  refine Ev.neg (by omega) ?_
  rw [decide_eq_false (by omega)]
  refine Ev.succ ?_
  simp only [impl_LogScan.j0]
  exact Ev.neg (by simp) h
theorem tot_pos (l : List S45) (h : l ≠ []) : 13 ≤ tot l := by
  cases l with
  | nil => exact absurd rfl h
  | cons x l => simp only [tot]; omega
theorem tot_snoc (l : List S45) (y : S45) : tot (l ++ [y]) = tot l + (13 + y.f1.size) := by
  induction l with
  | nil => simp only [List.nil_append, tot]; omega
  | cons x l ih => rw [List.cons_append]; simp only [tot]; rw [ih]; omega
/-- What is packed again is as long as its frames. -/
theorem pack_len (a : Int) (l : List S45) (h0 : 0 ≤ a) (h1 : a ≤ 1000000000) (hl : l.length ≤ 300) (hr : ∀ x ∈ l, Rok x) (hn : a + l.length ≤ 1000000001) :
    ∃ r : ByteArray × Int, Ev (fun k => spec_LogPack.f k a l) r ∧ r.2 = 0 ∧ (r.1.size : Int) = ((tot l : Nat) : Int) := by
  obtain ⟨r, r1, _, ok1, ok2⟩ := pack_alike a l
  have r0 := ok2 h0 h1 hl hr hn
  obtain ⟨_, _, _, _, _, fs, hF, e⟩ := ok1 r0
  exact ⟨r, r1, r0, by rw [e, ba_size, hF.len]⟩
theorem rd_take (l : List S45) (m i : Nat) (h : i < m) : rd_T45 (l.take m) (i : Int) = rd_T45 l (i : Int) := by
  unfold rd_T45
  rw [Int.toNat_natCast, List.getD_eq_getElem?_getD, List.getD_eq_getElem?_getD, List.getElem?_take_of_lt h]
/-- The loop that compares what was scanned with what was packed. -/
theorem same_from (e : List Int) (a : Int) (l : List S45) (hl : l.length ≤ 300) (t : ByteArray) (x11 : Int) (m : Nat) (hm : m ≤ l.length) (s : Int) (hlast : Ev (fun k => laws_FnLogCut.l0 k e a l t x11 (l.take m) s (m : Int)) true) (d : Nat) :
    ∀ i : Nat, i + d = m → Ev (fun k => laws_FnLogCut.l0 k e a l t x11 (l.take m) s (i : Int)) true := by
  have hlen : (l.take m).length = m := by rw [List.length_take]; omega
  induction d with
  | zero => intro i hi; rw [show i = m by omega]; exact hlast
  | succ d ih =>
    intro i hi
    refine Ev.succ ?_
    simp only [laws_FnLogCut.l0]
    refine Ev.pos (by rw [hlen]; omega) (Ev.pos (by omega) (Ev.pos (by omega) ?_))
    rw [rd_take l m i (by omega)]
    refine Ev.neg (by simp) ?_
    rw [wrap_in _ (by omega) (by omega)]
    exact ih (i + 1) (by omega)
theorem Rok_take {l : List S45} (h : ∀ x ∈ l, Rok x) (m : Nat) : ∀ x ∈ l.take m, Rok x := fun x hx => h x (List.mem_of_mem_take hx)
/-- One bit of the last four bytes is turned. -/
theorem turn_bytes (G s : List UInt8) (i : Nat) (hi : i < s.length) (u : Int) (u0 : 0 ≤ u) (u1 : u < 8) : ∃ w, w.length = s.length ∧ w ≠ s ∧
    ((ba (G ++ s)).extract 0 (((G.length + i : Nat) : Int)).toNat ++ strOfNums [Go.bits .xor .u8 (bt (ba (G ++ s)) ((G.length + i : Nat) : Int)) (shl .u8 1 (IntKind.u64.wrap u))]) ++ (ba (G ++ s)).extract (((G.length + i + 1 : Nat) : Int)).toNat (ba (G ++ s)).size = ba (G ++ w) := by
  have hnb := u8_ne (s[i]'hi) u u0 u1
  obtain ⟨nb, enb⟩ : ∃ nb, UInt8.ofNat (Go.bits .xor .u8 ((s[i]'hi).toNat : Int) (shl .u8 1 (IntKind.u64.wrap u))).toNat = nb := ⟨_, rfl⟩
  rw [enb] at hnb
  have hDl : (G ++ s).length = G.length + s.length := List.length_append
  refine ⟨s.take i ++ nb :: s.drop (i + 1), ?_, ?_, ?_⟩
  · clear enb
    rw [List.length_append, List.length_cons, List.length_take, List.length_drop]; omega
  · intro h
    have h2 : s.take i ++ nb :: s.drop (i + 1) = s.take i ++ (s[i]'hi) :: s.drop (i + 1) := by
      rw [h, List.getElem_cons_drop, List.take_append_drop]
    exact hnb (List.cons.inj (List.append_cancel_left h2)).1
  · have hbt : bt (ba (G ++ s)) ((G.length + i : Nat) : Int) = ((s[i]'hi).toNat : Int) := by
      clear enb
      rw [bt_ba _ _ (by omega), List.getElem_append_right (by omega)]
      simp
    rw [hbt]
    clear hbt
    have e1 : strOfNums [Go.bits .xor .u8 ((s[i]'hi).toNat : Int) (shl .u8 1 (IntKind.u64.wrap u))] = ba [nb] := by
      rw [nums_ba, List.map_cons, List.map_nil, enb]
    rw [e1]
    clear e1 enb
    rw [ba_drop _ _ (by omega), Int.toNat_natCast, ba_extract, ba_append, ba_append]
    simp only [List.drop_zero, Nat.sub_zero]
    rw [List.take_append, List.take_of_length_le (show G.length ≤ G.length + i by omega), List.drop_append, List.drop_of_length_le (show G.length ≤ G.length + i + 1 by omega)]
    rw [show G.length + i - G.length = i by omega, show G.length + i + 1 - G.length = i + 1 by omega]
    simp
/-- What the law does with the turned bytes, all sizes known. -/
theorem turned_walk (e : List Int) (a : Int) (l0 : List S45) (y : S45) (hl : l0.length ≤ 300) (q u : Int) (q0 : 0 ≤ q) (q1 : q < 4) (hq : laws_pick.f e 2 4 = some q) (u0 : 0 ≤ u) (u1 : u < 8) (hu : laws_pick.f e 3 8 = some u) (G s : List UInt8) (hs : s.length = 4) (hG : G.length ≤ 700000) (i : Nat) (hi : (i : Int) = 3 - q)
    (scan : ∀ w : List UInt8, w.length = 4 → w ≠ s → Ev (fun k => impl_LogScan.f k (ba (G ++ w)) a) (l0, ((tot l0 : Nat) : Int))) (r : ByteArray × Int) (r1 : Ev (fun k => spec_LogPack.f k a l0) r) (r0 : r.2 = 0) (r2 : (r.1.size : Int) = ((tot l0 : Nat) : Int)) :
    Ev (fun k => laws_FnLogCut.j5 k e a (l0 ++ [y]) (ba (G ++ s)) false) true := by
  obtain ⟨w, hw, hws, hE⟩ := turn_bytes G s i (by omega) u u0 u1
  have scan := scan w (hw.trans hs) hws
  have hsE : (((ba (G ++ s)).size : Nat) : Int) = ((G.length + 4 : Nat) : Int) := by rw [ba_size, List.length_append, hs]
  have hp : wrap64 (wrap64 (((ba (G ++ s)).size : Int) - 1) - q) = ((G.length + i : Nat) : Int) := by
    rw [hsE, wrap_in (((G.length + 4 : Nat) : Int) - 1) (by omega) (by omega), wrap_in _ (by omega) (by omega)]; omega
  have hp1 : wrap64 (((G.length + i : Nat) : Int) + 1) = ((G.length + i + 1 : Nat) : Int) := by clear hp hsE; rw [wrap_in _ (by omega) (by omega)]; omega
  have hl1 : wrap64 ((((l0 ++ [y]).length : Nat) : Int) - 1) = ((l0.length : Nat) : Int) := by clear hp hsE hp1; rw [List.length_append, List.length_singleton, wrap_in _ (by omega) (by omega)]; omega
  have hsz : ∀ j k : Nat, ((ba (G ++ s)).extract j k).size ≤ 800000 := by
    intro j k
    clear hp hsE hp1 hl1
    rw [ba_extract, ba_size, List.length_take, List.length_drop, List.length_append]
    omega
  have hns : ∀ z : Int, (strOfNums [z]).size = 1 := fun z => by rw [nums_ba, ba_size]; rfl
  have d0 : 0 ≤ ((G.length + i : Nat) : Int) := Int.natCast_nonneg _
  have d1 : 0 ≤ ((G.length + i + 1 : Nat) : Int) := Int.natCast_nonneg _
  have d2 : ((G.length + i : Nat) : Int) < (((ba (G ++ s)).size : Nat) : Int) := by rw [hsE]; clear hp hsE hp1 hl1; omega
  have d3 : ((G.length + i + 1 : Nat) : Int) ≤ (((ba (G ++ s)).size : Nat) : Int) := by rw [hsE]; clear hp hsE hp1 hl1; omega
  have d4 : ((l0.length : Nat) : Int) ≤ (((l0 ++ [y]).length : Nat) : Int) := by rw [List.length_append, List.length_singleton]; clear hp hsE hp1 hl1; omega
  have d5 : 0 ≤ IntKind.u64.wrap u := by
    show 0 ≤ u % 18446744073709551616
    clear hp hsE hp1 hl1
    omega
  refine Ev.succ ?_
  simp only [laws_FnLogCut.j5]
  refine Ev.neg (by simp) (Ev.bndc hq ?_)
  rw [hp, hp1, hl1]
  refine Ev.pos d0 (Ev.pos (Int.le_of_lt d2) (Ev.pos d2 (Ev.bndc hu (Ev.pos d5 (Ev.bndc rfl ?_)))))
  refine Ev.pos ?_ (Ev.pos d1 (Ev.pos d3 (Ev.pos ?_ ?_)))
  · exact Nat.le_trans (Nat.add_le_add (hsz _ _) (Nat.le_of_eq (hns _))) (by decide)
  · rw [ByteArray.size_append]
    exact Nat.le_trans (Nat.add_le_add (Nat.add_le_add (hsz _ _) (Nat.le_of_eq (hns _))) (hsz _ _)) (by decide)
  · rw [hE]
    refine Ev.bind scan (Ev.pos (Int.natCast_nonneg _) (Ev.pos d4 ?_))
    rw [Int.toNat_natCast, List.take_left' rfl]
    exact Ev.bind r1 (Ev.pos r0 (Ev.pos r2.symm (Ev.some' (beq_self_eq_true _))))
/-- The last step. -/
theorem turned (e : List Int) (he : e.length ≤ 1048576) (hb : ∀ x ∈ e, (Lit.int .u8 x).wf = true) (a : Int) (l : List S45) (a0 : 0 ≤ a) (a1 : a ≤ 1000000000) (hl : l.length ≤ 300) (hr : ∀ x ∈ l, Rok x) (hn : a + l.length ≤ 1000000001) (hne : l ≠ []) (fs : List (List UInt8)) (hF : Frs a l fs) :
    Ev (fun k => laws_FnLogCut.j5 k e a l (ba fs.flatten) false) true := by
  have hT := tot_le l hr
  obtain ⟨q, hq, q0, q1⟩ := pk_ok e he hb 2 4 (by omega) (by omega) (by omega) (by omega)
  obtain ⟨u, hu, u0, u1⟩ := pk_ok e he hb 3 8 (by omega) (by omega) (by omega) (by omega)
  obtain ⟨l0, y, rfl⟩ : ∃ l0 y, l = l0 ++ [y] := ⟨l.dropLast, l.getLast hne, (List.dropLast_concat_getLast hne).symm⟩
  obtain ⟨fs0, g, rfl, hF0, hg⟩ := Frs_last hF
  have hts := tot_snoc l0 y
  have hy : Rok y := hr y (by simp)
  have hr0 : ∀ x ∈ l0, Rok x := fun x hx => hr x (by simp [hx])
  have hgl : g.length = 13 + y.f1.size := by rw [hg.len, body_len]
  rw [List.length_append, List.length_singleton] at hl hn hT
  obtain ⟨i, hi⟩ : ∃ i : Nat, (i : Int) = 3 - q := ⟨(3 - q).toNat, by omega⟩
  have hG : (fs0.flatten ++ g.take (9 + y.f1.size)).length = tot l0 + (9 + y.f1.size) := by rw [List.length_append, hF0.len, List.length_take, hgl]; omega
  have hs : (g.drop (9 + y.f1.size)).length = 4 := by rw [List.length_drop, hgl]; omega
  have hD : (fs0 ++ [g]).flatten = (fs0.flatten ++ g.take (9 + y.f1.size)) ++ g.drop (9 + y.f1.size) := by
    rw [List.flatten_append, List.append_assoc, List.take_append_drop]; simp
  rw [hD]
  obtain ⟨r, r1, r0, r2⟩ := pack_len a l0 a0 a1 (by omega) hr0 (by omega)
  refine turned_walk e a l0 y (by omega) q u q0 q1 hq u0 u1 hu _ _ hs (by omega) i hi ?_ r r1 r0 r2
  intro w hw hws
  have scan := scan_of ((fs0.flatten ++ g.take (9 + y.f1.size)) ++ w) a ⟨a0, a1⟩ _ (scan_last ((fs0.flatten ++ g.take (9 + y.f1.size)) ++ w) (by rw [List.length_append, hw, hG]; omega) a ⟨a0, a1⟩ y hy g w hw hws l0 fs0 [] 0 (by simpa using hF0) (by simpa using hg) hr0 (Nat.zero_le _) (by rw [List.drop_zero, List.append_assoc]) (by simp; omega) (by simp; omega))
  rw [List.nil_append, Nat.zero_add] at scan
  exact scan
/-- What was cut is scanned; then the last step. -/
theorem cut_ok (e : List Int) (he : e.length ≤ 1048576) (hb : ∀ x ∈ e, (Lit.int .u8 x).wf = true) (a : Int) (l : List S45) (a0 : 0 ≤ a) (a1 : a ≤ 1000000000) (hl : l.length ≤ 300) (hr : ∀ x ∈ l, Rok x) (hn : l = [] ∨ a + l.length ≤ 1000000001) (fs : List (List UInt8)) (hF : Frs a l fs) (hz : fs.flatten.length ≠ 0) :
    Ev (fun k => laws_FnLogCut.j2 k e a l (ba fs.flatten) false) true := by
  have hT := tot_le l hr
  have hS : (ba fs.flatten).size = tot l := by rw [ba_size, hF.len]
  have hne : l ≠ [] := by
    rintro rfl
    cases hF
    exact hz rfl
  have hn' : a + l.length ≤ 1000000001 := hn.resolve_left hne
  have hP := tot_pos l hne
  obtain ⟨q, hq, q0, q1⟩ := pk_ok e he hb 0 256 (by omega) (by omega) (by omega) (by omega)
  obtain ⟨u, hu, u0, u1⟩ := pk_ok e he hb 1 256 (by omega) (by omega) (by omega) (by omega)
  have hcut : ∃ c : Nat, Int.tmod (wrap64 (wrap64 (q * 256) + u)) (wrap64 (((ba fs.flatten).size : Int) + 1)) = (c : Int) ∧ c ≤ tot l := by
    rw [hS, wrap_in (q * 256) (by omega) (by omega), wrap_in (q * 256 + u) (by omega) (by omega), wrap_in _ (by omega) (by omega), tmod_nn _ _ (by omega)]
    have k0 := Int.emod_nonneg (q * 256 + u) (show ((tot l : Nat) : Int) + 1 ≠ 0 by omega)
    have k1 := Int.emod_lt_of_pos (q * 256 + u) (show 0 < ((tot l : Nat) : Int) + 1 by omega)
    exact ⟨_, (Int.toNat_of_nonneg k0).symm, by omega⟩
  obtain ⟨c, hc, hcl⟩ := hcut
  have hm1 : wrap64 (((ba fs.flatten).size : Int) + 1) ≠ 0 := by rw [hS, wrap_in _ (by omega) (by omega)]; omega
  have hD : (fs.flatten.take c).length ≤ tot l := by rw [List.length_take, hF.len]; omega
  obtain ⟨m, m1, m2, m3, m4⟩ := scan_cut (fs.flatten.take c) (by omega) a ⟨a0, a1⟩ l fs [] 0 c (by simpa using hF) hr (Nat.zero_le _) (by rw [List.drop_zero]) (by simp; omega) (.inr (by simp; omega))
  rw [List.nil_append, Nat.zero_add] at m2
  have scan := scan_of _ a ⟨a0, a1⟩ _ m2
  have hx : (ba fs.flatten).extract 0 ((c : Nat) : Int).toNat = ba (fs.flatten.take c) := by
    rw [Int.toNat_natCast, ba_extract, List.drop_zero, Nat.sub_zero]
  have hlen : (l.take m).length = m := by rw [List.length_take]; omega
  obtain ⟨r, r1, r0, r2⟩ := pack_len a (l.take m) a0 a1 (by omega) (Rok_take hr m) (by omega)
  have last := turned e he hb a l a0 a1 hl hr hn' hne fs hF
  refine Ev.succ ?_
  simp only [laws_FnLogCut.j2]
  refine Ev.neg (by simp) (Ev.bndc hq (Ev.bndc hu ?_))
  rw [hc]
  refine Ev.neg hm1 (Ev.pos (by omega) (Ev.pos (by rw [hS]; omega) ?_))
  rw [hx]
  refine Ev.bind scan (Ev.neg (by simp only [gt_iff_lt]; omega) ?_)
  rw [decide_eq_false (by rw [hlen]; omega)]
  refine Ev.succ ?_
  simp only [laws_FnLogCut.j3]
  refine Ev.neg (by simp) ?_
  refine same_from e a l hl _ _ m m1 _ ?_ m 0 (by omega)
  refine Ev.succ ?_
  simp only [laws_FnLogCut.l0]
  rw [hlen]
  refine Ev.neg (by omega) (Ev.pos (by omega) (Ev.pos (by omega) ?_))
  rw [Int.toNat_natCast]
  refine Ev.bind r1 (Ev.pos r0 (Ev.pos r2 ?_))
  by_cases cc : ((c : Nat) : Int) = ((ba fs.flatten).size : Int)
  · refine Ev.pos cc ?_
    rw [show m = l.length from m4 (by rw [hS] at cc; omega), bne_self_eq_false]
    exact last
  · exact Ev.neg cc last
theorem FnLogCut (c e : List Int) (hc : c.length ≤ 9223372036854775807 ∧ ∀ x ∈ c, (Lit.int .u8 x).wf = true) (he : e.length ≤ 9223372036854775807 ∧ ∀ x ∈ e, (Lit.int .u8 x).wf = true) : ∃ k, laws_FnLogCut.f k c e = some true := by
  refine Ev.at ?_
  have j0t : Ev (fun k => laws_FnLogCut.j0 k c e true) true := Ev.succ (by simp only [laws_FnLogCut.j0]; exact Ev.pos (by trivial) (Ev.some' rfl))
  simp only [laws_FnLogCut.f]
  by_cases b1 : (c.length : Int) > 1048576
  · exact Ev.bndc rfl (Ev.pos (decide_eq_true b1) j0t)
  refine Ev.bndc rfl (Ev.neg (by simpa using b1) ?_)
  by_cases b2 : (e.length : Int) > 1048576
  · refine Ev.bndc rfl ?_
    rw [decide_eq_true b2]
    exact j0t
  refine Ev.bndc rfl ?_
  rw [decide_eq_false b2]
  obtain ⟨⟨a, l⟩, hd⟩ := draw_ok c (by omega) hc.2
  obtain ⟨r, r1, r2, ok1, _⟩ := pack_alike a l
  refine Ev.succ ?_
  simp only [laws_FnLogCut.j0]
  refine Ev.neg (by simp) (Ev.bind hd (Ev.bind r2 (Ev.bind r1 (Ev.pos rfl ?_))))
  rw [bne_self_eq_false]
  have j2t : Ev (fun k => laws_FnLogCut.j2 k e a l r.1 true) true := Ev.succ (by simp only [laws_FnLogCut.j2]; exact Ev.pos (by trivial) (Ev.some' rfl))
  refine Ev.succ ?_
  simp only [laws_FnLogCut.j1]
  refine Ev.neg (by simp) ?_
  by_cases c0 : r.2 = 0
  · refine Ev.pos c0 ?_
    obtain ⟨a0, a1, hl, hr, hn, fs, hF, er⟩ := ok1 c0
    by_cases cz : fs.flatten.length = 0
    · rw [show ((r.1.size : Int) == 0) = true by rw [er, ba_size, cz]; rfl]
      exact j2t
    · rw [show ((r.1.size : Int) == 0) = false by rw [er, ba_size]; simpa using cz, er]
      exact cut_ok e (by omega) he.2 a l a0 a1 hl hr hn fs hF cz
  · exact Ev.neg c0 j2t
end Go.Proofs.Ytnicllekmkkhlaa.Pure
