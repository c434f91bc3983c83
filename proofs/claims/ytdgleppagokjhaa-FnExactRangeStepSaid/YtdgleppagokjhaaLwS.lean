/- The law FnExactRangeStep, walked: where each call's answer is told and each test is passed, it returns true. Its conditions: the calls' answers, and that the reference and the program answer alike. -/
import Derived.Test.YtdgleppagokjhaaQFnExactRangeStepx1
import Derived.Test.YtdgleppagokjhaaQFnExactRangeStepx2
import Derived.Test.YtdgleppagokjhaaQFnExactRangeStepx3
import Derived.Test.YtdgleppagokjhaaQFnExactRangeStepx4
import Derived.Test.YtdgleppagokjhaaQFnExactRangeStepx7
import Derived.Test.YtdgleppagokjhaaRsB
namespace Go.Proofs.Ytdgleppagokjhaa.QFnExactRangeStep
open Go.RowKit Go.Proofs.YtdgleppagokjhaaW.PrintWords Go.Proofs.YtdgleppagokjhaaW.PrintLast Go.Proofs.YtdgleppagokjhaaW.PrintMore
attribute [local go_sem] max2_int min2_int max_two min_two max_three min_three max_four min_four str_gtr str_leq str_geq pw_at_slice   -- for this text's walks alone
set_option linter.unusedVariables false
set_option linter.unusedSimpArgs false
def laws_FnExactRangeStep.T8 : Bool × List (List Nat × List Nat) := (true, [([], []), ([0], [0]), ([], []), ([2, 1], [2]), ([1, 3, 3], [1, 3]), ([4], [4]), ([5], [5]), ([5], [5]), ([6, 4, 0, 1, 2, 3, 4, 5, 6], [6]), ([7, 8, 0, 1, 2, 3, 4, 5, 6, 7, 8], [7])])
def laws_FnExactRangeStep.B8 : List Nat := [0, 1, 0, 7, 15, 31, 63, 63, 127, 511]
theorem laws_FnExactRangeStep.tab8 : rtab .any (opsOf Try.f6 8) = laws_FnExactRangeStep.T8 := by kernel_rfl
theorem laws_FnExactRangeStep.bits8 : waitsOk laws_FnExactRangeStep.T8.2 laws_FnExactRangeStep.B8 = true := by kernel_rfl
def laws_FnExactRangeStep.T27 : Bool × List (List Nat × List Nat) := (true, [([], []), ([0], [0]), ([], []), ([2, 1], [2]), ([1, 3, 3], [1, 3]), ([4], [4]), ([5], [5]), ([5], [5]), ([6, 4, 0, 1, 2, 3, 4, 5, 6], [6]), ([7, 8, 0, 1, 2, 3, 4, 5, 6, 7, 8], [7])])
def laws_FnExactRangeStep.B27 : List Nat := [0, 1, 0, 7, 15, 31, 63, 63, 127, 511]
theorem laws_FnExactRangeStep.tab27 : rtab .any (opsOf Try.f6 27) = laws_FnExactRangeStep.T27 := by kernel_rfl
theorem laws_FnExactRangeStep.bits27 : waitsOk laws_FnExactRangeStep.T27.2 laws_FnExactRangeStep.B27 = true := by kernel_rfl
theorem held_len (k : Nat) (A0 : Option Addr) (c0 n : Nat) (l0 : List S30) (a1 : Int) (r : Int) (w : World) (hn : n = l0.length) (hr0 : Kd.C k30 w A0 l0.length l0) (hc0 : l0.length ≤ c0) (h : laws_heldRangeS.f k l0 a1 = some r) :
    Calls Try.prog 20 #[.slice A0 n c0, .int .i64 a1] w fun e w' => e = .returned (.int .i64 r) ∧ Below w.heap.size w w' := by
  subst hn
  exact laws_heldRangeS.calls k A0 c0 l0 a1 r w hr0 hc0 h
theorem R_range {w : World} {base b0 : Nat} {v : Value} {xs : List S30} {ok : Nat → Prop} (h : Kd.R k30 30 w base ok v xs) (hb : b0 ≤ base) : Kd.R k30 30 w b0 (fun k => base ≤ k ∧ k < w.heap.size) v xs := Kd.R_lower (Kd.R_mono (Kd.R_bound h) (fun _ hk => ⟨hk.2.1, hk.2.2.1⟩)) hb
theorem R_kept {w w1 : World} {base : Nat} {v : Value} {xs : List S30} {ok P : Nat → Prop} (h : Kd.R k30 30 w base ok v xs) (hk : Kept w w1 P) (hn : ∀ k, ok k → ¬ P k) : Kd.R k30 30 w1 base ok v xs := Kd.R_step h (fun k ho hlt => hk.2 k hlt (hn k ho))
theorem blk_kept {w w1 : World} {g : Nat} {o : Obj} {P : Nat → Prop} (h : w.heap[g]? = some o) (hk : Kept w w1 P) (hn : ¬ P g) : w1.heap[g]? = some o := (hk.2 g (blk_lt h) hn).trans h
set_option maxHeartbeats 8000000 in
set_option maxRecDepth 100000 in
theorem law_small1 (k : Nat) (A0 : Option Addr) (c0 : Nat) (l0 : List S61) (a1_0 a1_1 : Int) (a1_2 : ByteArray) (a1_3 a1_4 : Int) (t : Int) (w : World) (hr : Kd.C k61 w A0 l0.length l0) (hc : l0.length ≤ c0) (h : laws_szRangeS.f k l0 1048576 = some t) (ht : t < 0) :
    Calls Try.prog 6 #[.slice A0 l0.length c0, .agg #[.int .i64 a1_0, .int .i64 a1_1, .string a1_2, .int .i64 a1_3, .int .i64 a1_4]] w fun e w' => e = .returned (.bool true) ∧ Below w.heap.size w w' := by
  have HR := Aside0.mk hr
  have HC := Aside0.mk hc
  have B0 := Aside0.mk h
  clear hr hc h
  have z : decide (t < 0) = true := decide_eq_true ht
  clear ht
  go_enter Try.func6, Try.ntmps6
  go_wp2_with (first | ((with_reducible refine gate_dst (N := 3) rfl ?_); refine box_event ?hg (N := 3) ?hd (cs := #[.int .i64 a1_0, .int .i64 a1_1, .string a1_2, .int .i64 a1_3, .int .i64 a1_4]) (t := 40) ?hr ?_; (case hd => rfl); (case hg => rfl); (case hr => first | (go_simp; done) | (go_simp; rfl)); intro gb hg w1 hbox hb; have HB := Aside0.mk (show Below w.heap.size w w1 from hb); have BK := Aside0.mk hbox; clear hbox hb hg) | (go_at_call 9; refine (laws_szRangeS.calls k A0 c0 l0 1048576 t w1 (Kd.C_below HR.out HB.out) HC.out B0.out).mono ?_; rintro e w2 ⟨rfl, hb⟩; have n0_ := Aside0.mk (below_step HB.out hb); have n1_ := Aside0.mk (blk_below BK.out hb); clear HB BK; have HB := n0_; have BK := n1_; clear n0_ n1_; clear hb))
  go_ret
  exact ⟨by first | rfl | (simp; done), HB.out⟩
set_option maxHeartbeats 8000000 in
set_option maxRecDepth 100000 in
theorem law_small2 (k : Nat) (A0 : Option Addr) (c0 : Nat) (l0 : List S61) (a1_0 a1_1 : Int) (a1_2 : ByteArray) (a1_3 a1_4 : Int) (t t2 : Int) (w : World) (hr : Kd.C k61 w A0 l0.length l0) (hc : l0.length ≤ c0) (h : laws_szRangeS.f k l0 1048576 = some t) (ht : ¬ t < 0) (h2 : laws_szRangeOp.f a1_0 a1_1 a1_2 a1_3 a1_4 t = some t2) (ht2 : t2 < 0) :
    Calls Try.prog 6 #[.slice A0 l0.length c0, .agg #[.int .i64 a1_0, .int .i64 a1_1, .string a1_2, .int .i64 a1_3, .int .i64 a1_4]] w fun e w' => e = .returned (.bool true) ∧ Below w.heap.size w w' := by
  have HR := Aside0.mk hr
  have HC := Aside0.mk hc
  have B0 := Aside0.mk h
  have B0b := Aside0.mk h2
  clear hr hc h h2
  have z : decide (t < 0) = false := decide_eq_false ht
  have z2 : decide (t2 < 0) = true := decide_eq_true ht2
  clear ht ht2
  go_enter Try.func6, Try.ntmps6
  go_wp2_with (first | ((with_reducible refine gate_dst (N := 3) rfl ?_); refine box_event ?hg (N := 3) ?hd (cs := #[.int .i64 a1_0, .int .i64 a1_1, .string a1_2, .int .i64 a1_3, .int .i64 a1_4]) (t := 40) ?hr ?_; (case hd => rfl); (case hg => rfl); (case hr => first | (go_simp; done) | (go_simp; rfl)); intro gb hg w1 hbox hb; have HB := Aside0.mk (show Below w.heap.size w w1 from hb); have BK := Aside0.mk hbox; clear hbox hb hg) | (go_at_call 9; refine (laws_szRangeS.calls k A0 c0 l0 1048576 t w1 (Kd.C_below HR.out HB.out) HC.out B0.out).mono ?_; rintro e w2 ⟨rfl, hb⟩; have n0_ := Aside0.mk (below_step HB.out hb); have n1_ := Aside0.mk (blk_below BK.out hb); clear HB BK; have HB := n0_; have BK := n1_; clear n0_ n1_; clear hb; have hz_0 : w2.cell? ⟨gb, 0, none⟩ = some (.int .i64 a1_0) := (blk_cell BK.out 0).trans rfl; have hz_1 : w2.cell? ⟨gb, 1, none⟩ = some (.int .i64 a1_1) := (blk_cell BK.out 1).trans rfl; have hz_2 : w2.cell? ⟨gb, 2, none⟩ = some (.string a1_2) := (blk_cell BK.out 2).trans rfl; have hz_3 : w2.cell? ⟨gb, 3, none⟩ = some (.int .i64 a1_3) := (blk_cell BK.out 3).trans rfl; have hz_4 : w2.cell? ⟨gb, 4, none⟩ = some (.int .i64 a1_4) := (blk_cell BK.out 4).trans rfl) | (go_at_call 21; refine (laws_szRangeOp.calls a1_0 a1_1 a1_2 a1_3 a1_4 t t2 w2 B0b.out).mono ?_; rintro e w3 ⟨rfl, hb⟩; have n0_ := Aside0.mk (below_step HB.out hb); have n1_ := Aside0.mk (blk_below BK.out hb); clear HB BK; have HB := n0_; have BK := n1_; clear n0_ n1_; clear hb))
  go_ret
  exact ⟨by first | rfl | (simp; done), HB.out⟩
set_option maxHeartbeats 8000000 in
set_option maxRecDepth 100000 in
theorem law_walk (k : Nat) (A0 : Option Addr) (c0 : Nat) (l0 : List S61) (a1_0 a1_1 : Int) (a1_2 : ByteArray) (a1_3 a1_4 : Int) (t t2 : Int) (o1 o2 r1 r2 : List S30) (cc kk mm : Int) (w : World) (hr : Kd.C k61 w A0 l0.length l0) (hc : l0.length ≤ c0)
    (h0 : laws_szRangeS.f k l0 1048576 = some t) (ht : ¬ t < 0) (h0b : laws_szRangeOp.f a1_0 a1_1 a1_2 a1_3 a1_4 t = some t2) (ht2 : ¬ t2 < 0) (h1 : laws_toRangeS.f k l0 = some o1) (h2 : spec_RangeStep.f k o1 a1_0 a1_1 a1_2 a1_3 a1_4 = some (r1, cc)) (h3 : impl_RangeStep.f k o1 a1_0 a1_1 a1_2 a1_3 a1_4 = some (r1, cc))
    (h4 : laws_eqRangeS.f k r1 r1 = some true) (h5 : laws_eqRangeS.f k o1 o1 = some true) (h6 : laws_markRangeS.f k o1 1 = some (kk, o2)) (hk : ¬ kk < 0) (h7 : laws_markRangeS.f k r1 1 = some (mm, r2)) (h8 : laws_heldRangeS.f k r2 1 = some mm) (hm : ¬ mm < 0) :
    Calls Try.prog 6 #[.slice A0 l0.length c0, .agg #[.int .i64 a1_0, .int .i64 a1_1, .string a1_2, .int .i64 a1_3, .int .i64 a1_4]] w fun e w' => e = .returned (.bool true) ∧ Below w.heap.size w w' := by
  have HR := Aside0.mk hr
  have HC := Aside0.mk hc
  have B0 := Aside0.mk h0
  have B0b := Aside0.mk h0b
  have B1 := Aside0.mk h1
  have B2 := Aside0.mk h2
  have B3 := Aside0.mk h3
  have B4 := Aside0.mk h4
  have B5 := Aside0.mk h5
  have B6 := Aside0.mk h6
  have B7 := Aside0.mk h7
  have B8 := Aside0.mk h8
  have z0 : decide (t < 0) = false := decide_eq_false ht
  have z0b : decide (t2 < 0) = false := decide_eq_false ht2
  have z1 : decide (kk < 0) = false := decide_eq_false hk
  have z2 : decide (mm < 0) = false := decide_eq_false hm
  have z3 : (cc != cc) = false := by simp
  have z4 : (mm != mm) = false := by simp
  clear hr hc h0 h0b h1 h2 h3 h4 h5 h6 h7 h8 ht ht2 hk hm
  go_enter Try.func6, Try.ntmps6
  go_upto_region 5 with (first | ((with_reducible refine gate_dst (N := 3) rfl ?_); refine box_event ?hg (N := 3) ?hd (cs := #[.int .i64 a1_0, .int .i64 a1_1, .string a1_2, .int .i64 a1_3, .int .i64 a1_4]) (t := 40) ?hr ?_; (case hd => rfl); (case hg => rfl); (case hr => first | (go_simp; done) | (go_simp; rfl)); intro gb hg w1 hbox hb; have HB := Aside0.mk (show Below w.heap.size w w1 from hb); have BK := Aside0.mk hbox; clear hbox hb hg) | (go_at_call 9; refine (laws_szRangeS.calls k A0 c0 l0 1048576 t w1 (Kd.C_below HR.out HB.out) HC.out B0.out).mono ?_; rintro e w2 ⟨rfl, hb⟩; have n0_ := Aside0.mk (below_step HB.out hb); have n1_ := Aside0.mk (blk_below BK.out hb); clear HB BK; have HB := n0_; have BK := n1_; clear n0_ n1_; clear hb))
  have hz_0 : w2.cell? ⟨gb, 0, none⟩ = some (.int .i64 a1_0) := (blk_cell BK.out 0).trans rfl; have hz_1 : w2.cell? ⟨gb, 1, none⟩ = some (.int .i64 a1_1) := (blk_cell BK.out 1).trans rfl; have hz_2 : w2.cell? ⟨gb, 2, none⟩ = some (.string a1_2) := (blk_cell BK.out 2).trans rfl; have hz_3 : w2.cell? ⟨gb, 3, none⟩ = some (.int .i64 a1_3) := (blk_cell BK.out 3).trans rfl; have hz_4 : w2.cell? ⟨gb, 4, none⟩ = some (.int .i64 a1_4) := (blk_cell BK.out 4).trans rfl
  go_upto_region 8 with ((go_at_call 21; refine (laws_szRangeOp.calls a1_0 a1_1 a1_2 a1_3 a1_4 t t2 w2 B0b.out).mono ?_; rintro e w3 ⟨rfl, hb⟩; have n0_ := Aside0.mk (below_step HB.out hb); have n1_ := Aside0.mk (blk_below BK.out hb); clear HB BK; have HB := n0_; have BK := n1_; clear n0_ n1_; clear hb))
  (try clear hz_0); (try clear hz_1); (try clear hz_2); (try clear hz_3); (try clear hz_4)
  have n0_ := Aside0.mk (below_drew1 HB.out); have n1_ := Aside0.mk (blk_drew BK.out); clear HB BK; have HB := n0_; have BK := n1_; clear n0_ n1_
  refine start_ (n := 10) (S := fun w' => w'.cell? ⟨gb, 0, none⟩ = some (.int .i64 a1_0) ∧ w'.cell? ⟨gb, 1, none⟩ = some (.int .i64 a1_1) ∧ w'.cell? ⟨gb, 2, none⟩ = some (.string a1_2) ∧ w'.cell? ⟨gb, 3, none⟩ = some (.int .i64 a1_3) ∧ w'.cell? ⟨gb, 4, none⟩ = some (.int .i64 a1_4)) (ds := []) #[false, false, false, false, false, false, false, false, false, false] (by kernel_rfl) rfl rfl ⟨(blk_cell BK.out 0).trans rfl, (blk_cell BK.out 1).trans rfl, (blk_cell BK.out 2).trans rfl, (blk_cell BK.out 3).trans rfl, (blk_cell BK.out 4).trans rfl⟩ (fun hHeld => ?_)
  refine with_tabW laws_FnExactRangeStep.tab8 laws_FnExactRangeStep.bits8 (fun HT_ HW_ => ?_)
  generalize World.drew w3 = w4 at HB BK hHeld ⊢
  refine zp 0 27 ?_
  refine zt 2 29 ?_ (hr := by rintro w' ⟨s0, s1, s2, s3, s4⟩; go_simp; with_reducible rfl)
  refine one_ (i := 1) (N := some 28) #[true, true, true, false, false, false, false, false, false, false] rfl rfl (one_of HT_.out (by kernel_rfl)) (by decide) (fun K hK => ?_)
  refine goes_ Try.func11 (by kernel_rfl) rfl #[.slice A0 l0.length c0] (by rfl) rfl rfl zm ?_
  (with_reducible refine (laws_toRangeS.calls k A0 c0 l0 o1 w4 (Kd.C_below HR.out HB.out) HC.out B1.out).mono ?_)
  rintro e w5a ⟨v_, rfl, h_, hb⟩
  refine ⟨_, rfl, ?_⟩
  have h_ := Kd.R_mono (Kd.R_lower h_ (below_size HB.out)) (fun _ _ => trivial : ∀ k, _ → True)
  have HA := Aside0.mk h_
  have n0_ := Aside0.mk (below_step HB.out hb); have n1_ := Aside0.mk (blk_below BK.out hb); clear HB BK; have HB := n0_; have BK := n1_; clear n0_ n1_
  clear h_ hb
  refine hK.out _ _ ⟨(blk_cell BK.out 0).trans rfl, (blk_cell BK.out 1).trans rfl, (blk_cell BK.out 2).trans rfl, (blk_cell BK.out 3).trans rfl, (blk_cell BK.out 4).trans rfl⟩ (fun hHeld => ?_)
  clear hK K; refine norm_ (a' := ?_) ?_ ?_; rotate_left
  · show Act.put _ (some 28) _ = _
    simp only [Act.put, List.setIfInBounds_toArray, List.set_cons_zero, List.set_cons_succ, i64_w, i32_w]; rfl
  refine one_ (i := 3) (N := some 30) #[true, true, true, true, false, false, false, false, false, false] rfl rfl (one_of HT_.out (by kernel_rfl)) (by decide) (fun K hK => ?_)
  refine goes_ Try.func23 (by kernel_rfl) rfl #[.agg #[.int .i64 a1_0, .int .i64 a1_1, .string a1_2, .int .i64 a1_3, .int .i64 a1_4]] (by rfl) rfl rfl zm ?_
  (with_reducible refine (laws_toRangeOp.calls a1_0 a1_1 a1_2 a1_3 a1_4 a1_0 a1_1 a1_2 a1_3 a1_4 w5a rfl).mono ?_)
  rintro e w5 ⟨rfl, hb⟩
  refine ⟨_, rfl, ?_⟩
  have n0_ := Aside0.mk (below_step HB.out hb); have n1_ := Aside0.mk (blk_below BK.out hb); have n2_ := Aside0.mk (Kd.R_below HA.out hb); clear HB BK HA; have HB := n0_; have BK := n1_; have HA := n2_; clear n0_ n1_ n2_
  clear hb
  refine hK.out _ _ ⟨(blk_cell BK.out 0).trans rfl, (blk_cell BK.out 1).trans rfl, (blk_cell BK.out 2).trans rfl, (blk_cell BK.out 3).trans rfl, (blk_cell BK.out 4).trans rfl⟩ (fun hHeld => ?_)
  clear hK K; refine norm_ (a' := ?_) ?_ ?_; rotate_left
  · show Act.put _ (some 30) _ = _
    simp only [Act.put, List.setIfInBounds_toArray, List.set_cons_zero, List.set_cons_succ, i64_w, i32_w]; rfl
  obtain ⟨AA, cA, eA⟩ := Kd.R_slice HA.out
  subst eA
  refine one_ (i := 4) (N := some 31) #[true, true, true, true, true, false, false, false, false, false] rfl rfl (one_of HT_.out (by kernel_rfl)) (by decide) (fun K hK => ?_)
  refine goes_ Try.func22 (by kernel_rfl) rfl #[.slice AA o1.length cA, .agg #[.int .i64 a1_0, .int .i64 a1_1, .string a1_2, .int .i64 a1_3, .int .i64 a1_4]] (by rfl) rfl rfl zm ?_
  (with_reducible refine (spec_RangeStep.calls k AA cA o1 a1_0 a1_1 a1_2 a1_3 a1_4 r1 cc w5 (Kd.R_reads' HA.out).2.2 (Kd.R_reads' HA.out).2.1 B2.out).mono ?_)
  rintro e w6 ⟨v_, rfl, h_, hb⟩
  refine ⟨_, rfl, ?_⟩
  obtain ⟨A6, c6, e6⟩ := Kd.R_slice h_; subst e6; have HS6 := Aside0.mk (Kd.R_mono (R_range h_ (below_size HB.out)) (fun _ hk => hk.2) : Kd.R k30 30 w6 w.heap.size (fun k => k < w6.heap.size) (.slice A6 r1.length c6) r1); have GB := Aside0.mk (show gb < w6.heap.size from Nat.lt_of_lt_of_le (blk_lt BK.out) hb.size)
  have n0_ := Aside0.mk (below_step HB.out hb); have n1_ := Aside0.mk (blk_below BK.out hb); clear HB BK; have HB := n0_; have BK := n1_; clear n0_ n1_
  clear h_ hb HA
  refine hK.out _ _ ⟨(blk_cell BK.out 0).trans rfl, (blk_cell BK.out 1).trans rfl, (blk_cell BK.out 2).trans rfl, (blk_cell BK.out 3).trans rfl, (blk_cell BK.out 4).trans rfl⟩ (fun hHeld => ?_)
  clear hK K; refine norm_ (a' := ?_) ?_ ?_; rotate_left
  · show Act.put _ (some 31) _ = _
    simp only [Act.put, List.setIfInBounds_toArray, List.set_cons_zero, List.set_cons_succ, i64_w, i32_w]; rfl
  refine zp 5 26 ?_
  refine zp 6 32 ?_
  refine zp 7 33 ?_
  refine zp 8 6 ?_
  refine zp 9 7 ?_
  refine done_ (done_of HT_.out (by kernel_rfl)) ?_
  clear hHeld
  go_upto_region 10 with (go_at_call 11; refine (laws_toRangeS.calls k A0 c0 l0 o1 w6 (Kd.C_below HR.out HB.out) HC.out B1.out).mono ?_; rintro e w7 ⟨v_, rfl, h_, hb⟩; obtain ⟨A8, c8, rfl⟩ := Kd.R_slice h_; have HR8 := Aside0.mk (R_range h_ (below_size HB.out)); have HL67 := Aside0.mk hb.size; have n0_ := Aside0.mk (below_step HB.out hb); have n1_ := Aside0.mk (blk_below BK.out hb); have n2_ := Aside0.mk (Kd.R_below HS6.out hb); clear HB BK HS6; have HB := n0_; have BK := n1_; have HS6 := n2_; clear n0_ n1_ n2_; clear h_ hb)
  have hz_0 : w7.cell? ⟨gb, 0, none⟩ = some (.int .i64 a1_0) := (blk_cell BK.out 0).trans rfl; have hz_1 : w7.cell? ⟨gb, 1, none⟩ = some (.int .i64 a1_1) := (blk_cell BK.out 1).trans rfl; have hz_2 : w7.cell? ⟨gb, 2, none⟩ = some (.string a1_2) := (blk_cell BK.out 2).trans rfl; have hz_3 : w7.cell? ⟨gb, 3, none⟩ = some (.int .i64 a1_3) := (blk_cell BK.out 3).trans rfl; have hz_4 : w7.cell? ⟨gb, 4, none⟩ = some (.int .i64 a1_4) := (blk_cell BK.out 4).trans rfl
  go_upto_region 11 with (first | (go_at_call 23; refine (laws_toRangeOp.calls a1_0 a1_1 a1_2 a1_3 a1_4 a1_0 a1_1 a1_2 a1_3 a1_4 w7 rfl).mono ?_; rintro e w8 ⟨rfl, hb⟩; have HL8 := Aside0.mk hb.size; have n0_ := Aside0.mk (below_step HB.out hb); have n1_ := Aside0.mk (blk_below BK.out hb); have n2_ := Aside0.mk (Kd.R_below HS6.out hb); have n3_ := Aside0.mk (Kd.R_below HR8.out hb); clear HB BK HS6 HR8; have HB := n0_; have BK := n1_; have HS6 := n2_; have HR8 := n3_; clear n0_ n1_ n2_ n3_; clear hb; (try clear hz_0); (try clear hz_1); (try clear hz_2); (try clear hz_3); (try clear hz_4)) | (go_at_call 24; refine (impl_RangeStep.callsA k A8 c8 o1 a1_0 a1_1 a1_2 a1_3 a1_4 r1 cc w8 (Kd.R_reads' HR8.out).2.2 (Kd.R_reads' HR8.out).2.1 B3.out).mono ?_; rintro e w9 ⟨v_, rfl, h_, hb⟩; obtain ⟨A9, c9, rfl⟩ := Kd.R_slice h_; have HS9 := Aside0.mk (Kd.R_mono (R_range h_ (below_size HB.out)) (fun _ hk => Nat.le_trans HL8.out hk.1) : Kd.R k30 30 w9 w.heap.size (fun k => w7.heap.size ≤ k) (.slice A9 r1.length c9) r1); have n0_ := Aside0.mk (below_step HB.out hb); have n1_ := Aside0.mk (blk_below BK.out hb); have n2_ := Aside0.mk (Kd.R_below HS6.out hb); have n3_ := Aside0.mk (Kd.R_below HR8.out hb); clear HB BK HS6 HR8; have HB := n0_; have BK := n1_; have HS6 := n2_; have HR8 := n3_; clear n0_ n1_ n2_ n3_; clear h_ hb))
  go_upto_region 13 with ((go_at_call 13; refine (laws_eqRangeS.calls k A9 c9 r1 A6 c6 r1 true w9 (Kd.R_reads' HS9.out).2.2 (Kd.R_reads' HS9.out).2.1 (Kd.R_reads' HS6.out).2.2 (Kd.R_reads' HS6.out).2.1 B4.out).mono ?_; rintro e w10 ⟨rfl, hb⟩; have n0_ := Aside0.mk (below_step HB.out hb); have n1_ := Aside0.mk (blk_below BK.out hb); have n2_ := Aside0.mk (Kd.R_below HS6.out hb); have n3_ := Aside0.mk (Kd.R_below HR8.out hb); have n4_ := Aside0.mk (Kd.R_below HS9.out hb); clear HB BK HS6 HR8 HS9; have HB := n0_; have BK := n1_; have HS6 := n2_; have HR8 := n3_; have HS9 := n4_; clear n0_ n1_ n2_ n3_ n4_; clear hb))
  go_upto_region 16 with (first | (go_at_call 11; refine (laws_toRangeS.calls k A0 c0 l0 o1 w10 (Kd.C_below HR.out HB.out) HC.out B1.out).mono ?_; rintro e w11 ⟨v_, rfl, h_, hb⟩; obtain ⟨AB, cB, rfl⟩ := Kd.R_slice h_; have HX := Aside0.mk h_; have n0_ := Aside0.mk (below_step HB.out hb); have n1_ := Aside0.mk (blk_below BK.out hb); have n2_ := Aside0.mk (Kd.R_below HS6.out hb); have n3_ := Aside0.mk (Kd.R_below HR8.out hb); have n4_ := Aside0.mk (Kd.R_below HS9.out hb); clear HB BK HS6 HR8 HS9; have HB := n0_; have BK := n1_; have HS6 := n2_; have HR8 := n3_; have HS9 := n4_; clear n0_ n1_ n2_ n3_ n4_; clear h_ hb) | (go_at_call 13; refine (laws_eqRangeS.calls k A8 c8 o1 AB cB o1 true w11 (Kd.R_reads' HR8.out).2.2 (Kd.R_reads' HR8.out).2.1 (Kd.R_reads' HX.out).2.2 (Kd.R_reads' HX.out).2.1 B5.out).mono ?_; rintro e w12 ⟨rfl, hb⟩; have n0_ := Aside0.mk (below_step HB.out hb); have n1_ := Aside0.mk (blk_below BK.out hb); have n2_ := Aside0.mk (Kd.R_below HS6.out hb); have n3_ := Aside0.mk (Kd.R_below HR8.out hb); have n4_ := Aside0.mk (Kd.R_below HS9.out hb); clear HB BK HS6 HR8 HS9; have HB := n0_; have BK := n1_; have HS6 := n2_; have HR8 := n3_; have HS9 := n4_; clear n0_ n1_ n2_ n3_ n4_; clear hb))
  go_upto_region 17 with (go_at_call 19; refine (laws_markRangeS.calls k (fun k => w6.heap.size ≤ k ∧ k < w7.heap.size) (.slice A8 o1.length c8) o1 1 kk o2 w w12 HB.out HR8.out B6.out).mono ?_; rintro e w13 ⟨rfl, _, hb, hk⟩; have n0_ := Aside0.mk hb; have n1_ := Aside0.mk (R_kept HS6.out hk (fun k h h2 => by have := h2.1; omega)); have n2_ := Aside0.mk (R_kept HS9.out hk (fun k h h2 => by have := h2.2; omega)); have n3_ := Aside0.mk (blk_kept BK.out hk (fun h2 => by have := h2.1; have := GB.out; omega)); clear HB HS6 HS9 BK HR8 hb hk; have HB := n0_; have HS6 := n1_; have HS9 := n2_; have BK := n3_; clear n0_ n1_ n2_ n3_)
  go_upto_region 20 with ((go_at_call 13; refine (laws_eqRangeS.calls k A9 c9 r1 A6 c6 r1 true w13 (Kd.R_reads' HS9.out).2.2 (Kd.R_reads' HS9.out).2.1 (Kd.R_reads' HS6.out).2.2 (Kd.R_reads' HS6.out).2.1 B4.out).mono ?_; rintro e w14 ⟨rfl, hb⟩; have n0_ := Aside0.mk (below_step HB.out hb); have n1_ := Aside0.mk (blk_below BK.out hb); have n2_ := Aside0.mk (Kd.R_below HS6.out hb); have n3_ := Aside0.mk (Kd.R_below HS9.out hb); clear HB BK HS6 HS9; have HB := n0_; have BK := n1_; have HS6 := n2_; have HS9 := n3_; clear n0_ n1_ n2_ n3_; clear hb))
  skip
  go_upto_region 22 with (go_at_call 19; refine (laws_markRangeS.calls k (fun k => w7.heap.size ≤ k) (.slice A9 r1.length c9) r1 1 mm r2 w w14 HB.out HS9.out B7.out).mono ?_; rintro e w15 ⟨rfl, h_, hb, hk⟩; have n0_ := Aside0.mk hb; have n1_ := Aside0.mk (R_kept HS6.out hk (fun k h h2 => by have := HL67.out; omega)); have n2_ := Aside0.mk h_; have HLn := Aside0.mk (Kd.R_reads' h_).1; have n3_ := Aside0.mk (blk_kept BK.out hk (fun h2 => by have := GB.out; have := HL67.out; omega)); clear HB HS6 HS9 BK h_ hb hk; have HB := n0_; have HS6 := n1_; have HS9 := n2_; have BK := n3_; clear n0_ n1_ n2_ n3_)
  go_upto_region 27 with (go_at_call 20; refine (held_len k A9 c9 r1.length r2 1 mm w15 HLn.out (Kd.R_reads' HS9.out).2.2 (by have := (Kd.R_reads' HS9.out).2.1; have := HLn.out; omega) B8.out).mono ?_; rintro e w16 ⟨rfl, hb⟩; have n0_ := Aside0.mk (below_step HB.out hb); have n1_ := Aside0.mk (blk_below BK.out hb); have n2_ := Aside0.mk (Kd.R_below HS6.out hb); have n3_ := Aside0.mk (Kd.R_below HS9.out hb); clear HB BK HS6 HS9; have HB := n0_; have BK := n1_; have HS6 := n2_; have HS9 := n3_; clear n0_ n1_ n2_ n3_; clear hb)
  have n0_ := Aside0.mk (below_drew1 HB.out); have n1_ := Aside0.mk (blk_drew BK.out); have n2_ := Aside0.mk (Kd.R_drew HS6.out); have n3_ := Aside0.mk (Kd.R_drew HS9.out); clear HB BK HS6 HS9; have HB := n0_; have BK := n1_; have HS6 := n2_; have HS9 := n3_; clear n0_ n1_ n2_ n3_
  refine start_ (n := 10) (S := fun w' => w'.cell? ⟨gb, 0, none⟩ = some (.int .i64 a1_0) ∧ w'.cell? ⟨gb, 1, none⟩ = some (.int .i64 a1_1) ∧ w'.cell? ⟨gb, 2, none⟩ = some (.string a1_2) ∧ w'.cell? ⟨gb, 3, none⟩ = some (.int .i64 a1_3) ∧ w'.cell? ⟨gb, 4, none⟩ = some (.int .i64 a1_4)) (ds := []) #[false, false, false, false, false, false, false, false, false, false] (by kernel_rfl) rfl rfl ⟨(blk_cell BK.out 0).trans rfl, (blk_cell BK.out 1).trans rfl, (blk_cell BK.out 2).trans rfl, (blk_cell BK.out 3).trans rfl, (blk_cell BK.out 4).trans rfl⟩ (fun hHeld => ?_)
  refine with_tabW laws_FnExactRangeStep.tab27 laws_FnExactRangeStep.bits27 (fun HT_ HW_ => ?_)
  generalize World.drew w16 = w17 at HB BK HS6 HS9 hHeld ⊢
  refine zp 0 85 ?_
  refine zt 2 87 ?_ (hr := by rintro w' ⟨s0, s1, s2, s3, s4⟩; go_simp; with_reducible rfl)
  refine one_ (i := 1) (N := some 86) #[true, true, true, false, false, false, false, false, false, false] rfl rfl (one_of HT_.out (by kernel_rfl)) (by decide) (fun K hK => ?_)
  refine goes_ Try.func11 (by kernel_rfl) rfl #[.slice A0 l0.length c0] (by rfl) rfl rfl zm ?_
  (with_reducible refine (laws_toRangeS.calls k A0 c0 l0 o1 w17 (Kd.C_below HR.out HB.out) HC.out B1.out).mono ?_)
  rintro e w18a ⟨v_, rfl, h_, hb⟩
  refine ⟨_, rfl, ?_⟩
  have h_ := Kd.R_mono (Kd.R_lower h_ (below_size HB.out)) (fun _ _ => trivial : ∀ k, _ → True)
  have HA := Aside0.mk h_
  have n0_ := Aside0.mk (below_step HB.out hb); have n1_ := Aside0.mk (blk_below BK.out hb); have n2_ := Aside0.mk (Kd.R_below HS6.out hb); have n3_ := Aside0.mk (Kd.R_below HS9.out hb); clear HB BK HS6 HS9; have HB := n0_; have BK := n1_; have HS6 := n2_; have HS9 := n3_; clear n0_ n1_ n2_ n3_
  clear h_ hb
  refine hK.out _ _ ⟨(blk_cell BK.out 0).trans rfl, (blk_cell BK.out 1).trans rfl, (blk_cell BK.out 2).trans rfl, (blk_cell BK.out 3).trans rfl, (blk_cell BK.out 4).trans rfl⟩ (fun hHeld => ?_)
  clear hK K; refine norm_ (a' := ?_) ?_ ?_; rotate_left
  · show Act.put _ (some 86) _ = _
    simp only [Act.put, List.setIfInBounds_toArray, List.set_cons_zero, List.set_cons_succ, i64_w, i32_w]; rfl
  refine one_ (i := 3) (N := some 88) #[true, true, true, true, false, false, false, false, false, false] rfl rfl (one_of HT_.out (by kernel_rfl)) (by decide) (fun K hK => ?_)
  refine goes_ Try.func23 (by kernel_rfl) rfl #[.agg #[.int .i64 a1_0, .int .i64 a1_1, .string a1_2, .int .i64 a1_3, .int .i64 a1_4]] (by rfl) rfl rfl zm ?_
  (with_reducible refine (laws_toRangeOp.calls a1_0 a1_1 a1_2 a1_3 a1_4 a1_0 a1_1 a1_2 a1_3 a1_4 w18a rfl).mono ?_)
  rintro e w18 ⟨rfl, hb⟩
  refine ⟨_, rfl, ?_⟩
  have n0_ := Aside0.mk (below_step HB.out hb); have n1_ := Aside0.mk (blk_below BK.out hb); have n2_ := Aside0.mk (Kd.R_below HS6.out hb); have n3_ := Aside0.mk (Kd.R_below HS9.out hb); have n4_ := Aside0.mk (Kd.R_below HA.out hb); clear HB BK HS6 HS9 HA; have HB := n0_; have BK := n1_; have HS6 := n2_; have HS9 := n3_; have HA := n4_; clear n0_ n1_ n2_ n3_ n4_
  clear hb
  refine hK.out _ _ ⟨(blk_cell BK.out 0).trans rfl, (blk_cell BK.out 1).trans rfl, (blk_cell BK.out 2).trans rfl, (blk_cell BK.out 3).trans rfl, (blk_cell BK.out 4).trans rfl⟩ (fun hHeld => ?_)
  clear hK K; refine norm_ (a' := ?_) ?_ ?_; rotate_left
  · show Act.put _ (some 88) _ = _
    simp only [Act.put, List.setIfInBounds_toArray, List.set_cons_zero, List.set_cons_succ, i64_w, i32_w]; rfl
  obtain ⟨AA, cA, eA⟩ := Kd.R_slice HA.out
  subst eA
  refine one_ (i := 4) (N := some 89) #[true, true, true, true, true, false, false, false, false, false] rfl rfl (one_of HT_.out (by kernel_rfl)) (by decide) (fun K hK => ?_)
  refine goes_ Try.func24 (by kernel_rfl) rfl #[.slice AA o1.length cA, .agg #[.int .i64 a1_0, .int .i64 a1_1, .string a1_2, .int .i64 a1_3, .int .i64 a1_4]] (by rfl) rfl rfl zm ?_
  (with_reducible refine (impl_RangeStep.callsA k AA cA o1 a1_0 a1_1 a1_2 a1_3 a1_4 r1 cc w18 (Kd.R_reads' HA.out).2.2 (Kd.R_reads' HA.out).2.1 B3.out).mono ?_)
  rintro e w19 ⟨v_, rfl, h_, hb⟩
  refine ⟨_, rfl, ?_⟩
  obtain ⟨A14, c14, e14⟩ := Kd.R_slice h_; subst e14; have HS14 := Aside0.mk h_
  have n0_ := Aside0.mk (below_step HB.out hb); have n1_ := Aside0.mk (blk_below BK.out hb); have n2_ := Aside0.mk (Kd.R_below HS6.out hb); have n3_ := Aside0.mk (Kd.R_below HS9.out hb); clear HB BK HS6 HS9; have HB := n0_; have BK := n1_; have HS6 := n2_; have HS9 := n3_; clear n0_ n1_ n2_ n3_
  clear h_ hb HA
  refine hK.out _ _ ⟨(blk_cell BK.out 0).trans rfl, (blk_cell BK.out 1).trans rfl, (blk_cell BK.out 2).trans rfl, (blk_cell BK.out 3).trans rfl, (blk_cell BK.out 4).trans rfl⟩ (fun hHeld => ?_)
  clear hK K; refine norm_ (a' := ?_) ?_ ?_; rotate_left
  · show Act.put _ (some 89) _ = _
    simp only [Act.put, List.setIfInBounds_toArray, List.set_cons_zero, List.set_cons_succ, i64_w, i32_w]; rfl
  refine zp 5 84 ?_
  refine zp 6 90 ?_
  refine zp 7 91 ?_
  refine zp 8 14 ?_
  refine zp 9 15 ?_
  refine done_ (done_of HT_.out (by kernel_rfl)) ?_
  clear hHeld
  go_upto_region 30 with ((go_at_call 13; refine (laws_eqRangeS.calls k A14 c14 r1 A6 c6 r1 true w19 (Kd.R_reads' HS14.out).2.2 (Kd.R_reads' HS14.out).2.1 (Kd.R_reads' HS6.out).2.2 (Kd.R_reads' HS6.out).2.1 B4.out).mono ?_; rintro e w20 ⟨rfl, hb⟩; have n0_ := Aside0.mk (below_step HB.out hb); have n1_ := Aside0.mk (blk_below BK.out hb); have n2_ := Aside0.mk (Kd.R_below HS9.out hb); clear HB BK HS9; have HB := n0_; have BK := n1_; have HS9 := n2_; clear n0_ n1_ n2_; clear hb))
  go_wp2_with (go_at_call 20; refine (held_len k A9 c9 r1.length r2 1 mm w20 HLn.out (Kd.R_reads' HS9.out).2.2 (by have := (Kd.R_reads' HS9.out).2.1; have := HLn.out; omega) B8.out).mono ?_; rintro e w21 ⟨rfl, hb⟩; have n0_ := Aside0.mk (below_step HB.out hb); have n1_ := Aside0.mk (blk_below BK.out hb); clear HB BK; have HB := n0_; have BK := n1_; clear n0_ n1_; clear hb)
  go_ret
  exact ⟨by first | rfl | (simp; done), HB.out⟩
/-- The calls' answers under which the law returns true. -/
def AllTold (k : Nat) (l0 : List S61) (a1_0 a1_1 : Int) (a1_2 : ByteArray) (a1_3 a1_4 : Int) : Prop := ∃ t, laws_szRangeS.f k l0 1048576 = some t ∧ (t < 0 ∨ ¬ t < 0 ∧ ∃ t2, laws_szRangeOp.f a1_0 a1_1 a1_2 a1_3 a1_4 t = some t2 ∧ (t2 < 0 ∨ ¬ t2 < 0 ∧ ∃ (o1 o2 r1 r2 : List S30) (cc kk mm : Int), laws_toRangeS.f k l0 = some o1 ∧ spec_RangeStep.f k o1 a1_0 a1_1 a1_2 a1_3 a1_4 = some (r1, cc) ∧ impl_RangeStep.f k o1 a1_0 a1_1 a1_2 a1_3 a1_4 = some (r1, cc) ∧ laws_eqRangeS.f k r1 r1 = some true ∧ laws_eqRangeS.f k o1 o1 = some true ∧ laws_markRangeS.f k o1 1 = some (kk, o2) ∧ ¬ kk < 0 ∧ laws_markRangeS.f k r1 1 = some (mm, r2) ∧ laws_heldRangeS.f k r2 1 = some mm ∧ ¬ mm < 0))
theorem laws_FnExactRangeStep.calls (k : Nat) (A0 : Option Addr) (c0 : Nat) (l0 : List S61) (a1_0 a1_1 : Int) (a1_2 : ByteArray) (a1_3 a1_4 : Int) (r : Bool) (w : World) (hr : Kd.C k61 w A0 l0.length l0) (hc : l0.length ≤ c0) (h : AllTold k l0 a1_0 a1_1 a1_2 a1_3 a1_4) (ht_ : r = true) :
    Calls Try.prog 6 #[.slice A0 l0.length c0, .agg #[.int .i64 a1_0, .int .i64 a1_1, .string a1_2, .int .i64 a1_3, .int .i64 a1_4]] w fun e w' => e = .returned (.bool r) ∧ Below w.heap.size w w' := by
  subst ht_
  obtain ⟨t, h0, h⟩ := h
  rcases h with h | ⟨ht, t2, h0b, h⟩
  · exact law_small1 k A0 c0 l0 a1_0 a1_1 a1_2 a1_3 a1_4 t w hr hc h0 h
  rcases h with h | ⟨ht2, o1, o2, r1, r2, cc, kk, mm, h1, h2, h3, h4, h5, h6, hk, h7, h8, hm⟩
  · exact law_small2 k A0 c0 l0 a1_0 a1_1 a1_2 a1_3 a1_4 t t2 w hr hc h0 ht h0b h
  · exact law_walk k A0 c0 l0 a1_0 a1_1 a1_2 a1_3 a1_4 t t2 o1 o2 r1 r2 cc kk mm w hr hc h0 ht h0b ht2 h1 h2 h3 h4 h5 h6 hk h7 h8 hm
end Go.Proofs.Ytdgleppagokjhaa.QFnExactRangeStep
