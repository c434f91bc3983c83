/- The functions that the law reaches, each as a plain Lean function with the proof that the Go code comes to its answers: written by a program of this session. No condition. -/
import Derived.Test.YtdgleppagokjhaaQFnExactRangeStepx0
namespace Go.Proofs.Ytdgleppagokjhaa.QFnExactRangeStep
open Go.RowKit Go.Proofs.YtdgleppagokjhaaW.PrintWords Go.Proofs.YtdgleppagokjhaaW.PrintLast Go.Proofs.YtdgleppagokjhaaW.PrintMore
attribute [local go_sem] max2_int min2_int max_two min_two max_three min_three max_four min_four str_gtr str_leq str_geq pw_at_slice   -- for this text's walks alone
set_option linter.unusedVariables false
set_option linter.unusedSimpArgs false

/-! ### laws_toRangeOp: function 23 -/
def laws_toRangeOp.f (a0_0 : Int) (a0_1 : Int) (a0_2 : ByteArray) (a0_3 : Int) (a0_4 : Int) : Option (Int × Int × ByteArray × Int × Int) := some (a0_0, a0_1, a0_2, a0_3, a0_4)
set_option maxHeartbeats 8000000 in
set_option maxRecDepth 100000 in
theorem laws_toRangeOp.calls (a0_0 : Int) (a0_1 : Int) (a0_2 : ByteArray) (a0_3 : Int) (a0_4 : Int) (r1 : Int) (r2 : Int) (r3 : ByteArray) (r4 : Int) (r5 : Int) (w : World) (h : laws_toRangeOp.f a0_0 a0_1 a0_2 a0_3 a0_4 = some (r1, r2, r3, r4, r5)) :
  Calls Try.prog 23 #[.agg #[.int .i64 a0_0, .int .i64 a0_1, .string a0_2, .int .i64 a0_3, .int .i64 a0_4]] w fun e w' => e = .returned (.agg #[.int .i64 r1, .int .i64 r2, .string r3, .int .i64 r4, .int .i64 r5]) ∧ Below w.heap.size w w' := by
 have hu40 := Try.underlying40; have hu43 := Try.underlying43; have HB := Aside0.mk (Below.refl w.heap.size w); have H : (some (a0_0, a0_1, a0_2, a0_3, a0_4)) = some (r1, r2, r3, r4, r5) := h; clear h; simp only [Option.some.injEq, Prod.mk.injEq] at H; obtain ⟨rfl, rfl, rfl, rfl, rfl⟩ := H
 go_enter Try.func23, Try.ntmps23
 go_wp2_with (first | ((with_reducible refine gate_dst (N := 1) rfl ?_); refine box_event ?hg (N := 1) ?hd (cs := #[.int .i64 a0_0, .int .i64 a0_1, .string a0_2, .int .i64 a0_3, .int .i64 a0_4]) (t := 40) ?hr ?_; (case hd => rfl); (case hg => rfl); (case hr => first | (go_simp; done) | (go_simp; rfl)); intro gb816 hg w2 hbox hb; have n0_ := Aside0.mk (below_step zb hb); have n1_ := Aside0.mk (hbox); have n2_ := Aside0.mk ((by rw [hg]; exact (below_size zb) : w.heap.size ≤ gb816)); have n3_ := Aside0.mk ((by rw [hg]; exact (below_size zb) : w.heap.size ≤ gb816)); clear HB; have HB := n0_; have BK816 := n1_; have GW816 := n2_; have GE816 := n3_; clear n0_ n1_ n2_ n3_; clear hb hbox hg) | ((with_reducible refine gate_dst (N := 2) rfl ?_); refine box_event ?hg (N := 2) ?hd (cs := #[.int .i64 0, .int .i64 0, .string (⟨#[]⟩ : ByteArray), .int .i64 0, .int .i64 0]) (t := 43) ?hr ?_; (case hd => rfl); (case hg => rfl); (case hr => first | (go_simp; done) | (go_simp; rfl)); intro gb817 hg w3 hbox hb; have n0_ := Aside0.mk (blk_below (zk BK816.out) hb); have n1_ := Aside0.mk (below_step (by repeat (first | (with_reducible first | exact HB.out | apply below_alloc | apply pw_below_drewN | apply below_drew1 | refine below_set ?_ GE816.out) | exact HB.out)) hb); have n2_ := Aside0.mk (hbox); have n3_ := Aside0.mk ((by rw [hg]; exact (below_size (by repeat (first | (with_reducible first | exact HB.out | apply below_alloc | apply pw_below_drewN | apply below_drew1 | refine below_set ?_ GE816.out) | exact HB.out))) : w.heap.size ≤ gb817)); have n4_ := Aside0.mk ((by rw [hg]; exact (below_size (by repeat (first | (with_reducible first | exact HB.out | apply below_alloc | apply pw_below_drewN | apply below_drew1 | refine below_set ?_ GE816.out) | exact HB.out))) : w.heap.size ≤ gb817)); have n5_ := Aside0.mk ((by rw [hg]; exact Nat.ne_of_lt (blk_lt (g := gb816) (o := .cells #[.int .i64 a0_0, .int .i64 a0_1, .string a0_2, .int .i64 a0_3, .int .i64 a0_4] 40 (0, 0)) (zk BK816.out)) : gb816 ≠ gb817)); have n6_ := Aside0.mk ((by rw [hg]; exact Nat.ne_of_gt (blk_lt (g := gb816) (o := .cells #[.int .i64 a0_0, .int .i64 a0_1, .string a0_2, .int .i64 a0_3, .int .i64 a0_4] 40 (0, 0)) (zk BK816.out)) : gb817 ≠ gb816)); clear BK816; clear HB; have BK816 := n0_; have HB := n1_; have BK817 := n2_; have GW817 := n3_; have GE817 := n4_; have NB816_817 := n5_; have NB817_816 := n6_; clear n0_ n1_ n2_ n3_ n4_ n5_ n6_; clear hb hbox hg) | ((with_reducible refine gate_dst (N := 3) rfl ?_); refine box_event ?hg (N := 3) ?hd (cs := #[.int .i64 0, .int .i64 0, .string (⟨#[]⟩ : ByteArray), .int .i64 0, .int .i64 0]) (t := 43) ?hr ?_; (case hd => rfl); (case hg => rfl); (case hr => first | (go_simp; done) | (go_simp; rfl)); intro gb818 hg w4 hbox hb; have n0_ := Aside0.mk (blk_below (zk BK816.out) hb); have n1_ := Aside0.mk (blk_below (zk BK817.out) hb); have n2_ := Aside0.mk (below_step (by repeat (first | (with_reducible first | exact HB.out | apply below_alloc | apply pw_below_drewN | apply below_drew1 | refine below_set ?_ GE816.out | refine below_set ?_ GE817.out) | exact HB.out)) hb); have n3_ := Aside0.mk (hbox); have n4_ := Aside0.mk ((by rw [hg]; exact (below_size (by repeat (first | (with_reducible first | exact HB.out | apply below_alloc | apply pw_below_drewN | apply below_drew1 | refine below_set ?_ GE816.out | refine below_set ?_ GE817.out) | exact HB.out))) : w.heap.size ≤ gb818)); have n5_ := Aside0.mk ((by rw [hg]; exact (below_size (by repeat (first | (with_reducible first | exact HB.out | apply below_alloc | apply pw_below_drewN | apply below_drew1 | refine below_set ?_ GE816.out | refine below_set ?_ GE817.out) | exact HB.out))) : w.heap.size ≤ gb818)); have n6_ := Aside0.mk ((by rw [hg]; exact Nat.ne_of_lt (blk_lt (g := gb816) (o := .cells #[.int .i64 a0_0, .int .i64 a0_1, .string a0_2, .int .i64 a0_3, .int .i64 a0_4] 40 (0, 0)) (zk BK816.out)) : gb816 ≠ gb818)); have n7_ := Aside0.mk ((by rw [hg]; exact Nat.ne_of_gt (blk_lt (g := gb816) (o := .cells #[.int .i64 a0_0, .int .i64 a0_1, .string a0_2, .int .i64 a0_3, .int .i64 a0_4] 40 (0, 0)) (zk BK816.out)) : gb818 ≠ gb816)); have n8_ := Aside0.mk ((by rw [hg]; exact Nat.ne_of_lt (blk_lt (g := gb817) (o := .cells #[.int .i64 0, .int .i64 0, .string (⟨#[]⟩ : ByteArray), .int .i64 0, .int .i64 0] 43 (0, 0)) (zk BK817.out)) : gb817 ≠ gb818)); have n9_ := Aside0.mk ((by rw [hg]; exact Nat.ne_of_gt (blk_lt (g := gb817) (o := .cells #[.int .i64 0, .int .i64 0, .string (⟨#[]⟩ : ByteArray), .int .i64 0, .int .i64 0] 43 (0, 0)) (zk BK817.out)) : gb818 ≠ gb817)); clear BK816; clear BK817; clear HB; have BK816 := n0_; have BK817 := n1_; have HB := n2_; have BK818 := n3_; have GW818 := n4_; have GE818 := n5_; have NB816_818 := n6_; have NB818_816 := n7_; have NB817_818 := n8_; have NB818_817 := n9_; clear n0_ n1_ n2_ n3_ n4_ n5_ n6_ n7_ n8_ n9_; clear hb hbox hg; have hnb5 := NB816_817.out; have hnc5 := NB817_816.out; have hnb6 := NB816_818.out; have hnc6 := NB818_816.out; obtain ⟨hcz7_0, hcz7_1, hcz7_2, hcz7_3, hcz7_4⟩ := cl5R BK816.out; obtain ⟨hfz7_0, hfz7_1, hfz7_2, hfz7_3, hfz7_4⟩ := fz5R BK816.out; have hnb8 := NB818_817.out; have hnc8 := NB817_818.out; obtain ⟨hcz9_0, hcz9_1, hcz9_2, hcz9_3, hcz9_4⟩ := cl5R BK818.out; obtain ⟨hfz9_0, hfz9_1, hfz9_2, hfz9_3, hfz9_4⟩ := fz5R BK818.out; obtain ⟨hcz10_0, hcz10_1, hcz10_2, hcz10_3, hcz10_4⟩ := cl5R BK817.out; obtain ⟨hfz10_0, hfz10_1, hfz10_2, hfz10_3, hfz10_4⟩ := fz5R BK817.out))
 refine bodyPost_ret (results_cell_row rfl _ _ gb817 43 #[.int .i64 a0_0, .int .i64 a0_1, .string a0_2, .int .i64 a0_3, .int .i64 a0_4] (0, 0) _ rfl (by (with_reducible repeat (first | refine blk_drewN ?_ _ | refine blk_drew ?_ | refine blk_alloc ?_ _)); refine blk_put (cs := #[.int .i64 a0_0, .int .i64 a0_1, .string a0_2, .int .i64 a0_3, .int .i64 0]) ?_ 4 _ rfl; (with_reducible repeat (first | refine blk_drewN ?_ _ | refine blk_drew ?_ | refine blk_alloc ?_ _)); refine blk_put (cs := #[.int .i64 a0_0, .int .i64 a0_1, .string a0_2, .int .i64 0, .int .i64 0]) ?_ 3 _ rfl; (with_reducible repeat (first | refine blk_drewN ?_ _ | refine blk_drew ?_ | refine blk_alloc ?_ _)); refine blk_put (cs := #[.int .i64 a0_0, .int .i64 a0_1, .string (⟨#[]⟩ : ByteArray), .int .i64 0, .int .i64 0]) ?_ 2 _ rfl; (with_reducible repeat (first | refine blk_drewN ?_ _ | refine blk_drew ?_ | refine blk_alloc ?_ _)); refine blk_put (cs := #[.int .i64 a0_0, .int .i64 0, .string (⟨#[]⟩ : ByteArray), .int .i64 0, .int .i64 0]) ?_ 1 _ rfl; (with_reducible repeat (first | refine blk_drewN ?_ _ | refine blk_drew ?_ | refine blk_alloc ?_ _)); refine blk_put (cs := #[.int .i64 0, .int .i64 0, .string (⟨#[]⟩ : ByteArray), .int .i64 0, .int .i64 0]) ?_ 0 _ rfl; (with_reducible repeat (first | refine blk_drewN ?_ _ | refine blk_drew ?_ | refine blk_alloc ?_ _)); refine blk_far ?_ NB817_818.out _; (with_reducible repeat (first | refine blk_drewN ?_ _ | refine blk_drew ?_ | refine blk_alloc ?_ _)); refine blk_far ?_ NB817_818.out _; (with_reducible repeat (first | refine blk_drewN ?_ _ | refine blk_drew ?_ | refine blk_alloc ?_ _)); refine blk_far ?_ NB817_818.out _; (with_reducible repeat (first | refine blk_drewN ?_ _ | refine blk_drew ?_ | refine blk_alloc ?_ _)); refine blk_far ?_ NB817_818.out _; (with_reducible repeat (first | refine blk_drewN ?_ _ | refine blk_drew ?_ | refine blk_alloc ?_ _)); refine blk_far ?_ NB817_818.out _; (with_reducible repeat (first | refine blk_drewN ?_ _ | refine blk_drew ?_ | refine blk_alloc ?_ _)); exact BK817.out) Try.underlying43 rfl (by kernel_rfl)) rfl ?_; exact ⟨by first | rfl | (simp [errW_none, errW_some] <;> rfl) | (simp [*, errW_none, errW_some] <;> rfl), by repeat (first | (with_reducible first | exact HB.out | apply below_alloc | apply pw_below_drewN | apply below_drew1 | refine below_set ?_ GE816.out | refine below_set ?_ GE817.out | refine below_set ?_ GE818.out) | exact HB.out)⟩

/-! ### impl_RangesOK: function 12 -/
theorem impl_RangesOK.still_skip {P : Program} {ops : Array Oper} {w : World} {Q : Act → Prop} {a : Act} {o : Oper} {rest : List Oper} (hw : Region.wanted o (yielded ops a.tmps) = false) (h : wpStill P ops w Q rest (a.put o.dst undef)) : wpStill P ops w Q (o :: rest) a := by
 unfold wpStill
 rw [hw]
 exact h
theorem impl_RangesOK.cell_of {W : World} {b : Nat} {cs : Array Value} {T : TypeId} {z : Nat × Nat} {j : Nat} (h : W.heap[b]? = some (.cells cs T z)) : W.cell? ⟨b, j, none⟩ = cs[j]? := by
 simp [World.cell?, h]
theorem impl_RangesOK.law : Go.Maps.Keyed Try.prog 3 := Go.Maps.int_keyed Try.underlying3
theorem impl_RangesOK.zero (w : World) : (zeroValue 4).run Try.prog w = .ok (.bool false) w := by kernel_rfl
def impl_RangesOK.sd : List Int → DataW Unit
 | [] => .map []
 | x :: ids => (impl_RangesOK.sd ids).put (.int .i64 x) (.lit (.bool true))
theorem impl_RangesOK.sd_map : ∀ ids, Go.Maps.IsMap (impl_RangesOK.sd ids)
 | [] => Go.Maps.isMap_empty
 | _ :: ids => (impl_RangesOK.sd_map ids).put _ _
theorem impl_RangesOK.sd_at (y : Int) : ∀ ids, (impl_RangesOK.sd ids).atKey (.int .i64 y) (.lit (.bool false)) = .lit (.bool (decide (y ∈ ids)))
 | [] => rfl
 | x :: ids => by
  unfold impl_RangesOK.sd
  by_cases e : y = x
  ·subst e
   rw [Go.Maps.atKey_put_same (impl_RangesOK.sd_map ids) (by first | trivial | exact ⟨⟩ | simp [WideAt.IsKeyLit])]
   simp
  ·rw [Go.Maps.atKey_put_other (by intro h; injection h with _ h2; exact e h2), impl_RangesOK.sd_at y ids]
   simp [e]
theorem impl_RangesOK.look {w : World} {g n : Nat} {ids : List Int} (h : w.ownsMap Try.prog 3 (plainElem Try.prog 4) g n (impl_RangesOK.sd ids)) (y : Int) (hy : (Lit.int .i64 y).wf = true) :
  (Instr.lookup 64 (.map (some g)) (.int .i64 y) false).run Try.prog w = .ok (.bool (decide (y ∈ ids))) w := by
 obtain ⟨v, ps, hrun, hv⟩ := h.lookup impl_RangesOK.law Try.underlying64 (impl_RangesOK.zero w) (plainElem_bool Try.underlying4 false) (Go.Maps.keyOf_int_mk Try.underlying3 hy)
 rw [impl_RangesOK.sd_at] at hv
 have e : v = .bool (decide (y ∈ ids)) := by
  unfold plainElem at hv
  rw [Try.underlying4] at hv
  cases v <;> simp at hv
  rw [hv.1]
 rw [hrun, e]
theorem impl_RangesOK.leq (t : TypeId) (a b : ByteArray) : binOp .leq t (.string a) (.string b) = pure (.bool (Op.bytesLess a.toList b.toList || a.toList == b.toList)) := by simp [binOp, Op.stringOp]
def impl_RangesOK.fst (l : List S30) (i : Int) : Bool := decide (0 < i) && ((((rd_T30 l i).f1.toList != (rd_T30 l (i - 1)).f2.toList)) || (Op.bytesLess (rd_T30 l i).f1.toList (rd_T30 l (i - 1)).f1.toList || (rd_T30 l i).f1.toList == (rd_T30 l (i - 1)).f1.toList))
def impl_RangesOK.snd (x : S30) (seen : Bool) : Bool := decide (4000 < x.f1.size) || (decide (4000 < x.f2.size) || (decide (x.f0 < 1) || (decide (1000000 < x.f0) || (seen || (decide (x.f3 < 1) || (decide (255 < x.f3) || (decide (x.f4 < 0) || (decide (7 < x.f4) || (Go.bits .and .i64 (shr .i64 x.f3 x.f4) 1 == 0 || (decide (x.f5 < 1) || decide (1000000 < x.f5)))))))))))
set_option maxRecDepth 100000 in
def impl_RangesOK.l0 : Nat → List S30 → List Int → Int → Option Bool
 | 0, _, _, _ => none
 | k + 1, l, ids, i => if i < (l.length : Int) then (if 0 ≤ i then (if impl_RangesOK.fst l i = true then some false else if impl_RangesOK.snd (rd_T30 l i) (decide ((rd_T30 l i).f0 ∈ ids)) = true then some false else impl_RangesOK.l0 k l ((rd_T30 l i).f0 :: ids) (wrap64 (i + 1))) else none) else some true
def impl_RangesOK.f (k : Nat) (l : List S30) : Option Bool := if (l.length : Int) < 1 then some false else if (l.length : Int) > 64 then some false else if (rd_T30 l 0).f1.toList = ([] : List UInt8) then (if (rd_T30 l ((l.length : Int) - 1)).f2.toList = ([] : List UInt8) then impl_RangesOK.l0 k l [] 0 else some false) else some false
set_option maxHeartbeats 8000000 in
set_option maxRecDepth 100000 in
theorem impl_RangesOK.calls (k : Nat) (A0 : Option Addr) (c0 : Nat) (l0 : List (S30)) (r : Bool) (w : World) (hr0 : Kd.C k30 w A0 l0.length l0) (hc0 : l0.length ≤ c0) (h : impl_RangesOK.f k l0 = some r) :
  Calls Try.prog 12 #[.slice A0 l0.length c0] w fun e w' => e = .returned (.bool r) ∧ Below w.heap.size w w' := by
 have hu := Try.underlying30; have HR0 := Aside0.mk hr0; have HC0 := Aside0.mk hc0; have hmm := @run_makeMap Try.prog; clear hr0 hc0; have HB := Aside0.mk (Below.refl w.heap.size w)
 unfold impl_RangesOK.f at h
 by_cases c1 : (l0.length : Int) < 1
 ·rw [if_pos c1] at h
  cases h; have c1b : decide ((l0.length : Int) < 1) = true := decide_eq_true c1; have c1c : decide (l0.length < 1) = true := decide_eq_true (by omega); clear c1
  go_enter Try.func12, Try.ntmps12
  go_wp2
  go_ret
  exact ⟨rfl, HB.out⟩
 ·rw [if_neg c1] at h
  have c1b : decide ((l0.length : Int) < 1) = false := decide_eq_false c1; have c1c : decide (l0.length < 1) = false := decide_eq_false (by omega)
  by_cases c2 : (l0.length : Int) > 64
  ·rw [if_pos c2] at h
   cases h; have c2b : decide (64 < (l0.length : Int)) = true := decide_eq_true c2; have c2c : decide (64 < l0.length) = true := decide_eq_true (by omega); clear c1 c2
   go_enter Try.func12, Try.ntmps12
   go_wp2
   go_ret
   exact ⟨rfl, HB.out⟩
  ·rw [if_neg c2] at h
   have c2b : decide (64 < (l0.length : Int)) = false := decide_eq_false c2; have c2c : decide (64 < l0.length) = false := decide_eq_false (by omega); obtain ⟨ad1, e1, hx1_0, hx1_1, hx1_2, hx1_3, hx1_4, hx1_5⟩ := at_T30 HR0.out 0 (by omega) (by omega); obtain ⟨ad2, e2, hx2_0, hx2_1, hx2_2, hx2_3, hx2_4, hx2_5⟩ := at_T30 HR0.out ((l0.length : Int) - 1) (by omega) (by omega); obtain rfl : ad1 = ad2 := (by have := e1.symm.trans e2; injection this); rw [show ((0 : Int)).toNat = 0 from rfl, show 0 * 6 = 0 from rfl, Addr.add_zero'] at hx1_1; clear hx1_0 hx1_2 hx1_3 hx1_4 hx1_5 hx2_0 hx2_1 hx2_3 hx2_4 hx2_5; obtain ⟨m, hm⟩ : ∃ m, (l0.length : Int) - 1 = m := ⟨_, rfl⟩
   have hmw : IntKind.i64.wrap ((l0.length : Int) - 1) = m := by rw [← hm]; exact IntWalk.i64_in _ (by omega)
   have m0 : 0 ≤ m := by omega
   have m1 : m < (l0.length : Int) := by omega
   have m2 : 0 < l0.length := by omega
   rw [hm] at h hx2_2; clear hm c1 c2
   by_cases c3 : (rd_T30 l0 0).f1.toList = ([] : List UInt8)
   ·rw [if_pos c3] at h
    have c3b : ((rd_T30 l0 0).f1.toList == ([] : List UInt8)) = true := beq_iff_eq.mpr c3; have c3c : ((rd_T30 l0 0).f1.toList != ([] : List UInt8)) = false := bne_eq_false_iff_eq.mpr c3; clear c3
    by_cases c4 : (rd_T30 l0 m).f2.toList = ([] : List UInt8)
    ·rw [if_pos c4] at h
     have c4b : ((rd_T30 l0 m).f2.toList == ([] : List UInt8)) = true := beq_iff_eq.mpr c4; have c4c : ((rd_T30 l0 m).f2.toList != ([] : List UInt8)) = false := bne_eq_false_iff_eq.mpr c4; clear c4; have H := Aside0.mk h; clear h; subst e1
     go_enter Try.func12, Try.ntmps12
     go_wp2
     have c2c' := c2c; clear hx1_1 hx2_2 c1b c1c c2b c2c c3b c3c c4b c4c hmw m0 m1 m2; obtain ⟨g, hg⟩ : ∃ g, w.heap.size = g := ⟨_, rfl⟩; have HM := Aside0.mk (show (w.alloc (.map #[] 0)).ownsMap Try.prog 3 (plainElem Try.prog 4) g 0 (impl_RangesOK.sd []) from hg ▸ World.ownsMap_made _ _ _ _); rw [hg]
     go_loopg [34] k (fun kq v34 w' => ∃ (ids : List Int) (x : Int), v34 = .int .i64 x ∧ Aside0 (impl_RangesOK.l0 kq l0 ids x = some r) ∧ Aside0 (kq ≤ k) ∧ Aside0 (0 ≤ x ∧ ids.length ≤ x.toNat ∧ l0.length ≤ 64) ∧ Aside0 (w'.ownsMap Try.prog 3 (plainElem Try.prog 4) g ids.length (impl_RangesOK.sd ids)) ∧ Aside0 (Below w.heap.size w w'))
     case atStart => exact ⟨[], 0, rfl, H, ⟨Nat.le_refl _⟩, ⟨by omega, by simp, by have := of_decide_eq_false c2c'; omega⟩, HM, ⟨zb⟩⟩
     case round =>
      clear H HM HB c2c'; obtain ⟨ids, x, rfl, HA, HK3, HI, HM, HB⟩ := hrel
      cases gk with
      | zero => exact absurd HA.out (by simp [impl_RangesOK.l0])
      | succ k3 =>
       have H := HA.out; clear HA; simp only [impl_RangesOK.l0] at H
       by_cases c10 : x < (l0.length : Int)
       ·rw [if_pos c10] at H
        have c10b0 : decide (x < (l0.length : Int)) = true := decide_eq_true c10; have c11 : 0 ≤ x := HI.out.1; rw [if_pos c11] at H; obtain ⟨ad1, e1, hx1_0, hx1_1, hx1_2, hx1_3, hx1_4, hx1_5⟩ := at_T30 HR0.out x c11 c10; cases e1; replace hx1_0 := (HB.out.cell (World.block_lt_of_cell? w _ hx1_0)).trans hx1_0; replace hx1_1 := (HB.out.cell (World.block_lt_of_cell? w _ hx1_1)).trans hx1_1; replace hx1_2 := (HB.out.cell (World.block_lt_of_cell? w _ hx1_2)).trans hx1_2; replace hx1_3 := (HB.out.cell (World.block_lt_of_cell? w _ hx1_3)).trans hx1_3; replace hx1_4 := (HB.out.cell (World.block_lt_of_cell? w _ hx1_4)).trans hx1_4; replace hx1_5 := (HB.out.cell (World.block_lt_of_cell? w _ hx1_5)).trans hx1_5
        by_cases c12 : 0 < x
        ·obtain ⟨m, hm⟩ : ∃ m, x - 1 = m := ⟨_, rfl⟩
         have hmw : IntKind.i64.wrap (x - 1) = m := by rw [← hm]; exact IntWalk.i64_in _ (by have := HI.out.2.2; omega)
         have m0 : 0 ≤ m := by omega
         have m1 : m < (l0.length : Int) := by omega
         obtain ⟨ad2, e2, hx2_0, hx2_1, hx2_2, hx2_3, hx2_4, hx2_5⟩ := at_T30 HR0.out m m0 m1
         injection e2 with e2
         subst e2; have wx2_1 := hx2_1; have wx2_2 := hx2_2; clear hx2_0 hx2_1 hx2_2 hx2_3 hx2_4 hx2_5; have HF := Aside0.mk (show impl_RangesOK.fst l0 x = ((((rd_T30 l0 x).f1.toList != (rd_T30 l0 m).f2.toList)) || (Op.bytesLess (rd_T30 l0 x).f1.toList (rd_T30 l0 m).f1.toList || (rd_T30 l0 x).f1.toList == (rd_T30 l0 m).f1.toList)) from by unfold impl_RangesOK.fst; rw [hm, decide_eq_true c12]; rfl); have c12b : decide (0 < x) = true := decide_eq_true c12; have H' := Aside0.mk H; replace c10 := eq_true c10; replace c11 := eq_true c11; replace m0 := eq_true m0; replace m1 := eq_true m1; clear H c12 hm
         go_wp2
         obtain ⟨g2, hg2⟩ : ∃ g2, wr.heap.size = g2 := ⟨_, rfl⟩; obtain ⟨W2, hW2⟩ : ∃ W2, World.drew (wr.alloc (Obj.cells #[.int .i64 (rd_T30 l0 x).f0, .string (rd_T30 l0 x).f1, .string (rd_T30 l0 x).f2, .int .i64 (rd_T30 l0 x).f3, .int .i64 (rd_T30 l0 x).f4, .int .i64 (rd_T30 l0 x).f5] 30)) = W2 := ⟨_, rfl⟩
         have hbk : W2.heap[g2]? = some (.cells #[.int .i64 (rd_T30 l0 x).f0, .string (rd_T30 l0 x).f1, .string (rd_T30 l0 x).f2, .int .i64 (rd_T30 l0 x).f3, .int .i64 (rd_T30 l0 x).f4, .int .i64 (rd_T30 l0 x).f5] 30 (0, 0)) := by rw [← hW2, ← hg2]; exact heap_alloc_new wr _
         have y0 : W2.cell? ⟨g2, 0, none⟩ = some (.int .i64 (rd_T30 l0 x).f0) := by rw [impl_RangesOK.cell_of hbk]; rfl
         have y1 : W2.cell? ⟨g2, 1, none⟩ = some (.string (rd_T30 l0 x).f1) := by rw [impl_RangesOK.cell_of hbk]; rfl
         have y2 : W2.cell? ⟨g2, 2, none⟩ = some (.string (rd_T30 l0 x).f2) := by rw [impl_RangesOK.cell_of hbk]; rfl
         have y3 : W2.cell? ⟨g2, 3, none⟩ = some (.int .i64 (rd_T30 l0 x).f3) := by rw [impl_RangesOK.cell_of hbk]; rfl
         have y4 : W2.cell? ⟨g2, 4, none⟩ = some (.int .i64 (rd_T30 l0 x).f4) := by rw [impl_RangesOK.cell_of hbk]; rfl
         have y5 : W2.cell? ⟨g2, 5, none⟩ = some (.int .i64 (rd_T30 l0 x).f5) := by rw [impl_RangesOK.cell_of hbk]; rfl
         have HB2 := Aside0.mk (show Below w.heap.size w W2 from by rw [← hW2]; exact below_drew ((HB.out).alloc HB.out.size _)); have HM2 := Aside0.mk (show W2.ownsMap Try.prog 3 (plainElem Try.prog 4) g ids.length (impl_RangesOK.sd ids) from by rw [← hW2]; exact (HM.out.alloc _).drew); have z1 := (HB2.out.cell (World.block_lt_of_cell? w _ wx2_1)).trans wx2_1; have z2 := (HB2.out.cell (World.block_lt_of_cell? w _ wx2_2)).trans wx2_2; rw [hg2]; refine wp_region_still_lit (by kernel_rfl) (by kernel_rfl) ?_
         change wpStill _ _ (World.drew _) (fun a' => Exit.then _ _ _ a' (World.drew _)) _ _
         rw [hW2]; clear hW2 hbk hg2 hx1_0 hx1_1 hx1_2 hx1_3 hx1_4 hx1_5 wx2_1 wx2_2
         by_cases c13 : (rd_T30 l0 x).f1.toList = (rd_T30 l0 m).f2.toList
         ·have c13b : ((rd_T30 l0 x).f1.toList == (rd_T30 l0 m).f2.toList) = true := beq_iff_eq.mpr c13
          have c13c : ((rd_T30 l0 x).f1.toList != (rd_T30 l0 m).f2.toList) = false := bne_eq_false_iff_eq.mpr c13; clear c13; obtain ⟨b14, hb14⟩ : ∃ b, (Op.bytesLess (rd_T30 l0 x).f1.toList (rd_T30 l0 m).f1.toList || (rd_T30 l0 x).f1.toList == (rd_T30 l0 m).f1.toList) = b := ⟨_, rfl⟩
          have hle : binOp .leq 9 (.string (rd_T30 l0 x).f1) (.string (rd_T30 l0 m).f1) = pure (.bool b14) := by rw [impl_RangesOK.leq, hb14]
          have H := H'.out; clear H'; rw [HF.out, c13c, hb14] at H; have H' := Aside0.mk H; clear H; clear hb14
          repeat (first | (with_reducible refine wpStill_step (fun K hK => ?_); go_simp; with_reducible refine hK _ ?_; clear hK K) | (with_reducible refine impl_RangesOK.still_skip (by kernel_rfl) ?_; simp only [Act.put, List.setIfInBounds_toArray, List.set_cons_zero, List.set_cons_succ]))
          (with_reducible refine wpStill_nil ?_)
          cases b14 with
          | true =>
           have H := H'.out; cases H; clear H'
           go_wp2
           go_ret
           exact ⟨rfl, by first | exact HB2.out | (rw [← hg]; exact HB2.out)⟩
          | false =>
           have H := H'.out; rw [if_neg (by decide)] at H; clear H'; have H' := Aside0.mk H; clear H
           by_cases q1 : 4000 < (rd_T30 l0 x).f1.size
           ·have q1b := decide_eq_true q1
            have q1c : decide (4000 < ((rd_T30 l0 x).f1.size : Int)) = true := decide_eq_true (by omega); have H := H'.out; rw [if_pos (by unfold impl_RangesOK.snd; rw [q1b]; rfl)] at H; cases H; clear H'
            go_wp2
            go_ret
            exact ⟨rfl, by first | exact HB2.out | (rw [← hg]; exact HB2.out)⟩
           ·have q1b := decide_eq_false q1
            have q1c : decide (4000 < ((rd_T30 l0 x).f1.size : Int)) = false := decide_eq_false (by omega)
            by_cases q2 : 4000 < (rd_T30 l0 x).f2.size
            ·have q2b := decide_eq_true q2
             have q2c : decide (4000 < ((rd_T30 l0 x).f2.size : Int)) = true := decide_eq_true (by omega); have H := H'.out; rw [if_pos (by unfold impl_RangesOK.snd; rw [q1b, q2b]; rfl)] at H; cases H; clear H'
             go_wp2
             go_ret
             exact ⟨rfl, by first | exact HB2.out | (rw [← hg]; exact HB2.out)⟩
            ·have q2b := decide_eq_false q2
             have q2c : decide (4000 < ((rd_T30 l0 x).f2.size : Int)) = false := decide_eq_false (by omega)
             by_cases q3 : (rd_T30 l0 x).f0 < 1
             ·have q3b := decide_eq_true q3
              have H := H'.out; rw [if_pos (by unfold impl_RangesOK.snd; rw [q1b, q2b, q3b]; rfl)] at H; cases H; clear H'
              go_wp2
              go_ret
              exact ⟨rfl, by first | exact HB2.out | (rw [← hg]; exact HB2.out)⟩
             ·have q3b := decide_eq_false q3
              by_cases q4 : 1000000 < (rd_T30 l0 x).f0
              ·have q4b := decide_eq_true q4
               have H := H'.out; rw [if_pos (by unfold impl_RangesOK.snd; rw [q1b, q2b, q3b, q4b]; rfl)] at H; cases H; clear H'
               go_wp2
               go_ret
               exact ⟨rfl, by first | exact HB2.out | (rw [← hg]; exact HB2.out)⟩
              ·have q4b := decide_eq_false q4
               have hwf : (Lit.int .i64 (rd_T30 l0 x).f0).wf = true := by rw [show (Lit.int .i64 (rd_T30 l0 x).f0).wf = (decide (-9223372036854775808 ≤ (rd_T30 l0 x).f0) && decide ((rd_T30 l0 x).f0 ≤ 9223372036854775807)) from rfl, decide_eq_true (by omega), decide_eq_true (by omega)]; rfl
               have hlk := impl_RangesOK.look HM2.out (rd_T30 l0 x).f0 hwf
               by_cases q5 : (rd_T30 l0 x).f0 ∈ ids
               ·have q5b := decide_eq_true q5
                have H := H'.out; rw [if_pos (by unfold impl_RangesOK.snd; rw [q1b, q2b, q3b, q4b, q5b]; rfl)] at H; cases H; clear H'
                go_wp2
                go_ret
                exact ⟨rfl, by first | exact HB2.out | (rw [← hg]; exact HB2.out)⟩
               ·have q5b := decide_eq_false q5
                by_cases q6 : (rd_T30 l0 x).f3 < 1
                ·have q6b := decide_eq_true q6
                 have H := H'.out; rw [if_pos (by unfold impl_RangesOK.snd; rw [q1b, q2b, q3b, q4b, q5b, q6b]; rfl)] at H; cases H; clear H'
                 go_wp2
                 go_ret
                 exact ⟨rfl, by first | exact HB2.out | (rw [← hg]; exact HB2.out)⟩
                ·have q6b := decide_eq_false q6
                 by_cases q7 : 255 < (rd_T30 l0 x).f3
                 ·have q7b := decide_eq_true q7
                  have H := H'.out; rw [if_pos (by unfold impl_RangesOK.snd; rw [q1b, q2b, q3b, q4b, q5b, q6b, q7b]; rfl)] at H; cases H; clear H'
                  go_wp2
                  go_ret
                  exact ⟨rfl, by first | exact HB2.out | (rw [← hg]; exact HB2.out)⟩
                 ·have q7b := decide_eq_false q7
                  by_cases q8 : (rd_T30 l0 x).f4 < 0
                  ·have q8b := decide_eq_true q8
                   have H := H'.out; rw [if_pos (by unfold impl_RangesOK.snd; rw [q1b, q2b, q3b, q4b, q5b, q6b, q7b, q8b]; rfl)] at H; cases H; clear H'
                   go_wp2
                   go_ret
                   exact ⟨rfl, by first | exact HB2.out | (rw [← hg]; exact HB2.out)⟩
                  ·have q8b := decide_eq_false q8
                   by_cases q9 : 7 < (rd_T30 l0 x).f4
                   ·have q9b := decide_eq_true q9
                    have H := H'.out; rw [if_pos (by unfold impl_RangesOK.snd; rw [q1b, q2b, q3b, q4b, q5b, q6b, q7b, q8b, q9b]; rfl)] at H; cases H; clear H'
                    go_wp2
                    go_ret
                    exact ⟨rfl, by first | exact HB2.out | (rw [← hg]; exact HB2.out)⟩
                   ·have q9b := decide_eq_false q9
                    obtain ⟨sj, hsj⟩ : ∃ j, shr .i64 (rd_T30 l0 x).f3 (rd_T30 l0 x).f4 = j := ⟨_, rfl⟩; have hsj_ : (rd_T30 l0 x).f3 / 2 ^ min (rd_T30 l0 x).f4.toNat 64 = sj := hsj; have hsjz : (rd_T30 l0 x).f3 / 2 ^ (rd_T30 l0 x).f4.toNat = sj := shr_small hsj (by show (rd_T30 l0 x).f4 ≤ 64; omega); obtain ⟨sb, hsb⟩ : ∃ b, (Go.bits .and .i64 sj 1 == 0) = b := ⟨_, rfl⟩
                    have q8d : 0 ≤ (rd_T30 l0 x).f4 := by omega
                    cases sb with
                    | true =>
                     have H := H'.out; rw [if_pos (by unfold impl_RangesOK.snd; rw [q1b, q2b, q3b, q4b, q5b, q6b, q7b, q8b, q9b, hsj, hsb]; rfl)] at H; cases H; clear H'
                     go_wp2
                     go_ret
                     exact ⟨rfl, by first | exact HB2.out | (rw [← hg]; exact HB2.out)⟩
                    | false =>
                     by_cases qc : (rd_T30 l0 x).f5 < 1
                     ·have qcb := decide_eq_true qc
                      have H := H'.out; rw [if_pos (by unfold impl_RangesOK.snd; rw [q1b, q2b, q3b, q4b, q5b, q6b, q7b, q8b, q9b, hsj, hsb, qcb]; rfl)] at H; cases H; clear H'
                      go_wp2
                      go_ret
                      exact ⟨rfl, by first | exact HB2.out | (rw [← hg]; exact HB2.out)⟩
                     ·have qcb := decide_eq_false qc
                      by_cases qd : 1000000 < (rd_T30 l0 x).f5
                      ·have qdb := decide_eq_true qd
                       have H := H'.out; rw [if_pos (by unfold impl_RangesOK.snd; rw [q1b, q2b, q3b, q4b, q5b, q6b, q7b, q8b, q9b, hsj, hsb, qcb, qdb]; rfl)] at H; cases H; clear H'
                       go_wp2
                       go_ret
                       exact ⟨rfl, by first | exact HB2.out | (rw [← hg]; exact HB2.out)⟩
                      ·have qdb := decide_eq_false qd
                       have H := H'.out; rw [if_neg (by unfold impl_RangesOK.snd; rw [q1b, q2b, q3b, q4b, q5b, q6b, q7b, q8b, q9b, hsj, hsb, qcb, qdb]; decide)] at H; clear H'; have H' := Aside0.mk H; clear H
                       have hn9 : ids.length < maxLen := by have := HI.out; have := of_decide_eq_true c10b0; unfold maxLen; omega
                       go_wp2_with (first | (at_mapUpdate; refine wpList_mapUpdate_own _ rfl _ _ _ 64 rfl 3 4 impl_RangesOK.law Try.underlying64 _ g _ _ rfl HM2.out hn9 _ _ _ rfl rfl (Go.Maps.keyOf_int_mk Try.underlying3 hwf) _ [] (plainElem_bool Try.underlying4 true) ?_; intro w1 hown1 hgrow1; have HM3 := Aside0.mk hown1; have HB3 := Aside0.mk (HB2.out.grown hgrow1 HB2.out.size (fun j hj => by cases hj; exact Nat.le_of_eq hg)); clear hown1 hgrow1) | go_in)
                       go_roundg k3
                       case measure => have := HK3.out; omega
                       case rel => exact ⟨(rd_T30 l0 x).f0 :: ids, _, rfl, by first | exact H' | (rw [wrap64] ; exact H'), ⟨by have := HK3.out; omega⟩, ⟨by have k1 := HI.out; have k2 := of_decide_eq_true c10b0; have k3 : IntKind.i64.wrap (x + 1) = x + 1 := IntWalk.i64_in _ (by omega); rw [← i64_w, k3, List.length_cons]; omega⟩, HM3, HB3⟩
         ·have c13b : ((rd_T30 l0 x).f1.toList == (rd_T30 l0 m).f2.toList) = false := beq_eq_false_iff_ne.mpr c13
          have c13c : ((rd_T30 l0 x).f1.toList != (rd_T30 l0 m).f2.toList) = true := bne_iff_ne.mpr c13; clear c13; have H := H'.out; clear H'; rw [HF.out, c13c, if_pos (by rfl)] at H; cases H
          repeat (first | (with_reducible refine wpStill_step (fun K hK => ?_); go_simp; with_reducible refine hK _ ?_; clear hK K) | (with_reducible refine impl_RangesOK.still_skip (by kernel_rfl) ?_; simp only [Act.put, List.setIfInBounds_toArray, List.set_cons_zero, List.set_cons_succ]))
          (with_reducible refine wpStill_nil ?_)
          go_wp2
          go_ret
          exact ⟨rfl, by first | exact HB2.out | (rw [← hg]; exact HB2.out)⟩
        ·have HF := Aside0.mk (show impl_RangesOK.fst l0 x = false from by unfold impl_RangesOK.fst; rw [decide_eq_false c12]; rfl)
         have c12b : decide (0 < x) = false := decide_eq_false c12; have H' := Aside0.mk H; replace c10 := eq_true c10; replace c11 := eq_true c11; clear H c12
         go_wp2
         obtain ⟨g2, hg2⟩ : ∃ g2, wr.heap.size = g2 := ⟨_, rfl⟩; obtain ⟨W2, hW2⟩ : ∃ W2, World.drew (wr.alloc (Obj.cells #[.int .i64 (rd_T30 l0 x).f0, .string (rd_T30 l0 x).f1, .string (rd_T30 l0 x).f2, .int .i64 (rd_T30 l0 x).f3, .int .i64 (rd_T30 l0 x).f4, .int .i64 (rd_T30 l0 x).f5] 30)) = W2 := ⟨_, rfl⟩
         have hbk : W2.heap[g2]? = some (.cells #[.int .i64 (rd_T30 l0 x).f0, .string (rd_T30 l0 x).f1, .string (rd_T30 l0 x).f2, .int .i64 (rd_T30 l0 x).f3, .int .i64 (rd_T30 l0 x).f4, .int .i64 (rd_T30 l0 x).f5] 30 (0, 0)) := by rw [← hW2, ← hg2]; exact heap_alloc_new wr _
         have y0 : W2.cell? ⟨g2, 0, none⟩ = some (.int .i64 (rd_T30 l0 x).f0) := by rw [impl_RangesOK.cell_of hbk]; rfl
         have y1 : W2.cell? ⟨g2, 1, none⟩ = some (.string (rd_T30 l0 x).f1) := by rw [impl_RangesOK.cell_of hbk]; rfl
         have y2 : W2.cell? ⟨g2, 2, none⟩ = some (.string (rd_T30 l0 x).f2) := by rw [impl_RangesOK.cell_of hbk]; rfl
         have y3 : W2.cell? ⟨g2, 3, none⟩ = some (.int .i64 (rd_T30 l0 x).f3) := by rw [impl_RangesOK.cell_of hbk]; rfl
         have y4 : W2.cell? ⟨g2, 4, none⟩ = some (.int .i64 (rd_T30 l0 x).f4) := by rw [impl_RangesOK.cell_of hbk]; rfl
         have y5 : W2.cell? ⟨g2, 5, none⟩ = some (.int .i64 (rd_T30 l0 x).f5) := by rw [impl_RangesOK.cell_of hbk]; rfl
         have HB2 := Aside0.mk (show Below w.heap.size w W2 from by rw [← hW2]; exact below_drew ((HB.out).alloc HB.out.size _)); have HM2 := Aside0.mk (show W2.ownsMap Try.prog 3 (plainElem Try.prog 4) g ids.length (impl_RangesOK.sd ids) from by rw [← hW2]; exact (HM.out.alloc _).drew); rw [hg2]; refine wp_region_still_lit (by kernel_rfl) (by kernel_rfl) ?_
         change wpStill _ _ (World.drew _) (fun a' => Exit.then _ _ _ a' (World.drew _)) _ _
         rw [hW2]; clear hW2 hbk hg2 hx1_0 hx1_1 hx1_2 hx1_3 hx1_4 hx1_5; have H := H'.out; clear H'; rw [HF.out, if_neg (by decide)] at H; have H' := Aside0.mk H; clear H
         repeat (first | (with_reducible refine wpStill_step (fun K hK => ?_); go_simp; with_reducible refine hK _ ?_; clear hK K) | (with_reducible refine impl_RangesOK.still_skip (by kernel_rfl) ?_; simp only [Act.put, List.setIfInBounds_toArray, List.set_cons_zero, List.set_cons_succ]))
         (with_reducible refine wpStill_nil ?_)
         by_cases q1 : 4000 < (rd_T30 l0 x).f1.size
         ·have q1b := decide_eq_true q1
          have q1c : decide (4000 < ((rd_T30 l0 x).f1.size : Int)) = true := decide_eq_true (by omega); have H := H'.out; rw [if_pos (by unfold impl_RangesOK.snd; rw [q1b]; rfl)] at H; cases H; clear H'
          go_wp2
          go_ret
          exact ⟨rfl, by first | exact HB2.out | (rw [← hg]; exact HB2.out)⟩
         ·have q1b := decide_eq_false q1
          have q1c : decide (4000 < ((rd_T30 l0 x).f1.size : Int)) = false := decide_eq_false (by omega)
          by_cases q2 : 4000 < (rd_T30 l0 x).f2.size
          ·have q2b := decide_eq_true q2
           have q2c : decide (4000 < ((rd_T30 l0 x).f2.size : Int)) = true := decide_eq_true (by omega); have H := H'.out; rw [if_pos (by unfold impl_RangesOK.snd; rw [q1b, q2b]; rfl)] at H; cases H; clear H'
           go_wp2
           go_ret
           exact ⟨rfl, by first | exact HB2.out | (rw [← hg]; exact HB2.out)⟩
          ·have q2b := decide_eq_false q2
           have q2c : decide (4000 < ((rd_T30 l0 x).f2.size : Int)) = false := decide_eq_false (by omega)
           by_cases q3 : (rd_T30 l0 x).f0 < 1
           ·have q3b := decide_eq_true q3
            have H := H'.out; rw [if_pos (by unfold impl_RangesOK.snd; rw [q1b, q2b, q3b]; rfl)] at H; cases H; clear H'
            go_wp2
            go_ret
            exact ⟨rfl, by first | exact HB2.out | (rw [← hg]; exact HB2.out)⟩
           ·have q3b := decide_eq_false q3
            by_cases q4 : 1000000 < (rd_T30 l0 x).f0
            ·have q4b := decide_eq_true q4
             have H := H'.out; rw [if_pos (by unfold impl_RangesOK.snd; rw [q1b, q2b, q3b, q4b]; rfl)] at H; cases H; clear H'
             go_wp2
             go_ret
             exact ⟨rfl, by first | exact HB2.out | (rw [← hg]; exact HB2.out)⟩
            ·have q4b := decide_eq_false q4
             have hwf : (Lit.int .i64 (rd_T30 l0 x).f0).wf = true := by rw [show (Lit.int .i64 (rd_T30 l0 x).f0).wf = (decide (-9223372036854775808 ≤ (rd_T30 l0 x).f0) && decide ((rd_T30 l0 x).f0 ≤ 9223372036854775807)) from rfl, decide_eq_true (by omega), decide_eq_true (by omega)]; rfl
             have hlk := impl_RangesOK.look HM2.out (rd_T30 l0 x).f0 hwf
             by_cases q5 : (rd_T30 l0 x).f0 ∈ ids
             ·have q5b := decide_eq_true q5
              have H := H'.out; rw [if_pos (by unfold impl_RangesOK.snd; rw [q1b, q2b, q3b, q4b, q5b]; rfl)] at H; cases H; clear H'
              go_wp2
              go_ret
              exact ⟨rfl, by first | exact HB2.out | (rw [← hg]; exact HB2.out)⟩
             ·have q5b := decide_eq_false q5
              by_cases q6 : (rd_T30 l0 x).f3 < 1
              ·have q6b := decide_eq_true q6
               have H := H'.out; rw [if_pos (by unfold impl_RangesOK.snd; rw [q1b, q2b, q3b, q4b, q5b, q6b]; rfl)] at H; cases H; clear H'
               go_wp2
               go_ret
               exact ⟨rfl, by first | exact HB2.out | (rw [← hg]; exact HB2.out)⟩
              ·have q6b := decide_eq_false q6
               by_cases q7 : 255 < (rd_T30 l0 x).f3
               ·have q7b := decide_eq_true q7
                have H := H'.out; rw [if_pos (by unfold impl_RangesOK.snd; rw [q1b, q2b, q3b, q4b, q5b, q6b, q7b]; rfl)] at H; cases H; clear H'
                go_wp2
                go_ret
                exact ⟨rfl, by first | exact HB2.out | (rw [← hg]; exact HB2.out)⟩
               ·have q7b := decide_eq_false q7
                by_cases q8 : (rd_T30 l0 x).f4 < 0
                ·have q8b := decide_eq_true q8
                 have H := H'.out; rw [if_pos (by unfold impl_RangesOK.snd; rw [q1b, q2b, q3b, q4b, q5b, q6b, q7b, q8b]; rfl)] at H; cases H; clear H'
                 go_wp2
                 go_ret
                 exact ⟨rfl, by first | exact HB2.out | (rw [← hg]; exact HB2.out)⟩
                ·have q8b := decide_eq_false q8
                 by_cases q9 : 7 < (rd_T30 l0 x).f4
                 ·have q9b := decide_eq_true q9
                  have H := H'.out; rw [if_pos (by unfold impl_RangesOK.snd; rw [q1b, q2b, q3b, q4b, q5b, q6b, q7b, q8b, q9b]; rfl)] at H; cases H; clear H'
                  go_wp2
                  go_ret
                  exact ⟨rfl, by first | exact HB2.out | (rw [← hg]; exact HB2.out)⟩
                 ·have q9b := decide_eq_false q9
                  obtain ⟨sj, hsj⟩ : ∃ j, shr .i64 (rd_T30 l0 x).f3 (rd_T30 l0 x).f4 = j := ⟨_, rfl⟩; have hsj_ : (rd_T30 l0 x).f3 / 2 ^ min (rd_T30 l0 x).f4.toNat 64 = sj := hsj; have hsjz : (rd_T30 l0 x).f3 / 2 ^ (rd_T30 l0 x).f4.toNat = sj := shr_small hsj (by show (rd_T30 l0 x).f4 ≤ 64; omega); obtain ⟨sb, hsb⟩ : ∃ b, (Go.bits .and .i64 sj 1 == 0) = b := ⟨_, rfl⟩
                  have q8d : 0 ≤ (rd_T30 l0 x).f4 := by omega
                  cases sb with
                  | true =>
                   have H := H'.out; rw [if_pos (by unfold impl_RangesOK.snd; rw [q1b, q2b, q3b, q4b, q5b, q6b, q7b, q8b, q9b, hsj, hsb]; rfl)] at H; cases H; clear H'
                   go_wp2
                   go_ret
                   exact ⟨rfl, by first | exact HB2.out | (rw [← hg]; exact HB2.out)⟩
                  | false =>
                   by_cases qc : (rd_T30 l0 x).f5 < 1
                   ·have qcb := decide_eq_true qc
                    have H := H'.out; rw [if_pos (by unfold impl_RangesOK.snd; rw [q1b, q2b, q3b, q4b, q5b, q6b, q7b, q8b, q9b, hsj, hsb, qcb]; rfl)] at H; cases H; clear H'
                    go_wp2
                    go_ret
                    exact ⟨rfl, by first | exact HB2.out | (rw [← hg]; exact HB2.out)⟩
                   ·have qcb := decide_eq_false qc
                    by_cases qd : 1000000 < (rd_T30 l0 x).f5
                    ·have qdb := decide_eq_true qd
                     have H := H'.out; rw [if_pos (by unfold impl_RangesOK.snd; rw [q1b, q2b, q3b, q4b, q5b, q6b, q7b, q8b, q9b, hsj, hsb, qcb, qdb]; rfl)] at H; cases H; clear H'
                     go_wp2
                     go_ret
                     exact ⟨rfl, by first | exact HB2.out | (rw [← hg]; exact HB2.out)⟩
                    ·have qdb := decide_eq_false qd
                     have H := H'.out; rw [if_neg (by unfold impl_RangesOK.snd; rw [q1b, q2b, q3b, q4b, q5b, q6b, q7b, q8b, q9b, hsj, hsb, qcb, qdb]; decide)] at H; clear H'; have H' := Aside0.mk H; clear H
                     have hn9 : ids.length < maxLen := by have := HI.out; have := of_decide_eq_true c10b0; unfold maxLen; omega
                     go_wp2_with (first | (at_mapUpdate; refine wpList_mapUpdate_own _ rfl _ _ _ 64 rfl 3 4 impl_RangesOK.law Try.underlying64 _ g _ _ rfl HM2.out hn9 _ _ _ rfl rfl (Go.Maps.keyOf_int_mk Try.underlying3 hwf) _ [] (plainElem_bool Try.underlying4 true) ?_; intro w1 hown1 hgrow1; have HM3 := Aside0.mk hown1; have HB3 := Aside0.mk (HB2.out.grown hgrow1 HB2.out.size (fun j hj => by cases hj; exact Nat.le_of_eq hg)); clear hown1 hgrow1) | go_in)
                     go_roundg k3
                     case measure => have := HK3.out; omega
                     case rel => exact ⟨(rd_T30 l0 x).f0 :: ids, _, rfl, by first | exact H' | (rw [wrap64] ; exact H'), ⟨by have := HK3.out; omega⟩, ⟨by have k1 := HI.out; have k2 := of_decide_eq_true c10b0; have k3 : IntKind.i64.wrap (x + 1) = x + 1 := IntWalk.i64_in _ (by omega); rw [← i64_w, k3, List.length_cons]; omega⟩, HM3, HB3⟩
       ·rw [if_neg c10] at H
        have c10b0 : decide (x < (l0.length : Int)) = false := decide_eq_false c10; clear c10; obtain rfl := Option.some.inj H
        go_wp2
        go_ret
        exact ⟨rfl, by rw [← hg]; exact HB.out⟩
    ·rw [if_neg c4] at h
     cases h; have c4b : ((rd_T30 l0 m).f2.toList == ([] : List UInt8)) = false := beq_eq_false_iff_ne.mpr c4; have c4c : ((rd_T30 l0 m).f2.toList != ([] : List UInt8)) = true := bne_iff_ne.mpr c4; subst e1
     go_enter Try.func12, Try.ntmps12
     go_wp2
     go_ret
     exact ⟨rfl, HB.out⟩
   ·rw [if_neg c3] at h
    cases h; have c3b : ((rd_T30 l0 0).f1.toList == ([] : List UInt8)) = false := beq_eq_false_iff_ne.mpr c3; have c3c : ((rd_T30 l0 0).f1.toList != ([] : List UInt8)) = true := bne_iff_ne.mpr c3; subst e1
    go_enter Try.func12, Try.ntmps12
    go_wp2
    go_ret
    exact ⟨rfl, HB.out⟩


-- NOT PRINTED: function 24 (impl_RangeStep)

-- NOT PRINTED: function 6 (laws_FnExactRangeStep)

end Go.Proofs.Ytdgleppagokjhaa.QFnExactRangeStep
