/- The functions that the law reaches, each as a plain Lean function with the proof that the Go code comes to its answers: written by a program of this session. No condition. -/
import Derived.Test.YtkhkhcgjopnchaaQFnExactValueOKx0
import Derived.Test.YtkhkhcgjopnchaaQFnExactValueOKx1
import Derived.Test.YtkhkhcgjopnchaaQFnExactValueOKx2
namespace Go.Proofs.Ytkhkhcgjopnchaa.QFnExactValueOK
open Go.RowKit Go.Proofs.YtkhkhcgjopnchaaW.PrintWords Go.Proofs.YtkhkhcgjopnchaaW.PrintLast Go.Proofs.YtkhkhcgjopnchaaW.PrintMore
attribute [local go_sem] max2_int min2_int max_two min_two max_three min_three max_four min_four   -- for this text's walks alone
set_option linter.unusedVariables false
set_option linter.unusedSimpArgs false

attribute [local go_sem high] eqA23
/-! ### impl_ValueOK: function 17 -/
def impl_ValueOK.f (k : Nat) (a0_0 : Int) (a0_1 : Int) (a0_2 : Int) (a0_3 : ByteArray) : Option (Bool) := if a0_0 = 0 then (some (a0_1 == 0 && (a0_2 == 0 && (a0_3.toList == ([] : List UInt8))))) else (if a0_0 = 1 then (if a0_1 < 0 then (some false) else (if a0_1 > 1 then (some false) else (some (a0_2 == 0 && (a0_3.toList == ([] : List UInt8)))))) else (if a0_0 = 2 then (if a0_1 < (-1000000000000000) then (some false) else (if a0_1 > 1000000000000000 then (some false) else (some (a0_2 == 0 && (a0_3.toList == ([] : List UInt8)))))) else (if a0_0 = 3 then (if a0_1 < (-1000000000) then (some false) else (if a0_1 > 1000000000 then (some false) else (if a0_2 < 0 then (some false) else (if a0_2 > 6 then (some false) else (if a0_2 > 0 then (if (Int.tmod a0_1 10) = 0 then (some false) else (some (a0_3.toList == ([] : List UInt8)))) else (some (a0_3.toList == ([] : List UInt8)))))))) else (if a0_0 = 4 then (if (a0_3.size : Int) > 200 then (some false) else ((impl_printable.f k a0_3).bind fun t109 => (if t109 = true then (some (a0_1 == 0 && (a0_2 == 0))) else (some false)))) else (if a0_0 = 5 then (if a0_1 < 0 then (some false) else (if a0_1 > 3652058 then (some false) else (some (a0_2 == 0 && (a0_3.toList == ([] : List UInt8)))))) else (some false))))))
theorem impl_ValueOK.mono : ∀ a0 a1 a2 a3 k, LeO (impl_ValueOK.f k a0 a1 a2 a3) (impl_ValueOK.f (k + 1) a0 a1 a2 a3) := by
  intro a0 a1 a2 a3 k
  unfold impl_ValueOK.f
  repeat' first
      | (with_reducible exact impl_printable.mono _ _)
      | (with_reducible exact LeO.refl _)
      | (with_reducible exact LeO.none _)
      | (with_reducible refine LeO.ite ?_ ?_)
      | (with_reducible refine LeO.bind ?_ (fun _ => ?_))
      | exact impl_printable.mono _ _
      | exact LeO.none _
      | refine LeO.ite ?_ ?_
      | refine LeO.bind ?_ (fun _ => ?_)
theorem impl_ValueOK.vb {w W : World} (h : Below w.heap.size w W) (o : Obj) : Below w.heap.size w (W.alloc o) := h.alloc h.size o
set_option maxHeartbeats 8000000 in
set_option maxRecDepth 100000 in
theorem impl_ValueOK.k0 (k : Nat) (N S : Int) (s : ByteArray) (r : Bool) (w : World) (h : impl_ValueOK.f k 0 N S s = some r) :
    Calls Try.prog 17 #[.agg #[.int .i64 0, .int .i64 N, .int .i64 S, .string s]] w fun e w' => e = .returned (.bool r) ∧ Below w.heap.size w w' := by
  have H := Aside0.mk h
  clear h
  have hu := Try.underlying23
  go_enter Try.func17, Try.ntmps17
  go_wp2
  all_goals
    go_ret
    refine ⟨?_, ?_⟩
    · have h := H.out
      clear H
      first
      | (simp_all [impl_ValueOK.f]; done)
      | (simp (disch := omega) only [impl_ValueOK.f, if_pos, if_neg, Option.some.injEq] at h; simp only [if_true, if_false, Option.some.injEq] at h; subst h; simp; done)
      | (simp (disch := omega) only [impl_ValueOK.f, if_pos, if_neg] at h; simp only [if_true, if_false] at h; simp_all; done)
      | (unfold impl_ValueOK.f at h; repeat' split at h
         all_goals first | (exfalso; omega) | (simp_all; done) | (exfalso; simp_all; omega))
    · repeat (first | exact Below.refl _ _ | refine impl_ValueOK.vb ?_ _ | refine Below.setCell ?_ (by simp) _)
set_option maxHeartbeats 8000000 in
set_option maxRecDepth 100000 in
theorem impl_ValueOK.k1 (k : Nat) (N S : Int) (s : ByteArray) (r : Bool) (w : World) (h : impl_ValueOK.f k 1 N S s = some r) :
    Calls Try.prog 17 #[.agg #[.int .i64 1, .int .i64 N, .int .i64 S, .string s]] w fun e w' => e = .returned (.bool r) ∧ Below w.heap.size w w' := by
  have H := Aside0.mk h
  clear h
  have hu := Try.underlying23
  go_enter Try.func17, Try.ntmps17
  go_wp2
  all_goals
    go_ret
    refine ⟨?_, ?_⟩
    · have h := H.out
      clear H
      first
      | (simp_all [impl_ValueOK.f]; done)
      | (simp (disch := omega) only [impl_ValueOK.f, if_pos, if_neg, Option.some.injEq] at h; simp only [if_true, if_false, Option.some.injEq] at h; subst h; simp; done)
      | (simp (disch := omega) only [impl_ValueOK.f, if_pos, if_neg] at h; simp only [if_true, if_false] at h; simp_all; done)
      | (unfold impl_ValueOK.f at h; repeat' split at h
         all_goals first | (exfalso; omega) | (simp_all; done) | (exfalso; simp_all; omega))
    · repeat (first | exact Below.refl _ _ | refine impl_ValueOK.vb ?_ _ | refine Below.setCell ?_ (by simp) _)
set_option maxHeartbeats 8000000 in
set_option maxRecDepth 100000 in
theorem impl_ValueOK.k2 (k : Nat) (N S : Int) (s : ByteArray) (r : Bool) (w : World) (h : impl_ValueOK.f k 2 N S s = some r) :
    Calls Try.prog 17 #[.agg #[.int .i64 2, .int .i64 N, .int .i64 S, .string s]] w fun e w' => e = .returned (.bool r) ∧ Below w.heap.size w w' := by
  have H := Aside0.mk h
  clear h
  have hu := Try.underlying23
  go_enter Try.func17, Try.ntmps17
  go_wp2
  all_goals
    go_ret
    refine ⟨?_, ?_⟩
    · have h := H.out
      clear H
      first
      | (simp_all [impl_ValueOK.f]; done)
      | (simp (disch := omega) only [impl_ValueOK.f, if_pos, if_neg, Option.some.injEq] at h; simp only [if_true, if_false, Option.some.injEq] at h; subst h; simp; done)
      | (simp (disch := omega) only [impl_ValueOK.f, if_pos, if_neg] at h; simp only [if_true, if_false] at h; simp_all; done)
      | (unfold impl_ValueOK.f at h; repeat' split at h
         all_goals first | (exfalso; omega) | (simp_all; done) | (exfalso; simp_all; omega))
    · repeat (first | exact Below.refl _ _ | refine impl_ValueOK.vb ?_ _ | refine Below.setCell ?_ (by simp) _)
set_option maxHeartbeats 8000000 in
set_option maxRecDepth 100000 in
theorem impl_ValueOK.k3 (k : Nat) (N S : Int) (s : ByteArray) (r : Bool) (w : World) (h : impl_ValueOK.f k 3 N S s = some r) :
    Calls Try.prog 17 #[.agg #[.int .i64 3, .int .i64 N, .int .i64 S, .string s]] w fun e w' => e = .returned (.bool r) ∧ Below w.heap.size w w' := by
  have H := Aside0.mk h
  clear h
  have hu := Try.underlying23
  go_enter Try.func17, Try.ntmps17
  go_wp2
  all_goals
    go_ret
    refine ⟨?_, ?_⟩
    · have h := H.out
      clear H
      first
      | (simp_all [impl_ValueOK.f]; done)
      | (simp (disch := omega) only [impl_ValueOK.f, if_pos, if_neg, Option.some.injEq] at h; simp only [if_true, if_false, Option.some.injEq] at h; subst h; simp; done)
      | (simp (disch := omega) only [impl_ValueOK.f, if_pos, if_neg] at h; simp only [if_true, if_false] at h; simp_all; done)
      | (unfold impl_ValueOK.f at h; repeat' split at h
         all_goals first | (exfalso; omega) | (simp_all; done) | (exfalso; simp_all; omega))
    · repeat (first | exact Below.refl _ _ | refine impl_ValueOK.vb ?_ _ | refine Below.setCell ?_ (by simp) _)
set_option maxHeartbeats 8000000 in
set_option maxRecDepth 100000 in
theorem impl_ValueOK.k5 (k : Nat) (N S : Int) (s : ByteArray) (r : Bool) (w : World) (h : impl_ValueOK.f k 5 N S s = some r) :
    Calls Try.prog 17 #[.agg #[.int .i64 5, .int .i64 N, .int .i64 S, .string s]] w fun e w' => e = .returned (.bool r) ∧ Below w.heap.size w w' := by
  have H := Aside0.mk h
  clear h
  have hu := Try.underlying23
  go_enter Try.func17, Try.ntmps17
  go_wp2
  all_goals
    go_ret
    refine ⟨?_, ?_⟩
    · have h := H.out
      clear H
      first
      | (simp_all [impl_ValueOK.f]; done)
      | (simp (disch := omega) only [impl_ValueOK.f, if_pos, if_neg, Option.some.injEq] at h; simp only [if_true, if_false, Option.some.injEq] at h; subst h; simp; done)
      | (simp (disch := omega) only [impl_ValueOK.f, if_pos, if_neg] at h; simp only [if_true, if_false] at h; simp_all; done)
      | (unfold impl_ValueOK.f at h; repeat' split at h
         all_goals first | (exfalso; omega) | (simp_all; done) | (exfalso; simp_all; omega))
    · repeat (first | exact Below.refl _ _ | refine impl_ValueOK.vb ?_ _ | refine Below.setCell ?_ (by simp) _)
set_option maxHeartbeats 8000000 in
set_option maxRecDepth 100000 in
theorem impl_ValueOK.k4 (k : Nat) (N S : Int) (s : ByteArray) (r : Bool) (w : World) (h : impl_ValueOK.f k 4 N S s = some r) :
    Calls Try.prog 17 #[.agg #[.int .i64 4, .int .i64 N, .int .i64 S, .string s]] w fun e w' => e = .returned (.bool r) ∧ Below w.heap.size w w' := by
  have hu := Try.underlying23
  simp only [impl_ValueOK.f] at h
  rw [if_neg (by omega), if_neg (by omega), if_neg (by omega), if_neg (by omega), if_pos (by trivial)] at h
  by_cases c : (s.size : Int) > 200
  · rw [if_pos c] at h
    obtain rfl := Option.some.inj h
    clear h
    have c' : 200 < s.size := by omega
    clear c
    go_enter Try.func17, Try.ntmps17
    go_wp2_with fail
    go_ret
    refine ⟨rfl, ?_⟩
    repeat (first | exact Below.refl _ _ | refine impl_ValueOK.vb ?_ _ | refine Below.setCell ?_ (by simp) _)
  · rw [if_neg c] at h
    have c' : ¬ 200 < s.size := by omega
    have c1 : decide (200 < (s.size : Int)) = false := decide_eq_false (by omega)
    have c2 : decide (200 < s.size) = false := decide_eq_false c'
    clear c
    obtain ⟨t, hp, h⟩ := Option.bind_eq_some_iff.mp h
    have HP := Aside0.mk hp
    clear hp
    cases t with
    | true =>
      rw [if_pos rfl] at h
      obtain rfl := Option.some.inj h
      clear h
      go_enter Try.func17, Try.ntmps17
      go_wp2_with (go_at_call 33; refine (impl_printable.calls k s true _ HP.out).mono ?_; rintro e w' ⟨rfl, hd⟩; obtain ⟨nd, rfl⟩ := hd.out)
      go_ret
      refine ⟨by simp, ?_⟩
      repeat (first | exact Below.refl _ _ | refine impl_ValueOK.vb ?_ _ | refine Below.setCell ?_ (by simp) _ | refine pw_below_drewN ?_ _)
    | false =>
      rw [if_neg (by simp)] at h
      obtain rfl := Option.some.inj h
      clear h
      go_enter Try.func17, Try.ntmps17
      go_wp2_with (go_at_call 33; refine (impl_printable.calls k s false _ HP.out).mono ?_; rintro e w' ⟨rfl, hd⟩; obtain ⟨nd, rfl⟩ := hd.out)
      go_ret
      refine ⟨rfl, ?_⟩
      repeat (first | exact Below.refl _ _ | refine impl_ValueOK.vb ?_ _ | refine Below.setCell ?_ (by simp) _ | refine pw_below_drewN ?_ _)
set_option maxHeartbeats 8000000 in
set_option maxRecDepth 100000 in
theorem impl_ValueOK.kx (k : Nat) (K N S : Int) (s : ByteArray) (r : Bool) (w : World) (k0 : K ≠ 0) (k1 : K ≠ 1) (k2 : K ≠ 2) (k3 : K ≠ 3) (k4 : K ≠ 4) (k5 : K ≠ 5) (h : impl_ValueOK.f k K N S s = some r) :
    Calls Try.prog 17 #[.agg #[.int .i64 K, .int .i64 N, .int .i64 S, .string s]] w fun e w' => e = .returned (.bool r) ∧ Below w.heap.size w w' := by
  have hu := Try.underlying23
  simp only [impl_ValueOK.f] at h
  rw [if_neg k0, if_neg k1, if_neg k2, if_neg k3, if_neg k4, if_neg k5] at h
  obtain rfl := Option.some.inj h
  clear h
  have h0 : (K == 0) = false := beq_eq_false_iff_ne.mpr k0
  have h1 : (K == 1) = false := beq_eq_false_iff_ne.mpr k1
  have h2 : (K == 2) = false := beq_eq_false_iff_ne.mpr k2
  have h3 : (K == 3) = false := beq_eq_false_iff_ne.mpr k3
  have h4 : (K == 4) = false := beq_eq_false_iff_ne.mpr k4
  have h5 : (K == 5) = false := beq_eq_false_iff_ne.mpr k5
  clear k0 k1 k2 k3 k4 k5
  go_enter Try.func17, Try.ntmps17
  go_wp2
  go_ret
  refine ⟨rfl, ?_⟩
  repeat (first | exact Below.refl _ _ | refine impl_ValueOK.vb ?_ _ | refine Below.setCell ?_ (by simp) _)
theorem impl_ValueOK.calls (k : Nat) (a0_0 : Int) (a0_1 : Int) (a0_2 : Int) (a0_3 : ByteArray) (r : Bool) (w : World) (h : impl_ValueOK.f k a0_0 a0_1 a0_2 a0_3 = some r) :
    Calls Try.prog 17 #[.agg #[.int .i64 a0_0, .int .i64 a0_1, .int .i64 a0_2, .string a0_3]] w fun e w' => e = .returned (.bool r) ∧ Below w.heap.size w w' := by
  by_cases k0 : a0_0 = 0
  · subst k0; exact impl_ValueOK.k0 k a0_1 a0_2 a0_3 r w h
  · by_cases k1 : a0_0 = 1
    · subst k1; exact impl_ValueOK.k1 k a0_1 a0_2 a0_3 r w h
    · by_cases k2 : a0_0 = 2
      · subst k2; exact impl_ValueOK.k2 k a0_1 a0_2 a0_3 r w h
      · by_cases k3 : a0_0 = 3
        · subst k3; exact impl_ValueOK.k3 k a0_1 a0_2 a0_3 r w h
        · by_cases k4 : a0_0 = 4
          · subst k4; exact impl_ValueOK.k4 k a0_1 a0_2 a0_3 r w h
          · by_cases k5 : a0_0 = 5
            · subst k5; exact impl_ValueOK.k5 k a0_1 a0_2 a0_3 r w h
            · exact impl_ValueOK.kx k a0_0 a0_1 a0_2 a0_3 r w k0 k1 k2 k3 k4 k5 h


/-! ### laws_FnExactValueOK: function 5 -/
def laws_FnExactValueOK.f (k : Nat) (a0_0 : Int) (a0_1 : Int) (a0_2 : Int) (a0_3 : ByteArray) : Option (Bool) := (laws_szValue.f a0_0 a0_1 a0_2 a0_3 1048576).bind fun t108 => (if t108 < 0 then (some true) else ((laws_toValue.f a0_0 a0_1 a0_2 a0_3).bind fun bt109 => ((spec_ValueOK.f k bt109.1 bt109.2.1 bt109.2.2.1 bt109.2.2.2).bind fun t113 => ((laws_toValue.f a0_0 a0_1 a0_2 a0_3).bind fun bt114 => ((impl_ValueOK.f k bt114.1 bt114.2.1 bt114.2.2.1 bt114.2.2.2).bind fun t118 => (if (t118 != t113) = true then (some false) else (some true)))))))
theorem laws_FnExactValueOK.mono : ∀ a0 a1 a2 a3 k, LeO (laws_FnExactValueOK.f k a0 a1 a2 a3) (laws_FnExactValueOK.f (k + 1) a0 a1 a2 a3) := by
  intro a0 a1 a2 a3 k
  unfold laws_FnExactValueOK.f
  repeat' first
      | (with_reducible exact impl_ValueOK.mono _ _ _ _ _)
      | (with_reducible exact spec_ValueOK.mono _ _ _ _ _)
      | (with_reducible exact LeO.refl _)
      | (with_reducible exact LeO.none _)
      | (with_reducible refine LeO.ite ?_ ?_)
      | (with_reducible refine LeO.bind ?_ (fun _ => ?_))
      | exact impl_ValueOK.mono _ _ _ _ _
      | exact spec_ValueOK.mono _ _ _ _ _
      | exact LeO.none _
      | refine LeO.ite ?_ ?_
      | refine LeO.bind ?_ (fun _ => ?_)
set_option maxHeartbeats 8000000 in
set_option maxRecDepth 100000 in
theorem laws_FnExactValueOK.calls (k : Nat) (a0_0 : Int) (a0_1 : Int) (a0_2 : Int) (a0_3 : ByteArray) (r : Bool) (w : World) (h : laws_FnExactValueOK.f k a0_0 a0_1 a0_2 a0_3 = some r) (ht_ : r = true) :
    Calls Try.prog 5 #[.agg #[.int .i64 a0_0, .int .i64 a0_1, .int .i64 a0_2, .string a0_3]] w fun e w' => e = .returned (.bool r) ∧ Below w.heap.size w w' := by
  have hu28 := Try.underlying28
  have HB := Aside0.mk (Below.refl w.heap.size w)
  have HT9_ := Aside0.mk ht_
  clear ht_
  have H : ((laws_szValue.f a0_0 a0_1 a0_2 a0_3 1048576).bind fun t108 => (if t108 < 0 then (some true) else ((laws_toValue.f a0_0 a0_1 a0_2 a0_3).bind fun bt109 => ((spec_ValueOK.f k bt109.1 bt109.2.1 bt109.2.2.1 bt109.2.2.2).bind fun t113 => ((laws_toValue.f a0_0 a0_1 a0_2 a0_3).bind fun bt114 => ((impl_ValueOK.f k bt114.1 bt114.2.1 bt114.2.2.1 bt114.2.2.2).bind fun t118 => (if (t118 != t113) = true then (some false) else (some true)))))))) = some r := h
  clear h
  replace H := Option.bind_eq_some_iff.mp H
  obtain ⟨t108, A20, H⟩ := H
  replace H : (if t108 < 0 then (some true) else ((laws_toValue.f a0_0 a0_1 a0_2 a0_3).bind fun bt109 => ((spec_ValueOK.f k bt109.1 bt109.2.1 bt109.2.2.1 bt109.2.2.2).bind fun t113 => ((laws_toValue.f a0_0 a0_1 a0_2 a0_3).bind fun bt114 => ((impl_ValueOK.f k bt114.1 bt114.2.1 bt114.2.2.1 bt114.2.2.2).bind fun t118 => (if (t118 != t113) = true then (some false) else (some true))))))) = some r := H
  have A2 := Aside0.mk A20
  clear A20
  by_cases c3 : t108 < 0
  · rw [if_pos c3] at H
    have c3b0 : decide (t108 < 0) = true := decide_eq_true c3
    clear c3
    obtain rfl := Option.some.inj H
    go_enter Try.func5, Try.ntmps5
    go_wp2_with (first | ((with_reducible refine gate_dst (N := 1) rfl ?_); refine box_event ?hg (N := 1) ?hd (cs := #[.int .i64 a0_0, .int .i64 a0_1, .int .i64 a0_2, .string a0_3]) (t := 28) ?hr ?_; (case hd => rfl); (case hg => rfl); (case hr => first | (go_simp; done) | (go_simp; rfl)); intro gb107 hg w4 hbox hb; have n0_ := Aside0.mk (below_step (by repeat (first | (with_reducible first | exact HB.out | apply below_alloc | apply pw_below_drewN | apply below_drew1) | exact HB.out)) hb); have n1_ := Aside0.mk (hbox); have n2_ := Aside0.mk ((by rw [hg]; exact (below_size (by repeat (first | (with_reducible first | exact HB.out | apply below_alloc | apply pw_below_drewN | apply below_drew1) | exact HB.out))) : w.heap.size ≤ gb107)); have n3_ := Aside0.mk ((by rw [hg]; exact (below_size (by repeat (first | (with_reducible first | exact HB.out | apply below_alloc | apply pw_below_drewN | apply below_drew1) | exact HB.out))) : w.heap.size ≤ gb107)); clear HB; have HB := n0_; have BK107 := n1_; have GW107 := n2_; have GE107 := n3_; clear n0_ n1_ n2_ n3_; clear hb hbox hg; have hcz5_0 : w4.cell? ⟨gb107, 0, none⟩ = some (.int .i64 a0_0) := (blk_cell BK107.out 0).trans rfl; have hcz5_1 : w4.cell? ⟨gb107, 1, none⟩ = some (.int .i64 a0_1) := (blk_cell BK107.out 1).trans rfl; have hcz5_2 : w4.cell? ⟨gb107, 2, none⟩ = some (.int .i64 a0_2) := (blk_cell BK107.out 2).trans rfl; have hcz5_3 : w4.cell? ⟨gb107, 3, none⟩ = some (.string a0_3) := (blk_cell BK107.out 3).trans rfl; have hfz5_0 := blk_frozen BK107.out 0; have hfz5_1 := blk_frozen BK107.out 1; have hfz5_2 := blk_frozen BK107.out 2; have hfz5_3 := blk_frozen BK107.out 3) | ((with_reducible refine gate_callee (f := 12) rfl ?_); refine goesL_ (some 8) rfl rfl Try.func12 (by kernel_rfl) rfl #[.agg #[.int .i64 a0_0, .int .i64 a0_1, .int .i64 a0_2, .string a0_3], .int .i64 1048576] rfl (by (try simp only [List.map_toArray, List.map_cons, List.map_nil]); first | done | rfl | (simp only [List.length_drop, List.length_take]; rfl)) ?_; (with_reducible refine (laws_szValue.calls a0_0 a0_1 a0_2 a0_3 1048576 t108 _ A2.out).mono ?_); rintro e w6 ⟨rfl, hb⟩; refine ⟨_, rfl, ?_⟩; have n0_ := Aside0.mk (blk_below (g := gb107) (o := .cells #[.int .i64 a0_0, .int .i64 a0_1, .int .i64 a0_2, .string a0_3] 28 (0, 0)) (by (with_reducible repeat (first | refine blk_drewN ?_ _ | refine blk_drew ?_ | refine blk_alloc ?_ _)); exact BK107.out) hb); have n1_ := Aside0.mk (below_step (by repeat (first | (with_reducible first | exact HB.out | apply below_alloc | apply pw_below_drewN | apply below_drew1 | refine below_set ?_ GE107.out) | exact HB.out)) hb); clear BK107; clear HB; have BK107 := n0_; have HB := n1_; clear n0_ n1_; (try clear hb); (try clear hb2); (try clear hk); (try clear hi)))
    go_ret
    exact ⟨by first | rfl | (simp [errW_none, errW_some] <;> rfl) | (simp [*, errW_none, errW_some] <;> rfl), by repeat (first | (with_reducible first | exact HB.out | apply below_alloc | apply pw_below_drewN | apply below_drew1 | refine below_set ?_ GE107.out) | exact HB.out)⟩
  · rw [if_neg c3] at H
    have c3b0 : decide (t108 < 0) = false := decide_eq_false c3
    clear c3
    replace H := Option.bind_eq_some_iff.mp H
    obtain ⟨⟨t109, t110, t111, t112⟩, A70, H⟩ := H
    replace H : ((spec_ValueOK.f k t109 t110 t111 t112).bind fun t113 => ((laws_toValue.f a0_0 a0_1 a0_2 a0_3).bind fun bt114 => ((impl_ValueOK.f k bt114.1 bt114.2.1 bt114.2.2.1 bt114.2.2.2).bind fun t118 => (if (t118 != t113) = true then (some false) else (some true))))) = some r := H
    have A7 := Aside0.mk A70
    clear A70
    replace H := Option.bind_eq_some_iff.mp H
    obtain ⟨t113, A80, H⟩ := H
    replace H : ((laws_toValue.f a0_0 a0_1 a0_2 a0_3).bind fun bt114 => ((impl_ValueOK.f k bt114.1 bt114.2.1 bt114.2.2.1 bt114.2.2.2).bind fun t118 => (if (t118 != t113) = true then (some false) else (some true)))) = some r := H
    have A8 := Aside0.mk A80
    clear A80
    replace H := Option.bind_eq_some_iff.mp H
    obtain ⟨⟨t114, t115, t116, t117⟩, A90, H⟩ := H
    replace H : ((impl_ValueOK.f k t114 t115 t116 t117).bind fun t118 => (if (t118 != t113) = true then (some false) else (some true))) = some r := H
    have A9 := Aside0.mk A90
    clear A90
    replace H := Option.bind_eq_some_iff.mp H
    obtain ⟨t118, A100, H⟩ := H
    replace H : (if (t118 != t113) = true then (some false) else (some true)) = some r := H
    have A10 := Aside0.mk A100
    clear A100
    by_cases c11 : (t118 != t113) = true
    · rw [if_pos c11] at H
      have c11b0 : (t118 != t113) = true := c11
      (try (have c11b1 : decide (t118 = t113) = false := by simpa using c11))
      (try (have c11b2 : (t118 == t113) = false := by simpa using c11))
      (try (have c11b3 : ¬ (t118 = t113) := by simpa using c11))
      clear c11
      exact absurd (Option.some.inj H) (by rw [HT9_.out]; decide)
    · rw [if_neg c11] at H
      have c11b0 : (t118 != t113) = false := by simpa using c11
      (try (have c11b1 : decide (t118 = t113) = true := by simpa using c11))
      (try (have c11b2 : (t118 == t113) = true := by simpa using c11))
      clear c11
      obtain rfl := Option.some.inj H
      go_enter Try.func5, Try.ntmps5
      go_wp2_with (first | ((with_reducible refine gate_dst (N := 1) rfl ?_); refine box_event ?hg (N := 1) ?hd (cs := #[.int .i64 a0_0, .int .i64 a0_1, .int .i64 a0_2, .string a0_3]) (t := 28) ?hr ?_; (case hd => rfl); (case hg => rfl); (case hr => first | (go_simp; done) | (go_simp; rfl)); intro gb107 hg w12 hbox hb; have n0_ := Aside0.mk (below_step (by repeat (first | (with_reducible first | exact HB.out | apply below_alloc | apply pw_below_drewN | apply below_drew1) | exact HB.out)) hb); have n1_ := Aside0.mk (hbox); have n2_ := Aside0.mk ((by rw [hg]; exact (below_size (by repeat (first | (with_reducible first | exact HB.out | apply below_alloc | apply pw_below_drewN | apply below_drew1) | exact HB.out))) : w.heap.size ≤ gb107)); have n3_ := Aside0.mk ((by rw [hg]; exact (below_size (by repeat (first | (with_reducible first | exact HB.out | apply below_alloc | apply pw_below_drewN | apply below_drew1) | exact HB.out))) : w.heap.size ≤ gb107)); clear HB; have HB := n0_; have BK107 := n1_; have GW107 := n2_; have GE107 := n3_; clear n0_ n1_ n2_ n3_; clear hb hbox hg; have hcz13_0 : w12.cell? ⟨gb107, 0, none⟩ = some (.int .i64 a0_0) := (blk_cell BK107.out 0).trans rfl; have hcz13_1 : w12.cell? ⟨gb107, 1, none⟩ = some (.int .i64 a0_1) := (blk_cell BK107.out 1).trans rfl; have hcz13_2 : w12.cell? ⟨gb107, 2, none⟩ = some (.int .i64 a0_2) := (blk_cell BK107.out 2).trans rfl; have hcz13_3 : w12.cell? ⟨gb107, 3, none⟩ = some (.string a0_3) := (blk_cell BK107.out 3).trans rfl; have hfz13_0 := blk_frozen BK107.out 0; have hfz13_1 := blk_frozen BK107.out 1; have hfz13_2 := blk_frozen BK107.out 2; have hfz13_3 := blk_frozen BK107.out 3) | ((with_reducible refine gate_callee (f := 12) rfl ?_); refine goesL_ (some 8) rfl rfl Try.func12 (by kernel_rfl) rfl #[.agg #[.int .i64 a0_0, .int .i64 a0_1, .int .i64 a0_2, .string a0_3], .int .i64 1048576] rfl (by (try simp only [List.map_toArray, List.map_cons, List.map_nil]); first | done | rfl | (simp only [List.length_drop, List.length_take]; rfl)) ?_; (with_reducible refine (laws_szValue.calls a0_0 a0_1 a0_2 a0_3 1048576 t108 _ A2.out).mono ?_); rintro e w14 ⟨rfl, hb⟩; refine ⟨_, rfl, ?_⟩; have n0_ := Aside0.mk (blk_below (g := gb107) (o := .cells #[.int .i64 a0_0, .int .i64 a0_1, .int .i64 a0_2, .string a0_3] 28 (0, 0)) (by (with_reducible repeat (first | refine blk_drewN ?_ _ | refine blk_drew ?_ | refine blk_alloc ?_ _)); exact BK107.out) hb); have n1_ := Aside0.mk (below_step (by repeat (first | (with_reducible first | exact HB.out | apply below_alloc | apply pw_below_drewN | apply below_drew1 | refine below_set ?_ GE107.out) | exact HB.out)) hb); clear BK107; clear HB; have BK107 := n0_; have HB := n1_; clear n0_ n1_; (try clear hb); (try clear hb2); (try clear hk); (try clear hi); have hcz15_0 : w14.cell? ⟨gb107, 0, none⟩ = some (.int .i64 a0_0) := (blk_cell BK107.out 0).trans rfl; have hcz15_1 : w14.cell? ⟨gb107, 1, none⟩ = some (.int .i64 a0_1) := (blk_cell BK107.out 1).trans rfl; have hcz15_2 : w14.cell? ⟨gb107, 2, none⟩ = some (.int .i64 a0_2) := (blk_cell BK107.out 2).trans rfl; have hcz15_3 : w14.cell? ⟨gb107, 3, none⟩ = some (.string a0_3) := (blk_cell BK107.out 3).trans rfl; have hfz15_0 := blk_frozen BK107.out 0; have hfz15_1 := blk_frozen BK107.out 1; have hfz15_2 := blk_frozen BK107.out 2; have hfz15_3 := blk_frozen BK107.out 3) | ((with_reducible refine gate_callee (f := 14) rfl ?_); refine goesL_ (some 12) rfl rfl Try.func14 (by kernel_rfl) rfl #[.agg #[.int .i64 a0_0, .int .i64 a0_1, .int .i64 a0_2, .string a0_3]] rfl (by (try simp only [List.map_toArray, List.map_cons, List.map_nil]); first | done | rfl | (simp only [List.length_drop, List.length_take]; rfl)) ?_; (with_reducible refine (laws_toValue.calls a0_0 a0_1 a0_2 a0_3 t109 t110 t111 t112 _ A7.out).mono ?_); rintro e w16 ⟨rfl, hb⟩; refine ⟨_, rfl, ?_⟩; have n0_ := Aside0.mk (blk_below (g := gb107) (o := .cells #[.int .i64 a0_0, .int .i64 a0_1, .int .i64 a0_2, .string a0_3] 28 (0, 0)) (by (with_reducible repeat (first | refine blk_drewN ?_ _ | refine blk_drew ?_ | refine blk_alloc ?_ _)); exact BK107.out) hb); have n1_ := Aside0.mk (below_step (by repeat (first | (with_reducible first | exact HB.out | apply below_alloc | apply pw_below_drewN | apply below_drew1 | refine below_set ?_ GE107.out) | exact HB.out)) hb); clear BK107; clear HB; have BK107 := n0_; have HB := n1_; clear n0_ n1_; (try clear hb); (try clear hb2); (try clear hk); (try clear hi)) | ((with_reducible refine gate_callee (f := 16) rfl ?_); refine goesL_ (some 13) rfl rfl Try.func16 (by kernel_rfl) rfl #[.agg #[.int .i64 t109, .int .i64 t110, .int .i64 t111, .string t112]] rfl (by (try simp only [List.map_toArray, List.map_cons, List.map_nil]); first | done | rfl | (simp only [List.length_drop, List.length_take]; rfl)) ?_; (with_reducible refine (spec_ValueOK.calls k t109 t110 t111 t112 t113 _ A8.out).mono ?_); rintro e w17 ⟨rfl, hb⟩; refine ⟨_, rfl, ?_⟩; have n0_ := Aside0.mk (blk_below (g := gb107) (o := .cells #[.int .i64 a0_0, .int .i64 a0_1, .int .i64 a0_2, .string a0_3] 28 (0, 0)) (by (with_reducible repeat (first | refine blk_drewN ?_ _ | refine blk_drew ?_ | refine blk_alloc ?_ _)); exact BK107.out) hb); have n1_ := Aside0.mk (below_step (by repeat (first | (with_reducible first | exact HB.out | apply below_alloc | apply pw_below_drewN | apply below_drew1 | refine below_set ?_ GE107.out) | exact HB.out)) hb); clear BK107; clear HB; have BK107 := n0_; have HB := n1_; clear n0_ n1_; (try clear hb); (try clear hb2); (try clear hk); (try clear hi); have hcz18_0 : w17.cell? ⟨gb107, 0, none⟩ = some (.int .i64 a0_0) := (blk_cell BK107.out 0).trans rfl; have hcz18_1 : w17.cell? ⟨gb107, 1, none⟩ = some (.int .i64 a0_1) := (blk_cell BK107.out 1).trans rfl; have hcz18_2 : w17.cell? ⟨gb107, 2, none⟩ = some (.int .i64 a0_2) := (blk_cell BK107.out 2).trans rfl; have hcz18_3 : w17.cell? ⟨gb107, 3, none⟩ = some (.string a0_3) := (blk_cell BK107.out 3).trans rfl; have hfz18_0 := blk_frozen BK107.out 0; have hfz18_1 := blk_frozen BK107.out 1; have hfz18_2 := blk_frozen BK107.out 2; have hfz18_3 := blk_frozen BK107.out 3) | ((with_reducible refine gate_callee (f := 14) rfl ?_); refine goesL_ (some 15) rfl rfl Try.func14 (by kernel_rfl) rfl #[.agg #[.int .i64 a0_0, .int .i64 a0_1, .int .i64 a0_2, .string a0_3]] rfl (by (try simp only [List.map_toArray, List.map_cons, List.map_nil]); first | done | rfl | (simp only [List.length_drop, List.length_take]; rfl)) ?_; (with_reducible refine (laws_toValue.calls a0_0 a0_1 a0_2 a0_3 t114 t115 t116 t117 _ A9.out).mono ?_); rintro e w19 ⟨rfl, hb⟩; refine ⟨_, rfl, ?_⟩; have n0_ := Aside0.mk (blk_below (g := gb107) (o := .cells #[.int .i64 a0_0, .int .i64 a0_1, .int .i64 a0_2, .string a0_3] 28 (0, 0)) (by (with_reducible repeat (first | refine blk_drewN ?_ _ | refine blk_drew ?_ | refine blk_alloc ?_ _)); exact BK107.out) hb); have n1_ := Aside0.mk (below_step (by repeat (first | (with_reducible first | exact HB.out | apply below_alloc | apply pw_below_drewN | apply below_drew1 | refine below_set ?_ GE107.out) | exact HB.out)) hb); clear BK107; clear HB; have BK107 := n0_; have HB := n1_; clear n0_ n1_; (try clear hb); (try clear hb2); (try clear hk); (try clear hi)) | ((with_reducible refine gate_callee (f := 17) rfl ?_); refine goesL_ (some 16) rfl rfl Try.func17 (by kernel_rfl) rfl #[.agg #[.int .i64 t114, .int .i64 t115, .int .i64 t116, .string t117]] rfl (by (try simp only [List.map_toArray, List.map_cons, List.map_nil]); first | done | rfl | (simp only [List.length_drop, List.length_take]; rfl)) ?_; (with_reducible refine (impl_ValueOK.calls k t114 t115 t116 t117 t118 _ A10.out).mono ?_); rintro e w20 ⟨rfl, hb⟩; refine ⟨_, rfl, ?_⟩; have n0_ := Aside0.mk (blk_below (g := gb107) (o := .cells #[.int .i64 a0_0, .int .i64 a0_1, .int .i64 a0_2, .string a0_3] 28 (0, 0)) (by (with_reducible repeat (first | refine blk_drewN ?_ _ | refine blk_drew ?_ | refine blk_alloc ?_ _)); exact BK107.out) hb); have n1_ := Aside0.mk (below_step (by repeat (first | (with_reducible first | exact HB.out | apply below_alloc | apply pw_below_drewN | apply below_drew1 | refine below_set ?_ GE107.out) | exact HB.out)) hb); clear BK107; clear HB; have BK107 := n0_; have HB := n1_; clear n0_ n1_; (try clear hb); (try clear hb2); (try clear hk); (try clear hi)))
      go_ret
      exact ⟨by first | rfl | (simp [errW_none, errW_some] <;> rfl) | (simp [*, errW_none, errW_some] <;> rfl), by repeat (first | (with_reducible first | exact HB.out | apply below_alloc | apply pw_below_drewN | apply below_drew1 | refine below_set ?_ GE107.out) | exact HB.out)⟩

end Go.Proofs.Ytkhkhcgjopnchaa.QFnExactValueOK
