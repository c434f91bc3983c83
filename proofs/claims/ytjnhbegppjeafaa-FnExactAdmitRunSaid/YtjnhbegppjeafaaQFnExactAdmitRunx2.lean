/- The functions that the law reaches, each as a plain Lean function with the proof that the Go code comes to its answers: written by a program of this session. No condition. -/
import Derived.Test.YtjnhbegppjeafaaQFnExactAdmitRunx0
namespace Go.Proofs.Ytjnhbegppjeafaa.QFnExactAdmitRun
open Go.RowKit Go.Proofs.YtjnhbegppjeafaaW.PrintWords Go.Proofs.YtjnhbegppjeafaaW.PrintLast Go.Proofs.YtjnhbegppjeafaaW.PrintMore
attribute [local go_sem] max2_int min2_int max_two min_two max_three min_three max_four min_four str_gtr str_leq str_geq pw_at_slice   -- for this text's walks alone
set_option linter.unusedVariables false
set_option linter.unusedSimpArgs false

/-! ### impl_kWithin: function 38 -/
def impl_kWithin.f (a0 : Int) (a1 : Int) (a2 : Int) : Option (Bool) := if a0 ≥ a1 then (some (decide (a0 ≤ a2))) else (some false)
set_option maxHeartbeats 8000000 in
set_option maxRecDepth 100000 in
theorem impl_kWithin.calls (a0 : Int) (a1 : Int) (a2 : Int) (r : Bool) (w : World) (h : impl_kWithin.f a0 a1 a2 = some r) :
  Calls Try.prog 38 #[.int .i64 a0, .int .i64 a1, .int .i64 a2] w fun e w' => e = .returned (.bool r) ∧ Drawn0 w w' := by
 have H : (if a0 ≥ a1 then (some (decide (a0 ≤ a2))) else (some false)) = some r := h
 clear h
 by_cases c4 : a0 ≥ a1
 ·rw [if_pos c4] at H
  have c4b0 : decide (a1 ≤ a0) = true := decide_eq_true c4
  clear c4
  obtain rfl := Option.some.inj H
  go_enter Try.func38, Try.ntmps38
  go_wp2
  go_ret
  exact ⟨by first | rfl | (simp; done) | (simp [*]; done), by repeat (first | exact Drawn0.refl _ | apply Drawn0.step)⟩
 ·rw [if_neg c4] at H
  have c4b0 : decide (a1 ≤ a0) = false := decide_eq_false c4
  clear c4
  obtain rfl := Option.some.inj H
  go_enter Try.func38, Try.ntmps38
  go_wp2
  go_ret
  exact ⟨by first | rfl | (simp; done) | (simp [*]; done), by repeat (first | exact Drawn0.refl _ | apply Drawn0.step)⟩

/-! ### impl_waiter: function 42 -/
theorem impl_waiter.heap_ {g : Nat} {t : TypeId} : ∀ (vs : List Value) (o : Nat) (cur : Array Value) (w : World), w.heap[g]? = some (.cells cur t (0, 0)) → o + vs.length ≤ cur.size → ∃ cur' : Array Value, (w.setCells g o vs).heap[g]? = some (.cells cur' t (0, 0)) ∧ cur'.toList = cur.toList.take o ++ vs ++ cur.toList.drop (o + vs.length)
 | [], o, cur, w, h, _ => ⟨cur, h, by simp⟩
 | v :: r, o, cur, w, h, hl => by
  simp only [List.length_cons] at hl
  obtain ⟨c', h', e'⟩ := impl_waiter.heap_ r (o + 1) (cur.setIfInBounds o v) (w.setCell ⟨g, o, none⟩ v) (blk_put h o v rfl) (by simp; omega)
  refine ⟨c', h', ?_⟩
  have ho' : o < cur.size := by omega
  have ho : o < cur.toList.length := by simpa using ho'
  rw [e', Array.toList_setIfInBounds, List.length_cons, List.take_set, List.drop_set, if_pos (by omega), List.take_add_one, List.getElem?_eq_getElem ho, show o + 1 + r.length = o + (r.length + 1) by omega]
  simp [List.set_append, Nat.min_eq_left (Nat.le_of_lt ho')]
theorem impl_waiter.clear1_ {P : Program} (w : World) (t e ty : TypeId) (z : Value) (ht : P.underlying t = some (.slice e)) (hv : ∀ w, (zeroValue e).run P w = .ok z w) (h1 : ∀ v ∈ z.cells.toList, v.oneCell' = true) (b o c : Nat)
  (hc : ∀ j, j < z.cells.toList.length → (w.cell? ⟨b, o + j, none⟩).isSome = true) (hf : ∀ j, j < z.cells.toList.length → w.frozen? ⟨b, o + j, none⟩ = false) :
  (Builtin.clear_ #[t] ty #[.slice (some ⟨b, o, none⟩) 1 c]).run P w = .ok (.tuple #[]) (w.setCells b o z.cells.toList) := by
 have hzc : (Builtin.zeroCells z.cells 1).toList = z.cells.toList := by
  simp only [Builtin.zeroCells]
  apply List.ext_getElem
  ·simp
  ·intro i h1 h2
   have h3 : i < z.cells.size := by simpa using h2
   simp [Nat.mod_eq_of_lt h3, getElem!_pos z.cells i h3]
 have hst := run_storeCells_cells (P := P) b o z.cells.toList 0 w (by simpa using hc) (by simpa using hf) h1
 simp only [Nat.add_zero] at hst
 simp [Builtin.clear_, run_underlying ht, hv, hzc, hst]
theorem impl_waiter.one_ {α : Type} {d : Kd α} {w : World} {base : Nat} {ok : Nat → Prop} {ps : List α} {cs : List Value} (h3 : d.sz = 3) (hr : Reps (d.M w base ok) d.sz ps cs) : ∀ u ∈ cs, u.oneCell' = true := by
 intro u hu
 obtain ⟨q, hq, rfl⟩ := List.mem_iff_getElem.mp hu
 have hl := hr.1
 rw [h3] at hl hr
 have hj : q / 3 < ps.length := by omega
 refine d.K_one (d.K_of_M (hr.2 (q / 3) ps[q / 3] (List.getElem?_eq_getElem hj))) _ ?_
 refine List.mem_iff_getElem?.mpr ⟨q % 3, ?_⟩
 rw [List.getElem?_take_of_lt (by omega), List.getElem?_drop, show q / 3 * 3 + q % 3 = q by omega, List.getElem?_eq_getElem hq]
theorem impl_waiter.below_ {B b : Nat} {a : World} (hb : B ≤ b) : ∀ (vs : List Value) (o : Nat) (w : World), Below B a w → Below B a (w.setCells b o vs)
 | [], _, _, h => h
 | v :: r, o, w, h => impl_waiter.below_ hb r (o + 1) (w.setCell ⟨b, o, none⟩ v) (h.setCell hb _)
theorem impl_waiter.info : (Try.prog.info? 81).map (fun i => (i.zero, i.size, i.bytes)) = some (some (.agg #[.int .i64 0, .int .i64 0, .int .i64 0]), 3, 24) := by kernel_rfl
def impl_waiter.f {α : Type} (l : List α) (i j : Int) : Option (List α) := if 0 ≤ i then (if j = i + 1 then (if j ≤ (l.length : Int) then some (l.take i.toNat ++ l.drop j.toNat) else none) else none) else none
set_option maxHeartbeats 8000000 in
set_option maxRecDepth 100000 in
theorem impl_waiter.gen {α : Type} (d : Kd α) (hd : d.sz = 3) (P0_ : Nat → Prop) (u : Value) (l : List α) (a1 a2 : Int) (r : List α) (w0 w : World) (hB : Below w0.heap.size w0 w) (ho0 : Kd.R d 81 w w0.heap.size P0_ u l) (h : impl_waiter.f l a1 a2 = some r) :
  Calls Try.prog 42 #[u, .int .i64 a1, .int .i64 a2] w fun e w' => ∃ v0_ : Value, e = .returned v0_ ∧ Kd.R d 81 w' w0.heap.size (fun k_ => P0_ k_ ∨ w.heap.size ≤ k_) v0_ r ∧ Below w0.heap.size w0 w' ∧ Kept w w' (fun k_ => P0_ k_) := by
 unfold impl_waiter.f at h
 by_cases p0_ : 0 ≤ a1
 ·rw [if_pos p0_] at h
  by_cases p1_ : a2 = a1 + 1
  ·rw [if_pos p1_] at h
   by_cases p2_ : a2 ≤ (l.length : Int)
   ·rw [if_pos p2_] at h
    injection h with h
    obtain ⟨i, rfl⟩ : ∃ i : Nat, a1 = i := ⟨a1.toNat, by omega⟩
    obtain ⟨j, rfl⟩ : ∃ j : Nat, a2 = j := ⟨a2.toNat, by omega⟩
    have hij : j = i + 1 := by omega
    have hj : j ≤ l.length := by omega
    simp only [Int.toNat_natCast] at h
    subst h
    obtain ⟨hP, inner, ho, hr⟩ := ho0
    obtain ⟨hlen, ho'⟩ := ho
    rw [hd] at hlen ho'
    rcases ho' with ⟨_, hn⟩ | ⟨g, cap, cur, rfl, hb, hg, hn, hcap, hcur, htake⟩
    ·omega
    have hm : cap ≤ 9223372036854775807 := hcap
    have hsz : cur.toList.length = cap * 3 := by simpa using hcur
    -- the cells that are moved to the left
    obtain ⟨news, hnews⟩ : ∃ news, news = inner.drop (j * 3) := ⟨_, rfl⟩
    have hnl : news.length = (l.length - j) * 3 := by rw [hnews, List.length_drop, hlen]; omega
    obtain ⟨i0, hi0, hz0, hz1, hz2⟩ := info_parts impl_waiter.info
    have hu := Try.underlying79
    have h1i := impl_waiter.one_ hd hr
    -- the cells of the block
    have hcell : ∀ q, q < l.length * 3 → w.drew.cell? ⟨g, q, none⟩ = inner[q]? := by
     intro q hq
     show w.cell? ⟨g, q, none⟩ = _
     rw [blk_cell hg q, ← Array.getElem?_toList, ← htake, List.getElem?_take_of_lt hq]
    obtain ⟨A, hA, hsrc⟩ : ∃ A : Addr, (if cap = j then some (⟨g, 0, none⟩ : Addr) else some ⟨g, j * 3, none⟩) = some A ∧ Aside0 (∀ t u, news[t]? = some u → w.drew.cell? (A.add t) = some u) := by
     by_cases hc : cap = j
     ·refine ⟨⟨g, 0, none⟩, by simp [hc], ⟨fun t u hu_ => ?_⟩⟩
      have h0 : news.length = 0 := by rw [hnl]; omega
      rw [List.length_eq_zero_iff.1 h0] at hu_
      simp at hu_
     ·refine ⟨⟨g, j * 3, none⟩, by simp [hc], ⟨fun t u hu_ => ?_⟩⟩
      have ht := (List.getElem?_eq_some_iff.1 hu_).1
      rw [hnl] at ht
      have hadd : (⟨g, j * 3, none⟩ : Addr).add t = ⟨g, j * 3 + t, none⟩ := by unfold Addr.add; split <;> simp_all
      rw [hadd, hcell _ (by omega)]
      rw [hnews, List.getElem?_drop] at hu_
      exact hu_
    have s1 : Aside0 (news.length = (l.length - j) * 3) := ⟨hnl⟩
    have s2 : Aside0 (∀ u ∈ news, u.oneCell' = true) := ⟨fun u hu_ => h1i u (by rw [hnews] at hu_; exact List.mem_of_mem_drop hu_)⟩
    have s3 : Aside0 (∀ t, t < news.length → (w.drew.cell? ⟨g, 0 + i * 3 + t, none⟩).isSome = true ∧ w.drew.frozen? ⟨g, 0 + i * 3 + t, none⟩ = false) := by
     refine ⟨fun t ht => ⟨?_, blk_frozen (blk_drew hg) _⟩⟩
     rw [hnl] at ht
     rw [hcell _ (by omega), List.getElem?_eq_getElem (by rw [hlen]; omega)]
     rfl
    -- the world behind the append, behind a name
    obtain ⟨W1, hW1⟩ : ∃ W1, W1 = w.drew.setCells g (0 + i * 3) news := ⟨_, rfl⟩
    obtain ⟨c1, hg1, e1⟩ := impl_waiter.heap_ news (0 + i * 3) cur w.drew (blk_drew hg) (by rw [hnl]; omega)
    rw [← hW1] at hg1
    have hc1 : c1.toList.length = cap * 3 := by rw [e1]; simp; omega
    have hB1 : Below w0.heap.size w0 W1 := by rw [hW1]; exact impl_waiter.below_ hb _ _ _ (below_drew1 hB)
    have hk1 : ∀ k, k < w.heap.size → k ≠ g → W1.heap[k]? = w.heap[k]? := fun k hk hkg => by rw [hW1]; exact World.heap_setCells_other w.drew g _ _ hk hkg
    -- and behind clear
    obtain ⟨Z, hZ⟩ : ∃ Z : List Value, Z = [.int .i64 0, .int .i64 0, .int .i64 0] := ⟨_, rfl⟩
    obtain ⟨W2, hW2⟩ : ∃ W2, W2 = W1.setCells g ((i + (l.length - j)) * 3) Z := ⟨_, rfl⟩
    obtain ⟨c2, hg2, e2⟩ := impl_waiter.heap_ Z ((i + (l.length - j)) * 3) c1 W1 hg1 (by rw [hZ, ← Array.length_toList, hc1]; simp; omega)
    rw [← hW2] at hg2
    have hB2 : Below w0.heap.size w0 W2 := by rw [hW2]; exact impl_waiter.below_ hb _ _ _ hB1
    have hs1 : w.heap.size ≤ W1.heap.size := by rw [hW1]; exact (impl_waiter.below_ (a := w.drew) (Nat.zero_le g) news (0 + i * 3) w.drew (Below.refl 0 _)).size
    have hs2 : W1.heap.size ≤ W2.heap.size := by rw [hW2]; exact (impl_waiter.below_ (a := W1) (Nat.zero_le g) Z _ W1 (Below.refl 0 _)).size
    have hk2 : ∀ k, k < w.heap.size → k ≠ g → W2.heap[k]? = w.heap[k]? := fun k hk hkg => by rw [hW2]; exact (World.heap_setCells_other W1 g _ _ (Nat.lt_of_lt_of_le hk hs1) hkg).trans (hk1 k hk hkg)
    have hcl : ∀ ty, (Builtin.clear_ #[79] ty #[.slice (some ⟨g, (i + (l.length - j)) * 3, none⟩) (l.length - (i + (l.length - j))) (cap - (i + (l.length - j)))]).run Try.prog W1 = .ok (.tuple #[]) W2 := by
     intro ty
     rw [show l.length - (i + (l.length - j)) = 1 by omega, hW2]
     have := impl_waiter.clear1_ (P := Try.prog) W1 79 81 ty (.agg #[.int .i64 0, .int .i64 0, .int .i64 0]) hu (by intro w'; simp [zeroValue, typeInfo, hi0, hz0]) (by simp [Value.cells, Value.oneCell']) g ((i + (l.length - j)) * 3) (cap - (i + (l.length - j))) (fun q hq => by rw [blk_cell hg1, ← Array.getElem?_toList, List.getElem?_eq_getElem (by simp [Value.cells] at hq; omega)]; rfl) (fun _ _ => blk_frozen hg1 _)
     rw [hZ]
     exact this
    have hfin : c2.toList.take ((i + (l.length - j)) * 3) = inner.take (i * 3) ++ inner.drop (j * 3) := by
     have h1 : c1.toList.take ((i + (l.length - j)) * 3) = inner.take (i * 3) ++ inner.drop (j * 3) := by
      rw [e1, List.take_left' (by rw [List.length_append, List.length_take, hnl, hsz]; omega), Nat.zero_add, hnews, ← htake, List.take_take, Nat.min_eq_left (by omega)]
     rw [e2, List.append_assoc, List.take_left' (by rw [List.length_take, hc1]; omega)]
     exact h1
    have hc2 : c2.size = cap * 3 := by
     rw [← Array.length_toList, e2, hZ]
     simp only [List.length_append, List.length_take, List.length_drop, hc1, List.length_cons, List.length_nil]
     omega
    have hpl : (l.take i ++ l.drop j).length = i + (l.length - j) := by rw [List.length_append, List.length_take, List.length_drop]; omega
    have F : Aside0 (Kd.R d 81 W2 w0.heap.size (fun k_ => P0_ k_ ∨ w.heap.size ≤ k_) (.slice (some ⟨g, 0, none⟩) (i + (l.length - j)) cap) (l.take i ++ l.drop j) ∧ Below w0.heap.size w0 W2 ∧ Kept w W2 (fun k_ => P0_ k_)) := by
     refine ⟨Kd.R_mono (ok := P0_) ⟨hP, inner.take (i * 3) ++ inner.drop (j * 3), ?_, ?_⟩ (fun k h => .inl h), hB2, Nat.le_trans hs1 hs2, fun k hk hnp => hk2 k hk (fun e => hnp (e ▸ hP g rfl))⟩
     ·rw [hpl, hd]
      exact ⟨by rw [List.length_append, List.length_take, List.length_drop, hlen]; omega, .inr ⟨g, cap, c2, rfl, hb, hg2, by omega, hcap, hc2, hfin⟩⟩
     ·have hr2 : Reps (d.M W2 w0.heap.size (fun k => P0_ k ∧ some k ≠ (some g : Option Nat))) d.sz l inner := hr.imp_ (fun p c hp => Kd.M_step hp (fun k hk hkl => hk2 k hkl (fun e => hk.2 (by rw [e]))))
      have h3 := Kd.reps_append (Kd.reps_take (m := i) hr2 (by omega)) (Kd.reps_drop (m := j) hr2)
      rw [hd] at h3 ⊢
      exact h3
    have hWs : Aside0 (W1 = w.drew.setCells g (0 + i * 3) news) := ⟨hW1⟩
    have hne : ¬ (i = j) := by omega
    have hij_ : i ≤ j := by omega
    have hne' : ¬ ((i : Int) = (j : Int)) := by omega
    have hij'' : (i : Int) ≤ (j : Int) := by omega
    have hj'' : (j : Int) ≤ (l.length : Int) := by omega
    have hi'' : (i : Int) ≤ (cap : Int) := by omega
    have Hij := Aside0.mk hij
    clear hij p0_ p1_ p2_
    have hmix : Try.prog.follows Departure.mixedOrders = true := by kernel_rfl
    have hic : i ≤ cap := by omega
    have hjc : j ≤ cap := by omega
    clear hW1 hW2 hg1 hg2 e1 e2 hc1 hB1 hB2 hk1 hk2 hs1 hs2 hfin hc2 hpl hcell h1i hg hr hP htake hB hnews hZ hnl hlen hcur hsz
    go_enter Try.func42, Try.ntmps42
    go_upto_region 5 with (fail)
    go_region_law_o (refine step_append_room rfl (.tmp 22) (.tmp 25) 79 rfl 81 i0 3 hu hi0 hz1 g 0 i cap (by simp [Act.eval, Act.put]) A (l.length - j) (cap - j) news (by simp [Act.eval, Act.put]) s1.out hsrc.out s2.out (by omega) s3.out ?_; rw [← hWs.out])
    go_wp2
    go_ret
    exact ⟨_, rfl, F.out.1, F.out.2.1, F.out.2.2⟩
   ·rw [if_neg p2_] at h; cases h
  ·rw [if_neg p1_] at h; cases h
 ·rw [if_neg p0_] at h; cases h
theorem impl_waiter.calls (P0_ : Nat → Prop) (u9000_ : Value) (l0 : List (S81)) (a1 : Int) (a2 : Int) (r : List (S81)) (w0 w : World) (hB : Below w0.heap.size w0 w) (ho0 : Kd.R k81 81 w w0.heap.size P0_ u9000_ l0) (h : impl_waiter.f l0 a1 a2 = some r) :
  Calls Try.prog 42 #[u9000_, .int .i64 a1, .int .i64 a2] w fun e w' => ∃ v0_ : Value, e = .returned v0_ ∧ Kd.R k81 81 w' w0.heap.size (fun k_ => (P0_ k_ ∨ w.heap.size ≤ k_)) v0_ r ∧ Below w0.heap.size w0 w' ∧ Kept w w' (fun k_ => P0_ k_) :=
 impl_waiter.gen k81 rfl P0_ u9000_ l0 a1 a2 r w0 w hB ho0 h


end Go.Proofs.Ytjnhbegppjeafaa.QFnExactAdmitRun
