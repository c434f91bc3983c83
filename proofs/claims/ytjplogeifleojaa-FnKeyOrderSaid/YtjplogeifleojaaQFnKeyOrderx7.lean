/- The functions that the law reaches, each as a plain Lean function with the proof that the Go code comes to its answers: written by a program of this session. No condition. -/
import Derived.Test.YtjplogeifleojaaQFnKeyOrderx0
import Derived.Test.YtjplogeifleojaaQFnKeyOrderx2
namespace Go.Proofs.Ytjplogeifleojaa.QFnKeyOrder
open Go.RowKit Go.Proofs.YtjplogeifleojaaW.PrintWords Go.Proofs.YtjplogeifleojaaW.PrintLast Go.Proofs.YtjplogeifleojaaW.PrintMore
attribute [local go_sem] max2_int min2_int max_two min_two max_three min_three max_four min_four str_gtr str_leq str_geq pw_at_slice   -- for this text's walks alone
set_option linter.unusedVariables false
set_option linter.unusedSimpArgs false

theorem q7z0 {P : Prop} (h : P := by (with_reducible repeat (first | refine blk_drewN ?_ _ | refine blk_drew ?_ | refine blk_alloc ?_ _)); refine blk_put (cs := #[.int .i64 0, .int .i64 0, .int .i64 0, .string (⟨#[]⟩ : ByteArray)]) ?_ 3 _ rfl; (with_reducible repeat (first | refine blk_drewN ?_ _ | refine blk_drew ?_ | refine blk_alloc ?_ _)); refine blk_put (cs := #[.int .i64 0, .int .i64 0, .int .i64 0, .string (⟨#[]⟩ : ByteArray)]) ?_ 2 _ rfl; (with_reducible repeat (first | refine blk_drewN ?_ _ | refine blk_drew ?_ | refine blk_alloc ?_ _)); refine blk_put (cs := #[.int .i64 0, .int .i64 0, .int .i64 0, .string (⟨#[]⟩ : ByteArray)]) ?_ 1 _ rfl; (with_reducible repeat (first | refine blk_drewN ?_ _ | refine blk_drew ?_ | refine blk_alloc ?_ _)); refine blk_put (cs := #[.int .i64 0, .int .i64 0, .int .i64 0, .string (⟨#[]⟩ : ByteArray)]) ?_ 0 _ rfl; (with_reducible repeat (first | refine blk_drewN ?_ _ | refine blk_drew ?_ | refine blk_alloc ?_ _)); exact BK661.out) : P := h
theorem q7z1 {P : Prop} (h : P := by repeat (first | (with_reducible first | exact HB.out | apply below_alloc | apply pw_below_drewN | apply below_drew1) | exact HB.out)) : P := h
theorem q7z2 {P : Prop} (h : P := by (with_reducible repeat (first | refine blk_drewN ?_ _ | refine blk_drew ?_ | refine blk_alloc ?_ _)); refine blk_put (cs := #[.int .i64 3, .int .i64 x0_2, .int .i64 x1_2, .string (⟨#[]⟩ : ByteArray)]) ?_ 3 _ rfl; (with_reducible repeat (first | refine blk_drewN ?_ _ | refine blk_drew ?_ | refine blk_alloc ?_ _)); refine blk_put (cs := #[.int .i64 3, .int .i64 x0_2, .int .i64 0, .string (⟨#[]⟩ : ByteArray)]) ?_ 2 _ rfl; (with_reducible repeat (first | refine blk_drewN ?_ _ | refine blk_drew ?_ | refine blk_alloc ?_ _)); refine blk_put (cs := #[.int .i64 3, .int .i64 0, .int .i64 0, .string (⟨#[]⟩ : ByteArray)]) ?_ 1 _ rfl; (with_reducible repeat (first | refine blk_drewN ?_ _ | refine blk_drew ?_ | refine blk_alloc ?_ _)); refine blk_put (cs := #[.int .i64 0, .int .i64 0, .int .i64 0, .string (⟨#[]⟩ : ByteArray)]) ?_ 0 _ rfl; (with_reducible repeat (first | refine blk_drewN ?_ _ | refine blk_drew ?_ | refine blk_alloc ?_ _)); exact BK661.out) : P := h
/-! ### laws_big: function 15 -/
def laws_big.f (l0 : List Int) : Option (Bool) := some (decide ((l0.length : Int) > 1048576))
set_option maxHeartbeats 8000000 in
set_option maxRecDepth 100000 in
theorem laws_big.calls (A0 : Option Addr) (c0 : Nat) (l0 : List Int) (r : Bool) (w : World) (hr0 : Kd.C (Kd.int .u8) w A0 l0.length l0) (hc0 : l0.length ≤ c0) (h : laws_big.f l0 = some r) :
    Calls Try.prog 15 #[.slice A0 l0.length c0] w fun e w' => e = .returned (.bool r) ∧ Drawn0 w w' := by
  have HR0 := Aside0.mk hr0; have HC0 := Aside0.mk hc0; clear hr0 hc0; have H : (some (decide ((l0.length : Int) > 1048576))) = some r := h; clear h; obtain rfl := Option.some.inj H
  go_enter Try.func15, Try.ntmps15
  go_wp2
  go_ret
  exact ⟨by first | rfl | (simp; done) | (simp [*]; done), by repeat (first | exact Drawn0.refl _ | apply Drawn0.step)⟩

/-- A state of type 82 at block g of W; what its slices lead to came in by w0. -/
def IsS82 (w0 W : World) (g : Nat) (f0 : List Int) (f1 : Int) (f2 : Int) : Prop := ∃ A0 c0, W.heap[g]? = some (.cells #[.slice A0 f0.length c0, .int .i64 f1, .int .i64 f2] 82 (0, 0)) ∧ w0.heap.size ≤ g ∧ Kd.C (Kd.int .u8) w0 A0 f0.length f0
theorem IsS82.grown {w0 W : World} {g : Nat} {f0 : List Int} {f1 : Int} {f2 : Int} {W1 : World} {row : Option Nat} (h : IsS82 w0 W g f0 f1 f2) (hw : W.grownBy W1 row) (hne : some g ≠ row) : IsS82 w0 W1 g f0 f1 f2 := by
  obtain ⟨A0, c0, hb, hg, hr0⟩ := h
  exact ⟨A0, c0, blk_grown hb hw hne, hg, hr0⟩
theorem IsS82.below {w0 W : World} {g : Nat} {f0 : List Int} {f1 : Int} {f2 : Int} {W1 : World} (h : IsS82 w0 W g f0 f1 f2) (hw : Below W.heap.size W W1) : IsS82 w0 W1 g f0 f1 f2 := h.grown (grown_of_below hw none) (by simp)
theorem IsS82.alloc {w0 W : World} {g : Nat} {f0 : List Int} {f1 : Int} {f2 : Int} (h : IsS82 w0 W g f0 f1 f2) (o : Obj) : IsS82 w0 (W.alloc o) g f0 f1 f2 := h.below (below_alloc (Below.refl _ _) o)
theorem IsS82.drewN {w0 W : World} {g : Nat} {f0 : List Int} {f1 : Int} {f2 : Int} (h : IsS82 w0 W g f0 f1 f2) (m : Nat) : IsS82 w0 (W.drewN m) g f0 f1 f2 := h
theorem IsS82.drew {w0 W : World} {g : Nat} {f0 : List Int} {f1 : Int} {f2 : Int} (h : IsS82 w0 W g f0 f1 f2) : IsS82 w0 W.drew g f0 f1 f2 := h
theorem IsS82.apart {w0 W : World} {g : Nat} {f0 : List Int} {f1 : Int} {f2 : Int} {α : Type} {d : Kd α} {e : Nat} {base : Nat} {ok : Nat → Prop} {v : Value} {xs : List α} (h : IsS82 w0 W g f0 f1 f2) (ho : d.R e W base ok v xs) (ht : ∀ q, q ∈ e :: d.E → q ≠ 82) : d.R e W base (fun k => ok k ∧ k ≠ g) v xs := by
  obtain ⟨A0, c0, hb, hg, hr0⟩ := h
  exact Kd.R_types ho hb ht
theorem IsS82.own_ne {w0 W : World} {g : Nat} {f0 : List Int} {f1 : Int} {f2 : Int} {α : Type} {d : Kd α} {e : Nat} {base : Nat} {ok : Nat → Prop} {v : Value} {xs : List α} (h : IsS82 w0 W g f0 f1 f2) (ho : d.R e W base ok v xs) (ht : e ≠ 82) : some g ≠ v.ownBlock := by
  obtain ⟨A0, c0, hb, hg, hr0⟩ := h
  exact Kd.R_ne ho hb ht
theorem IsS82.lt {w0 W : World} {g : Nat} {f0 : List Int} {f1 : Int} {f2 : Int} (h : IsS82 w0 W g f0 f1 f2) : g < W.heap.size := by
  obtain ⟨A0, c0, hb, hg, hr0⟩ := h
  exact blk_lt hb
theorem IsS82.ge {w0 W : World} {g : Nat} {f0 : List Int} {f1 : Int} {f2 : Int} (h : IsS82 w0 W g f0 f1 f2) : w0.heap.size ≤ g := by
  obtain ⟨A0, c0, hb, hg, hr0⟩ := h
  exact hg
theorem IsS82.far {w0 W : World} {g : Nat} {f0 : List Int} {f1 : Int} {f2 : Int} {p : Addr} (h : IsS82 w0 W g f0 f1 f2) (hne : g ≠ p.block) (u : Value) : IsS82 w0 (W.setCell p u) g f0 f1 f2 := by
  obtain ⟨A0, c0, hb, hg, hr0⟩ := h
  exact ⟨A0, c0, blk_far hb hne u, hg, hr0⟩
theorem cellS82_0 {W : World} {g : Nat} {A0 : Option Addr} {c0 : Nat} {f0 : List Int} {f1 : Int} {f2 : Int} (h : W.heap[g]? = some (.cells #[.slice A0 f0.length c0, .int .i64 f1, .int .i64 f2] 82 (0, 0))) : W.cell? ⟨g, 0, none⟩ = some (.slice A0 f0.length c0) := (blk_cell h 0).trans rfl
theorem cellS82_1 {W : World} {g : Nat} {A0 : Option Addr} {c0 : Nat} {f0 : List Int} {f1 : Int} {f2 : Int} (h : W.heap[g]? = some (.cells #[.slice A0 f0.length c0, .int .i64 f1, .int .i64 f2] 82 (0, 0))) : W.cell? ⟨g, 1, none⟩ = some (.int .i64 f1) := (blk_cell h 1).trans rfl
theorem IsS82.set_1 {w0 W : World} {g : Nat} {f0 : List Int} {f1 : Int} {f2 : Int} (h : IsS82 w0 W g f0 f1 f2) (x : Int) : IsS82 w0 (W.setCell ⟨g, 1, none⟩ (.int .i64 x)) g f0 x f2 := by
  obtain ⟨A0, c0, hb, hg, hr0⟩ := h
  exact ⟨A0, c0, by simpa using blk_set hb 1 (.int .i64 x), hg, hr0⟩
theorem cellS82_2 {W : World} {g : Nat} {A0 : Option Addr} {c0 : Nat} {f0 : List Int} {f1 : Int} {f2 : Int} (h : W.heap[g]? = some (.cells #[.slice A0 f0.length c0, .int .i64 f1, .int .i64 f2] 82 (0, 0))) : W.cell? ⟨g, 2, none⟩ = some (.int .i64 f2) := (blk_cell h 2).trans rfl
theorem IsS82.set_2 {w0 W : World} {g : Nat} {f0 : List Int} {f1 : Int} {f2 : Int} (h : IsS82 w0 W g f0 f1 f2) (x : Int) : IsS82 w0 (W.setCell ⟨g, 2, none⟩ (.int .i64 x)) g f0 f1 x := by
  obtain ⟨A0, c0, hb, hg, hr0⟩ := h
  exact ⟨A0, c0, by simpa using blk_set hb 2 (.int .i64 x), hg, hr0⟩

/-! ### spec_l01DrawCur: function 36 -/
def spec_l01DrawCur.f (l0 : List Int) : Option (List Int × Int × Int) := some (l0, 0, wrap64 (17 + (l0.length : Int)))
set_option maxHeartbeats 8000000 in
set_option maxRecDepth 100000 in
theorem spec_l01DrawCur.calls (A0 : Option Addr) (c0 : Nat) (l0 : List Int) (r1 : List Int) (r2 : Int) (r3 : Int) (w0 w : World) (hB : Below w0.heap.size w0 w) (hr0 : Kd.C (Kd.int .u8) w0 A0 l0.length l0) (hc0 : l0.length ≤ c0) (h : spec_l01DrawCur.f l0 = some (r1, r2, r3)) :
    Calls Try.prog 36 #[.slice A0 l0.length c0] w fun e w' => ∃ g_ : Nat, e = .returned (.pointer (some ⟨g_, 0, none⟩)) ∧ IsS82 w0 w' g_ r1 r2 r3 ∧ Below w0.heap.size w0 w' ∧ Below w.heap.size w w' := by
  have hu82 := Try.underlying82; have HR0 := Aside0.mk hr0; have HC0 := Aside0.mk hc0; clear hr0 hc0; have HBW := Aside0.mk (Below.refl w.heap.size w); have HW0 := Aside0.mk hB.size; have HB := Aside0.mk hB; clear hB; have H : (some (l0, 0, wrap64 (17 + (l0.length : Int)))) = some (r1, r2, r3) := h; clear h; simp only [Option.some.injEq, Prod.mk.injEq] at H; obtain ⟨rfl, rfl, rfl⟩ := H
  go_enter Try.func36, Try.ntmps36
  go_wp2_with (first | ((with_reducible refine gate_dst (N := 8) rfl ?_); refine box_event ?hg (N := 8) ?hd (cs := #[.slice A0 l0.length c0, .int .i64 0, .int .i64 (wrap64 (17 + (l0.length : Int)))]) (t := 82) ?hr ?_; (case hd => rfl); (case hg => rfl); (case hr => first | (go_simp; done) | (go_simp; rfl)); intro gb649 hg w2 hbox hb; have n0_ := Aside0.mk (below_step HBW.out hb); have n1_ := Aside0.mk (below_step q7z1 hb); have n2_ := Aside0.mk (hbox); have n3_ := Aside0.mk ((by rw [hg]; exact (below_size (by repeat (first | (with_reducible first | exact HBW.out | apply below_alloc | apply pw_below_drewN | apply below_drew1) | exact HBW.out))) : w.heap.size ≤ gb649)); have n4_ := Aside0.mk ((Nat.le_trans HW0.out (by rw [hg]; exact (below_size (by repeat (first | (with_reducible first | exact HBW.out | apply below_alloc | apply pw_below_drewN | apply below_drew1) | exact HBW.out))) : w.heap.size ≤ gb649) : w0.heap.size ≤ gb649)); clear HBW; clear HB; have HBW := n0_; have HB := n1_; have BK649 := n2_; have GW649 := n3_; have GE649 := n4_; clear n0_ n1_ n2_ n3_ n4_; clear hb hbox hg))
  go_ret
  exact ⟨_, rfl, (show IsS82 w0 _ gb649 l0 0 (wrap64 (17 + (l0.length : Int))) from ⟨_, _, by (with_reducible repeat (first | refine blk_drewN ?_ _ | refine blk_drew ?_ | refine blk_alloc ?_ _)); exact BK649.out, GE649.out, HR0.out⟩), by repeat (first | (with_reducible first | exact HB.out | apply below_alloc | apply pw_below_drewN | apply below_drew1 | refine below_set ?_ GE649.out) | exact HB.out), by repeat (first | (with_reducible first | exact HBW.out | apply below_alloc | apply pw_below_drewN | apply below_drew1 | refine below_set ?_ GW649.out) | exact HBW.out)⟩

/-! ### spec_l01Cur_byte: function 57 -/
def spec_l01Cur_byte.f (s0_0 : List Int) (s0_1 : Int) (s0_2 : Int) : Option (Int × Int × Int) :=
  if 0 ≤ s0_1 ∧ s0_1 ≤ 1099511627776 ∧ 0 ≤ s0_2 ∧ s0_2 < 2147483648 ∧ s0_0.length ≤ 2097152 ∧ (∀ x ∈ s0_0, 0 ≤ x ∧ x ≤ 255) then
    (if s0_1 + 1 > 4000 + 4 * (s0_0.length : Int) then some (0, s0_1 + 1, s0_2)
    else if s0_1 + 1 > (s0_0.length : Int) then some ((s0_2 * 1103515245 + 12345) % 2147483648 / 65536 % 256, s0_1 + 1, (s0_2 * 1103515245 + 12345) % 2147483648)
    else some (rd s0_0 s0_1, s0_1 + 1, (s0_2 * 31 + rd s0_0 s0_1 + 7) % 2147483648))
  else none
theorem spec_l01Cur_byte.row_cell {w0 w : World} {g : Nat} {A : Option Addr} {c : List Int} (hC : Kd.C (Kd.int .u8) w0 A c.length c) (hB : Below w0.heap.size w0 w) (hge : w0.heap.size ≤ g) (i : Nat) (hi : i < c.length) (u : Value) (j : Nat) :
    ∃ ad, A = some ad ∧ g ≠ (ad.add i).block ∧ (w.setCell ⟨g, j, none⟩ u).cell? (ad.add i) = some (.int .u8 (c.getD i 0)) := by
  obtain ⟨ad, hA, hcell⟩ := hC.2.2 (by omega)
  obtain ⟨cs, hl, hk, hcc⟩ := hcell i _ (List.getElem?_eq_getElem hi)
  have hk' : cs = [.int .u8 c[i]] := hk
  have h0 : w0.cell? (ad.add i) = some (.int .u8 (c.getD i 0)) := by
    have := hcc 0 (.int .u8 c[i]) (by rw [hk']; rfl)
    rw [show i * (Kd.int .u8).sz + 0 = i from by show i * 1 + 0 = i; omega] at this
    rw [this, List.getD_eq_getElem?_getD, List.getElem?_eq_getElem hi]
    rfl
  have hlt : (ad.add i).block < w0.heap.size := World.block_lt_of_cell? w0 _ h0
  refine ⟨ad, hA, by omega, ?_⟩
  rw [World.cell?_setCell_far _ _ _ _ (by show g ≠ (ad.add i).block; omega)]
  exact (hB.cell hlt).trans h0
set_option maxHeartbeats 8000000 in
set_option maxRecDepth 100000 in
theorem spec_l01Cur_byte.calls (g : Nat) (s0_0 : List Int) (s0_1 : Int) (s0_2 : Int) (r1 : Int) (r2 : Int) (r3 : Int) (w0 w : World) (hI : IsS82 w0 w g s0_0 s0_1 s0_2) (hB : Below w0.heap.size w0 w) (h : spec_l01Cur_byte.f s0_0 s0_1 s0_2 = some (r1, r2, r3)) :
    Calls Try.prog 57 #[.pointer (some ⟨g, 0, none⟩)] w fun e w' => e = .returned (.int .i64 r1) ∧ IsS82 w0 w' g s0_0 r2 r3 ∧ Below w0.heap.size w0 w' ∧ KeepBut w w' g none := by
  have HI := Aside0.mk hI; have HB := Aside0.mk hB; have HK := Aside0.mk (KeepBut.refl w g none); obtain ⟨A0, c0, hblk, hge, hC⟩ := hI; have HG := Aside0.mk hge; have HC := Aside0.mk hC
  unfold spec_l01Cur_byte.f at h
  split at h
  case isFalse => cases h
  rename_i hd
  obtain ⟨d1, d2, d3, d4, d5, d6⟩ := hd; have hcz0 : w.cell? ⟨g, 0, none⟩ = some (.slice A0 s0_0.length c0) := (blk_cell hblk 0).trans rfl; have hcz1 : w.cell? ⟨g, 1, none⟩ = some (.int .i64 s0_1) := (blk_cell hblk 1).trans rfl; have hcz2 : w.cell? ⟨g, 2, none⟩ = some (.int .i64 s0_2) := (blk_cell hblk 2).trans rfl; have hfz1 : w.frozen? ⟨g, 1, none⟩ = false := blk_frozen hblk 1; have hfz2 : w.frozen? ⟨g, 2, none⟩ = false := blk_frozen hblk 2; clear hblk hge hC hB
  by_cases e1 : s0_1 + 1 > 4000 + 4 * (s0_0.length : Int)
  · rw [if_pos e1] at h
    simp only [Option.some.injEq, Prod.mk.injEq] at h; obtain ⟨rfl, rfl, rfl⟩ := h; have e1' : decide (4000 + 4 * (s0_0.length : Int) < s0_1 + 1) = true := decide_eq_true e1; have D6 := Aside0.mk d6; clear e1 d6
    go_enter Try.func57, Try.ntmps57
    go_wp2
    go_quiet (fail)
    go_wp2
    go_ret
    exact ⟨rfl, IsS82.drewN (IsS82.set_1 HI.out _) _, pw_below_drewN (below_set HB.out HG.out) _, keep_drewN (KeepBut.set_ HK.out 1 _) _⟩
  · rw [if_neg e1] at h
    have e1' : decide (4000 + 4 * (s0_0.length : Int) < s0_1 + 1) = false := decide_eq_false e1; clear e1
    by_cases e2 : s0_1 + 1 > (s0_0.length : Int)
    · rw [if_pos e2] at h
      simp only [Option.some.injEq, Prod.mk.injEq] at h; obtain ⟨rfl, rfl, rfl⟩ := h; have e2' : decide ((s0_0.length : Int) < s0_1 + 1) = true := decide_eq_true e2; have D6 := Aside0.mk d6; clear e2 d6
      go_enter Try.func57, Try.ntmps57
      go_wp2
      go_quiet (fail)
      go_wp2
      go_quiet (fail)
      go_wp2
      go_ret
      exact ⟨rfl, IsS82.set_2 (IsS82.drewN (IsS82.set_1 HI.out _) _) _, below_set (pw_below_drewN (below_set HB.out HG.out) _) HG.out, KeepBut.set_ (keep_drewN (KeepBut.set_ HK.out 1 _) _) 2 _⟩
    · rw [if_neg e2] at h
      simp only [Option.some.injEq, Prod.mk.injEq] at h; obtain ⟨rfl, rfl, rfl⟩ := h; have e2' : decide ((s0_0.length : Int) < s0_1 + 1) = false := decide_eq_false e2
      have hb : 0 ≤ rd s0_0 s0_1 ∧ rd s0_0 s0_1 ≤ 255 := by
        have hl : s0_1.toNat < s0_0.length := by omega
        have := d6 _ (List.getElem_mem hl); rw [rd, List.getD_eq_getElem?_getD, List.getElem?_eq_getElem hl]; exact this
      obtain ⟨ad, rfl, hne, hrow⟩ := spec_l01Cur_byte.row_cell HC.out HB.out HG.out s0_1.toNat (by omega) (.int .i64 (s0_1 + 1)) 1; have hrow' : (w.setCell ⟨g, 1, none⟩ (.int .i64 (s0_1 + 1))).cell? (ad.add s0_1.toNat) = some (.int .u8 (rd s0_0 s0_1)) := hrow; obtain ⟨hb1, hb2⟩ := hb; have D6 := Aside0.mk d6; have HNE := Aside0.mk hne; clear d6 hrow hne
      go_enter Try.func57, Try.ntmps57
      go_wp2
      go_quiet (fail)
      go_wp2
      go_quiet (fail)
      go_wp2
      refine wp_region_still_tail 23 (by kernel_rfl) (by kernel_rfl) ?_; simp only [List.take_succ_cons, List.take_zero, List.drop_succ_cons, List.drop_zero]
      generalize hW : World.drewN (World.drewN (w.setCell ⟨g, 1, none⟩ (.int .i64 (s0_1 + 1))) _) _ = W
      have k0 : W.drew.cell? ⟨g, 0, none⟩ = some (.slice (some ad) s0_0.length c0) := by rw [← hW]; exact ((show (w.setCell ⟨g, 1, none⟩ (.int .i64 (s0_1 + 1))).cell? ⟨g, 0, none⟩ = w.cell? ⟨g, 0, none⟩ from World.cell?_setCell_other (h := by intro e; cases e) ..).trans hcz0)
      have k1 : W.drew.cell? ⟨g, 1, none⟩ = some (.int .i64 (s0_1 + 1)) := by rw [← hW]; exact (show (w.setCell ⟨g, 1, none⟩ (.int .i64 (s0_1 + 1))).cell? ⟨g, 1, none⟩ = some (.int .i64 (s0_1 + 1)) from World.cell?_setCell_same (h := hcz1) ..)
      have k2 : W.drew.cell? ⟨g, 2, none⟩ = some (.int .i64 s0_2) := by rw [← hW]; exact ((show (w.setCell ⟨g, 1, none⟩ (.int .i64 (s0_1 + 1))).cell? ⟨g, 2, none⟩ = w.cell? ⟨g, 2, none⟩ from World.cell?_setCell_other (h := by intro e; cases e) ..).trans hcz2)
      have k3 : W.drew.cell? (ad.add s0_1.toNat) = some (.int .u8 (rd s0_0 s0_1)) := by rw [← hW]; exact hrow'
      have f2 : W.drew.frozen? ⟨g, 2, none⟩ = false := by rw [← hW]; exact (World.frozen?_setCell ..).trans hfz2
      have b2 := Aside0.mk (show Below w0.heap.size w0 W.drew by rw [← hW]; exact below_drew (pw_below_drewN (pw_below_drewN (below_set HB.out HG.out) _) _)); have i2 := Aside0.mk (show IsS82 w0 W.drew g s0_0 (s0_1 + 1) s0_2 by rw [← hW]; exact IsS82.drew (IsS82.drewN (IsS82.drewN (IsS82.set_1 HI.out _) _) _)); have q2 := Aside0.mk (show KeepBut w W.drew g none by rw [← hW]; exact keep_drew (keep_drewN (keep_drewN (KeepBut.set_ HK.out 1 _) _) _)); clear hW hcz0 hcz1 hcz2 hfz1 hfz2 hrow' HI HB HK
      change wpStill _ _ W.drew (fun a' => wpList _ _ _ _ a' W.drew) _ _
      generalize W.drew = W2 at *
      clear W
      have v0 : s0_1 < (s0_0.length : Int) := by have := of_decide_eq_false e2'; omega
      have v1 : IntKind.i64.wrap s0_1 = s0_1 := IntWalk.i64_in _ (by omega); have v2 : IntKind.i64.wrap (s0_2 * 31) = s0_2 * 31 := IntWalk.i64_in _ (by omega); have v3 : IntKind.i64.wrap (s0_2 * 31 + rd s0_0 s0_1) = s0_2 * 31 + rd s0_0 s0_1 := IntWalk.i64_in _ (by omega); have v4 : IntKind.i64.wrap (s0_2 * 31 + rd s0_0 s0_1 + 7) = s0_2 * 31 + rd s0_0 s0_1 + 7 := IntWalk.i64_in _ (by omega); have v5 : (s0_2 * 31 + rd s0_0 s0_1 + 7).tmod 2147483648 = (s0_2 * 31 + rd s0_0 s0_1 + 7) % 2147483648 := Int.tmod_eq_emod_of_nonneg (by omega); have v6 : IntKind.i64.wrap (rd s0_0 s0_1) = rd s0_0 s0_1 := IntWalk.i64_in _ (by omega)
      repeat still_step
      refine wpStill_nil ?_; have k4 : (W2.setCell ⟨g, 2, none⟩ (.int .i64 ((s0_2 * 31 + rd s0_0 s0_1 + 7) % 2147483648))).cell? (ad.add s0_1.toNat) = some (.int .u8 (rd s0_0 s0_1)) := (World.cell?_setCell_far _ _ _ _ HNE.out).trans k3
      go_wp2
      go_quiet (fail)
      go_wp2
      go_ret
      exact ⟨rfl, IsS82.drewN (IsS82.set_2 i2.out _) _, pw_below_drewN (below_set b2.out HG.out) _, keep_drewN (KeepBut.set_ q2.out 2 _) _⟩


/-! ### spec_l01Cur_pick: function 38 -/
def spec_l01Cur_pick.f (s0_0 : List Int) (s0_1 : Int) (s0_2 : Int) (a1 : Int) : Option (Int × Int × Int) := if a1 ≤ 1 then (some (0, s0_1, s0_2)) else (if a1 ≤ 256 then ((spec_l01Cur_byte.f s0_0 s0_1 s0_2).bind fun bt650 => (if a1 = 0 then (none) else (some (Int.tmod bt650.1 a1, bt650.2.1, bt650.2.2)))) else ((spec_l01Cur_byte.f s0_0 s0_1 s0_2).bind fun bt653 => ((spec_l01Cur_byte.f s0_0 bt653.2.1 bt653.2.2).bind fun bt656 => (if a1 = 0 then (none) else (some (Int.tmod (wrap64 ((wrap64 (bt653.1 * 256)) + bt656.1)) a1, bt656.2.1, bt656.2.2))))))
set_option maxHeartbeats 8000000 in
set_option maxRecDepth 100000 in
theorem spec_l01Cur_pick.calls (g : Nat) (s0_0 : List Int) (s0_1 : Int) (s0_2 : Int) (a1 : Int) (r1 : Int) (r2 : Int) (r3 : Int) (w0 w : World) (hI : IsS82 w0 w g s0_0 s0_1 s0_2) (hB : Below w0.heap.size w0 w) (h : spec_l01Cur_pick.f s0_0 s0_1 s0_2 a1 = some (r1, r2, r3)) :
    Calls Try.prog 38 #[.pointer (some ⟨g, 0, none⟩), .int .i64 a1] w fun e w' => e = .returned (.int .i64 r1) ∧ IsS82 w0 w' g s0_0 r2 r3 ∧ Below w0.heap.size w0 w' ∧ KeepBut w w' g none := by
  have HI0 := Aside0.mk hI; have HK := Aside0.mk (KeepBut.refl w g none); have HL := Aside0.mk hB.size; clear hI; have HW0 := Aside0.mk hB.size; have HB := Aside0.mk hB; clear hB; have H : (if a1 ≤ 1 then (some (0, s0_1, s0_2)) else (if a1 ≤ 256 then ((spec_l01Cur_byte.f s0_0 s0_1 s0_2).bind fun bt650 => (if a1 = 0 then (none) else (some (Int.tmod bt650.1 a1, bt650.2.1, bt650.2.2)))) else ((spec_l01Cur_byte.f s0_0 s0_1 s0_2).bind fun bt653 => ((spec_l01Cur_byte.f s0_0 bt653.2.1 bt653.2.2).bind fun bt656 => (if a1 = 0 then (none) else (some (Int.tmod (wrap64 ((wrap64 (bt653.1 * 256)) + bt656.1)) a1, bt656.2.1, bt656.2.2))))))) = some (r1, r2, r3) := h; clear h
  by_cases c3 : a1 ≤ 1
  · rw [if_pos c3] at H
    have c3b0 : decide (a1 ≤ 1) = true := decide_eq_true c3; clear c3; simp only [Option.some.injEq, Prod.mk.injEq] at H; obtain ⟨rfl, rfl, rfl⟩ := H
    go_enter Try.func38, Try.ntmps38
    go_wp2
    go_ret
    exact ⟨by first | rfl | (simp [errW_none, errW_some] <;> rfl) | (simp [*, errW_none, errW_some] <;> rfl), by repeat (first | (with_reducible first | exact HI0.out | apply IsS82.alloc | apply IsS82.drewN | apply IsS82.drew | apply IsS82.set_1 | apply IsS82.set_2) | exact HI0.out), by repeat (first | (with_reducible first | exact HB.out | apply below_alloc | apply pw_below_drewN | apply below_drew1 | refine below_set ?_ (IsS82.ge HI0.out)) | exact HB.out), by repeat (first | (with_reducible first | exact HK.out | apply KeepBut.set_ | apply keep_drewN | apply keep_drew | apply keep_alloc) | exact HK.out)⟩
  · rw [if_neg c3] at H
    have c3b0 : decide (a1 ≤ 1) = false := decide_eq_false c3; clear c3
    by_cases c4 : a1 ≤ 256
    · rw [if_pos c4] at H
      have c4b0 : decide (a1 ≤ 256) = true := decide_eq_true c4; clear c4; replace H := Option.bind_eq_some_iff.mp H; obtain ⟨⟨t650, t651, t652⟩, A50, H⟩ := H; replace H : (if a1 = 0 then (none) else (some (Int.tmod t650 a1, t651, t652))) = some (r1, r2, r3) := H; have A5 := Aside0.mk A50; clear A50
      by_cases c6 : a1 = 0
      · rw [if_pos c6] at H
        exact absurd H (by simp)
      · rw [if_neg c6] at H
        have c6b0 : (a1 == 0) = false := beq_eq_false_iff_ne.mpr c6; have c6b1 : (a1 != 0) = true := bne_iff_ne.mpr c6; simp only [Option.some.injEq, Prod.mk.injEq] at H; obtain ⟨rfl, rfl, rfl⟩ := H
        go_enter Try.func38, Try.ntmps38
        go_wp2_with (first | ((with_reducible refine gate_callee (f := 57) rfl ?_); refine goesL_ (some 12) rfl rfl Try.func57 (by kernel_rfl) rfl #[.pointer (some ⟨g, 0, none⟩)] rfl (by (try simp only [List.map_toArray, List.map_cons, List.map_nil]); first | done | rfl | (simp only [List.length_drop, List.length_take]; rfl)) ?_; (with_reducible refine (spec_l01Cur_byte.calls g s0_0 s0_1 s0_2 t650 t651 t652 w0 _ ?side1 ?side2 A5.out).mono ?_); (case side1 => exact (by repeat (first | (with_reducible first | exact HI0.out | apply IsS82.alloc | apply IsS82.drewN | apply IsS82.drew | apply IsS82.set_1 | apply IsS82.set_2) | exact HI0.out))); (case side2 => exact (by repeat (first | (with_reducible first | exact HB.out | apply below_alloc | apply pw_below_drewN | apply below_drew1 | refine below_set ?_ (IsS82.ge HI0.out)) | exact HB.out))); rintro e w7 ⟨rfl, hi, hb, hk⟩; refine ⟨_, rfl, ?_⟩; have n0_ := Aside0.mk (KeepBut.trans (by repeat (first | (with_reducible first | exact HK.out | apply KeepBut.set_ | apply keep_drewN | apply keep_drew | apply keep_alloc) | exact HK.out)) hk (.inl rfl)); have n1_ := Aside0.mk (hb); have n2_ := Aside0.mk (hi); clear HK; clear HB; clear HI0; have HK := n0_; have HB := n1_; have HI0 := n2_; clear n0_ n1_ n2_; (try clear hb); (try clear hb2); (try clear hk); (try clear hi)))
        go_ret
        exact ⟨by first | rfl | (simp [errW_none, errW_some] <;> rfl) | (simp [*, errW_none, errW_some] <;> rfl), by repeat (first | (with_reducible first | exact HI0.out | apply IsS82.alloc | apply IsS82.drewN | apply IsS82.drew | apply IsS82.set_1 | apply IsS82.set_2) | exact HI0.out), by repeat (first | (with_reducible first | exact HB.out | apply below_alloc | apply pw_below_drewN | apply below_drew1 | refine below_set ?_ (IsS82.ge HI0.out)) | exact HB.out), by repeat (first | (with_reducible first | exact HK.out | apply KeepBut.set_ | apply keep_drewN | apply keep_drew | apply keep_alloc) | exact HK.out)⟩
    · rw [if_neg c4] at H
      have c4b0 : decide (a1 ≤ 256) = false := decide_eq_false c4; clear c4; replace H := Option.bind_eq_some_iff.mp H; obtain ⟨⟨t653, t654, t655⟩, A80, H⟩ := H; replace H : ((spec_l01Cur_byte.f s0_0 t654 t655).bind fun bt656 => (if a1 = 0 then (none) else (some (Int.tmod (wrap64 ((wrap64 (t653 * 256)) + bt656.1)) a1, bt656.2.1, bt656.2.2)))) = some (r1, r2, r3) := H; have A8 := Aside0.mk A80; clear A80; replace H := Option.bind_eq_some_iff.mp H; obtain ⟨⟨t656, t657, t658⟩, A90, H⟩ := H; replace H : (if a1 = 0 then (none) else (some (Int.tmod (wrap64 ((wrap64 (t653 * 256)) + t656)) a1, t657, t658))) = some (r1, r2, r3) := H; have A9 := Aside0.mk A90; clear A90
      by_cases c10 : a1 = 0
      · rw [if_pos c10] at H
        exact absurd H (by simp)
      · rw [if_neg c10] at H
        have c10b0 : (a1 == 0) = false := beq_eq_false_iff_ne.mpr c10; have c10b1 : (a1 != 0) = true := bne_iff_ne.mpr c10; simp only [Option.some.injEq, Prod.mk.injEq] at H; obtain ⟨rfl, rfl, rfl⟩ := H
        go_enter Try.func38, Try.ntmps38
        go_wp2_with (first | ((with_reducible refine gate_callee (f := 57) rfl ?_); refine goesL_ (some 16) rfl rfl Try.func57 (by kernel_rfl) rfl #[.pointer (some ⟨g, 0, none⟩)] rfl (by (try simp only [List.map_toArray, List.map_cons, List.map_nil]); first | done | rfl | (simp only [List.length_drop, List.length_take]; rfl)) ?_; (with_reducible refine (spec_l01Cur_byte.calls g s0_0 s0_1 s0_2 t653 t654 t655 w0 _ ?side1 ?side2 A8.out).mono ?_); (case side1 => exact (by repeat (first | (with_reducible first | exact HI0.out | apply IsS82.alloc | apply IsS82.drewN | apply IsS82.drew | apply IsS82.set_1 | apply IsS82.set_2) | exact HI0.out))); (case side2 => exact (by repeat (first | (with_reducible first | exact HB.out | apply below_alloc | apply pw_below_drewN | apply below_drew1 | refine below_set ?_ (IsS82.ge HI0.out)) | exact HB.out))); rintro e w11 ⟨rfl, hi, hb, hk⟩; refine ⟨_, rfl, ?_⟩; have n0_ := Aside0.mk (KeepBut.trans (by repeat (first | (with_reducible first | exact HK.out | apply KeepBut.set_ | apply keep_drewN | apply keep_drew | apply keep_alloc) | exact HK.out)) hk (.inl rfl)); have n1_ := Aside0.mk (hb); have n2_ := Aside0.mk (hi); clear HK; clear HB; clear HI0; have HK := n0_; have HB := n1_; have HI0 := n2_; clear n0_ n1_ n2_; (try clear hb); (try clear hb2); (try clear hk); (try clear hi)) | ((with_reducible refine gate_callee (f := 57) rfl ?_); refine goesL_ (some 18) rfl rfl Try.func57 (by kernel_rfl) rfl #[.pointer (some ⟨g, 0, none⟩)] rfl (by (try simp only [List.map_toArray, List.map_cons, List.map_nil]); first | done | rfl | (simp only [List.length_drop, List.length_take]; rfl)) ?_; (with_reducible refine (spec_l01Cur_byte.calls g s0_0 t654 t655 t656 t657 t658 w0 _ ?side1 ?side2 A9.out).mono ?_); (case side1 => exact (by repeat (first | (with_reducible first | exact HI0.out | apply IsS82.alloc | apply IsS82.drewN | apply IsS82.drew | apply IsS82.set_1 | apply IsS82.set_2) | exact HI0.out))); (case side2 => exact (by repeat (first | (with_reducible first | exact HB.out | apply below_alloc | apply pw_below_drewN | apply below_drew1 | refine below_set ?_ (IsS82.ge HI0.out)) | exact HB.out))); rintro e w12 ⟨rfl, hi, hb, hk⟩; refine ⟨_, rfl, ?_⟩; have n0_ := Aside0.mk (KeepBut.trans (by repeat (first | (with_reducible first | exact HK.out | apply KeepBut.set_ | apply keep_drewN | apply keep_drew | apply keep_alloc) | exact HK.out)) hk (.inl rfl)); have n1_ := Aside0.mk (hb); have n2_ := Aside0.mk (hi); clear HK; clear HB; clear HI0; have HK := n0_; have HB := n1_; have HI0 := n2_; clear n0_ n1_ n2_; (try clear hb); (try clear hb2); (try clear hk); (try clear hi)))
        go_ret
        exact ⟨by first | rfl | (simp [errW_none, errW_some] <;> rfl) | (simp [*, errW_none, errW_some] <;> rfl), by repeat (first | (with_reducible first | exact HI0.out | apply IsS82.alloc | apply IsS82.drewN | apply IsS82.drew | apply IsS82.set_1 | apply IsS82.set_2) | exact HI0.out), by repeat (first | (with_reducible first | exact HB.out | apply below_alloc | apply pw_below_drewN | apply below_drew1 | refine below_set ?_ (IsS82.ge HI0.out)) | exact HB.out), by repeat (first | (with_reducible first | exact HK.out | apply KeepBut.set_ | apply keep_drewN | apply keep_drew | apply keep_alloc) | exact HK.out)⟩

/-! ### spec_l01Truth: function 50 -/
def spec_l01Truth.f (a0 : Bool) : Option (Int × Int × Int × ByteArray) := if a0 = true then (some (1, 1, 0, (⟨#[]⟩ : ByteArray))) else (some (1, 0, 0, (⟨#[]⟩ : ByteArray)))
set_option maxHeartbeats 8000000 in
set_option maxRecDepth 100000 in
theorem spec_l01Truth.calls (a0 : Bool) (r1 : Int) (r2 : Int) (r3 : Int) (r4 : ByteArray) (w : World) (h : spec_l01Truth.f a0 = some (r1, r2, r3, r4)) :
    Calls Try.prog 50 #[.bool a0] w fun e w' => e = .returned (.agg #[.int .i64 r1, .int .i64 r2, .int .i64 r3, .string r4]) ∧ Below w.heap.size w w' := by
  have hu42 := Try.underlying42; have HB := Aside0.mk (Below.refl w.heap.size w); have H : (if a0 = true then (some (1, 1, 0, (⟨#[]⟩ : ByteArray))) else (some (1, 0, 0, (⟨#[]⟩ : ByteArray)))) = some (r1, r2, r3, r4) := h; clear h
  by_cases c2 : a0 = true
  · subst c2
    have H1 : (some (1, 1, 0, (⟨#[]⟩ : ByteArray))) = some (r1, r2, r3, r4) := by rw [if_pos rfl] at H; exact H
    clear H; have H := H1; clear H1; simp only [Option.some.injEq, Prod.mk.injEq] at H; obtain ⟨rfl, rfl, rfl, rfl⟩ := H
    go_enter Try.func50, Try.ntmps50
    go_wp2_with (first | ((with_reducible refine gate_dst (N := 2) rfl ?_); refine box_event ?hg (N := 2) ?hd (cs := #[.int .i64 0, .int .i64 0, .int .i64 0, .string (⟨#[]⟩ : ByteArray)]) (t := 42) ?hr ?_; (case hd => rfl); (case hg => rfl); (case hr => first | (go_simp; done) | (go_simp; rfl)); intro gb659 hg w3 hbox hb; have n0_ := Aside0.mk (below_step q7z1 hb); have n1_ := Aside0.mk (hbox); have n2_ := Aside0.mk ((by rw [hg]; exact (below_size q7z1) : w.heap.size ≤ gb659)); have n3_ := Aside0.mk ((by rw [hg]; exact (below_size q7z1) : w.heap.size ≤ gb659)); clear HB; have HB := n0_; have BK659 := n1_; have GW659 := n2_; have GE659 := n3_; clear n0_ n1_ n2_ n3_; clear hb hbox hg; have hcz4_0 : w3.cell? ⟨gb659, 0, none⟩ = some (.int .i64 0) := (blk_cell BK659.out 0).trans rfl; have hcz4_1 : w3.cell? ⟨gb659, 1, none⟩ = some (.int .i64 0) := (blk_cell BK659.out 1).trans rfl; have hcz4_2 : w3.cell? ⟨gb659, 2, none⟩ = some (.int .i64 0) := (blk_cell BK659.out 2).trans rfl; have hcz4_3 : w3.cell? ⟨gb659, 3, none⟩ = some (.string (⟨#[]⟩ : ByteArray)) := (blk_cell BK659.out 3).trans rfl; have hfz4_0 := blk_frozen BK659.out 0; have hfz4_1 := blk_frozen BK659.out 1; have hfz4_2 := blk_frozen BK659.out 2; have hfz4_3 := blk_frozen BK659.out 3))
    refine bodyPost_ret (results_cell_row rfl _ _ gb659 42 #[.int .i64 1, .int .i64 1, .int .i64 0, .string (⟨#[]⟩ : ByteArray)] (0, 0) _ rfl (by (with_reducible repeat (first | refine blk_drewN ?_ _ | refine blk_drew ?_ | refine blk_alloc ?_ _)); refine blk_put (cs := #[.int .i64 1, .int .i64 1, .int .i64 0, .string (⟨#[]⟩ : ByteArray)]) ?_ 3 _ rfl; (with_reducible repeat (first | refine blk_drewN ?_ _ | refine blk_drew ?_ | refine blk_alloc ?_ _)); refine blk_put (cs := #[.int .i64 1, .int .i64 1, .int .i64 0, .string (⟨#[]⟩ : ByteArray)]) ?_ 2 _ rfl; (with_reducible repeat (first | refine blk_drewN ?_ _ | refine blk_drew ?_ | refine blk_alloc ?_ _)); refine blk_put (cs := #[.int .i64 1, .int .i64 0, .int .i64 0, .string (⟨#[]⟩ : ByteArray)]) ?_ 1 _ rfl; (with_reducible repeat (first | refine blk_drewN ?_ _ | refine blk_drew ?_ | refine blk_alloc ?_ _)); refine blk_put (cs := #[.int .i64 0, .int .i64 0, .int .i64 0, .string (⟨#[]⟩ : ByteArray)]) ?_ 0 _ rfl; (with_reducible repeat (first | refine blk_drewN ?_ _ | refine blk_drew ?_ | refine blk_alloc ?_ _)); exact BK659.out) Try.underlying42 rfl (by kernel_rfl)) rfl ?_; exact ⟨by first | rfl | (simp [errW_none, errW_some] <;> rfl) | (simp [*, errW_none, errW_some] <;> rfl), by repeat (first | (with_reducible first | exact HB.out | apply below_alloc | apply pw_below_drewN | apply below_drew1 | refine below_set ?_ GE659.out) | exact HB.out)⟩
  · replace c2 := Bool.eq_false_iff.mpr c2
    subst c2
    have H1 : (some (1, 0, 0, (⟨#[]⟩ : ByteArray))) = some (r1, r2, r3, r4) := by rw [if_neg (show ¬ (false = true) by decide)] at H; exact H
    clear H; have H := H1; clear H1; simp only [Option.some.injEq, Prod.mk.injEq] at H; obtain ⟨rfl, rfl, rfl, rfl⟩ := H
    go_enter Try.func50, Try.ntmps50
    go_wp2_with (first | ((with_reducible refine gate_dst (N := 2) rfl ?_); refine box_event ?hg (N := 2) ?hd (cs := #[.int .i64 0, .int .i64 0, .int .i64 0, .string (⟨#[]⟩ : ByteArray)]) (t := 42) ?hr ?_; (case hd => rfl); (case hg => rfl); (case hr => first | (go_simp; done) | (go_simp; rfl)); intro gb659 hg w5 hbox hb; have n0_ := Aside0.mk (below_step q7z1 hb); have n1_ := Aside0.mk (hbox); have n2_ := Aside0.mk ((by rw [hg]; exact (below_size q7z1) : w.heap.size ≤ gb659)); have n3_ := Aside0.mk ((by rw [hg]; exact (below_size q7z1) : w.heap.size ≤ gb659)); clear HB; have HB := n0_; have BK659 := n1_; have GW659 := n2_; have GE659 := n3_; clear n0_ n1_ n2_ n3_; clear hb hbox hg; have hcz6_0 : w5.cell? ⟨gb659, 0, none⟩ = some (.int .i64 0) := (blk_cell BK659.out 0).trans rfl; have hcz6_1 : w5.cell? ⟨gb659, 1, none⟩ = some (.int .i64 0) := (blk_cell BK659.out 1).trans rfl; have hcz6_2 : w5.cell? ⟨gb659, 2, none⟩ = some (.int .i64 0) := (blk_cell BK659.out 2).trans rfl; have hcz6_3 : w5.cell? ⟨gb659, 3, none⟩ = some (.string (⟨#[]⟩ : ByteArray)) := (blk_cell BK659.out 3).trans rfl; have hfz6_0 := blk_frozen BK659.out 0; have hfz6_1 := blk_frozen BK659.out 1; have hfz6_2 := blk_frozen BK659.out 2; have hfz6_3 := blk_frozen BK659.out 3))
    refine bodyPost_ret (results_cell_row rfl _ _ gb659 42 #[.int .i64 1, .int .i64 0, .int .i64 0, .string (⟨#[]⟩ : ByteArray)] (0, 0) _ rfl (by (with_reducible repeat (first | refine blk_drewN ?_ _ | refine blk_drew ?_ | refine blk_alloc ?_ _)); refine blk_put (cs := #[.int .i64 1, .int .i64 0, .int .i64 0, .string (⟨#[]⟩ : ByteArray)]) ?_ 3 _ rfl; (with_reducible repeat (first | refine blk_drewN ?_ _ | refine blk_drew ?_ | refine blk_alloc ?_ _)); refine blk_put (cs := #[.int .i64 1, .int .i64 0, .int .i64 0, .string (⟨#[]⟩ : ByteArray)]) ?_ 2 _ rfl; (with_reducible repeat (first | refine blk_drewN ?_ _ | refine blk_drew ?_ | refine blk_alloc ?_ _)); refine blk_put (cs := #[.int .i64 1, .int .i64 0, .int .i64 0, .string (⟨#[]⟩ : ByteArray)]) ?_ 1 _ rfl; (with_reducible repeat (first | refine blk_drewN ?_ _ | refine blk_drew ?_ | refine blk_alloc ?_ _)); refine blk_put (cs := #[.int .i64 0, .int .i64 0, .int .i64 0, .string (⟨#[]⟩ : ByteArray)]) ?_ 0 _ rfl; (with_reducible repeat (first | refine blk_drewN ?_ _ | refine blk_drew ?_ | refine blk_alloc ?_ _)); exact BK659.out) Try.underlying42 rfl (by kernel_rfl)) rfl ?_; exact ⟨by first | rfl | (simp [errW_none, errW_some] <;> rfl) | (simp [*, errW_none, errW_some] <;> rfl), by repeat (first | (with_reducible first | exact HB.out | apply below_alloc | apply pw_below_drewN | apply below_drew1 | refine below_set ?_ GE659.out) | exact HB.out)⟩

/-! ### spec_l01Num: function 52 -/
def spec_l01Num.f (a0 : Int) : Option (Int × Int × Int × ByteArray) := some (2, a0, 0, (⟨#[]⟩ : ByteArray))
set_option maxHeartbeats 8000000 in
set_option maxRecDepth 100000 in
theorem spec_l01Num.calls (a0 : Int) (r1 : Int) (r2 : Int) (r3 : Int) (r4 : ByteArray) (w : World) (h : spec_l01Num.f a0 = some (r1, r2, r3, r4)) :
    Calls Try.prog 52 #[.int .i64 a0] w fun e w' => e = .returned (.agg #[.int .i64 r1, .int .i64 r2, .int .i64 r3, .string r4]) ∧ Below w.heap.size w w' := by
  have hu42 := Try.underlying42; have HB := Aside0.mk (Below.refl w.heap.size w); have H : (some (2, a0, 0, (⟨#[]⟩ : ByteArray))) = some (r1, r2, r3, r4) := h; clear h; simp only [Option.some.injEq, Prod.mk.injEq] at H; obtain ⟨rfl, rfl, rfl, rfl⟩ := H
  go_enter Try.func52, Try.ntmps52
  go_wp2_with (first | ((with_reducible refine gate_dst (N := 2) rfl ?_); refine box_event ?hg (N := 2) ?hd (cs := #[.int .i64 0, .int .i64 0, .int .i64 0, .string (⟨#[]⟩ : ByteArray)]) (t := 42) ?hr ?_; (case hd => rfl); (case hg => rfl); (case hr => first | (go_simp; done) | (go_simp; rfl)); intro gb660 hg w2 hbox hb; have n0_ := Aside0.mk (below_step q7z1 hb); have n1_ := Aside0.mk (hbox); have n2_ := Aside0.mk ((by rw [hg]; exact (below_size q7z1) : w.heap.size ≤ gb660)); have n3_ := Aside0.mk ((by rw [hg]; exact (below_size q7z1) : w.heap.size ≤ gb660)); clear HB; have HB := n0_; have BK660 := n1_; have GW660 := n2_; have GE660 := n3_; clear n0_ n1_ n2_ n3_; clear hb hbox hg; have hcz3_0 : w2.cell? ⟨gb660, 0, none⟩ = some (.int .i64 0) := (blk_cell BK660.out 0).trans rfl; have hcz3_1 : w2.cell? ⟨gb660, 1, none⟩ = some (.int .i64 0) := (blk_cell BK660.out 1).trans rfl; have hcz3_2 : w2.cell? ⟨gb660, 2, none⟩ = some (.int .i64 0) := (blk_cell BK660.out 2).trans rfl; have hcz3_3 : w2.cell? ⟨gb660, 3, none⟩ = some (.string (⟨#[]⟩ : ByteArray)) := (blk_cell BK660.out 3).trans rfl; have hfz3_0 := blk_frozen BK660.out 0; have hfz3_1 := blk_frozen BK660.out 1; have hfz3_2 := blk_frozen BK660.out 2; have hfz3_3 := blk_frozen BK660.out 3))
  refine bodyPost_ret (results_cell_row rfl _ _ gb660 42 #[.int .i64 2, .int .i64 a0, .int .i64 0, .string (⟨#[]⟩ : ByteArray)] (0, 0) _ rfl (by (with_reducible repeat (first | refine blk_drewN ?_ _ | refine blk_drew ?_ | refine blk_alloc ?_ _)); refine blk_put (cs := #[.int .i64 2, .int .i64 a0, .int .i64 0, .string (⟨#[]⟩ : ByteArray)]) ?_ 3 _ rfl; (with_reducible repeat (first | refine blk_drewN ?_ _ | refine blk_drew ?_ | refine blk_alloc ?_ _)); refine blk_put (cs := #[.int .i64 2, .int .i64 a0, .int .i64 0, .string (⟨#[]⟩ : ByteArray)]) ?_ 2 _ rfl; (with_reducible repeat (first | refine blk_drewN ?_ _ | refine blk_drew ?_ | refine blk_alloc ?_ _)); refine blk_put (cs := #[.int .i64 2, .int .i64 0, .int .i64 0, .string (⟨#[]⟩ : ByteArray)]) ?_ 1 _ rfl; (with_reducible repeat (first | refine blk_drewN ?_ _ | refine blk_drew ?_ | refine blk_alloc ?_ _)); refine blk_put (cs := #[.int .i64 0, .int .i64 0, .int .i64 0, .string (⟨#[]⟩ : ByteArray)]) ?_ 0 _ rfl; (with_reducible repeat (first | refine blk_drewN ?_ _ | refine blk_drew ?_ | refine blk_alloc ?_ _)); exact BK660.out) Try.underlying42 rfl (by kernel_rfl)) rfl ?_; exact ⟨by first | rfl | (simp [errW_none, errW_some] <;> rfl) | (simp [*, errW_none, errW_some] <;> rfl), by repeat (first | (with_reducible first | exact HB.out | apply below_alloc | apply pw_below_drewN | apply below_drew1 | refine below_set ?_ GE660.out) | exact HB.out)⟩

/-! ### spec_l01Half: function 60 -/
set_option maxRecDepth 100000 in
mutual
def spec_l01Half.j0 : Nat → Int → Int → Bool → Option (Int)
  | 0, _, _, _ => none
  | k + 1, x0, x1, x5 => if x1 = 0 then (none) else (if (wrap64 (2 * (Int.tmod x0 x1))) > x1 then (spec_l01Half.j1 k x5 (wrap64 (Int.tdiv x0 x1)) true) else (if (wrap64 (2 * (Int.tmod x0 x1))) = x1 then (spec_l01Half.j1 k x5 (wrap64 (Int.tdiv x0 x1)) ((Int.tmod (wrap64 (Int.tdiv x0 x1)) 2) == 1)) else (spec_l01Half.j1 k x5 (wrap64 (Int.tdiv x0 x1)) false)))
def spec_l01Half.j1 : Nat → Bool → Int → Bool → Option (Int)
  | 0, _, _, _ => none
  | k + 1, x5, x6, x33 => if x33 = true then (if x5 = true then (some (wrap64 (-(wrap64 (x6 + 1))))) else (some (wrap64 (x6 + 1)))) else (if x5 = true then (some (wrap64 (-x6))) else (some x6))
end
def spec_l01Half.f (k : Nat) (a0 : Int) (a1 : Int) : Option (Int) := if a0 < 0 then (spec_l01Half.j0 k (wrap64 (-a0)) a1 (decide (a0 < 0))) else (spec_l01Half.j0 k a0 a1 (decide (a0 < 0)))
set_option maxHeartbeats 8000000 in
set_option maxRecDepth 100000 in
theorem spec_l01Half.calls (k : Nat) (a0 : Int) (a1 : Int) (r : Int) (w : World) (h : spec_l01Half.f k a0 a1 = some r) :
    Calls Try.prog 60 #[.int .i64 a0, .int .i64 a1] w fun e w' => e = .returned (.int .i64 r) ∧ Drawn0 w w' := by
  have H : (if a0 < 0 then (spec_l01Half.j0 k (wrap64 (-a0)) a1 (decide (a0 < 0))) else (spec_l01Half.j0 k a0 a1 (decide (a0 < 0)))) = some r := h; clear h; have HC3 := Aside0.mk H; clear H
  go_enter Try.func60, Try.ntmps60
  go_upto_if 10 with (fail)
  go_cut [0] (fun v0 wc => ∃ (kq : Nat) (x0_2 : Int), v0 = .int .i64 x0_2 ∧ Aside0 (spec_l01Half.j0 kq x0_2 a1 (decide (a0 < 0)) = some r) ∧ Aside0 (kq ≤ k) ∧ Drawn0 w wc)
  case first =>
    have H := HC3.out; clear HC3
    by_cases c4 : a0 < 0
    · rw [if_pos c4] at H
      have c4b0 : decide (a0 < 0) = true := decide_eq_true c4; clear c4; (first | rw [c4b0] | (simp only [i64_w, i32_w]; rw [c4b0]) | skip); have H' := Aside0.mk H; clear H
      go_wp2
      rw [show Value.bool true = Value.bool (decide (a0 < 0)) from by rw [c4b0]]
      go_meet
      case rel => exact ⟨_, (wrap64 (-a0)), (by first | rfl | (simp; done) | (simp [*]; done)), H', ⟨by first | omega | exact Nat.le_refl _⟩, by repeat (first | exact Drawn0.refl _ | apply Drawn0.step)⟩
    · rw [if_neg c4] at H
      have c4b0 : decide (a0 < 0) = false := decide_eq_false c4; clear c4; (first | rw [c4b0] | (simp only [i64_w, i32_w]; rw [c4b0]) | skip); have H' := Aside0.mk H; clear H
      go_wp2
      rw [show Value.bool false = Value.bool (decide (a0 < 0)) from by rw [c4b0]]
      go_meet
      case rel => exact ⟨_, (a0), (by first | rfl | (simp; done) | (simp [*]; done)), H', ⟨by first | omega | exact Nat.le_refl _⟩, by repeat (first | exact Drawn0.refl _ | apply Drawn0.step)⟩
  case rest =>
    clear HC3; (try clear p2); (try clear c4); (try clear c4b0); obtain ⟨kq, x0_2, rfl, HA, HJ2, ⟨mc2, rfl⟩⟩ := hcut
    cases kq with
    | zero => exact absurd HA.out (by simp [spec_l01Half.j0])
    | succ kj2 =>
      have H := HA.out; clear HA; simp only [spec_l01Half.j0] at H
      by_cases c5 : a1 = 0
      · rw [if_pos c5] at H
        exact absurd H (by simp)
      · rw [if_neg c5] at H
        have c5b0 : (a1 == 0) = false := beq_eq_false_iff_ne.mpr c5; have c5b1 : (a1 != 0) = true := bne_iff_ne.mpr c5; have HC6 := Aside0.mk H; clear H
        go_upto_region 6 with (fail)
        go_cut [33] (fun v33 wc => ∃ (kq : Nat) (x33_5 : Bool), v33 = .bool x33_5 ∧ Aside0 (spec_l01Half.j1 kq (decide (a0 < 0)) (wrap64 (Int.tdiv x0_2 a1)) x33_5 = some r) ∧ Aside0 (kq ≤ kj2) ∧ Drawn0 w wc)
        case first =>
          have H := HC6.out; clear HC6
          by_cases c7 : (wrap64 (2 * (Int.tmod x0_2 a1))) > a1
          · rw [if_pos c7] at H
            have c7b0 : decide (a1 < (wrap64 (2 * (Int.tmod x0_2 a1)))) = true := decide_eq_true c7; clear c7; (first | rw [c7b0] | (simp only [i64_w, i32_w]; rw [c7b0]) | skip); have H' := Aside0.mk H; clear H
            go_wp2
            go_meet
            case rel => exact ⟨_, (true), (by first | rfl | (simp; done) | (simp [*]; done)), H', ⟨by have := HJ2.out; first | omega | exact Nat.le_refl _⟩, by repeat (first | exact Drawn0.refl _ | apply Drawn0.step)⟩
          · rw [if_neg c7] at H
            have c7b0 : decide (a1 < (wrap64 (2 * (Int.tmod x0_2 a1)))) = false := decide_eq_false c7; clear c7; (first | rw [c7b0] | (simp only [i64_w, i32_w]; rw [c7b0]) | skip)
            by_cases c8 : (wrap64 (2 * (Int.tmod x0_2 a1))) = a1
            · rw [if_pos c8] at H
              have c8b0 : ((wrap64 (2 * (Int.tmod x0_2 a1))) == a1) = true := beq_iff_eq.mpr c8; have c8b1 : ((wrap64 (2 * (Int.tmod x0_2 a1))) != a1) = false := bne_eq_false_iff_eq.mpr c8; clear c8; have H' := Aside0.mk H; clear H
              go_wp2
              go_meet
              case rel => exact ⟨_, (((Int.tmod (wrap64 (Int.tdiv x0_2 a1)) 2) == 1)), (by first | rfl | (simp; done) | (simp [*]; done)), H', ⟨by have := HJ2.out; first | omega | exact Nat.le_refl _⟩, by repeat (first | exact Drawn0.refl _ | apply Drawn0.step)⟩
            · rw [if_neg c8] at H
              have c8b0 : ((wrap64 (2 * (Int.tmod x0_2 a1))) == a1) = false := beq_eq_false_iff_ne.mpr c8; have c8b1 : ((wrap64 (2 * (Int.tmod x0_2 a1))) != a1) = true := bne_iff_ne.mpr c8; have H' := Aside0.mk H; clear H
              go_wp2
              go_meet
              case rel => exact ⟨_, (false), (by first | rfl | (simp; done) | (simp [*]; done)), H', ⟨by have := HJ2.out; first | omega | exact Nat.le_refl _⟩, by repeat (first | exact Drawn0.refl _ | apply Drawn0.step)⟩
        case rest =>
          clear HC6; (try clear c2); (try clear p2); (try clear c4); (try clear c4b0); (try clear c5); (try clear c5b0); (try clear c5b1); (try clear c6); (try clear p6); (try clear c7); (try clear c7b0); (try clear c8); (try clear c8b0); (try clear c8b1); (try clear p2); obtain ⟨kq, x33_5, rfl, HA, HJ5, ⟨mc5, rfl⟩⟩ := hcut
          cases kq with
          | zero => exact absurd HA.out (by simp [spec_l01Half.j1])
          | succ kj5 =>
            have H := HA.out; clear HA; simp only [spec_l01Half.j1] at H
            by_cases c9 : x33_5 = true
            · subst c9
              have H1 : (if (decide (a0 < 0)) = true then (some (wrap64 (-(wrap64 ((wrap64 (Int.tdiv x0_2 a1)) + 1))))) else (some (wrap64 ((wrap64 (Int.tdiv x0_2 a1)) + 1)))) = some r := by rw [if_pos rfl] at H; exact H
              clear H; have H := H1; clear H1
              by_cases c10 : (decide (a0 < 0)) = true
              · rw [if_pos c10] at H
                have c10b0 : (decide (a0 < 0)) = true := c10; clear c10; obtain rfl := Option.some.inj H; (first | rw [c10b0] | skip)
                go_wp2
                go_ret
                exact ⟨by first | rfl | (simp; done) | (simp [*]; done), by repeat (first | exact Drawn0.refl _ | apply Drawn0.step)⟩
              · rw [if_neg c10] at H
                have c10b0 : (decide (a0 < 0)) = false := by simpa using c10
                clear c10; obtain rfl := Option.some.inj H; (first | rw [c10b0] | skip)
                go_wp2
                go_ret
                exact ⟨by first | rfl | (simp; done) | (simp [*]; done), by repeat (first | exact Drawn0.refl _ | apply Drawn0.step)⟩
            · replace c9 := Bool.eq_false_iff.mpr c9
              subst c9
              have H1 : (if (decide (a0 < 0)) = true then (some (wrap64 (-(wrap64 (Int.tdiv x0_2 a1))))) else (some (wrap64 (Int.tdiv x0_2 a1)))) = some r := by rw [if_neg (show ¬ (false = true) by decide)] at H; exact H
              clear H; have H := H1; clear H1
              by_cases c11 : (decide (a0 < 0)) = true
              · rw [if_pos c11] at H
                have c11b0 : (decide (a0 < 0)) = true := c11; clear c11; obtain rfl := Option.some.inj H; (first | rw [c11b0] | skip)
                go_wp2
                go_ret
                exact ⟨by first | rfl | (simp; done) | (simp [*]; done), by repeat (first | exact Drawn0.refl _ | apply Drawn0.step)⟩
              · rw [if_neg c11] at H
                have c11b0 : (decide (a0 < 0)) = false := by simpa using c11
                clear c11; obtain rfl := Option.some.inj H; (first | rw [c11b0] | skip)
                go_wp2
                go_ret
                exact ⟨by first | rfl | (simp; done) | (simp [*]; done), by repeat (first | exact Drawn0.refl _ | apply Drawn0.step)⟩

/-! ### spec_l01Decimal: function 53 -/
set_option maxRecDepth 100000 in
mutual
def spec_l01Decimal.l0 : Nat → Int → Int → Option (Int × Int × Int × ByteArray × Int)
  | 0, _, _ => none
  | k + 1, x0, x1 => if x1 > 6 then ((spec_l01Power.f k (wrap64 (x1 - 6))).bind fun t662 => ((spec_l01Half.f k x0 t662).bind fun t663 => (spec_l01Decimal.l0 k t663 6))) else (spec_l01Decimal.l1 k x0 x1)
def spec_l01Decimal.l1 : Nat → Int → Int → Option (Int × Int × Int × ByteArray × Int)
  | 0, _, _ => none
  | k + 1, x0, x1 => if x1 > 0 then (if (Int.tmod x0 10) = 0 then (spec_l01Decimal.l1 k (wrap64 (Int.tdiv x0 10)) (wrap64 (x1 - 1))) else (if x0 > 1000000000 then (some (0, 0, 0, (⟨#[]⟩ : ByteArray), 3)) else (if x0 < (-1000000000) then (some (0, 0, 0, (⟨#[]⟩ : ByteArray), 3)) else (some (3, x0, x1, (⟨#[]⟩ : ByteArray), 0))))) else (if x0 > 1000000000 then (some (0, 0, 0, (⟨#[]⟩ : ByteArray), 3)) else (if x0 < (-1000000000) then (some (0, 0, 0, (⟨#[]⟩ : ByteArray), 3)) else (some (3, x0, x1, (⟨#[]⟩ : ByteArray), 0))))
end
def spec_l01Decimal.f (k : Nat) (a0 : Int) (a1 : Int) : Option (Int × Int × Int × ByteArray × Int) := spec_l01Decimal.l0 k a0 a1
set_option maxHeartbeats 8000000 in
set_option maxRecDepth 100000 in
theorem spec_l01Decimal.calls (k : Nat) (a0 : Int) (a1 : Int) (r1 : Int) (r2 : Int) (r3 : Int) (r4 : ByteArray) (r5 : Int) (w : World) (h : spec_l01Decimal.f k a0 a1 = some (r1, r2, r3, r4, r5)) :
    Calls Try.prog 53 #[.int .i64 a0, .int .i64 a1] w fun e w' => e = .returned (.tuple #[.agg #[.int .i64 r1, .int .i64 r2, .int .i64 r3, .string r4], .int .i64 r5]) ∧ Below w.heap.size w w' := by
  have hu42 := Try.underlying42; have HB := Aside0.mk (Below.refl w.heap.size w); have H : (spec_l01Decimal.l0 k a0 a1) = some (r1, r2, r3, r4, r5) := h; clear h; have H' := Aside0.mk H; clear H
  go_enter Try.func53, Try.ntmps53
  go_wp2_with (first | ((with_reducible refine gate_dst (N := 4) rfl ?_); refine box_event ?hg (N := 4) ?hd (cs := #[.int .i64 0, .int .i64 0, .int .i64 0, .string (⟨#[]⟩ : ByteArray)]) (t := 42) ?hr ?_; (case hd => rfl); (case hg => rfl); (case hr => first | (go_simp; done) | (go_simp; rfl)); intro gb661 hg w3 hbox hb; have n0_ := Aside0.mk (below_step q7z1 hb); have n1_ := Aside0.mk (hbox); have n2_ := Aside0.mk ((by rw [hg]; exact (below_size q7z1) : w.heap.size ≤ gb661)); have n3_ := Aside0.mk ((by rw [hg]; exact (below_size q7z1) : w.heap.size ≤ gb661)); clear HB; have HB := n0_; have BK661 := n1_; have GW661 := n2_; have GE661 := n3_; clear n0_ n1_ n2_ n3_; clear hb hbox hg))
  go_loopg [0, 1] k (fun kq v0 v1 w' => ∃ (x0_1 : Int) (x1_1 : Int), v0 = .int .i64 x0_1 ∧ v1 = .int .i64 x1_1 ∧ Aside0 (spec_l01Decimal.l0 kq x0_1 x1_1 = some (r1, r2, r3, r4, r5)) ∧ Aside0 (kq ≤ k) ∧ Aside0 (w'.heap[gb661]? = some (.cells #[.int .i64 0, .int .i64 0, .int .i64 0, .string (⟨#[]⟩ : ByteArray)] 42 (0, 0))) ∧ Aside0 (Below w.heap.size w w'))
  case atStart => exact ⟨(a0), (a1), (by first | rfl | (simp; done) | (simp [*]; done)), (by first | rfl | (simp; done) | (simp [*]; done)), H', ⟨Nat.le_refl _⟩, ⟨by (with_reducible repeat (first | refine blk_drewN ?_ _ | refine blk_drew ?_ | refine blk_alloc ?_ _)); exact BK661.out⟩, ⟨by repeat (first | (with_reducible first | exact HB.out | apply below_alloc | apply pw_below_drewN | apply below_drew1 | refine below_set ?_ GE661.out) | exact HB.out)⟩⟩
  case round =>
    clear H'; (try clear p2); obtain ⟨x0_1, x1_1, rfl, rfl, HA, HK1, BK661, HB⟩ := hrel
    cases gk with
    | zero => exact absurd HA.out (by simp [spec_l01Decimal.l0])
    | succ k1 =>
      have H := HA.out; clear HA; simp only [spec_l01Decimal.l0] at H
      by_cases c4 : x1_1 > 6
      · rw [if_pos c4] at H
        have c4b0 : decide (6 < x1_1) = true := decide_eq_true c4; clear c4; replace H := Option.bind_eq_some_iff.mp H; obtain ⟨t662, A50, H⟩ := H; replace H : ((spec_l01Half.f k1 x0_1 t662).bind fun t663 => (spec_l01Decimal.l0 k1 t663 6)) = some (r1, r2, r3, r4, r5) := H; have A5 := Aside0.mk A50; clear A50; replace H := Option.bind_eq_some_iff.mp H; obtain ⟨t663, A60, H⟩ := H; replace H : (spec_l01Decimal.l0 k1 t663 6) = some (r1, r2, r3, r4, r5) := H; have A6 := Aside0.mk A60; clear A60; have H' := Aside0.mk H; clear H
        go_wp2_with (first | ((with_reducible refine gate_callee (f := 47) rfl ?_); refine goesL_ (some 11) rfl rfl Try.func47 (by kernel_rfl) rfl #[.int .i64 (wrap64 (x1_1 - 6))] rfl (by (try simp only [List.map_toArray, List.map_cons, List.map_nil]); first | done | rfl | (simp only [List.length_drop, List.length_take]; rfl)) ?_; (with_reducible refine (spec_l01Power.calls k1 (wrap64 (x1_1 - 6)) t662 _ A5.out).mono ?_); rintro e w' ⟨rfl, ⟨nd, rfl⟩⟩; refine ⟨_, rfl, ?_⟩) | ((with_reducible refine gate_callee (f := 60) rfl ?_); refine goesL_ (some 14) rfl rfl Try.func60 (by kernel_rfl) rfl #[.int .i64 x0_1, .int .i64 t662] rfl (by (try simp only [List.map_toArray, List.map_cons, List.map_nil]); first | done | rfl | (simp only [List.length_drop, List.length_take]; rfl)) ?_; (with_reducible refine (spec_l01Half.calls k1 x0_1 t662 t663 _ A6.out).mono ?_); rintro e w' ⟨rfl, ⟨nd, rfl⟩⟩; refine ⟨_, rfl, ?_⟩))
        go_roundg k1
        case measure => have := HK1.out; omega
        case rel => exact ⟨(t663), (6), (by first | rfl | (simp; done) | (simp [*]; done)), (by first | rfl | (simp; done) | (simp [*]; done)), H', ⟨by have := HK1.out; omega⟩, ⟨by (with_reducible repeat (first | refine blk_drewN ?_ _ | refine blk_drew ?_ | refine blk_alloc ?_ _)); exact BK661.out⟩, ⟨by repeat (first | (with_reducible first | exact HB.out | apply below_alloc | apply pw_below_drewN | apply below_drew1 | refine below_set ?_ GE661.out) | exact HB.out)⟩⟩
      · rw [if_neg c4] at H
        have c4b0 : decide (6 < x1_1) = false := decide_eq_false c4; clear c4; have H' := Aside0.mk H; clear H
        go_wp2
        go_loopg [0, 1] k1 (fun kq v0 v1 w' => ∃ (x0_2 : Int) (x1_2 : Int), v0 = .int .i64 x0_2 ∧ v1 = .int .i64 x1_2 ∧ Aside0 (spec_l01Decimal.l1 kq x0_2 x1_2 = some (r1, r2, r3, r4, r5)) ∧ Aside0 (kq ≤ k1) ∧ Aside0 (w'.heap[gb661]? = some (.cells #[.int .i64 0, .int .i64 0, .int .i64 0, .string (⟨#[]⟩ : ByteArray)] 42 (0, 0))) ∧ Aside0 (Below w.heap.size w w'))
        case atStart => exact ⟨(x0_1), (x1_1), (by first | rfl | (simp; done) | (simp [*]; done)), (by first | rfl | (simp; done) | (simp [*]; done)), H', ⟨Nat.le_refl _⟩, ⟨by (with_reducible repeat (first | refine blk_drewN ?_ _ | refine blk_drew ?_ | refine blk_alloc ?_ _)); exact BK661.out⟩, ⟨by repeat (first | (with_reducible first | exact HB.out | apply below_alloc | apply pw_below_drewN | apply below_drew1 | refine below_set ?_ GE661.out) | exact HB.out)⟩⟩
        case round =>
          clear H'; (try clear p2); (try clear c4); (try clear c4b0); (try clear c5); (try clear c6); (try clear p6); (try clear p2); obtain ⟨x0_2, x1_2, rfl, rfl, HA, HK2, BK661, HB⟩ := hrel
          cases gk with
          | zero => exact absurd HA.out (by simp [spec_l01Decimal.l1])
          | succ k2 =>
            have H := HA.out; clear HA; simp only [spec_l01Decimal.l1] at H
            by_cases c7 : x1_2 > 0
            · rw [if_pos c7] at H
              have c7b0 : decide (0 < x1_2) = true := decide_eq_true c7; clear c7
              by_cases c8 : (Int.tmod x0_2 10) = 0
              · rw [if_pos c8] at H
                have c8b0 : ((Int.tmod x0_2 10) == 0) = true := beq_iff_eq.mpr c8; have c8b1 : ((Int.tmod x0_2 10) != 0) = false := bne_eq_false_iff_eq.mpr c8; clear c8; have H' := Aside0.mk H; clear H
                go_wp2
                go_roundg k2
                case measure => have := HK1.out; have := HK2.out; omega
                case rel => exact ⟨(wrap64 (Int.tdiv x0_2 10)), (wrap64 (x1_2 - 1)), (by first | rfl | (simp; done) | (simp [*]; done)), (by first | rfl | (simp; done) | (simp [*]; done)), H', ⟨by have := HK1.out; have := HK2.out; omega⟩, ⟨by (with_reducible repeat (first | refine blk_drewN ?_ _ | refine blk_drew ?_ | refine blk_alloc ?_ _)); exact BK661.out⟩, ⟨by repeat (first | (with_reducible first | exact HB.out | apply below_alloc | apply pw_below_drewN | apply below_drew1 | refine below_set ?_ GE661.out) | exact HB.out)⟩⟩
              · rw [if_neg c8] at H
                have c8b0 : ((Int.tmod x0_2 10) == 0) = false := beq_eq_false_iff_ne.mpr c8; have c8b1 : ((Int.tmod x0_2 10) != 0) = true := bne_iff_ne.mpr c8
                by_cases c9 : x0_2 > 1000000000
                · rw [if_pos c9] at H
                  have c9b0 : decide (1000000000 < x0_2) = true := decide_eq_true c9; clear c9; simp only [Option.some.injEq, Prod.mk.injEq] at H; obtain ⟨rfl, rfl, rfl, rfl, rfl⟩ := H; have hcz10_0 : wr.cell? ⟨gb661, 0, none⟩ = some (.int .i64 0) := (blk_cell BK661.out 0).trans rfl; have hcz10_1 : wr.cell? ⟨gb661, 1, none⟩ = some (.int .i64 0) := (blk_cell BK661.out 1).trans rfl; have hcz10_2 : wr.cell? ⟨gb661, 2, none⟩ = some (.int .i64 0) := (blk_cell BK661.out 2).trans rfl; have hcz10_3 : wr.cell? ⟨gb661, 3, none⟩ = some (.string (⟨#[]⟩ : ByteArray)) := (blk_cell BK661.out 3).trans rfl; have hfz10_0 := blk_frozen BK661.out 0; have hfz10_1 := blk_frozen BK661.out 1; have hfz10_2 := blk_frozen BK661.out 2; have hfz10_3 := blk_frozen BK661.out 3
                  go_wp2
                  refine bodyPost_ret (results_ct rfl _ _ gb661 42 #[.int .i64 0, .int .i64 0, .int .i64 0, .string (⟨#[]⟩ : ByteArray)] (0, 0) _ rfl q7z0 Try.underlying42 rfl (by kernel_rfl)) rfl ?_; exact ⟨by first | rfl | (simp [errW_none, errW_some] <;> rfl) | (simp [*, errW_none, errW_some] <;> rfl), by repeat (first | (with_reducible first | exact HB.out | apply below_alloc | apply pw_below_drewN | apply below_drew1 | refine below_set ?_ GE661.out) | exact HB.out)⟩
                · rw [if_neg c9] at H
                  have c9b0 : decide (1000000000 < x0_2) = false := decide_eq_false c9; clear c9
                  by_cases c11 : x0_2 < (-1000000000)
                  · rw [if_pos c11] at H
                    have c11b0 : decide (x0_2 < (-1000000000)) = true := decide_eq_true c11; clear c11; simp only [Option.some.injEq, Prod.mk.injEq] at H; obtain ⟨rfl, rfl, rfl, rfl, rfl⟩ := H; have hcz12_0 : wr.cell? ⟨gb661, 0, none⟩ = some (.int .i64 0) := (blk_cell BK661.out 0).trans rfl; have hcz12_1 : wr.cell? ⟨gb661, 1, none⟩ = some (.int .i64 0) := (blk_cell BK661.out 1).trans rfl; have hcz12_2 : wr.cell? ⟨gb661, 2, none⟩ = some (.int .i64 0) := (blk_cell BK661.out 2).trans rfl; have hcz12_3 : wr.cell? ⟨gb661, 3, none⟩ = some (.string (⟨#[]⟩ : ByteArray)) := (blk_cell BK661.out 3).trans rfl; have hfz12_0 := blk_frozen BK661.out 0; have hfz12_1 := blk_frozen BK661.out 1; have hfz12_2 := blk_frozen BK661.out 2; have hfz12_3 := blk_frozen BK661.out 3
                    go_wp2
                    refine bodyPost_ret (results_ct rfl _ _ gb661 42 #[.int .i64 0, .int .i64 0, .int .i64 0, .string (⟨#[]⟩ : ByteArray)] (0, 0) _ rfl q7z0 Try.underlying42 rfl (by kernel_rfl)) rfl ?_; exact ⟨by first | rfl | (simp [errW_none, errW_some] <;> rfl) | (simp [*, errW_none, errW_some] <;> rfl), by repeat (first | (with_reducible first | exact HB.out | apply below_alloc | apply pw_below_drewN | apply below_drew1 | refine below_set ?_ GE661.out) | exact HB.out)⟩
                  · rw [if_neg c11] at H
                    have c11b0 : decide (x0_2 < (-1000000000)) = false := decide_eq_false c11; clear c11; simp only [Option.some.injEq, Prod.mk.injEq] at H; obtain ⟨rfl, rfl, rfl, rfl, rfl⟩ := H; have hcz13_0 : wr.cell? ⟨gb661, 0, none⟩ = some (.int .i64 0) := (blk_cell BK661.out 0).trans rfl; have hcz13_1 : wr.cell? ⟨gb661, 1, none⟩ = some (.int .i64 0) := (blk_cell BK661.out 1).trans rfl; have hcz13_2 : wr.cell? ⟨gb661, 2, none⟩ = some (.int .i64 0) := (blk_cell BK661.out 2).trans rfl; have hcz13_3 : wr.cell? ⟨gb661, 3, none⟩ = some (.string (⟨#[]⟩ : ByteArray)) := (blk_cell BK661.out 3).trans rfl; have hfz13_0 := blk_frozen BK661.out 0; have hfz13_1 := blk_frozen BK661.out 1; have hfz13_2 := blk_frozen BK661.out 2; have hfz13_3 := blk_frozen BK661.out 3
                    go_wp2
                    refine bodyPost_ret (results_ct rfl _ _ gb661 42 #[.int .i64 3, .int .i64 x0_2, .int .i64 x1_2, .string (⟨#[]⟩ : ByteArray)] (0, 0) _ rfl q7z2 Try.underlying42 rfl (by kernel_rfl)) rfl ?_; exact ⟨by first | rfl | (simp [errW_none, errW_some] <;> rfl) | (simp [*, errW_none, errW_some] <;> rfl), by repeat (first | (with_reducible first | exact HB.out | apply below_alloc | apply pw_below_drewN | apply below_drew1 | refine below_set ?_ GE661.out) | exact HB.out)⟩
            · rw [if_neg c7] at H
              have c7b0 : decide (0 < x1_2) = false := decide_eq_false c7; clear c7
              by_cases c14 : x0_2 > 1000000000
              · rw [if_pos c14] at H
                have c14b0 : decide (1000000000 < x0_2) = true := decide_eq_true c14; clear c14; simp only [Option.some.injEq, Prod.mk.injEq] at H; obtain ⟨rfl, rfl, rfl, rfl, rfl⟩ := H; have hcz15_0 : wr.cell? ⟨gb661, 0, none⟩ = some (.int .i64 0) := (blk_cell BK661.out 0).trans rfl; have hcz15_1 : wr.cell? ⟨gb661, 1, none⟩ = some (.int .i64 0) := (blk_cell BK661.out 1).trans rfl; have hcz15_2 : wr.cell? ⟨gb661, 2, none⟩ = some (.int .i64 0) := (blk_cell BK661.out 2).trans rfl; have hcz15_3 : wr.cell? ⟨gb661, 3, none⟩ = some (.string (⟨#[]⟩ : ByteArray)) := (blk_cell BK661.out 3).trans rfl; have hfz15_0 := blk_frozen BK661.out 0; have hfz15_1 := blk_frozen BK661.out 1; have hfz15_2 := blk_frozen BK661.out 2; have hfz15_3 := blk_frozen BK661.out 3
                go_wp2
                refine bodyPost_ret (results_ct rfl _ _ gb661 42 #[.int .i64 0, .int .i64 0, .int .i64 0, .string (⟨#[]⟩ : ByteArray)] (0, 0) _ rfl q7z0 Try.underlying42 rfl (by kernel_rfl)) rfl ?_; exact ⟨by first | rfl | (simp [errW_none, errW_some] <;> rfl) | (simp [*, errW_none, errW_some] <;> rfl), by repeat (first | (with_reducible first | exact HB.out | apply below_alloc | apply pw_below_drewN | apply below_drew1 | refine below_set ?_ GE661.out) | exact HB.out)⟩
              · rw [if_neg c14] at H
                have c14b0 : decide (1000000000 < x0_2) = false := decide_eq_false c14; clear c14
                by_cases c16 : x0_2 < (-1000000000)
                · rw [if_pos c16] at H
                  have c16b0 : decide (x0_2 < (-1000000000)) = true := decide_eq_true c16; clear c16; simp only [Option.some.injEq, Prod.mk.injEq] at H; obtain ⟨rfl, rfl, rfl, rfl, rfl⟩ := H; have hcz17_0 : wr.cell? ⟨gb661, 0, none⟩ = some (.int .i64 0) := (blk_cell BK661.out 0).trans rfl; have hcz17_1 : wr.cell? ⟨gb661, 1, none⟩ = some (.int .i64 0) := (blk_cell BK661.out 1).trans rfl; have hcz17_2 : wr.cell? ⟨gb661, 2, none⟩ = some (.int .i64 0) := (blk_cell BK661.out 2).trans rfl; have hcz17_3 : wr.cell? ⟨gb661, 3, none⟩ = some (.string (⟨#[]⟩ : ByteArray)) := (blk_cell BK661.out 3).trans rfl; have hfz17_0 := blk_frozen BK661.out 0; have hfz17_1 := blk_frozen BK661.out 1; have hfz17_2 := blk_frozen BK661.out 2; have hfz17_3 := blk_frozen BK661.out 3
                  go_wp2
                  refine bodyPost_ret (results_ct rfl _ _ gb661 42 #[.int .i64 0, .int .i64 0, .int .i64 0, .string (⟨#[]⟩ : ByteArray)] (0, 0) _ rfl q7z0 Try.underlying42 rfl (by kernel_rfl)) rfl ?_; exact ⟨by first | rfl | (simp [errW_none, errW_some] <;> rfl) | (simp [*, errW_none, errW_some] <;> rfl), by repeat (first | (with_reducible first | exact HB.out | apply below_alloc | apply pw_below_drewN | apply below_drew1 | refine below_set ?_ GE661.out) | exact HB.out)⟩
                · rw [if_neg c16] at H
                  have c16b0 : decide (x0_2 < (-1000000000)) = false := decide_eq_false c16; clear c16; simp only [Option.some.injEq, Prod.mk.injEq] at H; obtain ⟨rfl, rfl, rfl, rfl, rfl⟩ := H; have hcz18_0 : wr.cell? ⟨gb661, 0, none⟩ = some (.int .i64 0) := (blk_cell BK661.out 0).trans rfl; have hcz18_1 : wr.cell? ⟨gb661, 1, none⟩ = some (.int .i64 0) := (blk_cell BK661.out 1).trans rfl; have hcz18_2 : wr.cell? ⟨gb661, 2, none⟩ = some (.int .i64 0) := (blk_cell BK661.out 2).trans rfl; have hcz18_3 : wr.cell? ⟨gb661, 3, none⟩ = some (.string (⟨#[]⟩ : ByteArray)) := (blk_cell BK661.out 3).trans rfl; have hfz18_0 := blk_frozen BK661.out 0; have hfz18_1 := blk_frozen BK661.out 1; have hfz18_2 := blk_frozen BK661.out 2; have hfz18_3 := blk_frozen BK661.out 3
                  go_wp2
                  refine bodyPost_ret (results_ct rfl _ _ gb661 42 #[.int .i64 3, .int .i64 x0_2, .int .i64 x1_2, .string (⟨#[]⟩ : ByteArray)] (0, 0) _ rfl q7z2 Try.underlying42 rfl (by kernel_rfl)) rfl ?_; exact ⟨by first | rfl | (simp [errW_none, errW_some] <;> rfl) | (simp [*, errW_none, errW_some] <;> rfl), by repeat (first | (with_reducible first | exact HB.out | apply below_alloc | apply pw_below_drewN | apply below_drew1 | refine below_set ?_ GE661.out) | exact HB.out)⟩

/-! ### spec_l01Str: function 54 -/
def spec_l01Str.f (a0 : ByteArray) : Option (Int × Int × Int × ByteArray) := some (4, 0, 0, a0)
set_option maxHeartbeats 8000000 in
set_option maxRecDepth 100000 in
theorem spec_l01Str.calls (a0 : ByteArray) (r1 : Int) (r2 : Int) (r3 : Int) (r4 : ByteArray) (w : World) (h : spec_l01Str.f a0 = some (r1, r2, r3, r4)) :
    Calls Try.prog 54 #[.string a0] w fun e w' => e = .returned (.agg #[.int .i64 r1, .int .i64 r2, .int .i64 r3, .string r4]) ∧ Below w.heap.size w w' := by
  have hu42 := Try.underlying42; have HB := Aside0.mk (Below.refl w.heap.size w); have H : (some (4, 0, 0, a0)) = some (r1, r2, r3, r4) := h; clear h; simp only [Option.some.injEq, Prod.mk.injEq] at H; obtain ⟨rfl, rfl, rfl, rfl⟩ := H
  go_enter Try.func54, Try.ntmps54
  go_wp2_with (first | ((with_reducible refine gate_dst (N := 2) rfl ?_); refine box_event ?hg (N := 2) ?hd (cs := #[.int .i64 0, .int .i64 0, .int .i64 0, .string (⟨#[]⟩ : ByteArray)]) (t := 42) ?hr ?_; (case hd => rfl); (case hg => rfl); (case hr => first | (go_simp; done) | (go_simp; rfl)); intro gb664 hg w2 hbox hb; have n0_ := Aside0.mk (below_step q7z1 hb); have n1_ := Aside0.mk (hbox); have n2_ := Aside0.mk ((by rw [hg]; exact (below_size q7z1) : w.heap.size ≤ gb664)); have n3_ := Aside0.mk ((by rw [hg]; exact (below_size q7z1) : w.heap.size ≤ gb664)); clear HB; have HB := n0_; have BK664 := n1_; have GW664 := n2_; have GE664 := n3_; clear n0_ n1_ n2_ n3_; clear hb hbox hg; have hcz3_0 : w2.cell? ⟨gb664, 0, none⟩ = some (.int .i64 0) := (blk_cell BK664.out 0).trans rfl; have hcz3_1 : w2.cell? ⟨gb664, 1, none⟩ = some (.int .i64 0) := (blk_cell BK664.out 1).trans rfl; have hcz3_2 : w2.cell? ⟨gb664, 2, none⟩ = some (.int .i64 0) := (blk_cell BK664.out 2).trans rfl; have hcz3_3 : w2.cell? ⟨gb664, 3, none⟩ = some (.string (⟨#[]⟩ : ByteArray)) := (blk_cell BK664.out 3).trans rfl; have hfz3_0 := blk_frozen BK664.out 0; have hfz3_1 := blk_frozen BK664.out 1; have hfz3_2 := blk_frozen BK664.out 2; have hfz3_3 := blk_frozen BK664.out 3))
  refine bodyPost_ret (results_cell_row rfl _ _ gb664 42 #[.int .i64 4, .int .i64 0, .int .i64 0, .string a0] (0, 0) _ rfl (by (with_reducible repeat (first | refine blk_drewN ?_ _ | refine blk_drew ?_ | refine blk_alloc ?_ _)); refine blk_put (cs := #[.int .i64 4, .int .i64 0, .int .i64 0, .string (⟨#[]⟩ : ByteArray)]) ?_ 3 _ rfl; (with_reducible repeat (first | refine blk_drewN ?_ _ | refine blk_drew ?_ | refine blk_alloc ?_ _)); refine blk_put (cs := #[.int .i64 4, .int .i64 0, .int .i64 0, .string (⟨#[]⟩ : ByteArray)]) ?_ 2 _ rfl; (with_reducible repeat (first | refine blk_drewN ?_ _ | refine blk_drew ?_ | refine blk_alloc ?_ _)); refine blk_put (cs := #[.int .i64 4, .int .i64 0, .int .i64 0, .string (⟨#[]⟩ : ByteArray)]) ?_ 1 _ rfl; (with_reducible repeat (first | refine blk_drewN ?_ _ | refine blk_drew ?_ | refine blk_alloc ?_ _)); refine blk_put (cs := #[.int .i64 0, .int .i64 0, .int .i64 0, .string (⟨#[]⟩ : ByteArray)]) ?_ 0 _ rfl; (with_reducible repeat (first | refine blk_drewN ?_ _ | refine blk_drew ?_ | refine blk_alloc ?_ _)); exact BK664.out) Try.underlying42 rfl (by kernel_rfl)) rfl ?_; exact ⟨by first | rfl | (simp [errW_none, errW_some] <;> rfl) | (simp [*, errW_none, errW_some] <;> rfl), by repeat (first | (with_reducible first | exact HB.out | apply below_alloc | apply pw_below_drewN | apply below_drew1 | refine below_set ?_ GE664.out) | exact HB.out)⟩

end Go.Proofs.Ytjplogeifleojaa.QFnKeyOrder
