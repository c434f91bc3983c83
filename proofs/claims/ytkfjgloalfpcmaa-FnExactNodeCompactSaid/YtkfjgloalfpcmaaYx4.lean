/- The functions that the law reaches, each as a plain Lean function with the proof that the Go code comes to its answers: written by a program of this session. No condition. -/
import Derived.Test.YtkfjgloalfpcmaaYx0
import Derived.Test.YtkfjgloalfpcmaaYx3
namespace Go.Proofs.Ytkfjgloalfpcmaa.QFnExactNodeOK
open Go.RowKit Go.Proofs.YtkfjgloalfpcmaaW.PrintWords Go.Proofs.YtkfjgloalfpcmaaW.PrintLast Go.Proofs.YtkfjgloalfpcmaaW.PrintMore
attribute [local go_sem] max2_int min2_int max_two min_two max_three min_three max_four min_four str_gtr str_leq str_geq pw_at_slice   -- for this text's walks alone
set_option linter.unusedVariables false
set_option linter.unusedSimpArgs false

/-- A state of type 30 at block g of W; what its slices lead to came in by w0. -/
def IsS30 (w0 W : World) (g : Nat) (f0 : Int) (f1 : Int) (f2 : Int) (f3 : Int) (f4 : Int) (f5 : List (S54)) (f6 : Int) (f7 : Int) (f8 : Int) (f9 : Int) (f10 : Int) (f11 : Int) (f12 : Int) (f13 : Int) (f14 : List Int) (f15 : List Int) : Prop := ∃ A5 c5, ∃ A14 c14, ∃ A15 c15, W.heap[g]? = some (.cells #[.int .i64 f0, .int .i64 f1, .int .i64 f2, .int .i64 f3, .int .i64 f4, .slice A5 f5.length c5, .int .i64 f6, .int .i64 f7, .int .i64 f8, .int .i64 f9, .int .i64 f10, .int .i64 f11, .int .i64 f12, .int .i64 f13, .slice A14 f14.length c14, .slice A15 f15.length c15] 30 (0, 0)) ∧ w0.heap.size ≤ g ∧ Kd.C k54 w0 A5 f5.length f5 ∧ Kd.C (Kd.int .i64) w0 A14 f14.length f14 ∧ Kd.C (Kd.int .i64) w0 A15 f15.length f15
theorem IsS30.grown {w0 W : World} {g : Nat} {f0 : Int} {f1 : Int} {f2 : Int} {f3 : Int} {f4 : Int} {f5 : List (S54)} {f6 : Int} {f7 : Int} {f8 : Int} {f9 : Int} {f10 : Int} {f11 : Int} {f12 : Int} {f13 : Int} {f14 : List Int} {f15 : List Int} {W1 : World} {row : Option Nat} (h : IsS30 w0 W g f0 f1 f2 f3 f4 f5 f6 f7 f8 f9 f10 f11 f12 f13 f14 f15) (hw : W.grownBy W1 row) (hne : some g ≠ row) : IsS30 w0 W1 g f0 f1 f2 f3 f4 f5 f6 f7 f8 f9 f10 f11 f12 f13 f14 f15 := by
 obtain ⟨A5, c5, A14, c14, A15, c15, hb, hg, hr5, hr14, hr15⟩ := h
 exact ⟨A5, c5, A14, c14, A15, c15, blk_grown hb hw hne, hg, hr5, hr14, hr15⟩
theorem IsS30.own_neN {w0 W : World} {g : Nat} {f0 : Int} {f1 : Int} {f2 : Int} {f3 : Int} {f4 : Int} {f5 : List (S54)} {f6 : Int} {f7 : Int} {f8 : Int} {f9 : Int} {f10 : Int} {f11 : Int} {f12 : Int} {f13 : Int} {f14 : List Int} {f15 : List Int} {α : Type} {d : Kd α} {e : Nat} {base : Nat} {ok : Nat → Prop} {v : Value} {xs : List α} (h : IsS30 w0 W g f0 f1 f2 f3 f4 f5 f6 f7 f8 f9 f10 f11 f12 f13 f14 f15) (ho : Kd.N d e W base ok v xs) (ht : e ≠ 30) : some g ≠ v.ownBlock := by
 obtain ⟨A5, c5, A14, c14, A15, c15, hb, hg, hr5, hr14, hr15⟩ := h
 exact Kd.N_ne ho hb ht
theorem IsS30.fresh {w0 W : World} {g : Nat} {f0 : Int} {f1 : Int} {f2 : Int} {f3 : Int} {f4 : Int} {f5 : List (S54)} {f6 : Int} {f7 : Int} {f8 : Int} {f9 : Int} {f10 : Int} {f11 : Int} {f12 : Int} {f13 : Int} {f14 : List Int} {f15 : List Int} (h : IsS30 w0 W g f0 f1 f2 f3 f4 f5 f6 f7 f8 f9 f10 f11 f12 f13 f14 f15) : ∀ k, W.heap.size ≤ k → k ≠ g := by
 obtain ⟨A5, c5, A14, c14, A15, c15, hb, hg, hr5, hr14, hr15⟩ := h
 exact Kd.freshB hb
theorem IsS30.kept {w0 W : World} {g : Nat} {f0 : Int} {f1 : Int} {f2 : Int} {f3 : Int} {f4 : Int} {f5 : List (S54)} {f6 : Int} {f7 : Int} {f8 : Int} {f9 : Int} {f10 : Int} {f11 : Int} {f12 : Int} {f13 : Int} {f14 : List Int} {f15 : List Int} {W1 : World} {S : Nat → Prop} (h : IsS30 w0 W g f0 f1 f2 f3 f4 f5 f6 f7 f8 f9 f10 f11 f12 f13 f14 f15) (hk : Kept W W1 S) (hne : ¬ S g) : IsS30 w0 W1 g f0 f1 f2 f3 f4 f5 f6 f7 f8 f9 f10 f11 f12 f13 f14 f15 := by
 obtain ⟨A5, c5, A14, c14, A15, c15, hb, hg, hr5, hr14, hr15⟩ := h
 exact ⟨A5, c5, A14, c14, A15, c15, blk_kept hb hk hne, hg, hr5, hr14, hr15⟩
theorem IsS30.below {w0 W : World} {g : Nat} {f0 : Int} {f1 : Int} {f2 : Int} {f3 : Int} {f4 : Int} {f5 : List (S54)} {f6 : Int} {f7 : Int} {f8 : Int} {f9 : Int} {f10 : Int} {f11 : Int} {f12 : Int} {f13 : Int} {f14 : List Int} {f15 : List Int} {W1 : World} (h : IsS30 w0 W g f0 f1 f2 f3 f4 f5 f6 f7 f8 f9 f10 f11 f12 f13 f14 f15) (hw : Below W.heap.size W W1) : IsS30 w0 W1 g f0 f1 f2 f3 f4 f5 f6 f7 f8 f9 f10 f11 f12 f13 f14 f15 := h.grown (grown_of_below hw none) (by simp)
theorem IsS30.alloc {w0 W : World} {g : Nat} {f0 : Int} {f1 : Int} {f2 : Int} {f3 : Int} {f4 : Int} {f5 : List (S54)} {f6 : Int} {f7 : Int} {f8 : Int} {f9 : Int} {f10 : Int} {f11 : Int} {f12 : Int} {f13 : Int} {f14 : List Int} {f15 : List Int} (h : IsS30 w0 W g f0 f1 f2 f3 f4 f5 f6 f7 f8 f9 f10 f11 f12 f13 f14 f15) (o : Obj) : IsS30 w0 (W.alloc o) g f0 f1 f2 f3 f4 f5 f6 f7 f8 f9 f10 f11 f12 f13 f14 f15 := h.below (below_alloc (Below.refl _ _) o)
theorem IsS30.drewN {w0 W : World} {g : Nat} {f0 : Int} {f1 : Int} {f2 : Int} {f3 : Int} {f4 : Int} {f5 : List (S54)} {f6 : Int} {f7 : Int} {f8 : Int} {f9 : Int} {f10 : Int} {f11 : Int} {f12 : Int} {f13 : Int} {f14 : List Int} {f15 : List Int} (h : IsS30 w0 W g f0 f1 f2 f3 f4 f5 f6 f7 f8 f9 f10 f11 f12 f13 f14 f15) (m : Nat) : IsS30 w0 (W.drewN m) g f0 f1 f2 f3 f4 f5 f6 f7 f8 f9 f10 f11 f12 f13 f14 f15 := h
theorem IsS30.drew {w0 W : World} {g : Nat} {f0 : Int} {f1 : Int} {f2 : Int} {f3 : Int} {f4 : Int} {f5 : List (S54)} {f6 : Int} {f7 : Int} {f8 : Int} {f9 : Int} {f10 : Int} {f11 : Int} {f12 : Int} {f13 : Int} {f14 : List Int} {f15 : List Int} (h : IsS30 w0 W g f0 f1 f2 f3 f4 f5 f6 f7 f8 f9 f10 f11 f12 f13 f14 f15) : IsS30 w0 W.drew g f0 f1 f2 f3 f4 f5 f6 f7 f8 f9 f10 f11 f12 f13 f14 f15 := h
theorem IsS30.at_ {w0 W : World} {g : Nat} {f0 : Int} {f1 : Int} {f2 : Int} {f3 : Int} {f4 : Int} {f5 : List (S54)} {f6 : Int} {f7 : Int} {f8 : Int} {f9 : Int} {f10 : Int} {f11 : Int} {f12 : Int} {f13 : Int} {f14 : List Int} {f15 : List Int} {w' : World} {m : Nat} (hq : W.drewN m = w') (h : IsS30 w0 W g f0 f1 f2 f3 f4 f5 f6 f7 f8 f9 f10 f11 f12 f13 f14 f15) : IsS30 w0 w' g f0 f1 f2 f3 f4 f5 f6 f7 f8 f9 f10 f11 f12 f13 f14 f15 := by subst hq; exact IsS30.drewN h m
theorem IsS30.apart {w0 W : World} {g : Nat} {f0 : Int} {f1 : Int} {f2 : Int} {f3 : Int} {f4 : Int} {f5 : List (S54)} {f6 : Int} {f7 : Int} {f8 : Int} {f9 : Int} {f10 : Int} {f11 : Int} {f12 : Int} {f13 : Int} {f14 : List Int} {f15 : List Int} {α : Type} {d : Kd α} {e : Nat} {base : Nat} {ok : Nat → Prop} {v : Value} {xs : List α} (h : IsS30 w0 W g f0 f1 f2 f3 f4 f5 f6 f7 f8 f9 f10 f11 f12 f13 f14 f15) (ho : d.R e W base ok v xs) (ht : ∀ q, q ∈ e :: d.E → q ≠ 30) : d.R e W base (fun k => ok k ∧ k ≠ g) v xs := by
 obtain ⟨A5, c5, A14, c14, A15, c15, hb, hg, hr5, hr14, hr15⟩ := h
 exact Kd.R_types ho hb ht
theorem IsS30.own_ne {w0 W : World} {g : Nat} {f0 : Int} {f1 : Int} {f2 : Int} {f3 : Int} {f4 : Int} {f5 : List (S54)} {f6 : Int} {f7 : Int} {f8 : Int} {f9 : Int} {f10 : Int} {f11 : Int} {f12 : Int} {f13 : Int} {f14 : List Int} {f15 : List Int} {α : Type} {d : Kd α} {e : Nat} {base : Nat} {ok : Nat → Prop} {v : Value} {xs : List α} (h : IsS30 w0 W g f0 f1 f2 f3 f4 f5 f6 f7 f8 f9 f10 f11 f12 f13 f14 f15) (ho : d.R e W base ok v xs) (ht : e ≠ 30) : some g ≠ v.ownBlock := by
 obtain ⟨A5, c5, A14, c14, A15, c15, hb, hg, hr5, hr14, hr15⟩ := h
 exact Kd.R_ne ho hb ht
theorem IsS30.apartQ {w0 W : World} {g : Nat} {f0 : Int} {f1 : Int} {f2 : Int} {f3 : Int} {f4 : Int} {f5 : List (S54)} {f6 : Int} {f7 : Int} {f8 : Int} {f9 : Int} {f10 : Int} {f11 : Int} {f12 : Int} {f13 : Int} {f14 : List Int} {f15 : List Int} {α : Type} {d : Kd α} {e : Nat} {base : Nat} {ok : Nat → Prop} {v : Value} {xs : List α} (h : IsS30 w0 W g f0 f1 f2 f3 f4 f5 f6 f7 f8 f9 f10 f11 f12 f13 f14 f15) (ho : d.Q e W base ok v xs) (ht : ∀ q, q ∈ e :: d.E → q ≠ 30) : d.Q e W base (fun k => ok k ∧ k ≠ g) v xs := by
 obtain ⟨A5, c5, A14, c14, A15, c15, hb, hg, hr5, hr14, hr15⟩ := h
 exact Kd.Q_types ho hb ht
theorem IsS30.own_neQ {w0 W : World} {g : Nat} {f0 : Int} {f1 : Int} {f2 : Int} {f3 : Int} {f4 : Int} {f5 : List (S54)} {f6 : Int} {f7 : Int} {f8 : Int} {f9 : Int} {f10 : Int} {f11 : Int} {f12 : Int} {f13 : Int} {f14 : List Int} {f15 : List Int} {α : Type} {d : Kd α} {e : Nat} {base : Nat} {ok : Nat → Prop} {v : Value} {xs : List α} (h : IsS30 w0 W g f0 f1 f2 f3 f4 f5 f6 f7 f8 f9 f10 f11 f12 f13 f14 f15) (ho : d.Q e W base ok v xs) (ht : e ≠ 30) : some g ≠ v.ownBlock := by
 obtain ⟨A5, c5, A14, c14, A15, c15, hb, hg, hr5, hr14, hr15⟩ := h
 exact Kd.Q_ne ho hb ht
theorem IsS30.apartS {w0 W : World} {g : Nat} {f0 : Int} {f1 : Int} {f2 : Int} {f3 : Int} {f4 : Int} {f5 : List (S54)} {f6 : Int} {f7 : Int} {f8 : Int} {f9 : Int} {f10 : Int} {f11 : Int} {f12 : Int} {f13 : Int} {f14 : List Int} {f15 : List Int} {α : Type} {d : Kd α} {e : Nat} {base : Nat} {ok : Nat → Prop} {v : Value} {xs : List α} (h : IsS30 w0 W g f0 f1 f2 f3 f4 f5 f6 f7 f8 f9 f10 f11 f12 f13 f14 f15) (ho : d.S e W base ok v xs) (ht : ∀ q, q ∈ e :: d.E → q ≠ 30) : d.S e W base (fun k => ok k ∧ k ≠ g) v xs := by
 obtain ⟨A5, c5, A14, c14, A15, c15, hb, hg, hr5, hr14, hr15⟩ := h
 exact Kd.S_types ho hb ht
theorem IsS30.own_neS {w0 W : World} {g : Nat} {f0 : Int} {f1 : Int} {f2 : Int} {f3 : Int} {f4 : Int} {f5 : List (S54)} {f6 : Int} {f7 : Int} {f8 : Int} {f9 : Int} {f10 : Int} {f11 : Int} {f12 : Int} {f13 : Int} {f14 : List Int} {f15 : List Int} {α : Type} {d : Kd α} {e : Nat} {base : Nat} {ok : Nat → Prop} {v : Value} {xs : List α} (h : IsS30 w0 W g f0 f1 f2 f3 f4 f5 f6 f7 f8 f9 f10 f11 f12 f13 f14 f15) (ho : d.S e W base ok v xs) (ht : e ≠ 30) : some g ≠ v.ownBlock := by
 obtain ⟨A5, c5, A14, c14, A15, c15, hb, hg, hr5, hr14, hr15⟩ := h
 exact Kd.S_ne ho hb ht
theorem IsS30.lt {w0 W : World} {g : Nat} {f0 : Int} {f1 : Int} {f2 : Int} {f3 : Int} {f4 : Int} {f5 : List (S54)} {f6 : Int} {f7 : Int} {f8 : Int} {f9 : Int} {f10 : Int} {f11 : Int} {f12 : Int} {f13 : Int} {f14 : List Int} {f15 : List Int} (h : IsS30 w0 W g f0 f1 f2 f3 f4 f5 f6 f7 f8 f9 f10 f11 f12 f13 f14 f15) : g < W.heap.size := by
 obtain ⟨A5, c5, A14, c14, A15, c15, hb, hg, hr5, hr14, hr15⟩ := h
 exact blk_lt hb
theorem IsS30.ge {w0 W : World} {g : Nat} {f0 : Int} {f1 : Int} {f2 : Int} {f3 : Int} {f4 : Int} {f5 : List (S54)} {f6 : Int} {f7 : Int} {f8 : Int} {f9 : Int} {f10 : Int} {f11 : Int} {f12 : Int} {f13 : Int} {f14 : List Int} {f15 : List Int} (h : IsS30 w0 W g f0 f1 f2 f3 f4 f5 f6 f7 f8 f9 f10 f11 f12 f13 f14 f15) : w0.heap.size ≤ g := by
 obtain ⟨A5, c5, A14, c14, A15, c15, hb, hg, hr5, hr14, hr15⟩ := h
 exact hg
theorem IsS30.ne_blk {w0 W : World} {g : Nat} {f0 : Int} {f1 : Int} {f2 : Int} {f3 : Int} {f4 : Int} {f5 : List (S54)} {f6 : Int} {f7 : Int} {f8 : Int} {f9 : Int} {f10 : Int} {f11 : Int} {f12 : Int} {f13 : Int} {f14 : List Int} {f15 : List Int} {a : Nat} {cs : Array Value} {t : TypeId} {fr : Nat × Nat} (h : IsS30 w0 W g f0 f1 f2 f3 f4 f5 f6 f7 f8 f9 f10 f11 f12 f13 f14 f15) (hb2 : W.heap[a]? = some (.cells cs t fr)) (ht : t ≠ 30) : g ≠ a := by
 obtain ⟨A5, c5, A14, c14, A15, c15, hb, hg, hr5, hr14, hr15⟩ := h
 rintro rfl
 rw [hb] at hb2
 injection hb2 with hb2
 injection hb2 with _ ht2
 exact ht ht2.symm
theorem IsS30.far {w0 W : World} {g : Nat} {f0 : Int} {f1 : Int} {f2 : Int} {f3 : Int} {f4 : Int} {f5 : List (S54)} {f6 : Int} {f7 : Int} {f8 : Int} {f9 : Int} {f10 : Int} {f11 : Int} {f12 : Int} {f13 : Int} {f14 : List Int} {f15 : List Int} {p : Addr} (h : IsS30 w0 W g f0 f1 f2 f3 f4 f5 f6 f7 f8 f9 f10 f11 f12 f13 f14 f15) (hne : g ≠ p.block) (u : Value) : IsS30 w0 (W.setCell p u) g f0 f1 f2 f3 f4 f5 f6 f7 f8 f9 f10 f11 f12 f13 f14 f15 := by
 obtain ⟨A5, c5, A14, c14, A15, c15, hb, hg, hr5, hr14, hr15⟩ := h
 exact ⟨A5, c5, A14, c14, A15, c15, blk_far hb hne u, hg, hr5, hr14, hr15⟩
theorem cellS30_0 {W : World} {g : Nat} {A5 : Option Addr} {c5 : Nat} {A14 : Option Addr} {c14 : Nat} {A15 : Option Addr} {c15 : Nat} {f0 : Int} {f1 : Int} {f2 : Int} {f3 : Int} {f4 : Int} {f5 : List (S54)} {f6 : Int} {f7 : Int} {f8 : Int} {f9 : Int} {f10 : Int} {f11 : Int} {f12 : Int} {f13 : Int} {f14 : List Int} {f15 : List Int} (h : W.heap[g]? = some (.cells #[.int .i64 f0, .int .i64 f1, .int .i64 f2, .int .i64 f3, .int .i64 f4, .slice A5 f5.length c5, .int .i64 f6, .int .i64 f7, .int .i64 f8, .int .i64 f9, .int .i64 f10, .int .i64 f11, .int .i64 f12, .int .i64 f13, .slice A14 f14.length c14, .slice A15 f15.length c15] 30 (0, 0))) : W.cell? ⟨g, 0, none⟩ = some (.int .i64 f0) := (blk_cell h 0).trans rfl
theorem IsS30.set_0 {w0 W : World} {g : Nat} {f0 : Int} {f1 : Int} {f2 : Int} {f3 : Int} {f4 : Int} {f5 : List (S54)} {f6 : Int} {f7 : Int} {f8 : Int} {f9 : Int} {f10 : Int} {f11 : Int} {f12 : Int} {f13 : Int} {f14 : List Int} {f15 : List Int} (h : IsS30 w0 W g f0 f1 f2 f3 f4 f5 f6 f7 f8 f9 f10 f11 f12 f13 f14 f15) (x : Int) : IsS30 w0 (W.setCell ⟨g, 0, none⟩ (.int .i64 x)) g x f1 f2 f3 f4 f5 f6 f7 f8 f9 f10 f11 f12 f13 f14 f15 := by
 obtain ⟨A5, c5, A14, c14, A15, c15, hb, hg, hr5, hr14, hr15⟩ := h
 exact ⟨A5, c5, A14, c14, A15, c15, by simpa using blk_set hb 0 (.int .i64 x), hg, hr5, hr14, hr15⟩
theorem cellS30_1 {W : World} {g : Nat} {A5 : Option Addr} {c5 : Nat} {A14 : Option Addr} {c14 : Nat} {A15 : Option Addr} {c15 : Nat} {f0 : Int} {f1 : Int} {f2 : Int} {f3 : Int} {f4 : Int} {f5 : List (S54)} {f6 : Int} {f7 : Int} {f8 : Int} {f9 : Int} {f10 : Int} {f11 : Int} {f12 : Int} {f13 : Int} {f14 : List Int} {f15 : List Int} (h : W.heap[g]? = some (.cells #[.int .i64 f0, .int .i64 f1, .int .i64 f2, .int .i64 f3, .int .i64 f4, .slice A5 f5.length c5, .int .i64 f6, .int .i64 f7, .int .i64 f8, .int .i64 f9, .int .i64 f10, .int .i64 f11, .int .i64 f12, .int .i64 f13, .slice A14 f14.length c14, .slice A15 f15.length c15] 30 (0, 0))) : W.cell? ⟨g, 1, none⟩ = some (.int .i64 f1) := (blk_cell h 1).trans rfl
theorem IsS30.set_1 {w0 W : World} {g : Nat} {f0 : Int} {f1 : Int} {f2 : Int} {f3 : Int} {f4 : Int} {f5 : List (S54)} {f6 : Int} {f7 : Int} {f8 : Int} {f9 : Int} {f10 : Int} {f11 : Int} {f12 : Int} {f13 : Int} {f14 : List Int} {f15 : List Int} (h : IsS30 w0 W g f0 f1 f2 f3 f4 f5 f6 f7 f8 f9 f10 f11 f12 f13 f14 f15) (x : Int) : IsS30 w0 (W.setCell ⟨g, 1, none⟩ (.int .i64 x)) g f0 x f2 f3 f4 f5 f6 f7 f8 f9 f10 f11 f12 f13 f14 f15 := by
 obtain ⟨A5, c5, A14, c14, A15, c15, hb, hg, hr5, hr14, hr15⟩ := h
 exact ⟨A5, c5, A14, c14, A15, c15, by simpa using blk_set hb 1 (.int .i64 x), hg, hr5, hr14, hr15⟩
theorem cellS30_2 {W : World} {g : Nat} {A5 : Option Addr} {c5 : Nat} {A14 : Option Addr} {c14 : Nat} {A15 : Option Addr} {c15 : Nat} {f0 : Int} {f1 : Int} {f2 : Int} {f3 : Int} {f4 : Int} {f5 : List (S54)} {f6 : Int} {f7 : Int} {f8 : Int} {f9 : Int} {f10 : Int} {f11 : Int} {f12 : Int} {f13 : Int} {f14 : List Int} {f15 : List Int} (h : W.heap[g]? = some (.cells #[.int .i64 f0, .int .i64 f1, .int .i64 f2, .int .i64 f3, .int .i64 f4, .slice A5 f5.length c5, .int .i64 f6, .int .i64 f7, .int .i64 f8, .int .i64 f9, .int .i64 f10, .int .i64 f11, .int .i64 f12, .int .i64 f13, .slice A14 f14.length c14, .slice A15 f15.length c15] 30 (0, 0))) : W.cell? ⟨g, 2, none⟩ = some (.int .i64 f2) := (blk_cell h 2).trans rfl
theorem IsS30.set_2 {w0 W : World} {g : Nat} {f0 : Int} {f1 : Int} {f2 : Int} {f3 : Int} {f4 : Int} {f5 : List (S54)} {f6 : Int} {f7 : Int} {f8 : Int} {f9 : Int} {f10 : Int} {f11 : Int} {f12 : Int} {f13 : Int} {f14 : List Int} {f15 : List Int} (h : IsS30 w0 W g f0 f1 f2 f3 f4 f5 f6 f7 f8 f9 f10 f11 f12 f13 f14 f15) (x : Int) : IsS30 w0 (W.setCell ⟨g, 2, none⟩ (.int .i64 x)) g f0 f1 x f3 f4 f5 f6 f7 f8 f9 f10 f11 f12 f13 f14 f15 := by
 obtain ⟨A5, c5, A14, c14, A15, c15, hb, hg, hr5, hr14, hr15⟩ := h
 exact ⟨A5, c5, A14, c14, A15, c15, by simpa using blk_set hb 2 (.int .i64 x), hg, hr5, hr14, hr15⟩
theorem cellS30_3 {W : World} {g : Nat} {A5 : Option Addr} {c5 : Nat} {A14 : Option Addr} {c14 : Nat} {A15 : Option Addr} {c15 : Nat} {f0 : Int} {f1 : Int} {f2 : Int} {f3 : Int} {f4 : Int} {f5 : List (S54)} {f6 : Int} {f7 : Int} {f8 : Int} {f9 : Int} {f10 : Int} {f11 : Int} {f12 : Int} {f13 : Int} {f14 : List Int} {f15 : List Int} (h : W.heap[g]? = some (.cells #[.int .i64 f0, .int .i64 f1, .int .i64 f2, .int .i64 f3, .int .i64 f4, .slice A5 f5.length c5, .int .i64 f6, .int .i64 f7, .int .i64 f8, .int .i64 f9, .int .i64 f10, .int .i64 f11, .int .i64 f12, .int .i64 f13, .slice A14 f14.length c14, .slice A15 f15.length c15] 30 (0, 0))) : W.cell? ⟨g, 3, none⟩ = some (.int .i64 f3) := (blk_cell h 3).trans rfl
theorem IsS30.set_3 {w0 W : World} {g : Nat} {f0 : Int} {f1 : Int} {f2 : Int} {f3 : Int} {f4 : Int} {f5 : List (S54)} {f6 : Int} {f7 : Int} {f8 : Int} {f9 : Int} {f10 : Int} {f11 : Int} {f12 : Int} {f13 : Int} {f14 : List Int} {f15 : List Int} (h : IsS30 w0 W g f0 f1 f2 f3 f4 f5 f6 f7 f8 f9 f10 f11 f12 f13 f14 f15) (x : Int) : IsS30 w0 (W.setCell ⟨g, 3, none⟩ (.int .i64 x)) g f0 f1 f2 x f4 f5 f6 f7 f8 f9 f10 f11 f12 f13 f14 f15 := by
 obtain ⟨A5, c5, A14, c14, A15, c15, hb, hg, hr5, hr14, hr15⟩ := h
 exact ⟨A5, c5, A14, c14, A15, c15, by simpa using blk_set hb 3 (.int .i64 x), hg, hr5, hr14, hr15⟩
theorem cellS30_4 {W : World} {g : Nat} {A5 : Option Addr} {c5 : Nat} {A14 : Option Addr} {c14 : Nat} {A15 : Option Addr} {c15 : Nat} {f0 : Int} {f1 : Int} {f2 : Int} {f3 : Int} {f4 : Int} {f5 : List (S54)} {f6 : Int} {f7 : Int} {f8 : Int} {f9 : Int} {f10 : Int} {f11 : Int} {f12 : Int} {f13 : Int} {f14 : List Int} {f15 : List Int} (h : W.heap[g]? = some (.cells #[.int .i64 f0, .int .i64 f1, .int .i64 f2, .int .i64 f3, .int .i64 f4, .slice A5 f5.length c5, .int .i64 f6, .int .i64 f7, .int .i64 f8, .int .i64 f9, .int .i64 f10, .int .i64 f11, .int .i64 f12, .int .i64 f13, .slice A14 f14.length c14, .slice A15 f15.length c15] 30 (0, 0))) : W.cell? ⟨g, 4, none⟩ = some (.int .i64 f4) := (blk_cell h 4).trans rfl
theorem IsS30.set_4 {w0 W : World} {g : Nat} {f0 : Int} {f1 : Int} {f2 : Int} {f3 : Int} {f4 : Int} {f5 : List (S54)} {f6 : Int} {f7 : Int} {f8 : Int} {f9 : Int} {f10 : Int} {f11 : Int} {f12 : Int} {f13 : Int} {f14 : List Int} {f15 : List Int} (h : IsS30 w0 W g f0 f1 f2 f3 f4 f5 f6 f7 f8 f9 f10 f11 f12 f13 f14 f15) (x : Int) : IsS30 w0 (W.setCell ⟨g, 4, none⟩ (.int .i64 x)) g f0 f1 f2 f3 x f5 f6 f7 f8 f9 f10 f11 f12 f13 f14 f15 := by
 obtain ⟨A5, c5, A14, c14, A15, c15, hb, hg, hr5, hr14, hr15⟩ := h
 exact ⟨A5, c5, A14, c14, A15, c15, by simpa using blk_set hb 4 (.int .i64 x), hg, hr5, hr14, hr15⟩
theorem cellS30_5 {W : World} {g : Nat} {A5 : Option Addr} {c5 : Nat} {A14 : Option Addr} {c14 : Nat} {A15 : Option Addr} {c15 : Nat} {f0 : Int} {f1 : Int} {f2 : Int} {f3 : Int} {f4 : Int} {f5 : List (S54)} {f6 : Int} {f7 : Int} {f8 : Int} {f9 : Int} {f10 : Int} {f11 : Int} {f12 : Int} {f13 : Int} {f14 : List Int} {f15 : List Int} (h : W.heap[g]? = some (.cells #[.int .i64 f0, .int .i64 f1, .int .i64 f2, .int .i64 f3, .int .i64 f4, .slice A5 f5.length c5, .int .i64 f6, .int .i64 f7, .int .i64 f8, .int .i64 f9, .int .i64 f10, .int .i64 f11, .int .i64 f12, .int .i64 f13, .slice A14 f14.length c14, .slice A15 f15.length c15] 30 (0, 0))) : W.cell? ⟨g, 5, none⟩ = some (.slice A5 f5.length c5) := (blk_cell h 5).trans rfl
theorem cellS30_6 {W : World} {g : Nat} {A5 : Option Addr} {c5 : Nat} {A14 : Option Addr} {c14 : Nat} {A15 : Option Addr} {c15 : Nat} {f0 : Int} {f1 : Int} {f2 : Int} {f3 : Int} {f4 : Int} {f5 : List (S54)} {f6 : Int} {f7 : Int} {f8 : Int} {f9 : Int} {f10 : Int} {f11 : Int} {f12 : Int} {f13 : Int} {f14 : List Int} {f15 : List Int} (h : W.heap[g]? = some (.cells #[.int .i64 f0, .int .i64 f1, .int .i64 f2, .int .i64 f3, .int .i64 f4, .slice A5 f5.length c5, .int .i64 f6, .int .i64 f7, .int .i64 f8, .int .i64 f9, .int .i64 f10, .int .i64 f11, .int .i64 f12, .int .i64 f13, .slice A14 f14.length c14, .slice A15 f15.length c15] 30 (0, 0))) : W.cell? ⟨g, 6, none⟩ = some (.int .i64 f6) := (blk_cell h 6).trans rfl
theorem IsS30.set_6 {w0 W : World} {g : Nat} {f0 : Int} {f1 : Int} {f2 : Int} {f3 : Int} {f4 : Int} {f5 : List (S54)} {f6 : Int} {f7 : Int} {f8 : Int} {f9 : Int} {f10 : Int} {f11 : Int} {f12 : Int} {f13 : Int} {f14 : List Int} {f15 : List Int} (h : IsS30 w0 W g f0 f1 f2 f3 f4 f5 f6 f7 f8 f9 f10 f11 f12 f13 f14 f15) (x : Int) : IsS30 w0 (W.setCell ⟨g, 6, none⟩ (.int .i64 x)) g f0 f1 f2 f3 f4 f5 x f7 f8 f9 f10 f11 f12 f13 f14 f15 := by
 obtain ⟨A5, c5, A14, c14, A15, c15, hb, hg, hr5, hr14, hr15⟩ := h
 exact ⟨A5, c5, A14, c14, A15, c15, by simpa using blk_set hb 6 (.int .i64 x), hg, hr5, hr14, hr15⟩
theorem cellS30_7 {W : World} {g : Nat} {A5 : Option Addr} {c5 : Nat} {A14 : Option Addr} {c14 : Nat} {A15 : Option Addr} {c15 : Nat} {f0 : Int} {f1 : Int} {f2 : Int} {f3 : Int} {f4 : Int} {f5 : List (S54)} {f6 : Int} {f7 : Int} {f8 : Int} {f9 : Int} {f10 : Int} {f11 : Int} {f12 : Int} {f13 : Int} {f14 : List Int} {f15 : List Int} (h : W.heap[g]? = some (.cells #[.int .i64 f0, .int .i64 f1, .int .i64 f2, .int .i64 f3, .int .i64 f4, .slice A5 f5.length c5, .int .i64 f6, .int .i64 f7, .int .i64 f8, .int .i64 f9, .int .i64 f10, .int .i64 f11, .int .i64 f12, .int .i64 f13, .slice A14 f14.length c14, .slice A15 f15.length c15] 30 (0, 0))) : W.cell? ⟨g, 7, none⟩ = some (.int .i64 f7) := (blk_cell h 7).trans rfl
theorem IsS30.set_7 {w0 W : World} {g : Nat} {f0 : Int} {f1 : Int} {f2 : Int} {f3 : Int} {f4 : Int} {f5 : List (S54)} {f6 : Int} {f7 : Int} {f8 : Int} {f9 : Int} {f10 : Int} {f11 : Int} {f12 : Int} {f13 : Int} {f14 : List Int} {f15 : List Int} (h : IsS30 w0 W g f0 f1 f2 f3 f4 f5 f6 f7 f8 f9 f10 f11 f12 f13 f14 f15) (x : Int) : IsS30 w0 (W.setCell ⟨g, 7, none⟩ (.int .i64 x)) g f0 f1 f2 f3 f4 f5 f6 x f8 f9 f10 f11 f12 f13 f14 f15 := by
 obtain ⟨A5, c5, A14, c14, A15, c15, hb, hg, hr5, hr14, hr15⟩ := h
 exact ⟨A5, c5, A14, c14, A15, c15, by simpa using blk_set hb 7 (.int .i64 x), hg, hr5, hr14, hr15⟩
theorem cellS30_8 {W : World} {g : Nat} {A5 : Option Addr} {c5 : Nat} {A14 : Option Addr} {c14 : Nat} {A15 : Option Addr} {c15 : Nat} {f0 : Int} {f1 : Int} {f2 : Int} {f3 : Int} {f4 : Int} {f5 : List (S54)} {f6 : Int} {f7 : Int} {f8 : Int} {f9 : Int} {f10 : Int} {f11 : Int} {f12 : Int} {f13 : Int} {f14 : List Int} {f15 : List Int} (h : W.heap[g]? = some (.cells #[.int .i64 f0, .int .i64 f1, .int .i64 f2, .int .i64 f3, .int .i64 f4, .slice A5 f5.length c5, .int .i64 f6, .int .i64 f7, .int .i64 f8, .int .i64 f9, .int .i64 f10, .int .i64 f11, .int .i64 f12, .int .i64 f13, .slice A14 f14.length c14, .slice A15 f15.length c15] 30 (0, 0))) : W.cell? ⟨g, 8, none⟩ = some (.int .i64 f8) := (blk_cell h 8).trans rfl
theorem IsS30.set_8 {w0 W : World} {g : Nat} {f0 : Int} {f1 : Int} {f2 : Int} {f3 : Int} {f4 : Int} {f5 : List (S54)} {f6 : Int} {f7 : Int} {f8 : Int} {f9 : Int} {f10 : Int} {f11 : Int} {f12 : Int} {f13 : Int} {f14 : List Int} {f15 : List Int} (h : IsS30 w0 W g f0 f1 f2 f3 f4 f5 f6 f7 f8 f9 f10 f11 f12 f13 f14 f15) (x : Int) : IsS30 w0 (W.setCell ⟨g, 8, none⟩ (.int .i64 x)) g f0 f1 f2 f3 f4 f5 f6 f7 x f9 f10 f11 f12 f13 f14 f15 := by
 obtain ⟨A5, c5, A14, c14, A15, c15, hb, hg, hr5, hr14, hr15⟩ := h
 exact ⟨A5, c5, A14, c14, A15, c15, by simpa using blk_set hb 8 (.int .i64 x), hg, hr5, hr14, hr15⟩
theorem cellS30_9 {W : World} {g : Nat} {A5 : Option Addr} {c5 : Nat} {A14 : Option Addr} {c14 : Nat} {A15 : Option Addr} {c15 : Nat} {f0 : Int} {f1 : Int} {f2 : Int} {f3 : Int} {f4 : Int} {f5 : List (S54)} {f6 : Int} {f7 : Int} {f8 : Int} {f9 : Int} {f10 : Int} {f11 : Int} {f12 : Int} {f13 : Int} {f14 : List Int} {f15 : List Int} (h : W.heap[g]? = some (.cells #[.int .i64 f0, .int .i64 f1, .int .i64 f2, .int .i64 f3, .int .i64 f4, .slice A5 f5.length c5, .int .i64 f6, .int .i64 f7, .int .i64 f8, .int .i64 f9, .int .i64 f10, .int .i64 f11, .int .i64 f12, .int .i64 f13, .slice A14 f14.length c14, .slice A15 f15.length c15] 30 (0, 0))) : W.cell? ⟨g, 9, none⟩ = some (.int .i64 f9) := (blk_cell h 9).trans rfl
theorem IsS30.set_9 {w0 W : World} {g : Nat} {f0 : Int} {f1 : Int} {f2 : Int} {f3 : Int} {f4 : Int} {f5 : List (S54)} {f6 : Int} {f7 : Int} {f8 : Int} {f9 : Int} {f10 : Int} {f11 : Int} {f12 : Int} {f13 : Int} {f14 : List Int} {f15 : List Int} (h : IsS30 w0 W g f0 f1 f2 f3 f4 f5 f6 f7 f8 f9 f10 f11 f12 f13 f14 f15) (x : Int) : IsS30 w0 (W.setCell ⟨g, 9, none⟩ (.int .i64 x)) g f0 f1 f2 f3 f4 f5 f6 f7 f8 x f10 f11 f12 f13 f14 f15 := by
 obtain ⟨A5, c5, A14, c14, A15, c15, hb, hg, hr5, hr14, hr15⟩ := h
 exact ⟨A5, c5, A14, c14, A15, c15, by simpa using blk_set hb 9 (.int .i64 x), hg, hr5, hr14, hr15⟩
theorem cellS30_10 {W : World} {g : Nat} {A5 : Option Addr} {c5 : Nat} {A14 : Option Addr} {c14 : Nat} {A15 : Option Addr} {c15 : Nat} {f0 : Int} {f1 : Int} {f2 : Int} {f3 : Int} {f4 : Int} {f5 : List (S54)} {f6 : Int} {f7 : Int} {f8 : Int} {f9 : Int} {f10 : Int} {f11 : Int} {f12 : Int} {f13 : Int} {f14 : List Int} {f15 : List Int} (h : W.heap[g]? = some (.cells #[.int .i64 f0, .int .i64 f1, .int .i64 f2, .int .i64 f3, .int .i64 f4, .slice A5 f5.length c5, .int .i64 f6, .int .i64 f7, .int .i64 f8, .int .i64 f9, .int .i64 f10, .int .i64 f11, .int .i64 f12, .int .i64 f13, .slice A14 f14.length c14, .slice A15 f15.length c15] 30 (0, 0))) : W.cell? ⟨g, 10, none⟩ = some (.int .i64 f10) := (blk_cell h 10).trans rfl
theorem IsS30.set_10 {w0 W : World} {g : Nat} {f0 : Int} {f1 : Int} {f2 : Int} {f3 : Int} {f4 : Int} {f5 : List (S54)} {f6 : Int} {f7 : Int} {f8 : Int} {f9 : Int} {f10 : Int} {f11 : Int} {f12 : Int} {f13 : Int} {f14 : List Int} {f15 : List Int} (h : IsS30 w0 W g f0 f1 f2 f3 f4 f5 f6 f7 f8 f9 f10 f11 f12 f13 f14 f15) (x : Int) : IsS30 w0 (W.setCell ⟨g, 10, none⟩ (.int .i64 x)) g f0 f1 f2 f3 f4 f5 f6 f7 f8 f9 x f11 f12 f13 f14 f15 := by
 obtain ⟨A5, c5, A14, c14, A15, c15, hb, hg, hr5, hr14, hr15⟩ := h
 exact ⟨A5, c5, A14, c14, A15, c15, by simpa using blk_set hb 10 (.int .i64 x), hg, hr5, hr14, hr15⟩
theorem cellS30_11 {W : World} {g : Nat} {A5 : Option Addr} {c5 : Nat} {A14 : Option Addr} {c14 : Nat} {A15 : Option Addr} {c15 : Nat} {f0 : Int} {f1 : Int} {f2 : Int} {f3 : Int} {f4 : Int} {f5 : List (S54)} {f6 : Int} {f7 : Int} {f8 : Int} {f9 : Int} {f10 : Int} {f11 : Int} {f12 : Int} {f13 : Int} {f14 : List Int} {f15 : List Int} (h : W.heap[g]? = some (.cells #[.int .i64 f0, .int .i64 f1, .int .i64 f2, .int .i64 f3, .int .i64 f4, .slice A5 f5.length c5, .int .i64 f6, .int .i64 f7, .int .i64 f8, .int .i64 f9, .int .i64 f10, .int .i64 f11, .int .i64 f12, .int .i64 f13, .slice A14 f14.length c14, .slice A15 f15.length c15] 30 (0, 0))) : W.cell? ⟨g, 11, none⟩ = some (.int .i64 f11) := (blk_cell h 11).trans rfl
theorem IsS30.set_11 {w0 W : World} {g : Nat} {f0 : Int} {f1 : Int} {f2 : Int} {f3 : Int} {f4 : Int} {f5 : List (S54)} {f6 : Int} {f7 : Int} {f8 : Int} {f9 : Int} {f10 : Int} {f11 : Int} {f12 : Int} {f13 : Int} {f14 : List Int} {f15 : List Int} (h : IsS30 w0 W g f0 f1 f2 f3 f4 f5 f6 f7 f8 f9 f10 f11 f12 f13 f14 f15) (x : Int) : IsS30 w0 (W.setCell ⟨g, 11, none⟩ (.int .i64 x)) g f0 f1 f2 f3 f4 f5 f6 f7 f8 f9 f10 x f12 f13 f14 f15 := by
 obtain ⟨A5, c5, A14, c14, A15, c15, hb, hg, hr5, hr14, hr15⟩ := h
 exact ⟨A5, c5, A14, c14, A15, c15, by simpa using blk_set hb 11 (.int .i64 x), hg, hr5, hr14, hr15⟩
theorem cellS30_12 {W : World} {g : Nat} {A5 : Option Addr} {c5 : Nat} {A14 : Option Addr} {c14 : Nat} {A15 : Option Addr} {c15 : Nat} {f0 : Int} {f1 : Int} {f2 : Int} {f3 : Int} {f4 : Int} {f5 : List (S54)} {f6 : Int} {f7 : Int} {f8 : Int} {f9 : Int} {f10 : Int} {f11 : Int} {f12 : Int} {f13 : Int} {f14 : List Int} {f15 : List Int} (h : W.heap[g]? = some (.cells #[.int .i64 f0, .int .i64 f1, .int .i64 f2, .int .i64 f3, .int .i64 f4, .slice A5 f5.length c5, .int .i64 f6, .int .i64 f7, .int .i64 f8, .int .i64 f9, .int .i64 f10, .int .i64 f11, .int .i64 f12, .int .i64 f13, .slice A14 f14.length c14, .slice A15 f15.length c15] 30 (0, 0))) : W.cell? ⟨g, 12, none⟩ = some (.int .i64 f12) := (blk_cell h 12).trans rfl
theorem IsS30.set_12 {w0 W : World} {g : Nat} {f0 : Int} {f1 : Int} {f2 : Int} {f3 : Int} {f4 : Int} {f5 : List (S54)} {f6 : Int} {f7 : Int} {f8 : Int} {f9 : Int} {f10 : Int} {f11 : Int} {f12 : Int} {f13 : Int} {f14 : List Int} {f15 : List Int} (h : IsS30 w0 W g f0 f1 f2 f3 f4 f5 f6 f7 f8 f9 f10 f11 f12 f13 f14 f15) (x : Int) : IsS30 w0 (W.setCell ⟨g, 12, none⟩ (.int .i64 x)) g f0 f1 f2 f3 f4 f5 f6 f7 f8 f9 f10 f11 x f13 f14 f15 := by
 obtain ⟨A5, c5, A14, c14, A15, c15, hb, hg, hr5, hr14, hr15⟩ := h
 exact ⟨A5, c5, A14, c14, A15, c15, by simpa using blk_set hb 12 (.int .i64 x), hg, hr5, hr14, hr15⟩
theorem cellS30_13 {W : World} {g : Nat} {A5 : Option Addr} {c5 : Nat} {A14 : Option Addr} {c14 : Nat} {A15 : Option Addr} {c15 : Nat} {f0 : Int} {f1 : Int} {f2 : Int} {f3 : Int} {f4 : Int} {f5 : List (S54)} {f6 : Int} {f7 : Int} {f8 : Int} {f9 : Int} {f10 : Int} {f11 : Int} {f12 : Int} {f13 : Int} {f14 : List Int} {f15 : List Int} (h : W.heap[g]? = some (.cells #[.int .i64 f0, .int .i64 f1, .int .i64 f2, .int .i64 f3, .int .i64 f4, .slice A5 f5.length c5, .int .i64 f6, .int .i64 f7, .int .i64 f8, .int .i64 f9, .int .i64 f10, .int .i64 f11, .int .i64 f12, .int .i64 f13, .slice A14 f14.length c14, .slice A15 f15.length c15] 30 (0, 0))) : W.cell? ⟨g, 13, none⟩ = some (.int .i64 f13) := (blk_cell h 13).trans rfl
theorem IsS30.set_13 {w0 W : World} {g : Nat} {f0 : Int} {f1 : Int} {f2 : Int} {f3 : Int} {f4 : Int} {f5 : List (S54)} {f6 : Int} {f7 : Int} {f8 : Int} {f9 : Int} {f10 : Int} {f11 : Int} {f12 : Int} {f13 : Int} {f14 : List Int} {f15 : List Int} (h : IsS30 w0 W g f0 f1 f2 f3 f4 f5 f6 f7 f8 f9 f10 f11 f12 f13 f14 f15) (x : Int) : IsS30 w0 (W.setCell ⟨g, 13, none⟩ (.int .i64 x)) g f0 f1 f2 f3 f4 f5 f6 f7 f8 f9 f10 f11 f12 x f14 f15 := by
 obtain ⟨A5, c5, A14, c14, A15, c15, hb, hg, hr5, hr14, hr15⟩ := h
 exact ⟨A5, c5, A14, c14, A15, c15, by simpa using blk_set hb 13 (.int .i64 x), hg, hr5, hr14, hr15⟩
theorem cellS30_14 {W : World} {g : Nat} {A5 : Option Addr} {c5 : Nat} {A14 : Option Addr} {c14 : Nat} {A15 : Option Addr} {c15 : Nat} {f0 : Int} {f1 : Int} {f2 : Int} {f3 : Int} {f4 : Int} {f5 : List (S54)} {f6 : Int} {f7 : Int} {f8 : Int} {f9 : Int} {f10 : Int} {f11 : Int} {f12 : Int} {f13 : Int} {f14 : List Int} {f15 : List Int} (h : W.heap[g]? = some (.cells #[.int .i64 f0, .int .i64 f1, .int .i64 f2, .int .i64 f3, .int .i64 f4, .slice A5 f5.length c5, .int .i64 f6, .int .i64 f7, .int .i64 f8, .int .i64 f9, .int .i64 f10, .int .i64 f11, .int .i64 f12, .int .i64 f13, .slice A14 f14.length c14, .slice A15 f15.length c15] 30 (0, 0))) : W.cell? ⟨g, 14, none⟩ = some (.slice A14 f14.length c14) := (blk_cell h 14).trans rfl
theorem cellS30_15 {W : World} {g : Nat} {A5 : Option Addr} {c5 : Nat} {A14 : Option Addr} {c14 : Nat} {A15 : Option Addr} {c15 : Nat} {f0 : Int} {f1 : Int} {f2 : Int} {f3 : Int} {f4 : Int} {f5 : List (S54)} {f6 : Int} {f7 : Int} {f8 : Int} {f9 : Int} {f10 : Int} {f11 : Int} {f12 : Int} {f13 : Int} {f14 : List Int} {f15 : List Int} (h : W.heap[g]? = some (.cells #[.int .i64 f0, .int .i64 f1, .int .i64 f2, .int .i64 f3, .int .i64 f4, .slice A5 f5.length c5, .int .i64 f6, .int .i64 f7, .int .i64 f8, .int .i64 f9, .int .i64 f10, .int .i64 f11, .int .i64 f12, .int .i64 f13, .slice A14 f14.length c14, .slice A15 f15.length c15] 30 (0, 0))) : W.cell? ⟨g, 15, none⟩ = some (.slice A15 f15.length c15) := (blk_cell h 15).trans rfl
theorem IsS30.new (w0 W : World) (A5 : Option Addr) (c5 : Nat) (A14 : Option Addr) (c14 : Nat) (A15 : Option Addr) (c15 : Nat) (f0 : Int) (f1 : Int) (f2 : Int) (f3 : Int) (f4 : Int) (f5 : List (S54)) (f6 : Int) (f7 : Int) (f8 : Int) (f9 : Int) (f10 : Int) (f11 : Int) (f12 : Int) (f13 : Int) (f14 : List Int) (f15 : List Int) (hB : Below w0.heap.size w0 W) (hr5 : Kd.C k54 w0 A5 f5.length f5) (hr14 : Kd.C (Kd.int .i64) w0 A14 f14.length f14) (hr15 : Kd.C (Kd.int .i64) w0 A15 f15.length f15) : IsS30 w0 (W.alloc (.cells #[.int .i64 f0, .int .i64 f1, .int .i64 f2, .int .i64 f3, .int .i64 f4, .slice A5 f5.length c5, .int .i64 f6, .int .i64 f7, .int .i64 f8, .int .i64 f9, .int .i64 f10, .int .i64 f11, .int .i64 f12, .int .i64 f13, .slice A14 f14.length c14, .slice A15 f15.length c15] 30)) W.heap.size f0 f1 f2 f3 f4 f5 f6 f7 f8 f9 f10 f11 f12 f13 f14 f15 := ⟨A5, c5, A14, c14, A15, c15, by simpa using heap_alloc_new W _, hB.size, hr5, hr14, hr15⟩

/-! ### impl_Node_last: function 37 -/
def impl_Node_last.f (s0_0 : Int) (s0_1 : Int) (s0_2 : Int) (s0_3 : Int) (s0_4 : Int) (s0_5 : List (S54)) (s0_6 : Int) (s0_7 : Int) (s0_8 : Int) (s0_9 : Int) (s0_10 : Int) (s0_11 : Int) (s0_12 : Int) (s0_13 : Int) (s0_14 : List Int) (s0_15 : List Int) : Option (Int × Int × Int × Int × Int × Int × Int × Int × Int × Int × Int × Int × Int × Int) := some (wrap64 (s0_6 + (s0_5.length : Int)), s0_0, s0_1, s0_2, s0_3, s0_4, s0_6, s0_7, s0_8, s0_9, s0_10, s0_11, s0_12, s0_13)
set_option maxHeartbeats 8000000 in
set_option maxRecDepth 100000 in
theorem impl_Node_last.calls (g : Nat) (s0_0 : Int) (s0_1 : Int) (s0_2 : Int) (s0_3 : Int) (s0_4 : Int) (s0_5 : List (S54)) (s0_6 : Int) (s0_7 : Int) (s0_8 : Int) (s0_9 : Int) (s0_10 : Int) (s0_11 : Int) (s0_12 : Int) (s0_13 : Int) (s0_14 : List Int) (s0_15 : List Int) (r1 : Int) (r2 : Int) (r3 : Int) (r4 : Int) (r5 : Int) (r6 : Int) (r7 : Int) (r8 : Int) (r9 : Int) (r10 : Int) (r11 : Int) (r12 : Int) (r13 : Int) (r14 : Int) (w0 w : World) (hI : IsS30 w0 w g s0_0 s0_1 s0_2 s0_3 s0_4 s0_5 s0_6 s0_7 s0_8 s0_9 s0_10 s0_11 s0_12 s0_13 s0_14 s0_15) (hB : Below w0.heap.size w0 w) (h : impl_Node_last.f s0_0 s0_1 s0_2 s0_3 s0_4 s0_5 s0_6 s0_7 s0_8 s0_9 s0_10 s0_11 s0_12 s0_13 s0_14 s0_15 = some (r1, r2, r3, r4, r5, r6, r7, r8, r9, r10, r11, r12, r13, r14)) :
  Calls Try.prog 37 #[.pointer (some ⟨g, 0, none⟩)] w fun e w' => e = .returned (.int .i64 r1) ∧ IsS30 w0 w' g r2 r3 r4 r5 r6 s0_5 r7 r8 r9 r10 r11 r12 r13 r14 s0_14 s0_15 ∧ Below w0.heap.size w0 w' ∧ KeepBut w w' g none := by
 have HI0 := Aside0.mk hI
 have HK := Aside0.mk (KeepBut.refl w g none)
 have HL := Aside0.mk hB.size
 clear hI
 have HW0 := Aside0.mk hB.size
 have HB := Aside0.mk hB
 clear hB
 have H : (some (wrap64 (s0_6 + (s0_5.length : Int)), s0_0, s0_1, s0_2, s0_3, s0_4, s0_6, s0_7, s0_8, s0_9, s0_10, s0_11, s0_12, s0_13)) = some (r1, r2, r3, r4, r5, r6, r7, r8, r9, r10, r11, r12, r13, r14) := h
 clear h
 simp only [Option.some.injEq, Prod.mk.injEq] at H
 obtain ⟨rfl, rfl, rfl, rfl, rfl, rfl, rfl, rfl, rfl, rfl, rfl, rfl, rfl, rfl⟩ := H
 obtain ⟨ASz2_5, cSz2_5, ASz2_14, cSz2_14, ASz2_15, cSz2_15, HGz2, hgz2, HSz2_5, HSz2_14, HSz2_15⟩ := HI0.out
 have hcz2_0 := cellS30_0 HGz2
 have hcz2_1 := cellS30_1 HGz2
 have hcz2_2 := cellS30_2 HGz2
 have hcz2_3 := cellS30_3 HGz2
 have hcz2_4 := cellS30_4 HGz2
 have hcz2_5 := cellS30_5 HGz2
 have hcz2_6 := cellS30_6 HGz2
 have hcz2_7 := cellS30_7 HGz2
 have hcz2_8 := cellS30_8 HGz2
 have hcz2_9 := cellS30_9 HGz2
 have hcz2_10 := cellS30_10 HGz2
 have hcz2_11 := cellS30_11 HGz2
 have hcz2_12 := cellS30_12 HGz2
 have hcz2_13 := cellS30_13 HGz2
 have hcz2_14 := cellS30_14 HGz2
 have hcz2_15 := cellS30_15 HGz2
 have hfz2_0 := blk_frozen HGz2 0
 have hfz2_1 := blk_frozen HGz2 1
 have hfz2_2 := blk_frozen HGz2 2
 have hfz2_3 := blk_frozen HGz2 3
 have hfz2_4 := blk_frozen HGz2 4
 have hfz2_6 := blk_frozen HGz2 6
 have hfz2_7 := blk_frozen HGz2 7
 have hfz2_8 := blk_frozen HGz2 8
 have hfz2_9 := blk_frozen HGz2 9
 have hfz2_10 := blk_frozen HGz2 10
 have hfz2_11 := blk_frozen HGz2 11
 have hfz2_12 := blk_frozen HGz2 12
 have hfz2_13 := blk_frozen HGz2 13
 clear HGz2 hgz2
 go_enter Try.func37, Try.ntmps37
 go_wp2
 repeat (go_quiet (fail); try go_wp2)
 go_ret
 exact ⟨by first | rfl | (simp [errW_none, errW_some] <;> rfl) | (simp [*, errW_none, errW_some] <;> rfl), by repeat (first | (with_reducible first | exact HI0.out | apply IsS30.alloc | apply IsS30.drewN | apply IsS30.drew | apply IsS30.set_0 | apply IsS30.set_1 | apply IsS30.set_2 | apply IsS30.set_3 | apply IsS30.set_4 | apply IsS30.set_6 | apply IsS30.set_7 | apply IsS30.set_8 | apply IsS30.set_9 | apply IsS30.set_10 | apply IsS30.set_11 | apply IsS30.set_12 | apply IsS30.set_13) | exact HI0.out), by repeat (first | (with_reducible first | exact HB.out | apply below_alloc | apply pw_below_drewN | apply below_drew1 | refine below_set ?_ (IsS30.ge HI0.out)) | exact HB.out), by repeat (first | (with_reducible first | exact HK.out | apply KeepBut.set_ | apply keep_drewN | apply keep_drew | apply keep_alloc) | exact HK.out)⟩

/-! ### impl_NodeOK: function 12 -/
def impl_NodeOK.inb (x a b : Int) : Bool := decide (a ≤ x) && decide (x ≤ b)
def impl_NodeOK.h1 (a0 a1 a2 a3 a4 : Int) (n : Nat) : Bool := impl_NodeOK.inb a0 0 7 && (impl_NodeOK.inb a1 0 1000000 && (impl_NodeOK.inb a2 (-1) 7 && (impl_NodeOK.inb a4 (-1) 7 && (impl_NodeOK.inb a3 1 3 && !(decide (200 < (n : Int)))))))
def impl_NodeOK.h2 (a1 a6 a7 a8 a9 a10 : Int) : Bool := impl_NodeOK.inb a6 0 1000000 && (impl_NodeOK.inb a7 0 a1 && (!((a7 == 0) != (a6 == 0)) && (impl_NodeOK.inb a8 0 255 && (impl_NodeOK.inb a9 1 255 && impl_NodeOK.inb a10 0 4294967295))))
def impl_NodeOK.h3 (a3 a6 a11 a12 a13 la : Int) : Bool := impl_NodeOK.inb a11 a6 la && (impl_NodeOK.inb a12 0 100 && (impl_NodeOK.inb a13 0 255 && !((a13 != 0) && (a3 != 2))))
set_option maxRecDepth 100000 in
def impl_NodeOK.l0 : Nat → List (S54) → Int → Int → Int → Option Bool
 | 0, _, _, _, _ => none
 | k + 1, l, a1, t, i => if i < (l.length : Int) then (if 0 ≤ i then ((impl_entryOK.f k (rd_T54 l i).f0 (rd_T54 l i).f1 (rd_T54 l i).f2 (rd_T54 l i).f3 (rd_T54 l i).f4).bind fun b => if b = true then (if (rd_T54 l i).f0 < t then some false else if a1 < (rd_T54 l i).f0 then some false else impl_NodeOK.l0 k l a1 (rd_T54 l i).f0 (wrap64 (i + 1))) else some false) else none) else some true
set_option maxRecDepth 100000 in
def impl_NodeOK.l1 : Nat → List Int → List Int → Int → Int → Option Bool
 | 0, _, _, _, _ => none
 | k + 1, nx, m, la, i => if i < 8 then (if 0 ≤ i then (if impl_NodeOK.inb (rd m i) 0 la = true then (if impl_NodeOK.inb (rd nx i) (wrap64 (rd m i + 1)) (wrap64 (la + 1)) = true then impl_NodeOK.l1 k nx m la (wrap64 (i + 1)) else some false) else some false) else none) else some true
def impl_NodeOK.rest (k : Nat) (a3 la : Int) (l14 l15 : List Int) : Option Bool := if a3 = 3 then (if (l14.length : Int) = 8 then (if (l15.length : Int) = 8 then impl_NodeOK.l1 k l14 l15 la 0 else some false) else some false) else some ((l14.length : Int) == 0 && (l15.length : Int) == 0)
def impl_NodeOK.f (k : Nat) (a0 a1 a2 a3 a4 : Int) (l5 : List (S54)) (a6 a7 a8 a9 a10 a11 a12 a13 : Int) (l14 l15 : List Int) : Option Bool :=
 if impl_NodeOK.h1 a0 a1 a2 a3 a4 l5.length = true then (if impl_NodeOK.h2 a1 a6 a7 a8 a9 a10 = true then ((impl_NodeOK.l0 k l5 a1 a7 0).bind fun b => if b = true then (if impl_NodeOK.h3 a3 a6 a11 a12 a13 (wrap64 (a6 + (l5.length : Int))) = true then impl_NodeOK.rest k a3 (wrap64 (a6 + (l5.length : Int))) l14 l15 else some false) else some false) else some false) else some false
theorem impl_NodeOK.mono_l : ∀ k, (∀ y0 y1 y2 y3, LeO (impl_NodeOK.l0 k y0 y1 y2 y3) (impl_NodeOK.l0 (k + 1) y0 y1 y2 y3)) ∧ (∀ y0 y1 y2 y3, LeO (impl_NodeOK.l1 k y0 y1 y2 y3) (impl_NodeOK.l1 (k + 1) y0 y1 y2 y3))
 | 0 => ⟨fun _ _ _ _ r h => by simp [impl_NodeOK.l0] at h, fun _ _ _ _ r h => by simp [impl_NodeOK.l1] at h⟩
 | k + 1 => by
  obtain ⟨ih0, ih1⟩ := impl_NodeOK.mono_l k
  refine ⟨?_, ?_⟩
  ·intro y0 y1 y2 y3
   unfold impl_NodeOK.l0
   repeat' first
   | (with_reducible exact ih0 _ _ _ _)
   | (with_reducible exact impl_entryOK.mono _ _ _ _ _ _)
   | (with_reducible exact LeO.refl _)
   | (with_reducible exact LeO.none _)
   | (with_reducible refine LeO.ite ?_ ?_)
   | (with_reducible refine LeO.bind ?_ (fun _ => ?_))
  ·intro y0 y1 y2 y3
   unfold impl_NodeOK.l1
   repeat' first
   | (with_reducible exact ih1 _ _ _ _)
   | (with_reducible exact LeO.refl _)
   | (with_reducible exact LeO.none _)
   | (with_reducible refine LeO.ite ?_ ?_)
theorem impl_NodeOK.mono : ∀ a0 a1 a2 a3 a4 l5 a6 a7 a8 a9 a10 a11 a12 a13 l14 l15 k, LeO (impl_NodeOK.f k a0 a1 a2 a3 a4 l5 a6 a7 a8 a9 a10 a11 a12 a13 l14 l15) (impl_NodeOK.f (k + 1) a0 a1 a2 a3 a4 l5 a6 a7 a8 a9 a10 a11 a12 a13 l14 l15) := by
 intro a0 a1 a2 a3 a4 l5 a6 a7 a8 a9 a10 a11 a12 a13 l14 l15 k
 obtain ⟨ih0, ih1⟩ := impl_NodeOK.mono_l k
 unfold impl_NodeOK.f impl_NodeOK.rest
 repeat' first
 | (with_reducible exact ih0 _ _ _ _)
 | (with_reducible exact ih1 _ _ _ _)
 | (with_reducible exact LeO.refl _)
 | (with_reducible refine LeO.ite ?_ ?_)
 | (with_reducible refine LeO.bind ?_ (fun _ => ?_))
set_option maxHeartbeats 8000000 in
theorem impl_NodeOK.win_t (x a b : Int) (w : World) (h : Aside0 (impl_NodeOK.inb x a b = true)) : Calls Try.prog 35 #[.int .i64 x, .int .i64 a, .int .i64 b] w fun e w' => e = .returned (.bool true) ∧ w' = w := by
 have h' := h.out
 unfold impl_NodeOK.inb at h'
 rw [Bool.and_eq_true, decide_eq_true_eq, decide_eq_true_eq] at h'
 obtain ⟨h1, h2⟩ := h'
 clear h
 go_enter Try.func35, Try.ntmps35
 go_wp2
 go_ret
 exact ⟨rfl, rfl⟩
set_option maxHeartbeats 8000000 in
theorem impl_NodeOK.win_f (x a b : Int) (w : World) (h : Aside0 (impl_NodeOK.inb x a b = false)) : Calls Try.prog 35 #[.int .i64 x, .int .i64 a, .int .i64 b] w fun e w' => e = .returned (.bool false) ∧ w' = w := by
 have h' := h.out
 unfold impl_NodeOK.inb at h'
 by_cases h1 : a ≤ x
 ·rw [decide_eq_true h1, Bool.true_and, decide_eq_false_iff_not] at h'
  clear h
  go_enter Try.func35, Try.ntmps35
  go_wp2
  go_ret
  exact ⟨rfl, rfl⟩
 ·clear h h'
  go_enter Try.func35, Try.ntmps35
  go_wp2
  go_ret
  exact ⟨rfl, rfl⟩
set_option maxHeartbeats 8000000 in
theorem impl_NodeOK.last_q (g : Nat) (b : Int) (A : Option Addr) (n c : Nat) (w : World) (h6 : w.cell? ⟨g, 6, none⟩ = some (.int .i64 b)) (h5 : w.cell? ⟨g, 5, none⟩ = some (.slice A n c)) :
  Calls Try.prog 37 #[.pointer (some ⟨g, 0, none⟩)] w fun e w' => e = .returned (.int .i64 (wrap64 (b + (n : Int)))) ∧ ∃ m, w' = w.drewN m := by
 go_enter Try.func37, Try.ntmps37
 go_wp2
 go_quiet (fail)
 go_wp2
 go_ret
 exact ⟨rfl, _, rfl⟩
set_option maxHeartbeats 8000000 in
set_option maxRecDepth 100000 in
theorem impl_NodeOK.calls (k : Nat) (a0 a1 a2 a3 a4 : Int) (A5 : Option Addr) (c5 : Nat) (l5 : List (S54)) (a6 a7 a8 a9 a10 a11 a12 a13 : Int) (A14 : Option Addr) (c14 : Nat) (l14 : List Int) (A15 : Option Addr) (c15 : Nat) (l15 : List Int) (r : Bool) (w : World) (hr5 : Kd.C k54 w A5 l5.length l5) (hc5 : l5.length ≤ c5) (hr14 : Kd.C (Kd.int .i64) w A14 l14.length l14) (hc14 : l14.length ≤ c14) (hr15 : Kd.C (Kd.int .i64) w A15 l15.length l15) (hc15 : l15.length ≤ c15) (h : impl_NodeOK.f k a0 a1 a2 a3 a4 l5 a6 a7 a8 a9 a10 a11 a12 a13 l14 l15 = some r) :
  Calls Try.prog 12 #[.agg #[.int .i64 a0, .int .i64 a1, .int .i64 a2, .int .i64 a3, .int .i64 a4, .slice A5 l5.length c5, .int .i64 a6, .int .i64 a7, .int .i64 a8, .int .i64 a9, .int .i64 a10, .int .i64 a11, .int .i64 a12, .int .i64 a13, .slice A14 l14.length c14, .slice A15 l15.length c15]] w fun e w' => e = .returned (.bool r) ∧ Below w.heap.size w w' := by
 have HR5 := Aside0.mk hr5
 have HR14 := Aside0.mk hr14
 have HR15 := Aside0.mk hr15
 have HB := Aside0.mk (Below.refl w.heap.size w)
 clear hr5 hc5 hr14 hc14 hr15 hc15
 unfold impl_NodeOK.f at h
 cases q0 : impl_NodeOK.inb a0 0 7 with
 | false =>
  rw [if_neg (by unfold impl_NodeOK.h1; rw [q0]; simp)] at h
  cases h
  have Q0 := Aside0.mk q0
  clear q0
  go_enter Try.func12, Try.ntmps12
  go_wp2_with (first | (go_at_call 35; (first | (with_reducible refine (impl_NodeOK.win_t _ _ _ _ (by assumption)).mono ?_) | (with_reducible refine (impl_NodeOK.win_f _ _ _ _ (by assumption)).mono ?_)); rintro e w' ⟨rfl, rfl⟩))
  go_ret
  exact ⟨rfl, zb⟩
 | true =>
  cases q1 : impl_NodeOK.inb a1 0 1000000 with
  | false =>
   rw [if_neg (by unfold impl_NodeOK.h1; rw [q0, q1]; simp)] at h
   cases h
   have Q0 := Aside0.mk q0
   have Q1 := Aside0.mk q1
   clear q0 q1
   go_enter Try.func12, Try.ntmps12
   go_wp2_with (first | (go_at_call 35; (first | (with_reducible refine (impl_NodeOK.win_t _ _ _ _ (by assumption)).mono ?_) | (with_reducible refine (impl_NodeOK.win_f _ _ _ _ (by assumption)).mono ?_)); rintro e w' ⟨rfl, rfl⟩))
   go_ret
   exact ⟨rfl, zb⟩
  | true =>
   cases q2 : impl_NodeOK.inb a2 (-1) 7 with
   | false =>
    rw [if_neg (by unfold impl_NodeOK.h1; rw [q0, q1, q2]; simp)] at h
    cases h
    have Q0 := Aside0.mk q0
    have Q1 := Aside0.mk q1
    have Q2 := Aside0.mk q2
    clear q0 q1 q2
    go_enter Try.func12, Try.ntmps12
    go_wp2_with (first | (go_at_call 35; (first | (with_reducible refine (impl_NodeOK.win_t _ _ _ _ (by assumption)).mono ?_) | (with_reducible refine (impl_NodeOK.win_f _ _ _ _ (by assumption)).mono ?_)); rintro e w' ⟨rfl, rfl⟩))
    go_ret
    exact ⟨rfl, zb⟩
   | true =>
    cases q3 : impl_NodeOK.inb a4 (-1) 7 with
    | false =>
     rw [if_neg (by unfold impl_NodeOK.h1; rw [q0, q1, q2, q3]; simp)] at h
     cases h
     have Q0 := Aside0.mk q0
     have Q1 := Aside0.mk q1
     have Q2 := Aside0.mk q2
     have Q3 := Aside0.mk q3
     clear q0 q1 q2 q3
     go_enter Try.func12, Try.ntmps12
     go_wp2_with (first | (go_at_call 35; (first | (with_reducible refine (impl_NodeOK.win_t _ _ _ _ (by assumption)).mono ?_) | (with_reducible refine (impl_NodeOK.win_f _ _ _ _ (by assumption)).mono ?_)); rintro e w' ⟨rfl, rfl⟩))
     go_ret
     exact ⟨rfl, zb⟩
    | true =>
     cases q4 : impl_NodeOK.inb a3 1 3 with
     | false =>
      rw [if_neg (by unfold impl_NodeOK.h1; rw [q0, q1, q2, q3, q4]; simp)] at h
      cases h
      have Q0 := Aside0.mk q0
      have Q1 := Aside0.mk q1
      have Q2 := Aside0.mk q2
      have Q3 := Aside0.mk q3
      have Q4 := Aside0.mk q4
      clear q0 q1 q2 q3 q4
      go_enter Try.func12, Try.ntmps12
      go_wp2_with (first | (go_at_call 35; (first | (with_reducible refine (impl_NodeOK.win_t _ _ _ _ (by assumption)).mono ?_) | (with_reducible refine (impl_NodeOK.win_f _ _ _ _ (by assumption)).mono ?_)); rintro e w' ⟨rfl, rfl⟩))
      go_ret
      exact ⟨rfl, zb⟩
     | true =>
      cases q5 : decide (200 < (l5.length : Int)) with
      | true =>
       rw [if_neg (by unfold impl_NodeOK.h1; rw [q0, q1, q2, q3, q4, q5]; simp)] at h
       cases h
       have q5n : decide (200 < l5.length) = true := by have := of_decide_eq_true q5; exact decide_eq_true (by omega)
       have Q0 := Aside0.mk q0
       have Q1 := Aside0.mk q1
       have Q2 := Aside0.mk q2
       have Q3 := Aside0.mk q3
       have Q4 := Aside0.mk q4
       clear q0 q1 q2 q3 q4
       go_enter Try.func12, Try.ntmps12
       go_wp2_with (first | (go_at_call 35; (first | (with_reducible refine (impl_NodeOK.win_t _ _ _ _ (by assumption)).mono ?_) | (with_reducible refine (impl_NodeOK.win_f _ _ _ _ (by assumption)).mono ?_)); rintro e w' ⟨rfl, rfl⟩))
       go_ret
       exact ⟨rfl, zb⟩
      | false =>
       rw [if_pos (by unfold impl_NodeOK.h1; rw [q0, q1, q2, q3, q4, q5]; rfl)] at h
       have q5n : decide (200 < l5.length) = false := by have := of_decide_eq_false q5; exact decide_eq_false (by omega)
       have Q0 := Aside0.mk q0
       have Q1 := Aside0.mk q1
       have Q2 := Aside0.mk q2
       have Q3 := Aside0.mk q3
       have Q4 := Aside0.mk q4
       clear q0 q1 q2 q3 q4
       have H := Aside0.mk h
       clear h
       go_enter Try.func12, Try.ntmps12
       go_upto_region 3 with (first | (go_at_call 35; (first | (with_reducible refine (impl_NodeOK.win_t _ _ _ _ (by assumption)).mono ?_) | (with_reducible refine (impl_NodeOK.win_f _ _ _ _ (by assumption)).mono ?_)); rintro e w' ⟨rfl, rfl⟩))
       clear q5 q5n Q0 Q2 Q3 Q4
       have h := H.out
       clear H
       cases p0 : impl_NodeOK.inb a6 0 1000000 with
       | false =>
        rw [if_neg (by unfold impl_NodeOK.h2; rw [p0]; simp)] at h
        cases h
        have P0 := Aside0.mk p0
        clear p0
        go_wp2_with (first | (go_at_call 35; (first | (with_reducible refine (impl_NodeOK.win_t _ _ _ _ (by assumption)).mono ?_) | (with_reducible refine (impl_NodeOK.win_f _ _ _ _ (by assumption)).mono ?_)); rintro e w' ⟨rfl, rfl⟩))
        go_ret
        exact ⟨rfl, zb⟩
       | true =>
        cases p1 : impl_NodeOK.inb a7 0 a1 with
        | false =>
         rw [if_neg (by unfold impl_NodeOK.h2; rw [p0, p1]; simp)] at h
         cases h
         have P0 := Aside0.mk p0
         have P1 := Aside0.mk p1
         clear p0 p1
         go_wp2_with (first | (go_at_call 35; (first | (with_reducible refine (impl_NodeOK.win_t _ _ _ _ (by assumption)).mono ?_) | (with_reducible refine (impl_NodeOK.win_f _ _ _ _ (by assumption)).mono ?_)); rintro e w' ⟨rfl, rfl⟩))
         go_ret
         exact ⟨rfl, zb⟩
        | true =>
         cases p2 : ((a7 == 0) != (a6 == 0)) with
         | true =>
          rw [if_neg (by unfold impl_NodeOK.h2; rw [p0, p1, p2]; simp)] at h
          cases h
          have P0 := Aside0.mk p0
          have P1 := Aside0.mk p1
          clear p0 p1
          cases e7 : (a7 == 0) with
          | false =>
           cases e6 : (a6 == 0) with
           | false =>
            rw [e7, e6] at p2
            cases p2
           | true =>
            clear p2
            go_wp2_with (first | (go_at_call 35; (first | (with_reducible refine (impl_NodeOK.win_t _ _ _ _ (by assumption)).mono ?_) | (with_reducible refine (impl_NodeOK.win_f _ _ _ _ (by assumption)).mono ?_)); rintro e w' ⟨rfl, rfl⟩))
            go_ret
            exact ⟨rfl, zb⟩
          | true =>
           cases e6 : (a6 == 0) with
           | true =>
            rw [e7, e6] at p2
            cases p2
           | false =>
            clear p2
            go_wp2_with (first | (go_at_call 35; (first | (with_reducible refine (impl_NodeOK.win_t _ _ _ _ (by assumption)).mono ?_) | (with_reducible refine (impl_NodeOK.win_f _ _ _ _ (by assumption)).mono ?_)); rintro e w' ⟨rfl, rfl⟩))
            go_ret
            exact ⟨rfl, zb⟩
         | false =>
          have p2' := p2
          obtain ⟨z, e7⟩ : ∃ z, (a7 == 0) = z := ⟨_, rfl⟩
          have e6 : (a6 == 0) = z := by rw [e7] at p2; cases z <;> cases e : (a6 == 0) <;> simp_all
          have D2 := Aside0.mk p2'
          clear p2 p2'
          cases p3 : impl_NodeOK.inb a8 0 255 with
          | false =>
           rw [if_neg (by unfold impl_NodeOK.h2; rw [p0, p1, D2.out, p3]; simp)] at h
           cases h
           have P0 := Aside0.mk p0
           have P1 := Aside0.mk p1
           have P3 := Aside0.mk p3
           clear p0 p1 p3
           go_wp2_with (first | (go_at_call 35; (first | (with_reducible refine (impl_NodeOK.win_t _ _ _ _ (by assumption)).mono ?_) | (with_reducible refine (impl_NodeOK.win_f _ _ _ _ (by assumption)).mono ?_)); rintro e w' ⟨rfl, rfl⟩))
           go_ret
           exact ⟨rfl, zb⟩
          | true =>
           cases p4 : impl_NodeOK.inb a9 1 255 with
           | false =>
            rw [if_neg (by unfold impl_NodeOK.h2; rw [p0, p1, D2.out, p3, p4]; simp)] at h
            cases h
            have P0 := Aside0.mk p0
            have P1 := Aside0.mk p1
            have P3 := Aside0.mk p3
            have P4 := Aside0.mk p4
            clear p0 p1 p3 p4
            go_wp2_with (first | (go_at_call 35; (first | (with_reducible refine (impl_NodeOK.win_t _ _ _ _ (by assumption)).mono ?_) | (with_reducible refine (impl_NodeOK.win_f _ _ _ _ (by assumption)).mono ?_)); rintro e w' ⟨rfl, rfl⟩))
            go_ret
            exact ⟨rfl, zb⟩
           | true =>
            cases p5 : impl_NodeOK.inb a10 0 4294967295 with
            | false =>
             rw [if_neg (by unfold impl_NodeOK.h2; rw [p0, p1, D2.out, p3, p4, p5]; simp)] at h
             cases h
             have P0 := Aside0.mk p0
             have P1 := Aside0.mk p1
             have P3 := Aside0.mk p3
             have P4 := Aside0.mk p4
             have P5 := Aside0.mk p5
             clear p0 p1 p3 p4 p5
             go_wp2_with (first | (go_at_call 35; (first | (with_reducible refine (impl_NodeOK.win_t _ _ _ _ (by assumption)).mono ?_) | (with_reducible refine (impl_NodeOK.win_f _ _ _ _ (by assumption)).mono ?_)); rintro e w' ⟨rfl, rfl⟩))
             go_ret
             exact ⟨rfl, zb⟩
            | true =>
             rw [if_pos (by unfold impl_NodeOK.h2; rw [p0, p1, D2.out, p3, p4, p5]; rfl)] at h
             have P0 := Aside0.mk p0
             have P1 := Aside0.mk p1
             have P3 := Aside0.mk p3
             have P4 := Aside0.mk p4
             have P5 := Aside0.mk p5
             clear p0 p1 p3 p4 p5
             obtain ⟨b, hb, h⟩ := Option.bind_eq_some_iff.mp h
             have HL := Aside0.mk hb
             have H := Aside0.mk h
             clear h hb
             go_wp2_with (first | (go_at_call 35; (first | (with_reducible refine (impl_NodeOK.win_t _ _ _ _ (by assumption)).mono ?_) | (with_reducible refine (impl_NodeOK.win_f _ _ _ _ (by assumption)).mono ?_)); rintro e w' ⟨rfl, rfl⟩))
             have BK0 := Aside0.mk (heap_alloc_new w (.cells #[.int .i64 a0, .int .i64 a1, .int .i64 a2, .int .i64 a3, .int .i64 a4, .slice A5 l5.length c5, .int .i64 a6, .int .i64 a7, .int .i64 a8, .int .i64 a9, .int .i64 a10, .int .i64 a11, .int .i64 a12, .int .i64 a13, .slice A14 l14.length c14, .slice A15 l15.length c15] 30))
             clear e7 e6 D2 P0 P1 P3 P4 P5 Q1
             go_loopg [3, 85] k (fun kq v3 v85 w' => ∃ (t x : Int), v3 = .int .i64 t ∧ v85 = .int .i64 x ∧ Aside0 (impl_NodeOK.l0 kq l5 a1 t x = some b) ∧ Aside0 (kq ≤ k) ∧ Aside0 (w'.heap[w.heap.size]? = some (.cells #[.int .i64 a0, .int .i64 a1, .int .i64 a2, .int .i64 a3, .int .i64 a4, .slice A5 l5.length c5, .int .i64 a6, .int .i64 a7, .int .i64 a8, .int .i64 a9, .int .i64 a10, .int .i64 a11, .int .i64 a12, .int .i64 a13, .slice A14 l14.length c14, .slice A15 l15.length c15] 30 (0, 0))) ∧ Aside0 (Below w.heap.size w w'))
             case atStart => exact ⟨a7, 0, rfl, rfl, HL, ⟨Nat.le_refl _⟩, BK0, ⟨zb⟩⟩
             case round =>
              clear HL HB BK0
              obtain ⟨t, x, rfl, rfl, HA, HK, BK, HB⟩ := hrel
              cases gk with
              | zero => exact absurd HA.out (by simp [impl_NodeOK.l0])
              | succ k1 =>
               have h := HA.out
               clear HA
               simp only [impl_NodeOK.l0] at h
               by_cases c10 : x < (l5.length : Int)
               ·rw [if_pos c10] at h
                by_cases c11 : 0 ≤ x
                ·rw [if_pos c11] at h
                 obtain ⟨e, he, h⟩ := Option.bind_eq_some_iff.mp h
                 have AE := Aside0.mk he
                 clear he
                 obtain ⟨ad1, e1, hx0, hx1, hx2, hx3, hx4⟩ := at_T54 HR5.out x c11 c10
                 cases e1
                 replace hx0 := (HB.out.cell (World.block_lt_of_cell? w _ hx0)).trans hx0
                 replace hx1 := (HB.out.cell (World.block_lt_of_cell? w _ hx1)).trans hx1
                 replace hx2 := (HB.out.cell (World.block_lt_of_cell? w _ hx2)).trans hx2
                 replace hx3 := (HB.out.cell (World.block_lt_of_cell? w _ hx3)).trans hx3
                 replace hx4 := (HB.out.cell (World.block_lt_of_cell? w _ hx4)).trans hx4
                 have c10b : decide (x < (l5.length : Int)) = true := decide_eq_true c10
                 replace c10 := eq_true c10
                 replace c11 := eq_true c11
                 cases e with
                 | false =>
                  rw [if_neg (by decide)] at h
                  cases h
                  have h := H.out
                  rw [if_neg (by decide)] at h
                  cases h
                  clear H
                  go_wp2_with (first | (go_at_call 36; (with_reducible refine (impl_entryOK.calls k1 _ _ _ _ _ _ _ AE.out).mono ?_); rintro e_ w9 ⟨rfl, hb⟩; have n0 := blk_below (heap_alloc_new wr _) hb; have n1 := Aside0.mk (blk_below (blk_alloc BK.out _) hb); have n2 := Aside0.mk (below_step (below_alloc HB.out _) hb); have hy0 : w9.cell? ⟨wr.heap.size, 0, none⟩ = some (.int .i64 (rd_T54 l5 x).f0) := (blk_cell n0 0).trans rfl; have hb1 : w9.cell? ⟨w.heap.size, 1, none⟩ = some (.int .i64 a1) := (blk_cell n1.out 1).trans rfl; clear n0 hb BK HB; have BK := n1; have HB := n2; clear n1 n2))
                  go_ret
                  exact ⟨rfl, zb⟩
                 | true =>
                  rw [if_pos rfl] at h
                  by_cases c12 : (rd_T54 l5 x).f0 < t
                  ·rw [if_pos c12] at h
                   cases h
                   have h := H.out
                   rw [if_neg (by decide)] at h
                   cases h
                   clear H
                   have c12b := decide_eq_true c12
                   clear c12
                   go_wp2_with (first | (go_at_call 36; (with_reducible refine (impl_entryOK.calls k1 _ _ _ _ _ _ _ AE.out).mono ?_); rintro e_ w9 ⟨rfl, hb⟩; have n0 := blk_below (heap_alloc_new wr _) hb; have n1 := Aside0.mk (blk_below (blk_alloc BK.out _) hb); have n2 := Aside0.mk (below_step (below_alloc HB.out _) hb); have hy0 : w9.cell? ⟨wr.heap.size, 0, none⟩ = some (.int .i64 (rd_T54 l5 x).f0) := (blk_cell n0 0).trans rfl; have hb1 : w9.cell? ⟨w.heap.size, 1, none⟩ = some (.int .i64 a1) := (blk_cell n1.out 1).trans rfl; clear n0 hb BK HB; have BK := n1; have HB := n2; clear n1 n2))
                   go_ret
                   exact ⟨rfl, zb⟩
                  ·rw [if_neg c12] at h
                   have c12b := decide_eq_false c12
                   clear c12
                   by_cases c13 : a1 < (rd_T54 l5 x).f0
                   ·rw [if_pos c13] at h
                    cases h
                    have h := H.out
                    rw [if_neg (by decide)] at h
                    cases h
                    clear H
                    have c13b := decide_eq_true c13
                    clear c13
                    go_wp2_with (first | (go_at_call 36; (with_reducible refine (impl_entryOK.calls k1 _ _ _ _ _ _ _ AE.out).mono ?_); rintro e_ w9 ⟨rfl, hb⟩; have n0 := blk_below (heap_alloc_new wr _) hb; have n1 := Aside0.mk (blk_below (blk_alloc BK.out _) hb); have n2 := Aside0.mk (below_step (below_alloc HB.out _) hb); have hy0 : w9.cell? ⟨wr.heap.size, 0, none⟩ = some (.int .i64 (rd_T54 l5 x).f0) := (blk_cell n0 0).trans rfl; have hb1 : w9.cell? ⟨w.heap.size, 1, none⟩ = some (.int .i64 a1) := (blk_cell n1.out 1).trans rfl; clear n0 hb BK HB; have BK := n1; have HB := n2; clear n1 n2))
                    go_ret
                    exact ⟨rfl, zb⟩
                   ·rw [if_neg c13] at h
                    have c13b := decide_eq_false c13
                    clear c13
                    have H' := Aside0.mk h
                    clear h
                    go_wp2_with (first | (go_at_call 36; (with_reducible refine (impl_entryOK.calls k1 _ _ _ _ _ _ _ AE.out).mono ?_); rintro e_ w9 ⟨rfl, hb⟩; have n0 := blk_below (heap_alloc_new wr _) hb; have n1 := Aside0.mk (blk_below (blk_alloc BK.out _) hb); have n2 := Aside0.mk (below_step (below_alloc HB.out _) hb); have hy0 : w9.cell? ⟨wr.heap.size, 0, none⟩ = some (.int .i64 (rd_T54 l5 x).f0) := (blk_cell n0 0).trans rfl; have hb1 : w9.cell? ⟨w.heap.size, 1, none⟩ = some (.int .i64 a1) := (blk_cell n1.out 1).trans rfl; clear n0 hb BK HB; have BK := n1; have HB := n2; clear n1 n2))
                    go_roundg k1
                    case measure => have := HK.out; omega
                    case rel => exact ⟨_, _, rfl, (by first | rfl | (simp; done) | (simp [*]; done)), H', ⟨by have := HK.out; omega⟩, ⟨by (with_reducible repeat (first | refine blk_drewN ?_ _ | refine blk_drew ?_ | refine blk_alloc ?_ _)); exact BK.out⟩, ⟨zb⟩⟩
                ·rw [if_neg c11] at h
                 cases h
               ·rw [if_neg c10] at h
                cases h
                have c10b : decide (x < (l5.length : Int)) = false := decide_eq_false c10
                clear c10
                have h := H.out
                rw [if_pos rfl] at h
                clear H
                have hcz0 : wr.cell? ⟨w.heap.size, 0, none⟩ = some (.int .i64 a0) := (blk_cell BK.out 0).trans rfl
                have hcz1 : wr.cell? ⟨w.heap.size, 1, none⟩ = some (.int .i64 a1) := (blk_cell BK.out 1).trans rfl
                have hcz2 : wr.cell? ⟨w.heap.size, 2, none⟩ = some (.int .i64 a2) := (blk_cell BK.out 2).trans rfl
                have hcz3 : wr.cell? ⟨w.heap.size, 3, none⟩ = some (.int .i64 a3) := (blk_cell BK.out 3).trans rfl
                have hcz4 : wr.cell? ⟨w.heap.size, 4, none⟩ = some (.int .i64 a4) := (blk_cell BK.out 4).trans rfl
                have hcz5 : wr.cell? ⟨w.heap.size, 5, none⟩ = some (.slice A5 l5.length c5) := (blk_cell BK.out 5).trans rfl
                have hcz6 : wr.cell? ⟨w.heap.size, 6, none⟩ = some (.int .i64 a6) := (blk_cell BK.out 6).trans rfl
                have hcz7 : wr.cell? ⟨w.heap.size, 7, none⟩ = some (.int .i64 a7) := (blk_cell BK.out 7).trans rfl
                have hcz8 : wr.cell? ⟨w.heap.size, 8, none⟩ = some (.int .i64 a8) := (blk_cell BK.out 8).trans rfl
                have hcz9 : wr.cell? ⟨w.heap.size, 9, none⟩ = some (.int .i64 a9) := (blk_cell BK.out 9).trans rfl
                have hcz10 : wr.cell? ⟨w.heap.size, 10, none⟩ = some (.int .i64 a10) := (blk_cell BK.out 10).trans rfl
                have hcz11 : wr.cell? ⟨w.heap.size, 11, none⟩ = some (.int .i64 a11) := (blk_cell BK.out 11).trans rfl
                have hcz12 : wr.cell? ⟨w.heap.size, 12, none⟩ = some (.int .i64 a12) := (blk_cell BK.out 12).trans rfl
                have hcz13 : wr.cell? ⟨w.heap.size, 13, none⟩ = some (.int .i64 a13) := (blk_cell BK.out 13).trans rfl
                have hcz14 : wr.cell? ⟨w.heap.size, 14, none⟩ = some (.slice A14 l14.length c14) := (blk_cell BK.out 14).trans rfl
                have hcz15 : wr.cell? ⟨w.heap.size, 15, none⟩ = some (.slice A15 l15.length c15) := (blk_cell BK.out 15).trans rfl
                go_upto_region 13 with (fail)
                cases s0 : impl_NodeOK.inb a11 a6 (wrap64 (a6 + (l5.length : Int))) with
                | false =>
                 rw [if_neg (by unfold impl_NodeOK.h3; rw [s0]; simp)] at h
                 cases h
                 have S0_ := Aside0.mk s0
                 clear s0
                 go_quiet (first | (go_at_call 37; exact Calls.quiet_of (impl_NodeOK.last_q w.heap.size a6 _ l5.length c5 _ hcz6 hcz5)) | (go_at_call 35; (try simp only [i64_w]); first | exact Calls.quiet_of_same (impl_NodeOK.win_t _ _ _ _ (by assumption)) | exact Calls.quiet_of_same (impl_NodeOK.win_f _ _ _ _ (by assumption))))
                 go_wp2
                 go_ret
                 exact ⟨rfl, zb⟩
                | true =>
                 cases s1 : impl_NodeOK.inb a12 0 100 with
                 | false =>
                  rw [if_neg (by unfold impl_NodeOK.h3; rw [s0, s1]; simp)] at h
                  cases h
                  have S0_ := Aside0.mk s0
                  have S1_ := Aside0.mk s1
                  clear s0 s1
                  go_quiet (first | (go_at_call 37; exact Calls.quiet_of (impl_NodeOK.last_q w.heap.size a6 _ l5.length c5 _ hcz6 hcz5)) | (go_at_call 35; (try simp only [i64_w]); first | exact Calls.quiet_of_same (impl_NodeOK.win_t _ _ _ _ (by assumption)) | exact Calls.quiet_of_same (impl_NodeOK.win_f _ _ _ _ (by assumption))))
                  go_wp2
                  go_ret
                  exact ⟨rfl, zb⟩
                 | true =>
                  cases s2 : impl_NodeOK.inb a13 0 255 with
                  | false =>
                   rw [if_neg (by unfold impl_NodeOK.h3; rw [s0, s1, s2]; simp)] at h
                   cases h
                   have S0_ := Aside0.mk s0
                   have S1_ := Aside0.mk s1
                   have S2_ := Aside0.mk s2
                   clear s0 s1 s2
                   go_quiet (first | (go_at_call 37; exact Calls.quiet_of (impl_NodeOK.last_q w.heap.size a6 _ l5.length c5 _ hcz6 hcz5)) | (go_at_call 35; (try simp only [i64_w]); first | exact Calls.quiet_of_same (impl_NodeOK.win_t _ _ _ _ (by assumption)) | exact Calls.quiet_of_same (impl_NodeOK.win_f _ _ _ _ (by assumption))))
                   go_wp2
                   go_ret
                   exact ⟨rfl, zb⟩
                  | true =>
                   cases y : (a13 != 0) with
                   | true =>
                    cases z2 : (a3 != 2) with
                    | true =>
                     rw [if_neg (by unfold impl_NodeOK.h3; rw [s0, s1, s2, y, z2]; simp)] at h
                     cases h
                     have S0_ := Aside0.mk s0
                     have S1_ := Aside0.mk s1
                     have S2_ := Aside0.mk s2
                     clear s0 s1 s2
                     go_quiet (first | (go_at_call 37; exact Calls.quiet_of (impl_NodeOK.last_q w.heap.size a6 _ l5.length c5 _ hcz6 hcz5)) | (go_at_call 35; (try simp only [i64_w]); first | exact Calls.quiet_of_same (impl_NodeOK.win_t _ _ _ _ (by assumption)) | exact Calls.quiet_of_same (impl_NodeOK.win_f _ _ _ _ (by assumption))))
                     go_wp2
                     go_ret
                     exact ⟨rfl, zb⟩
                    | false =>
                     rw [if_pos (by unfold impl_NodeOK.h3; rw [s0, s1, s2, y, z2]; rfl)] at h
                     have S0_ := Aside0.mk s0
                     have S1_ := Aside0.mk s1
                     have S2_ := Aside0.mk s2
                     clear s0 s1 s2
                     have a32 : a3 = 2 := by simpa using z2
                     have z3 : (a3 != 3) = true := by rw [a32]; rfl
                     have n3 : ¬ a3 = 3 := by omega
                     clear a32
                     go_quiet (first | (go_at_call 37; exact Calls.quiet_of (impl_NodeOK.last_q w.heap.size a6 _ l5.length c5 _ hcz6 hcz5)) | (go_at_call 35; (try simp only [i64_w]); first | exact Calls.quiet_of_same (impl_NodeOK.win_t _ _ _ _ (by assumption)) | exact Calls.quiet_of_same (impl_NodeOK.win_f _ _ _ _ (by assumption))))
                     clear y z2 S0_ S1_ S2_
                     unfold impl_NodeOK.rest at h
                     rw [if_neg n3] at h
                     clear n3
                     have h := Option.some.inj h
                     cases u : ((l14.length : Int) == 0) with
                     | true =>
                      rw [u, Bool.true_and] at h
                      subst h
                      go_wp2
                      go_ret
                      exact ⟨rfl, zb⟩
                     | false =>
                      rw [u, Bool.false_and] at h
                      subst h
                      go_wp2
                      go_ret
                      exact ⟨rfl, zb⟩
                   | false =>
                    rw [if_pos (by unfold impl_NodeOK.h3; rw [s0, s1, s2, y]; rfl)] at h
                    have S0_ := Aside0.mk s0
                    have S1_ := Aside0.mk s1
                    have S2_ := Aside0.mk s2
                    clear s0 s1 s2
                    go_quiet (first | (go_at_call 37; exact Calls.quiet_of (impl_NodeOK.last_q w.heap.size a6 _ l5.length c5 _ hcz6 hcz5)) | (go_at_call 35; (try simp only [i64_w]); first | exact Calls.quiet_of_same (impl_NodeOK.win_t _ _ _ _ (by assumption)) | exact Calls.quiet_of_same (impl_NodeOK.win_f _ _ _ _ (by assumption))))
                    clear y S0_ S1_ S2_
                    by_cases n3 : a3 = 3
                    ·have z3 : (a3 != 3) = false := by rw [n3]; rfl
                     unfold impl_NodeOK.rest at h
                     rw [if_pos n3] at h
                     clear n3
                     by_cases n14 : (l14.length : Int) = 8
                     ·rw [if_pos n14] at h
                      have z14 : ((l14.length : Int) != 8) = false := by rw [n14]; rfl
                      by_cases n15 : (l15.length : Int) = 8
                      ·rw [if_pos n15] at h
                       have z15 : ((l15.length : Int) != 8) = false := by rw [n15]; rfl
                       have N14 := Aside0.mk n14
                       have N15 := Aside0.mk n15
                       have H := Aside0.mk h
                       clear n14 n15 h
                       go_wp2
                       clear z14 z15 z3 hcz0 hcz1 hcz2 hcz3 hcz4 hcz5 hcz6 hcz7 hcz8 hcz9 hcz10 hcz11 hcz12 hcz13 hcz14 hcz15
                       go_loopg [160] k (fun kq v160 w' => ∃ (x : Int), v160 = .int .i64 x ∧ Aside0 (impl_NodeOK.l1 kq l14 l15 (wrap64 (a6 + (l5.length : Int))) x = some r) ∧ Aside0 (kq ≤ k) ∧ Aside0 (w'.heap[w.heap.size]? = some (.cells #[.int .i64 a0, .int .i64 a1, .int .i64 a2, .int .i64 a3, .int .i64 a4, .slice A5 l5.length c5, .int .i64 a6, .int .i64 a7, .int .i64 a8, .int .i64 a9, .int .i64 a10, .int .i64 a11, .int .i64 a12, .int .i64 a13, .slice A14 l14.length c14, .slice A15 l15.length c15] 30 (0, 0))) ∧ Aside0 (Below w.heap.size w w'))
                       case atStart => exact ⟨0, rfl, H, ⟨Nat.le_refl _⟩, ⟨by (with_reducible repeat (first | refine blk_drewN ?_ _ | refine blk_drew ?_ | refine blk_alloc ?_ _)); exact BK.out⟩, ⟨zb⟩⟩
                       case round =>
                        clear H HB BK HK
                        obtain ⟨x, rfl, HA, HK, BK, HB⟩ := hrel
                        cases gk with
                        | zero => exact absurd HA.out (by simp [impl_NodeOK.l1])
                        | succ k2 =>
                         have h := HA.out
                         clear HA
                         simp only [impl_NodeOK.l1] at h
                         by_cases c20 : x < 8
                         ·rw [if_pos c20] at h
                          by_cases c21 : 0 ≤ x
                          ·rw [if_pos c21] at h
                           have q14 : x < (l14.length : Int) := by have := N14.out; omega
                           have q15 : x < (l15.length : Int) := by have := N15.out; omega
                           obtain ⟨ad14, e14, hx14⟩ := Kd.at_int HR14.out x c21 q14
                           cases e14
                           obtain ⟨ad15, e15, hx15⟩ := Kd.at_int HR15.out x c21 q15
                           cases e15
                           replace hx14 := (HB.out.cell (World.block_lt_of_cell? w _ hx14)).trans hx14
                           replace hx15 := (HB.out.cell (World.block_lt_of_cell? w _ hx15)).trans hx15
                           have c20b : decide (x < 8) = true := decide_eq_true c20
                           replace c20 := eq_true c20
                           replace c21 := eq_true c21
                           replace q14 := eq_true q14
                           replace q15 := eq_true q15
                           have hcz5 : wr.cell? ⟨w.heap.size, 5, none⟩ = some (.slice A5 l5.length c5) := (blk_cell BK.out 5).trans rfl
                           have hcz6 : wr.cell? ⟨w.heap.size, 6, none⟩ = some (.int .i64 a6) := (blk_cell BK.out 6).trans rfl
                           have hcz14 : wr.cell? ⟨w.heap.size, 14, none⟩ = some (.slice (some ad14) l14.length c14) := (blk_cell BK.out 14).trans rfl
                           have hcz15 : wr.cell? ⟨w.heap.size, 15, none⟩ = some (.slice (some ad15) l15.length c15) := (blk_cell BK.out 15).trans rfl
                           cases u0 : impl_NodeOK.inb (rd l15 x) 0 (wrap64 (a6 + (l5.length : Int))) with
                           | false =>
                            rw [if_neg (by rw [u0]; decide)] at h
                            cases h
                            have U0 := Aside0.mk u0
                            clear u0
                            go_upto_region 22 with (fail)
                            go_quiet (first | (go_at_call 37; exact Calls.quiet_of (impl_NodeOK.last_q w.heap.size a6 _ l5.length c5 _ hcz6 hcz5)) | (go_at_call 35; (try simp only [i64_w]); first | exact Calls.quiet_of_same (impl_NodeOK.win_t _ _ _ _ (by assumption)) | exact Calls.quiet_of_same (impl_NodeOK.win_f _ _ _ _ (by assumption))))
                            go_wp2
                            go_ret
                            exact ⟨rfl, zb⟩
                           | true =>
                            rw [if_pos u0] at h
                            cases u1 : impl_NodeOK.inb (rd l14 x) (wrap64 (rd l15 x + 1)) (wrap64 ((wrap64 (a6 + (l5.length : Int))) + 1)) with
                            | false =>
                             rw [if_neg (by rw [u1]; decide)] at h
                             cases h
                             have U0 := Aside0.mk u0
                             have U1 := Aside0.mk u1
                             clear u0 u1
                             go_upto_region 22 with (fail)
                             go_quiet (first | (go_at_call 37; exact Calls.quiet_of (impl_NodeOK.last_q w.heap.size a6 _ l5.length c5 _ hcz6 hcz5)) | (go_at_call 35; (try simp only [i64_w]); first | exact Calls.quiet_of_same (impl_NodeOK.win_t _ _ _ _ (by assumption)) | exact Calls.quiet_of_same (impl_NodeOK.win_f _ _ _ _ (by assumption))))
                             go_wp2
                             go_ret
                             exact ⟨rfl, zb⟩
                            | true =>
                             rw [if_pos u1] at h
                             have U0 := Aside0.mk u0
                             have U1 := Aside0.mk u1
                             have H' := Aside0.mk h
                             clear u0 u1 h
                             go_upto_region 22 with (fail)
                             go_quiet (first | (go_at_call 37; exact Calls.quiet_of (impl_NodeOK.last_q w.heap.size a6 _ l5.length c5 _ hcz6 hcz5)) | (go_at_call 35; (try simp only [i64_w]); first | exact Calls.quiet_of_same (impl_NodeOK.win_t _ _ _ _ (by assumption)) | exact Calls.quiet_of_same (impl_NodeOK.win_f _ _ _ _ (by assumption))))
                             go_wp2
                             go_roundg k2
                             case measure => have := HK.out; omega
                             case rel => exact ⟨_, (by first | rfl | (simp; done) | (simp [*]; done)), H', ⟨by have := HK.out; omega⟩, ⟨by (with_reducible repeat (first | refine blk_drewN ?_ _ | refine blk_drew ?_ | refine blk_alloc ?_ _)); exact BK.out⟩, ⟨zb⟩⟩
                          ·rw [if_neg c21] at h
                           cases h
                         ·rw [if_neg c20] at h
                          cases h
                          have c20b : decide (x < 8) = false := decide_eq_false c20
                          clear c20
                          go_wp2
                          go_ret
                          exact ⟨rfl, zb⟩
                      ·rw [if_neg n15] at h
                       cases h
                       have z15 : ((l15.length : Int) != 8) = true := bne_iff_ne.mpr n15
                       have z14 : ((l14.length : Int) != 8) = false := by rw [n14]; rfl
                       clear n14 n15
                       go_wp2
                       go_ret
                       exact ⟨rfl, zb⟩
                     ·rw [if_neg n14] at h
                      cases h
                      have z14 : ((l14.length : Int) != 8) = true := bne_iff_ne.mpr n14
                      clear n14
                      go_wp2
                      go_ret
                      exact ⟨rfl, zb⟩
                    ·have z3 : (a3 != 3) = true := bne_iff_ne.mpr n3
                     unfold impl_NodeOK.rest at h
                     rw [if_neg n3] at h
                     clear n3
                     have h := Option.some.inj h
                     cases u : ((l14.length : Int) == 0) with
                     | true =>
                      rw [u, Bool.true_and] at h
                      subst h
                      go_wp2
                      go_ret
                      exact ⟨rfl, zb⟩
                     | false =>
                      rw [u, Bool.false_and] at h
                      subst h
                      go_wp2
                      go_ret
                      exact ⟨rfl, zb⟩


/-! ### laws_eqEntry: function 57 -/
def laws_eqEntry.f (a0_0 : Int) (a0_1 : Int) (a0_2 : ByteArray) (a0_3 : Int) (a0_4 : Int) (a1_0 : Int) (a1_1 : Int) (a1_2 : ByteArray) (a1_3 : Int) (a1_4 : Int) : Option (Bool) := if a0_0 = a1_0 then (if a0_1 = a1_1 then (if a0_2.toList = a1_2.toList then (if a0_3 = a1_3 then (if a0_4 = a1_4 then (some true) else (some false)) else (some false)) else (some false)) else (some false)) else (some false)
set_option maxHeartbeats 8000000 in
set_option maxRecDepth 100000 in
theorem laws_eqEntry.calls (a0_0 : Int) (a0_1 : Int) (a0_2 : ByteArray) (a0_3 : Int) (a0_4 : Int) (a1_0 : Int) (a1_1 : Int) (a1_2 : ByteArray) (a1_3 : Int) (a1_4 : Int) (r : Bool) (w : World) (h : laws_eqEntry.f a0_0 a0_1 a0_2 a0_3 a0_4 a1_0 a1_1 a1_2 a1_3 a1_4 = some r) :
  Calls Try.prog 57 #[.agg #[.int .i64 a0_0, .int .i64 a0_1, .string a0_2, .int .i64 a0_3, .int .i64 a0_4], .agg #[.int .i64 a1_0, .int .i64 a1_1, .string a1_2, .int .i64 a1_3, .int .i64 a1_4]] w fun e w' => e = .returned (.bool r) ∧ Below w.heap.size w w' := by
 have hu54 := Try.underlying54
 have HB := Aside0.mk (Below.refl w.heap.size w)
 have H : (if a0_0 = a1_0 then (if a0_1 = a1_1 then (if a0_2.toList = a1_2.toList then (if a0_3 = a1_3 then (if a0_4 = a1_4 then (some true) else (some false)) else (some false)) else (some false)) else (some false)) else (some false)) = some r := h
 clear h
 by_cases c3 : a0_0 = a1_0
 ·rw [if_pos c3] at H
  have c3b0 : (a0_0 == a1_0) = true := beq_iff_eq.mpr c3
  have c3b1 : (a0_0 != a1_0) = false := bne_eq_false_iff_eq.mpr c3
  clear c3
  by_cases c4 : a0_1 = a1_1
  ·rw [if_pos c4] at H
   have c4b0 : (a0_1 == a1_1) = true := beq_iff_eq.mpr c4
   have c4b1 : (a0_1 != a1_1) = false := bne_eq_false_iff_eq.mpr c4
   clear c4
   by_cases c5 : a0_2.toList = a1_2.toList
   ·rw [if_pos c5] at H
    have c5b0 : (a0_2.toList == a1_2.toList) = true := beq_iff_eq.mpr c5
    have c5b1 : (a0_2.toList != a1_2.toList) = false := bne_eq_false_iff_eq.mpr c5
    clear c5
    by_cases c6 : a0_3 = a1_3
    ·rw [if_pos c6] at H
     have c6b0 : (a0_3 == a1_3) = true := beq_iff_eq.mpr c6
     have c6b1 : (a0_3 != a1_3) = false := bne_eq_false_iff_eq.mpr c6
     clear c6
     by_cases c7 : a0_4 = a1_4
     ·rw [if_pos c7] at H
      have c7b0 : (a0_4 == a1_4) = true := beq_iff_eq.mpr c7
      have c7b1 : (a0_4 != a1_4) = false := bne_eq_false_iff_eq.mpr c7
      clear c7
      obtain rfl := Option.some.inj H
      go_enter Try.func57, Try.ntmps57
      go_wp2_with (first | ((with_reducible refine gate_dst (N := 2) rfl ?_); refine box_event ?hg (N := 2) ?hd (cs := #[.int .i64 a0_0, .int .i64 a0_1, .string a0_2, .int .i64 a0_3, .int .i64 a0_4]) (t := 54) ?hr ?_; (case hd => rfl); (case hg => rfl); (case hr => first | (go_simp; done) | (go_simp; rfl)); intro gb661 hg w8 hbox hb; have n0_ := Aside0.mk (below_step zb hb); have n1_ := Aside0.mk (hbox); have n2_ := Aside0.mk ((by rw [hg]; exact (below_size zb) : w.heap.size ≤ gb661)); have n3_ := Aside0.mk ((by rw [hg]; exact (below_size zb) : w.heap.size ≤ gb661)); clear HB; have HB := n0_; have BK661 := n1_; have GW661 := n2_; have GE661 := n3_; clear n0_ n1_ n2_ n3_; clear hb hbox hg) | ((with_reducible refine gate_dst (N := 3) rfl ?_); refine box_event ?hg (N := 3) ?hd (cs := #[.int .i64 a1_0, .int .i64 a1_1, .string a1_2, .int .i64 a1_3, .int .i64 a1_4]) (t := 54) ?hr ?_; (case hd => rfl); (case hg => rfl); (case hr => first | (go_simp; done) | (go_simp; rfl)); intro gb662 hg w9 hbox hb; have n0_ := Aside0.mk (blk_below (zk BK661.out) hb); have n1_ := Aside0.mk (below_step (by repeat (first | (with_reducible first | exact HB.out | apply below_alloc | apply pw_below_drewN | apply below_drew1 | refine below_set ?_ GE661.out) | exact HB.out)) hb); have n2_ := Aside0.mk (hbox); have n3_ := Aside0.mk ((by rw [hg]; exact (below_size (by repeat (first | (with_reducible first | exact HB.out | apply below_alloc | apply pw_below_drewN | apply below_drew1 | refine below_set ?_ GE661.out) | exact HB.out))) : w.heap.size ≤ gb662)); have n4_ := Aside0.mk ((by rw [hg]; exact (below_size (by repeat (first | (with_reducible first | exact HB.out | apply below_alloc | apply pw_below_drewN | apply below_drew1 | refine below_set ?_ GE661.out) | exact HB.out))) : w.heap.size ≤ gb662)); have n5_ := Aside0.mk ((by rw [hg]; exact Nat.ne_of_lt (blk_lt (g := gb661) (o := .cells #[.int .i64 a0_0, .int .i64 a0_1, .string a0_2, .int .i64 a0_3, .int .i64 a0_4] 54 (0, 0)) (zk BK661.out)) : gb661 ≠ gb662)); have n6_ := Aside0.mk ((by rw [hg]; exact Nat.ne_of_gt (blk_lt (g := gb661) (o := .cells #[.int .i64 a0_0, .int .i64 a0_1, .string a0_2, .int .i64 a0_3, .int .i64 a0_4] 54 (0, 0)) (zk BK661.out)) : gb662 ≠ gb661)); clear BK661; clear HB; have BK661 := n0_; have HB := n1_; have BK662 := n2_; have GW662 := n3_; have GE662 := n4_; have NB661_662 := n5_; have NB662_661 := n6_; clear n0_ n1_ n2_ n3_ n4_ n5_ n6_; clear hb hbox hg; have hnb10 := NB661_662.out; have hnc10 := NB662_661.out; obtain ⟨hcz11_0, hcz11_1, hcz11_2, hcz11_3, hcz11_4⟩ := cl5Y BK661.out; obtain ⟨hfz11_0, hfz11_1, hfz11_2, hfz11_3, hfz11_4⟩ := fz5Y BK661.out; obtain ⟨hcz12_0, hcz12_1, hcz12_2, hcz12_3, hcz12_4⟩ := cl5Y BK662.out; obtain ⟨hfz12_0, hfz12_1, hfz12_2, hfz12_3, hfz12_4⟩ := fz5Y BK662.out))
      go_ret
      exact ⟨by first | rfl | (simp [errW_none, errW_some] <;> rfl) | (simp [*, errW_none, errW_some] <;> rfl), by repeat (first | (with_reducible first | exact HB.out | apply below_alloc | apply pw_below_drewN | apply below_drew1 | refine below_set ?_ GE661.out | refine below_set ?_ GE662.out) | exact HB.out)⟩
     ·rw [if_neg c7] at H
      have c7b0 : (a0_4 == a1_4) = false := beq_eq_false_iff_ne.mpr c7
      have c7b1 : (a0_4 != a1_4) = true := bne_iff_ne.mpr c7
      obtain rfl := Option.some.inj H
      go_enter Try.func57, Try.ntmps57
      go_wp2_with (first | ((with_reducible refine gate_dst (N := 2) rfl ?_); refine box_event ?hg (N := 2) ?hd (cs := #[.int .i64 a0_0, .int .i64 a0_1, .string a0_2, .int .i64 a0_3, .int .i64 a0_4]) (t := 54) ?hr ?_; (case hd => rfl); (case hg => rfl); (case hr => first | (go_simp; done) | (go_simp; rfl)); intro gb661 hg w13 hbox hb; have n0_ := Aside0.mk (below_step zb hb); have n1_ := Aside0.mk (hbox); have n2_ := Aside0.mk ((by rw [hg]; exact (below_size zb) : w.heap.size ≤ gb661)); have n3_ := Aside0.mk ((by rw [hg]; exact (below_size zb) : w.heap.size ≤ gb661)); clear HB; have HB := n0_; have BK661 := n1_; have GW661 := n2_; have GE661 := n3_; clear n0_ n1_ n2_ n3_; clear hb hbox hg) | ((with_reducible refine gate_dst (N := 3) rfl ?_); refine box_event ?hg (N := 3) ?hd (cs := #[.int .i64 a1_0, .int .i64 a1_1, .string a1_2, .int .i64 a1_3, .int .i64 a1_4]) (t := 54) ?hr ?_; (case hd => rfl); (case hg => rfl); (case hr => first | (go_simp; done) | (go_simp; rfl)); intro gb662 hg w14 hbox hb; have n0_ := Aside0.mk (blk_below (zk BK661.out) hb); have n1_ := Aside0.mk (below_step (by repeat (first | (with_reducible first | exact HB.out | apply below_alloc | apply pw_below_drewN | apply below_drew1 | refine below_set ?_ GE661.out) | exact HB.out)) hb); have n2_ := Aside0.mk (hbox); have n3_ := Aside0.mk ((by rw [hg]; exact (below_size (by repeat (first | (with_reducible first | exact HB.out | apply below_alloc | apply pw_below_drewN | apply below_drew1 | refine below_set ?_ GE661.out) | exact HB.out))) : w.heap.size ≤ gb662)); have n4_ := Aside0.mk ((by rw [hg]; exact (below_size (by repeat (first | (with_reducible first | exact HB.out | apply below_alloc | apply pw_below_drewN | apply below_drew1 | refine below_set ?_ GE661.out) | exact HB.out))) : w.heap.size ≤ gb662)); have n5_ := Aside0.mk ((by rw [hg]; exact Nat.ne_of_lt (blk_lt (g := gb661) (o := .cells #[.int .i64 a0_0, .int .i64 a0_1, .string a0_2, .int .i64 a0_3, .int .i64 a0_4] 54 (0, 0)) (zk BK661.out)) : gb661 ≠ gb662)); have n6_ := Aside0.mk ((by rw [hg]; exact Nat.ne_of_gt (blk_lt (g := gb661) (o := .cells #[.int .i64 a0_0, .int .i64 a0_1, .string a0_2, .int .i64 a0_3, .int .i64 a0_4] 54 (0, 0)) (zk BK661.out)) : gb662 ≠ gb661)); clear BK661; clear HB; have BK661 := n0_; have HB := n1_; have BK662 := n2_; have GW662 := n3_; have GE662 := n4_; have NB661_662 := n5_; have NB662_661 := n6_; clear n0_ n1_ n2_ n3_ n4_ n5_ n6_; clear hb hbox hg; have hnb15 := NB661_662.out; have hnc15 := NB662_661.out; obtain ⟨hcz16_0, hcz16_1, hcz16_2, hcz16_3, hcz16_4⟩ := cl5Y BK661.out; obtain ⟨hfz16_0, hfz16_1, hfz16_2, hfz16_3, hfz16_4⟩ := fz5Y BK661.out; obtain ⟨hcz17_0, hcz17_1, hcz17_2, hcz17_3, hcz17_4⟩ := cl5Y BK662.out; obtain ⟨hfz17_0, hfz17_1, hfz17_2, hfz17_3, hfz17_4⟩ := fz5Y BK662.out))
      go_ret
      exact ⟨by first | rfl | (simp [errW_none, errW_some] <;> rfl) | (simp [*, errW_none, errW_some] <;> rfl), by repeat (first | (with_reducible first | exact HB.out | apply below_alloc | apply pw_below_drewN | apply below_drew1 | refine below_set ?_ GE661.out | refine below_set ?_ GE662.out) | exact HB.out)⟩
    ·rw [if_neg c6] at H
     have c6b0 : (a0_3 == a1_3) = false := beq_eq_false_iff_ne.mpr c6
     have c6b1 : (a0_3 != a1_3) = true := bne_iff_ne.mpr c6
     obtain rfl := Option.some.inj H
     go_enter Try.func57, Try.ntmps57
     go_wp2_with (first | ((with_reducible refine gate_dst (N := 2) rfl ?_); refine box_event ?hg (N := 2) ?hd (cs := #[.int .i64 a0_0, .int .i64 a0_1, .string a0_2, .int .i64 a0_3, .int .i64 a0_4]) (t := 54) ?hr ?_; (case hd => rfl); (case hg => rfl); (case hr => first | (go_simp; done) | (go_simp; rfl)); intro gb661 hg w18 hbox hb; have n0_ := Aside0.mk (below_step zb hb); have n1_ := Aside0.mk (hbox); have n2_ := Aside0.mk ((by rw [hg]; exact (below_size zb) : w.heap.size ≤ gb661)); have n3_ := Aside0.mk ((by rw [hg]; exact (below_size zb) : w.heap.size ≤ gb661)); clear HB; have HB := n0_; have BK661 := n1_; have GW661 := n2_; have GE661 := n3_; clear n0_ n1_ n2_ n3_; clear hb hbox hg) | ((with_reducible refine gate_dst (N := 3) rfl ?_); refine box_event ?hg (N := 3) ?hd (cs := #[.int .i64 a1_0, .int .i64 a1_1, .string a1_2, .int .i64 a1_3, .int .i64 a1_4]) (t := 54) ?hr ?_; (case hd => rfl); (case hg => rfl); (case hr => first | (go_simp; done) | (go_simp; rfl)); intro gb662 hg w19 hbox hb; have n0_ := Aside0.mk (blk_below (zk BK661.out) hb); have n1_ := Aside0.mk (below_step (by repeat (first | (with_reducible first | exact HB.out | apply below_alloc | apply pw_below_drewN | apply below_drew1 | refine below_set ?_ GE661.out) | exact HB.out)) hb); have n2_ := Aside0.mk (hbox); have n3_ := Aside0.mk ((by rw [hg]; exact (below_size (by repeat (first | (with_reducible first | exact HB.out | apply below_alloc | apply pw_below_drewN | apply below_drew1 | refine below_set ?_ GE661.out) | exact HB.out))) : w.heap.size ≤ gb662)); have n4_ := Aside0.mk ((by rw [hg]; exact (below_size (by repeat (first | (with_reducible first | exact HB.out | apply below_alloc | apply pw_below_drewN | apply below_drew1 | refine below_set ?_ GE661.out) | exact HB.out))) : w.heap.size ≤ gb662)); have n5_ := Aside0.mk ((by rw [hg]; exact Nat.ne_of_lt (blk_lt (g := gb661) (o := .cells #[.int .i64 a0_0, .int .i64 a0_1, .string a0_2, .int .i64 a0_3, .int .i64 a0_4] 54 (0, 0)) (zk BK661.out)) : gb661 ≠ gb662)); have n6_ := Aside0.mk ((by rw [hg]; exact Nat.ne_of_gt (blk_lt (g := gb661) (o := .cells #[.int .i64 a0_0, .int .i64 a0_1, .string a0_2, .int .i64 a0_3, .int .i64 a0_4] 54 (0, 0)) (zk BK661.out)) : gb662 ≠ gb661)); clear BK661; clear HB; have BK661 := n0_; have HB := n1_; have BK662 := n2_; have GW662 := n3_; have GE662 := n4_; have NB661_662 := n5_; have NB662_661 := n6_; clear n0_ n1_ n2_ n3_ n4_ n5_ n6_; clear hb hbox hg; have hnb20 := NB661_662.out; have hnc20 := NB662_661.out; obtain ⟨hcz21_0, hcz21_1, hcz21_2, hcz21_3, hcz21_4⟩ := cl5Y BK661.out; obtain ⟨hfz21_0, hfz21_1, hfz21_2, hfz21_3, hfz21_4⟩ := fz5Y BK661.out; obtain ⟨hcz22_0, hcz22_1, hcz22_2, hcz22_3, hcz22_4⟩ := cl5Y BK662.out; obtain ⟨hfz22_0, hfz22_1, hfz22_2, hfz22_3, hfz22_4⟩ := fz5Y BK662.out))
     go_ret
     exact ⟨by first | rfl | (simp [errW_none, errW_some] <;> rfl) | (simp [*, errW_none, errW_some] <;> rfl), by repeat (first | (with_reducible first | exact HB.out | apply below_alloc | apply pw_below_drewN | apply below_drew1 | refine below_set ?_ GE661.out | refine below_set ?_ GE662.out) | exact HB.out)⟩
   ·rw [if_neg c5] at H
    have c5b0 : (a0_2.toList == a1_2.toList) = false := beq_eq_false_iff_ne.mpr c5
    have c5b1 : (a0_2.toList != a1_2.toList) = true := bne_iff_ne.mpr c5
    obtain rfl := Option.some.inj H
    go_enter Try.func57, Try.ntmps57
    go_wp2_with (first | ((with_reducible refine gate_dst (N := 2) rfl ?_); refine box_event ?hg (N := 2) ?hd (cs := #[.int .i64 a0_0, .int .i64 a0_1, .string a0_2, .int .i64 a0_3, .int .i64 a0_4]) (t := 54) ?hr ?_; (case hd => rfl); (case hg => rfl); (case hr => first | (go_simp; done) | (go_simp; rfl)); intro gb661 hg w23 hbox hb; have n0_ := Aside0.mk (below_step zb hb); have n1_ := Aside0.mk (hbox); have n2_ := Aside0.mk ((by rw [hg]; exact (below_size zb) : w.heap.size ≤ gb661)); have n3_ := Aside0.mk ((by rw [hg]; exact (below_size zb) : w.heap.size ≤ gb661)); clear HB; have HB := n0_; have BK661 := n1_; have GW661 := n2_; have GE661 := n3_; clear n0_ n1_ n2_ n3_; clear hb hbox hg) | ((with_reducible refine gate_dst (N := 3) rfl ?_); refine box_event ?hg (N := 3) ?hd (cs := #[.int .i64 a1_0, .int .i64 a1_1, .string a1_2, .int .i64 a1_3, .int .i64 a1_4]) (t := 54) ?hr ?_; (case hd => rfl); (case hg => rfl); (case hr => first | (go_simp; done) | (go_simp; rfl)); intro gb662 hg w24 hbox hb; have n0_ := Aside0.mk (blk_below (zk BK661.out) hb); have n1_ := Aside0.mk (below_step (by repeat (first | (with_reducible first | exact HB.out | apply below_alloc | apply pw_below_drewN | apply below_drew1 | refine below_set ?_ GE661.out) | exact HB.out)) hb); have n2_ := Aside0.mk (hbox); have n3_ := Aside0.mk ((by rw [hg]; exact (below_size (by repeat (first | (with_reducible first | exact HB.out | apply below_alloc | apply pw_below_drewN | apply below_drew1 | refine below_set ?_ GE661.out) | exact HB.out))) : w.heap.size ≤ gb662)); have n4_ := Aside0.mk ((by rw [hg]; exact (below_size (by repeat (first | (with_reducible first | exact HB.out | apply below_alloc | apply pw_below_drewN | apply below_drew1 | refine below_set ?_ GE661.out) | exact HB.out))) : w.heap.size ≤ gb662)); have n5_ := Aside0.mk ((by rw [hg]; exact Nat.ne_of_lt (blk_lt (g := gb661) (o := .cells #[.int .i64 a0_0, .int .i64 a0_1, .string a0_2, .int .i64 a0_3, .int .i64 a0_4] 54 (0, 0)) (zk BK661.out)) : gb661 ≠ gb662)); have n6_ := Aside0.mk ((by rw [hg]; exact Nat.ne_of_gt (blk_lt (g := gb661) (o := .cells #[.int .i64 a0_0, .int .i64 a0_1, .string a0_2, .int .i64 a0_3, .int .i64 a0_4] 54 (0, 0)) (zk BK661.out)) : gb662 ≠ gb661)); clear BK661; clear HB; have BK661 := n0_; have HB := n1_; have BK662 := n2_; have GW662 := n3_; have GE662 := n4_; have NB661_662 := n5_; have NB662_661 := n6_; clear n0_ n1_ n2_ n3_ n4_ n5_ n6_; clear hb hbox hg; have hnb25 := NB661_662.out; have hnc25 := NB662_661.out; obtain ⟨hcz26_0, hcz26_1, hcz26_2, hcz26_3, hcz26_4⟩ := cl5Y BK661.out; obtain ⟨hfz26_0, hfz26_1, hfz26_2, hfz26_3, hfz26_4⟩ := fz5Y BK661.out; obtain ⟨hcz27_0, hcz27_1, hcz27_2, hcz27_3, hcz27_4⟩ := cl5Y BK662.out; obtain ⟨hfz27_0, hfz27_1, hfz27_2, hfz27_3, hfz27_4⟩ := fz5Y BK662.out))
    go_ret
    exact ⟨by first | rfl | (simp [errW_none, errW_some] <;> rfl) | (simp [*, errW_none, errW_some] <;> rfl), by repeat (first | (with_reducible first | exact HB.out | apply below_alloc | apply pw_below_drewN | apply below_drew1 | refine below_set ?_ GE661.out | refine below_set ?_ GE662.out) | exact HB.out)⟩
  ·rw [if_neg c4] at H
   have c4b0 : (a0_1 == a1_1) = false := beq_eq_false_iff_ne.mpr c4
   have c4b1 : (a0_1 != a1_1) = true := bne_iff_ne.mpr c4
   obtain rfl := Option.some.inj H
   go_enter Try.func57, Try.ntmps57
   go_wp2_with (first | ((with_reducible refine gate_dst (N := 2) rfl ?_); refine box_event ?hg (N := 2) ?hd (cs := #[.int .i64 a0_0, .int .i64 a0_1, .string a0_2, .int .i64 a0_3, .int .i64 a0_4]) (t := 54) ?hr ?_; (case hd => rfl); (case hg => rfl); (case hr => first | (go_simp; done) | (go_simp; rfl)); intro gb661 hg w28 hbox hb; have n0_ := Aside0.mk (below_step zb hb); have n1_ := Aside0.mk (hbox); have n2_ := Aside0.mk ((by rw [hg]; exact (below_size zb) : w.heap.size ≤ gb661)); have n3_ := Aside0.mk ((by rw [hg]; exact (below_size zb) : w.heap.size ≤ gb661)); clear HB; have HB := n0_; have BK661 := n1_; have GW661 := n2_; have GE661 := n3_; clear n0_ n1_ n2_ n3_; clear hb hbox hg) | ((with_reducible refine gate_dst (N := 3) rfl ?_); refine box_event ?hg (N := 3) ?hd (cs := #[.int .i64 a1_0, .int .i64 a1_1, .string a1_2, .int .i64 a1_3, .int .i64 a1_4]) (t := 54) ?hr ?_; (case hd => rfl); (case hg => rfl); (case hr => first | (go_simp; done) | (go_simp; rfl)); intro gb662 hg w29 hbox hb; have n0_ := Aside0.mk (blk_below (zk BK661.out) hb); have n1_ := Aside0.mk (below_step (by repeat (first | (with_reducible first | exact HB.out | apply below_alloc | apply pw_below_drewN | apply below_drew1 | refine below_set ?_ GE661.out) | exact HB.out)) hb); have n2_ := Aside0.mk (hbox); have n3_ := Aside0.mk ((by rw [hg]; exact (below_size (by repeat (first | (with_reducible first | exact HB.out | apply below_alloc | apply pw_below_drewN | apply below_drew1 | refine below_set ?_ GE661.out) | exact HB.out))) : w.heap.size ≤ gb662)); have n4_ := Aside0.mk ((by rw [hg]; exact (below_size (by repeat (first | (with_reducible first | exact HB.out | apply below_alloc | apply pw_below_drewN | apply below_drew1 | refine below_set ?_ GE661.out) | exact HB.out))) : w.heap.size ≤ gb662)); have n5_ := Aside0.mk ((by rw [hg]; exact Nat.ne_of_lt (blk_lt (g := gb661) (o := .cells #[.int .i64 a0_0, .int .i64 a0_1, .string a0_2, .int .i64 a0_3, .int .i64 a0_4] 54 (0, 0)) (zk BK661.out)) : gb661 ≠ gb662)); have n6_ := Aside0.mk ((by rw [hg]; exact Nat.ne_of_gt (blk_lt (g := gb661) (o := .cells #[.int .i64 a0_0, .int .i64 a0_1, .string a0_2, .int .i64 a0_3, .int .i64 a0_4] 54 (0, 0)) (zk BK661.out)) : gb662 ≠ gb661)); clear BK661; clear HB; have BK661 := n0_; have HB := n1_; have BK662 := n2_; have GW662 := n3_; have GE662 := n4_; have NB661_662 := n5_; have NB662_661 := n6_; clear n0_ n1_ n2_ n3_ n4_ n5_ n6_; clear hb hbox hg; have hnb30 := NB661_662.out; have hnc30 := NB662_661.out; obtain ⟨hcz31_0, hcz31_1, hcz31_2, hcz31_3, hcz31_4⟩ := cl5Y BK661.out; obtain ⟨hfz31_0, hfz31_1, hfz31_2, hfz31_3, hfz31_4⟩ := fz5Y BK661.out; obtain ⟨hcz32_0, hcz32_1, hcz32_2, hcz32_3, hcz32_4⟩ := cl5Y BK662.out; obtain ⟨hfz32_0, hfz32_1, hfz32_2, hfz32_3, hfz32_4⟩ := fz5Y BK662.out))
   go_ret
   exact ⟨by first | rfl | (simp [errW_none, errW_some] <;> rfl) | (simp [*, errW_none, errW_some] <;> rfl), by repeat (first | (with_reducible first | exact HB.out | apply below_alloc | apply pw_below_drewN | apply below_drew1 | refine below_set ?_ GE661.out | refine below_set ?_ GE662.out) | exact HB.out)⟩
 ·rw [if_neg c3] at H
  have c3b0 : (a0_0 == a1_0) = false := beq_eq_false_iff_ne.mpr c3
  have c3b1 : (a0_0 != a1_0) = true := bne_iff_ne.mpr c3
  obtain rfl := Option.some.inj H
  go_enter Try.func57, Try.ntmps57
  go_wp2_with (first | ((with_reducible refine gate_dst (N := 2) rfl ?_); refine box_event ?hg (N := 2) ?hd (cs := #[.int .i64 a0_0, .int .i64 a0_1, .string a0_2, .int .i64 a0_3, .int .i64 a0_4]) (t := 54) ?hr ?_; (case hd => rfl); (case hg => rfl); (case hr => first | (go_simp; done) | (go_simp; rfl)); intro gb661 hg w33 hbox hb; have n0_ := Aside0.mk (below_step zb hb); have n1_ := Aside0.mk (hbox); have n2_ := Aside0.mk ((by rw [hg]; exact (below_size zb) : w.heap.size ≤ gb661)); have n3_ := Aside0.mk ((by rw [hg]; exact (below_size zb) : w.heap.size ≤ gb661)); clear HB; have HB := n0_; have BK661 := n1_; have GW661 := n2_; have GE661 := n3_; clear n0_ n1_ n2_ n3_; clear hb hbox hg) | ((with_reducible refine gate_dst (N := 3) rfl ?_); refine box_event ?hg (N := 3) ?hd (cs := #[.int .i64 a1_0, .int .i64 a1_1, .string a1_2, .int .i64 a1_3, .int .i64 a1_4]) (t := 54) ?hr ?_; (case hd => rfl); (case hg => rfl); (case hr => first | (go_simp; done) | (go_simp; rfl)); intro gb662 hg w34 hbox hb; have n0_ := Aside0.mk (blk_below (zk BK661.out) hb); have n1_ := Aside0.mk (below_step (by repeat (first | (with_reducible first | exact HB.out | apply below_alloc | apply pw_below_drewN | apply below_drew1 | refine below_set ?_ GE661.out) | exact HB.out)) hb); have n2_ := Aside0.mk (hbox); have n3_ := Aside0.mk ((by rw [hg]; exact (below_size (by repeat (first | (with_reducible first | exact HB.out | apply below_alloc | apply pw_below_drewN | apply below_drew1 | refine below_set ?_ GE661.out) | exact HB.out))) : w.heap.size ≤ gb662)); have n4_ := Aside0.mk ((by rw [hg]; exact (below_size (by repeat (first | (with_reducible first | exact HB.out | apply below_alloc | apply pw_below_drewN | apply below_drew1 | refine below_set ?_ GE661.out) | exact HB.out))) : w.heap.size ≤ gb662)); have n5_ := Aside0.mk ((by rw [hg]; exact Nat.ne_of_lt (blk_lt (g := gb661) (o := .cells #[.int .i64 a0_0, .int .i64 a0_1, .string a0_2, .int .i64 a0_3, .int .i64 a0_4] 54 (0, 0)) (zk BK661.out)) : gb661 ≠ gb662)); have n6_ := Aside0.mk ((by rw [hg]; exact Nat.ne_of_gt (blk_lt (g := gb661) (o := .cells #[.int .i64 a0_0, .int .i64 a0_1, .string a0_2, .int .i64 a0_3, .int .i64 a0_4] 54 (0, 0)) (zk BK661.out)) : gb662 ≠ gb661)); clear BK661; clear HB; have BK661 := n0_; have HB := n1_; have BK662 := n2_; have GW662 := n3_; have GE662 := n4_; have NB661_662 := n5_; have NB662_661 := n6_; clear n0_ n1_ n2_ n3_ n4_ n5_ n6_; clear hb hbox hg; have hnb35 := NB661_662.out; have hnc35 := NB662_661.out; obtain ⟨hcz36_0, hcz36_1, hcz36_2, hcz36_3, hcz36_4⟩ := cl5Y BK661.out; obtain ⟨hfz36_0, hfz36_1, hfz36_2, hfz36_3, hfz36_4⟩ := fz5Y BK661.out; obtain ⟨hcz37_0, hcz37_1, hcz37_2, hcz37_3, hcz37_4⟩ := cl5Y BK662.out; obtain ⟨hfz37_0, hfz37_1, hfz37_2, hfz37_3, hfz37_4⟩ := fz5Y BK662.out))
  go_ret
  exact ⟨by first | rfl | (simp [errW_none, errW_some] <;> rfl) | (simp [*, errW_none, errW_some] <;> rfl), by repeat (first | (with_reducible first | exact HB.out | apply below_alloc | apply pw_below_drewN | apply below_drew1 | refine below_set ?_ GE661.out | refine below_set ?_ GE662.out) | exact HB.out)⟩

end Go.Proofs.Ytkfjgloalfpcmaa.QFnExactNodeOK
