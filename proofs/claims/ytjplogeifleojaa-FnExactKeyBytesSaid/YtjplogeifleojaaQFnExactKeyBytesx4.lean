/- The functions that the law reaches, each as a plain Lean function with the proof that the Go code comes to its answers: written by a program of this session. No condition. -/
import Derived.Test.YtjplogeifleojaaQFnExactKeyBytesx0
import Derived.Test.YtjplogeifleojaaQFnExactKeyBytesx2
import Derived.Test.YtjplogeifleojaaQFnExactKeyBytesx3
namespace Go.Proofs.Ytjplogeifleojaa.QFnExactKeyBytes
open Go.RowKit Go.Proofs.YtjplogeifleojaaW.PrintWords Go.Proofs.YtjplogeifleojaaW.PrintLast Go.Proofs.YtjplogeifleojaaW.PrintMore
attribute [local go_sem] max2_int min2_int max_two min_two max_three min_three max_four min_four str_gtr str_leq str_geq pw_at_slice   -- for this text's walks alone
set_option linter.unusedVariables false
set_option linter.unusedSimpArgs false

theorem x4_sz_lit1 (x : UInt8) : (⟨#[x]⟩ : ByteArray).size = 1 := rfl
/-! ### spec_KeyBytes: function 7 -/
set_option maxRecDepth 100000 in
mutual
def spec_KeyBytes.l0 : Nat → List (S42) → ByteArray → Int → Option (ByteArray × Int)
  | 0, _, _, _ => none
  | k + 1, x0, x4, x5 => if x5 < (x0.length : Int) then (if 0 ≤ x5 then ((spec_ValueOK.f k ((rd_T42 x0 x5).f0) ((rd_T42 x0 x5).f1) ((rd_T42 x0 x5).f2) ((rd_T42 x0 x5).f3)).bind fun t616 => (if t616 = true then (if ((rd_T42 x0 x5).f0) = 0 then (if x4.size + 1 ≤ 9223372036854775807 then (spec_KeyBytes.l0 k x0 (x4 ++ (⟨#[1]⟩ : ByteArray)) (wrap64 (x5 + 1))) else (none)) else (if ((rd_T42 x0 x5).f0) = 1 then (if x4.size + 1 ≤ 9223372036854775807 then ((some (([((rd_T42 x0 x5).f1) % 256] : List Int) : List Int)).bind fun y617 => (if (x4 ++ (⟨#[2]⟩ : ByteArray)).size + (strOfNums y617).size ≤ 9223372036854775807 then (spec_KeyBytes.l0 k x0 ((x4 ++ (⟨#[2]⟩ : ByteArray)) ++ (strOfNums y617)) (wrap64 (x5 + 1))) else (none))) else (none)) else (if ((rd_T42 x0 x5).f0) = 2 then (spec_KeyBytes.j1 k x0 x4 x5 ((rd_T42 x0 x5).f0) (((rd_T42 x0 x5).f0) == 2) ((rd_T42 x0 x5).f0) ((rd_T42 x0 x5).f1) ((rd_T42 x0 x5).f2) ((rd_T42 x0 x5).f3)) else (spec_KeyBytes.j1 k x0 x4 x5 ((rd_T42 x0 x5).f0) (((rd_T42 x0 x5).f0) == 3) ((rd_T42 x0 x5).f0) ((rd_T42 x0 x5).f1) ((rd_T42 x0 x5).f2) ((rd_T42 x0 x5).f3))))) else (some ((⟨#[]⟩ : ByteArray), 1)))) else (none)) else (some (x4, 0))
def spec_KeyBytes.j1 : Nat → List (S42) → ByteArray → Int → Int → Bool → Int → Int → Int → ByteArray → Option (ByteArray × Int)
  | 0, _, _, _, _, _, _, _, _, _ => none
  | k + 1, x0, x4, x5, x26, x41, x616000, x616001, x616002, x616003 => if x41 = true then ((spec_l01Split.f k x616000 x616001 x616002 x616003).bind fun bt620 => (if x4.size + 1 ≤ 9223372036854775807 then ((spec_l01Bytes.f k (wrap64 (bt620.1 + 1152921504606846976)) 8).bind fun t622 => (if (x4 ++ (⟨#[3]⟩ : ByteArray)).size + t622.size ≤ 9223372036854775807 then ((spec_l01Bytes.f k bt620.2 3).bind fun t623 => (if ((x4 ++ (⟨#[3]⟩ : ByteArray)) ++ t622).size + t623.size ≤ 9223372036854775807 then ((some (([(x616000) % 256] : List Int) : List Int)).bind fun y624 => (if (((x4 ++ (⟨#[3]⟩ : ByteArray)) ++ t622) ++ t623).size + (strOfNums y624).size ≤ 9223372036854775807 then (spec_KeyBytes.l0 k x0 ((((x4 ++ (⟨#[3]⟩ : ByteArray)) ++ t622) ++ t623) ++ (strOfNums y624)) (wrap64 (x5 + 1))) else (none))) else (none))) else (none))) else (none))) else (if x26 = 4 then (if x4.size + 1 ≤ 9223372036854775807 then (if (x4 ++ (⟨#[4]⟩ : ByteArray)).size + x616003.size ≤ 9223372036854775807 then (if ((x4 ++ (⟨#[4]⟩ : ByteArray)) ++ x616003).size + 1 ≤ 9223372036854775807 then (spec_KeyBytes.l0 k x0 (((x4 ++ (⟨#[4]⟩ : ByteArray)) ++ x616003) ++ (⟨#[0]⟩ : ByteArray)) (wrap64 (x5 + 1))) else (none)) else (none)) else (none)) else (if x26 = 5 then (if x4.size + 1 ≤ 9223372036854775807 then ((spec_l01Bytes.f k x616001 3).bind fun t627 => (if (x4 ++ (⟨#[5]⟩ : ByteArray)).size + t627.size ≤ 9223372036854775807 then (spec_KeyBytes.l0 k x0 ((x4 ++ (⟨#[5]⟩ : ByteArray)) ++ t627) (wrap64 (x5 + 1))) else (none))) else (none)) else (spec_KeyBytes.l0 k x0 x4 (wrap64 (x5 + 1)))))
end
def spec_KeyBytes.f (k : Nat) (l0 : List (S42)) : Option (ByteArray × Int) := if (l0.length : Int) > 16 then (some ((⟨#[]⟩ : ByteArray), 1)) else (spec_KeyBytes.l0 k l0 (⟨#[]⟩ : ByteArray) 0)
theorem spec_KeyBytes.mono_l : ∀ k, (∀ y0 y1 y2, LeO (spec_KeyBytes.l0 k y0 y1 y2) (spec_KeyBytes.l0 (k + 1) y0 y1 y2)) ∧ (∀ y0 y1 y2 y3 y4 y5 y6 y7 y8, LeO (spec_KeyBytes.j1 k y0 y1 y2 y3 y4 y5 y6 y7 y8) (spec_KeyBytes.j1 (k + 1) y0 y1 y2 y3 y4 y5 y6 y7 y8))
  | 0 => ⟨fun _ _ _ r h => by simp [spec_KeyBytes.l0] at h, fun _ _ _ _ _ _ _ _ _ r h => by simp [spec_KeyBytes.j1] at h⟩
  | k + 1 => by
    obtain ⟨ih0, ih1⟩ := spec_KeyBytes.mono_l k
    refine ⟨?_, ?_⟩
    · intro y0 y1 y2
      unfold spec_KeyBytes.l0
      repeat' first
      | (with_reducible exact ih0 _ _ _)
      | (with_reducible exact ih1 _ _ _ _ _ _ _ _ _)
      | (with_reducible exact spec_ValueOK.mono _ _ _ _ _)
      | (with_reducible exact spec_l01Bytes.mono _ _ _)
      | (with_reducible exact spec_l01Split.mono _ _ _ _ _)
      | (with_reducible exact LeO.refl _)
      | (with_reducible exact LeO.none _)
      | (with_reducible refine LeO.ite ?_ ?_)
      | (with_reducible refine LeO.bind ?_ (fun _ => ?_))
      | exact ih0 _ _ _
      | exact ih1 _ _ _ _ _ _ _ _ _
      | exact spec_ValueOK.mono _ _ _ _ _
      | exact spec_l01Bytes.mono _ _ _
      | exact spec_l01Split.mono _ _ _ _ _
      | exact LeO.none _
      | refine LeO.ite ?_ ?_
      | refine LeO.bind ?_ (fun _ => ?_)
    · intro y0 y1 y2 y3 y4 y5 y6 y7 y8
      unfold spec_KeyBytes.j1
      repeat' first
      | (with_reducible exact ih0 _ _ _)
      | (with_reducible exact ih1 _ _ _ _ _ _ _ _ _)
      | (with_reducible exact spec_ValueOK.mono _ _ _ _ _)
      | (with_reducible exact spec_l01Bytes.mono _ _ _)
      | (with_reducible exact spec_l01Split.mono _ _ _ _ _)
      | (with_reducible exact LeO.refl _)
      | (with_reducible exact LeO.none _)
      | (with_reducible refine LeO.ite ?_ ?_)
      | (with_reducible refine LeO.bind ?_ (fun _ => ?_))
      | exact ih0 _ _ _
      | exact ih1 _ _ _ _ _ _ _ _ _
      | exact spec_ValueOK.mono _ _ _ _ _
      | exact spec_l01Bytes.mono _ _ _
      | exact spec_l01Split.mono _ _ _ _ _
      | exact LeO.none _
      | refine LeO.ite ?_ ?_
      | refine LeO.bind ?_ (fun _ => ?_)
theorem spec_KeyBytes.mono : ∀ a0 k, LeO (spec_KeyBytes.f k a0) (spec_KeyBytes.f (k + 1) a0) := by
  intro a0 k
  obtain ⟨ih0, ih1⟩ := spec_KeyBytes.mono_l k
  unfold spec_KeyBytes.f
  repeat' first
      | (with_reducible exact ih0 _ _ _)
      | (with_reducible exact ih1 _ _ _ _ _ _ _ _ _)
      | (with_reducible exact spec_ValueOK.mono _ _ _ _ _)
      | (with_reducible exact spec_l01Bytes.mono _ _ _)
      | (with_reducible exact spec_l01Split.mono _ _ _ _ _)
      | (with_reducible exact LeO.refl _)
      | (with_reducible exact LeO.none _)
      | (with_reducible refine LeO.ite ?_ ?_)
      | (with_reducible refine LeO.bind ?_ (fun _ => ?_))
      | exact ih0 _ _ _
      | exact ih1 _ _ _ _ _ _ _ _ _
      | exact spec_ValueOK.mono _ _ _ _ _
      | exact spec_l01Bytes.mono _ _ _
      | exact spec_l01Split.mono _ _ _ _ _
      | exact LeO.none _
      | refine LeO.ite ?_ ?_
      | refine LeO.bind ?_ (fun _ => ?_)
def spec_KeyBytes.T18 : Bool × List (List Nat × List Nat) := (true, [([], []), ([0], [0]), ([], []), ([2], [2]), ([3], [3]), ([1, 4], [1, 4]), ([], []), ([6, 4], [6]), ([5, 7], [5, 7]), ([], []), ([9], [9]), ([10], [10]), ([11], [11]), ([12], [12]), ([8, 13], [8, 13]), ([14, 7, 0, 1, 2, 3, 4, 5, 6, 7, 8, 9, 10, 11, 12, 13, 14], [0, 14])])
def spec_KeyBytes.B18 : List Nat := [0, 1, 0, 4, 12, 31, 0, 92, 255, 0, 512, 1536, 3584, 7680, 16383, 32767]
theorem spec_KeyBytes.tab18 : rtab .any (opsOf Try.f7 18) = spec_KeyBytes.T18 := by kernel_rfl
theorem spec_KeyBytes.bits18 : waitsOk spec_KeyBytes.T18.2 spec_KeyBytes.B18 = true := by kernel_rfl
set_option maxHeartbeats 8000000 in
set_option maxRecDepth 100000 in
theorem spec_KeyBytes.calls (k : Nat) (A0 : Option Addr) (c0 : Nat) (l0 : List (S42)) (r1 : ByteArray) (r2 : Int) (w : World) (hr0 : Kd.C k42 w A0 l0.length l0) (hc0 : l0.length ≤ c0) (h : spec_KeyBytes.f k l0 = some (r1, r2)) :
    Calls Try.prog 7 #[.slice A0 l0.length c0] w fun e w' => e = .returned (.tuple #[.string r1, .int .i64 r2]) ∧ Below w.heap.size w w' := by
  have hu42 := Try.underlying42
  have HR0 := Aside0.mk hr0
  have HC0 := Aside0.mk hc0
  clear hr0 hc0
  have HB := Aside0.mk (Below.refl w.heap.size w)
  have H : (if (l0.length : Int) > 16 then (some ((⟨#[]⟩ : ByteArray), 1)) else (spec_KeyBytes.l0 k l0 (⟨#[]⟩ : ByteArray) 0)) = some (r1, r2) := h
  clear h
  by_cases c2 : (l0.length : Int) > 16
  · rw [if_pos c2] at H
    have c2b0 : decide (16 < (l0.length : Int)) = true := decide_eq_true c2
    have c2b1 : decide (16 < l0.length) = true := decide_eq_true (by omega)
    clear c2
    simp only [Option.some.injEq, Prod.mk.injEq] at H
    obtain ⟨rfl, rfl⟩ := H
    go_enter Try.func7, Try.ntmps7
    go_wp2
    go_ret2
    exact ⟨by first | rfl | (simp [errW_none, errW_some] <;> rfl) | (simp [*, errW_none, errW_some] <;> rfl), by repeat (first | (with_reducible first | exact HB.out | apply below_alloc | apply pw_below_drewN | apply below_drew1) | exact HB.out)⟩
  · rw [if_neg c2] at H
    have c2b0 : decide (16 < (l0.length : Int)) = false := decide_eq_false c2
    have c2b1 : decide (16 < l0.length) = false := decide_eq_false (by omega)
    clear c2
    have H' := Aside0.mk H
    clear H
    go_enter Try.func7, Try.ntmps7
    go_wp2
    go_loopg [4, 5] k (fun kq v4 v5 w' => ∃ (x4_1 : ByteArray) (x5_1 : Int), v4 = .string x4_1 ∧ v5 = .int .i64 x5_1 ∧ Aside0 (spec_KeyBytes.l0 kq l0 x4_1 x5_1 = some (r1, r2)) ∧ Aside0 (kq ≤ k) ∧ Aside0 (Below w.heap.size w w'))
    case atStart => exact ⟨((⟨#[]⟩ : ByteArray)), (0), (by first | rfl | (simp; done) | (simp [*]; done)), (by first | rfl | (simp; done) | (simp [*]; done)), H', ⟨Nat.le_refl _⟩, ⟨by repeat (first | (with_reducible first | exact HB.out | apply below_alloc | apply pw_below_drewN | apply below_drew1) | exact HB.out)⟩⟩
    case round =>
      clear H'
      try clear c2
      try clear c2b0
      try clear c2b1
      try clear p2
      obtain ⟨x4_1, x5_1, rfl, rfl, HA, HK1, HB⟩ := hrel
      cases gk with
      | zero => exact absurd HA.out (by simp [spec_KeyBytes.l0])
      | succ k1 =>
        have H := HA.out
        clear HA
        simp only [spec_KeyBytes.l0] at H
        by_cases c3 : x5_1 < (l0.length : Int)
        · rw [if_pos c3] at H
          have c3b0 : decide (x5_1 < (l0.length : Int)) = true := decide_eq_true c3
          clear c3
          by_cases c4 : 0 ≤ x5_1
          · rw [if_pos c4] at H
            have c4b0 : decide (0 ≤ x5_1) = true := decide_eq_true c4
            clear c4
            replace H := Option.bind_eq_some_iff.mp H
            obtain ⟨t616, A50, H⟩ := H
            replace H : (if t616 = true then (if ((rd_T42 l0 x5_1).f0) = 0 then (if x4_1.size + 1 ≤ 9223372036854775807 then (spec_KeyBytes.l0 k1 l0 (x4_1 ++ (⟨#[1]⟩ : ByteArray)) (wrap64 (x5_1 + 1))) else (none)) else (if ((rd_T42 l0 x5_1).f0) = 1 then (if x4_1.size + 1 ≤ 9223372036854775807 then ((some (([((rd_T42 l0 x5_1).f1) % 256] : List Int) : List Int)).bind fun y617 => (if (x4_1 ++ (⟨#[2]⟩ : ByteArray)).size + (strOfNums y617).size ≤ 9223372036854775807 then (spec_KeyBytes.l0 k1 l0 ((x4_1 ++ (⟨#[2]⟩ : ByteArray)) ++ (strOfNums y617)) (wrap64 (x5_1 + 1))) else (none))) else (none)) else (if ((rd_T42 l0 x5_1).f0) = 2 then (spec_KeyBytes.j1 k1 l0 x4_1 x5_1 ((rd_T42 l0 x5_1).f0) (((rd_T42 l0 x5_1).f0) == 2) ((rd_T42 l0 x5_1).f0) ((rd_T42 l0 x5_1).f1) ((rd_T42 l0 x5_1).f2) ((rd_T42 l0 x5_1).f3)) else (spec_KeyBytes.j1 k1 l0 x4_1 x5_1 ((rd_T42 l0 x5_1).f0) (((rd_T42 l0 x5_1).f0) == 3) ((rd_T42 l0 x5_1).f0) ((rd_T42 l0 x5_1).f1) ((rd_T42 l0 x5_1).f2) ((rd_T42 l0 x5_1).f3))))) else (some ((⟨#[]⟩ : ByteArray), 1))) = some (r1, r2) := H
            have A5 := Aside0.mk A50
            clear A50
            by_cases c6 : t616 = true
            · subst c6
              have H1 : (if ((rd_T42 l0 x5_1).f0) = 0 then (if x4_1.size + 1 ≤ 9223372036854775807 then (spec_KeyBytes.l0 k1 l0 (x4_1 ++ (⟨#[1]⟩ : ByteArray)) (wrap64 (x5_1 + 1))) else (none)) else (if ((rd_T42 l0 x5_1).f0) = 1 then (if x4_1.size + 1 ≤ 9223372036854775807 then ((some (([((rd_T42 l0 x5_1).f1) % 256] : List Int) : List Int)).bind fun y617 => (if (x4_1 ++ (⟨#[2]⟩ : ByteArray)).size + (strOfNums y617).size ≤ 9223372036854775807 then (spec_KeyBytes.l0 k1 l0 ((x4_1 ++ (⟨#[2]⟩ : ByteArray)) ++ (strOfNums y617)) (wrap64 (x5_1 + 1))) else (none))) else (none)) else (if ((rd_T42 l0 x5_1).f0) = 2 then (spec_KeyBytes.j1 k1 l0 x4_1 x5_1 ((rd_T42 l0 x5_1).f0) (((rd_T42 l0 x5_1).f0) == 2) ((rd_T42 l0 x5_1).f0) ((rd_T42 l0 x5_1).f1) ((rd_T42 l0 x5_1).f2) ((rd_T42 l0 x5_1).f3)) else (spec_KeyBytes.j1 k1 l0 x4_1 x5_1 ((rd_T42 l0 x5_1).f0) (((rd_T42 l0 x5_1).f0) == 3) ((rd_T42 l0 x5_1).f0) ((rd_T42 l0 x5_1).f1) ((rd_T42 l0 x5_1).f2) ((rd_T42 l0 x5_1).f3))))) = some (r1, r2) := by rw [if_pos rfl] at H; exact H
              clear H
              have H := H1
              clear H1
              by_cases c7 : ((rd_T42 l0 x5_1).f0) = 0
              · rw [if_pos c7] at H
                have c7b0 : (((rd_T42 l0 x5_1).f0) == 0) = true := beq_iff_eq.mpr c7
                have c7b1 : (((rd_T42 l0 x5_1).f0) != 0) = false := bne_eq_false_iff_eq.mpr c7
                clear c7
                by_cases c8 : x4_1.size + 1 ≤ 9223372036854775807
                · rw [if_pos c8] at H
                  have c8b0 := eq_true c8
                  have c8b1 : decide (x4_1.size + 1 ≤ 9223372036854775807) = true := decide_eq_true c8
                  try have c8b2 : (9223372036854775807 < x4_1.size + 1) = False := eq_false (Nat.not_lt.2 c8)
                  try (have c8b3 := c8b2; simp only [ByteArray.size_append] at c8b3)
                  try (have c8b6 := c8b2; simp only [ByteArray.size_append, x4_sz_lit1] at c8b6)
                  have H' := Aside0.mk H
                  clear H
                  have p614 : 0 ≤ (x5_1 : Int) := of_decide_eq_true (by first | (with_reducible assumption) | assumption)
                  have q614 : x5_1 < (l0.length : Int) := of_decide_eq_true (by first | (with_reducible assumption) | assumption)
                  obtain ⟨ad614, e614, hx614_0, hx614_1, hx614_2, hx614_3⟩ := at_T42 HR0.out x5_1 p614 q614
                  cases e614
                  replace hx614_0 := (HB.out.cell (World.block_lt_of_cell? w _ hx614_0)).trans hx614_0
                  replace hx614_1 := (HB.out.cell (World.block_lt_of_cell? w _ hx614_1)).trans hx614_1
                  replace hx614_2 := (HB.out.cell (World.block_lt_of_cell? w _ hx614_2)).trans hx614_2
                  replace hx614_3 := (HB.out.cell (World.block_lt_of_cell? w _ hx614_3)).trans hx614_3
                  replace p614 := eq_true p614
                  replace q614 := eq_true q614
                  go_wp2_with (first | ((with_reducible refine gate_dst (N := 6) rfl ?_); refine boxst_event ?hg (N := 6) ?hd ?hg2 ?hn2 ?ho2 (cs := #[.int .i64 ((rd_T42 l0 x5_1).f0), .int .i64 ((rd_T42 l0 x5_1).f1), .int .i64 ((rd_T42 l0 x5_1).f2), .string ((rd_T42 l0 x5_1).f3)]) (zs := #[.int .i64 0, .int .i64 0, .int .i64 0, .string (⟨#[]⟩ : ByteArray)]) (t := 42) ?hr ?hr2 ?_; (case hd => rfl); (case hg => rfl); (case hg2 => rfl); (case hn2 => rfl); (case ho2 => exact ⟨_, rfl⟩); (case hr => first | (go_simp; done) | (go_simp; rfl)); (case hr2 => first | (go_simp; done) | (go_simp; rfl)); intro gb615 hg w9 hbox hb; have n0_ := Aside0.mk (below_step (by repeat (first | (with_reducible first | exact HB.out | apply below_alloc | apply pw_below_drewN | apply below_drew1) | exact HB.out)) hb); have n1_ := Aside0.mk (hbox); have n2_ := Aside0.mk ((by rw [hg]; exact (below_size (by repeat (first | (with_reducible first | exact HB.out | apply below_alloc | apply pw_below_drewN | apply below_drew1) | exact HB.out))) : w.heap.size ≤ gb615)); have n3_ := Aside0.mk ((by rw [hg]; exact (below_size (by repeat (first | (with_reducible first | exact HB.out | apply below_alloc | apply pw_below_drewN | apply below_drew1) | exact HB.out))) : w.heap.size ≤ gb615)); clear HB; have HB := n0_; have BK615 := n1_; have GW615 := n2_; have GE615 := n3_; clear n0_ n1_ n2_ n3_; clear hb hbox hg; have hcz10_0 : w9.cell? ⟨gb615, 0, none⟩ = some (.int .i64 ((rd_T42 l0 x5_1).f0)) := (blk_cell BK615.out 0).trans rfl; have hcz10_1 : w9.cell? ⟨gb615, 1, none⟩ = some (.int .i64 ((rd_T42 l0 x5_1).f1)) := (blk_cell BK615.out 1).trans rfl; have hcz10_2 : w9.cell? ⟨gb615, 2, none⟩ = some (.int .i64 ((rd_T42 l0 x5_1).f2)) := (blk_cell BK615.out 2).trans rfl; have hcz10_3 : w9.cell? ⟨gb615, 3, none⟩ = some (.string ((rd_T42 l0 x5_1).f3)) := (blk_cell BK615.out 3).trans rfl; have hfz10_0 := blk_frozen BK615.out 0; have hfz10_1 := blk_frozen BK615.out 1; have hfz10_2 := blk_frozen BK615.out 2; have hfz10_3 := blk_frozen BK615.out 3) | ((with_reducible refine gate_callee (f := 20) rfl ?_); refine goesL_ (some 23) rfl rfl Try.func20 (by kernel_rfl) rfl #[.agg #[.int .i64 ((rd_T42 l0 x5_1).f0), .int .i64 ((rd_T42 l0 x5_1).f1), .int .i64 ((rd_T42 l0 x5_1).f2), .string ((rd_T42 l0 x5_1).f3)]] rfl (by (try simp only [List.map_toArray, List.map_cons, List.map_nil]); first | done | rfl | (simp only [List.length_drop, List.length_take]; rfl)) ?_; (with_reducible refine (spec_ValueOK.calls k1 ((rd_T42 l0 x5_1).f0) ((rd_T42 l0 x5_1).f1) ((rd_T42 l0 x5_1).f2) ((rd_T42 l0 x5_1).f3) true _ A5.out).mono ?_); rintro e w11 ⟨rfl, hb⟩; refine ⟨_, rfl, ?_⟩; have n0_ := Aside0.mk (blk_below (g := gb615) (o := .cells #[.int .i64 ((rd_T42 l0 x5_1).f0), .int .i64 ((rd_T42 l0 x5_1).f1), .int .i64 ((rd_T42 l0 x5_1).f2), .string ((rd_T42 l0 x5_1).f3)] 42 (0, 0)) (by (with_reducible repeat (first | refine blk_drewN ?_ _ | refine blk_drew ?_ | refine blk_alloc ?_ _)); exact BK615.out) hb); have n1_ := Aside0.mk (below_step (by repeat (first | (with_reducible first | exact HB.out | apply below_alloc | apply pw_below_drewN | apply below_drew1 | refine below_set ?_ GE615.out) | exact HB.out)) hb); clear BK615; clear HB; have BK615 := n0_; have HB := n1_; clear n0_ n1_; (try clear hb); (try clear hb2); (try clear hk); (try clear hi); have hcz12_0 : w11.cell? ⟨gb615, 0, none⟩ = some (.int .i64 ((rd_T42 l0 x5_1).f0)) := (blk_cell BK615.out 0).trans rfl; have hcz12_1 : w11.cell? ⟨gb615, 1, none⟩ = some (.int .i64 ((rd_T42 l0 x5_1).f1)) := (blk_cell BK615.out 1).trans rfl; have hcz12_2 : w11.cell? ⟨gb615, 2, none⟩ = some (.int .i64 ((rd_T42 l0 x5_1).f2)) := (blk_cell BK615.out 2).trans rfl; have hcz12_3 : w11.cell? ⟨gb615, 3, none⟩ = some (.string ((rd_T42 l0 x5_1).f3)) := (blk_cell BK615.out 3).trans rfl; have hfz12_0 := blk_frozen BK615.out 0; have hfz12_1 := blk_frozen BK615.out 1; have hfz12_2 := blk_frozen BK615.out 2; have hfz12_3 := blk_frozen BK615.out 3))
                  go_roundg k1
                  case measure => have := HK1.out; omega
                  case rel => exact ⟨(x4_1 ++ (⟨#[1]⟩ : ByteArray)), (wrap64 (x5_1 + 1)), (by first | rfl | (simp; done) | (simp [*]; done)), (by first | rfl | (simp; done) | (simp [*]; done)), H', ⟨by have := HK1.out; omega⟩, ⟨by repeat (first | (with_reducible first | exact HB.out | apply below_alloc | apply pw_below_drewN | apply below_drew1 | refine below_set ?_ GE615.out) | exact HB.out)⟩⟩
                · rw [if_neg c8] at H
                  exact absurd H (by simp)
              · rw [if_neg c7] at H
                have c7b0 : (((rd_T42 l0 x5_1).f0) == 0) = false := beq_eq_false_iff_ne.mpr c7
                have c7b1 : (((rd_T42 l0 x5_1).f0) != 0) = true := bne_iff_ne.mpr c7
                by_cases c13 : ((rd_T42 l0 x5_1).f0) = 1
                · rw [if_pos c13] at H
                  have c13b0 : (((rd_T42 l0 x5_1).f0) == 1) = true := beq_iff_eq.mpr c13
                  have c13b1 : (((rd_T42 l0 x5_1).f0) != 1) = false := bne_eq_false_iff_eq.mpr c13
                  clear c13
                  by_cases c14 : x4_1.size + 1 ≤ 9223372036854775807
                  · rw [if_pos c14] at H
                    have c14b0 := eq_true c14
                    have c14b1 : decide (x4_1.size + 1 ≤ 9223372036854775807) = true := decide_eq_true c14
                    try have c14b2 : (9223372036854775807 < x4_1.size + 1) = False := eq_false (Nat.not_lt.2 c14)
                    try (have c14b3 := c14b2; simp only [ByteArray.size_append] at c14b3)
                    try (have c14b6 := c14b2; simp only [ByteArray.size_append, x4_sz_lit1] at c14b6)
                    obtain ⟨y617, hy617⟩ : ∃ y_ : List Int, y_ = (([((rd_T42 l0 x5_1).f1) % 256] : List Int)) := ⟨_, rfl⟩
                    replace H : (if (x4_1 ++ (⟨#[2]⟩ : ByteArray)).size + (strOfNums y617).size ≤ 9223372036854775807 then (spec_KeyBytes.l0 k1 l0 ((x4_1 ++ (⟨#[2]⟩ : ByteArray)) ++ (strOfNums y617)) (wrap64 (x5_1 + 1))) else (none)) = some (r1, r2) := by first | (rw [hy617]; with_reducible exact H) | (have H2_ := (Option.bind_some _ _).symm.trans H; rw [hy617]; with_reducible exact H2_) | (have H2_ := (Option.bind_some _ _).symm.trans H; with_reducible exact H2_) | with_reducible exact H | (rw [hy617]; exact H) | exact H
                    have Ny617 := Aside0.mk hy617
                    clear hy617
                    by_cases c15 : (x4_1 ++ (⟨#[2]⟩ : ByteArray)).size + (strOfNums y617).size ≤ 9223372036854775807
                    · rw [if_pos c15] at H
                      have c15b0 := eq_true c15
                      have c15b1 : decide ((x4_1 ++ (⟨#[2]⟩ : ByteArray)).size + (strOfNums y617).size ≤ 9223372036854775807) = true := decide_eq_true c15
                      try have c15b2 : (9223372036854775807 < (x4_1 ++ (⟨#[2]⟩ : ByteArray)).size + (strOfNums y617).size) = False := eq_false (Nat.not_lt.2 c15)
                      try (have c15b3 := c15b2; simp only [ByteArray.size_append] at c15b3)
                      try (have c15b6 := c15b2; simp only [ByteArray.size_append, x4_sz_lit1] at c15b6)
                      have H' := Aside0.mk H
                      clear H
                      have p614 : 0 ≤ (x5_1 : Int) := of_decide_eq_true (by first | (with_reducible assumption) | assumption)
                      have q614 : x5_1 < (l0.length : Int) := of_decide_eq_true (by first | (with_reducible assumption) | assumption)
                      obtain ⟨ad614, e614, hx614_0, hx614_1, hx614_2, hx614_3⟩ := at_T42 HR0.out x5_1 p614 q614
                      cases e614
                      replace hx614_0 := (HB.out.cell (World.block_lt_of_cell? w _ hx614_0)).trans hx614_0
                      replace hx614_1 := (HB.out.cell (World.block_lt_of_cell? w _ hx614_1)).trans hx614_1
                      replace hx614_2 := (HB.out.cell (World.block_lt_of_cell? w _ hx614_2)).trans hx614_2
                      replace hx614_3 := (HB.out.cell (World.block_lt_of_cell? w _ hx614_3)).trans hx614_3
                      replace p614 := eq_true p614
                      replace q614 := eq_true q614
                      go_wp2_with (first | ((with_reducible refine gate_dst (N := 6) rfl ?_); refine boxst_event ?hg (N := 6) ?hd ?hg2 ?hn2 ?ho2 (cs := #[.int .i64 ((rd_T42 l0 x5_1).f0), .int .i64 ((rd_T42 l0 x5_1).f1), .int .i64 ((rd_T42 l0 x5_1).f2), .string ((rd_T42 l0 x5_1).f3)]) (zs := #[.int .i64 0, .int .i64 0, .int .i64 0, .string (⟨#[]⟩ : ByteArray)]) (t := 42) ?hr ?hr2 ?_; (case hd => rfl); (case hg => rfl); (case hg2 => rfl); (case hn2 => rfl); (case ho2 => exact ⟨_, rfl⟩); (case hr => first | (go_simp; done) | (go_simp; rfl)); (case hr2 => first | (go_simp; done) | (go_simp; rfl)); intro gb615 hg w16 hbox hb; have n0_ := Aside0.mk (below_step (by repeat (first | (with_reducible first | exact HB.out | apply below_alloc | apply pw_below_drewN | apply below_drew1) | exact HB.out)) hb); have n1_ := Aside0.mk (hbox); have n2_ := Aside0.mk ((by rw [hg]; exact (below_size (by repeat (first | (with_reducible first | exact HB.out | apply below_alloc | apply pw_below_drewN | apply below_drew1) | exact HB.out))) : w.heap.size ≤ gb615)); have n3_ := Aside0.mk ((by rw [hg]; exact (below_size (by repeat (first | (with_reducible first | exact HB.out | apply below_alloc | apply pw_below_drewN | apply below_drew1) | exact HB.out))) : w.heap.size ≤ gb615)); clear HB; have HB := n0_; have BK615 := n1_; have GW615 := n2_; have GE615 := n3_; clear n0_ n1_ n2_ n3_; clear hb hbox hg; have hcz17_0 : w16.cell? ⟨gb615, 0, none⟩ = some (.int .i64 ((rd_T42 l0 x5_1).f0)) := (blk_cell BK615.out 0).trans rfl; have hcz17_1 : w16.cell? ⟨gb615, 1, none⟩ = some (.int .i64 ((rd_T42 l0 x5_1).f1)) := (blk_cell BK615.out 1).trans rfl; have hcz17_2 : w16.cell? ⟨gb615, 2, none⟩ = some (.int .i64 ((rd_T42 l0 x5_1).f2)) := (blk_cell BK615.out 2).trans rfl; have hcz17_3 : w16.cell? ⟨gb615, 3, none⟩ = some (.string ((rd_T42 l0 x5_1).f3)) := (blk_cell BK615.out 3).trans rfl; have hfz17_0 := blk_frozen BK615.out 0; have hfz17_1 := blk_frozen BK615.out 1; have hfz17_2 := blk_frozen BK615.out 2; have hfz17_3 := blk_frozen BK615.out 3) | ((with_reducible refine gate_callee (f := 20) rfl ?_); refine goesL_ (some 23) rfl rfl Try.func20 (by kernel_rfl) rfl #[.agg #[.int .i64 ((rd_T42 l0 x5_1).f0), .int .i64 ((rd_T42 l0 x5_1).f1), .int .i64 ((rd_T42 l0 x5_1).f2), .string ((rd_T42 l0 x5_1).f3)]] rfl (by (try simp only [List.map_toArray, List.map_cons, List.map_nil]); first | done | rfl | (simp only [List.length_drop, List.length_take]; rfl)) ?_; (with_reducible refine (spec_ValueOK.calls k1 ((rd_T42 l0 x5_1).f0) ((rd_T42 l0 x5_1).f1) ((rd_T42 l0 x5_1).f2) ((rd_T42 l0 x5_1).f3) true _ A5.out).mono ?_); rintro e w18 ⟨rfl, hb⟩; refine ⟨_, rfl, ?_⟩; have n0_ := Aside0.mk (blk_below (g := gb615) (o := .cells #[.int .i64 ((rd_T42 l0 x5_1).f0), .int .i64 ((rd_T42 l0 x5_1).f1), .int .i64 ((rd_T42 l0 x5_1).f2), .string ((rd_T42 l0 x5_1).f3)] 42 (0, 0)) (by (with_reducible repeat (first | refine blk_drewN ?_ _ | refine blk_drew ?_ | refine blk_alloc ?_ _)); exact BK615.out) hb); have n1_ := Aside0.mk (below_step (by repeat (first | (with_reducible first | exact HB.out | apply below_alloc | apply pw_below_drewN | apply below_drew1 | refine below_set ?_ GE615.out) | exact HB.out)) hb); clear BK615; clear HB; have BK615 := n0_; have HB := n1_; clear n0_ n1_; (try clear hb); (try clear hb2); (try clear hk); (try clear hi); have hcz19_0 : w18.cell? ⟨gb615, 0, none⟩ = some (.int .i64 ((rd_T42 l0 x5_1).f0)) := (blk_cell BK615.out 0).trans rfl; have hcz19_1 : w18.cell? ⟨gb615, 1, none⟩ = some (.int .i64 ((rd_T42 l0 x5_1).f1)) := (blk_cell BK615.out 1).trans rfl; have hcz19_2 : w18.cell? ⟨gb615, 2, none⟩ = some (.int .i64 ((rd_T42 l0 x5_1).f2)) := (blk_cell BK615.out 2).trans rfl; have hcz19_3 : w18.cell? ⟨gb615, 3, none⟩ = some (.string ((rd_T42 l0 x5_1).f3)) := (blk_cell BK615.out 3).trans rfl; have hfz19_0 := blk_frozen BK615.out 0; have hfz19_1 := blk_frozen BK615.out 1; have hfz19_2 := blk_frozen BK615.out 2; have hfz19_3 := blk_frozen BK615.out 3) | ((with_reducible refine gate_dst (N := 38) rfl ?_); refine Kd.R_lit (Kd.int .u8) _ 5 ?hg (N := 38) ?hd (xs := ([((rd_T42 l0 x5_1).f1) % 256] : List Int)) (inner := [.int .u8 (((rd_T42 l0 x5_1).f1) % 256)]) (ok := fun _ => True) (okp := fun _ => True) ?hr ?hp (fun _ hk => hk) trivial (Below.refl _ _) (Nat.le_refl _) (by simp) ?_; (case hd => rfl); (case hg => rfl); (case hr => first | (go_simp; done) | (go_simp; rfl)); (case hp => exact (Reps.one (show Kd.M (Kd.int .u8) _ _ _ (((rd_T42 l0 x5_1).f1) % 256) [.int .u8 (((rd_T42 l0 x5_1).f1) % 256)] from rfl) (Reps.none _ _))); intro v618 w20 ho21 hb hg_ hnew_; clear hg_ hnew_; (first | rw [← Ny617.out] at ho21 | (simp only [Int.reduceToNat] at ho21; rw [← Ny617.out] at ho21)); have n0_ := Aside0.mk (Kd.R_lower ho21 (below_size (by repeat (first | (with_reducible first | exact HB.out | apply below_alloc | apply pw_below_drewN | apply below_drew1 | refine below_set ?_ GE615.out) | exact HB.out)))); have n1_ := Aside0.mk (blk_below (g := gb615) (o := .cells #[.int .i64 ((rd_T42 l0 x5_1).f0), .int .i64 ((rd_T42 l0 x5_1).f1), .int .i64 ((rd_T42 l0 x5_1).f2), .string ((rd_T42 l0 x5_1).f3)] 42 (0, 0)) (by (with_reducible repeat (first | refine blk_drewN ?_ _ | refine blk_drew ?_ | refine blk_alloc ?_ _)); exact BK615.out) hb); have n2_ := Aside0.mk (below_step (by repeat (first | (with_reducible first | exact HB.out | apply below_alloc | apply pw_below_drewN | apply below_drew1 | refine below_set ?_ GE615.out) | exact HB.out)) hb); clear BK615; clear HB; have HO619 := n0_; have BK615 := n1_; have HB := n2_; clear n0_ n1_ n2_; clear hb ho21; have hcv22 := own_string (P := Try.prog) Try.underlying34 Try.underlying5 Try.underlying9 (Kd.own_of_R HO619.out)))
                      go_roundg k1
                      case measure => have := HK1.out; omega
                      case rel => exact ⟨((x4_1 ++ (⟨#[2]⟩ : ByteArray)) ++ (strOfNums y617)), (wrap64 (x5_1 + 1)), (by first | rfl | (simp; done) | (simp [*]; done)), (by first | rfl | (simp; done) | (simp [*]; done)), H', ⟨by have := HK1.out; omega⟩, ⟨by repeat (first | (with_reducible first | exact HB.out | apply below_alloc | apply pw_below_drewN | apply below_drew1 | refine below_set ?_ GE615.out) | exact HB.out)⟩⟩
                    · rw [if_neg c15] at H
                      exact absurd H (by simp)
                  · rw [if_neg c14] at H
                    exact absurd H (by simp)
                · rw [if_neg c13] at H
                  have c13b0 : (((rd_T42 l0 x5_1).f0) == 1) = false := beq_eq_false_iff_ne.mpr c13
                  have c13b1 : (((rd_T42 l0 x5_1).f0) != 1) = true := bne_iff_ne.mpr c13
                  have HC23 := Aside0.mk H
                  clear H
                  have p614 : 0 ≤ (x5_1 : Int) := of_decide_eq_true (by first | (with_reducible assumption) | assumption)
                  have q614 : x5_1 < (l0.length : Int) := of_decide_eq_true (by first | (with_reducible assumption) | assumption)
                  obtain ⟨ad614, e614, hx614_0, hx614_1, hx614_2, hx614_3⟩ := at_T42 HR0.out x5_1 p614 q614
                  cases e614
                  replace hx614_0 := (HB.out.cell (World.block_lt_of_cell? w _ hx614_0)).trans hx614_0
                  replace hx614_1 := (HB.out.cell (World.block_lt_of_cell? w _ hx614_1)).trans hx614_1
                  replace hx614_2 := (HB.out.cell (World.block_lt_of_cell? w _ hx614_2)).trans hx614_2
                  replace hx614_3 := (HB.out.cell (World.block_lt_of_cell? w _ hx614_3)).trans hx614_3
                  replace p614 := eq_true p614
                  replace q614 := eq_true q614
                  go_upto_if 41 with (first | ((with_reducible refine gate_dst (N := 6) rfl ?_); refine boxst_event ?hg (N := 6) ?hd ?hg2 ?hn2 ?ho2 (cs := #[.int .i64 ((rd_T42 l0 x5_1).f0), .int .i64 ((rd_T42 l0 x5_1).f1), .int .i64 ((rd_T42 l0 x5_1).f2), .string ((rd_T42 l0 x5_1).f3)]) (zs := #[.int .i64 0, .int .i64 0, .int .i64 0, .string (⟨#[]⟩ : ByteArray)]) (t := 42) ?hr ?hr2 ?_; (case hd => rfl); (case hg => rfl); (case hg2 => rfl); (case hn2 => rfl); (case ho2 => exact ⟨_, rfl⟩); (case hr => first | (go_simp; done) | (go_simp; rfl)); (case hr2 => first | (go_simp; done) | (go_simp; rfl)); intro gb615 hg w24 hbox hb; have n0_ := Aside0.mk (below_step (by repeat (first | (with_reducible first | exact HB.out | apply below_alloc | apply pw_below_drewN | apply below_drew1) | exact HB.out)) hb); have n1_ := Aside0.mk (hbox); have n2_ := Aside0.mk ((by rw [hg]; exact (below_size (by repeat (first | (with_reducible first | exact HB.out | apply below_alloc | apply pw_below_drewN | apply below_drew1) | exact HB.out))) : w.heap.size ≤ gb615)); have n3_ := Aside0.mk ((by rw [hg]; exact (below_size (by repeat (first | (with_reducible first | exact HB.out | apply below_alloc | apply pw_below_drewN | apply below_drew1) | exact HB.out))) : w.heap.size ≤ gb615)); clear HB; have HB := n0_; have BK615 := n1_; have GW615 := n2_; have GE615 := n3_; clear n0_ n1_ n2_ n3_; clear hb hbox hg; have hcz25_0 : w24.cell? ⟨gb615, 0, none⟩ = some (.int .i64 ((rd_T42 l0 x5_1).f0)) := (blk_cell BK615.out 0).trans rfl; have hcz25_1 : w24.cell? ⟨gb615, 1, none⟩ = some (.int .i64 ((rd_T42 l0 x5_1).f1)) := (blk_cell BK615.out 1).trans rfl; have hcz25_2 : w24.cell? ⟨gb615, 2, none⟩ = some (.int .i64 ((rd_T42 l0 x5_1).f2)) := (blk_cell BK615.out 2).trans rfl; have hcz25_3 : w24.cell? ⟨gb615, 3, none⟩ = some (.string ((rd_T42 l0 x5_1).f3)) := (blk_cell BK615.out 3).trans rfl; have hfz25_0 := blk_frozen BK615.out 0; have hfz25_1 := blk_frozen BK615.out 1; have hfz25_2 := blk_frozen BK615.out 2; have hfz25_3 := blk_frozen BK615.out 3) | ((with_reducible refine gate_callee (f := 20) rfl ?_); refine goesL_ (some 23) rfl rfl Try.func20 (by kernel_rfl) rfl #[.agg #[.int .i64 ((rd_T42 l0 x5_1).f0), .int .i64 ((rd_T42 l0 x5_1).f1), .int .i64 ((rd_T42 l0 x5_1).f2), .string ((rd_T42 l0 x5_1).f3)]] rfl (by (try simp only [List.map_toArray, List.map_cons, List.map_nil]); first | done | rfl | (simp only [List.length_drop, List.length_take]; rfl)) ?_; (with_reducible refine (spec_ValueOK.calls k1 ((rd_T42 l0 x5_1).f0) ((rd_T42 l0 x5_1).f1) ((rd_T42 l0 x5_1).f2) ((rd_T42 l0 x5_1).f3) true _ A5.out).mono ?_); rintro e w26 ⟨rfl, hb⟩; refine ⟨_, rfl, ?_⟩; have n0_ := Aside0.mk (blk_below (g := gb615) (o := .cells #[.int .i64 ((rd_T42 l0 x5_1).f0), .int .i64 ((rd_T42 l0 x5_1).f1), .int .i64 ((rd_T42 l0 x5_1).f2), .string ((rd_T42 l0 x5_1).f3)] 42 (0, 0)) (by (with_reducible repeat (first | refine blk_drewN ?_ _ | refine blk_drew ?_ | refine blk_alloc ?_ _)); exact BK615.out) hb); have n1_ := Aside0.mk (below_step (by repeat (first | (with_reducible first | exact HB.out | apply below_alloc | apply pw_below_drewN | apply below_drew1 | refine below_set ?_ GE615.out) | exact HB.out)) hb); clear BK615; clear HB; have BK615 := n0_; have HB := n1_; clear n0_ n1_; (try clear hb); (try clear hb2); (try clear hk); (try clear hi); have hcz27_0 : w26.cell? ⟨gb615, 0, none⟩ = some (.int .i64 ((rd_T42 l0 x5_1).f0)) := (blk_cell BK615.out 0).trans rfl; have hcz27_1 : w26.cell? ⟨gb615, 1, none⟩ = some (.int .i64 ((rd_T42 l0 x5_1).f1)) := (blk_cell BK615.out 1).trans rfl; have hcz27_2 : w26.cell? ⟨gb615, 2, none⟩ = some (.int .i64 ((rd_T42 l0 x5_1).f2)) := (blk_cell BK615.out 2).trans rfl; have hcz27_3 : w26.cell? ⟨gb615, 3, none⟩ = some (.string ((rd_T42 l0 x5_1).f3)) := (blk_cell BK615.out 3).trans rfl; have hfz27_0 := blk_frozen BK615.out 0; have hfz27_1 := blk_frozen BK615.out 1; have hfz27_2 := blk_frozen BK615.out 2; have hfz27_3 := blk_frozen BK615.out 3))
                  (try simp only [Act.put, List.setIfInBounds_toArray, List.set_cons_zero, List.set_cons_succ])
                  go_cut [41] (fun v41 wc => ∃ (kq : Nat) (x41_22 : Bool), v41 = .bool x41_22 ∧ Aside0 (spec_KeyBytes.j1 kq l0 x4_1 x5_1 ((rd_T42 l0 x5_1).f0) x41_22 ((rd_T42 l0 x5_1).f0) ((rd_T42 l0 x5_1).f1) ((rd_T42 l0 x5_1).f2) ((rd_T42 l0 x5_1).f3) = some (r1, r2)) ∧ Aside0 (kq ≤ k1) ∧ Aside0 (wc.heap[gb615]? = some (.cells #[.int .i64 ((rd_T42 l0 x5_1).f0), .int .i64 ((rd_T42 l0 x5_1).f1), .int .i64 ((rd_T42 l0 x5_1).f2), .string ((rd_T42 l0 x5_1).f3)] 42 (0, 0))) ∧ Aside0 (Below w.heap.size w wc))
                  case first =>
                    have H := HC23.out
                    clear HC23
                    by_cases c28 : ((rd_T42 l0 x5_1).f0) = 2
                    · rw [if_pos c28] at H
                      have c28b0 : (((rd_T42 l0 x5_1).f0) == 2) = true := beq_iff_eq.mpr c28
                      have c28b1 : (((rd_T42 l0 x5_1).f0) != 2) = false := bne_eq_false_iff_eq.mpr c28
                      clear c28
                      (first | rw [c28b0] | (simp only [i64_w, i32_w]; rw [c28b0]) | skip)
                      have H' := Aside0.mk H
                      clear H
                      go_wp2
                      go_meet
                      case rel => exact ⟨_, ((((rd_T42 l0 x5_1).f0) == 2)), (by first | rfl | (simp; done) | (simp [*]; done)), H', ⟨by have := HK1.out; first | omega | exact Nat.le_refl _⟩, ⟨by (with_reducible repeat (first | refine blk_drewN ?_ _ | refine blk_drew ?_ | refine blk_alloc ?_ _)); exact BK615.out⟩, ⟨by repeat (first | (with_reducible first | exact HB.out | apply below_alloc | apply pw_below_drewN | apply below_drew1 | refine below_set ?_ GE615.out) | exact HB.out)⟩⟩
                    · rw [if_neg c28] at H
                      have c28b0 : (((rd_T42 l0 x5_1).f0) == 2) = false := beq_eq_false_iff_ne.mpr c28
                      have c28b1 : (((rd_T42 l0 x5_1).f0) != 2) = true := bne_iff_ne.mpr c28
                      (first | rw [c28b0] | (simp only [i64_w, i32_w]; rw [c28b0]) | skip)
                      have H' := Aside0.mk H
                      clear H
                      go_wp2
                      go_meet
                      case rel => exact ⟨_, ((((rd_T42 l0 x5_1).f0) == 3)), (by first | rfl | (simp; done) | (simp [*]; done)), H', ⟨by have := HK1.out; first | omega | exact Nat.le_refl _⟩, ⟨by (with_reducible repeat (first | refine blk_drewN ?_ _ | refine blk_drew ?_ | refine blk_alloc ?_ _)); exact BK615.out⟩, ⟨by repeat (first | (with_reducible first | exact HB.out | apply below_alloc | apply pw_below_drewN | apply below_drew1 | refine below_set ?_ GE615.out) | exact HB.out)⟩⟩
                  case rest =>
                    clear HC23
                    try clear c1
                    try clear c2
                    try clear c2b0
                    try clear c2b1
                    try clear p2
                    try clear hcv2
                    try clear c3
                    try clear c3b0
                    try clear c4
                    try clear c4b0
                    try clear c6
                    try clear p6
                    try clear q6
                    try clear hx6
                    try clear c7
                    try clear c7b0
                    try clear c7b1
                    try clear c8
                    try clear c8b0
                    try clear c8b1
                    try clear c8b2
                    try clear c13
                    try clear c13b0
                    try clear c13b1
                    try clear c14
                    try clear c14b0
                    try clear c14b1
                    try clear c14b2
                    try clear c15
                    try clear c15b0
                    try clear c15b1
                    try clear c15b2
                    try clear c20
                    try clear hcv22
                    try clear c28
                    try clear c28b0
                    try clear c28b1
                    try clear hcz10_0
                    try clear hcz10_1
                    try clear hcz10_2
                    try clear hcz10_3
                    try clear hcz12_0
                    try clear hcz12_1
                    try clear hcz12_2
                    try clear hcz12_3
                    try clear hcz17_0
                    try clear hcz17_1
                    try clear hcz17_2
                    try clear hcz17_3
                    try clear hcz19_0
                    try clear hcz19_1
                    try clear hcz19_2
                    try clear hcz19_3
                    try clear hcz25_0
                    try clear hcz25_1
                    try clear hcz25_2
                    try clear hcz25_3
                    try clear hcz27_0
                    try clear hcz27_1
                    try clear hcz27_2
                    try clear hcz27_3
                    try clear hfz10_0
                    try clear hfz10_1
                    try clear hfz10_2
                    try clear hfz10_3
                    try clear hfz12_0
                    try clear hfz12_1
                    try clear hfz12_2
                    try clear hfz12_3
                    try clear hfz17_0
                    try clear hfz17_1
                    try clear hfz17_2
                    try clear hfz17_3
                    try clear hfz19_0
                    try clear hfz19_1
                    try clear hfz19_2
                    try clear hfz19_3
                    try clear hfz25_0
                    try clear hfz25_1
                    try clear hfz25_2
                    try clear hfz25_3
                    try clear hfz27_0
                    try clear hfz27_1
                    try clear hfz27_2
                    try clear hfz27_3
                    try clear hx614_0
                    try clear hx614_1
                    try clear hx614_2
                    try clear hx614_3
                    try clear p2
                    try clear p614
                    try clear q614
                    obtain ⟨kq, x41_22, rfl, HA, HJ22, BK615, HB⟩ := hcut
                    cases kq with
                    | zero => exact absurd HA.out (by simp [spec_KeyBytes.j1])
                    | succ kj22 =>
                      have H := HA.out
                      clear HA
                      simp only [spec_KeyBytes.j1] at H
                      by_cases c29 : x41_22 = true
                      · subst c29
                        have H1 : ((spec_l01Split.f kj22 ((rd_T42 l0 x5_1).f0) ((rd_T42 l0 x5_1).f1) ((rd_T42 l0 x5_1).f2) ((rd_T42 l0 x5_1).f3)).bind fun bt620 => (if x4_1.size + 1 ≤ 9223372036854775807 then ((spec_l01Bytes.f kj22 (wrap64 (bt620.1 + 1152921504606846976)) 8).bind fun t622 => (if (x4_1 ++ (⟨#[3]⟩ : ByteArray)).size + t622.size ≤ 9223372036854775807 then ((spec_l01Bytes.f kj22 bt620.2 3).bind fun t623 => (if ((x4_1 ++ (⟨#[3]⟩ : ByteArray)) ++ t622).size + t623.size ≤ 9223372036854775807 then ((some (([(((rd_T42 l0 x5_1).f0)) % 256] : List Int) : List Int)).bind fun y624 => (if (((x4_1 ++ (⟨#[3]⟩ : ByteArray)) ++ t622) ++ t623).size + (strOfNums y624).size ≤ 9223372036854775807 then (spec_KeyBytes.l0 kj22 l0 ((((x4_1 ++ (⟨#[3]⟩ : ByteArray)) ++ t622) ++ t623) ++ (strOfNums y624)) (wrap64 (x5_1 + 1))) else (none))) else (none))) else (none))) else (none))) = some (r1, r2) := by rw [if_pos rfl] at H; exact H
                        clear H
                        have H := H1
                        clear H1
                        replace H := Option.bind_eq_some_iff.mp H
                        obtain ⟨⟨t620, t621⟩, A300, H⟩ := H
                        replace H : (if x4_1.size + 1 ≤ 9223372036854775807 then ((spec_l01Bytes.f kj22 (wrap64 (t620 + 1152921504606846976)) 8).bind fun t622 => (if (x4_1 ++ (⟨#[3]⟩ : ByteArray)).size + t622.size ≤ 9223372036854775807 then ((spec_l01Bytes.f kj22 t621 3).bind fun t623 => (if ((x4_1 ++ (⟨#[3]⟩ : ByteArray)) ++ t622).size + t623.size ≤ 9223372036854775807 then ((some (([(((rd_T42 l0 x5_1).f0)) % 256] : List Int) : List Int)).bind fun y624 => (if (((x4_1 ++ (⟨#[3]⟩ : ByteArray)) ++ t622) ++ t623).size + (strOfNums y624).size ≤ 9223372036854775807 then (spec_KeyBytes.l0 kj22 l0 ((((x4_1 ++ (⟨#[3]⟩ : ByteArray)) ++ t622) ++ t623) ++ (strOfNums y624)) (wrap64 (x5_1 + 1))) else (none))) else (none))) else (none))) else (none)) = some (r1, r2) := H
                        have A30 := Aside0.mk A300
                        clear A300
                        by_cases c31 : x4_1.size + 1 ≤ 9223372036854775807
                        · rw [if_pos c31] at H
                          have c31b0 := eq_true c31
                          have c31b1 : decide (x4_1.size + 1 ≤ 9223372036854775807) = true := decide_eq_true c31
                          try have c31b2 : (9223372036854775807 < x4_1.size + 1) = False := eq_false (Nat.not_lt.2 c31)
                          try (have c31b3 := c31b2; simp only [ByteArray.size_append] at c31b3)
                          try (have c31b6 := c31b2; simp only [ByteArray.size_append, x4_sz_lit1] at c31b6)
                          replace H := Option.bind_eq_some_iff.mp H
                          obtain ⟨t622, A320, H⟩ := H
                          replace H : (if (x4_1 ++ (⟨#[3]⟩ : ByteArray)).size + t622.size ≤ 9223372036854775807 then ((spec_l01Bytes.f kj22 t621 3).bind fun t623 => (if ((x4_1 ++ (⟨#[3]⟩ : ByteArray)) ++ t622).size + t623.size ≤ 9223372036854775807 then ((some (([(((rd_T42 l0 x5_1).f0)) % 256] : List Int) : List Int)).bind fun y624 => (if (((x4_1 ++ (⟨#[3]⟩ : ByteArray)) ++ t622) ++ t623).size + (strOfNums y624).size ≤ 9223372036854775807 then (spec_KeyBytes.l0 kj22 l0 ((((x4_1 ++ (⟨#[3]⟩ : ByteArray)) ++ t622) ++ t623) ++ (strOfNums y624)) (wrap64 (x5_1 + 1))) else (none))) else (none))) else (none)) = some (r1, r2) := H
                          have A32 := Aside0.mk A320
                          clear A320
                          by_cases c33 : (x4_1 ++ (⟨#[3]⟩ : ByteArray)).size + t622.size ≤ 9223372036854775807
                          · rw [if_pos c33] at H
                            have c33b0 := eq_true c33
                            have c33b1 : decide ((x4_1 ++ (⟨#[3]⟩ : ByteArray)).size + t622.size ≤ 9223372036854775807) = true := decide_eq_true c33
                            try have c33b2 : (9223372036854775807 < (x4_1 ++ (⟨#[3]⟩ : ByteArray)).size + t622.size) = False := eq_false (Nat.not_lt.2 c33)
                            try (have c33b3 := c33b2; simp only [ByteArray.size_append] at c33b3)
                            try (have c33b6 := c33b2; simp only [ByteArray.size_append, x4_sz_lit1] at c33b6)
                            replace H := Option.bind_eq_some_iff.mp H
                            obtain ⟨t623, A340, H⟩ := H
                            replace H : (if ((x4_1 ++ (⟨#[3]⟩ : ByteArray)) ++ t622).size + t623.size ≤ 9223372036854775807 then ((some (([(((rd_T42 l0 x5_1).f0)) % 256] : List Int) : List Int)).bind fun y624 => (if (((x4_1 ++ (⟨#[3]⟩ : ByteArray)) ++ t622) ++ t623).size + (strOfNums y624).size ≤ 9223372036854775807 then (spec_KeyBytes.l0 kj22 l0 ((((x4_1 ++ (⟨#[3]⟩ : ByteArray)) ++ t622) ++ t623) ++ (strOfNums y624)) (wrap64 (x5_1 + 1))) else (none))) else (none)) = some (r1, r2) := H
                            have A34 := Aside0.mk A340
                            clear A340
                            by_cases c35 : ((x4_1 ++ (⟨#[3]⟩ : ByteArray)) ++ t622).size + t623.size ≤ 9223372036854775807
                            · rw [if_pos c35] at H
                              have c35b0 := eq_true c35
                              have c35b1 : decide (((x4_1 ++ (⟨#[3]⟩ : ByteArray)) ++ t622).size + t623.size ≤ 9223372036854775807) = true := decide_eq_true c35
                              try have c35b2 : (9223372036854775807 < ((x4_1 ++ (⟨#[3]⟩ : ByteArray)) ++ t622).size + t623.size) = False := eq_false (Nat.not_lt.2 c35)
                              try (have c35b3 := c35b2; simp only [ByteArray.size_append] at c35b3)
                              try (have c35b6 := c35b2; simp only [ByteArray.size_append, x4_sz_lit1] at c35b6)
                              obtain ⟨y624, hy624⟩ : ∃ y_ : List Int, y_ = (([(((rd_T42 l0 x5_1).f0)) % 256] : List Int)) := ⟨_, rfl⟩
                              replace H : (if (((x4_1 ++ (⟨#[3]⟩ : ByteArray)) ++ t622) ++ t623).size + (strOfNums y624).size ≤ 9223372036854775807 then (spec_KeyBytes.l0 kj22 l0 ((((x4_1 ++ (⟨#[3]⟩ : ByteArray)) ++ t622) ++ t623) ++ (strOfNums y624)) (wrap64 (x5_1 + 1))) else (none)) = some (r1, r2) := by first | (rw [hy624]; with_reducible exact H) | (have H2_ := (Option.bind_some _ _).symm.trans H; rw [hy624]; with_reducible exact H2_) | (have H2_ := (Option.bind_some _ _).symm.trans H; with_reducible exact H2_) | with_reducible exact H | (rw [hy624]; exact H) | exact H
                              have Ny624 := Aside0.mk hy624
                              clear hy624
                              by_cases c36 : (((x4_1 ++ (⟨#[3]⟩ : ByteArray)) ++ t622) ++ t623).size + (strOfNums y624).size ≤ 9223372036854775807
                              · rw [if_pos c36] at H
                                have c36b0 := eq_true c36
                                have c36b1 : decide ((((x4_1 ++ (⟨#[3]⟩ : ByteArray)) ++ t622) ++ t623).size + (strOfNums y624).size ≤ 9223372036854775807) = true := decide_eq_true c36
                                try have c36b2 : (9223372036854775807 < (((x4_1 ++ (⟨#[3]⟩ : ByteArray)) ++ t622) ++ t623).size + (strOfNums y624).size) = False := eq_false (Nat.not_lt.2 c36)
                                try (have c36b3 := c36b2; simp only [ByteArray.size_append] at c36b3)
                                try (have c36b6 := c36b2; simp only [ByteArray.size_append, x4_sz_lit1] at c36b6)
                                have H' := Aside0.mk H
                                clear H
                                have hcz37_0 : wc.cell? ⟨gb615, 0, none⟩ = some (.int .i64 ((rd_T42 l0 x5_1).f0)) := (blk_cell BK615.out 0).trans rfl
                                have hcz37_1 : wc.cell? ⟨gb615, 1, none⟩ = some (.int .i64 ((rd_T42 l0 x5_1).f1)) := (blk_cell BK615.out 1).trans rfl
                                have hcz37_2 : wc.cell? ⟨gb615, 2, none⟩ = some (.int .i64 ((rd_T42 l0 x5_1).f2)) := (blk_cell BK615.out 2).trans rfl
                                have hcz37_3 : wc.cell? ⟨gb615, 3, none⟩ = some (.string ((rd_T42 l0 x5_1).f3)) := (blk_cell BK615.out 3).trans rfl
                                have hfz37_0 := blk_frozen BK615.out 0
                                have hfz37_1 := blk_frozen BK615.out 1
                                have hfz37_2 := blk_frozen BK615.out 2
                                have hfz37_3 := blk_frozen BK615.out 3
                                try go_wp2_with (first | ((with_reducible refine gate_callee (f := 21) rfl ?_); refine goesL_ (some 46) rfl rfl Try.func21 (by kernel_rfl) rfl #[.agg #[.int .i64 ((rd_T42 l0 x5_1).f0), .int .i64 ((rd_T42 l0 x5_1).f1), .int .i64 ((rd_T42 l0 x5_1).f2), .string ((rd_T42 l0 x5_1).f3)]] rfl (by (try simp only [List.map_toArray, List.map_cons, List.map_nil]); first | done | rfl | (simp only [List.length_drop, List.length_take]; rfl)) ?_; (with_reducible refine (spec_l01Split.calls kj22 ((rd_T42 l0 x5_1).f0) ((rd_T42 l0 x5_1).f1) ((rd_T42 l0 x5_1).f2) ((rd_T42 l0 x5_1).f3) t620 t621 _ A30.out).mono ?_); rintro e w38 ⟨rfl, hb⟩; refine ⟨_, rfl, ?_⟩; have n0_ := Aside0.mk (blk_below (g := gb615) (o := .cells #[.int .i64 ((rd_T42 l0 x5_1).f0), .int .i64 ((rd_T42 l0 x5_1).f1), .int .i64 ((rd_T42 l0 x5_1).f2), .string ((rd_T42 l0 x5_1).f3)] 42 (0, 0)) (by (with_reducible repeat (first | refine blk_drewN ?_ _ | refine blk_drew ?_ | refine blk_alloc ?_ _)); exact BK615.out) hb); have n1_ := Aside0.mk (below_step (by repeat (first | (with_reducible first | exact HB.out | apply below_alloc | apply pw_below_drewN | apply below_drew1 | refine below_set ?_ GE615.out) | exact HB.out)) hb); clear BK615; clear HB; have BK615 := n0_; have HB := n1_; clear n0_ n1_; (try clear hb); (try clear hb2); (try clear hk); (try clear hi)))
                                have n0_ := Aside0.mk (blk_drew BK615.out)
                                have n1_ := Aside0.mk (below_drew1 HB.out)
                                clear BK615
                                clear HB
                                have BK615 := n0_
                                have HB := n1_
                                clear n0_ n1_
                                refine start_ (n := 16) (S := fun w' => w'.cell? ⟨gb615, 0, none⟩ = some (.int .i64 ((rd_T42 l0 x5_1).f0)) ∧ w'.cell? ⟨gb615, 1, none⟩ = some (.int .i64 ((rd_T42 l0 x5_1).f1)) ∧ w'.cell? ⟨gb615, 2, none⟩ = some (.int .i64 ((rd_T42 l0 x5_1).f2)) ∧ w'.cell? ⟨gb615, 3, none⟩ = some (.string ((rd_T42 l0 x5_1).f3))) (ds := []) #[false, false, false, false, false, false, false, false, false, false, false, false, false, false, false, false] (by kernel_rfl) rfl rfl ⟨(blk_cell BK615.out 0).trans rfl, (blk_cell BK615.out 1).trans rfl, (blk_cell BK615.out 2).trans rfl, (blk_cell BK615.out 3).trans rfl⟩ (fun hHeld => ?_); refine with_tabW spec_KeyBytes.tab18 spec_KeyBytes.bits18 (fun HT_ HW_ => ?_)
                                generalize w38.drew = w39 at BK615 HB hHeld ⊢
                                refine pure_ (i := 0) (N := some 49) (v := ?_) (a' := ?_) #[true, false, false, false, false, false, false, false, false, false, false, false, false, false, false, false] rfl rfl (any_of HT_.out (by kernel_rfl)) (fun _ _ _ h => h) (Or.inl ⟨by rfl, ?_⟩) ?_ ?_
                                rotate_left
                                · intro w'
                                  go_simp
                                  with_reducible rfl
                                rotate_left
                                · simp only [Act.put, List.setIfInBounds_toArray, List.set_cons_zero, List.set_cons_succ, i64_w, i32_w]
                                  rfl
                                refine pure_ (i := 1) (N := some 50) (v := ?_) (a' := ?_) #[true, true, false, false, false, false, false, false, false, false, false, false, false, false, false, false] rfl rfl (any_of HT_.out (by kernel_rfl)) (fun _ _ _ h => h) (Or.inl ⟨by rfl, ?_⟩) ?_ ?_
                                rotate_left
                                · intro w'
                                  go_simp
                                  with_reducible rfl
                                rotate_left
                                · simp only [Act.put, List.setIfInBounds_toArray, List.set_cons_zero, List.set_cons_succ, i64_w, i32_w]
                                  rfl
                                refine pure_ (i := 2) (N := some 51) (v := ?_) (a' := ?_) #[true, true, true, false, false, false, false, false, false, false, false, false, false, false, false, false] rfl rfl (any_of HT_.out (by kernel_rfl)) (fun _ _ _ h => h) (Or.inl ⟨by rfl, ?_⟩) ?_ ?_
                                rotate_left
                                · intro w'
                                  go_simp
                                  with_reducible rfl
                                rotate_left
                                · simp only [Act.put, List.setIfInBounds_toArray, List.set_cons_zero, List.set_cons_succ, i64_w, i32_w]
                                  rfl
                                refine pure_ (i := 3) (N := some 52) (v := ?_) (a' := ?_) #[true, true, true, true, false, false, false, false, false, false, false, false, false, false, false, false] rfl rfl (any_of HT_.out (by kernel_rfl)) (fun _ _ _ h => h) (Or.inl ⟨by rfl, ?_⟩) ?_ ?_
                                rotate_left
                                · intro w'
                                  go_simp
                                  with_reducible rfl
                                rotate_left
                                · simp only [Act.put, List.setIfInBounds_toArray, List.set_cons_zero, List.set_cons_succ, i64_w, i32_w]
                                  rfl
                                refine pure_ (i := 6) (N := some 55) (v := ?_) (a' := ?_) #[true, true, true, true, false, false, true, false, false, false, false, false, false, false, false, false] rfl rfl (any_of HT_.out (by kernel_rfl)) (fun _ _ _ h => h) (Or.inl ⟨by rfl, ?_⟩) ?_ ?_
                                rotate_left
                                · intro w'
                                  go_simp
                                  with_reducible rfl
                                rotate_left
                                · simp only [Act.put, List.setIfInBounds_toArray, List.set_cons_zero, List.set_cons_succ, i64_w, i32_w]
                                  rfl
                                refine pure_ (i := 9) (N := some 58) (v := ?_) (a' := ?_) #[true, true, true, true, false, false, true, false, false, true, false, false, false, false, false, false] rfl rfl (any_of HT_.out (by kernel_rfl)) (fun _ _ _ h => h) (Or.inl ⟨by rfl, ?_⟩) ?_ ?_
                                rotate_left
                                · intro w'
                                  go_simp
                                  with_reducible rfl
                                rotate_left
                                · simp only [Act.put, List.setIfInBounds_toArray, List.set_cons_zero, List.set_cons_succ, i64_w, i32_w]
                                  rfl
                                refine take_ (i := 10) (N := some 59) (v := ?_) (a' := ?_) #[true, true, true, true, false, false, true, false, false, true, true, false, false, false, false, false] rfl rfl (take_ofW HT_.out HW_.out (by kernel_rfl)) (fun _ _ _ h => h) (Or.inl ⟨by rfl, ?_⟩) hHeld ?_ ?_
                                rotate_left
                                · rintro w' ⟨s0, s1, s2, s3⟩
                                  go_simp
                                  with_reducible rfl
                                rotate_left
                                · simp only [Act.put, List.setIfInBounds_toArray, List.set_cons_zero, List.set_cons_succ, i64_w, i32_w]
                                  rfl
                                refine pure_ (i := 11) (N := some 60) (v := ?_) (a' := ?_) #[true, true, true, true, false, false, true, false, false, true, true, true, false, false, false, false] rfl rfl (any_of HT_.out (by kernel_rfl)) (fun _ _ _ h => h) (Or.inl ⟨by rfl, ?_⟩) ?_ ?_
                                rotate_left
                                · intro w'
                                  go_simp
                                  with_reducible rfl
                                rotate_left
                                · simp only [Act.put, List.setIfInBounds_toArray, List.set_cons_zero, List.set_cons_succ, i64_w, i32_w]
                                  rfl
                                refine join_ (σ := Value) 2 #[true, true, true, true, true, true, true, true, true, true, true, true, true, true, false, false] (fun s_ => [(53, .string t622), (56, .string t623), (61, s_), (62, .string (strOfNums y624)), (54, .string ((x4_1 ++ (⟨#[3]⟩ : ByteArray)) ++ t622)), (57, .string (((x4_1 ++ (⟨#[3]⟩ : ByteArray)) ++ t622) ++ t623))]) (fun s_ w' => (w'.cell? ⟨gb615, 0, none⟩ = some (.int .i64 ((rd_T42 l0 x5_1).f0)) ∧ w'.cell? ⟨gb615, 1, none⟩ = some (.int .i64 ((rd_T42 l0 x5_1).f1)) ∧ w'.cell? ⟨gb615, 2, none⟩ = some (.int .i64 ((rd_T42 l0 x5_1).f2)) ∧ w'.cell? ⟨gb615, 3, none⟩ = some (.string ((rd_T42 l0 x5_1).f3))) ∧ (Kd.R (Kd.int .u8) 5 w' w.heap.size (fun _ => True) s_ y624) ∧ (w'.heap[gb615]? = some (.cells #[.int .i64 ((rd_T42 l0 x5_1).f0), .int .i64 ((rd_T42 l0 x5_1).f1), .int .i64 ((rd_T42 l0 x5_1).f2), .string ((rd_T42 l0 x5_1).f3)] 42 (0, 0))) ∧ (Below w.heap.size w w')) ?_ ?_
                                rotate_left
                                · intro hJ4_7_12_13
                                  refine join_ (σ := Value) 3 #[true, true, true, true, true, true, true, true, true, true, true, true, true, false, false, false] (fun s_ => [(53, .string t622), (56, .string t623), (61, s_), (54, .string ((x4_1 ++ (⟨#[3]⟩ : ByteArray)) ++ t622)), (57, .string (((x4_1 ++ (⟨#[3]⟩ : ByteArray)) ++ t622) ++ t623))]) (fun s_ w' => (w'.cell? ⟨gb615, 0, none⟩ = some (.int .i64 ((rd_T42 l0 x5_1).f0)) ∧ w'.cell? ⟨gb615, 1, none⟩ = some (.int .i64 ((rd_T42 l0 x5_1).f1)) ∧ w'.cell? ⟨gb615, 2, none⟩ = some (.int .i64 ((rd_T42 l0 x5_1).f2)) ∧ w'.cell? ⟨gb615, 3, none⟩ = some (.string ((rd_T42 l0 x5_1).f3))) ∧ (Kd.R (Kd.int .u8) 5 w' w.heap.size (fun _ => True) s_ y624) ∧ (w'.heap[gb615]? = some (.cells #[.int .i64 ((rd_T42 l0 x5_1).f0), .int .i64 ((rd_T42 l0 x5_1).f1), .int .i64 ((rd_T42 l0 x5_1).f2), .string ((rd_T42 l0 x5_1).f3)] 42 (0, 0))) ∧ (Below w.heap.size w w')) ?_ ?_
                                  rotate_left
                                  · intro hJ4_7_12
                                    refine join_ (σ := Value) 4 #[true, true, true, true, true, true, true, false, false, true, true, true, true, true, false, false] (fun s_ => [(53, .string t622), (61, s_), (62, .string (strOfNums y624)), (54, .string ((x4_1 ++ (⟨#[3]⟩ : ByteArray)) ++ t622))]) (fun s_ w' => (w'.cell? ⟨gb615, 0, none⟩ = some (.int .i64 ((rd_T42 l0 x5_1).f0)) ∧ w'.cell? ⟨gb615, 1, none⟩ = some (.int .i64 ((rd_T42 l0 x5_1).f1)) ∧ w'.cell? ⟨gb615, 2, none⟩ = some (.int .i64 ((rd_T42 l0 x5_1).f2)) ∧ w'.cell? ⟨gb615, 3, none⟩ = some (.string ((rd_T42 l0 x5_1).f3))) ∧ (Kd.R (Kd.int .u8) 5 w' w.heap.size (fun _ => True) s_ y624) ∧ (w'.heap[gb615]? = some (.cells #[.int .i64 ((rd_T42 l0 x5_1).f0), .int .i64 ((rd_T42 l0 x5_1).f1), .int .i64 ((rd_T42 l0 x5_1).f2), .string ((rd_T42 l0 x5_1).f3)] 42 (0, 0))) ∧ (Below w.heap.size w w')) ?_ ?_
                                    rotate_left
                                    · intro hJ4_12_13
                                      refine join_ (σ := Unit) 4 #[true, true, true, true, true, true, true, true, true, true, true, true, false, false, false, false] (fun s_ => [(53, .string t622), (56, .string t623), (54, .string ((x4_1 ++ (⟨#[3]⟩ : ByteArray)) ++ t622)), (57, .string (((x4_1 ++ (⟨#[3]⟩ : ByteArray)) ++ t622) ++ t623))]) (fun s_ w' => (w'.cell? ⟨gb615, 0, none⟩ = some (.int .i64 ((rd_T42 l0 x5_1).f0)) ∧ w'.cell? ⟨gb615, 1, none⟩ = some (.int .i64 ((rd_T42 l0 x5_1).f1)) ∧ w'.cell? ⟨gb615, 2, none⟩ = some (.int .i64 ((rd_T42 l0 x5_1).f2)) ∧ w'.cell? ⟨gb615, 3, none⟩ = some (.string ((rd_T42 l0 x5_1).f3))) ∧ (w'.heap[gb615]? = some (.cells #[.int .i64 ((rd_T42 l0 x5_1).f0), .int .i64 ((rd_T42 l0 x5_1).f1), .int .i64 ((rd_T42 l0 x5_1).f2), .string ((rd_T42 l0 x5_1).f3)] 42 (0, 0))) ∧ (Below w.heap.size w w')) ?_ ?_
                                      rotate_left
                                      · intro hJ4_7
                                        refine join_ (σ := Value) 5 #[true, true, true, true, true, true, true, false, false, true, true, true, true, false, false, false] (fun s_ => [(53, .string t622), (61, s_), (54, .string ((x4_1 ++ (⟨#[3]⟩ : ByteArray)) ++ t622))]) (fun s_ w' => (w'.cell? ⟨gb615, 0, none⟩ = some (.int .i64 ((rd_T42 l0 x5_1).f0)) ∧ w'.cell? ⟨gb615, 1, none⟩ = some (.int .i64 ((rd_T42 l0 x5_1).f1)) ∧ w'.cell? ⟨gb615, 2, none⟩ = some (.int .i64 ((rd_T42 l0 x5_1).f2)) ∧ w'.cell? ⟨gb615, 3, none⟩ = some (.string ((rd_T42 l0 x5_1).f3))) ∧ (Kd.R (Kd.int .u8) 5 w' w.heap.size (fun _ => True) s_ y624) ∧ (w'.heap[gb615]? = some (.cells #[.int .i64 ((rd_T42 l0 x5_1).f0), .int .i64 ((rd_T42 l0 x5_1).f1), .int .i64 ((rd_T42 l0 x5_1).f2), .string ((rd_T42 l0 x5_1).f3)] 42 (0, 0))) ∧ (Below w.heap.size w w')) ?_ ?_
                                        rotate_left
                                        · intro hJ4_12
                                          refine join_ (σ := Value) 6 #[true, true, true, true, false, false, true, false, false, true, true, true, true, true, false, false] (fun s_ => [(61, s_), (62, .string (strOfNums y624))]) (fun s_ w' => (w'.cell? ⟨gb615, 0, none⟩ = some (.int .i64 ((rd_T42 l0 x5_1).f0)) ∧ w'.cell? ⟨gb615, 1, none⟩ = some (.int .i64 ((rd_T42 l0 x5_1).f1)) ∧ w'.cell? ⟨gb615, 2, none⟩ = some (.int .i64 ((rd_T42 l0 x5_1).f2)) ∧ w'.cell? ⟨gb615, 3, none⟩ = some (.string ((rd_T42 l0 x5_1).f3))) ∧ (Kd.R (Kd.int .u8) 5 w' w.heap.size (fun _ => True) s_ y624) ∧ (w'.heap[gb615]? = some (.cells #[.int .i64 ((rd_T42 l0 x5_1).f0), .int .i64 ((rd_T42 l0 x5_1).f1), .int .i64 ((rd_T42 l0 x5_1).f2), .string ((rd_T42 l0 x5_1).f3)] 42 (0, 0))) ∧ (Below w.heap.size w w')) ?_ ?_
                                          rotate_left
                                          · intro hJ12_13
                                            refine join_ (σ := Unit) 6 #[true, true, true, true, true, true, true, false, false, true, true, true, false, false, false, false] (fun s_ => [(53, .string t622), (54, .string ((x4_1 ++ (⟨#[3]⟩ : ByteArray)) ++ t622))]) (fun s_ w' => (w'.cell? ⟨gb615, 0, none⟩ = some (.int .i64 ((rd_T42 l0 x5_1).f0)) ∧ w'.cell? ⟨gb615, 1, none⟩ = some (.int .i64 ((rd_T42 l0 x5_1).f1)) ∧ w'.cell? ⟨gb615, 2, none⟩ = some (.int .i64 ((rd_T42 l0 x5_1).f2)) ∧ w'.cell? ⟨gb615, 3, none⟩ = some (.string ((rd_T42 l0 x5_1).f3))) ∧ (w'.heap[gb615]? = some (.cells #[.int .i64 ((rd_T42 l0 x5_1).f0), .int .i64 ((rd_T42 l0 x5_1).f1), .int .i64 ((rd_T42 l0 x5_1).f2), .string ((rd_T42 l0 x5_1).f3)] 42 (0, 0))) ∧ (Below w.heap.size w w')) ?_ ?_
                                            rotate_left
                                            · intro hJ4
                                              refine join_ (σ := Value) 7 #[true, true, true, true, false, false, true, false, false, true, true, true, true, false, false, false] (fun s_ => [(61, s_)]) (fun s_ w' => (w'.cell? ⟨gb615, 0, none⟩ = some (.int .i64 ((rd_T42 l0 x5_1).f0)) ∧ w'.cell? ⟨gb615, 1, none⟩ = some (.int .i64 ((rd_T42 l0 x5_1).f1)) ∧ w'.cell? ⟨gb615, 2, none⟩ = some (.int .i64 ((rd_T42 l0 x5_1).f2)) ∧ w'.cell? ⟨gb615, 3, none⟩ = some (.string ((rd_T42 l0 x5_1).f3))) ∧ (Kd.R (Kd.int .u8) 5 w' w.heap.size (fun _ => True) s_ y624) ∧ (w'.heap[gb615]? = some (.cells #[.int .i64 ((rd_T42 l0 x5_1).f0), .int .i64 ((rd_T42 l0 x5_1).f1), .int .i64 ((rd_T42 l0 x5_1).f2), .string ((rd_T42 l0 x5_1).f3)] 42 (0, 0))) ∧ (Below w.heap.size w w')) ?_ ?_
                                              rotate_left
                                              · intro hJ12
                                                refine two_ (i := 4) (j := 12) (Ni := some 53) (Nj := some 61) #[true, true, true, true, true, false, true, false, false, true, true, true, false, false, false, false] #[true, true, true, true, false, false, true, false, false, true, true, true, true, false, false, false] rfl rfl rfl rfl (two_of HT_.out (by kernel_rfl)) (by decide) (by decide) (fun K hK => ?_) (fun K hK => ?_)
                                                · skip
                                                  refine goes_ Try.func22 (by kernel_rfl) rfl #[.int .i64 (wrap64 (t620 + 1152921504606846976)), .int .i64 8] (by rfl) rfl rfl (by (try simp only [List.map_toArray, List.map_cons, List.map_nil]); first | done | rfl | (simp only [List.length_drop, List.length_take]; rfl)) ?_
                                                  with_reducible refine (spec_l01Bytes.calls kj22 (wrap64 (t620 + 1152921504606846976)) 8 t622 _ A32.out).mono ?_
                                                  rintro e w40 ⟨rfl, hb⟩
                                                  refine ⟨_, rfl, ?_⟩
                                                  have n0_ := Aside0.mk (blk_below (g := gb615) (o := .cells #[.int .i64 ((rd_T42 l0 x5_1).f0), .int .i64 ((rd_T42 l0 x5_1).f1), .int .i64 ((rd_T42 l0 x5_1).f2), .string ((rd_T42 l0 x5_1).f3)] 42 (0, 0)) (by (with_reducible repeat (first | refine blk_drewN ?_ _ | refine blk_drew ?_ | refine blk_alloc ?_ _)); exact BK615.out) hb)
                                                  have n1_ := Aside0.mk (below_step (by repeat (first | (with_reducible first | exact HB.out | apply below_alloc | apply pw_below_drewN | apply below_drew1 | refine below_set ?_ GE615.out) | exact HB.out)) hb)
                                                  clear BK615
                                                  clear HB
                                                  have BK615 := n0_
                                                  have HB := n1_
                                                  clear n0_ n1_
                                                  (try clear hb)
                                                  (try clear hb2)
                                                  (try clear hk)
                                                  (try clear hi)
                                                  refine hK.out _ _ ⟨(blk_cell BK615.out 0).trans rfl, (blk_cell BK615.out 1).trans rfl, (blk_cell BK615.out 2).trans rfl, (blk_cell BK615.out 3).trans rfl⟩ (fun hHeld => ?_)
                                                  clear hK K
                                                  refine norm_ (a' := ?_) ?_ ?_
                                                  rotate_left
                                                  · show Act.put _ (some 53) _ = _
                                                    simp only [Act.put, List.setIfInBounds_toArray, List.set_cons_zero, List.set_cons_succ, i64_w, i32_w]
                                                    rfl
                                                  refine pure_ (i := 5) (N := some 54) (v := ?_) (a' := ?_) #[true, true, true, true, true, true, true, false, false, true, true, true, false, false, false, false] rfl rfl (any_of HT_.out (by kernel_rfl)) (fun _ _ _ h => h) (Or.inl ⟨by rfl, ?_⟩) ?_ ?_
                                                  rotate_left
                                                  · intro w'
                                                    go_simp
                                                    with_reducible rfl
                                                  rotate_left
                                                  · simp only [Act.put, List.setIfInBounds_toArray, List.set_cons_zero, List.set_cons_succ, i64_w, i32_w]
                                                    rfl
                                                  exact norm_ (by first | (simp only [putAll, Act.put, List.setIfInBounds_toArray, List.set_cons_zero, List.set_cons_succ]; done) | (simp only [putAll, Act.put, List.setIfInBounds_toArray, List.set_cons_zero, List.set_cons_succ]; rfl)) (hJ4 () _ ⟨hHeld, (by (with_reducible repeat (first | refine blk_drewN ?_ _ | refine blk_drew ?_ | refine blk_alloc ?_ _)); exact BK615.out), (by repeat (first | (with_reducible first | exact HB.out | apply below_alloc | apply pw_below_drewN | apply below_drew1 | refine below_set ?_ GE615.out) | exact HB.out))⟩)
                                                · skip
                                                  refine Kd.R_lit_step (Kd.int .u8) _ 5 ?hg (N := 61) ?hd (xs := ([(((rd_T42 l0 x5_1).f0)) % 256] : List Int)) (inner := [.int .u8 ((((rd_T42 l0 x5_1).f0)) % 256)]) (ok := fun _ => True) (okp := fun _ => True) ?hr ?hp (fun _ hk => hk) trivial (Below.refl _ _) (Nat.le_refl _) (by simp) ?_; (case hd => rfl); (case hg => rfl); (case hr => first | (go_simp; done) | (go_simp; rfl)); (case hp => exact (Reps.one (show Kd.M (Kd.int .u8) _ _ _ ((((rd_T42 l0 x5_1).f0)) % 256) [.int .u8 ((((rd_T42 l0 x5_1).f0)) % 256)] from rfl) (Reps.none _ _)))
                                                  intro v625 w40 ho41 hb hg_ hnew_
                                                  clear hg_ hnew_
                                                  (first | rw [← Ny624.out] at ho41 | (simp only [Int.reduceToNat] at ho41; rw [← Ny624.out] at ho41))
                                                  have n0_ := Aside0.mk (Kd.R_lower ho41 (below_size (by repeat (first | (with_reducible first | exact HB.out | apply below_alloc | apply pw_below_drewN | apply below_drew1 | refine below_set ?_ GE615.out) | exact HB.out))))
                                                  have n1_ := Aside0.mk (blk_below (g := gb615) (o := .cells #[.int .i64 ((rd_T42 l0 x5_1).f0), .int .i64 ((rd_T42 l0 x5_1).f1), .int .i64 ((rd_T42 l0 x5_1).f2), .string ((rd_T42 l0 x5_1).f3)] 42 (0, 0)) (by (with_reducible repeat (first | refine blk_drewN ?_ _ | refine blk_drew ?_ | refine blk_alloc ?_ _)); exact BK615.out) hb)
                                                  have n2_ := Aside0.mk (below_step (by repeat (first | (with_reducible first | exact HB.out | apply below_alloc | apply pw_below_drewN | apply below_drew1 | refine below_set ?_ GE615.out) | exact HB.out)) hb)
                                                  clear BK615
                                                  clear HB
                                                  have HO626 := n0_
                                                  have BK615 := n1_
                                                  have HB := n2_
                                                  clear n0_ n1_ n2_
                                                  clear hb ho41
                                                  refine hK.out _ _ ⟨(blk_cell BK615.out 0).trans rfl, (blk_cell BK615.out 1).trans rfl, (blk_cell BK615.out 2).trans rfl, (blk_cell BK615.out 3).trans rfl⟩ (fun hHeld => ?_)
                                                  clear hK K
                                                  refine norm_ (a' := ?_) ?_ ?_
                                                  rotate_left
                                                  · show Act.put _ (some 61) _ = _
                                                    simp only [Act.put, List.setIfInBounds_toArray, List.set_cons_zero, List.set_cons_succ, i64_w, i32_w]
                                                    rfl
                                                  exact norm_ (by first | (simp only [putAll, Act.put, List.setIfInBounds_toArray, List.set_cons_zero, List.set_cons_succ]; done) | (simp only [putAll, Act.put, List.setIfInBounds_toArray, List.set_cons_zero, List.set_cons_succ]; rfl)) (hJ12 (v625) _ ⟨hHeld, (by (with_reducible repeat (first | apply Kd.R_alloc | apply Kd.R_drewN | apply Kd.R_drew)); exact HO626.out), (by (with_reducible repeat (first | refine blk_drewN ?_ _ | refine blk_drew ?_ | refine blk_alloc ?_ _)); exact BK615.out), (by repeat (first | (with_reducible first | exact HB.out | apply below_alloc | apply pw_below_drewN | apply below_drew1 | refine below_set ?_ GE615.out) | exact HB.out))⟩)
                                              · skip
                                                rintro v625 w42 ⟨hS_, h0_, h1_, h2_⟩
                                                have n0_ : Aside0 (Kd.R (Kd.int .u8) 5 w42 w.heap.size (fun _ => True) v625 y624) := ⟨h0_⟩
                                                have n1_ : Aside0 (w42.heap[gb615]? = some (.cells #[.int .i64 ((rd_T42 l0 x5_1).f0), .int .i64 ((rd_T42 l0 x5_1).f1), .int .i64 ((rd_T42 l0 x5_1).f2), .string ((rd_T42 l0 x5_1).f3)] 42 (0, 0))) := ⟨h1_⟩
                                                have n2_ : Aside0 (Below w.heap.size w w42) := ⟨h2_⟩
                                                clear BK615
                                                clear HB
                                                clear h0_ h1_ h2_
                                                have HO626 := n0_
                                                have BK615 := n1_
                                                have HB := n2_
                                                clear n0_ n1_ n2_
                                                have hHeld : w42.cell? ⟨gb615, 0, none⟩ = some (.int .i64 ((rd_T42 l0 x5_1).f0)) ∧ w42.cell? ⟨gb615, 1, none⟩ = some (.int .i64 ((rd_T42 l0 x5_1).f1)) ∧ w42.cell? ⟨gb615, 2, none⟩ = some (.int .i64 ((rd_T42 l0 x5_1).f2)) ∧ w42.cell? ⟨gb615, 3, none⟩ = some (.string ((rd_T42 l0 x5_1).f3)) := hS_
                                                refine norm_ (a' := ?_) ?_ ?_
                                                rotate_left
                                                · simp only [putAll, Act.put, List.setIfInBounds_toArray, List.set_cons_zero, List.set_cons_succ]
                                                  rfl
                                                refine two_ (i := 4) (j := 13) (Ni := some 53) (Nj := some 62) #[true, true, true, true, true, false, true, false, false, true, true, true, true, false, false, false] #[true, true, true, true, false, false, true, false, false, true, true, true, true, true, false, false] rfl rfl rfl rfl (two_of HT_.out (by kernel_rfl)) (by decide) (by decide) (fun K hK => ?_) (fun K hK => ?_)
                                                · skip
                                                  refine goes_ Try.func22 (by kernel_rfl) rfl #[.int .i64 (wrap64 (t620 + 1152921504606846976)), .int .i64 8] (by rfl) rfl rfl (by (try simp only [List.map_toArray, List.map_cons, List.map_nil]); first | done | rfl | (simp only [List.length_drop, List.length_take]; rfl)) ?_
                                                  with_reducible refine (spec_l01Bytes.calls kj22 (wrap64 (t620 + 1152921504606846976)) 8 t622 _ A32.out).mono ?_
                                                  rintro e w43 ⟨rfl, hb⟩
                                                  refine ⟨_, rfl, ?_⟩
                                                  have n0_ := Aside0.mk (Kd.R_below (by (with_reducible repeat (first | apply Kd.R_alloc | apply Kd.R_drewN | apply Kd.R_drew)); exact HO626.out) hb)
                                                  have n1_ := Aside0.mk (blk_below (g := gb615) (o := .cells #[.int .i64 ((rd_T42 l0 x5_1).f0), .int .i64 ((rd_T42 l0 x5_1).f1), .int .i64 ((rd_T42 l0 x5_1).f2), .string ((rd_T42 l0 x5_1).f3)] 42 (0, 0)) (by (with_reducible repeat (first | refine blk_drewN ?_ _ | refine blk_drew ?_ | refine blk_alloc ?_ _)); exact BK615.out) hb)
                                                  have n2_ := Aside0.mk (below_step (by repeat (first | (with_reducible first | exact HB.out | apply below_alloc | apply pw_below_drewN | apply below_drew1 | refine below_set ?_ GE615.out) | exact HB.out)) hb)
                                                  clear HO626
                                                  clear BK615
                                                  clear HB
                                                  have HO626 := n0_
                                                  have BK615 := n1_
                                                  have HB := n2_
                                                  clear n0_ n1_ n2_
                                                  (try clear hb)
                                                  (try clear hb2)
                                                  (try clear hk)
                                                  (try clear hi)
                                                  refine hK.out _ _ ⟨(blk_cell BK615.out 0).trans rfl, (blk_cell BK615.out 1).trans rfl, (blk_cell BK615.out 2).trans rfl, (blk_cell BK615.out 3).trans rfl⟩ (fun hHeld => ?_)
                                                  clear hK K
                                                  refine norm_ (a' := ?_) ?_ ?_
                                                  rotate_left
                                                  · show Act.put _ (some 53) _ = _
                                                    simp only [Act.put, List.setIfInBounds_toArray, List.set_cons_zero, List.set_cons_succ, i64_w, i32_w]
                                                    rfl
                                                  refine pure_ (i := 5) (N := some 54) (v := ?_) (a' := ?_) #[true, true, true, true, true, true, true, false, false, true, true, true, true, false, false, false] rfl rfl (any_of HT_.out (by kernel_rfl)) (fun _ _ _ h => h) (Or.inl ⟨by rfl, ?_⟩) ?_ ?_
                                                  rotate_left
                                                  · intro w'
                                                    go_simp
                                                    with_reducible rfl
                                                  rotate_left
                                                  · simp only [Act.put, List.setIfInBounds_toArray, List.set_cons_zero, List.set_cons_succ, i64_w, i32_w]
                                                    rfl
                                                  exact norm_ (by first | (simp only [putAll, Act.put, List.setIfInBounds_toArray, List.set_cons_zero, List.set_cons_succ]; done) | (simp only [putAll, Act.put, List.setIfInBounds_toArray, List.set_cons_zero, List.set_cons_succ]; rfl)) (hJ4_12 (v625) _ ⟨hHeld, (by (with_reducible repeat (first | apply Kd.R_alloc | apply Kd.R_drewN | apply Kd.R_drew)); exact HO626.out), (by (with_reducible repeat (first | refine blk_drewN ?_ _ | refine blk_drew ?_ | refine blk_alloc ?_ _)); exact BK615.out), (by repeat (first | (with_reducible first | exact HB.out | apply below_alloc | apply pw_below_drewN | apply below_drew1 | refine below_set ?_ GE615.out) | exact HB.out))⟩)
                                                · skip
                                                  have hcv43 := own_string (P := Try.prog) Try.underlying34 Try.underlying5 Try.underlying9 (Kd.own_of_R HO626.out)
                                                  refine value_ (w1 := ?_) (v := ?_) (by rfl) rfl ?_ ?_
                                                  rotate_left 2
                                                  · go_simp
                                                    constructor
                                                    · rfl
                                                    · rfl
                                                  clear hcv43
                                                  refine hK.out _ _ ⟨(blk_cell BK615.out 0).trans rfl, (blk_cell BK615.out 1).trans rfl, (blk_cell BK615.out 2).trans rfl, (blk_cell BK615.out 3).trans rfl⟩ (fun hHeld => ?_)
                                                  clear hK K
                                                  refine norm_ (a' := ?_) ?_ ?_
                                                  rotate_left
                                                  · show Act.put _ (some 62) _ = _
                                                    simp only [Act.put, List.setIfInBounds_toArray, List.set_cons_zero, List.set_cons_succ, i64_w, i32_w]
                                                    rfl
                                                  exact norm_ (by first | (simp only [putAll, Act.put, List.setIfInBounds_toArray, List.set_cons_zero, List.set_cons_succ]; done) | (simp only [putAll, Act.put, List.setIfInBounds_toArray, List.set_cons_zero, List.set_cons_succ]; rfl)) (hJ12_13 (v625) _ ⟨hHeld, (by (with_reducible repeat (first | apply Kd.R_alloc | apply Kd.R_drewN | apply Kd.R_drew)); exact HO626.out), (by (with_reducible repeat (first | refine blk_drewN ?_ _ | refine blk_drew ?_ | refine blk_alloc ?_ _)); exact BK615.out), (by repeat (first | (with_reducible first | exact HB.out | apply below_alloc | apply pw_below_drewN | apply below_drew1 | refine below_set ?_ GE615.out) | exact HB.out))⟩)
                                            · skip
                                              rintro _ w41 ⟨hS_, h0_, h1_⟩
                                              have n0_ : Aside0 (w41.heap[gb615]? = some (.cells #[.int .i64 ((rd_T42 l0 x5_1).f0), .int .i64 ((rd_T42 l0 x5_1).f1), .int .i64 ((rd_T42 l0 x5_1).f2), .string ((rd_T42 l0 x5_1).f3)] 42 (0, 0))) := ⟨h0_⟩
                                              have n1_ : Aside0 (Below w.heap.size w w41) := ⟨h1_⟩
                                              clear BK615
                                              clear HB
                                              clear h0_ h1_
                                              have BK615 := n0_
                                              have HB := n1_
                                              clear n0_ n1_
                                              have hHeld : w41.cell? ⟨gb615, 0, none⟩ = some (.int .i64 ((rd_T42 l0 x5_1).f0)) ∧ w41.cell? ⟨gb615, 1, none⟩ = some (.int .i64 ((rd_T42 l0 x5_1).f1)) ∧ w41.cell? ⟨gb615, 2, none⟩ = some (.int .i64 ((rd_T42 l0 x5_1).f2)) ∧ w41.cell? ⟨gb615, 3, none⟩ = some (.string ((rd_T42 l0 x5_1).f3)) := hS_
                                              refine norm_ (a' := ?_) ?_ ?_
                                              rotate_left
                                              · simp only [putAll, Act.put, List.setIfInBounds_toArray, List.set_cons_zero, List.set_cons_succ]
                                                rfl
                                              refine two_ (i := 7) (j := 12) (Ni := some 56) (Nj := some 61) #[true, true, true, true, true, true, true, true, false, true, true, true, false, false, false, false] #[true, true, true, true, true, true, true, false, false, true, true, true, true, false, false, false] rfl rfl rfl rfl (two_of HT_.out (by kernel_rfl)) (by decide) (by decide) (fun K hK => ?_) (fun K hK => ?_)
                                              · skip
                                                refine goes_ Try.func22 (by kernel_rfl) rfl #[.int .i64 t621, .int .i64 3] (by rfl) rfl rfl (by (try simp only [List.map_toArray, List.map_cons, List.map_nil]); first | done | rfl | (simp only [List.length_drop, List.length_take]; rfl)) ?_
                                                with_reducible refine (spec_l01Bytes.calls kj22 t621 3 t623 _ A34.out).mono ?_
                                                rintro e w42 ⟨rfl, hb⟩
                                                refine ⟨_, rfl, ?_⟩
                                                have n0_ := Aside0.mk (blk_below (g := gb615) (o := .cells #[.int .i64 ((rd_T42 l0 x5_1).f0), .int .i64 ((rd_T42 l0 x5_1).f1), .int .i64 ((rd_T42 l0 x5_1).f2), .string ((rd_T42 l0 x5_1).f3)] 42 (0, 0)) (by (with_reducible repeat (first | refine blk_drewN ?_ _ | refine blk_drew ?_ | refine blk_alloc ?_ _)); exact BK615.out) hb)
                                                have n1_ := Aside0.mk (below_step (by repeat (first | (with_reducible first | exact HB.out | apply below_alloc | apply pw_below_drewN | apply below_drew1 | refine below_set ?_ GE615.out) | exact HB.out)) hb)
                                                clear BK615
                                                clear HB
                                                have BK615 := n0_
                                                have HB := n1_
                                                clear n0_ n1_
                                                (try clear hb)
                                                (try clear hb2)
                                                (try clear hk)
                                                (try clear hi)
                                                refine hK.out _ _ ⟨(blk_cell BK615.out 0).trans rfl, (blk_cell BK615.out 1).trans rfl, (blk_cell BK615.out 2).trans rfl, (blk_cell BK615.out 3).trans rfl⟩ (fun hHeld => ?_)
                                                clear hK K
                                                refine norm_ (a' := ?_) ?_ ?_
                                                rotate_left
                                                · show Act.put _ (some 56) _ = _
                                                  simp only [Act.put, List.setIfInBounds_toArray, List.set_cons_zero, List.set_cons_succ, i64_w, i32_w]
                                                  rfl
                                                refine pure_ (i := 8) (N := some 57) (v := ?_) (a' := ?_) #[true, true, true, true, true, true, true, true, true, true, true, true, false, false, false, false] rfl rfl (any_of HT_.out (by kernel_rfl)) (fun _ _ _ h => h) (Or.inl ⟨by rfl, ?_⟩) ?_ ?_
                                                rotate_left
                                                · intro w'
                                                  go_simp
                                                  with_reducible rfl
                                                rotate_left
                                                · simp only [Act.put, List.setIfInBounds_toArray, List.set_cons_zero, List.set_cons_succ, i64_w, i32_w]
                                                  rfl
                                                exact norm_ (by first | (simp only [putAll, Act.put, List.setIfInBounds_toArray, List.set_cons_zero, List.set_cons_succ]; done) | (simp only [putAll, Act.put, List.setIfInBounds_toArray, List.set_cons_zero, List.set_cons_succ]; rfl)) (hJ4_7 () _ ⟨hHeld, (by (with_reducible repeat (first | refine blk_drewN ?_ _ | refine blk_drew ?_ | refine blk_alloc ?_ _)); exact BK615.out), (by repeat (first | (with_reducible first | exact HB.out | apply below_alloc | apply pw_below_drewN | apply below_drew1 | refine below_set ?_ GE615.out) | exact HB.out))⟩)
                                              · skip
                                                refine Kd.R_lit_step (Kd.int .u8) _ 5 ?hg (N := 61) ?hd (xs := ([(((rd_T42 l0 x5_1).f0)) % 256] : List Int)) (inner := [.int .u8 ((((rd_T42 l0 x5_1).f0)) % 256)]) (ok := fun _ => True) (okp := fun _ => True) ?hr ?hp (fun _ hk => hk) trivial (Below.refl _ _) (Nat.le_refl _) (by simp) ?_; (case hd => rfl); (case hg => rfl); (case hr => first | (go_simp; done) | (go_simp; rfl)); (case hp => exact (Reps.one (show Kd.M (Kd.int .u8) _ _ _ ((((rd_T42 l0 x5_1).f0)) % 256) [.int .u8 ((((rd_T42 l0 x5_1).f0)) % 256)] from rfl) (Reps.none _ _)))
                                                intro v625 w42 ho43 hb hg_ hnew_
                                                clear hg_ hnew_
                                                (first | rw [← Ny624.out] at ho43 | (simp only [Int.reduceToNat] at ho43; rw [← Ny624.out] at ho43))
                                                have n0_ := Aside0.mk (Kd.R_lower ho43 (below_size (by repeat (first | (with_reducible first | exact HB.out | apply below_alloc | apply pw_below_drewN | apply below_drew1 | refine below_set ?_ GE615.out) | exact HB.out))))
                                                have n1_ := Aside0.mk (blk_below (g := gb615) (o := .cells #[.int .i64 ((rd_T42 l0 x5_1).f0), .int .i64 ((rd_T42 l0 x5_1).f1), .int .i64 ((rd_T42 l0 x5_1).f2), .string ((rd_T42 l0 x5_1).f3)] 42 (0, 0)) (by (with_reducible repeat (first | refine blk_drewN ?_ _ | refine blk_drew ?_ | refine blk_alloc ?_ _)); exact BK615.out) hb)
                                                have n2_ := Aside0.mk (below_step (by repeat (first | (with_reducible first | exact HB.out | apply below_alloc | apply pw_below_drewN | apply below_drew1 | refine below_set ?_ GE615.out) | exact HB.out)) hb)
                                                clear BK615
                                                clear HB
                                                have HO626 := n0_
                                                have BK615 := n1_
                                                have HB := n2_
                                                clear n0_ n1_ n2_
                                                clear hb ho43
                                                refine hK.out _ _ ⟨(blk_cell BK615.out 0).trans rfl, (blk_cell BK615.out 1).trans rfl, (blk_cell BK615.out 2).trans rfl, (blk_cell BK615.out 3).trans rfl⟩ (fun hHeld => ?_)
                                                clear hK K
                                                refine norm_ (a' := ?_) ?_ ?_
                                                rotate_left
                                                · show Act.put _ (some 61) _ = _
                                                  simp only [Act.put, List.setIfInBounds_toArray, List.set_cons_zero, List.set_cons_succ, i64_w, i32_w]
                                                  rfl
                                                exact norm_ (by first | (simp only [putAll, Act.put, List.setIfInBounds_toArray, List.set_cons_zero, List.set_cons_succ]; done) | (simp only [putAll, Act.put, List.setIfInBounds_toArray, List.set_cons_zero, List.set_cons_succ]; rfl)) (hJ4_12 (v625) _ ⟨hHeld, (by (with_reducible repeat (first | apply Kd.R_alloc | apply Kd.R_drewN | apply Kd.R_drew)); exact HO626.out), (by (with_reducible repeat (first | refine blk_drewN ?_ _ | refine blk_drew ?_ | refine blk_alloc ?_ _)); exact BK615.out), (by repeat (first | (with_reducible first | exact HB.out | apply below_alloc | apply pw_below_drewN | apply below_drew1 | refine below_set ?_ GE615.out) | exact HB.out))⟩)
                                          · skip
                                            rintro v625 w43 ⟨hS_, h0_, h1_, h2_⟩
                                            have n0_ : Aside0 (Kd.R (Kd.int .u8) 5 w43 w.heap.size (fun _ => True) v625 y624) := ⟨h0_⟩
                                            have n1_ : Aside0 (w43.heap[gb615]? = some (.cells #[.int .i64 ((rd_T42 l0 x5_1).f0), .int .i64 ((rd_T42 l0 x5_1).f1), .int .i64 ((rd_T42 l0 x5_1).f2), .string ((rd_T42 l0 x5_1).f3)] 42 (0, 0))) := ⟨h1_⟩
                                            have n2_ : Aside0 (Below w.heap.size w w43) := ⟨h2_⟩
                                            clear BK615
                                            clear HB
                                            clear h0_ h1_ h2_
                                            have HO626 := n0_
                                            have BK615 := n1_
                                            have HB := n2_
                                            clear n0_ n1_ n2_
                                            have hHeld : w43.cell? ⟨gb615, 0, none⟩ = some (.int .i64 ((rd_T42 l0 x5_1).f0)) ∧ w43.cell? ⟨gb615, 1, none⟩ = some (.int .i64 ((rd_T42 l0 x5_1).f1)) ∧ w43.cell? ⟨gb615, 2, none⟩ = some (.int .i64 ((rd_T42 l0 x5_1).f2)) ∧ w43.cell? ⟨gb615, 3, none⟩ = some (.string ((rd_T42 l0 x5_1).f3)) := hS_
                                            refine norm_ (a' := ?_) ?_ ?_
                                            rotate_left
                                            · simp only [putAll, Act.put, List.setIfInBounds_toArray, List.set_cons_zero, List.set_cons_succ]
                                              rfl
                                            refine one_ (i := 4) (N := some 53) #[true, true, true, true, true, false, true, false, false, true, true, true, true, true, false, false] rfl rfl (one_of HT_.out (by kernel_rfl)) (by decide) (fun K hK => ?_)
                                            refine goes_ Try.func22 (by kernel_rfl) rfl #[.int .i64 (wrap64 (t620 + 1152921504606846976)), .int .i64 8] (by rfl) rfl rfl (by (try simp only [List.map_toArray, List.map_cons, List.map_nil]); first | done | rfl | (simp only [List.length_drop, List.length_take]; rfl)) ?_
                                            with_reducible refine (spec_l01Bytes.calls kj22 (wrap64 (t620 + 1152921504606846976)) 8 t622 _ A32.out).mono ?_
                                            rintro e w44 ⟨rfl, hb⟩
                                            refine ⟨_, rfl, ?_⟩
                                            have n0_ := Aside0.mk (Kd.R_below (by (with_reducible repeat (first | apply Kd.R_alloc | apply Kd.R_drewN | apply Kd.R_drew)); exact HO626.out) hb)
                                            have n1_ := Aside0.mk (blk_below (g := gb615) (o := .cells #[.int .i64 ((rd_T42 l0 x5_1).f0), .int .i64 ((rd_T42 l0 x5_1).f1), .int .i64 ((rd_T42 l0 x5_1).f2), .string ((rd_T42 l0 x5_1).f3)] 42 (0, 0)) (by (with_reducible repeat (first | refine blk_drewN ?_ _ | refine blk_drew ?_ | refine blk_alloc ?_ _)); exact BK615.out) hb)
                                            have n2_ := Aside0.mk (below_step (by repeat (first | (with_reducible first | exact HB.out | apply below_alloc | apply pw_below_drewN | apply below_drew1 | refine below_set ?_ GE615.out) | exact HB.out)) hb)
                                            clear HO626
                                            clear BK615
                                            clear HB
                                            have HO626 := n0_
                                            have BK615 := n1_
                                            have HB := n2_
                                            clear n0_ n1_ n2_
                                            (try clear hb)
                                            (try clear hb2)
                                            (try clear hk)
                                            (try clear hi)
                                            refine hK.out _ _ ⟨(blk_cell BK615.out 0).trans rfl, (blk_cell BK615.out 1).trans rfl, (blk_cell BK615.out 2).trans rfl, (blk_cell BK615.out 3).trans rfl⟩ (fun hHeld => ?_)
                                            clear hK K
                                            refine norm_ (a' := ?_) ?_ ?_
                                            rotate_left
                                            · show Act.put _ (some 53) _ = _
                                              simp only [Act.put, List.setIfInBounds_toArray, List.set_cons_zero, List.set_cons_succ, i64_w, i32_w]
                                              rfl
                                            refine pure_ (i := 5) (N := some 54) (v := ?_) (a' := ?_) #[true, true, true, true, true, true, true, false, false, true, true, true, true, true, false, false] rfl rfl (any_of HT_.out (by kernel_rfl)) (fun _ _ _ h => h) (Or.inl ⟨by rfl, ?_⟩) ?_ ?_
                                            rotate_left
                                            · intro w'
                                              go_simp
                                              with_reducible rfl
                                            rotate_left
                                            · simp only [Act.put, List.setIfInBounds_toArray, List.set_cons_zero, List.set_cons_succ, i64_w, i32_w]
                                              rfl
                                            exact norm_ (by first | (simp only [putAll, Act.put, List.setIfInBounds_toArray, List.set_cons_zero, List.set_cons_succ]; done) | (simp only [putAll, Act.put, List.setIfInBounds_toArray, List.set_cons_zero, List.set_cons_succ]; rfl)) (hJ4_12_13 (v625) _ ⟨hHeld, (by (with_reducible repeat (first | apply Kd.R_alloc | apply Kd.R_drewN | apply Kd.R_drew)); exact HO626.out), (by (with_reducible repeat (first | refine blk_drewN ?_ _ | refine blk_drew ?_ | refine blk_alloc ?_ _)); exact BK615.out), (by repeat (first | (with_reducible first | exact HB.out | apply below_alloc | apply pw_below_drewN | apply below_drew1 | refine below_set ?_ GE615.out) | exact HB.out))⟩)
                                        · skip
                                          rintro v625 w43 ⟨hS_, h0_, h1_, h2_⟩
                                          have n0_ : Aside0 (Kd.R (Kd.int .u8) 5 w43 w.heap.size (fun _ => True) v625 y624) := ⟨h0_⟩
                                          have n1_ : Aside0 (w43.heap[gb615]? = some (.cells #[.int .i64 ((rd_T42 l0 x5_1).f0), .int .i64 ((rd_T42 l0 x5_1).f1), .int .i64 ((rd_T42 l0 x5_1).f2), .string ((rd_T42 l0 x5_1).f3)] 42 (0, 0))) := ⟨h1_⟩
                                          have n2_ : Aside0 (Below w.heap.size w w43) := ⟨h2_⟩
                                          clear BK615
                                          clear HB
                                          clear h0_ h1_ h2_
                                          have HO626 := n0_
                                          have BK615 := n1_
                                          have HB := n2_
                                          clear n0_ n1_ n2_
                                          have hHeld : w43.cell? ⟨gb615, 0, none⟩ = some (.int .i64 ((rd_T42 l0 x5_1).f0)) ∧ w43.cell? ⟨gb615, 1, none⟩ = some (.int .i64 ((rd_T42 l0 x5_1).f1)) ∧ w43.cell? ⟨gb615, 2, none⟩ = some (.int .i64 ((rd_T42 l0 x5_1).f2)) ∧ w43.cell? ⟨gb615, 3, none⟩ = some (.string ((rd_T42 l0 x5_1).f3)) := hS_
                                          refine norm_ (a' := ?_) ?_ ?_
                                          rotate_left
                                          · simp only [putAll, Act.put, List.setIfInBounds_toArray, List.set_cons_zero, List.set_cons_succ]
                                            rfl
                                          refine two_ (i := 7) (j := 13) (Ni := some 56) (Nj := some 62) #[true, true, true, true, true, true, true, true, false, true, true, true, true, false, false, false] #[true, true, true, true, true, true, true, false, false, true, true, true, true, true, false, false] rfl rfl rfl rfl (two_of HT_.out (by kernel_rfl)) (by decide) (by decide) (fun K hK => ?_) (fun K hK => ?_)
                                          · skip
                                            refine goes_ Try.func22 (by kernel_rfl) rfl #[.int .i64 t621, .int .i64 3] (by rfl) rfl rfl (by (try simp only [List.map_toArray, List.map_cons, List.map_nil]); first | done | rfl | (simp only [List.length_drop, List.length_take]; rfl)) ?_
                                            with_reducible refine (spec_l01Bytes.calls kj22 t621 3 t623 _ A34.out).mono ?_
                                            rintro e w44 ⟨rfl, hb⟩
                                            refine ⟨_, rfl, ?_⟩
                                            have n0_ := Aside0.mk (Kd.R_below (by (with_reducible repeat (first | apply Kd.R_alloc | apply Kd.R_drewN | apply Kd.R_drew)); exact HO626.out) hb)
                                            have n1_ := Aside0.mk (blk_below (g := gb615) (o := .cells #[.int .i64 ((rd_T42 l0 x5_1).f0), .int .i64 ((rd_T42 l0 x5_1).f1), .int .i64 ((rd_T42 l0 x5_1).f2), .string ((rd_T42 l0 x5_1).f3)] 42 (0, 0)) (by (with_reducible repeat (first | refine blk_drewN ?_ _ | refine blk_drew ?_ | refine blk_alloc ?_ _)); exact BK615.out) hb)
                                            have n2_ := Aside0.mk (below_step (by repeat (first | (with_reducible first | exact HB.out | apply below_alloc | apply pw_below_drewN | apply below_drew1 | refine below_set ?_ GE615.out) | exact HB.out)) hb)
                                            clear HO626
                                            clear BK615
                                            clear HB
                                            have HO626 := n0_
                                            have BK615 := n1_
                                            have HB := n2_
                                            clear n0_ n1_ n2_
                                            (try clear hb)
                                            (try clear hb2)
                                            (try clear hk)
                                            (try clear hi)
                                            refine hK.out _ _ ⟨(blk_cell BK615.out 0).trans rfl, (blk_cell BK615.out 1).trans rfl, (blk_cell BK615.out 2).trans rfl, (blk_cell BK615.out 3).trans rfl⟩ (fun hHeld => ?_)
                                            clear hK K
                                            refine norm_ (a' := ?_) ?_ ?_
                                            rotate_left
                                            · show Act.put _ (some 56) _ = _
                                              simp only [Act.put, List.setIfInBounds_toArray, List.set_cons_zero, List.set_cons_succ, i64_w, i32_w]
                                              rfl
                                            refine pure_ (i := 8) (N := some 57) (v := ?_) (a' := ?_) #[true, true, true, true, true, true, true, true, true, true, true, true, true, false, false, false] rfl rfl (any_of HT_.out (by kernel_rfl)) (fun _ _ _ h => h) (Or.inl ⟨by rfl, ?_⟩) ?_ ?_
                                            rotate_left
                                            · intro w'
                                              go_simp
                                              with_reducible rfl
                                            rotate_left
                                            · simp only [Act.put, List.setIfInBounds_toArray, List.set_cons_zero, List.set_cons_succ, i64_w, i32_w]
                                              rfl
                                            exact norm_ (by first | (simp only [putAll, Act.put, List.setIfInBounds_toArray, List.set_cons_zero, List.set_cons_succ]; done) | (simp only [putAll, Act.put, List.setIfInBounds_toArray, List.set_cons_zero, List.set_cons_succ]; rfl)) (hJ4_7_12 (v625) _ ⟨hHeld, (by (with_reducible repeat (first | apply Kd.R_alloc | apply Kd.R_drewN | apply Kd.R_drew)); exact HO626.out), (by (with_reducible repeat (first | refine blk_drewN ?_ _ | refine blk_drew ?_ | refine blk_alloc ?_ _)); exact BK615.out), (by repeat (first | (with_reducible first | exact HB.out | apply below_alloc | apply pw_below_drewN | apply below_drew1 | refine below_set ?_ GE615.out) | exact HB.out))⟩)
                                          · skip
                                            have hcv44 := own_string (P := Try.prog) Try.underlying34 Try.underlying5 Try.underlying9 (Kd.own_of_R HO626.out)
                                            refine value_ (w1 := ?_) (v := ?_) (by rfl) rfl ?_ ?_
                                            rotate_left 2
                                            · go_simp
                                              constructor
                                              · rfl
                                              · rfl
                                            clear hcv44
                                            refine hK.out _ _ ⟨(blk_cell BK615.out 0).trans rfl, (blk_cell BK615.out 1).trans rfl, (blk_cell BK615.out 2).trans rfl, (blk_cell BK615.out 3).trans rfl⟩ (fun hHeld => ?_)
                                            clear hK K
                                            refine norm_ (a' := ?_) ?_ ?_
                                            rotate_left
                                            · show Act.put _ (some 62) _ = _
                                              simp only [Act.put, List.setIfInBounds_toArray, List.set_cons_zero, List.set_cons_succ, i64_w, i32_w]
                                              rfl
                                            exact norm_ (by first | (simp only [putAll, Act.put, List.setIfInBounds_toArray, List.set_cons_zero, List.set_cons_succ]; done) | (simp only [putAll, Act.put, List.setIfInBounds_toArray, List.set_cons_zero, List.set_cons_succ]; rfl)) (hJ4_12_13 (v625) _ ⟨hHeld, (by (with_reducible repeat (first | apply Kd.R_alloc | apply Kd.R_drewN | apply Kd.R_drew)); exact HO626.out), (by (with_reducible repeat (first | refine blk_drewN ?_ _ | refine blk_drew ?_ | refine blk_alloc ?_ _)); exact BK615.out), (by repeat (first | (with_reducible first | exact HB.out | apply below_alloc | apply pw_below_drewN | apply below_drew1 | refine below_set ?_ GE615.out) | exact HB.out))⟩)
                                      · skip
                                        rintro _ w42 ⟨hS_, h0_, h1_⟩
                                        have n0_ : Aside0 (w42.heap[gb615]? = some (.cells #[.int .i64 ((rd_T42 l0 x5_1).f0), .int .i64 ((rd_T42 l0 x5_1).f1), .int .i64 ((rd_T42 l0 x5_1).f2), .string ((rd_T42 l0 x5_1).f3)] 42 (0, 0))) := ⟨h0_⟩
                                        have n1_ : Aside0 (Below w.heap.size w w42) := ⟨h1_⟩
                                        clear BK615
                                        clear HB
                                        clear h0_ h1_
                                        have BK615 := n0_
                                        have HB := n1_
                                        clear n0_ n1_
                                        have hHeld : w42.cell? ⟨gb615, 0, none⟩ = some (.int .i64 ((rd_T42 l0 x5_1).f0)) ∧ w42.cell? ⟨gb615, 1, none⟩ = some (.int .i64 ((rd_T42 l0 x5_1).f1)) ∧ w42.cell? ⟨gb615, 2, none⟩ = some (.int .i64 ((rd_T42 l0 x5_1).f2)) ∧ w42.cell? ⟨gb615, 3, none⟩ = some (.string ((rd_T42 l0 x5_1).f3)) := hS_
                                        refine norm_ (a' := ?_) ?_ ?_
                                        rotate_left
                                        · simp only [putAll, Act.put, List.setIfInBounds_toArray, List.set_cons_zero, List.set_cons_succ]
                                          rfl
                                        refine one_ (i := 12) (N := some 61) #[true, true, true, true, true, true, true, true, true, true, true, true, true, false, false, false] rfl rfl (one_of HT_.out (by kernel_rfl)) (by decide) (fun K hK => ?_)
                                        refine Kd.R_lit_step (Kd.int .u8) _ 5 ?hg (N := 61) ?hd (xs := ([(((rd_T42 l0 x5_1).f0)) % 256] : List Int)) (inner := [.int .u8 ((((rd_T42 l0 x5_1).f0)) % 256)]) (ok := fun _ => True) (okp := fun _ => True) ?hr ?hp (fun _ hk => hk) trivial (Below.refl _ _) (Nat.le_refl _) (by simp) ?_; (case hd => rfl); (case hg => rfl); (case hr => first | (go_simp; done) | (go_simp; rfl)); (case hp => exact (Reps.one (show Kd.M (Kd.int .u8) _ _ _ ((((rd_T42 l0 x5_1).f0)) % 256) [.int .u8 ((((rd_T42 l0 x5_1).f0)) % 256)] from rfl) (Reps.none _ _)))
                                        intro v625 w43 ho44 hb hg_ hnew_
                                        clear hg_ hnew_
                                        (first | rw [← Ny624.out] at ho44 | (simp only [Int.reduceToNat] at ho44; rw [← Ny624.out] at ho44))
                                        have n0_ := Aside0.mk (Kd.R_lower ho44 (below_size (by repeat (first | (with_reducible first | exact HB.out | apply below_alloc | apply pw_below_drewN | apply below_drew1 | refine below_set ?_ GE615.out) | exact HB.out))))
                                        have n1_ := Aside0.mk (blk_below (g := gb615) (o := .cells #[.int .i64 ((rd_T42 l0 x5_1).f0), .int .i64 ((rd_T42 l0 x5_1).f1), .int .i64 ((rd_T42 l0 x5_1).f2), .string ((rd_T42 l0 x5_1).f3)] 42 (0, 0)) (by (with_reducible repeat (first | refine blk_drewN ?_ _ | refine blk_drew ?_ | refine blk_alloc ?_ _)); exact BK615.out) hb)
                                        have n2_ := Aside0.mk (below_step (by repeat (first | (with_reducible first | exact HB.out | apply below_alloc | apply pw_below_drewN | apply below_drew1 | refine below_set ?_ GE615.out) | exact HB.out)) hb)
                                        clear BK615
                                        clear HB
                                        have HO626 := n0_
                                        have BK615 := n1_
                                        have HB := n2_
                                        clear n0_ n1_ n2_
                                        clear hb ho44
                                        refine hK.out _ _ ⟨(blk_cell BK615.out 0).trans rfl, (blk_cell BK615.out 1).trans rfl, (blk_cell BK615.out 2).trans rfl, (blk_cell BK615.out 3).trans rfl⟩ (fun hHeld => ?_)
                                        clear hK K
                                        refine norm_ (a' := ?_) ?_ ?_
                                        rotate_left
                                        · show Act.put _ (some 61) _ = _
                                          simp only [Act.put, List.setIfInBounds_toArray, List.set_cons_zero, List.set_cons_succ, i64_w, i32_w]
                                          rfl
                                        exact norm_ (by first | (simp only [putAll, Act.put, List.setIfInBounds_toArray, List.set_cons_zero, List.set_cons_succ]; done) | (simp only [putAll, Act.put, List.setIfInBounds_toArray, List.set_cons_zero, List.set_cons_succ]; rfl)) (hJ4_7_12 (v625) _ ⟨hHeld, (by (with_reducible repeat (first | apply Kd.R_alloc | apply Kd.R_drewN | apply Kd.R_drew)); exact HO626.out), (by (with_reducible repeat (first | refine blk_drewN ?_ _ | refine blk_drew ?_ | refine blk_alloc ?_ _)); exact BK615.out), (by repeat (first | (with_reducible first | exact HB.out | apply below_alloc | apply pw_below_drewN | apply below_drew1 | refine below_set ?_ GE615.out) | exact HB.out))⟩)
                                    · skip
                                      rintro v625 w44 ⟨hS_, h0_, h1_, h2_⟩
                                      have n0_ : Aside0 (Kd.R (Kd.int .u8) 5 w44 w.heap.size (fun _ => True) v625 y624) := ⟨h0_⟩
                                      have n1_ : Aside0 (w44.heap[gb615]? = some (.cells #[.int .i64 ((rd_T42 l0 x5_1).f0), .int .i64 ((rd_T42 l0 x5_1).f1), .int .i64 ((rd_T42 l0 x5_1).f2), .string ((rd_T42 l0 x5_1).f3)] 42 (0, 0))) := ⟨h1_⟩
                                      have n2_ : Aside0 (Below w.heap.size w w44) := ⟨h2_⟩
                                      clear BK615
                                      clear HB
                                      clear h0_ h1_ h2_
                                      have HO626 := n0_
                                      have BK615 := n1_
                                      have HB := n2_
                                      clear n0_ n1_ n2_
                                      have hHeld : w44.cell? ⟨gb615, 0, none⟩ = some (.int .i64 ((rd_T42 l0 x5_1).f0)) ∧ w44.cell? ⟨gb615, 1, none⟩ = some (.int .i64 ((rd_T42 l0 x5_1).f1)) ∧ w44.cell? ⟨gb615, 2, none⟩ = some (.int .i64 ((rd_T42 l0 x5_1).f2)) ∧ w44.cell? ⟨gb615, 3, none⟩ = some (.string ((rd_T42 l0 x5_1).f3)) := hS_
                                      refine norm_ (a' := ?_) ?_ ?_
                                      rotate_left
                                      · simp only [putAll, Act.put, List.setIfInBounds_toArray, List.set_cons_zero, List.set_cons_succ]
                                        rfl
                                      refine one_ (i := 7) (N := some 56) #[true, true, true, true, true, true, true, true, false, true, true, true, true, true, false, false] rfl rfl (one_of HT_.out (by kernel_rfl)) (by decide) (fun K hK => ?_)
                                      refine goes_ Try.func22 (by kernel_rfl) rfl #[.int .i64 t621, .int .i64 3] (by rfl) rfl rfl (by (try simp only [List.map_toArray, List.map_cons, List.map_nil]); first | done | rfl | (simp only [List.length_drop, List.length_take]; rfl)) ?_
                                      with_reducible refine (spec_l01Bytes.calls kj22 t621 3 t623 _ A34.out).mono ?_
                                      rintro e w45 ⟨rfl, hb⟩
                                      refine ⟨_, rfl, ?_⟩
                                      have n0_ := Aside0.mk (Kd.R_below (by (with_reducible repeat (first | apply Kd.R_alloc | apply Kd.R_drewN | apply Kd.R_drew)); exact HO626.out) hb)
                                      have n1_ := Aside0.mk (blk_below (g := gb615) (o := .cells #[.int .i64 ((rd_T42 l0 x5_1).f0), .int .i64 ((rd_T42 l0 x5_1).f1), .int .i64 ((rd_T42 l0 x5_1).f2), .string ((rd_T42 l0 x5_1).f3)] 42 (0, 0)) (by (with_reducible repeat (first | refine blk_drewN ?_ _ | refine blk_drew ?_ | refine blk_alloc ?_ _)); exact BK615.out) hb)
                                      have n2_ := Aside0.mk (below_step (by repeat (first | (with_reducible first | exact HB.out | apply below_alloc | apply pw_below_drewN | apply below_drew1 | refine below_set ?_ GE615.out) | exact HB.out)) hb)
                                      clear HO626
                                      clear BK615
                                      clear HB
                                      have HO626 := n0_
                                      have BK615 := n1_
                                      have HB := n2_
                                      clear n0_ n1_ n2_
                                      (try clear hb)
                                      (try clear hb2)
                                      (try clear hk)
                                      (try clear hi)
                                      refine hK.out _ _ ⟨(blk_cell BK615.out 0).trans rfl, (blk_cell BK615.out 1).trans rfl, (blk_cell BK615.out 2).trans rfl, (blk_cell BK615.out 3).trans rfl⟩ (fun hHeld => ?_)
                                      clear hK K
                                      refine norm_ (a' := ?_) ?_ ?_
                                      rotate_left
                                      · show Act.put _ (some 56) _ = _
                                        simp only [Act.put, List.setIfInBounds_toArray, List.set_cons_zero, List.set_cons_succ, i64_w, i32_w]
                                        rfl
                                      refine pure_ (i := 8) (N := some 57) (v := ?_) (a' := ?_) #[true, true, true, true, true, true, true, true, true, true, true, true, true, true, false, false] rfl rfl (any_of HT_.out (by kernel_rfl)) (fun _ _ _ h => h) (Or.inl ⟨by rfl, ?_⟩) ?_ ?_
                                      rotate_left
                                      · intro w'
                                        go_simp
                                        with_reducible rfl
                                      rotate_left
                                      · simp only [Act.put, List.setIfInBounds_toArray, List.set_cons_zero, List.set_cons_succ, i64_w, i32_w]
                                        rfl
                                      exact norm_ (by first | (simp only [putAll, Act.put, List.setIfInBounds_toArray, List.set_cons_zero, List.set_cons_succ]; done) | (simp only [putAll, Act.put, List.setIfInBounds_toArray, List.set_cons_zero, List.set_cons_succ]; rfl)) (hJ4_7_12_13 (v625) _ ⟨hHeld, (by (with_reducible repeat (first | apply Kd.R_alloc | apply Kd.R_drewN | apply Kd.R_drew)); exact HO626.out), (by (with_reducible repeat (first | refine blk_drewN ?_ _ | refine blk_drew ?_ | refine blk_alloc ?_ _)); exact BK615.out), (by repeat (first | (with_reducible first | exact HB.out | apply below_alloc | apply pw_below_drewN | apply below_drew1 | refine below_set ?_ GE615.out) | exact HB.out))⟩)
                                  · skip
                                    rintro v625 w44 ⟨hS_, h0_, h1_, h2_⟩
                                    have n0_ : Aside0 (Kd.R (Kd.int .u8) 5 w44 w.heap.size (fun _ => True) v625 y624) := ⟨h0_⟩
                                    have n1_ : Aside0 (w44.heap[gb615]? = some (.cells #[.int .i64 ((rd_T42 l0 x5_1).f0), .int .i64 ((rd_T42 l0 x5_1).f1), .int .i64 ((rd_T42 l0 x5_1).f2), .string ((rd_T42 l0 x5_1).f3)] 42 (0, 0))) := ⟨h1_⟩
                                    have n2_ : Aside0 (Below w.heap.size w w44) := ⟨h2_⟩
                                    clear BK615
                                    clear HB
                                    clear h0_ h1_ h2_
                                    have HO626 := n0_
                                    have BK615 := n1_
                                    have HB := n2_
                                    clear n0_ n1_ n2_
                                    have hHeld : w44.cell? ⟨gb615, 0, none⟩ = some (.int .i64 ((rd_T42 l0 x5_1).f0)) ∧ w44.cell? ⟨gb615, 1, none⟩ = some (.int .i64 ((rd_T42 l0 x5_1).f1)) ∧ w44.cell? ⟨gb615, 2, none⟩ = some (.int .i64 ((rd_T42 l0 x5_1).f2)) ∧ w44.cell? ⟨gb615, 3, none⟩ = some (.string ((rd_T42 l0 x5_1).f3)) := hS_
                                    refine norm_ (a' := ?_) ?_ ?_
                                    rotate_left
                                    · simp only [putAll, Act.put, List.setIfInBounds_toArray, List.set_cons_zero, List.set_cons_succ]
                                      rfl
                                    refine one_ (i := 13) (N := some 62) #[true, true, true, true, true, true, true, true, true, true, true, true, true, true, false, false] rfl rfl (one_of HT_.out (by kernel_rfl)) (by decide) (fun K hK => ?_)
                                    have hcv45 := own_string (P := Try.prog) Try.underlying34 Try.underlying5 Try.underlying9 (Kd.own_of_R HO626.out)
                                    refine value_ (w1 := ?_) (v := ?_) (by rfl) rfl ?_ ?_
                                    rotate_left 2
                                    · go_simp
                                      constructor
                                      · rfl
                                      · rfl
                                    clear hcv45
                                    refine hK.out _ _ ⟨(blk_cell BK615.out 0).trans rfl, (blk_cell BK615.out 1).trans rfl, (blk_cell BK615.out 2).trans rfl, (blk_cell BK615.out 3).trans rfl⟩ (fun hHeld => ?_)
                                    clear hK K
                                    refine norm_ (a' := ?_) ?_ ?_
                                    rotate_left
                                    · show Act.put _ (some 62) _ = _
                                      simp only [Act.put, List.setIfInBounds_toArray, List.set_cons_zero, List.set_cons_succ, i64_w, i32_w]
                                      rfl
                                    exact norm_ (by first | (simp only [putAll, Act.put, List.setIfInBounds_toArray, List.set_cons_zero, List.set_cons_succ]; done) | (simp only [putAll, Act.put, List.setIfInBounds_toArray, List.set_cons_zero, List.set_cons_succ]; rfl)) (hJ4_7_12_13 (v625) _ ⟨hHeld, (by (with_reducible repeat (first | apply Kd.R_alloc | apply Kd.R_drewN | apply Kd.R_drew)); exact HO626.out), (by (with_reducible repeat (first | refine blk_drewN ?_ _ | refine blk_drew ?_ | refine blk_alloc ?_ _)); exact BK615.out), (by repeat (first | (with_reducible first | exact HB.out | apply below_alloc | apply pw_below_drewN | apply below_drew1 | refine below_set ?_ GE615.out) | exact HB.out))⟩)
                                rintro v625 w45 ⟨hS_, h0_, h1_, h2_⟩
                                have n0_ : Aside0 (Kd.R (Kd.int .u8) 5 w45 w.heap.size (fun _ => True) v625 y624) := ⟨h0_⟩
                                have n1_ : Aside0 (w45.heap[gb615]? = some (.cells #[.int .i64 ((rd_T42 l0 x5_1).f0), .int .i64 ((rd_T42 l0 x5_1).f1), .int .i64 ((rd_T42 l0 x5_1).f2), .string ((rd_T42 l0 x5_1).f3)] 42 (0, 0))) := ⟨h1_⟩
                                have n2_ : Aside0 (Below w.heap.size w w45) := ⟨h2_⟩
                                clear BK615
                                clear HB
                                clear h0_ h1_ h2_
                                have HO626 := n0_
                                have BK615 := n1_
                                have HB := n2_
                                clear n0_ n1_ n2_
                                have hHeld : w45.cell? ⟨gb615, 0, none⟩ = some (.int .i64 ((rd_T42 l0 x5_1).f0)) ∧ w45.cell? ⟨gb615, 1, none⟩ = some (.int .i64 ((rd_T42 l0 x5_1).f1)) ∧ w45.cell? ⟨gb615, 2, none⟩ = some (.int .i64 ((rd_T42 l0 x5_1).f2)) ∧ w45.cell? ⟨gb615, 3, none⟩ = some (.string ((rd_T42 l0 x5_1).f3)) := hS_
                                refine norm_ (a' := ?_) ?_ ?_
                                rotate_left
                                · simp only [putAll, Act.put, List.setIfInBounds_toArray, List.set_cons_zero, List.set_cons_succ]
                                  rfl
                                refine pure_ (i := 14) (N := some 63) (v := ?_) (a' := ?_) #[true, true, true, true, true, true, true, true, true, true, true, true, true, true, true, false] rfl rfl (any_of HT_.out (by kernel_rfl)) (fun _ _ _ h => h) (Or.inl ⟨by rfl, ?_⟩) ?_ ?_
                                rotate_left
                                · intro w'
                                  go_simp
                                  with_reducible rfl
                                rotate_left
                                · simp only [Act.put, List.setIfInBounds_toArray, List.set_cons_zero, List.set_cons_succ, i64_w, i32_w]
                                  rfl
                                refine pure_ (i := 15) (N := some 4) (v := ?_) (a' := ?_) #[true, true, true, true, true, true, true, true, true, true, true, true, true, true, true, true] rfl rfl (any_of HT_.out (by kernel_rfl)) (fun _ _ _ h => h) (Or.inl ⟨by rfl, ?_⟩) ?_ ?_
                                rotate_left
                                · intro w'
                                  go_simp
                                  with_reducible rfl
                                rotate_left
                                · simp only [Act.put, List.setIfInBounds_toArray, List.set_cons_zero, List.set_cons_succ, i64_w, i32_w]
                                  rfl
                                refine done_ (done_of HT_.out (by kernel_rfl)) ?_
                                try go_wp2
                                go_roundg kj22
                                case measure => have := HK1.out; have := HJ22.out; omega
                                case rel => exact ⟨((((x4_1 ++ (⟨#[3]⟩ : ByteArray)) ++ t622) ++ t623) ++ (strOfNums y624)), (wrap64 (x5_1 + 1)), (by first | rfl | (simp; done) | (simp [*]; done)), (by first | rfl | (simp; done) | (simp [*]; done)), H', ⟨by have := HK1.out; have := HJ22.out; omega⟩, ⟨by repeat (first | (with_reducible first | exact HB.out | apply below_alloc | apply pw_below_drewN | apply below_drew1 | refine below_set ?_ GE615.out) | exact HB.out)⟩⟩
                              · rw [if_neg c36] at H
                                exact absurd H (by simp)
                            · rw [if_neg c35] at H
                              exact absurd H (by simp)
                          · rw [if_neg c33] at H
                            exact absurd H (by simp)
                        · rw [if_neg c31] at H
                          exact absurd H (by simp)
                      · replace c29 := Bool.eq_false_iff.mpr c29
                        subst c29
                        have H1 : (if ((rd_T42 l0 x5_1).f0) = 4 then (if x4_1.size + 1 ≤ 9223372036854775807 then (if (x4_1 ++ (⟨#[4]⟩ : ByteArray)).size + ((rd_T42 l0 x5_1).f3).size ≤ 9223372036854775807 then (if ((x4_1 ++ (⟨#[4]⟩ : ByteArray)) ++ ((rd_T42 l0 x5_1).f3)).size + 1 ≤ 9223372036854775807 then (spec_KeyBytes.l0 kj22 l0 (((x4_1 ++ (⟨#[4]⟩ : ByteArray)) ++ ((rd_T42 l0 x5_1).f3)) ++ (⟨#[0]⟩ : ByteArray)) (wrap64 (x5_1 + 1))) else (none)) else (none)) else (none)) else (if ((rd_T42 l0 x5_1).f0) = 5 then (if x4_1.size + 1 ≤ 9223372036854775807 then ((spec_l01Bytes.f kj22 ((rd_T42 l0 x5_1).f1) 3).bind fun t627 => (if (x4_1 ++ (⟨#[5]⟩ : ByteArray)).size + t627.size ≤ 9223372036854775807 then (spec_KeyBytes.l0 kj22 l0 ((x4_1 ++ (⟨#[5]⟩ : ByteArray)) ++ t627) (wrap64 (x5_1 + 1))) else (none))) else (none)) else (spec_KeyBytes.l0 kj22 l0 x4_1 (wrap64 (x5_1 + 1))))) = some (r1, r2) := by rw [if_neg (show ¬ (false = true) by decide)] at H; exact H
                        clear H
                        have H := H1
                        clear H1
                        by_cases c46 : ((rd_T42 l0 x5_1).f0) = 4
                        · rw [if_pos c46] at H
                          have c46b0 : (((rd_T42 l0 x5_1).f0) == 4) = true := beq_iff_eq.mpr c46
                          have c46b1 : (((rd_T42 l0 x5_1).f0) != 4) = false := bne_eq_false_iff_eq.mpr c46
                          clear c46
                          by_cases c47 : x4_1.size + 1 ≤ 9223372036854775807
                          · rw [if_pos c47] at H
                            have c47b0 := eq_true c47
                            have c47b1 : decide (x4_1.size + 1 ≤ 9223372036854775807) = true := decide_eq_true c47
                            try have c47b2 : (9223372036854775807 < x4_1.size + 1) = False := eq_false (Nat.not_lt.2 c47)
                            try (have c47b3 := c47b2; simp only [ByteArray.size_append] at c47b3)
                            try (have c47b6 := c47b2; simp only [ByteArray.size_append, x4_sz_lit1] at c47b6)
                            by_cases c48 : (x4_1 ++ (⟨#[4]⟩ : ByteArray)).size + ((rd_T42 l0 x5_1).f3).size ≤ 9223372036854775807
                            · rw [if_pos c48] at H
                              have c48b0 := eq_true c48
                              have c48b1 : decide ((x4_1 ++ (⟨#[4]⟩ : ByteArray)).size + ((rd_T42 l0 x5_1).f3).size ≤ 9223372036854775807) = true := decide_eq_true c48
                              try have c48b2 : (9223372036854775807 < (x4_1 ++ (⟨#[4]⟩ : ByteArray)).size + ((rd_T42 l0 x5_1).f3).size) = False := eq_false (Nat.not_lt.2 c48)
                              try (have c48b3 := c48b2; simp only [ByteArray.size_append] at c48b3)
                              try (have c48b6 := c48b2; simp only [ByteArray.size_append, x4_sz_lit1] at c48b6)
                              by_cases c49 : ((x4_1 ++ (⟨#[4]⟩ : ByteArray)) ++ ((rd_T42 l0 x5_1).f3)).size + 1 ≤ 9223372036854775807
                              · rw [if_pos c49] at H
                                have c49b0 := eq_true c49
                                have c49b1 : decide (((x4_1 ++ (⟨#[4]⟩ : ByteArray)) ++ ((rd_T42 l0 x5_1).f3)).size + 1 ≤ 9223372036854775807) = true := decide_eq_true c49
                                try have c49b2 : (9223372036854775807 < ((x4_1 ++ (⟨#[4]⟩ : ByteArray)) ++ ((rd_T42 l0 x5_1).f3)).size + 1) = False := eq_false (Nat.not_lt.2 c49)
                                try (have c49b3 := c49b2; simp only [ByteArray.size_append] at c49b3)
                                try (have c49b6 := c49b2; simp only [ByteArray.size_append, x4_sz_lit1] at c49b6)
                                have H' := Aside0.mk H
                                clear H
                                have hcz50_0 : wc.cell? ⟨gb615, 0, none⟩ = some (.int .i64 ((rd_T42 l0 x5_1).f0)) := (blk_cell BK615.out 0).trans rfl
                                have hcz50_1 : wc.cell? ⟨gb615, 1, none⟩ = some (.int .i64 ((rd_T42 l0 x5_1).f1)) := (blk_cell BK615.out 1).trans rfl
                                have hcz50_2 : wc.cell? ⟨gb615, 2, none⟩ = some (.int .i64 ((rd_T42 l0 x5_1).f2)) := (blk_cell BK615.out 2).trans rfl
                                have hcz50_3 : wc.cell? ⟨gb615, 3, none⟩ = some (.string ((rd_T42 l0 x5_1).f3)) := (blk_cell BK615.out 3).trans rfl
                                have hfz50_0 := blk_frozen BK615.out 0
                                have hfz50_1 := blk_frozen BK615.out 1
                                have hfz50_2 := blk_frozen BK615.out 2
                                have hfz50_3 := blk_frozen BK615.out 3
                                go_wp2
                                go_roundg kj22
                                case measure => have := HK1.out; have := HJ22.out; omega
                                case rel => exact ⟨(((x4_1 ++ (⟨#[4]⟩ : ByteArray)) ++ ((rd_T42 l0 x5_1).f3)) ++ (⟨#[0]⟩ : ByteArray)), (wrap64 (x5_1 + 1)), (by first | rfl | (simp; done) | (simp [*]; done)), (by first | rfl | (simp; done) | (simp [*]; done)), H', ⟨by have := HK1.out; have := HJ22.out; omega⟩, ⟨by repeat (first | (with_reducible first | exact HB.out | apply below_alloc | apply pw_below_drewN | apply below_drew1 | refine below_set ?_ GE615.out) | exact HB.out)⟩⟩
                              · rw [if_neg c49] at H
                                exact absurd H (by simp)
                            · rw [if_neg c48] at H
                              exact absurd H (by simp)
                          · rw [if_neg c47] at H
                            exact absurd H (by simp)
                        · rw [if_neg c46] at H
                          have c46b0 : (((rd_T42 l0 x5_1).f0) == 4) = false := beq_eq_false_iff_ne.mpr c46
                          have c46b1 : (((rd_T42 l0 x5_1).f0) != 4) = true := bne_iff_ne.mpr c46
                          by_cases c51 : ((rd_T42 l0 x5_1).f0) = 5
                          · rw [if_pos c51] at H
                            have c51b0 : (((rd_T42 l0 x5_1).f0) == 5) = true := beq_iff_eq.mpr c51
                            have c51b1 : (((rd_T42 l0 x5_1).f0) != 5) = false := bne_eq_false_iff_eq.mpr c51
                            clear c51
                            by_cases c52 : x4_1.size + 1 ≤ 9223372036854775807
                            · rw [if_pos c52] at H
                              have c52b0 := eq_true c52
                              have c52b1 : decide (x4_1.size + 1 ≤ 9223372036854775807) = true := decide_eq_true c52
                              try have c52b2 : (9223372036854775807 < x4_1.size + 1) = False := eq_false (Nat.not_lt.2 c52)
                              try (have c52b3 := c52b2; simp only [ByteArray.size_append] at c52b3)
                              try (have c52b6 := c52b2; simp only [ByteArray.size_append, x4_sz_lit1] at c52b6)
                              replace H := Option.bind_eq_some_iff.mp H
                              obtain ⟨t627, A530, H⟩ := H
                              replace H : (if (x4_1 ++ (⟨#[5]⟩ : ByteArray)).size + t627.size ≤ 9223372036854775807 then (spec_KeyBytes.l0 kj22 l0 ((x4_1 ++ (⟨#[5]⟩ : ByteArray)) ++ t627) (wrap64 (x5_1 + 1))) else (none)) = some (r1, r2) := H
                              have A53 := Aside0.mk A530
                              clear A530
                              by_cases c54 : (x4_1 ++ (⟨#[5]⟩ : ByteArray)).size + t627.size ≤ 9223372036854775807
                              · rw [if_pos c54] at H
                                have c54b0 := eq_true c54
                                have c54b1 : decide ((x4_1 ++ (⟨#[5]⟩ : ByteArray)).size + t627.size ≤ 9223372036854775807) = true := decide_eq_true c54
                                try have c54b2 : (9223372036854775807 < (x4_1 ++ (⟨#[5]⟩ : ByteArray)).size + t627.size) = False := eq_false (Nat.not_lt.2 c54)
                                try (have c54b3 := c54b2; simp only [ByteArray.size_append] at c54b3)
                                try (have c54b6 := c54b2; simp only [ByteArray.size_append, x4_sz_lit1] at c54b6)
                                have H' := Aside0.mk H
                                clear H
                                have hcz55_0 : wc.cell? ⟨gb615, 0, none⟩ = some (.int .i64 ((rd_T42 l0 x5_1).f0)) := (blk_cell BK615.out 0).trans rfl
                                have hcz55_1 : wc.cell? ⟨gb615, 1, none⟩ = some (.int .i64 ((rd_T42 l0 x5_1).f1)) := (blk_cell BK615.out 1).trans rfl
                                have hcz55_2 : wc.cell? ⟨gb615, 2, none⟩ = some (.int .i64 ((rd_T42 l0 x5_1).f2)) := (blk_cell BK615.out 2).trans rfl
                                have hcz55_3 : wc.cell? ⟨gb615, 3, none⟩ = some (.string ((rd_T42 l0 x5_1).f3)) := (blk_cell BK615.out 3).trans rfl
                                have hfz55_0 := blk_frozen BK615.out 0
                                have hfz55_1 := blk_frozen BK615.out 1
                                have hfz55_2 := blk_frozen BK615.out 2
                                have hfz55_3 := blk_frozen BK615.out 3
                                go_wp2_with (first | ((with_reducible refine gate_callee (f := 22) rfl ?_); refine goesL_ (some 78) rfl rfl Try.func22 (by kernel_rfl) rfl #[.int .i64 ((rd_T42 l0 x5_1).f1), .int .i64 3] rfl (by (try simp only [List.map_toArray, List.map_cons, List.map_nil]); first | done | rfl | (simp only [List.length_drop, List.length_take]; rfl)) ?_; (with_reducible refine (spec_l01Bytes.calls kj22 ((rd_T42 l0 x5_1).f1) 3 t627 _ A53.out).mono ?_); rintro e w56 ⟨rfl, hb⟩; refine ⟨_, rfl, ?_⟩; have n0_ := Aside0.mk (blk_below (g := gb615) (o := .cells #[.int .i64 ((rd_T42 l0 x5_1).f0), .int .i64 ((rd_T42 l0 x5_1).f1), .int .i64 ((rd_T42 l0 x5_1).f2), .string ((rd_T42 l0 x5_1).f3)] 42 (0, 0)) (by (with_reducible repeat (first | refine blk_drewN ?_ _ | refine blk_drew ?_ | refine blk_alloc ?_ _)); exact BK615.out) hb); have n1_ := Aside0.mk (below_step (by repeat (first | (with_reducible first | exact HB.out | apply below_alloc | apply pw_below_drewN | apply below_drew1 | refine below_set ?_ GE615.out) | exact HB.out)) hb); clear BK615; clear HB; have BK615 := n0_; have HB := n1_; clear n0_ n1_; (try clear hb); (try clear hb2); (try clear hk); (try clear hi)))
                                go_roundg kj22
                                case measure => have := HK1.out; have := HJ22.out; omega
                                case rel => exact ⟨((x4_1 ++ (⟨#[5]⟩ : ByteArray)) ++ t627), (wrap64 (x5_1 + 1)), (by first | rfl | (simp; done) | (simp [*]; done)), (by first | rfl | (simp; done) | (simp [*]; done)), H', ⟨by have := HK1.out; have := HJ22.out; omega⟩, ⟨by repeat (first | (with_reducible first | exact HB.out | apply below_alloc | apply pw_below_drewN | apply below_drew1 | refine below_set ?_ GE615.out) | exact HB.out)⟩⟩
                              · rw [if_neg c54] at H
                                exact absurd H (by simp)
                            · rw [if_neg c52] at H
                              exact absurd H (by simp)
                          · rw [if_neg c51] at H
                            have c51b0 : (((rd_T42 l0 x5_1).f0) == 5) = false := beq_eq_false_iff_ne.mpr c51
                            have c51b1 : (((rd_T42 l0 x5_1).f0) != 5) = true := bne_iff_ne.mpr c51
                            have H' := Aside0.mk H
                            clear H
                            go_wp2
                            go_roundg kj22
                            case measure => have := HK1.out; have := HJ22.out; omega
                            case rel => exact ⟨(x4_1), (wrap64 (x5_1 + 1)), (by first | rfl | (simp; done) | (simp [*]; done)), (by first | rfl | (simp; done) | (simp [*]; done)), H', ⟨by have := HK1.out; have := HJ22.out; omega⟩, ⟨by repeat (first | (with_reducible first | exact HB.out | apply below_alloc | apply pw_below_drewN | apply below_drew1 | refine below_set ?_ GE615.out) | exact HB.out)⟩⟩
            · replace c6 := Bool.eq_false_iff.mpr c6
              subst c6
              have H1 : (some ((⟨#[]⟩ : ByteArray), 1)) = some (r1, r2) := by rw [if_neg (show ¬ (false = true) by decide)] at H; exact H
              clear H
              have H := H1
              clear H1
              simp only [Option.some.injEq, Prod.mk.injEq] at H
              obtain ⟨rfl, rfl⟩ := H
              have p614 : 0 ≤ (x5_1 : Int) := of_decide_eq_true (by first | (with_reducible assumption) | assumption)
              have q614 : x5_1 < (l0.length : Int) := of_decide_eq_true (by first | (with_reducible assumption) | assumption)
              obtain ⟨ad614, e614, hx614_0, hx614_1, hx614_2, hx614_3⟩ := at_T42 HR0.out x5_1 p614 q614
              cases e614
              replace hx614_0 := (HB.out.cell (World.block_lt_of_cell? w _ hx614_0)).trans hx614_0
              replace hx614_1 := (HB.out.cell (World.block_lt_of_cell? w _ hx614_1)).trans hx614_1
              replace hx614_2 := (HB.out.cell (World.block_lt_of_cell? w _ hx614_2)).trans hx614_2
              replace hx614_3 := (HB.out.cell (World.block_lt_of_cell? w _ hx614_3)).trans hx614_3
              replace p614 := eq_true p614
              replace q614 := eq_true q614
              go_wp2_with (first | ((with_reducible refine gate_dst (N := 6) rfl ?_); refine boxst_event ?hg (N := 6) ?hd ?hg2 ?hn2 ?ho2 (cs := #[.int .i64 ((rd_T42 l0 x5_1).f0), .int .i64 ((rd_T42 l0 x5_1).f1), .int .i64 ((rd_T42 l0 x5_1).f2), .string ((rd_T42 l0 x5_1).f3)]) (zs := #[.int .i64 0, .int .i64 0, .int .i64 0, .string (⟨#[]⟩ : ByteArray)]) (t := 42) ?hr ?hr2 ?_; (case hd => rfl); (case hg => rfl); (case hg2 => rfl); (case hn2 => rfl); (case ho2 => exact ⟨_, rfl⟩); (case hr => first | (go_simp; done) | (go_simp; rfl)); (case hr2 => first | (go_simp; done) | (go_simp; rfl)); intro gb615 hg w57 hbox hb; have n0_ := Aside0.mk (below_step (by repeat (first | (with_reducible first | exact HB.out | apply below_alloc | apply pw_below_drewN | apply below_drew1) | exact HB.out)) hb); have n1_ := Aside0.mk (hbox); have n2_ := Aside0.mk ((by rw [hg]; exact (below_size (by repeat (first | (with_reducible first | exact HB.out | apply below_alloc | apply pw_below_drewN | apply below_drew1) | exact HB.out))) : w.heap.size ≤ gb615)); have n3_ := Aside0.mk ((by rw [hg]; exact (below_size (by repeat (first | (with_reducible first | exact HB.out | apply below_alloc | apply pw_below_drewN | apply below_drew1) | exact HB.out))) : w.heap.size ≤ gb615)); clear HB; have HB := n0_; have BK615 := n1_; have GW615 := n2_; have GE615 := n3_; clear n0_ n1_ n2_ n3_; clear hb hbox hg; have hcz58_0 : w57.cell? ⟨gb615, 0, none⟩ = some (.int .i64 ((rd_T42 l0 x5_1).f0)) := (blk_cell BK615.out 0).trans rfl; have hcz58_1 : w57.cell? ⟨gb615, 1, none⟩ = some (.int .i64 ((rd_T42 l0 x5_1).f1)) := (blk_cell BK615.out 1).trans rfl; have hcz58_2 : w57.cell? ⟨gb615, 2, none⟩ = some (.int .i64 ((rd_T42 l0 x5_1).f2)) := (blk_cell BK615.out 2).trans rfl; have hcz58_3 : w57.cell? ⟨gb615, 3, none⟩ = some (.string ((rd_T42 l0 x5_1).f3)) := (blk_cell BK615.out 3).trans rfl; have hfz58_0 := blk_frozen BK615.out 0; have hfz58_1 := blk_frozen BK615.out 1; have hfz58_2 := blk_frozen BK615.out 2; have hfz58_3 := blk_frozen BK615.out 3) | ((with_reducible refine gate_callee (f := 20) rfl ?_); refine goesL_ (some 23) rfl rfl Try.func20 (by kernel_rfl) rfl #[.agg #[.int .i64 ((rd_T42 l0 x5_1).f0), .int .i64 ((rd_T42 l0 x5_1).f1), .int .i64 ((rd_T42 l0 x5_1).f2), .string ((rd_T42 l0 x5_1).f3)]] rfl (by (try simp only [List.map_toArray, List.map_cons, List.map_nil]); first | done | rfl | (simp only [List.length_drop, List.length_take]; rfl)) ?_; (with_reducible refine (spec_ValueOK.calls k1 ((rd_T42 l0 x5_1).f0) ((rd_T42 l0 x5_1).f1) ((rd_T42 l0 x5_1).f2) ((rd_T42 l0 x5_1).f3) false _ A5.out).mono ?_); rintro e w59 ⟨rfl, hb⟩; refine ⟨_, rfl, ?_⟩; have n0_ := Aside0.mk (blk_below (g := gb615) (o := .cells #[.int .i64 ((rd_T42 l0 x5_1).f0), .int .i64 ((rd_T42 l0 x5_1).f1), .int .i64 ((rd_T42 l0 x5_1).f2), .string ((rd_T42 l0 x5_1).f3)] 42 (0, 0)) (by (with_reducible repeat (first | refine blk_drewN ?_ _ | refine blk_drew ?_ | refine blk_alloc ?_ _)); exact BK615.out) hb); have n1_ := Aside0.mk (below_step (by repeat (first | (with_reducible first | exact HB.out | apply below_alloc | apply pw_below_drewN | apply below_drew1 | refine below_set ?_ GE615.out) | exact HB.out)) hb); clear BK615; clear HB; have BK615 := n0_; have HB := n1_; clear n0_ n1_; (try clear hb); (try clear hb2); (try clear hk); (try clear hi)))
              go_ret2
              exact ⟨by first | rfl | (simp [errW_none, errW_some] <;> rfl) | (simp [*, errW_none, errW_some] <;> rfl), by repeat (first | (with_reducible first | exact HB.out | apply below_alloc | apply pw_below_drewN | apply below_drew1 | refine below_set ?_ GE615.out) | exact HB.out)⟩
          · rw [if_neg c4] at H
            exact absurd H (by simp)
        · rw [if_neg c3] at H
          have c3b0 : decide (x5_1 < (l0.length : Int)) = false := decide_eq_false c3
          clear c3
          simp only [Option.some.injEq, Prod.mk.injEq] at H
          obtain ⟨rfl, rfl⟩ := H
          go_wp2
          go_ret2
          exact ⟨by first | rfl | (simp [errW_none, errW_some] <;> rfl) | (simp [*, errW_none, errW_some] <;> rfl), by repeat (first | (with_reducible first | exact HB.out | apply below_alloc | apply pw_below_drewN | apply below_drew1) | exact HB.out)⟩

end Go.Proofs.Ytjplogeifleojaa.QFnExactKeyBytes
