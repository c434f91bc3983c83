/- The functions that the law reaches, each as a plain Lean function with the proof that the Go code comes to its answers: written by a program of this session. No condition. -/
import Derived.Test.YtkhkhcgjopnchaaQFnExactLogicx0
import Derived.Test.YtkhkhcgjopnchaaQFnExactLogicx4
namespace Go.Proofs.Ytkhkhcgjopnchaa.QFnExactLogic
open Go.RowKit Go.Proofs.YtkhkhcgjopnchaaW.PrintWords Go.Proofs.YtkhkhcgjopnchaaW.PrintLast Go.Proofs.YtkhkhcgjopnchaaW.PrintMore
attribute [local go_sem] max2_int min2_int max_two min_two max_three min_three max_four min_four   -- for this text's walks alone
set_option linter.unusedVariables false
set_option linter.unusedSimpArgs false

/-! ### impl_Logic: function 19 -/
def impl_Logic.lg (op aK aN bK bN : Int) : Int × Int × Int × ByteArray × Int :=
  if op = 1 ∧ (aK = 1 ∧ aN = 0 ∨ bK = 1 ∧ bN = 0) then (1, 0, 0, (⟨#[]⟩ : ByteArray), 0)
  else if op = 2 ∧ (aK = 1 ∧ aN = 1 ∨ bK = 1 ∧ bN = 1) then (1, 1, 0, (⟨#[]⟩ : ByteArray), 0)
  else if aK = 0 ∨ bK = 0 then (0, 0, 0, (⟨#[]⟩ : ByteArray), 0)
  else if op = 1 then (1, 1, 0, (⟨#[]⟩ : ByteArray), 0)
  else if op = 2 then (1, 0, 0, (⟨#[]⟩ : ByteArray), 0)
  else (1, if aN = bN then 0 else 1, 0, (⟨#[]⟩ : ByteArray), 0)
def impl_Logic.f (k : Nat) (a0 : Int) (a1_0 : Int) (a1_1 : Int) (a1_2 : Int) (a1_3 : ByteArray) (a2_0 : Int) (a2_1 : Int) (a2_2 : Int) (a2_3 : ByteArray) : Option (Int × Int × Int × ByteArray × Int) :=
  if a0 < 1 then some (0, 0, 0, (⟨#[]⟩ : ByteArray), 1) else if a0 > 3 then some (0, 0, 0, (⟨#[]⟩ : ByteArray), 1) else
  (impl_ValueOK.f k a1_0 a1_1 a1_2 a1_3).bind fun ta => if ta = true then ((impl_ValueOK.f k a2_0 a2_1 a2_2 a2_3).bind fun tb => if tb = true then
    (if a1_0 > 1 then some (0, 0, 0, (⟨#[]⟩ : ByteArray), 2) else if a2_0 > 1 then some (0, 0, 0, (⟨#[]⟩ : ByteArray), 2) else some (impl_Logic.lg a0 a1_0 a1_1 a2_0 a2_1))
    else some (0, 0, 0, (⟨#[]⟩ : ByteArray), 1)) else some (0, 0, 0, (⟨#[]⟩ : ByteArray), 1)
theorem impl_Logic.mono : ∀ a0 a1 a2 a3 a4 a5 a6 a7 a8 k, LeO (impl_Logic.f k a0 a1 a2 a3 a4 a5 a6 a7 a8) (impl_Logic.f (k + 1) a0 a1 a2 a3 a4 a5 a6 a7 a8) := by
  intro a0 a1 a2 a3 a4 a5 a6 a7 a8 k
  unfold impl_Logic.f
  refine LeO.ite (LeO.refl _) (LeO.ite (LeO.refl _) (LeO.bind (impl_ValueOK.mono _ _ _ _ _) (fun _ => LeO.ite (LeO.bind (impl_ValueOK.mono _ _ _ _ _) (fun _ => LeO.refl _)) (LeO.refl _))))

set_option maxHeartbeats 8000000 in
set_option maxRecDepth 100000 in
theorem impl_Logic.e1 (k : Nat) (w : World) (op aK aN bK bN : Int) (S T : Int) (s t : ByteArray) (h1 : op < 1) :
    Calls Try.prog 19 #[.int .i64 op, .agg #[.int .i64 aK, .int .i64 aN, .int .i64 S, .string s], .agg #[.int .i64 bK, .int .i64 bN, .int .i64 T, .string t]] w fun e w' => e = .returned (.tuple #[.agg #[.int .i64 0, .int .i64 0, .int .i64 0, .string (⟨#[]⟩ : ByteArray)], .int .i64 1]) ∧ Below w.heap.size w w' := by
  have hu := Try.underlying23
  have d1 : decide (op < 1) = true := decide_eq_true (by omega)
  clear h1
  go_enter Try.func19, Try.ntmps19
  have bkc : (((w.alloc (.cells #[.int .i64 aK, .int .i64 aN, .int .i64 S, .string s] 23)).alloc (.cells #[.int .i64 bK, .int .i64 bN, .int .i64 T, .string t] 23)).alloc (.cells #[.int .i64 0, .int .i64 0, .int .i64 0, .string (⟨#[]⟩ : ByteArray)] 23)).heap[w.heap.size + 1 + 1]? = some (.cells #[.int .i64 0, .int .i64 0, .int .i64 0, .string (⟨#[]⟩ : ByteArray)] 23 (0, 0)) := by simpa using heap_alloc_new ((w.alloc _).alloc _) _
  have BKC := Aside0.mk bkc
  clear bkc
  go_wp2
  refine bodyPost_ret (results_ct rfl _ _ (w.heap.size + 1 + 1) 23 #[.int .i64 0, .int .i64 0, .int .i64 0, .string (⟨#[]⟩ : ByteArray)] (0, 0) _ rfl BKC.out Try.underlying23 rfl (by kernel_rfl)) rfl ?_
  exact ⟨rfl, below_alloc (below_alloc (below_alloc (Below.refl _ _) _) _) _⟩
set_option maxHeartbeats 8000000 in
set_option maxRecDepth 100000 in
theorem impl_Logic.e2 (k : Nat) (w : World) (op aK aN bK bN : Int) (S T : Int) (s t : ByteArray) (h1 : 3 < op) :
    Calls Try.prog 19 #[.int .i64 op, .agg #[.int .i64 aK, .int .i64 aN, .int .i64 S, .string s], .agg #[.int .i64 bK, .int .i64 bN, .int .i64 T, .string t]] w fun e w' => e = .returned (.tuple #[.agg #[.int .i64 0, .int .i64 0, .int .i64 0, .string (⟨#[]⟩ : ByteArray)], .int .i64 1]) ∧ Below w.heap.size w w' := by
  have hu := Try.underlying23
  have d1 : decide (op < 1) = false := decide_eq_false (by omega)
  have d2 : decide (3 < op) = true := decide_eq_true (by omega)
  clear h1
  go_enter Try.func19, Try.ntmps19
  have bkc : (((w.alloc (.cells #[.int .i64 aK, .int .i64 aN, .int .i64 S, .string s] 23)).alloc (.cells #[.int .i64 bK, .int .i64 bN, .int .i64 T, .string t] 23)).alloc (.cells #[.int .i64 0, .int .i64 0, .int .i64 0, .string (⟨#[]⟩ : ByteArray)] 23)).heap[w.heap.size + 1 + 1]? = some (.cells #[.int .i64 0, .int .i64 0, .int .i64 0, .string (⟨#[]⟩ : ByteArray)] 23 (0, 0)) := by simpa using heap_alloc_new ((w.alloc _).alloc _) _
  have BKC := Aside0.mk bkc
  clear bkc
  go_wp2
  refine bodyPost_ret (results_ct rfl _ _ (w.heap.size + 1 + 1) 23 #[.int .i64 0, .int .i64 0, .int .i64 0, .string (⟨#[]⟩ : ByteArray)] (0, 0) _ rfl BKC.out Try.underlying23 rfl (by kernel_rfl)) rfl ?_
  exact ⟨rfl, below_alloc (below_alloc (below_alloc (Below.refl _ _) _) _) _⟩
set_option maxHeartbeats 8000000 in
set_option maxRecDepth 100000 in
theorem impl_Logic.e3 (k : Nat) (w : World) (op aK aN bK bN : Int) (S T : Int) (s t : ByteArray) (h1 : 1 ≤ op) (h2 : op ≤ 3) (ha : impl_ValueOK.f k aK aN S s = some false) :
    Calls Try.prog 19 #[.int .i64 op, .agg #[.int .i64 aK, .int .i64 aN, .int .i64 S, .string s], .agg #[.int .i64 bK, .int .i64 bN, .int .i64 T, .string t]] w fun e w' => e = .returned (.tuple #[.agg #[.int .i64 0, .int .i64 0, .int .i64 0, .string (⟨#[]⟩ : ByteArray)], .int .i64 1]) ∧ Below w.heap.size w w' := by
  have hu := Try.underlying23
  have d1 : decide (op < 1) = false := decide_eq_false (by omega)
  have d2 : decide (3 < op) = false := decide_eq_false (by omega)
  clear h1 h2
  have HC0 := Aside0.mk ha
  clear ha
  go_enter Try.func19, Try.ntmps19
  go_wp2_with fail
  refine (impl_ValueOK.calls k aK aN S s false _ HC0.out).mono ?_
  rintro e w1 ⟨rfl, hb1⟩
  have bka : w1.heap[w.heap.size]? = some (.cells #[.int .i64 aK, .int .i64 aN, .int .i64 S, .string s] 23 (0, 0)) := blk_below (blk_alloc (blk_alloc (heap_alloc_new w _) _) _) hb1
  have bkb : w1.heap[w.heap.size + 1]? = some (.cells #[.int .i64 bK, .int .i64 bN, .int .i64 T, .string t] 23 (0, 0)) := blk_below (blk_alloc (by simpa using heap_alloc_new (w.alloc _) _) _) hb1
  have bkc : w1.heap[w.heap.size + 1 + 1]? = some (.cells #[.int .i64 0, .int .i64 0, .int .i64 0, .string (⟨#[]⟩ : ByteArray)] 23 (0, 0)) := blk_below (by simpa using heap_alloc_new ((w.alloc _).alloc _) _) hb1
  have HB := Aside0.mk (show Below w.heap.size w w1 from below_step (below_alloc (below_alloc (below_alloc (Below.refl _ _) _) _) _) hb1)
  have hca0 : w1.cell? ⟨w.heap.size, 0, none⟩ = some (.int .i64 aK) := (blk_cell bka 0).trans rfl
  have hca1 : w1.cell? ⟨w.heap.size, 1, none⟩ = some (.int .i64 aN) := (blk_cell bka 1).trans rfl
  have hcb0 : w1.cell? ⟨w.heap.size + 1, 0, none⟩ = some (.int .i64 bK) := (blk_cell bkb 0).trans rfl
  have hcb1 : w1.cell? ⟨w.heap.size + 1, 1, none⟩ = some (.int .i64 bN) := (blk_cell bkb 1).trans rfl
  have hcb2 : w1.cell? ⟨w.heap.size + 1, 2, none⟩ = some (.int .i64 T) := (blk_cell bkb 2).trans rfl
  have hcb3 : w1.cell? ⟨w.heap.size + 1, 3, none⟩ = some (.string t) := (blk_cell bkb 3).trans rfl
  have hcc0 : w1.cell? ⟨w.heap.size + 1 + 1, 0, none⟩ = some (.int .i64 0) := (blk_cell bkc 0).trans rfl
  have hcc1 : w1.cell? ⟨w.heap.size + 1 + 1, 1, none⟩ = some (.int .i64 0) := (blk_cell bkc 1).trans rfl
  have hcc2 : w1.cell? ⟨w.heap.size + 1 + 1, 2, none⟩ = some (.int .i64 0) := (blk_cell bkc 2).trans rfl
  have hcc3 : w1.cell? ⟨w.heap.size + 1 + 1, 3, none⟩ = some (.string (⟨#[]⟩ : ByteArray)) := (blk_cell bkc 3).trans rfl
  have hfc0 := blk_frozen bkc 0
  have hfc1 := blk_frozen bkc 1
  have hfc2 := blk_frozen bkc 2
  have hfc3 := blk_frozen bkc 3
  have BKA := Aside0.mk bka
  have BKB := Aside0.mk bkb
  have BKC := Aside0.mk bkc
  clear bka bkb bkc hb1
  go_wp2
  refine bodyPost_ret (results_ct rfl _ _ (w.heap.size + 1 + 1) 23 #[.int .i64 0, .int .i64 0, .int .i64 0, .string (⟨#[]⟩ : ByteArray)] (0, 0) _ rfl (blk_put (blk_put (blk_put (blk_put BKC.out 0 _ rfl) 1 _ rfl) 2 _ rfl) 3 _ rfl) Try.underlying23 rfl (by kernel_rfl)) rfl ?_
  exact ⟨rfl, below_set (below_set (below_set (below_set (HB.out) (by omega)) (by omega)) (by omega)) (by omega)⟩
set_option maxHeartbeats 8000000 in
set_option maxRecDepth 100000 in
theorem impl_Logic.e4 (k : Nat) (w : World) (op aK aN bK bN : Int) (S T : Int) (s t : ByteArray) (h1 : 1 ≤ op) (h2 : op ≤ 3) (ha : impl_ValueOK.f k aK aN S s = some true) (hb : impl_ValueOK.f k bK bN T t = some false) :
    Calls Try.prog 19 #[.int .i64 op, .agg #[.int .i64 aK, .int .i64 aN, .int .i64 S, .string s], .agg #[.int .i64 bK, .int .i64 bN, .int .i64 T, .string t]] w fun e w' => e = .returned (.tuple #[.agg #[.int .i64 0, .int .i64 0, .int .i64 0, .string (⟨#[]⟩ : ByteArray)], .int .i64 1]) ∧ Below w.heap.size w w' := by
  have hu := Try.underlying23
  have d1 : decide (op < 1) = false := decide_eq_false (by omega)
  have d2 : decide (3 < op) = false := decide_eq_false (by omega)
  clear h1 h2
  have HC0 := Aside0.mk ha
  clear ha
  have HC1 := Aside0.mk hb
  clear hb
  go_enter Try.func19, Try.ntmps19
  go_wp2_with fail
  refine (impl_ValueOK.calls k aK aN S s true _ HC0.out).mono ?_
  rintro e w1 ⟨rfl, hb1⟩
  have bka : w1.heap[w.heap.size]? = some (.cells #[.int .i64 aK, .int .i64 aN, .int .i64 S, .string s] 23 (0, 0)) := blk_below (blk_alloc (blk_alloc (heap_alloc_new w _) _) _) hb1
  have bkb : w1.heap[w.heap.size + 1]? = some (.cells #[.int .i64 bK, .int .i64 bN, .int .i64 T, .string t] 23 (0, 0)) := blk_below (blk_alloc (by simpa using heap_alloc_new (w.alloc _) _) _) hb1
  have bkc : w1.heap[w.heap.size + 1 + 1]? = some (.cells #[.int .i64 0, .int .i64 0, .int .i64 0, .string (⟨#[]⟩ : ByteArray)] 23 (0, 0)) := blk_below (by simpa using heap_alloc_new ((w.alloc _).alloc _) _) hb1
  have HB := Aside0.mk (show Below w.heap.size w w1 from below_step (below_alloc (below_alloc (below_alloc (Below.refl _ _) _) _) _) hb1)
  have hcb0 : w1.cell? ⟨w.heap.size + 1, 0, none⟩ = some (.int .i64 bK) := (blk_cell bkb 0).trans rfl
  have hcb1 : w1.cell? ⟨w.heap.size + 1, 1, none⟩ = some (.int .i64 bN) := (blk_cell bkb 1).trans rfl
  have hcb2 : w1.cell? ⟨w.heap.size + 1, 2, none⟩ = some (.int .i64 T) := (blk_cell bkb 2).trans rfl
  have hcb3 : w1.cell? ⟨w.heap.size + 1, 3, none⟩ = some (.string t) := (blk_cell bkb 3).trans rfl
  have BKA := Aside0.mk bka
  have BKB := Aside0.mk bkb
  have BKC := Aside0.mk bkc
  clear bka bkb bkc hb1
  go_wp2_with fail
  refine (impl_ValueOK.calls k bK bN T t false _ HC1.out).mono ?_
  rintro e w2 ⟨rfl, hb2⟩
  have bka := blk_below BKA.out hb2
  have bkb := blk_below BKB.out hb2
  have bkc := blk_below BKC.out hb2
  clear hcb0 hcb1 hcb2 hcb3 BKA BKB BKC
  have HB2 := Aside0.mk (below_step HB.out hb2)
  clear HB
  have HB := HB2
  clear HB2
  have hca0 : w2.cell? ⟨w.heap.size, 0, none⟩ = some (.int .i64 aK) := (blk_cell bka 0).trans rfl
  have hca1 : w2.cell? ⟨w.heap.size, 1, none⟩ = some (.int .i64 aN) := (blk_cell bka 1).trans rfl
  have hcb0 : w2.cell? ⟨w.heap.size + 1, 0, none⟩ = some (.int .i64 bK) := (blk_cell bkb 0).trans rfl
  have hcb1 : w2.cell? ⟨w.heap.size + 1, 1, none⟩ = some (.int .i64 bN) := (blk_cell bkb 1).trans rfl
  have hcb2 : w2.cell? ⟨w.heap.size + 1, 2, none⟩ = some (.int .i64 T) := (blk_cell bkb 2).trans rfl
  have hcb3 : w2.cell? ⟨w.heap.size + 1, 3, none⟩ = some (.string t) := (blk_cell bkb 3).trans rfl
  have hcc0 : w2.cell? ⟨w.heap.size + 1 + 1, 0, none⟩ = some (.int .i64 0) := (blk_cell bkc 0).trans rfl
  have hcc1 : w2.cell? ⟨w.heap.size + 1 + 1, 1, none⟩ = some (.int .i64 0) := (blk_cell bkc 1).trans rfl
  have hcc2 : w2.cell? ⟨w.heap.size + 1 + 1, 2, none⟩ = some (.int .i64 0) := (blk_cell bkc 2).trans rfl
  have hcc3 : w2.cell? ⟨w.heap.size + 1 + 1, 3, none⟩ = some (.string (⟨#[]⟩ : ByteArray)) := (blk_cell bkc 3).trans rfl
  have hfc0 := blk_frozen bkc 0
  have hfc1 := blk_frozen bkc 1
  have hfc2 := blk_frozen bkc 2
  have hfc3 := blk_frozen bkc 3
  have BKA := Aside0.mk bka
  have BKB := Aside0.mk bkb
  have BKC := Aside0.mk bkc
  clear bka bkb bkc hb2
  go_wp2
  refine bodyPost_ret (results_ct rfl _ _ (w.heap.size + 1 + 1) 23 #[.int .i64 0, .int .i64 0, .int .i64 0, .string (⟨#[]⟩ : ByteArray)] (0, 0) _ rfl (blk_put (blk_put (blk_put (blk_put BKC.out 0 _ rfl) 1 _ rfl) 2 _ rfl) 3 _ rfl) Try.underlying23 rfl (by kernel_rfl)) rfl ?_
  exact ⟨rfl, below_set (below_set (below_set (below_set (HB.out) (by omega)) (by omega)) (by omega)) (by omega)⟩
set_option maxHeartbeats 8000000 in
set_option maxRecDepth 100000 in
theorem impl_Logic.e5 (k : Nat) (w : World) (op aK aN bK bN : Int) (S T : Int) (s t : ByteArray) (h1 : 1 ≤ op) (h2 : op ≤ 3) (h3 : 1 < aK) (ha : impl_ValueOK.f k aK aN S s = some true) (hb : impl_ValueOK.f k bK bN T t = some true) :
    Calls Try.prog 19 #[.int .i64 op, .agg #[.int .i64 aK, .int .i64 aN, .int .i64 S, .string s], .agg #[.int .i64 bK, .int .i64 bN, .int .i64 T, .string t]] w fun e w' => e = .returned (.tuple #[.agg #[.int .i64 0, .int .i64 0, .int .i64 0, .string (⟨#[]⟩ : ByteArray)], .int .i64 2]) ∧ Below w.heap.size w w' := by
  have hu := Try.underlying23
  have d1 : decide (op < 1) = false := decide_eq_false (by omega)
  have d2 : decide (3 < op) = false := decide_eq_false (by omega)
  have d3 : decide (1 < aK) = true := decide_eq_true (by omega)
  clear h1 h2 h3
  have HC0 := Aside0.mk ha
  clear ha
  have HC1 := Aside0.mk hb
  clear hb
  go_enter Try.func19, Try.ntmps19
  go_wp2_with fail
  refine (impl_ValueOK.calls k aK aN S s true _ HC0.out).mono ?_
  rintro e w1 ⟨rfl, hb1⟩
  have bka : w1.heap[w.heap.size]? = some (.cells #[.int .i64 aK, .int .i64 aN, .int .i64 S, .string s] 23 (0, 0)) := blk_below (blk_alloc (blk_alloc (heap_alloc_new w _) _) _) hb1
  have bkb : w1.heap[w.heap.size + 1]? = some (.cells #[.int .i64 bK, .int .i64 bN, .int .i64 T, .string t] 23 (0, 0)) := blk_below (blk_alloc (by simpa using heap_alloc_new (w.alloc _) _) _) hb1
  have bkc : w1.heap[w.heap.size + 1 + 1]? = some (.cells #[.int .i64 0, .int .i64 0, .int .i64 0, .string (⟨#[]⟩ : ByteArray)] 23 (0, 0)) := blk_below (by simpa using heap_alloc_new ((w.alloc _).alloc _) _) hb1
  have HB := Aside0.mk (show Below w.heap.size w w1 from below_step (below_alloc (below_alloc (below_alloc (Below.refl _ _) _) _) _) hb1)
  have hcb0 : w1.cell? ⟨w.heap.size + 1, 0, none⟩ = some (.int .i64 bK) := (blk_cell bkb 0).trans rfl
  have hcb1 : w1.cell? ⟨w.heap.size + 1, 1, none⟩ = some (.int .i64 bN) := (blk_cell bkb 1).trans rfl
  have hcb2 : w1.cell? ⟨w.heap.size + 1, 2, none⟩ = some (.int .i64 T) := (blk_cell bkb 2).trans rfl
  have hcb3 : w1.cell? ⟨w.heap.size + 1, 3, none⟩ = some (.string t) := (blk_cell bkb 3).trans rfl
  have BKA := Aside0.mk bka
  have BKB := Aside0.mk bkb
  have BKC := Aside0.mk bkc
  clear bka bkb bkc hb1
  go_wp2_with fail
  refine (impl_ValueOK.calls k bK bN T t true _ HC1.out).mono ?_
  rintro e w2 ⟨rfl, hb2⟩
  have bka := blk_below BKA.out hb2
  have bkb := blk_below BKB.out hb2
  have bkc := blk_below BKC.out hb2
  clear hcb0 hcb1 hcb2 hcb3 BKA BKB BKC
  have HB2 := Aside0.mk (below_step HB.out hb2)
  clear HB
  have HB := HB2
  clear HB2
  have hca0 : w2.cell? ⟨w.heap.size, 0, none⟩ = some (.int .i64 aK) := (blk_cell bka 0).trans rfl
  have hca1 : w2.cell? ⟨w.heap.size, 1, none⟩ = some (.int .i64 aN) := (blk_cell bka 1).trans rfl
  have hcb0 : w2.cell? ⟨w.heap.size + 1, 0, none⟩ = some (.int .i64 bK) := (blk_cell bkb 0).trans rfl
  have hcb1 : w2.cell? ⟨w.heap.size + 1, 1, none⟩ = some (.int .i64 bN) := (blk_cell bkb 1).trans rfl
  have hcb2 : w2.cell? ⟨w.heap.size + 1, 2, none⟩ = some (.int .i64 T) := (blk_cell bkb 2).trans rfl
  have hcb3 : w2.cell? ⟨w.heap.size + 1, 3, none⟩ = some (.string t) := (blk_cell bkb 3).trans rfl
  have hcc0 : w2.cell? ⟨w.heap.size + 1 + 1, 0, none⟩ = some (.int .i64 0) := (blk_cell bkc 0).trans rfl
  have hcc1 : w2.cell? ⟨w.heap.size + 1 + 1, 1, none⟩ = some (.int .i64 0) := (blk_cell bkc 1).trans rfl
  have hcc2 : w2.cell? ⟨w.heap.size + 1 + 1, 2, none⟩ = some (.int .i64 0) := (blk_cell bkc 2).trans rfl
  have hcc3 : w2.cell? ⟨w.heap.size + 1 + 1, 3, none⟩ = some (.string (⟨#[]⟩ : ByteArray)) := (blk_cell bkc 3).trans rfl
  have hfc0 := blk_frozen bkc 0
  have hfc1 := blk_frozen bkc 1
  have hfc2 := blk_frozen bkc 2
  have hfc3 := blk_frozen bkc 3
  have BKA := Aside0.mk bka
  have BKB := Aside0.mk bkb
  have BKC := Aside0.mk bkc
  clear bka bkb bkc hb2
  go_wp2
  refine bodyPost_ret (results_ct rfl _ _ (w.heap.size + 1 + 1) 23 #[.int .i64 0, .int .i64 0, .int .i64 0, .string (⟨#[]⟩ : ByteArray)] (0, 0) _ rfl (blk_put (blk_put (blk_put (blk_put BKC.out 0 _ rfl) 1 _ rfl) 2 _ rfl) 3 _ rfl) Try.underlying23 rfl (by kernel_rfl)) rfl ?_
  exact ⟨rfl, below_set (below_set (below_set (below_set (HB.out) (by omega)) (by omega)) (by omega)) (by omega)⟩
set_option maxHeartbeats 8000000 in
set_option maxRecDepth 100000 in
theorem impl_Logic.e6 (k : Nat) (w : World) (op aK aN bK bN : Int) (S T : Int) (s t : ByteArray) (h1 : 1 ≤ op) (h2 : op ≤ 3) (h3 : aK ≤ 1) (h4 : 1 < bK) (ha : impl_ValueOK.f k aK aN S s = some true) (hb : impl_ValueOK.f k bK bN T t = some true) :
    Calls Try.prog 19 #[.int .i64 op, .agg #[.int .i64 aK, .int .i64 aN, .int .i64 S, .string s], .agg #[.int .i64 bK, .int .i64 bN, .int .i64 T, .string t]] w fun e w' => e = .returned (.tuple #[.agg #[.int .i64 0, .int .i64 0, .int .i64 0, .string (⟨#[]⟩ : ByteArray)], .int .i64 2]) ∧ Below w.heap.size w w' := by
  have hu := Try.underlying23
  have d1 : decide (op < 1) = false := decide_eq_false (by omega)
  have d2 : decide (3 < op) = false := decide_eq_false (by omega)
  have d3 : decide (1 < aK) = false := decide_eq_false (by omega)
  have d4 : decide (1 < bK) = true := decide_eq_true (by omega)
  clear h1 h2 h3 h4
  have HC0 := Aside0.mk ha
  clear ha
  have HC1 := Aside0.mk hb
  clear hb
  go_enter Try.func19, Try.ntmps19
  go_wp2_with fail
  refine (impl_ValueOK.calls k aK aN S s true _ HC0.out).mono ?_
  rintro e w1 ⟨rfl, hb1⟩
  have bka : w1.heap[w.heap.size]? = some (.cells #[.int .i64 aK, .int .i64 aN, .int .i64 S, .string s] 23 (0, 0)) := blk_below (blk_alloc (blk_alloc (heap_alloc_new w _) _) _) hb1
  have bkb : w1.heap[w.heap.size + 1]? = some (.cells #[.int .i64 bK, .int .i64 bN, .int .i64 T, .string t] 23 (0, 0)) := blk_below (blk_alloc (by simpa using heap_alloc_new (w.alloc _) _) _) hb1
  have bkc : w1.heap[w.heap.size + 1 + 1]? = some (.cells #[.int .i64 0, .int .i64 0, .int .i64 0, .string (⟨#[]⟩ : ByteArray)] 23 (0, 0)) := blk_below (by simpa using heap_alloc_new ((w.alloc _).alloc _) _) hb1
  have HB := Aside0.mk (show Below w.heap.size w w1 from below_step (below_alloc (below_alloc (below_alloc (Below.refl _ _) _) _) _) hb1)
  have hcb0 : w1.cell? ⟨w.heap.size + 1, 0, none⟩ = some (.int .i64 bK) := (blk_cell bkb 0).trans rfl
  have hcb1 : w1.cell? ⟨w.heap.size + 1, 1, none⟩ = some (.int .i64 bN) := (blk_cell bkb 1).trans rfl
  have hcb2 : w1.cell? ⟨w.heap.size + 1, 2, none⟩ = some (.int .i64 T) := (blk_cell bkb 2).trans rfl
  have hcb3 : w1.cell? ⟨w.heap.size + 1, 3, none⟩ = some (.string t) := (blk_cell bkb 3).trans rfl
  have BKA := Aside0.mk bka
  have BKB := Aside0.mk bkb
  have BKC := Aside0.mk bkc
  clear bka bkb bkc hb1
  go_wp2_with fail
  refine (impl_ValueOK.calls k bK bN T t true _ HC1.out).mono ?_
  rintro e w2 ⟨rfl, hb2⟩
  have bka := blk_below BKA.out hb2
  have bkb := blk_below BKB.out hb2
  have bkc := blk_below BKC.out hb2
  clear hcb0 hcb1 hcb2 hcb3 BKA BKB BKC
  have HB2 := Aside0.mk (below_step HB.out hb2)
  clear HB
  have HB := HB2
  clear HB2
  have hca0 : w2.cell? ⟨w.heap.size, 0, none⟩ = some (.int .i64 aK) := (blk_cell bka 0).trans rfl
  have hca1 : w2.cell? ⟨w.heap.size, 1, none⟩ = some (.int .i64 aN) := (blk_cell bka 1).trans rfl
  have hcb0 : w2.cell? ⟨w.heap.size + 1, 0, none⟩ = some (.int .i64 bK) := (blk_cell bkb 0).trans rfl
  have hcb1 : w2.cell? ⟨w.heap.size + 1, 1, none⟩ = some (.int .i64 bN) := (blk_cell bkb 1).trans rfl
  have hcb2 : w2.cell? ⟨w.heap.size + 1, 2, none⟩ = some (.int .i64 T) := (blk_cell bkb 2).trans rfl
  have hcb3 : w2.cell? ⟨w.heap.size + 1, 3, none⟩ = some (.string t) := (blk_cell bkb 3).trans rfl
  have hcc0 : w2.cell? ⟨w.heap.size + 1 + 1, 0, none⟩ = some (.int .i64 0) := (blk_cell bkc 0).trans rfl
  have hcc1 : w2.cell? ⟨w.heap.size + 1 + 1, 1, none⟩ = some (.int .i64 0) := (blk_cell bkc 1).trans rfl
  have hcc2 : w2.cell? ⟨w.heap.size + 1 + 1, 2, none⟩ = some (.int .i64 0) := (blk_cell bkc 2).trans rfl
  have hcc3 : w2.cell? ⟨w.heap.size + 1 + 1, 3, none⟩ = some (.string (⟨#[]⟩ : ByteArray)) := (blk_cell bkc 3).trans rfl
  have hfc0 := blk_frozen bkc 0
  have hfc1 := blk_frozen bkc 1
  have hfc2 := blk_frozen bkc 2
  have hfc3 := blk_frozen bkc 3
  have BKA := Aside0.mk bka
  have BKB := Aside0.mk bkb
  have BKC := Aside0.mk bkc
  clear bka bkb bkc hb2
  go_wp2
  refine bodyPost_ret (results_ct rfl _ _ (w.heap.size + 1 + 1) 23 #[.int .i64 0, .int .i64 0, .int .i64 0, .string (⟨#[]⟩ : ByteArray)] (0, 0) _ rfl (blk_put (blk_put (blk_put (blk_put BKC.out 0 _ rfl) 1 _ rfl) 2 _ rfl) 3 _ rfl) Try.underlying23 rfl (by kernel_rfl)) rfl ?_
  exact ⟨rfl, below_set (below_set (below_set (below_set (HB.out) (by omega)) (by omega)) (by omega)) (by omega)⟩
set_option maxHeartbeats 8000000 in
set_option maxRecDepth 100000 in
theorem impl_Logic.m10000 (k : Nat) (w : World) (S T : Int) (s t : ByteArray) (ha : impl_ValueOK.f k 0 0 S s = some true) (hb : impl_ValueOK.f k 0 0 T t = some true) :
    Calls Try.prog 19 #[.int .i64 1, .agg #[.int .i64 0, .int .i64 0, .int .i64 S, .string s], .agg #[.int .i64 0, .int .i64 0, .int .i64 T, .string t]] w fun e w' => e = .returned (.tuple #[.agg #[.int .i64 0, .int .i64 0, .int .i64 0, .string (⟨#[]⟩ : ByteArray)], .int .i64 0]) ∧ Below w.heap.size w w' := by
  have hu := Try.underlying23
  have HC0 := Aside0.mk ha
  clear ha
  have HC1 := Aside0.mk hb
  clear hb
  go_enter Try.func19, Try.ntmps19
  go_wp2_with fail
  refine (impl_ValueOK.calls k 0 0 S s true _ HC0.out).mono ?_
  rintro e w1 ⟨rfl, hb1⟩
  have bka : w1.heap[w.heap.size]? = some (.cells #[.int .i64 0, .int .i64 0, .int .i64 S, .string s] 23 (0, 0)) := blk_below (blk_alloc (blk_alloc (heap_alloc_new w _) _) _) hb1
  have bkb : w1.heap[w.heap.size + 1]? = some (.cells #[.int .i64 0, .int .i64 0, .int .i64 T, .string t] 23 (0, 0)) := blk_below (blk_alloc (by simpa using heap_alloc_new (w.alloc _) _) _) hb1
  have bkc : w1.heap[w.heap.size + 1 + 1]? = some (.cells #[.int .i64 0, .int .i64 0, .int .i64 0, .string (⟨#[]⟩ : ByteArray)] 23 (0, 0)) := blk_below (by simpa using heap_alloc_new ((w.alloc _).alloc _) _) hb1
  have HB := Aside0.mk (show Below w.heap.size w w1 from below_step (below_alloc (below_alloc (below_alloc (Below.refl _ _) _) _) _) hb1)
  have hcb0 : w1.cell? ⟨w.heap.size + 1, 0, none⟩ = some (.int .i64 0) := (blk_cell bkb 0).trans rfl
  have hcb1 : w1.cell? ⟨w.heap.size + 1, 1, none⟩ = some (.int .i64 0) := (blk_cell bkb 1).trans rfl
  have hcb2 : w1.cell? ⟨w.heap.size + 1, 2, none⟩ = some (.int .i64 T) := (blk_cell bkb 2).trans rfl
  have hcb3 : w1.cell? ⟨w.heap.size + 1, 3, none⟩ = some (.string t) := (blk_cell bkb 3).trans rfl
  have BKA := Aside0.mk bka
  have BKB := Aside0.mk bkb
  have BKC := Aside0.mk bkc
  clear bka bkb bkc hb1
  go_wp2_with fail
  refine (impl_ValueOK.calls k 0 0 T t true _ HC1.out).mono ?_
  rintro e w2 ⟨rfl, hb2⟩
  have bka := blk_below BKA.out hb2
  have bkb := blk_below BKB.out hb2
  have bkc := blk_below BKC.out hb2
  clear hcb0 hcb1 hcb2 hcb3 BKA BKB BKC
  have HB2 := Aside0.mk (below_step HB.out hb2)
  clear HB
  have HB := HB2
  clear HB2
  have hca0 : w2.cell? ⟨w.heap.size, 0, none⟩ = some (.int .i64 0) := (blk_cell bka 0).trans rfl
  have hca1 : w2.cell? ⟨w.heap.size, 1, none⟩ = some (.int .i64 0) := (blk_cell bka 1).trans rfl
  have hcb0 : w2.cell? ⟨w.heap.size + 1, 0, none⟩ = some (.int .i64 0) := (blk_cell bkb 0).trans rfl
  have hcb1 : w2.cell? ⟨w.heap.size + 1, 1, none⟩ = some (.int .i64 0) := (blk_cell bkb 1).trans rfl
  have hcb2 : w2.cell? ⟨w.heap.size + 1, 2, none⟩ = some (.int .i64 T) := (blk_cell bkb 2).trans rfl
  have hcb3 : w2.cell? ⟨w.heap.size + 1, 3, none⟩ = some (.string t) := (blk_cell bkb 3).trans rfl
  have hcc0 : w2.cell? ⟨w.heap.size + 1 + 1, 0, none⟩ = some (.int .i64 0) := (blk_cell bkc 0).trans rfl
  have hcc1 : w2.cell? ⟨w.heap.size + 1 + 1, 1, none⟩ = some (.int .i64 0) := (blk_cell bkc 1).trans rfl
  have hcc2 : w2.cell? ⟨w.heap.size + 1 + 1, 2, none⟩ = some (.int .i64 0) := (blk_cell bkc 2).trans rfl
  have hcc3 : w2.cell? ⟨w.heap.size + 1 + 1, 3, none⟩ = some (.string (⟨#[]⟩ : ByteArray)) := (blk_cell bkc 3).trans rfl
  have hfc0 := blk_frozen bkc 0
  have hfc1 := blk_frozen bkc 1
  have hfc2 := blk_frozen bkc 2
  have hfc3 := blk_frozen bkc 3
  have BKA := Aside0.mk bka
  have BKB := Aside0.mk bkb
  have BKC := Aside0.mk bkc
  clear bka bkb bkc hb2
  go_wp2
  refine bodyPost_ret (results_ct rfl _ _ (w.heap.size + 1 + 1) 23 #[.int .i64 0, .int .i64 0, .int .i64 0, .string (⟨#[]⟩ : ByteArray)] (0, 0) _ rfl (blk_put (blk_put (blk_put (blk_put BKC.out 0 _ rfl) 1 _ rfl) 2 _ rfl) 3 _ rfl) Try.underlying23 rfl (by kernel_rfl)) rfl ?_
  exact ⟨rfl, below_set (below_set (below_set (below_set (HB.out) (by omega)) (by omega)) (by omega)) (by omega)⟩
set_option maxHeartbeats 8000000 in
set_option maxRecDepth 100000 in
theorem impl_Logic.m10010 (k : Nat) (w : World) (S T : Int) (s t : ByteArray) (ha : impl_ValueOK.f k 0 0 S s = some true) (hb : impl_ValueOK.f k 1 0 T t = some true) :
    Calls Try.prog 19 #[.int .i64 1, .agg #[.int .i64 0, .int .i64 0, .int .i64 S, .string s], .agg #[.int .i64 1, .int .i64 0, .int .i64 T, .string t]] w fun e w' => e = .returned (.tuple #[.agg #[.int .i64 1, .int .i64 0, .int .i64 0, .string (⟨#[]⟩ : ByteArray)], .int .i64 0]) ∧ Below w.heap.size w w' := by
  have hu := Try.underlying23
  have HC0 := Aside0.mk ha
  clear ha
  have HC1 := Aside0.mk hb
  clear hb
  go_enter Try.func19, Try.ntmps19
  go_wp2_with fail
  refine (impl_ValueOK.calls k 0 0 S s true _ HC0.out).mono ?_
  rintro e w1 ⟨rfl, hb1⟩
  have bka : w1.heap[w.heap.size]? = some (.cells #[.int .i64 0, .int .i64 0, .int .i64 S, .string s] 23 (0, 0)) := blk_below (blk_alloc (blk_alloc (heap_alloc_new w _) _) _) hb1
  have bkb : w1.heap[w.heap.size + 1]? = some (.cells #[.int .i64 1, .int .i64 0, .int .i64 T, .string t] 23 (0, 0)) := blk_below (blk_alloc (by simpa using heap_alloc_new (w.alloc _) _) _) hb1
  have bkc : w1.heap[w.heap.size + 1 + 1]? = some (.cells #[.int .i64 0, .int .i64 0, .int .i64 0, .string (⟨#[]⟩ : ByteArray)] 23 (0, 0)) := blk_below (by simpa using heap_alloc_new ((w.alloc _).alloc _) _) hb1
  have HB := Aside0.mk (show Below w.heap.size w w1 from below_step (below_alloc (below_alloc (below_alloc (Below.refl _ _) _) _) _) hb1)
  have hcb0 : w1.cell? ⟨w.heap.size + 1, 0, none⟩ = some (.int .i64 1) := (blk_cell bkb 0).trans rfl
  have hcb1 : w1.cell? ⟨w.heap.size + 1, 1, none⟩ = some (.int .i64 0) := (blk_cell bkb 1).trans rfl
  have hcb2 : w1.cell? ⟨w.heap.size + 1, 2, none⟩ = some (.int .i64 T) := (blk_cell bkb 2).trans rfl
  have hcb3 : w1.cell? ⟨w.heap.size + 1, 3, none⟩ = some (.string t) := (blk_cell bkb 3).trans rfl
  have BKA := Aside0.mk bka
  have BKB := Aside0.mk bkb
  have BKC := Aside0.mk bkc
  clear bka bkb bkc hb1
  go_wp2_with fail
  refine (impl_ValueOK.calls k 1 0 T t true _ HC1.out).mono ?_
  rintro e w2 ⟨rfl, hb2⟩
  have bka := blk_below BKA.out hb2
  have bkb := blk_below BKB.out hb2
  have bkc := blk_below BKC.out hb2
  clear hcb0 hcb1 hcb2 hcb3 BKA BKB BKC
  have HB2 := Aside0.mk (below_step HB.out hb2)
  clear HB
  have HB := HB2
  clear HB2
  have hca0 : w2.cell? ⟨w.heap.size, 0, none⟩ = some (.int .i64 0) := (blk_cell bka 0).trans rfl
  have hca1 : w2.cell? ⟨w.heap.size, 1, none⟩ = some (.int .i64 0) := (blk_cell bka 1).trans rfl
  have hcb0 : w2.cell? ⟨w.heap.size + 1, 0, none⟩ = some (.int .i64 1) := (blk_cell bkb 0).trans rfl
  have hcb1 : w2.cell? ⟨w.heap.size + 1, 1, none⟩ = some (.int .i64 0) := (blk_cell bkb 1).trans rfl
  have hcb2 : w2.cell? ⟨w.heap.size + 1, 2, none⟩ = some (.int .i64 T) := (blk_cell bkb 2).trans rfl
  have hcb3 : w2.cell? ⟨w.heap.size + 1, 3, none⟩ = some (.string t) := (blk_cell bkb 3).trans rfl
  have hcc0 : w2.cell? ⟨w.heap.size + 1 + 1, 0, none⟩ = some (.int .i64 0) := (blk_cell bkc 0).trans rfl
  have hcc1 : w2.cell? ⟨w.heap.size + 1 + 1, 1, none⟩ = some (.int .i64 0) := (blk_cell bkc 1).trans rfl
  have hcc2 : w2.cell? ⟨w.heap.size + 1 + 1, 2, none⟩ = some (.int .i64 0) := (blk_cell bkc 2).trans rfl
  have hcc3 : w2.cell? ⟨w.heap.size + 1 + 1, 3, none⟩ = some (.string (⟨#[]⟩ : ByteArray)) := (blk_cell bkc 3).trans rfl
  have hfc0 := blk_frozen bkc 0
  have hfc1 := blk_frozen bkc 1
  have hfc2 := blk_frozen bkc 2
  have hfc3 := blk_frozen bkc 3
  have BKA := Aside0.mk bka
  have BKB := Aside0.mk bkb
  have BKC := Aside0.mk bkc
  clear bka bkb bkc hb2
  go_wp2
  refine bodyPost_ret (results_ct rfl _ _ (w.heap.size + 1 + 1) 23 #[.int .i64 1, .int .i64 0, .int .i64 0, .string (⟨#[]⟩ : ByteArray)] (0, 0) _ rfl (blk_put (blk_put (blk_put (blk_put BKC.out 0 _ rfl) 1 _ rfl) 2 _ rfl) 3 _ rfl) Try.underlying23 rfl (by kernel_rfl)) rfl ?_
  exact ⟨rfl, below_set (below_set (below_set (below_set (HB.out) (by omega)) (by omega)) (by omega)) (by omega)⟩
set_option maxHeartbeats 8000000 in
set_option maxRecDepth 100000 in
theorem impl_Logic.m10011 (k : Nat) (w : World) (S T : Int) (s t : ByteArray) (ha : impl_ValueOK.f k 0 0 S s = some true) (hb : impl_ValueOK.f k 1 1 T t = some true) :
    Calls Try.prog 19 #[.int .i64 1, .agg #[.int .i64 0, .int .i64 0, .int .i64 S, .string s], .agg #[.int .i64 1, .int .i64 1, .int .i64 T, .string t]] w fun e w' => e = .returned (.tuple #[.agg #[.int .i64 0, .int .i64 0, .int .i64 0, .string (⟨#[]⟩ : ByteArray)], .int .i64 0]) ∧ Below w.heap.size w w' := by
  have hu := Try.underlying23
  have HC0 := Aside0.mk ha
  clear ha
  have HC1 := Aside0.mk hb
  clear hb
  go_enter Try.func19, Try.ntmps19
  go_wp2_with fail
  refine (impl_ValueOK.calls k 0 0 S s true _ HC0.out).mono ?_
  rintro e w1 ⟨rfl, hb1⟩
  have bka : w1.heap[w.heap.size]? = some (.cells #[.int .i64 0, .int .i64 0, .int .i64 S, .string s] 23 (0, 0)) := blk_below (blk_alloc (blk_alloc (heap_alloc_new w _) _) _) hb1
  have bkb : w1.heap[w.heap.size + 1]? = some (.cells #[.int .i64 1, .int .i64 1, .int .i64 T, .string t] 23 (0, 0)) := blk_below (blk_alloc (by simpa using heap_alloc_new (w.alloc _) _) _) hb1
  have bkc : w1.heap[w.heap.size + 1 + 1]? = some (.cells #[.int .i64 0, .int .i64 0, .int .i64 0, .string (⟨#[]⟩ : ByteArray)] 23 (0, 0)) := blk_below (by simpa using heap_alloc_new ((w.alloc _).alloc _) _) hb1
  have HB := Aside0.mk (show Below w.heap.size w w1 from below_step (below_alloc (below_alloc (below_alloc (Below.refl _ _) _) _) _) hb1)
  have hcb0 : w1.cell? ⟨w.heap.size + 1, 0, none⟩ = some (.int .i64 1) := (blk_cell bkb 0).trans rfl
  have hcb1 : w1.cell? ⟨w.heap.size + 1, 1, none⟩ = some (.int .i64 1) := (blk_cell bkb 1).trans rfl
  have hcb2 : w1.cell? ⟨w.heap.size + 1, 2, none⟩ = some (.int .i64 T) := (blk_cell bkb 2).trans rfl
  have hcb3 : w1.cell? ⟨w.heap.size + 1, 3, none⟩ = some (.string t) := (blk_cell bkb 3).trans rfl
  have BKA := Aside0.mk bka
  have BKB := Aside0.mk bkb
  have BKC := Aside0.mk bkc
  clear bka bkb bkc hb1
  go_wp2_with fail
  refine (impl_ValueOK.calls k 1 1 T t true _ HC1.out).mono ?_
  rintro e w2 ⟨rfl, hb2⟩
  have bka := blk_below BKA.out hb2
  have bkb := blk_below BKB.out hb2
  have bkc := blk_below BKC.out hb2
  clear hcb0 hcb1 hcb2 hcb3 BKA BKB BKC
  have HB2 := Aside0.mk (below_step HB.out hb2)
  clear HB
  have HB := HB2
  clear HB2
  have hca0 : w2.cell? ⟨w.heap.size, 0, none⟩ = some (.int .i64 0) := (blk_cell bka 0).trans rfl
  have hca1 : w2.cell? ⟨w.heap.size, 1, none⟩ = some (.int .i64 0) := (blk_cell bka 1).trans rfl
  have hcb0 : w2.cell? ⟨w.heap.size + 1, 0, none⟩ = some (.int .i64 1) := (blk_cell bkb 0).trans rfl
  have hcb1 : w2.cell? ⟨w.heap.size + 1, 1, none⟩ = some (.int .i64 1) := (blk_cell bkb 1).trans rfl
  have hcb2 : w2.cell? ⟨w.heap.size + 1, 2, none⟩ = some (.int .i64 T) := (blk_cell bkb 2).trans rfl
  have hcb3 : w2.cell? ⟨w.heap.size + 1, 3, none⟩ = some (.string t) := (blk_cell bkb 3).trans rfl
  have hcc0 : w2.cell? ⟨w.heap.size + 1 + 1, 0, none⟩ = some (.int .i64 0) := (blk_cell bkc 0).trans rfl
  have hcc1 : w2.cell? ⟨w.heap.size + 1 + 1, 1, none⟩ = some (.int .i64 0) := (blk_cell bkc 1).trans rfl
  have hcc2 : w2.cell? ⟨w.heap.size + 1 + 1, 2, none⟩ = some (.int .i64 0) := (blk_cell bkc 2).trans rfl
  have hcc3 : w2.cell? ⟨w.heap.size + 1 + 1, 3, none⟩ = some (.string (⟨#[]⟩ : ByteArray)) := (blk_cell bkc 3).trans rfl
  have hfc0 := blk_frozen bkc 0
  have hfc1 := blk_frozen bkc 1
  have hfc2 := blk_frozen bkc 2
  have hfc3 := blk_frozen bkc 3
  have BKA := Aside0.mk bka
  have BKB := Aside0.mk bkb
  have BKC := Aside0.mk bkc
  clear bka bkb bkc hb2
  go_wp2
  refine bodyPost_ret (results_ct rfl _ _ (w.heap.size + 1 + 1) 23 #[.int .i64 0, .int .i64 0, .int .i64 0, .string (⟨#[]⟩ : ByteArray)] (0, 0) _ rfl (blk_put (blk_put (blk_put (blk_put BKC.out 0 _ rfl) 1 _ rfl) 2 _ rfl) 3 _ rfl) Try.underlying23 rfl (by kernel_rfl)) rfl ?_
  exact ⟨rfl, below_set (below_set (below_set (below_set (HB.out) (by omega)) (by omega)) (by omega)) (by omega)⟩
set_option maxHeartbeats 8000000 in
set_option maxRecDepth 100000 in
theorem impl_Logic.m11000 (k : Nat) (w : World) (S T : Int) (s t : ByteArray) (ha : impl_ValueOK.f k 1 0 S s = some true) (hb : impl_ValueOK.f k 0 0 T t = some true) :
    Calls Try.prog 19 #[.int .i64 1, .agg #[.int .i64 1, .int .i64 0, .int .i64 S, .string s], .agg #[.int .i64 0, .int .i64 0, .int .i64 T, .string t]] w fun e w' => e = .returned (.tuple #[.agg #[.int .i64 1, .int .i64 0, .int .i64 0, .string (⟨#[]⟩ : ByteArray)], .int .i64 0]) ∧ Below w.heap.size w w' := by
  have hu := Try.underlying23
  have HC0 := Aside0.mk ha
  clear ha
  have HC1 := Aside0.mk hb
  clear hb
  go_enter Try.func19, Try.ntmps19
  go_wp2_with fail
  refine (impl_ValueOK.calls k 1 0 S s true _ HC0.out).mono ?_
  rintro e w1 ⟨rfl, hb1⟩
  have bka : w1.heap[w.heap.size]? = some (.cells #[.int .i64 1, .int .i64 0, .int .i64 S, .string s] 23 (0, 0)) := blk_below (blk_alloc (blk_alloc (heap_alloc_new w _) _) _) hb1
  have bkb : w1.heap[w.heap.size + 1]? = some (.cells #[.int .i64 0, .int .i64 0, .int .i64 T, .string t] 23 (0, 0)) := blk_below (blk_alloc (by simpa using heap_alloc_new (w.alloc _) _) _) hb1
  have bkc : w1.heap[w.heap.size + 1 + 1]? = some (.cells #[.int .i64 0, .int .i64 0, .int .i64 0, .string (⟨#[]⟩ : ByteArray)] 23 (0, 0)) := blk_below (by simpa using heap_alloc_new ((w.alloc _).alloc _) _) hb1
  have HB := Aside0.mk (show Below w.heap.size w w1 from below_step (below_alloc (below_alloc (below_alloc (Below.refl _ _) _) _) _) hb1)
  have hcb0 : w1.cell? ⟨w.heap.size + 1, 0, none⟩ = some (.int .i64 0) := (blk_cell bkb 0).trans rfl
  have hcb1 : w1.cell? ⟨w.heap.size + 1, 1, none⟩ = some (.int .i64 0) := (blk_cell bkb 1).trans rfl
  have hcb2 : w1.cell? ⟨w.heap.size + 1, 2, none⟩ = some (.int .i64 T) := (blk_cell bkb 2).trans rfl
  have hcb3 : w1.cell? ⟨w.heap.size + 1, 3, none⟩ = some (.string t) := (blk_cell bkb 3).trans rfl
  have BKA := Aside0.mk bka
  have BKB := Aside0.mk bkb
  have BKC := Aside0.mk bkc
  clear bka bkb bkc hb1
  go_wp2_with fail
  refine (impl_ValueOK.calls k 0 0 T t true _ HC1.out).mono ?_
  rintro e w2 ⟨rfl, hb2⟩
  have bka := blk_below BKA.out hb2
  have bkb := blk_below BKB.out hb2
  have bkc := blk_below BKC.out hb2
  clear hcb0 hcb1 hcb2 hcb3 BKA BKB BKC
  have HB2 := Aside0.mk (below_step HB.out hb2)
  clear HB
  have HB := HB2
  clear HB2
  have hca0 : w2.cell? ⟨w.heap.size, 0, none⟩ = some (.int .i64 1) := (blk_cell bka 0).trans rfl
  have hca1 : w2.cell? ⟨w.heap.size, 1, none⟩ = some (.int .i64 0) := (blk_cell bka 1).trans rfl
  have hcb0 : w2.cell? ⟨w.heap.size + 1, 0, none⟩ = some (.int .i64 0) := (blk_cell bkb 0).trans rfl
  have hcb1 : w2.cell? ⟨w.heap.size + 1, 1, none⟩ = some (.int .i64 0) := (blk_cell bkb 1).trans rfl
  have hcb2 : w2.cell? ⟨w.heap.size + 1, 2, none⟩ = some (.int .i64 T) := (blk_cell bkb 2).trans rfl
  have hcb3 : w2.cell? ⟨w.heap.size + 1, 3, none⟩ = some (.string t) := (blk_cell bkb 3).trans rfl
  have hcc0 : w2.cell? ⟨w.heap.size + 1 + 1, 0, none⟩ = some (.int .i64 0) := (blk_cell bkc 0).trans rfl
  have hcc1 : w2.cell? ⟨w.heap.size + 1 + 1, 1, none⟩ = some (.int .i64 0) := (blk_cell bkc 1).trans rfl
  have hcc2 : w2.cell? ⟨w.heap.size + 1 + 1, 2, none⟩ = some (.int .i64 0) := (blk_cell bkc 2).trans rfl
  have hcc3 : w2.cell? ⟨w.heap.size + 1 + 1, 3, none⟩ = some (.string (⟨#[]⟩ : ByteArray)) := (blk_cell bkc 3).trans rfl
  have hfc0 := blk_frozen bkc 0
  have hfc1 := blk_frozen bkc 1
  have hfc2 := blk_frozen bkc 2
  have hfc3 := blk_frozen bkc 3
  have BKA := Aside0.mk bka
  have BKB := Aside0.mk bkb
  have BKC := Aside0.mk bkc
  clear bka bkb bkc hb2
  go_wp2
  refine bodyPost_ret (results_ct rfl _ _ (w.heap.size + 1 + 1) 23 #[.int .i64 1, .int .i64 0, .int .i64 0, .string (⟨#[]⟩ : ByteArray)] (0, 0) _ rfl (blk_put (blk_put (blk_put (blk_put BKC.out 0 _ rfl) 1 _ rfl) 2 _ rfl) 3 _ rfl) Try.underlying23 rfl (by kernel_rfl)) rfl ?_
  exact ⟨rfl, below_set (below_set (below_set (below_set (HB.out) (by omega)) (by omega)) (by omega)) (by omega)⟩
set_option maxHeartbeats 8000000 in
set_option maxRecDepth 100000 in
theorem impl_Logic.m11010 (k : Nat) (w : World) (S T : Int) (s t : ByteArray) (ha : impl_ValueOK.f k 1 0 S s = some true) (hb : impl_ValueOK.f k 1 0 T t = some true) :
    Calls Try.prog 19 #[.int .i64 1, .agg #[.int .i64 1, .int .i64 0, .int .i64 S, .string s], .agg #[.int .i64 1, .int .i64 0, .int .i64 T, .string t]] w fun e w' => e = .returned (.tuple #[.agg #[.int .i64 1, .int .i64 0, .int .i64 0, .string (⟨#[]⟩ : ByteArray)], .int .i64 0]) ∧ Below w.heap.size w w' := by
  have hu := Try.underlying23
  have HC0 := Aside0.mk ha
  clear ha
  have HC1 := Aside0.mk hb
  clear hb
  go_enter Try.func19, Try.ntmps19
  go_wp2_with fail
  refine (impl_ValueOK.calls k 1 0 S s true _ HC0.out).mono ?_
  rintro e w1 ⟨rfl, hb1⟩
  have bka : w1.heap[w.heap.size]? = some (.cells #[.int .i64 1, .int .i64 0, .int .i64 S, .string s] 23 (0, 0)) := blk_below (blk_alloc (blk_alloc (heap_alloc_new w _) _) _) hb1
  have bkb : w1.heap[w.heap.size + 1]? = some (.cells #[.int .i64 1, .int .i64 0, .int .i64 T, .string t] 23 (0, 0)) := blk_below (blk_alloc (by simpa using heap_alloc_new (w.alloc _) _) _) hb1
  have bkc : w1.heap[w.heap.size + 1 + 1]? = some (.cells #[.int .i64 0, .int .i64 0, .int .i64 0, .string (⟨#[]⟩ : ByteArray)] 23 (0, 0)) := blk_below (by simpa using heap_alloc_new ((w.alloc _).alloc _) _) hb1
  have HB := Aside0.mk (show Below w.heap.size w w1 from below_step (below_alloc (below_alloc (below_alloc (Below.refl _ _) _) _) _) hb1)
  have hcb0 : w1.cell? ⟨w.heap.size + 1, 0, none⟩ = some (.int .i64 1) := (blk_cell bkb 0).trans rfl
  have hcb1 : w1.cell? ⟨w.heap.size + 1, 1, none⟩ = some (.int .i64 0) := (blk_cell bkb 1).trans rfl
  have hcb2 : w1.cell? ⟨w.heap.size + 1, 2, none⟩ = some (.int .i64 T) := (blk_cell bkb 2).trans rfl
  have hcb3 : w1.cell? ⟨w.heap.size + 1, 3, none⟩ = some (.string t) := (blk_cell bkb 3).trans rfl
  have BKA := Aside0.mk bka
  have BKB := Aside0.mk bkb
  have BKC := Aside0.mk bkc
  clear bka bkb bkc hb1
  go_wp2_with fail
  refine (impl_ValueOK.calls k 1 0 T t true _ HC1.out).mono ?_
  rintro e w2 ⟨rfl, hb2⟩
  have bka := blk_below BKA.out hb2
  have bkb := blk_below BKB.out hb2
  have bkc := blk_below BKC.out hb2
  clear hcb0 hcb1 hcb2 hcb3 BKA BKB BKC
  have HB2 := Aside0.mk (below_step HB.out hb2)
  clear HB
  have HB := HB2
  clear HB2
  have hca0 : w2.cell? ⟨w.heap.size, 0, none⟩ = some (.int .i64 1) := (blk_cell bka 0).trans rfl
  have hca1 : w2.cell? ⟨w.heap.size, 1, none⟩ = some (.int .i64 0) := (blk_cell bka 1).trans rfl
  have hcb0 : w2.cell? ⟨w.heap.size + 1, 0, none⟩ = some (.int .i64 1) := (blk_cell bkb 0).trans rfl
  have hcb1 : w2.cell? ⟨w.heap.size + 1, 1, none⟩ = some (.int .i64 0) := (blk_cell bkb 1).trans rfl
  have hcb2 : w2.cell? ⟨w.heap.size + 1, 2, none⟩ = some (.int .i64 T) := (blk_cell bkb 2).trans rfl
  have hcb3 : w2.cell? ⟨w.heap.size + 1, 3, none⟩ = some (.string t) := (blk_cell bkb 3).trans rfl
  have hcc0 : w2.cell? ⟨w.heap.size + 1 + 1, 0, none⟩ = some (.int .i64 0) := (blk_cell bkc 0).trans rfl
  have hcc1 : w2.cell? ⟨w.heap.size + 1 + 1, 1, none⟩ = some (.int .i64 0) := (blk_cell bkc 1).trans rfl
  have hcc2 : w2.cell? ⟨w.heap.size + 1 + 1, 2, none⟩ = some (.int .i64 0) := (blk_cell bkc 2).trans rfl
  have hcc3 : w2.cell? ⟨w.heap.size + 1 + 1, 3, none⟩ = some (.string (⟨#[]⟩ : ByteArray)) := (blk_cell bkc 3).trans rfl
  have hfc0 := blk_frozen bkc 0
  have hfc1 := blk_frozen bkc 1
  have hfc2 := blk_frozen bkc 2
  have hfc3 := blk_frozen bkc 3
  have BKA := Aside0.mk bka
  have BKB := Aside0.mk bkb
  have BKC := Aside0.mk bkc
  clear bka bkb bkc hb2
  go_wp2
  refine bodyPost_ret (results_ct rfl _ _ (w.heap.size + 1 + 1) 23 #[.int .i64 1, .int .i64 0, .int .i64 0, .string (⟨#[]⟩ : ByteArray)] (0, 0) _ rfl (blk_put (blk_put (blk_put (blk_put BKC.out 0 _ rfl) 1 _ rfl) 2 _ rfl) 3 _ rfl) Try.underlying23 rfl (by kernel_rfl)) rfl ?_
  exact ⟨rfl, below_set (below_set (below_set (below_set (HB.out) (by omega)) (by omega)) (by omega)) (by omega)⟩
set_option maxHeartbeats 8000000 in
set_option maxRecDepth 100000 in
theorem impl_Logic.m11011 (k : Nat) (w : World) (S T : Int) (s t : ByteArray) (ha : impl_ValueOK.f k 1 0 S s = some true) (hb : impl_ValueOK.f k 1 1 T t = some true) :
    Calls Try.prog 19 #[.int .i64 1, .agg #[.int .i64 1, .int .i64 0, .int .i64 S, .string s], .agg #[.int .i64 1, .int .i64 1, .int .i64 T, .string t]] w fun e w' => e = .returned (.tuple #[.agg #[.int .i64 1, .int .i64 0, .int .i64 0, .string (⟨#[]⟩ : ByteArray)], .int .i64 0]) ∧ Below w.heap.size w w' := by
  have hu := Try.underlying23
  have HC0 := Aside0.mk ha
  clear ha
  have HC1 := Aside0.mk hb
  clear hb
  go_enter Try.func19, Try.ntmps19
  go_wp2_with fail
  refine (impl_ValueOK.calls k 1 0 S s true _ HC0.out).mono ?_
  rintro e w1 ⟨rfl, hb1⟩
  have bka : w1.heap[w.heap.size]? = some (.cells #[.int .i64 1, .int .i64 0, .int .i64 S, .string s] 23 (0, 0)) := blk_below (blk_alloc (blk_alloc (heap_alloc_new w _) _) _) hb1
  have bkb : w1.heap[w.heap.size + 1]? = some (.cells #[.int .i64 1, .int .i64 1, .int .i64 T, .string t] 23 (0, 0)) := blk_below (blk_alloc (by simpa using heap_alloc_new (w.alloc _) _) _) hb1
  have bkc : w1.heap[w.heap.size + 1 + 1]? = some (.cells #[.int .i64 0, .int .i64 0, .int .i64 0, .string (⟨#[]⟩ : ByteArray)] 23 (0, 0)) := blk_below (by simpa using heap_alloc_new ((w.alloc _).alloc _) _) hb1
  have HB := Aside0.mk (show Below w.heap.size w w1 from below_step (below_alloc (below_alloc (below_alloc (Below.refl _ _) _) _) _) hb1)
  have hcb0 : w1.cell? ⟨w.heap.size + 1, 0, none⟩ = some (.int .i64 1) := (blk_cell bkb 0).trans rfl
  have hcb1 : w1.cell? ⟨w.heap.size + 1, 1, none⟩ = some (.int .i64 1) := (blk_cell bkb 1).trans rfl
  have hcb2 : w1.cell? ⟨w.heap.size + 1, 2, none⟩ = some (.int .i64 T) := (blk_cell bkb 2).trans rfl
  have hcb3 : w1.cell? ⟨w.heap.size + 1, 3, none⟩ = some (.string t) := (blk_cell bkb 3).trans rfl
  have BKA := Aside0.mk bka
  have BKB := Aside0.mk bkb
  have BKC := Aside0.mk bkc
  clear bka bkb bkc hb1
  go_wp2_with fail
  refine (impl_ValueOK.calls k 1 1 T t true _ HC1.out).mono ?_
  rintro e w2 ⟨rfl, hb2⟩
  have bka := blk_below BKA.out hb2
  have bkb := blk_below BKB.out hb2
  have bkc := blk_below BKC.out hb2
  clear hcb0 hcb1 hcb2 hcb3 BKA BKB BKC
  have HB2 := Aside0.mk (below_step HB.out hb2)
  clear HB
  have HB := HB2
  clear HB2
  have hca0 : w2.cell? ⟨w.heap.size, 0, none⟩ = some (.int .i64 1) := (blk_cell bka 0).trans rfl
  have hca1 : w2.cell? ⟨w.heap.size, 1, none⟩ = some (.int .i64 0) := (blk_cell bka 1).trans rfl
  have hcb0 : w2.cell? ⟨w.heap.size + 1, 0, none⟩ = some (.int .i64 1) := (blk_cell bkb 0).trans rfl
  have hcb1 : w2.cell? ⟨w.heap.size + 1, 1, none⟩ = some (.int .i64 1) := (blk_cell bkb 1).trans rfl
  have hcb2 : w2.cell? ⟨w.heap.size + 1, 2, none⟩ = some (.int .i64 T) := (blk_cell bkb 2).trans rfl
  have hcb3 : w2.cell? ⟨w.heap.size + 1, 3, none⟩ = some (.string t) := (blk_cell bkb 3).trans rfl
  have hcc0 : w2.cell? ⟨w.heap.size + 1 + 1, 0, none⟩ = some (.int .i64 0) := (blk_cell bkc 0).trans rfl
  have hcc1 : w2.cell? ⟨w.heap.size + 1 + 1, 1, none⟩ = some (.int .i64 0) := (blk_cell bkc 1).trans rfl
  have hcc2 : w2.cell? ⟨w.heap.size + 1 + 1, 2, none⟩ = some (.int .i64 0) := (blk_cell bkc 2).trans rfl
  have hcc3 : w2.cell? ⟨w.heap.size + 1 + 1, 3, none⟩ = some (.string (⟨#[]⟩ : ByteArray)) := (blk_cell bkc 3).trans rfl
  have hfc0 := blk_frozen bkc 0
  have hfc1 := blk_frozen bkc 1
  have hfc2 := blk_frozen bkc 2
  have hfc3 := blk_frozen bkc 3
  have BKA := Aside0.mk bka
  have BKB := Aside0.mk bkb
  have BKC := Aside0.mk bkc
  clear bka bkb bkc hb2
  go_wp2
  refine bodyPost_ret (results_ct rfl _ _ (w.heap.size + 1 + 1) 23 #[.int .i64 1, .int .i64 0, .int .i64 0, .string (⟨#[]⟩ : ByteArray)] (0, 0) _ rfl (blk_put (blk_put (blk_put (blk_put BKC.out 0 _ rfl) 1 _ rfl) 2 _ rfl) 3 _ rfl) Try.underlying23 rfl (by kernel_rfl)) rfl ?_
  exact ⟨rfl, below_set (below_set (below_set (below_set (HB.out) (by omega)) (by omega)) (by omega)) (by omega)⟩
set_option maxHeartbeats 8000000 in
set_option maxRecDepth 100000 in
theorem impl_Logic.m11100 (k : Nat) (w : World) (S T : Int) (s t : ByteArray) (ha : impl_ValueOK.f k 1 1 S s = some true) (hb : impl_ValueOK.f k 0 0 T t = some true) :
    Calls Try.prog 19 #[.int .i64 1, .agg #[.int .i64 1, .int .i64 1, .int .i64 S, .string s], .agg #[.int .i64 0, .int .i64 0, .int .i64 T, .string t]] w fun e w' => e = .returned (.tuple #[.agg #[.int .i64 0, .int .i64 0, .int .i64 0, .string (⟨#[]⟩ : ByteArray)], .int .i64 0]) ∧ Below w.heap.size w w' := by
  have hu := Try.underlying23
  have HC0 := Aside0.mk ha
  clear ha
  have HC1 := Aside0.mk hb
  clear hb
  go_enter Try.func19, Try.ntmps19
  go_wp2_with fail
  refine (impl_ValueOK.calls k 1 1 S s true _ HC0.out).mono ?_
  rintro e w1 ⟨rfl, hb1⟩
  have bka : w1.heap[w.heap.size]? = some (.cells #[.int .i64 1, .int .i64 1, .int .i64 S, .string s] 23 (0, 0)) := blk_below (blk_alloc (blk_alloc (heap_alloc_new w _) _) _) hb1
  have bkb : w1.heap[w.heap.size + 1]? = some (.cells #[.int .i64 0, .int .i64 0, .int .i64 T, .string t] 23 (0, 0)) := blk_below (blk_alloc (by simpa using heap_alloc_new (w.alloc _) _) _) hb1
  have bkc : w1.heap[w.heap.size + 1 + 1]? = some (.cells #[.int .i64 0, .int .i64 0, .int .i64 0, .string (⟨#[]⟩ : ByteArray)] 23 (0, 0)) := blk_below (by simpa using heap_alloc_new ((w.alloc _).alloc _) _) hb1
  have HB := Aside0.mk (show Below w.heap.size w w1 from below_step (below_alloc (below_alloc (below_alloc (Below.refl _ _) _) _) _) hb1)
  have hcb0 : w1.cell? ⟨w.heap.size + 1, 0, none⟩ = some (.int .i64 0) := (blk_cell bkb 0).trans rfl
  have hcb1 : w1.cell? ⟨w.heap.size + 1, 1, none⟩ = some (.int .i64 0) := (blk_cell bkb 1).trans rfl
  have hcb2 : w1.cell? ⟨w.heap.size + 1, 2, none⟩ = some (.int .i64 T) := (blk_cell bkb 2).trans rfl
  have hcb3 : w1.cell? ⟨w.heap.size + 1, 3, none⟩ = some (.string t) := (blk_cell bkb 3).trans rfl
  have BKA := Aside0.mk bka
  have BKB := Aside0.mk bkb
  have BKC := Aside0.mk bkc
  clear bka bkb bkc hb1
  go_wp2_with fail
  refine (impl_ValueOK.calls k 0 0 T t true _ HC1.out).mono ?_
  rintro e w2 ⟨rfl, hb2⟩
  have bka := blk_below BKA.out hb2
  have bkb := blk_below BKB.out hb2
  have bkc := blk_below BKC.out hb2
  clear hcb0 hcb1 hcb2 hcb3 BKA BKB BKC
  have HB2 := Aside0.mk (below_step HB.out hb2)
  clear HB
  have HB := HB2
  clear HB2
  have hca0 : w2.cell? ⟨w.heap.size, 0, none⟩ = some (.int .i64 1) := (blk_cell bka 0).trans rfl
  have hca1 : w2.cell? ⟨w.heap.size, 1, none⟩ = some (.int .i64 1) := (blk_cell bka 1).trans rfl
  have hcb0 : w2.cell? ⟨w.heap.size + 1, 0, none⟩ = some (.int .i64 0) := (blk_cell bkb 0).trans rfl
  have hcb1 : w2.cell? ⟨w.heap.size + 1, 1, none⟩ = some (.int .i64 0) := (blk_cell bkb 1).trans rfl
  have hcb2 : w2.cell? ⟨w.heap.size + 1, 2, none⟩ = some (.int .i64 T) := (blk_cell bkb 2).trans rfl
  have hcb3 : w2.cell? ⟨w.heap.size + 1, 3, none⟩ = some (.string t) := (blk_cell bkb 3).trans rfl
  have hcc0 : w2.cell? ⟨w.heap.size + 1 + 1, 0, none⟩ = some (.int .i64 0) := (blk_cell bkc 0).trans rfl
  have hcc1 : w2.cell? ⟨w.heap.size + 1 + 1, 1, none⟩ = some (.int .i64 0) := (blk_cell bkc 1).trans rfl
  have hcc2 : w2.cell? ⟨w.heap.size + 1 + 1, 2, none⟩ = some (.int .i64 0) := (blk_cell bkc 2).trans rfl
  have hcc3 : w2.cell? ⟨w.heap.size + 1 + 1, 3, none⟩ = some (.string (⟨#[]⟩ : ByteArray)) := (blk_cell bkc 3).trans rfl
  have hfc0 := blk_frozen bkc 0
  have hfc1 := blk_frozen bkc 1
  have hfc2 := blk_frozen bkc 2
  have hfc3 := blk_frozen bkc 3
  have BKA := Aside0.mk bka
  have BKB := Aside0.mk bkb
  have BKC := Aside0.mk bkc
  clear bka bkb bkc hb2
  go_wp2
  refine bodyPost_ret (results_ct rfl _ _ (w.heap.size + 1 + 1) 23 #[.int .i64 0, .int .i64 0, .int .i64 0, .string (⟨#[]⟩ : ByteArray)] (0, 0) _ rfl (blk_put (blk_put (blk_put (blk_put BKC.out 0 _ rfl) 1 _ rfl) 2 _ rfl) 3 _ rfl) Try.underlying23 rfl (by kernel_rfl)) rfl ?_
  exact ⟨rfl, below_set (below_set (below_set (below_set (HB.out) (by omega)) (by omega)) (by omega)) (by omega)⟩
set_option maxHeartbeats 8000000 in
set_option maxRecDepth 100000 in
theorem impl_Logic.m11110 (k : Nat) (w : World) (S T : Int) (s t : ByteArray) (ha : impl_ValueOK.f k 1 1 S s = some true) (hb : impl_ValueOK.f k 1 0 T t = some true) :
    Calls Try.prog 19 #[.int .i64 1, .agg #[.int .i64 1, .int .i64 1, .int .i64 S, .string s], .agg #[.int .i64 1, .int .i64 0, .int .i64 T, .string t]] w fun e w' => e = .returned (.tuple #[.agg #[.int .i64 1, .int .i64 0, .int .i64 0, .string (⟨#[]⟩ : ByteArray)], .int .i64 0]) ∧ Below w.heap.size w w' := by
  have hu := Try.underlying23
  have HC0 := Aside0.mk ha
  clear ha
  have HC1 := Aside0.mk hb
  clear hb
  go_enter Try.func19, Try.ntmps19
  go_wp2_with fail
  refine (impl_ValueOK.calls k 1 1 S s true _ HC0.out).mono ?_
  rintro e w1 ⟨rfl, hb1⟩
  have bka : w1.heap[w.heap.size]? = some (.cells #[.int .i64 1, .int .i64 1, .int .i64 S, .string s] 23 (0, 0)) := blk_below (blk_alloc (blk_alloc (heap_alloc_new w _) _) _) hb1
  have bkb : w1.heap[w.heap.size + 1]? = some (.cells #[.int .i64 1, .int .i64 0, .int .i64 T, .string t] 23 (0, 0)) := blk_below (blk_alloc (by simpa using heap_alloc_new (w.alloc _) _) _) hb1
  have bkc : w1.heap[w.heap.size + 1 + 1]? = some (.cells #[.int .i64 0, .int .i64 0, .int .i64 0, .string (⟨#[]⟩ : ByteArray)] 23 (0, 0)) := blk_below (by simpa using heap_alloc_new ((w.alloc _).alloc _) _) hb1
  have HB := Aside0.mk (show Below w.heap.size w w1 from below_step (below_alloc (below_alloc (below_alloc (Below.refl _ _) _) _) _) hb1)
  have hcb0 : w1.cell? ⟨w.heap.size + 1, 0, none⟩ = some (.int .i64 1) := (blk_cell bkb 0).trans rfl
  have hcb1 : w1.cell? ⟨w.heap.size + 1, 1, none⟩ = some (.int .i64 0) := (blk_cell bkb 1).trans rfl
  have hcb2 : w1.cell? ⟨w.heap.size + 1, 2, none⟩ = some (.int .i64 T) := (blk_cell bkb 2).trans rfl
  have hcb3 : w1.cell? ⟨w.heap.size + 1, 3, none⟩ = some (.string t) := (blk_cell bkb 3).trans rfl
  have BKA := Aside0.mk bka
  have BKB := Aside0.mk bkb
  have BKC := Aside0.mk bkc
  clear bka bkb bkc hb1
  go_wp2_with fail
  refine (impl_ValueOK.calls k 1 0 T t true _ HC1.out).mono ?_
  rintro e w2 ⟨rfl, hb2⟩
  have bka := blk_below BKA.out hb2
  have bkb := blk_below BKB.out hb2
  have bkc := blk_below BKC.out hb2
  clear hcb0 hcb1 hcb2 hcb3 BKA BKB BKC
  have HB2 := Aside0.mk (below_step HB.out hb2)
  clear HB
  have HB := HB2
  clear HB2
  have hca0 : w2.cell? ⟨w.heap.size, 0, none⟩ = some (.int .i64 1) := (blk_cell bka 0).trans rfl
  have hca1 : w2.cell? ⟨w.heap.size, 1, none⟩ = some (.int .i64 1) := (blk_cell bka 1).trans rfl
  have hcb0 : w2.cell? ⟨w.heap.size + 1, 0, none⟩ = some (.int .i64 1) := (blk_cell bkb 0).trans rfl
  have hcb1 : w2.cell? ⟨w.heap.size + 1, 1, none⟩ = some (.int .i64 0) := (blk_cell bkb 1).trans rfl
  have hcb2 : w2.cell? ⟨w.heap.size + 1, 2, none⟩ = some (.int .i64 T) := (blk_cell bkb 2).trans rfl
  have hcb3 : w2.cell? ⟨w.heap.size + 1, 3, none⟩ = some (.string t) := (blk_cell bkb 3).trans rfl
  have hcc0 : w2.cell? ⟨w.heap.size + 1 + 1, 0, none⟩ = some (.int .i64 0) := (blk_cell bkc 0).trans rfl
  have hcc1 : w2.cell? ⟨w.heap.size + 1 + 1, 1, none⟩ = some (.int .i64 0) := (blk_cell bkc 1).trans rfl
  have hcc2 : w2.cell? ⟨w.heap.size + 1 + 1, 2, none⟩ = some (.int .i64 0) := (blk_cell bkc 2).trans rfl
  have hcc3 : w2.cell? ⟨w.heap.size + 1 + 1, 3, none⟩ = some (.string (⟨#[]⟩ : ByteArray)) := (blk_cell bkc 3).trans rfl
  have hfc0 := blk_frozen bkc 0
  have hfc1 := blk_frozen bkc 1
  have hfc2 := blk_frozen bkc 2
  have hfc3 := blk_frozen bkc 3
  have BKA := Aside0.mk bka
  have BKB := Aside0.mk bkb
  have BKC := Aside0.mk bkc
  clear bka bkb bkc hb2
  go_wp2
  refine bodyPost_ret (results_ct rfl _ _ (w.heap.size + 1 + 1) 23 #[.int .i64 1, .int .i64 0, .int .i64 0, .string (⟨#[]⟩ : ByteArray)] (0, 0) _ rfl (blk_put (blk_put (blk_put (blk_put BKC.out 0 _ rfl) 1 _ rfl) 2 _ rfl) 3 _ rfl) Try.underlying23 rfl (by kernel_rfl)) rfl ?_
  exact ⟨rfl, below_set (below_set (below_set (below_set (HB.out) (by omega)) (by omega)) (by omega)) (by omega)⟩
set_option maxHeartbeats 8000000 in
set_option maxRecDepth 100000 in
theorem impl_Logic.m11111 (k : Nat) (w : World) (S T : Int) (s t : ByteArray) (ha : impl_ValueOK.f k 1 1 S s = some true) (hb : impl_ValueOK.f k 1 1 T t = some true) :
    Calls Try.prog 19 #[.int .i64 1, .agg #[.int .i64 1, .int .i64 1, .int .i64 S, .string s], .agg #[.int .i64 1, .int .i64 1, .int .i64 T, .string t]] w fun e w' => e = .returned (.tuple #[.agg #[.int .i64 1, .int .i64 1, .int .i64 0, .string (⟨#[]⟩ : ByteArray)], .int .i64 0]) ∧ Below w.heap.size w w' := by
  have hu := Try.underlying23
  have HC0 := Aside0.mk ha
  clear ha
  have HC1 := Aside0.mk hb
  clear hb
  go_enter Try.func19, Try.ntmps19
  go_wp2_with fail
  refine (impl_ValueOK.calls k 1 1 S s true _ HC0.out).mono ?_
  rintro e w1 ⟨rfl, hb1⟩
  have bka : w1.heap[w.heap.size]? = some (.cells #[.int .i64 1, .int .i64 1, .int .i64 S, .string s] 23 (0, 0)) := blk_below (blk_alloc (blk_alloc (heap_alloc_new w _) _) _) hb1
  have bkb : w1.heap[w.heap.size + 1]? = some (.cells #[.int .i64 1, .int .i64 1, .int .i64 T, .string t] 23 (0, 0)) := blk_below (blk_alloc (by simpa using heap_alloc_new (w.alloc _) _) _) hb1
  have bkc : w1.heap[w.heap.size + 1 + 1]? = some (.cells #[.int .i64 0, .int .i64 0, .int .i64 0, .string (⟨#[]⟩ : ByteArray)] 23 (0, 0)) := blk_below (by simpa using heap_alloc_new ((w.alloc _).alloc _) _) hb1
  have HB := Aside0.mk (show Below w.heap.size w w1 from below_step (below_alloc (below_alloc (below_alloc (Below.refl _ _) _) _) _) hb1)
  have hcb0 : w1.cell? ⟨w.heap.size + 1, 0, none⟩ = some (.int .i64 1) := (blk_cell bkb 0).trans rfl
  have hcb1 : w1.cell? ⟨w.heap.size + 1, 1, none⟩ = some (.int .i64 1) := (blk_cell bkb 1).trans rfl
  have hcb2 : w1.cell? ⟨w.heap.size + 1, 2, none⟩ = some (.int .i64 T) := (blk_cell bkb 2).trans rfl
  have hcb3 : w1.cell? ⟨w.heap.size + 1, 3, none⟩ = some (.string t) := (blk_cell bkb 3).trans rfl
  have BKA := Aside0.mk bka
  have BKB := Aside0.mk bkb
  have BKC := Aside0.mk bkc
  clear bka bkb bkc hb1
  go_wp2_with fail
  refine (impl_ValueOK.calls k 1 1 T t true _ HC1.out).mono ?_
  rintro e w2 ⟨rfl, hb2⟩
  have bka := blk_below BKA.out hb2
  have bkb := blk_below BKB.out hb2
  have bkc := blk_below BKC.out hb2
  clear hcb0 hcb1 hcb2 hcb3 BKA BKB BKC
  have HB2 := Aside0.mk (below_step HB.out hb2)
  clear HB
  have HB := HB2
  clear HB2
  have hca0 : w2.cell? ⟨w.heap.size, 0, none⟩ = some (.int .i64 1) := (blk_cell bka 0).trans rfl
  have hca1 : w2.cell? ⟨w.heap.size, 1, none⟩ = some (.int .i64 1) := (blk_cell bka 1).trans rfl
  have hcb0 : w2.cell? ⟨w.heap.size + 1, 0, none⟩ = some (.int .i64 1) := (blk_cell bkb 0).trans rfl
  have hcb1 : w2.cell? ⟨w.heap.size + 1, 1, none⟩ = some (.int .i64 1) := (blk_cell bkb 1).trans rfl
  have hcb2 : w2.cell? ⟨w.heap.size + 1, 2, none⟩ = some (.int .i64 T) := (blk_cell bkb 2).trans rfl
  have hcb3 : w2.cell? ⟨w.heap.size + 1, 3, none⟩ = some (.string t) := (blk_cell bkb 3).trans rfl
  have hcc0 : w2.cell? ⟨w.heap.size + 1 + 1, 0, none⟩ = some (.int .i64 0) := (blk_cell bkc 0).trans rfl
  have hcc1 : w2.cell? ⟨w.heap.size + 1 + 1, 1, none⟩ = some (.int .i64 0) := (blk_cell bkc 1).trans rfl
  have hcc2 : w2.cell? ⟨w.heap.size + 1 + 1, 2, none⟩ = some (.int .i64 0) := (blk_cell bkc 2).trans rfl
  have hcc3 : w2.cell? ⟨w.heap.size + 1 + 1, 3, none⟩ = some (.string (⟨#[]⟩ : ByteArray)) := (blk_cell bkc 3).trans rfl
  have hfc0 := blk_frozen bkc 0
  have hfc1 := blk_frozen bkc 1
  have hfc2 := blk_frozen bkc 2
  have hfc3 := blk_frozen bkc 3
  have BKA := Aside0.mk bka
  have BKB := Aside0.mk bkb
  have BKC := Aside0.mk bkc
  clear bka bkb bkc hb2
  go_wp2
  refine bodyPost_ret (results_ct rfl _ _ (w.heap.size + 1 + 1) 23 #[.int .i64 1, .int .i64 1, .int .i64 0, .string (⟨#[]⟩ : ByteArray)] (0, 0) _ rfl (blk_put (blk_put (blk_put (blk_put BKC.out 0 _ rfl) 1 _ rfl) 2 _ rfl) 3 _ rfl) Try.underlying23 rfl (by kernel_rfl)) rfl ?_
  exact ⟨rfl, below_set (below_set (below_set (below_set (HB.out) (by omega)) (by omega)) (by omega)) (by omega)⟩
set_option maxHeartbeats 8000000 in
set_option maxRecDepth 100000 in
theorem impl_Logic.m20000 (k : Nat) (w : World) (S T : Int) (s t : ByteArray) (ha : impl_ValueOK.f k 0 0 S s = some true) (hb : impl_ValueOK.f k 0 0 T t = some true) :
    Calls Try.prog 19 #[.int .i64 2, .agg #[.int .i64 0, .int .i64 0, .int .i64 S, .string s], .agg #[.int .i64 0, .int .i64 0, .int .i64 T, .string t]] w fun e w' => e = .returned (.tuple #[.agg #[.int .i64 0, .int .i64 0, .int .i64 0, .string (⟨#[]⟩ : ByteArray)], .int .i64 0]) ∧ Below w.heap.size w w' := by
  have hu := Try.underlying23
  have HC0 := Aside0.mk ha
  clear ha
  have HC1 := Aside0.mk hb
  clear hb
  go_enter Try.func19, Try.ntmps19
  go_wp2_with fail
  refine (impl_ValueOK.calls k 0 0 S s true _ HC0.out).mono ?_
  rintro e w1 ⟨rfl, hb1⟩
  have bka : w1.heap[w.heap.size]? = some (.cells #[.int .i64 0, .int .i64 0, .int .i64 S, .string s] 23 (0, 0)) := blk_below (blk_alloc (blk_alloc (heap_alloc_new w _) _) _) hb1
  have bkb : w1.heap[w.heap.size + 1]? = some (.cells #[.int .i64 0, .int .i64 0, .int .i64 T, .string t] 23 (0, 0)) := blk_below (blk_alloc (by simpa using heap_alloc_new (w.alloc _) _) _) hb1
  have bkc : w1.heap[w.heap.size + 1 + 1]? = some (.cells #[.int .i64 0, .int .i64 0, .int .i64 0, .string (⟨#[]⟩ : ByteArray)] 23 (0, 0)) := blk_below (by simpa using heap_alloc_new ((w.alloc _).alloc _) _) hb1
  have HB := Aside0.mk (show Below w.heap.size w w1 from below_step (below_alloc (below_alloc (below_alloc (Below.refl _ _) _) _) _) hb1)
  have hcb0 : w1.cell? ⟨w.heap.size + 1, 0, none⟩ = some (.int .i64 0) := (blk_cell bkb 0).trans rfl
  have hcb1 : w1.cell? ⟨w.heap.size + 1, 1, none⟩ = some (.int .i64 0) := (blk_cell bkb 1).trans rfl
  have hcb2 : w1.cell? ⟨w.heap.size + 1, 2, none⟩ = some (.int .i64 T) := (blk_cell bkb 2).trans rfl
  have hcb3 : w1.cell? ⟨w.heap.size + 1, 3, none⟩ = some (.string t) := (blk_cell bkb 3).trans rfl
  have BKA := Aside0.mk bka
  have BKB := Aside0.mk bkb
  have BKC := Aside0.mk bkc
  clear bka bkb bkc hb1
  go_wp2_with fail
  refine (impl_ValueOK.calls k 0 0 T t true _ HC1.out).mono ?_
  rintro e w2 ⟨rfl, hb2⟩
  have bka := blk_below BKA.out hb2
  have bkb := blk_below BKB.out hb2
  have bkc := blk_below BKC.out hb2
  clear hcb0 hcb1 hcb2 hcb3 BKA BKB BKC
  have HB2 := Aside0.mk (below_step HB.out hb2)
  clear HB
  have HB := HB2
  clear HB2
  have hca0 : w2.cell? ⟨w.heap.size, 0, none⟩ = some (.int .i64 0) := (blk_cell bka 0).trans rfl
  have hca1 : w2.cell? ⟨w.heap.size, 1, none⟩ = some (.int .i64 0) := (blk_cell bka 1).trans rfl
  have hcb0 : w2.cell? ⟨w.heap.size + 1, 0, none⟩ = some (.int .i64 0) := (blk_cell bkb 0).trans rfl
  have hcb1 : w2.cell? ⟨w.heap.size + 1, 1, none⟩ = some (.int .i64 0) := (blk_cell bkb 1).trans rfl
  have hcb2 : w2.cell? ⟨w.heap.size + 1, 2, none⟩ = some (.int .i64 T) := (blk_cell bkb 2).trans rfl
  have hcb3 : w2.cell? ⟨w.heap.size + 1, 3, none⟩ = some (.string t) := (blk_cell bkb 3).trans rfl
  have hcc0 : w2.cell? ⟨w.heap.size + 1 + 1, 0, none⟩ = some (.int .i64 0) := (blk_cell bkc 0).trans rfl
  have hcc1 : w2.cell? ⟨w.heap.size + 1 + 1, 1, none⟩ = some (.int .i64 0) := (blk_cell bkc 1).trans rfl
  have hcc2 : w2.cell? ⟨w.heap.size + 1 + 1, 2, none⟩ = some (.int .i64 0) := (blk_cell bkc 2).trans rfl
  have hcc3 : w2.cell? ⟨w.heap.size + 1 + 1, 3, none⟩ = some (.string (⟨#[]⟩ : ByteArray)) := (blk_cell bkc 3).trans rfl
  have hfc0 := blk_frozen bkc 0
  have hfc1 := blk_frozen bkc 1
  have hfc2 := blk_frozen bkc 2
  have hfc3 := blk_frozen bkc 3
  have BKA := Aside0.mk bka
  have BKB := Aside0.mk bkb
  have BKC := Aside0.mk bkc
  clear bka bkb bkc hb2
  go_wp2
  refine bodyPost_ret (results_ct rfl _ _ (w.heap.size + 1 + 1) 23 #[.int .i64 0, .int .i64 0, .int .i64 0, .string (⟨#[]⟩ : ByteArray)] (0, 0) _ rfl (blk_put (blk_put (blk_put (blk_put BKC.out 0 _ rfl) 1 _ rfl) 2 _ rfl) 3 _ rfl) Try.underlying23 rfl (by kernel_rfl)) rfl ?_
  exact ⟨rfl, below_set (below_set (below_set (below_set (HB.out) (by omega)) (by omega)) (by omega)) (by omega)⟩
set_option maxHeartbeats 8000000 in
set_option maxRecDepth 100000 in
theorem impl_Logic.m20010 (k : Nat) (w : World) (S T : Int) (s t : ByteArray) (ha : impl_ValueOK.f k 0 0 S s = some true) (hb : impl_ValueOK.f k 1 0 T t = some true) :
    Calls Try.prog 19 #[.int .i64 2, .agg #[.int .i64 0, .int .i64 0, .int .i64 S, .string s], .agg #[.int .i64 1, .int .i64 0, .int .i64 T, .string t]] w fun e w' => e = .returned (.tuple #[.agg #[.int .i64 0, .int .i64 0, .int .i64 0, .string (⟨#[]⟩ : ByteArray)], .int .i64 0]) ∧ Below w.heap.size w w' := by
  have hu := Try.underlying23
  have HC0 := Aside0.mk ha
  clear ha
  have HC1 := Aside0.mk hb
  clear hb
  go_enter Try.func19, Try.ntmps19
  go_wp2_with fail
  refine (impl_ValueOK.calls k 0 0 S s true _ HC0.out).mono ?_
  rintro e w1 ⟨rfl, hb1⟩
  have bka : w1.heap[w.heap.size]? = some (.cells #[.int .i64 0, .int .i64 0, .int .i64 S, .string s] 23 (0, 0)) := blk_below (blk_alloc (blk_alloc (heap_alloc_new w _) _) _) hb1
  have bkb : w1.heap[w.heap.size + 1]? = some (.cells #[.int .i64 1, .int .i64 0, .int .i64 T, .string t] 23 (0, 0)) := blk_below (blk_alloc (by simpa using heap_alloc_new (w.alloc _) _) _) hb1
  have bkc : w1.heap[w.heap.size + 1 + 1]? = some (.cells #[.int .i64 0, .int .i64 0, .int .i64 0, .string (⟨#[]⟩ : ByteArray)] 23 (0, 0)) := blk_below (by simpa using heap_alloc_new ((w.alloc _).alloc _) _) hb1
  have HB := Aside0.mk (show Below w.heap.size w w1 from below_step (below_alloc (below_alloc (below_alloc (Below.refl _ _) _) _) _) hb1)
  have hcb0 : w1.cell? ⟨w.heap.size + 1, 0, none⟩ = some (.int .i64 1) := (blk_cell bkb 0).trans rfl
  have hcb1 : w1.cell? ⟨w.heap.size + 1, 1, none⟩ = some (.int .i64 0) := (blk_cell bkb 1).trans rfl
  have hcb2 : w1.cell? ⟨w.heap.size + 1, 2, none⟩ = some (.int .i64 T) := (blk_cell bkb 2).trans rfl
  have hcb3 : w1.cell? ⟨w.heap.size + 1, 3, none⟩ = some (.string t) := (blk_cell bkb 3).trans rfl
  have BKA := Aside0.mk bka
  have BKB := Aside0.mk bkb
  have BKC := Aside0.mk bkc
  clear bka bkb bkc hb1
  go_wp2_with fail
  refine (impl_ValueOK.calls k 1 0 T t true _ HC1.out).mono ?_
  rintro e w2 ⟨rfl, hb2⟩
  have bka := blk_below BKA.out hb2
  have bkb := blk_below BKB.out hb2
  have bkc := blk_below BKC.out hb2
  clear hcb0 hcb1 hcb2 hcb3 BKA BKB BKC
  have HB2 := Aside0.mk (below_step HB.out hb2)
  clear HB
  have HB := HB2
  clear HB2
  have hca0 : w2.cell? ⟨w.heap.size, 0, none⟩ = some (.int .i64 0) := (blk_cell bka 0).trans rfl
  have hca1 : w2.cell? ⟨w.heap.size, 1, none⟩ = some (.int .i64 0) := (blk_cell bka 1).trans rfl
  have hcb0 : w2.cell? ⟨w.heap.size + 1, 0, none⟩ = some (.int .i64 1) := (blk_cell bkb 0).trans rfl
  have hcb1 : w2.cell? ⟨w.heap.size + 1, 1, none⟩ = some (.int .i64 0) := (blk_cell bkb 1).trans rfl
  have hcb2 : w2.cell? ⟨w.heap.size + 1, 2, none⟩ = some (.int .i64 T) := (blk_cell bkb 2).trans rfl
  have hcb3 : w2.cell? ⟨w.heap.size + 1, 3, none⟩ = some (.string t) := (blk_cell bkb 3).trans rfl
  have hcc0 : w2.cell? ⟨w.heap.size + 1 + 1, 0, none⟩ = some (.int .i64 0) := (blk_cell bkc 0).trans rfl
  have hcc1 : w2.cell? ⟨w.heap.size + 1 + 1, 1, none⟩ = some (.int .i64 0) := (blk_cell bkc 1).trans rfl
  have hcc2 : w2.cell? ⟨w.heap.size + 1 + 1, 2, none⟩ = some (.int .i64 0) := (blk_cell bkc 2).trans rfl
  have hcc3 : w2.cell? ⟨w.heap.size + 1 + 1, 3, none⟩ = some (.string (⟨#[]⟩ : ByteArray)) := (blk_cell bkc 3).trans rfl
  have hfc0 := blk_frozen bkc 0
  have hfc1 := blk_frozen bkc 1
  have hfc2 := blk_frozen bkc 2
  have hfc3 := blk_frozen bkc 3
  have BKA := Aside0.mk bka
  have BKB := Aside0.mk bkb
  have BKC := Aside0.mk bkc
  clear bka bkb bkc hb2
  go_wp2
  refine bodyPost_ret (results_ct rfl _ _ (w.heap.size + 1 + 1) 23 #[.int .i64 0, .int .i64 0, .int .i64 0, .string (⟨#[]⟩ : ByteArray)] (0, 0) _ rfl (blk_put (blk_put (blk_put (blk_put BKC.out 0 _ rfl) 1 _ rfl) 2 _ rfl) 3 _ rfl) Try.underlying23 rfl (by kernel_rfl)) rfl ?_
  exact ⟨rfl, below_set (below_set (below_set (below_set (HB.out) (by omega)) (by omega)) (by omega)) (by omega)⟩
set_option maxHeartbeats 8000000 in
set_option maxRecDepth 100000 in
theorem impl_Logic.m20011 (k : Nat) (w : World) (S T : Int) (s t : ByteArray) (ha : impl_ValueOK.f k 0 0 S s = some true) (hb : impl_ValueOK.f k 1 1 T t = some true) :
    Calls Try.prog 19 #[.int .i64 2, .agg #[.int .i64 0, .int .i64 0, .int .i64 S, .string s], .agg #[.int .i64 1, .int .i64 1, .int .i64 T, .string t]] w fun e w' => e = .returned (.tuple #[.agg #[.int .i64 1, .int .i64 1, .int .i64 0, .string (⟨#[]⟩ : ByteArray)], .int .i64 0]) ∧ Below w.heap.size w w' := by
  have hu := Try.underlying23
  have HC0 := Aside0.mk ha
  clear ha
  have HC1 := Aside0.mk hb
  clear hb
  go_enter Try.func19, Try.ntmps19
  go_wp2_with fail
  refine (impl_ValueOK.calls k 0 0 S s true _ HC0.out).mono ?_
  rintro e w1 ⟨rfl, hb1⟩
  have bka : w1.heap[w.heap.size]? = some (.cells #[.int .i64 0, .int .i64 0, .int .i64 S, .string s] 23 (0, 0)) := blk_below (blk_alloc (blk_alloc (heap_alloc_new w _) _) _) hb1
  have bkb : w1.heap[w.heap.size + 1]? = some (.cells #[.int .i64 1, .int .i64 1, .int .i64 T, .string t] 23 (0, 0)) := blk_below (blk_alloc (by simpa using heap_alloc_new (w.alloc _) _) _) hb1
  have bkc : w1.heap[w.heap.size + 1 + 1]? = some (.cells #[.int .i64 0, .int .i64 0, .int .i64 0, .string (⟨#[]⟩ : ByteArray)] 23 (0, 0)) := blk_below (by simpa using heap_alloc_new ((w.alloc _).alloc _) _) hb1
  have HB := Aside0.mk (show Below w.heap.size w w1 from below_step (below_alloc (below_alloc (below_alloc (Below.refl _ _) _) _) _) hb1)
  have hcb0 : w1.cell? ⟨w.heap.size + 1, 0, none⟩ = some (.int .i64 1) := (blk_cell bkb 0).trans rfl
  have hcb1 : w1.cell? ⟨w.heap.size + 1, 1, none⟩ = some (.int .i64 1) := (blk_cell bkb 1).trans rfl
  have hcb2 : w1.cell? ⟨w.heap.size + 1, 2, none⟩ = some (.int .i64 T) := (blk_cell bkb 2).trans rfl
  have hcb3 : w1.cell? ⟨w.heap.size + 1, 3, none⟩ = some (.string t) := (blk_cell bkb 3).trans rfl
  have BKA := Aside0.mk bka
  have BKB := Aside0.mk bkb
  have BKC := Aside0.mk bkc
  clear bka bkb bkc hb1
  go_wp2_with fail
  refine (impl_ValueOK.calls k 1 1 T t true _ HC1.out).mono ?_
  rintro e w2 ⟨rfl, hb2⟩
  have bka := blk_below BKA.out hb2
  have bkb := blk_below BKB.out hb2
  have bkc := blk_below BKC.out hb2
  clear hcb0 hcb1 hcb2 hcb3 BKA BKB BKC
  have HB2 := Aside0.mk (below_step HB.out hb2)
  clear HB
  have HB := HB2
  clear HB2
  have hca0 : w2.cell? ⟨w.heap.size, 0, none⟩ = some (.int .i64 0) := (blk_cell bka 0).trans rfl
  have hca1 : w2.cell? ⟨w.heap.size, 1, none⟩ = some (.int .i64 0) := (blk_cell bka 1).trans rfl
  have hcb0 : w2.cell? ⟨w.heap.size + 1, 0, none⟩ = some (.int .i64 1) := (blk_cell bkb 0).trans rfl
  have hcb1 : w2.cell? ⟨w.heap.size + 1, 1, none⟩ = some (.int .i64 1) := (blk_cell bkb 1).trans rfl
  have hcb2 : w2.cell? ⟨w.heap.size + 1, 2, none⟩ = some (.int .i64 T) := (blk_cell bkb 2).trans rfl
  have hcb3 : w2.cell? ⟨w.heap.size + 1, 3, none⟩ = some (.string t) := (blk_cell bkb 3).trans rfl
  have hcc0 : w2.cell? ⟨w.heap.size + 1 + 1, 0, none⟩ = some (.int .i64 0) := (blk_cell bkc 0).trans rfl
  have hcc1 : w2.cell? ⟨w.heap.size + 1 + 1, 1, none⟩ = some (.int .i64 0) := (blk_cell bkc 1).trans rfl
  have hcc2 : w2.cell? ⟨w.heap.size + 1 + 1, 2, none⟩ = some (.int .i64 0) := (blk_cell bkc 2).trans rfl
  have hcc3 : w2.cell? ⟨w.heap.size + 1 + 1, 3, none⟩ = some (.string (⟨#[]⟩ : ByteArray)) := (blk_cell bkc 3).trans rfl
  have hfc0 := blk_frozen bkc 0
  have hfc1 := blk_frozen bkc 1
  have hfc2 := blk_frozen bkc 2
  have hfc3 := blk_frozen bkc 3
  have BKA := Aside0.mk bka
  have BKB := Aside0.mk bkb
  have BKC := Aside0.mk bkc
  clear bka bkb bkc hb2
  go_wp2
  refine bodyPost_ret (results_ct rfl _ _ (w.heap.size + 1 + 1) 23 #[.int .i64 1, .int .i64 1, .int .i64 0, .string (⟨#[]⟩ : ByteArray)] (0, 0) _ rfl (blk_put (blk_put (blk_put (blk_put BKC.out 0 _ rfl) 1 _ rfl) 2 _ rfl) 3 _ rfl) Try.underlying23 rfl (by kernel_rfl)) rfl ?_
  exact ⟨rfl, below_set (below_set (below_set (below_set (HB.out) (by omega)) (by omega)) (by omega)) (by omega)⟩
set_option maxHeartbeats 8000000 in
set_option maxRecDepth 100000 in
theorem impl_Logic.m21000 (k : Nat) (w : World) (S T : Int) (s t : ByteArray) (ha : impl_ValueOK.f k 1 0 S s = some true) (hb : impl_ValueOK.f k 0 0 T t = some true) :
    Calls Try.prog 19 #[.int .i64 2, .agg #[.int .i64 1, .int .i64 0, .int .i64 S, .string s], .agg #[.int .i64 0, .int .i64 0, .int .i64 T, .string t]] w fun e w' => e = .returned (.tuple #[.agg #[.int .i64 0, .int .i64 0, .int .i64 0, .string (⟨#[]⟩ : ByteArray)], .int .i64 0]) ∧ Below w.heap.size w w' := by
  have hu := Try.underlying23
  have HC0 := Aside0.mk ha
  clear ha
  have HC1 := Aside0.mk hb
  clear hb
  go_enter Try.func19, Try.ntmps19
  go_wp2_with fail
  refine (impl_ValueOK.calls k 1 0 S s true _ HC0.out).mono ?_
  rintro e w1 ⟨rfl, hb1⟩
  have bka : w1.heap[w.heap.size]? = some (.cells #[.int .i64 1, .int .i64 0, .int .i64 S, .string s] 23 (0, 0)) := blk_below (blk_alloc (blk_alloc (heap_alloc_new w _) _) _) hb1
  have bkb : w1.heap[w.heap.size + 1]? = some (.cells #[.int .i64 0, .int .i64 0, .int .i64 T, .string t] 23 (0, 0)) := blk_below (blk_alloc (by simpa using heap_alloc_new (w.alloc _) _) _) hb1
  have bkc : w1.heap[w.heap.size + 1 + 1]? = some (.cells #[.int .i64 0, .int .i64 0, .int .i64 0, .string (⟨#[]⟩ : ByteArray)] 23 (0, 0)) := blk_below (by simpa using heap_alloc_new ((w.alloc _).alloc _) _) hb1
  have HB := Aside0.mk (show Below w.heap.size w w1 from below_step (below_alloc (below_alloc (below_alloc (Below.refl _ _) _) _) _) hb1)
  have hcb0 : w1.cell? ⟨w.heap.size + 1, 0, none⟩ = some (.int .i64 0) := (blk_cell bkb 0).trans rfl
  have hcb1 : w1.cell? ⟨w.heap.size + 1, 1, none⟩ = some (.int .i64 0) := (blk_cell bkb 1).trans rfl
  have hcb2 : w1.cell? ⟨w.heap.size + 1, 2, none⟩ = some (.int .i64 T) := (blk_cell bkb 2).trans rfl
  have hcb3 : w1.cell? ⟨w.heap.size + 1, 3, none⟩ = some (.string t) := (blk_cell bkb 3).trans rfl
  have BKA := Aside0.mk bka
  have BKB := Aside0.mk bkb
  have BKC := Aside0.mk bkc
  clear bka bkb bkc hb1
  go_wp2_with fail
  refine (impl_ValueOK.calls k 0 0 T t true _ HC1.out).mono ?_
  rintro e w2 ⟨rfl, hb2⟩
  have bka := blk_below BKA.out hb2
  have bkb := blk_below BKB.out hb2
  have bkc := blk_below BKC.out hb2
  clear hcb0 hcb1 hcb2 hcb3 BKA BKB BKC
  have HB2 := Aside0.mk (below_step HB.out hb2)
  clear HB
  have HB := HB2
  clear HB2
  have hca0 : w2.cell? ⟨w.heap.size, 0, none⟩ = some (.int .i64 1) := (blk_cell bka 0).trans rfl
  have hca1 : w2.cell? ⟨w.heap.size, 1, none⟩ = some (.int .i64 0) := (blk_cell bka 1).trans rfl
  have hcb0 : w2.cell? ⟨w.heap.size + 1, 0, none⟩ = some (.int .i64 0) := (blk_cell bkb 0).trans rfl
  have hcb1 : w2.cell? ⟨w.heap.size + 1, 1, none⟩ = some (.int .i64 0) := (blk_cell bkb 1).trans rfl
  have hcb2 : w2.cell? ⟨w.heap.size + 1, 2, none⟩ = some (.int .i64 T) := (blk_cell bkb 2).trans rfl
  have hcb3 : w2.cell? ⟨w.heap.size + 1, 3, none⟩ = some (.string t) := (blk_cell bkb 3).trans rfl
  have hcc0 : w2.cell? ⟨w.heap.size + 1 + 1, 0, none⟩ = some (.int .i64 0) := (blk_cell bkc 0).trans rfl
  have hcc1 : w2.cell? ⟨w.heap.size + 1 + 1, 1, none⟩ = some (.int .i64 0) := (blk_cell bkc 1).trans rfl
  have hcc2 : w2.cell? ⟨w.heap.size + 1 + 1, 2, none⟩ = some (.int .i64 0) := (blk_cell bkc 2).trans rfl
  have hcc3 : w2.cell? ⟨w.heap.size + 1 + 1, 3, none⟩ = some (.string (⟨#[]⟩ : ByteArray)) := (blk_cell bkc 3).trans rfl
  have hfc0 := blk_frozen bkc 0
  have hfc1 := blk_frozen bkc 1
  have hfc2 := blk_frozen bkc 2
  have hfc3 := blk_frozen bkc 3
  have BKA := Aside0.mk bka
  have BKB := Aside0.mk bkb
  have BKC := Aside0.mk bkc
  clear bka bkb bkc hb2
  go_wp2
  refine bodyPost_ret (results_ct rfl _ _ (w.heap.size + 1 + 1) 23 #[.int .i64 0, .int .i64 0, .int .i64 0, .string (⟨#[]⟩ : ByteArray)] (0, 0) _ rfl (blk_put (blk_put (blk_put (blk_put BKC.out 0 _ rfl) 1 _ rfl) 2 _ rfl) 3 _ rfl) Try.underlying23 rfl (by kernel_rfl)) rfl ?_
  exact ⟨rfl, below_set (below_set (below_set (below_set (HB.out) (by omega)) (by omega)) (by omega)) (by omega)⟩
set_option maxHeartbeats 8000000 in
set_option maxRecDepth 100000 in
theorem impl_Logic.m21010 (k : Nat) (w : World) (S T : Int) (s t : ByteArray) (ha : impl_ValueOK.f k 1 0 S s = some true) (hb : impl_ValueOK.f k 1 0 T t = some true) :
    Calls Try.prog 19 #[.int .i64 2, .agg #[.int .i64 1, .int .i64 0, .int .i64 S, .string s], .agg #[.int .i64 1, .int .i64 0, .int .i64 T, .string t]] w fun e w' => e = .returned (.tuple #[.agg #[.int .i64 1, .int .i64 0, .int .i64 0, .string (⟨#[]⟩ : ByteArray)], .int .i64 0]) ∧ Below w.heap.size w w' := by
  have hu := Try.underlying23
  have HC0 := Aside0.mk ha
  clear ha
  have HC1 := Aside0.mk hb
  clear hb
  go_enter Try.func19, Try.ntmps19
  go_wp2_with fail
  refine (impl_ValueOK.calls k 1 0 S s true _ HC0.out).mono ?_
  rintro e w1 ⟨rfl, hb1⟩
  have bka : w1.heap[w.heap.size]? = some (.cells #[.int .i64 1, .int .i64 0, .int .i64 S, .string s] 23 (0, 0)) := blk_below (blk_alloc (blk_alloc (heap_alloc_new w _) _) _) hb1
  have bkb : w1.heap[w.heap.size + 1]? = some (.cells #[.int .i64 1, .int .i64 0, .int .i64 T, .string t] 23 (0, 0)) := blk_below (blk_alloc (by simpa using heap_alloc_new (w.alloc _) _) _) hb1
  have bkc : w1.heap[w.heap.size + 1 + 1]? = some (.cells #[.int .i64 0, .int .i64 0, .int .i64 0, .string (⟨#[]⟩ : ByteArray)] 23 (0, 0)) := blk_below (by simpa using heap_alloc_new ((w.alloc _).alloc _) _) hb1
  have HB := Aside0.mk (show Below w.heap.size w w1 from below_step (below_alloc (below_alloc (below_alloc (Below.refl _ _) _) _) _) hb1)
  have hcb0 : w1.cell? ⟨w.heap.size + 1, 0, none⟩ = some (.int .i64 1) := (blk_cell bkb 0).trans rfl
  have hcb1 : w1.cell? ⟨w.heap.size + 1, 1, none⟩ = some (.int .i64 0) := (blk_cell bkb 1).trans rfl
  have hcb2 : w1.cell? ⟨w.heap.size + 1, 2, none⟩ = some (.int .i64 T) := (blk_cell bkb 2).trans rfl
  have hcb3 : w1.cell? ⟨w.heap.size + 1, 3, none⟩ = some (.string t) := (blk_cell bkb 3).trans rfl
  have BKA := Aside0.mk bka
  have BKB := Aside0.mk bkb
  have BKC := Aside0.mk bkc
  clear bka bkb bkc hb1
  go_wp2_with fail
  refine (impl_ValueOK.calls k 1 0 T t true _ HC1.out).mono ?_
  rintro e w2 ⟨rfl, hb2⟩
  have bka := blk_below BKA.out hb2
  have bkb := blk_below BKB.out hb2
  have bkc := blk_below BKC.out hb2
  clear hcb0 hcb1 hcb2 hcb3 BKA BKB BKC
  have HB2 := Aside0.mk (below_step HB.out hb2)
  clear HB
  have HB := HB2
  clear HB2
  have hca0 : w2.cell? ⟨w.heap.size, 0, none⟩ = some (.int .i64 1) := (blk_cell bka 0).trans rfl
  have hca1 : w2.cell? ⟨w.heap.size, 1, none⟩ = some (.int .i64 0) := (blk_cell bka 1).trans rfl
  have hcb0 : w2.cell? ⟨w.heap.size + 1, 0, none⟩ = some (.int .i64 1) := (blk_cell bkb 0).trans rfl
  have hcb1 : w2.cell? ⟨w.heap.size + 1, 1, none⟩ = some (.int .i64 0) := (blk_cell bkb 1).trans rfl
  have hcb2 : w2.cell? ⟨w.heap.size + 1, 2, none⟩ = some (.int .i64 T) := (blk_cell bkb 2).trans rfl
  have hcb3 : w2.cell? ⟨w.heap.size + 1, 3, none⟩ = some (.string t) := (blk_cell bkb 3).trans rfl
  have hcc0 : w2.cell? ⟨w.heap.size + 1 + 1, 0, none⟩ = some (.int .i64 0) := (blk_cell bkc 0).trans rfl
  have hcc1 : w2.cell? ⟨w.heap.size + 1 + 1, 1, none⟩ = some (.int .i64 0) := (blk_cell bkc 1).trans rfl
  have hcc2 : w2.cell? ⟨w.heap.size + 1 + 1, 2, none⟩ = some (.int .i64 0) := (blk_cell bkc 2).trans rfl
  have hcc3 : w2.cell? ⟨w.heap.size + 1 + 1, 3, none⟩ = some (.string (⟨#[]⟩ : ByteArray)) := (blk_cell bkc 3).trans rfl
  have hfc0 := blk_frozen bkc 0
  have hfc1 := blk_frozen bkc 1
  have hfc2 := blk_frozen bkc 2
  have hfc3 := blk_frozen bkc 3
  have BKA := Aside0.mk bka
  have BKB := Aside0.mk bkb
  have BKC := Aside0.mk bkc
  clear bka bkb bkc hb2
  go_wp2
  refine bodyPost_ret (results_ct rfl _ _ (w.heap.size + 1 + 1) 23 #[.int .i64 1, .int .i64 0, .int .i64 0, .string (⟨#[]⟩ : ByteArray)] (0, 0) _ rfl (blk_put (blk_put (blk_put (blk_put BKC.out 0 _ rfl) 1 _ rfl) 2 _ rfl) 3 _ rfl) Try.underlying23 rfl (by kernel_rfl)) rfl ?_
  exact ⟨rfl, below_set (below_set (below_set (below_set (HB.out) (by omega)) (by omega)) (by omega)) (by omega)⟩
set_option maxHeartbeats 8000000 in
set_option maxRecDepth 100000 in
theorem impl_Logic.m21011 (k : Nat) (w : World) (S T : Int) (s t : ByteArray) (ha : impl_ValueOK.f k 1 0 S s = some true) (hb : impl_ValueOK.f k 1 1 T t = some true) :
    Calls Try.prog 19 #[.int .i64 2, .agg #[.int .i64 1, .int .i64 0, .int .i64 S, .string s], .agg #[.int .i64 1, .int .i64 1, .int .i64 T, .string t]] w fun e w' => e = .returned (.tuple #[.agg #[.int .i64 1, .int .i64 1, .int .i64 0, .string (⟨#[]⟩ : ByteArray)], .int .i64 0]) ∧ Below w.heap.size w w' := by
  have hu := Try.underlying23
  have HC0 := Aside0.mk ha
  clear ha
  have HC1 := Aside0.mk hb
  clear hb
  go_enter Try.func19, Try.ntmps19
  go_wp2_with fail
  refine (impl_ValueOK.calls k 1 0 S s true _ HC0.out).mono ?_
  rintro e w1 ⟨rfl, hb1⟩
  have bka : w1.heap[w.heap.size]? = some (.cells #[.int .i64 1, .int .i64 0, .int .i64 S, .string s] 23 (0, 0)) := blk_below (blk_alloc (blk_alloc (heap_alloc_new w _) _) _) hb1
  have bkb : w1.heap[w.heap.size + 1]? = some (.cells #[.int .i64 1, .int .i64 1, .int .i64 T, .string t] 23 (0, 0)) := blk_below (blk_alloc (by simpa using heap_alloc_new (w.alloc _) _) _) hb1
  have bkc : w1.heap[w.heap.size + 1 + 1]? = some (.cells #[.int .i64 0, .int .i64 0, .int .i64 0, .string (⟨#[]⟩ : ByteArray)] 23 (0, 0)) := blk_below (by simpa using heap_alloc_new ((w.alloc _).alloc _) _) hb1
  have HB := Aside0.mk (show Below w.heap.size w w1 from below_step (below_alloc (below_alloc (below_alloc (Below.refl _ _) _) _) _) hb1)
  have hcb0 : w1.cell? ⟨w.heap.size + 1, 0, none⟩ = some (.int .i64 1) := (blk_cell bkb 0).trans rfl
  have hcb1 : w1.cell? ⟨w.heap.size + 1, 1, none⟩ = some (.int .i64 1) := (blk_cell bkb 1).trans rfl
  have hcb2 : w1.cell? ⟨w.heap.size + 1, 2, none⟩ = some (.int .i64 T) := (blk_cell bkb 2).trans rfl
  have hcb3 : w1.cell? ⟨w.heap.size + 1, 3, none⟩ = some (.string t) := (blk_cell bkb 3).trans rfl
  have BKA := Aside0.mk bka
  have BKB := Aside0.mk bkb
  have BKC := Aside0.mk bkc
  clear bka bkb bkc hb1
  go_wp2_with fail
  refine (impl_ValueOK.calls k 1 1 T t true _ HC1.out).mono ?_
  rintro e w2 ⟨rfl, hb2⟩
  have bka := blk_below BKA.out hb2
  have bkb := blk_below BKB.out hb2
  have bkc := blk_below BKC.out hb2
  clear hcb0 hcb1 hcb2 hcb3 BKA BKB BKC
  have HB2 := Aside0.mk (below_step HB.out hb2)
  clear HB
  have HB := HB2
  clear HB2
  have hca0 : w2.cell? ⟨w.heap.size, 0, none⟩ = some (.int .i64 1) := (blk_cell bka 0).trans rfl
  have hca1 : w2.cell? ⟨w.heap.size, 1, none⟩ = some (.int .i64 0) := (blk_cell bka 1).trans rfl
  have hcb0 : w2.cell? ⟨w.heap.size + 1, 0, none⟩ = some (.int .i64 1) := (blk_cell bkb 0).trans rfl
  have hcb1 : w2.cell? ⟨w.heap.size + 1, 1, none⟩ = some (.int .i64 1) := (blk_cell bkb 1).trans rfl
  have hcb2 : w2.cell? ⟨w.heap.size + 1, 2, none⟩ = some (.int .i64 T) := (blk_cell bkb 2).trans rfl
  have hcb3 : w2.cell? ⟨w.heap.size + 1, 3, none⟩ = some (.string t) := (blk_cell bkb 3).trans rfl
  have hcc0 : w2.cell? ⟨w.heap.size + 1 + 1, 0, none⟩ = some (.int .i64 0) := (blk_cell bkc 0).trans rfl
  have hcc1 : w2.cell? ⟨w.heap.size + 1 + 1, 1, none⟩ = some (.int .i64 0) := (blk_cell bkc 1).trans rfl
  have hcc2 : w2.cell? ⟨w.heap.size + 1 + 1, 2, none⟩ = some (.int .i64 0) := (blk_cell bkc 2).trans rfl
  have hcc3 : w2.cell? ⟨w.heap.size + 1 + 1, 3, none⟩ = some (.string (⟨#[]⟩ : ByteArray)) := (blk_cell bkc 3).trans rfl
  have hfc0 := blk_frozen bkc 0
  have hfc1 := blk_frozen bkc 1
  have hfc2 := blk_frozen bkc 2
  have hfc3 := blk_frozen bkc 3
  have BKA := Aside0.mk bka
  have BKB := Aside0.mk bkb
  have BKC := Aside0.mk bkc
  clear bka bkb bkc hb2
  go_wp2
  refine bodyPost_ret (results_ct rfl _ _ (w.heap.size + 1 + 1) 23 #[.int .i64 1, .int .i64 1, .int .i64 0, .string (⟨#[]⟩ : ByteArray)] (0, 0) _ rfl (blk_put (blk_put (blk_put (blk_put BKC.out 0 _ rfl) 1 _ rfl) 2 _ rfl) 3 _ rfl) Try.underlying23 rfl (by kernel_rfl)) rfl ?_
  exact ⟨rfl, below_set (below_set (below_set (below_set (HB.out) (by omega)) (by omega)) (by omega)) (by omega)⟩
set_option maxHeartbeats 8000000 in
set_option maxRecDepth 100000 in
theorem impl_Logic.m21100 (k : Nat) (w : World) (S T : Int) (s t : ByteArray) (ha : impl_ValueOK.f k 1 1 S s = some true) (hb : impl_ValueOK.f k 0 0 T t = some true) :
    Calls Try.prog 19 #[.int .i64 2, .agg #[.int .i64 1, .int .i64 1, .int .i64 S, .string s], .agg #[.int .i64 0, .int .i64 0, .int .i64 T, .string t]] w fun e w' => e = .returned (.tuple #[.agg #[.int .i64 1, .int .i64 1, .int .i64 0, .string (⟨#[]⟩ : ByteArray)], .int .i64 0]) ∧ Below w.heap.size w w' := by
  have hu := Try.underlying23
  have HC0 := Aside0.mk ha
  clear ha
  have HC1 := Aside0.mk hb
  clear hb
  go_enter Try.func19, Try.ntmps19
  go_wp2_with fail
  refine (impl_ValueOK.calls k 1 1 S s true _ HC0.out).mono ?_
  rintro e w1 ⟨rfl, hb1⟩
  have bka : w1.heap[w.heap.size]? = some (.cells #[.int .i64 1, .int .i64 1, .int .i64 S, .string s] 23 (0, 0)) := blk_below (blk_alloc (blk_alloc (heap_alloc_new w _) _) _) hb1
  have bkb : w1.heap[w.heap.size + 1]? = some (.cells #[.int .i64 0, .int .i64 0, .int .i64 T, .string t] 23 (0, 0)) := blk_below (blk_alloc (by simpa using heap_alloc_new (w.alloc _) _) _) hb1
  have bkc : w1.heap[w.heap.size + 1 + 1]? = some (.cells #[.int .i64 0, .int .i64 0, .int .i64 0, .string (⟨#[]⟩ : ByteArray)] 23 (0, 0)) := blk_below (by simpa using heap_alloc_new ((w.alloc _).alloc _) _) hb1
  have HB := Aside0.mk (show Below w.heap.size w w1 from below_step (below_alloc (below_alloc (below_alloc (Below.refl _ _) _) _) _) hb1)
  have hcb0 : w1.cell? ⟨w.heap.size + 1, 0, none⟩ = some (.int .i64 0) := (blk_cell bkb 0).trans rfl
  have hcb1 : w1.cell? ⟨w.heap.size + 1, 1, none⟩ = some (.int .i64 0) := (blk_cell bkb 1).trans rfl
  have hcb2 : w1.cell? ⟨w.heap.size + 1, 2, none⟩ = some (.int .i64 T) := (blk_cell bkb 2).trans rfl
  have hcb3 : w1.cell? ⟨w.heap.size + 1, 3, none⟩ = some (.string t) := (blk_cell bkb 3).trans rfl
  have BKA := Aside0.mk bka
  have BKB := Aside0.mk bkb
  have BKC := Aside0.mk bkc
  clear bka bkb bkc hb1
  go_wp2_with fail
  refine (impl_ValueOK.calls k 0 0 T t true _ HC1.out).mono ?_
  rintro e w2 ⟨rfl, hb2⟩
  have bka := blk_below BKA.out hb2
  have bkb := blk_below BKB.out hb2
  have bkc := blk_below BKC.out hb2
  clear hcb0 hcb1 hcb2 hcb3 BKA BKB BKC
  have HB2 := Aside0.mk (below_step HB.out hb2)
  clear HB
  have HB := HB2
  clear HB2
  have hca0 : w2.cell? ⟨w.heap.size, 0, none⟩ = some (.int .i64 1) := (blk_cell bka 0).trans rfl
  have hca1 : w2.cell? ⟨w.heap.size, 1, none⟩ = some (.int .i64 1) := (blk_cell bka 1).trans rfl
  have hcb0 : w2.cell? ⟨w.heap.size + 1, 0, none⟩ = some (.int .i64 0) := (blk_cell bkb 0).trans rfl
  have hcb1 : w2.cell? ⟨w.heap.size + 1, 1, none⟩ = some (.int .i64 0) := (blk_cell bkb 1).trans rfl
  have hcb2 : w2.cell? ⟨w.heap.size + 1, 2, none⟩ = some (.int .i64 T) := (blk_cell bkb 2).trans rfl
  have hcb3 : w2.cell? ⟨w.heap.size + 1, 3, none⟩ = some (.string t) := (blk_cell bkb 3).trans rfl
  have hcc0 : w2.cell? ⟨w.heap.size + 1 + 1, 0, none⟩ = some (.int .i64 0) := (blk_cell bkc 0).trans rfl
  have hcc1 : w2.cell? ⟨w.heap.size + 1 + 1, 1, none⟩ = some (.int .i64 0) := (blk_cell bkc 1).trans rfl
  have hcc2 : w2.cell? ⟨w.heap.size + 1 + 1, 2, none⟩ = some (.int .i64 0) := (blk_cell bkc 2).trans rfl
  have hcc3 : w2.cell? ⟨w.heap.size + 1 + 1, 3, none⟩ = some (.string (⟨#[]⟩ : ByteArray)) := (blk_cell bkc 3).trans rfl
  have hfc0 := blk_frozen bkc 0
  have hfc1 := blk_frozen bkc 1
  have hfc2 := blk_frozen bkc 2
  have hfc3 := blk_frozen bkc 3
  have BKA := Aside0.mk bka
  have BKB := Aside0.mk bkb
  have BKC := Aside0.mk bkc
  clear bka bkb bkc hb2
  go_wp2
  refine bodyPost_ret (results_ct rfl _ _ (w.heap.size + 1 + 1) 23 #[.int .i64 1, .int .i64 1, .int .i64 0, .string (⟨#[]⟩ : ByteArray)] (0, 0) _ rfl (blk_put (blk_put (blk_put (blk_put BKC.out 0 _ rfl) 1 _ rfl) 2 _ rfl) 3 _ rfl) Try.underlying23 rfl (by kernel_rfl)) rfl ?_
  exact ⟨rfl, below_set (below_set (below_set (below_set (HB.out) (by omega)) (by omega)) (by omega)) (by omega)⟩
set_option maxHeartbeats 8000000 in
set_option maxRecDepth 100000 in
theorem impl_Logic.m21110 (k : Nat) (w : World) (S T : Int) (s t : ByteArray) (ha : impl_ValueOK.f k 1 1 S s = some true) (hb : impl_ValueOK.f k 1 0 T t = some true) :
    Calls Try.prog 19 #[.int .i64 2, .agg #[.int .i64 1, .int .i64 1, .int .i64 S, .string s], .agg #[.int .i64 1, .int .i64 0, .int .i64 T, .string t]] w fun e w' => e = .returned (.tuple #[.agg #[.int .i64 1, .int .i64 1, .int .i64 0, .string (⟨#[]⟩ : ByteArray)], .int .i64 0]) ∧ Below w.heap.size w w' := by
  have hu := Try.underlying23
  have HC0 := Aside0.mk ha
  clear ha
  have HC1 := Aside0.mk hb
  clear hb
  go_enter Try.func19, Try.ntmps19
  go_wp2_with fail
  refine (impl_ValueOK.calls k 1 1 S s true _ HC0.out).mono ?_
  rintro e w1 ⟨rfl, hb1⟩
  have bka : w1.heap[w.heap.size]? = some (.cells #[.int .i64 1, .int .i64 1, .int .i64 S, .string s] 23 (0, 0)) := blk_below (blk_alloc (blk_alloc (heap_alloc_new w _) _) _) hb1
  have bkb : w1.heap[w.heap.size + 1]? = some (.cells #[.int .i64 1, .int .i64 0, .int .i64 T, .string t] 23 (0, 0)) := blk_below (blk_alloc (by simpa using heap_alloc_new (w.alloc _) _) _) hb1
  have bkc : w1.heap[w.heap.size + 1 + 1]? = some (.cells #[.int .i64 0, .int .i64 0, .int .i64 0, .string (⟨#[]⟩ : ByteArray)] 23 (0, 0)) := blk_below (by simpa using heap_alloc_new ((w.alloc _).alloc _) _) hb1
  have HB := Aside0.mk (show Below w.heap.size w w1 from below_step (below_alloc (below_alloc (below_alloc (Below.refl _ _) _) _) _) hb1)
  have hcb0 : w1.cell? ⟨w.heap.size + 1, 0, none⟩ = some (.int .i64 1) := (blk_cell bkb 0).trans rfl
  have hcb1 : w1.cell? ⟨w.heap.size + 1, 1, none⟩ = some (.int .i64 0) := (blk_cell bkb 1).trans rfl
  have hcb2 : w1.cell? ⟨w.heap.size + 1, 2, none⟩ = some (.int .i64 T) := (blk_cell bkb 2).trans rfl
  have hcb3 : w1.cell? ⟨w.heap.size + 1, 3, none⟩ = some (.string t) := (blk_cell bkb 3).trans rfl
  have BKA := Aside0.mk bka
  have BKB := Aside0.mk bkb
  have BKC := Aside0.mk bkc
  clear bka bkb bkc hb1
  go_wp2_with fail
  refine (impl_ValueOK.calls k 1 0 T t true _ HC1.out).mono ?_
  rintro e w2 ⟨rfl, hb2⟩
  have bka := blk_below BKA.out hb2
  have bkb := blk_below BKB.out hb2
  have bkc := blk_below BKC.out hb2
  clear hcb0 hcb1 hcb2 hcb3 BKA BKB BKC
  have HB2 := Aside0.mk (below_step HB.out hb2)
  clear HB
  have HB := HB2
  clear HB2
  have hca0 : w2.cell? ⟨w.heap.size, 0, none⟩ = some (.int .i64 1) := (blk_cell bka 0).trans rfl
  have hca1 : w2.cell? ⟨w.heap.size, 1, none⟩ = some (.int .i64 1) := (blk_cell bka 1).trans rfl
  have hcb0 : w2.cell? ⟨w.heap.size + 1, 0, none⟩ = some (.int .i64 1) := (blk_cell bkb 0).trans rfl
  have hcb1 : w2.cell? ⟨w.heap.size + 1, 1, none⟩ = some (.int .i64 0) := (blk_cell bkb 1).trans rfl
  have hcb2 : w2.cell? ⟨w.heap.size + 1, 2, none⟩ = some (.int .i64 T) := (blk_cell bkb 2).trans rfl
  have hcb3 : w2.cell? ⟨w.heap.size + 1, 3, none⟩ = some (.string t) := (blk_cell bkb 3).trans rfl
  have hcc0 : w2.cell? ⟨w.heap.size + 1 + 1, 0, none⟩ = some (.int .i64 0) := (blk_cell bkc 0).trans rfl
  have hcc1 : w2.cell? ⟨w.heap.size + 1 + 1, 1, none⟩ = some (.int .i64 0) := (blk_cell bkc 1).trans rfl
  have hcc2 : w2.cell? ⟨w.heap.size + 1 + 1, 2, none⟩ = some (.int .i64 0) := (blk_cell bkc 2).trans rfl
  have hcc3 : w2.cell? ⟨w.heap.size + 1 + 1, 3, none⟩ = some (.string (⟨#[]⟩ : ByteArray)) := (blk_cell bkc 3).trans rfl
  have hfc0 := blk_frozen bkc 0
  have hfc1 := blk_frozen bkc 1
  have hfc2 := blk_frozen bkc 2
  have hfc3 := blk_frozen bkc 3
  have BKA := Aside0.mk bka
  have BKB := Aside0.mk bkb
  have BKC := Aside0.mk bkc
  clear bka bkb bkc hb2
  go_wp2
  refine bodyPost_ret (results_ct rfl _ _ (w.heap.size + 1 + 1) 23 #[.int .i64 1, .int .i64 1, .int .i64 0, .string (⟨#[]⟩ : ByteArray)] (0, 0) _ rfl (blk_put (blk_put (blk_put (blk_put BKC.out 0 _ rfl) 1 _ rfl) 2 _ rfl) 3 _ rfl) Try.underlying23 rfl (by kernel_rfl)) rfl ?_
  exact ⟨rfl, below_set (below_set (below_set (below_set (HB.out) (by omega)) (by omega)) (by omega)) (by omega)⟩
set_option maxHeartbeats 8000000 in
set_option maxRecDepth 100000 in
theorem impl_Logic.m21111 (k : Nat) (w : World) (S T : Int) (s t : ByteArray) (ha : impl_ValueOK.f k 1 1 S s = some true) (hb : impl_ValueOK.f k 1 1 T t = some true) :
    Calls Try.prog 19 #[.int .i64 2, .agg #[.int .i64 1, .int .i64 1, .int .i64 S, .string s], .agg #[.int .i64 1, .int .i64 1, .int .i64 T, .string t]] w fun e w' => e = .returned (.tuple #[.agg #[.int .i64 1, .int .i64 1, .int .i64 0, .string (⟨#[]⟩ : ByteArray)], .int .i64 0]) ∧ Below w.heap.size w w' := by
  have hu := Try.underlying23
  have HC0 := Aside0.mk ha
  clear ha
  have HC1 := Aside0.mk hb
  clear hb
  go_enter Try.func19, Try.ntmps19
  go_wp2_with fail
  refine (impl_ValueOK.calls k 1 1 S s true _ HC0.out).mono ?_
  rintro e w1 ⟨rfl, hb1⟩
  have bka : w1.heap[w.heap.size]? = some (.cells #[.int .i64 1, .int .i64 1, .int .i64 S, .string s] 23 (0, 0)) := blk_below (blk_alloc (blk_alloc (heap_alloc_new w _) _) _) hb1
  have bkb : w1.heap[w.heap.size + 1]? = some (.cells #[.int .i64 1, .int .i64 1, .int .i64 T, .string t] 23 (0, 0)) := blk_below (blk_alloc (by simpa using heap_alloc_new (w.alloc _) _) _) hb1
  have bkc : w1.heap[w.heap.size + 1 + 1]? = some (.cells #[.int .i64 0, .int .i64 0, .int .i64 0, .string (⟨#[]⟩ : ByteArray)] 23 (0, 0)) := blk_below (by simpa using heap_alloc_new ((w.alloc _).alloc _) _) hb1
  have HB := Aside0.mk (show Below w.heap.size w w1 from below_step (below_alloc (below_alloc (below_alloc (Below.refl _ _) _) _) _) hb1)
  have hcb0 : w1.cell? ⟨w.heap.size + 1, 0, none⟩ = some (.int .i64 1) := (blk_cell bkb 0).trans rfl
  have hcb1 : w1.cell? ⟨w.heap.size + 1, 1, none⟩ = some (.int .i64 1) := (blk_cell bkb 1).trans rfl
  have hcb2 : w1.cell? ⟨w.heap.size + 1, 2, none⟩ = some (.int .i64 T) := (blk_cell bkb 2).trans rfl
  have hcb3 : w1.cell? ⟨w.heap.size + 1, 3, none⟩ = some (.string t) := (blk_cell bkb 3).trans rfl
  have BKA := Aside0.mk bka
  have BKB := Aside0.mk bkb
  have BKC := Aside0.mk bkc
  clear bka bkb bkc hb1
  go_wp2_with fail
  refine (impl_ValueOK.calls k 1 1 T t true _ HC1.out).mono ?_
  rintro e w2 ⟨rfl, hb2⟩
  have bka := blk_below BKA.out hb2
  have bkb := blk_below BKB.out hb2
  have bkc := blk_below BKC.out hb2
  clear hcb0 hcb1 hcb2 hcb3 BKA BKB BKC
  have HB2 := Aside0.mk (below_step HB.out hb2)
  clear HB
  have HB := HB2
  clear HB2
  have hca0 : w2.cell? ⟨w.heap.size, 0, none⟩ = some (.int .i64 1) := (blk_cell bka 0).trans rfl
  have hca1 : w2.cell? ⟨w.heap.size, 1, none⟩ = some (.int .i64 1) := (blk_cell bka 1).trans rfl
  have hcb0 : w2.cell? ⟨w.heap.size + 1, 0, none⟩ = some (.int .i64 1) := (blk_cell bkb 0).trans rfl
  have hcb1 : w2.cell? ⟨w.heap.size + 1, 1, none⟩ = some (.int .i64 1) := (blk_cell bkb 1).trans rfl
  have hcb2 : w2.cell? ⟨w.heap.size + 1, 2, none⟩ = some (.int .i64 T) := (blk_cell bkb 2).trans rfl
  have hcb3 : w2.cell? ⟨w.heap.size + 1, 3, none⟩ = some (.string t) := (blk_cell bkb 3).trans rfl
  have hcc0 : w2.cell? ⟨w.heap.size + 1 + 1, 0, none⟩ = some (.int .i64 0) := (blk_cell bkc 0).trans rfl
  have hcc1 : w2.cell? ⟨w.heap.size + 1 + 1, 1, none⟩ = some (.int .i64 0) := (blk_cell bkc 1).trans rfl
  have hcc2 : w2.cell? ⟨w.heap.size + 1 + 1, 2, none⟩ = some (.int .i64 0) := (blk_cell bkc 2).trans rfl
  have hcc3 : w2.cell? ⟨w.heap.size + 1 + 1, 3, none⟩ = some (.string (⟨#[]⟩ : ByteArray)) := (blk_cell bkc 3).trans rfl
  have hfc0 := blk_frozen bkc 0
  have hfc1 := blk_frozen bkc 1
  have hfc2 := blk_frozen bkc 2
  have hfc3 := blk_frozen bkc 3
  have BKA := Aside0.mk bka
  have BKB := Aside0.mk bkb
  have BKC := Aside0.mk bkc
  clear bka bkb bkc hb2
  go_wp2
  refine bodyPost_ret (results_ct rfl _ _ (w.heap.size + 1 + 1) 23 #[.int .i64 1, .int .i64 1, .int .i64 0, .string (⟨#[]⟩ : ByteArray)] (0, 0) _ rfl (blk_put (blk_put (blk_put (blk_put BKC.out 0 _ rfl) 1 _ rfl) 2 _ rfl) 3 _ rfl) Try.underlying23 rfl (by kernel_rfl)) rfl ?_
  exact ⟨rfl, below_set (below_set (below_set (below_set (HB.out) (by omega)) (by omega)) (by omega)) (by omega)⟩
set_option maxHeartbeats 8000000 in
set_option maxRecDepth 100000 in
theorem impl_Logic.m30000 (k : Nat) (w : World) (S T : Int) (s t : ByteArray) (ha : impl_ValueOK.f k 0 0 S s = some true) (hb : impl_ValueOK.f k 0 0 T t = some true) :
    Calls Try.prog 19 #[.int .i64 3, .agg #[.int .i64 0, .int .i64 0, .int .i64 S, .string s], .agg #[.int .i64 0, .int .i64 0, .int .i64 T, .string t]] w fun e w' => e = .returned (.tuple #[.agg #[.int .i64 0, .int .i64 0, .int .i64 0, .string (⟨#[]⟩ : ByteArray)], .int .i64 0]) ∧ Below w.heap.size w w' := by
  have hu := Try.underlying23
  have HC0 := Aside0.mk ha
  clear ha
  have HC1 := Aside0.mk hb
  clear hb
  go_enter Try.func19, Try.ntmps19
  go_wp2_with fail
  refine (impl_ValueOK.calls k 0 0 S s true _ HC0.out).mono ?_
  rintro e w1 ⟨rfl, hb1⟩
  have bka : w1.heap[w.heap.size]? = some (.cells #[.int .i64 0, .int .i64 0, .int .i64 S, .string s] 23 (0, 0)) := blk_below (blk_alloc (blk_alloc (heap_alloc_new w _) _) _) hb1
  have bkb : w1.heap[w.heap.size + 1]? = some (.cells #[.int .i64 0, .int .i64 0, .int .i64 T, .string t] 23 (0, 0)) := blk_below (blk_alloc (by simpa using heap_alloc_new (w.alloc _) _) _) hb1
  have bkc : w1.heap[w.heap.size + 1 + 1]? = some (.cells #[.int .i64 0, .int .i64 0, .int .i64 0, .string (⟨#[]⟩ : ByteArray)] 23 (0, 0)) := blk_below (by simpa using heap_alloc_new ((w.alloc _).alloc _) _) hb1
  have HB := Aside0.mk (show Below w.heap.size w w1 from below_step (below_alloc (below_alloc (below_alloc (Below.refl _ _) _) _) _) hb1)
  have hcb0 : w1.cell? ⟨w.heap.size + 1, 0, none⟩ = some (.int .i64 0) := (blk_cell bkb 0).trans rfl
  have hcb1 : w1.cell? ⟨w.heap.size + 1, 1, none⟩ = some (.int .i64 0) := (blk_cell bkb 1).trans rfl
  have hcb2 : w1.cell? ⟨w.heap.size + 1, 2, none⟩ = some (.int .i64 T) := (blk_cell bkb 2).trans rfl
  have hcb3 : w1.cell? ⟨w.heap.size + 1, 3, none⟩ = some (.string t) := (blk_cell bkb 3).trans rfl
  have BKA := Aside0.mk bka
  have BKB := Aside0.mk bkb
  have BKC := Aside0.mk bkc
  clear bka bkb bkc hb1
  go_wp2_with fail
  refine (impl_ValueOK.calls k 0 0 T t true _ HC1.out).mono ?_
  rintro e w2 ⟨rfl, hb2⟩
  have bka := blk_below BKA.out hb2
  have bkb := blk_below BKB.out hb2
  have bkc := blk_below BKC.out hb2
  clear hcb0 hcb1 hcb2 hcb3 BKA BKB BKC
  have HB2 := Aside0.mk (below_step HB.out hb2)
  clear HB
  have HB := HB2
  clear HB2
  have hca0 : w2.cell? ⟨w.heap.size, 0, none⟩ = some (.int .i64 0) := (blk_cell bka 0).trans rfl
  have hca1 : w2.cell? ⟨w.heap.size, 1, none⟩ = some (.int .i64 0) := (blk_cell bka 1).trans rfl
  have hcb0 : w2.cell? ⟨w.heap.size + 1, 0, none⟩ = some (.int .i64 0) := (blk_cell bkb 0).trans rfl
  have hcb1 : w2.cell? ⟨w.heap.size + 1, 1, none⟩ = some (.int .i64 0) := (blk_cell bkb 1).trans rfl
  have hcb2 : w2.cell? ⟨w.heap.size + 1, 2, none⟩ = some (.int .i64 T) := (blk_cell bkb 2).trans rfl
  have hcb3 : w2.cell? ⟨w.heap.size + 1, 3, none⟩ = some (.string t) := (blk_cell bkb 3).trans rfl
  have hcc0 : w2.cell? ⟨w.heap.size + 1 + 1, 0, none⟩ = some (.int .i64 0) := (blk_cell bkc 0).trans rfl
  have hcc1 : w2.cell? ⟨w.heap.size + 1 + 1, 1, none⟩ = some (.int .i64 0) := (blk_cell bkc 1).trans rfl
  have hcc2 : w2.cell? ⟨w.heap.size + 1 + 1, 2, none⟩ = some (.int .i64 0) := (blk_cell bkc 2).trans rfl
  have hcc3 : w2.cell? ⟨w.heap.size + 1 + 1, 3, none⟩ = some (.string (⟨#[]⟩ : ByteArray)) := (blk_cell bkc 3).trans rfl
  have hfc0 := blk_frozen bkc 0
  have hfc1 := blk_frozen bkc 1
  have hfc2 := blk_frozen bkc 2
  have hfc3 := blk_frozen bkc 3
  have BKA := Aside0.mk bka
  have BKB := Aside0.mk bkb
  have BKC := Aside0.mk bkc
  clear bka bkb bkc hb2
  go_wp2
  refine bodyPost_ret (results_ct rfl _ _ (w.heap.size + 1 + 1) 23 #[.int .i64 0, .int .i64 0, .int .i64 0, .string (⟨#[]⟩ : ByteArray)] (0, 0) _ rfl (blk_put (blk_put (blk_put (blk_put BKC.out 0 _ rfl) 1 _ rfl) 2 _ rfl) 3 _ rfl) Try.underlying23 rfl (by kernel_rfl)) rfl ?_
  exact ⟨rfl, below_set (below_set (below_set (below_set (HB.out) (by omega)) (by omega)) (by omega)) (by omega)⟩
set_option maxHeartbeats 8000000 in
set_option maxRecDepth 100000 in
theorem impl_Logic.m30010 (k : Nat) (w : World) (S T : Int) (s t : ByteArray) (ha : impl_ValueOK.f k 0 0 S s = some true) (hb : impl_ValueOK.f k 1 0 T t = some true) :
    Calls Try.prog 19 #[.int .i64 3, .agg #[.int .i64 0, .int .i64 0, .int .i64 S, .string s], .agg #[.int .i64 1, .int .i64 0, .int .i64 T, .string t]] w fun e w' => e = .returned (.tuple #[.agg #[.int .i64 0, .int .i64 0, .int .i64 0, .string (⟨#[]⟩ : ByteArray)], .int .i64 0]) ∧ Below w.heap.size w w' := by
  have hu := Try.underlying23
  have HC0 := Aside0.mk ha
  clear ha
  have HC1 := Aside0.mk hb
  clear hb
  go_enter Try.func19, Try.ntmps19
  go_wp2_with fail
  refine (impl_ValueOK.calls k 0 0 S s true _ HC0.out).mono ?_
  rintro e w1 ⟨rfl, hb1⟩
  have bka : w1.heap[w.heap.size]? = some (.cells #[.int .i64 0, .int .i64 0, .int .i64 S, .string s] 23 (0, 0)) := blk_below (blk_alloc (blk_alloc (heap_alloc_new w _) _) _) hb1
  have bkb : w1.heap[w.heap.size + 1]? = some (.cells #[.int .i64 1, .int .i64 0, .int .i64 T, .string t] 23 (0, 0)) := blk_below (blk_alloc (by simpa using heap_alloc_new (w.alloc _) _) _) hb1
  have bkc : w1.heap[w.heap.size + 1 + 1]? = some (.cells #[.int .i64 0, .int .i64 0, .int .i64 0, .string (⟨#[]⟩ : ByteArray)] 23 (0, 0)) := blk_below (by simpa using heap_alloc_new ((w.alloc _).alloc _) _) hb1
  have HB := Aside0.mk (show Below w.heap.size w w1 from below_step (below_alloc (below_alloc (below_alloc (Below.refl _ _) _) _) _) hb1)
  have hcb0 : w1.cell? ⟨w.heap.size + 1, 0, none⟩ = some (.int .i64 1) := (blk_cell bkb 0).trans rfl
  have hcb1 : w1.cell? ⟨w.heap.size + 1, 1, none⟩ = some (.int .i64 0) := (blk_cell bkb 1).trans rfl
  have hcb2 : w1.cell? ⟨w.heap.size + 1, 2, none⟩ = some (.int .i64 T) := (blk_cell bkb 2).trans rfl
  have hcb3 : w1.cell? ⟨w.heap.size + 1, 3, none⟩ = some (.string t) := (blk_cell bkb 3).trans rfl
  have BKA := Aside0.mk bka
  have BKB := Aside0.mk bkb
  have BKC := Aside0.mk bkc
  clear bka bkb bkc hb1
  go_wp2_with fail
  refine (impl_ValueOK.calls k 1 0 T t true _ HC1.out).mono ?_
  rintro e w2 ⟨rfl, hb2⟩
  have bka := blk_below BKA.out hb2
  have bkb := blk_below BKB.out hb2
  have bkc := blk_below BKC.out hb2
  clear hcb0 hcb1 hcb2 hcb3 BKA BKB BKC
  have HB2 := Aside0.mk (below_step HB.out hb2)
  clear HB
  have HB := HB2
  clear HB2
  have hca0 : w2.cell? ⟨w.heap.size, 0, none⟩ = some (.int .i64 0) := (blk_cell bka 0).trans rfl
  have hca1 : w2.cell? ⟨w.heap.size, 1, none⟩ = some (.int .i64 0) := (blk_cell bka 1).trans rfl
  have hcb0 : w2.cell? ⟨w.heap.size + 1, 0, none⟩ = some (.int .i64 1) := (blk_cell bkb 0).trans rfl
  have hcb1 : w2.cell? ⟨w.heap.size + 1, 1, none⟩ = some (.int .i64 0) := (blk_cell bkb 1).trans rfl
  have hcb2 : w2.cell? ⟨w.heap.size + 1, 2, none⟩ = some (.int .i64 T) := (blk_cell bkb 2).trans rfl
  have hcb3 : w2.cell? ⟨w.heap.size + 1, 3, none⟩ = some (.string t) := (blk_cell bkb 3).trans rfl
  have hcc0 : w2.cell? ⟨w.heap.size + 1 + 1, 0, none⟩ = some (.int .i64 0) := (blk_cell bkc 0).trans rfl
  have hcc1 : w2.cell? ⟨w.heap.size + 1 + 1, 1, none⟩ = some (.int .i64 0) := (blk_cell bkc 1).trans rfl
  have hcc2 : w2.cell? ⟨w.heap.size + 1 + 1, 2, none⟩ = some (.int .i64 0) := (blk_cell bkc 2).trans rfl
  have hcc3 : w2.cell? ⟨w.heap.size + 1 + 1, 3, none⟩ = some (.string (⟨#[]⟩ : ByteArray)) := (blk_cell bkc 3).trans rfl
  have hfc0 := blk_frozen bkc 0
  have hfc1 := blk_frozen bkc 1
  have hfc2 := blk_frozen bkc 2
  have hfc3 := blk_frozen bkc 3
  have BKA := Aside0.mk bka
  have BKB := Aside0.mk bkb
  have BKC := Aside0.mk bkc
  clear bka bkb bkc hb2
  go_wp2
  refine bodyPost_ret (results_ct rfl _ _ (w.heap.size + 1 + 1) 23 #[.int .i64 0, .int .i64 0, .int .i64 0, .string (⟨#[]⟩ : ByteArray)] (0, 0) _ rfl (blk_put (blk_put (blk_put (blk_put BKC.out 0 _ rfl) 1 _ rfl) 2 _ rfl) 3 _ rfl) Try.underlying23 rfl (by kernel_rfl)) rfl ?_
  exact ⟨rfl, below_set (below_set (below_set (below_set (HB.out) (by omega)) (by omega)) (by omega)) (by omega)⟩
set_option maxHeartbeats 8000000 in
set_option maxRecDepth 100000 in
theorem impl_Logic.m30011 (k : Nat) (w : World) (S T : Int) (s t : ByteArray) (ha : impl_ValueOK.f k 0 0 S s = some true) (hb : impl_ValueOK.f k 1 1 T t = some true) :
    Calls Try.prog 19 #[.int .i64 3, .agg #[.int .i64 0, .int .i64 0, .int .i64 S, .string s], .agg #[.int .i64 1, .int .i64 1, .int .i64 T, .string t]] w fun e w' => e = .returned (.tuple #[.agg #[.int .i64 0, .int .i64 0, .int .i64 0, .string (⟨#[]⟩ : ByteArray)], .int .i64 0]) ∧ Below w.heap.size w w' := by
  have hu := Try.underlying23
  have HC0 := Aside0.mk ha
  clear ha
  have HC1 := Aside0.mk hb
  clear hb
  go_enter Try.func19, Try.ntmps19
  go_wp2_with fail
  refine (impl_ValueOK.calls k 0 0 S s true _ HC0.out).mono ?_
  rintro e w1 ⟨rfl, hb1⟩
  have bka : w1.heap[w.heap.size]? = some (.cells #[.int .i64 0, .int .i64 0, .int .i64 S, .string s] 23 (0, 0)) := blk_below (blk_alloc (blk_alloc (heap_alloc_new w _) _) _) hb1
  have bkb : w1.heap[w.heap.size + 1]? = some (.cells #[.int .i64 1, .int .i64 1, .int .i64 T, .string t] 23 (0, 0)) := blk_below (blk_alloc (by simpa using heap_alloc_new (w.alloc _) _) _) hb1
  have bkc : w1.heap[w.heap.size + 1 + 1]? = some (.cells #[.int .i64 0, .int .i64 0, .int .i64 0, .string (⟨#[]⟩ : ByteArray)] 23 (0, 0)) := blk_below (by simpa using heap_alloc_new ((w.alloc _).alloc _) _) hb1
  have HB := Aside0.mk (show Below w.heap.size w w1 from below_step (below_alloc (below_alloc (below_alloc (Below.refl _ _) _) _) _) hb1)
  have hcb0 : w1.cell? ⟨w.heap.size + 1, 0, none⟩ = some (.int .i64 1) := (blk_cell bkb 0).trans rfl
  have hcb1 : w1.cell? ⟨w.heap.size + 1, 1, none⟩ = some (.int .i64 1) := (blk_cell bkb 1).trans rfl
  have hcb2 : w1.cell? ⟨w.heap.size + 1, 2, none⟩ = some (.int .i64 T) := (blk_cell bkb 2).trans rfl
  have hcb3 : w1.cell? ⟨w.heap.size + 1, 3, none⟩ = some (.string t) := (blk_cell bkb 3).trans rfl
  have BKA := Aside0.mk bka
  have BKB := Aside0.mk bkb
  have BKC := Aside0.mk bkc
  clear bka bkb bkc hb1
  go_wp2_with fail
  refine (impl_ValueOK.calls k 1 1 T t true _ HC1.out).mono ?_
  rintro e w2 ⟨rfl, hb2⟩
  have bka := blk_below BKA.out hb2
  have bkb := blk_below BKB.out hb2
  have bkc := blk_below BKC.out hb2
  clear hcb0 hcb1 hcb2 hcb3 BKA BKB BKC
  have HB2 := Aside0.mk (below_step HB.out hb2)
  clear HB
  have HB := HB2
  clear HB2
  have hca0 : w2.cell? ⟨w.heap.size, 0, none⟩ = some (.int .i64 0) := (blk_cell bka 0).trans rfl
  have hca1 : w2.cell? ⟨w.heap.size, 1, none⟩ = some (.int .i64 0) := (blk_cell bka 1).trans rfl
  have hcb0 : w2.cell? ⟨w.heap.size + 1, 0, none⟩ = some (.int .i64 1) := (blk_cell bkb 0).trans rfl
  have hcb1 : w2.cell? ⟨w.heap.size + 1, 1, none⟩ = some (.int .i64 1) := (blk_cell bkb 1).trans rfl
  have hcb2 : w2.cell? ⟨w.heap.size + 1, 2, none⟩ = some (.int .i64 T) := (blk_cell bkb 2).trans rfl
  have hcb3 : w2.cell? ⟨w.heap.size + 1, 3, none⟩ = some (.string t) := (blk_cell bkb 3).trans rfl
  have hcc0 : w2.cell? ⟨w.heap.size + 1 + 1, 0, none⟩ = some (.int .i64 0) := (blk_cell bkc 0).trans rfl
  have hcc1 : w2.cell? ⟨w.heap.size + 1 + 1, 1, none⟩ = some (.int .i64 0) := (blk_cell bkc 1).trans rfl
  have hcc2 : w2.cell? ⟨w.heap.size + 1 + 1, 2, none⟩ = some (.int .i64 0) := (blk_cell bkc 2).trans rfl
  have hcc3 : w2.cell? ⟨w.heap.size + 1 + 1, 3, none⟩ = some (.string (⟨#[]⟩ : ByteArray)) := (blk_cell bkc 3).trans rfl
  have hfc0 := blk_frozen bkc 0
  have hfc1 := blk_frozen bkc 1
  have hfc2 := blk_frozen bkc 2
  have hfc3 := blk_frozen bkc 3
  have BKA := Aside0.mk bka
  have BKB := Aside0.mk bkb
  have BKC := Aside0.mk bkc
  clear bka bkb bkc hb2
  go_wp2
  refine bodyPost_ret (results_ct rfl _ _ (w.heap.size + 1 + 1) 23 #[.int .i64 0, .int .i64 0, .int .i64 0, .string (⟨#[]⟩ : ByteArray)] (0, 0) _ rfl (blk_put (blk_put (blk_put (blk_put BKC.out 0 _ rfl) 1 _ rfl) 2 _ rfl) 3 _ rfl) Try.underlying23 rfl (by kernel_rfl)) rfl ?_
  exact ⟨rfl, below_set (below_set (below_set (below_set (HB.out) (by omega)) (by omega)) (by omega)) (by omega)⟩
set_option maxHeartbeats 8000000 in
set_option maxRecDepth 100000 in
theorem impl_Logic.m31000 (k : Nat) (w : World) (S T : Int) (s t : ByteArray) (ha : impl_ValueOK.f k 1 0 S s = some true) (hb : impl_ValueOK.f k 0 0 T t = some true) :
    Calls Try.prog 19 #[.int .i64 3, .agg #[.int .i64 1, .int .i64 0, .int .i64 S, .string s], .agg #[.int .i64 0, .int .i64 0, .int .i64 T, .string t]] w fun e w' => e = .returned (.tuple #[.agg #[.int .i64 0, .int .i64 0, .int .i64 0, .string (⟨#[]⟩ : ByteArray)], .int .i64 0]) ∧ Below w.heap.size w w' := by
  have hu := Try.underlying23
  have HC0 := Aside0.mk ha
  clear ha
  have HC1 := Aside0.mk hb
  clear hb
  go_enter Try.func19, Try.ntmps19
  go_wp2_with fail
  refine (impl_ValueOK.calls k 1 0 S s true _ HC0.out).mono ?_
  rintro e w1 ⟨rfl, hb1⟩
  have bka : w1.heap[w.heap.size]? = some (.cells #[.int .i64 1, .int .i64 0, .int .i64 S, .string s] 23 (0, 0)) := blk_below (blk_alloc (blk_alloc (heap_alloc_new w _) _) _) hb1
  have bkb : w1.heap[w.heap.size + 1]? = some (.cells #[.int .i64 0, .int .i64 0, .int .i64 T, .string t] 23 (0, 0)) := blk_below (blk_alloc (by simpa using heap_alloc_new (w.alloc _) _) _) hb1
  have bkc : w1.heap[w.heap.size + 1 + 1]? = some (.cells #[.int .i64 0, .int .i64 0, .int .i64 0, .string (⟨#[]⟩ : ByteArray)] 23 (0, 0)) := blk_below (by simpa using heap_alloc_new ((w.alloc _).alloc _) _) hb1
  have HB := Aside0.mk (show Below w.heap.size w w1 from below_step (below_alloc (below_alloc (below_alloc (Below.refl _ _) _) _) _) hb1)
  have hcb0 : w1.cell? ⟨w.heap.size + 1, 0, none⟩ = some (.int .i64 0) := (blk_cell bkb 0).trans rfl
  have hcb1 : w1.cell? ⟨w.heap.size + 1, 1, none⟩ = some (.int .i64 0) := (blk_cell bkb 1).trans rfl
  have hcb2 : w1.cell? ⟨w.heap.size + 1, 2, none⟩ = some (.int .i64 T) := (blk_cell bkb 2).trans rfl
  have hcb3 : w1.cell? ⟨w.heap.size + 1, 3, none⟩ = some (.string t) := (blk_cell bkb 3).trans rfl
  have BKA := Aside0.mk bka
  have BKB := Aside0.mk bkb
  have BKC := Aside0.mk bkc
  clear bka bkb bkc hb1
  go_wp2_with fail
  refine (impl_ValueOK.calls k 0 0 T t true _ HC1.out).mono ?_
  rintro e w2 ⟨rfl, hb2⟩
  have bka := blk_below BKA.out hb2
  have bkb := blk_below BKB.out hb2
  have bkc := blk_below BKC.out hb2
  clear hcb0 hcb1 hcb2 hcb3 BKA BKB BKC
  have HB2 := Aside0.mk (below_step HB.out hb2)
  clear HB
  have HB := HB2
  clear HB2
  have hca0 : w2.cell? ⟨w.heap.size, 0, none⟩ = some (.int .i64 1) := (blk_cell bka 0).trans rfl
  have hca1 : w2.cell? ⟨w.heap.size, 1, none⟩ = some (.int .i64 0) := (blk_cell bka 1).trans rfl
  have hcb0 : w2.cell? ⟨w.heap.size + 1, 0, none⟩ = some (.int .i64 0) := (blk_cell bkb 0).trans rfl
  have hcb1 : w2.cell? ⟨w.heap.size + 1, 1, none⟩ = some (.int .i64 0) := (blk_cell bkb 1).trans rfl
  have hcb2 : w2.cell? ⟨w.heap.size + 1, 2, none⟩ = some (.int .i64 T) := (blk_cell bkb 2).trans rfl
  have hcb3 : w2.cell? ⟨w.heap.size + 1, 3, none⟩ = some (.string t) := (blk_cell bkb 3).trans rfl
  have hcc0 : w2.cell? ⟨w.heap.size + 1 + 1, 0, none⟩ = some (.int .i64 0) := (blk_cell bkc 0).trans rfl
  have hcc1 : w2.cell? ⟨w.heap.size + 1 + 1, 1, none⟩ = some (.int .i64 0) := (blk_cell bkc 1).trans rfl
  have hcc2 : w2.cell? ⟨w.heap.size + 1 + 1, 2, none⟩ = some (.int .i64 0) := (blk_cell bkc 2).trans rfl
  have hcc3 : w2.cell? ⟨w.heap.size + 1 + 1, 3, none⟩ = some (.string (⟨#[]⟩ : ByteArray)) := (blk_cell bkc 3).trans rfl
  have hfc0 := blk_frozen bkc 0
  have hfc1 := blk_frozen bkc 1
  have hfc2 := blk_frozen bkc 2
  have hfc3 := blk_frozen bkc 3
  have BKA := Aside0.mk bka
  have BKB := Aside0.mk bkb
  have BKC := Aside0.mk bkc
  clear bka bkb bkc hb2
  go_wp2
  refine bodyPost_ret (results_ct rfl _ _ (w.heap.size + 1 + 1) 23 #[.int .i64 0, .int .i64 0, .int .i64 0, .string (⟨#[]⟩ : ByteArray)] (0, 0) _ rfl (blk_put (blk_put (blk_put (blk_put BKC.out 0 _ rfl) 1 _ rfl) 2 _ rfl) 3 _ rfl) Try.underlying23 rfl (by kernel_rfl)) rfl ?_
  exact ⟨rfl, below_set (below_set (below_set (below_set (HB.out) (by omega)) (by omega)) (by omega)) (by omega)⟩
set_option maxHeartbeats 8000000 in
set_option maxRecDepth 100000 in
theorem impl_Logic.m31010 (k : Nat) (w : World) (S T : Int) (s t : ByteArray) (ha : impl_ValueOK.f k 1 0 S s = some true) (hb : impl_ValueOK.f k 1 0 T t = some true) :
    Calls Try.prog 19 #[.int .i64 3, .agg #[.int .i64 1, .int .i64 0, .int .i64 S, .string s], .agg #[.int .i64 1, .int .i64 0, .int .i64 T, .string t]] w fun e w' => e = .returned (.tuple #[.agg #[.int .i64 1, .int .i64 0, .int .i64 0, .string (⟨#[]⟩ : ByteArray)], .int .i64 0]) ∧ Below w.heap.size w w' := by
  have hu := Try.underlying23
  have HC0 := Aside0.mk ha
  clear ha
  have HC1 := Aside0.mk hb
  clear hb
  go_enter Try.func19, Try.ntmps19
  go_wp2_with fail
  refine (impl_ValueOK.calls k 1 0 S s true _ HC0.out).mono ?_
  rintro e w1 ⟨rfl, hb1⟩
  have bka : w1.heap[w.heap.size]? = some (.cells #[.int .i64 1, .int .i64 0, .int .i64 S, .string s] 23 (0, 0)) := blk_below (blk_alloc (blk_alloc (heap_alloc_new w _) _) _) hb1
  have bkb : w1.heap[w.heap.size + 1]? = some (.cells #[.int .i64 1, .int .i64 0, .int .i64 T, .string t] 23 (0, 0)) := blk_below (blk_alloc (by simpa using heap_alloc_new (w.alloc _) _) _) hb1
  have bkc : w1.heap[w.heap.size + 1 + 1]? = some (.cells #[.int .i64 0, .int .i64 0, .int .i64 0, .string (⟨#[]⟩ : ByteArray)] 23 (0, 0)) := blk_below (by simpa using heap_alloc_new ((w.alloc _).alloc _) _) hb1
  have HB := Aside0.mk (show Below w.heap.size w w1 from below_step (below_alloc (below_alloc (below_alloc (Below.refl _ _) _) _) _) hb1)
  have hcb0 : w1.cell? ⟨w.heap.size + 1, 0, none⟩ = some (.int .i64 1) := (blk_cell bkb 0).trans rfl
  have hcb1 : w1.cell? ⟨w.heap.size + 1, 1, none⟩ = some (.int .i64 0) := (blk_cell bkb 1).trans rfl
  have hcb2 : w1.cell? ⟨w.heap.size + 1, 2, none⟩ = some (.int .i64 T) := (blk_cell bkb 2).trans rfl
  have hcb3 : w1.cell? ⟨w.heap.size + 1, 3, none⟩ = some (.string t) := (blk_cell bkb 3).trans rfl
  have BKA := Aside0.mk bka
  have BKB := Aside0.mk bkb
  have BKC := Aside0.mk bkc
  clear bka bkb bkc hb1
  go_wp2_with fail
  refine (impl_ValueOK.calls k 1 0 T t true _ HC1.out).mono ?_
  rintro e w2 ⟨rfl, hb2⟩
  have bka := blk_below BKA.out hb2
  have bkb := blk_below BKB.out hb2
  have bkc := blk_below BKC.out hb2
  clear hcb0 hcb1 hcb2 hcb3 BKA BKB BKC
  have HB2 := Aside0.mk (below_step HB.out hb2)
  clear HB
  have HB := HB2
  clear HB2
  have hca0 : w2.cell? ⟨w.heap.size, 0, none⟩ = some (.int .i64 1) := (blk_cell bka 0).trans rfl
  have hca1 : w2.cell? ⟨w.heap.size, 1, none⟩ = some (.int .i64 0) := (blk_cell bka 1).trans rfl
  have hcb0 : w2.cell? ⟨w.heap.size + 1, 0, none⟩ = some (.int .i64 1) := (blk_cell bkb 0).trans rfl
  have hcb1 : w2.cell? ⟨w.heap.size + 1, 1, none⟩ = some (.int .i64 0) := (blk_cell bkb 1).trans rfl
  have hcb2 : w2.cell? ⟨w.heap.size + 1, 2, none⟩ = some (.int .i64 T) := (blk_cell bkb 2).trans rfl
  have hcb3 : w2.cell? ⟨w.heap.size + 1, 3, none⟩ = some (.string t) := (blk_cell bkb 3).trans rfl
  have hcc0 : w2.cell? ⟨w.heap.size + 1 + 1, 0, none⟩ = some (.int .i64 0) := (blk_cell bkc 0).trans rfl
  have hcc1 : w2.cell? ⟨w.heap.size + 1 + 1, 1, none⟩ = some (.int .i64 0) := (blk_cell bkc 1).trans rfl
  have hcc2 : w2.cell? ⟨w.heap.size + 1 + 1, 2, none⟩ = some (.int .i64 0) := (blk_cell bkc 2).trans rfl
  have hcc3 : w2.cell? ⟨w.heap.size + 1 + 1, 3, none⟩ = some (.string (⟨#[]⟩ : ByteArray)) := (blk_cell bkc 3).trans rfl
  have hfc0 := blk_frozen bkc 0
  have hfc1 := blk_frozen bkc 1
  have hfc2 := blk_frozen bkc 2
  have hfc3 := blk_frozen bkc 3
  have BKA := Aside0.mk bka
  have BKB := Aside0.mk bkb
  have BKC := Aside0.mk bkc
  clear bka bkb bkc hb2
  go_wp2
  refine bodyPost_ret (results_ct rfl _ _ (w.heap.size + 1 + 1) 23 #[.int .i64 1, .int .i64 0, .int .i64 0, .string (⟨#[]⟩ : ByteArray)] (0, 0) _ rfl (blk_put (blk_put (blk_put (blk_put BKC.out 0 _ rfl) 1 _ rfl) 2 _ rfl) 3 _ rfl) Try.underlying23 rfl (by kernel_rfl)) rfl ?_
  exact ⟨rfl, below_set (below_set (below_set (below_set (HB.out) (by omega)) (by omega)) (by omega)) (by omega)⟩
set_option maxHeartbeats 8000000 in
set_option maxRecDepth 100000 in
theorem impl_Logic.m31011 (k : Nat) (w : World) (S T : Int) (s t : ByteArray) (ha : impl_ValueOK.f k 1 0 S s = some true) (hb : impl_ValueOK.f k 1 1 T t = some true) :
    Calls Try.prog 19 #[.int .i64 3, .agg #[.int .i64 1, .int .i64 0, .int .i64 S, .string s], .agg #[.int .i64 1, .int .i64 1, .int .i64 T, .string t]] w fun e w' => e = .returned (.tuple #[.agg #[.int .i64 1, .int .i64 1, .int .i64 0, .string (⟨#[]⟩ : ByteArray)], .int .i64 0]) ∧ Below w.heap.size w w' := by
  have hu := Try.underlying23
  have HC0 := Aside0.mk ha
  clear ha
  have HC1 := Aside0.mk hb
  clear hb
  go_enter Try.func19, Try.ntmps19
  go_wp2_with fail
  refine (impl_ValueOK.calls k 1 0 S s true _ HC0.out).mono ?_
  rintro e w1 ⟨rfl, hb1⟩
  have bka : w1.heap[w.heap.size]? = some (.cells #[.int .i64 1, .int .i64 0, .int .i64 S, .string s] 23 (0, 0)) := blk_below (blk_alloc (blk_alloc (heap_alloc_new w _) _) _) hb1
  have bkb : w1.heap[w.heap.size + 1]? = some (.cells #[.int .i64 1, .int .i64 1, .int .i64 T, .string t] 23 (0, 0)) := blk_below (blk_alloc (by simpa using heap_alloc_new (w.alloc _) _) _) hb1
  have bkc : w1.heap[w.heap.size + 1 + 1]? = some (.cells #[.int .i64 0, .int .i64 0, .int .i64 0, .string (⟨#[]⟩ : ByteArray)] 23 (0, 0)) := blk_below (by simpa using heap_alloc_new ((w.alloc _).alloc _) _) hb1
  have HB := Aside0.mk (show Below w.heap.size w w1 from below_step (below_alloc (below_alloc (below_alloc (Below.refl _ _) _) _) _) hb1)
  have hcb0 : w1.cell? ⟨w.heap.size + 1, 0, none⟩ = some (.int .i64 1) := (blk_cell bkb 0).trans rfl
  have hcb1 : w1.cell? ⟨w.heap.size + 1, 1, none⟩ = some (.int .i64 1) := (blk_cell bkb 1).trans rfl
  have hcb2 : w1.cell? ⟨w.heap.size + 1, 2, none⟩ = some (.int .i64 T) := (blk_cell bkb 2).trans rfl
  have hcb3 : w1.cell? ⟨w.heap.size + 1, 3, none⟩ = some (.string t) := (blk_cell bkb 3).trans rfl
  have BKA := Aside0.mk bka
  have BKB := Aside0.mk bkb
  have BKC := Aside0.mk bkc
  clear bka bkb bkc hb1
  go_wp2_with fail
  refine (impl_ValueOK.calls k 1 1 T t true _ HC1.out).mono ?_
  rintro e w2 ⟨rfl, hb2⟩
  have bka := blk_below BKA.out hb2
  have bkb := blk_below BKB.out hb2
  have bkc := blk_below BKC.out hb2
  clear hcb0 hcb1 hcb2 hcb3 BKA BKB BKC
  have HB2 := Aside0.mk (below_step HB.out hb2)
  clear HB
  have HB := HB2
  clear HB2
  have hca0 : w2.cell? ⟨w.heap.size, 0, none⟩ = some (.int .i64 1) := (blk_cell bka 0).trans rfl
  have hca1 : w2.cell? ⟨w.heap.size, 1, none⟩ = some (.int .i64 0) := (blk_cell bka 1).trans rfl
  have hcb0 : w2.cell? ⟨w.heap.size + 1, 0, none⟩ = some (.int .i64 1) := (blk_cell bkb 0).trans rfl
  have hcb1 : w2.cell? ⟨w.heap.size + 1, 1, none⟩ = some (.int .i64 1) := (blk_cell bkb 1).trans rfl
  have hcb2 : w2.cell? ⟨w.heap.size + 1, 2, none⟩ = some (.int .i64 T) := (blk_cell bkb 2).trans rfl
  have hcb3 : w2.cell? ⟨w.heap.size + 1, 3, none⟩ = some (.string t) := (blk_cell bkb 3).trans rfl
  have hcc0 : w2.cell? ⟨w.heap.size + 1 + 1, 0, none⟩ = some (.int .i64 0) := (blk_cell bkc 0).trans rfl
  have hcc1 : w2.cell? ⟨w.heap.size + 1 + 1, 1, none⟩ = some (.int .i64 0) := (blk_cell bkc 1).trans rfl
  have hcc2 : w2.cell? ⟨w.heap.size + 1 + 1, 2, none⟩ = some (.int .i64 0) := (blk_cell bkc 2).trans rfl
  have hcc3 : w2.cell? ⟨w.heap.size + 1 + 1, 3, none⟩ = some (.string (⟨#[]⟩ : ByteArray)) := (blk_cell bkc 3).trans rfl
  have hfc0 := blk_frozen bkc 0
  have hfc1 := blk_frozen bkc 1
  have hfc2 := blk_frozen bkc 2
  have hfc3 := blk_frozen bkc 3
  have BKA := Aside0.mk bka
  have BKB := Aside0.mk bkb
  have BKC := Aside0.mk bkc
  clear bka bkb bkc hb2
  go_wp2
  refine bodyPost_ret (results_ct rfl _ _ (w.heap.size + 1 + 1) 23 #[.int .i64 1, .int .i64 1, .int .i64 0, .string (⟨#[]⟩ : ByteArray)] (0, 0) _ rfl (blk_put (blk_put (blk_put (blk_put BKC.out 0 _ rfl) 1 _ rfl) 2 _ rfl) 3 _ rfl) Try.underlying23 rfl (by kernel_rfl)) rfl ?_
  exact ⟨rfl, below_set (below_set (below_set (below_set (HB.out) (by omega)) (by omega)) (by omega)) (by omega)⟩
set_option maxHeartbeats 8000000 in
set_option maxRecDepth 100000 in
theorem impl_Logic.m31100 (k : Nat) (w : World) (S T : Int) (s t : ByteArray) (ha : impl_ValueOK.f k 1 1 S s = some true) (hb : impl_ValueOK.f k 0 0 T t = some true) :
    Calls Try.prog 19 #[.int .i64 3, .agg #[.int .i64 1, .int .i64 1, .int .i64 S, .string s], .agg #[.int .i64 0, .int .i64 0, .int .i64 T, .string t]] w fun e w' => e = .returned (.tuple #[.agg #[.int .i64 0, .int .i64 0, .int .i64 0, .string (⟨#[]⟩ : ByteArray)], .int .i64 0]) ∧ Below w.heap.size w w' := by
  have hu := Try.underlying23
  have HC0 := Aside0.mk ha
  clear ha
  have HC1 := Aside0.mk hb
  clear hb
  go_enter Try.func19, Try.ntmps19
  go_wp2_with fail
  refine (impl_ValueOK.calls k 1 1 S s true _ HC0.out).mono ?_
  rintro e w1 ⟨rfl, hb1⟩
  have bka : w1.heap[w.heap.size]? = some (.cells #[.int .i64 1, .int .i64 1, .int .i64 S, .string s] 23 (0, 0)) := blk_below (blk_alloc (blk_alloc (heap_alloc_new w _) _) _) hb1
  have bkb : w1.heap[w.heap.size + 1]? = some (.cells #[.int .i64 0, .int .i64 0, .int .i64 T, .string t] 23 (0, 0)) := blk_below (blk_alloc (by simpa using heap_alloc_new (w.alloc _) _) _) hb1
  have bkc : w1.heap[w.heap.size + 1 + 1]? = some (.cells #[.int .i64 0, .int .i64 0, .int .i64 0, .string (⟨#[]⟩ : ByteArray)] 23 (0, 0)) := blk_below (by simpa using heap_alloc_new ((w.alloc _).alloc _) _) hb1
  have HB := Aside0.mk (show Below w.heap.size w w1 from below_step (below_alloc (below_alloc (below_alloc (Below.refl _ _) _) _) _) hb1)
  have hcb0 : w1.cell? ⟨w.heap.size + 1, 0, none⟩ = some (.int .i64 0) := (blk_cell bkb 0).trans rfl
  have hcb1 : w1.cell? ⟨w.heap.size + 1, 1, none⟩ = some (.int .i64 0) := (blk_cell bkb 1).trans rfl
  have hcb2 : w1.cell? ⟨w.heap.size + 1, 2, none⟩ = some (.int .i64 T) := (blk_cell bkb 2).trans rfl
  have hcb3 : w1.cell? ⟨w.heap.size + 1, 3, none⟩ = some (.string t) := (blk_cell bkb 3).trans rfl
  have BKA := Aside0.mk bka
  have BKB := Aside0.mk bkb
  have BKC := Aside0.mk bkc
  clear bka bkb bkc hb1
  go_wp2_with fail
  refine (impl_ValueOK.calls k 0 0 T t true _ HC1.out).mono ?_
  rintro e w2 ⟨rfl, hb2⟩
  have bka := blk_below BKA.out hb2
  have bkb := blk_below BKB.out hb2
  have bkc := blk_below BKC.out hb2
  clear hcb0 hcb1 hcb2 hcb3 BKA BKB BKC
  have HB2 := Aside0.mk (below_step HB.out hb2)
  clear HB
  have HB := HB2
  clear HB2
  have hca0 : w2.cell? ⟨w.heap.size, 0, none⟩ = some (.int .i64 1) := (blk_cell bka 0).trans rfl
  have hca1 : w2.cell? ⟨w.heap.size, 1, none⟩ = some (.int .i64 1) := (blk_cell bka 1).trans rfl
  have hcb0 : w2.cell? ⟨w.heap.size + 1, 0, none⟩ = some (.int .i64 0) := (blk_cell bkb 0).trans rfl
  have hcb1 : w2.cell? ⟨w.heap.size + 1, 1, none⟩ = some (.int .i64 0) := (blk_cell bkb 1).trans rfl
  have hcb2 : w2.cell? ⟨w.heap.size + 1, 2, none⟩ = some (.int .i64 T) := (blk_cell bkb 2).trans rfl
  have hcb3 : w2.cell? ⟨w.heap.size + 1, 3, none⟩ = some (.string t) := (blk_cell bkb 3).trans rfl
  have hcc0 : w2.cell? ⟨w.heap.size + 1 + 1, 0, none⟩ = some (.int .i64 0) := (blk_cell bkc 0).trans rfl
  have hcc1 : w2.cell? ⟨w.heap.size + 1 + 1, 1, none⟩ = some (.int .i64 0) := (blk_cell bkc 1).trans rfl
  have hcc2 : w2.cell? ⟨w.heap.size + 1 + 1, 2, none⟩ = some (.int .i64 0) := (blk_cell bkc 2).trans rfl
  have hcc3 : w2.cell? ⟨w.heap.size + 1 + 1, 3, none⟩ = some (.string (⟨#[]⟩ : ByteArray)) := (blk_cell bkc 3).trans rfl
  have hfc0 := blk_frozen bkc 0
  have hfc1 := blk_frozen bkc 1
  have hfc2 := blk_frozen bkc 2
  have hfc3 := blk_frozen bkc 3
  have BKA := Aside0.mk bka
  have BKB := Aside0.mk bkb
  have BKC := Aside0.mk bkc
  clear bka bkb bkc hb2
  go_wp2
  refine bodyPost_ret (results_ct rfl _ _ (w.heap.size + 1 + 1) 23 #[.int .i64 0, .int .i64 0, .int .i64 0, .string (⟨#[]⟩ : ByteArray)] (0, 0) _ rfl (blk_put (blk_put (blk_put (blk_put BKC.out 0 _ rfl) 1 _ rfl) 2 _ rfl) 3 _ rfl) Try.underlying23 rfl (by kernel_rfl)) rfl ?_
  exact ⟨rfl, below_set (below_set (below_set (below_set (HB.out) (by omega)) (by omega)) (by omega)) (by omega)⟩
set_option maxHeartbeats 8000000 in
set_option maxRecDepth 100000 in
theorem impl_Logic.m31110 (k : Nat) (w : World) (S T : Int) (s t : ByteArray) (ha : impl_ValueOK.f k 1 1 S s = some true) (hb : impl_ValueOK.f k 1 0 T t = some true) :
    Calls Try.prog 19 #[.int .i64 3, .agg #[.int .i64 1, .int .i64 1, .int .i64 S, .string s], .agg #[.int .i64 1, .int .i64 0, .int .i64 T, .string t]] w fun e w' => e = .returned (.tuple #[.agg #[.int .i64 1, .int .i64 1, .int .i64 0, .string (⟨#[]⟩ : ByteArray)], .int .i64 0]) ∧ Below w.heap.size w w' := by
  have hu := Try.underlying23
  have HC0 := Aside0.mk ha
  clear ha
  have HC1 := Aside0.mk hb
  clear hb
  go_enter Try.func19, Try.ntmps19
  go_wp2_with fail
  refine (impl_ValueOK.calls k 1 1 S s true _ HC0.out).mono ?_
  rintro e w1 ⟨rfl, hb1⟩
  have bka : w1.heap[w.heap.size]? = some (.cells #[.int .i64 1, .int .i64 1, .int .i64 S, .string s] 23 (0, 0)) := blk_below (blk_alloc (blk_alloc (heap_alloc_new w _) _) _) hb1
  have bkb : w1.heap[w.heap.size + 1]? = some (.cells #[.int .i64 1, .int .i64 0, .int .i64 T, .string t] 23 (0, 0)) := blk_below (blk_alloc (by simpa using heap_alloc_new (w.alloc _) _) _) hb1
  have bkc : w1.heap[w.heap.size + 1 + 1]? = some (.cells #[.int .i64 0, .int .i64 0, .int .i64 0, .string (⟨#[]⟩ : ByteArray)] 23 (0, 0)) := blk_below (by simpa using heap_alloc_new ((w.alloc _).alloc _) _) hb1
  have HB := Aside0.mk (show Below w.heap.size w w1 from below_step (below_alloc (below_alloc (below_alloc (Below.refl _ _) _) _) _) hb1)
  have hcb0 : w1.cell? ⟨w.heap.size + 1, 0, none⟩ = some (.int .i64 1) := (blk_cell bkb 0).trans rfl
  have hcb1 : w1.cell? ⟨w.heap.size + 1, 1, none⟩ = some (.int .i64 0) := (blk_cell bkb 1).trans rfl
  have hcb2 : w1.cell? ⟨w.heap.size + 1, 2, none⟩ = some (.int .i64 T) := (blk_cell bkb 2).trans rfl
  have hcb3 : w1.cell? ⟨w.heap.size + 1, 3, none⟩ = some (.string t) := (blk_cell bkb 3).trans rfl
  have BKA := Aside0.mk bka
  have BKB := Aside0.mk bkb
  have BKC := Aside0.mk bkc
  clear bka bkb bkc hb1
  go_wp2_with fail
  refine (impl_ValueOK.calls k 1 0 T t true _ HC1.out).mono ?_
  rintro e w2 ⟨rfl, hb2⟩
  have bka := blk_below BKA.out hb2
  have bkb := blk_below BKB.out hb2
  have bkc := blk_below BKC.out hb2
  clear hcb0 hcb1 hcb2 hcb3 BKA BKB BKC
  have HB2 := Aside0.mk (below_step HB.out hb2)
  clear HB
  have HB := HB2
  clear HB2
  have hca0 : w2.cell? ⟨w.heap.size, 0, none⟩ = some (.int .i64 1) := (blk_cell bka 0).trans rfl
  have hca1 : w2.cell? ⟨w.heap.size, 1, none⟩ = some (.int .i64 1) := (blk_cell bka 1).trans rfl
  have hcb0 : w2.cell? ⟨w.heap.size + 1, 0, none⟩ = some (.int .i64 1) := (blk_cell bkb 0).trans rfl
  have hcb1 : w2.cell? ⟨w.heap.size + 1, 1, none⟩ = some (.int .i64 0) := (blk_cell bkb 1).trans rfl
  have hcb2 : w2.cell? ⟨w.heap.size + 1, 2, none⟩ = some (.int .i64 T) := (blk_cell bkb 2).trans rfl
  have hcb3 : w2.cell? ⟨w.heap.size + 1, 3, none⟩ = some (.string t) := (blk_cell bkb 3).trans rfl
  have hcc0 : w2.cell? ⟨w.heap.size + 1 + 1, 0, none⟩ = some (.int .i64 0) := (blk_cell bkc 0).trans rfl
  have hcc1 : w2.cell? ⟨w.heap.size + 1 + 1, 1, none⟩ = some (.int .i64 0) := (blk_cell bkc 1).trans rfl
  have hcc2 : w2.cell? ⟨w.heap.size + 1 + 1, 2, none⟩ = some (.int .i64 0) := (blk_cell bkc 2).trans rfl
  have hcc3 : w2.cell? ⟨w.heap.size + 1 + 1, 3, none⟩ = some (.string (⟨#[]⟩ : ByteArray)) := (blk_cell bkc 3).trans rfl
  have hfc0 := blk_frozen bkc 0
  have hfc1 := blk_frozen bkc 1
  have hfc2 := blk_frozen bkc 2
  have hfc3 := blk_frozen bkc 3
  have BKA := Aside0.mk bka
  have BKB := Aside0.mk bkb
  have BKC := Aside0.mk bkc
  clear bka bkb bkc hb2
  go_wp2
  refine bodyPost_ret (results_ct rfl _ _ (w.heap.size + 1 + 1) 23 #[.int .i64 1, .int .i64 1, .int .i64 0, .string (⟨#[]⟩ : ByteArray)] (0, 0) _ rfl (blk_put (blk_put (blk_put (blk_put BKC.out 0 _ rfl) 1 _ rfl) 2 _ rfl) 3 _ rfl) Try.underlying23 rfl (by kernel_rfl)) rfl ?_
  exact ⟨rfl, below_set (below_set (below_set (below_set (HB.out) (by omega)) (by omega)) (by omega)) (by omega)⟩
set_option maxHeartbeats 8000000 in
set_option maxRecDepth 100000 in
theorem impl_Logic.m31111 (k : Nat) (w : World) (S T : Int) (s t : ByteArray) (ha : impl_ValueOK.f k 1 1 S s = some true) (hb : impl_ValueOK.f k 1 1 T t = some true) :
    Calls Try.prog 19 #[.int .i64 3, .agg #[.int .i64 1, .int .i64 1, .int .i64 S, .string s], .agg #[.int .i64 1, .int .i64 1, .int .i64 T, .string t]] w fun e w' => e = .returned (.tuple #[.agg #[.int .i64 1, .int .i64 0, .int .i64 0, .string (⟨#[]⟩ : ByteArray)], .int .i64 0]) ∧ Below w.heap.size w w' := by
  have hu := Try.underlying23
  have HC0 := Aside0.mk ha
  clear ha
  have HC1 := Aside0.mk hb
  clear hb
  go_enter Try.func19, Try.ntmps19
  go_wp2_with fail
  refine (impl_ValueOK.calls k 1 1 S s true _ HC0.out).mono ?_
  rintro e w1 ⟨rfl, hb1⟩
  have bka : w1.heap[w.heap.size]? = some (.cells #[.int .i64 1, .int .i64 1, .int .i64 S, .string s] 23 (0, 0)) := blk_below (blk_alloc (blk_alloc (heap_alloc_new w _) _) _) hb1
  have bkb : w1.heap[w.heap.size + 1]? = some (.cells #[.int .i64 1, .int .i64 1, .int .i64 T, .string t] 23 (0, 0)) := blk_below (blk_alloc (by simpa using heap_alloc_new (w.alloc _) _) _) hb1
  have bkc : w1.heap[w.heap.size + 1 + 1]? = some (.cells #[.int .i64 0, .int .i64 0, .int .i64 0, .string (⟨#[]⟩ : ByteArray)] 23 (0, 0)) := blk_below (by simpa using heap_alloc_new ((w.alloc _).alloc _) _) hb1
  have HB := Aside0.mk (show Below w.heap.size w w1 from below_step (below_alloc (below_alloc (below_alloc (Below.refl _ _) _) _) _) hb1)
  have hcb0 : w1.cell? ⟨w.heap.size + 1, 0, none⟩ = some (.int .i64 1) := (blk_cell bkb 0).trans rfl
  have hcb1 : w1.cell? ⟨w.heap.size + 1, 1, none⟩ = some (.int .i64 1) := (blk_cell bkb 1).trans rfl
  have hcb2 : w1.cell? ⟨w.heap.size + 1, 2, none⟩ = some (.int .i64 T) := (blk_cell bkb 2).trans rfl
  have hcb3 : w1.cell? ⟨w.heap.size + 1, 3, none⟩ = some (.string t) := (blk_cell bkb 3).trans rfl
  have BKA := Aside0.mk bka
  have BKB := Aside0.mk bkb
  have BKC := Aside0.mk bkc
  clear bka bkb bkc hb1
  go_wp2_with fail
  refine (impl_ValueOK.calls k 1 1 T t true _ HC1.out).mono ?_
  rintro e w2 ⟨rfl, hb2⟩
  have bka := blk_below BKA.out hb2
  have bkb := blk_below BKB.out hb2
  have bkc := blk_below BKC.out hb2
  clear hcb0 hcb1 hcb2 hcb3 BKA BKB BKC
  have HB2 := Aside0.mk (below_step HB.out hb2)
  clear HB
  have HB := HB2
  clear HB2
  have hca0 : w2.cell? ⟨w.heap.size, 0, none⟩ = some (.int .i64 1) := (blk_cell bka 0).trans rfl
  have hca1 : w2.cell? ⟨w.heap.size, 1, none⟩ = some (.int .i64 1) := (blk_cell bka 1).trans rfl
  have hcb0 : w2.cell? ⟨w.heap.size + 1, 0, none⟩ = some (.int .i64 1) := (blk_cell bkb 0).trans rfl
  have hcb1 : w2.cell? ⟨w.heap.size + 1, 1, none⟩ = some (.int .i64 1) := (blk_cell bkb 1).trans rfl
  have hcb2 : w2.cell? ⟨w.heap.size + 1, 2, none⟩ = some (.int .i64 T) := (blk_cell bkb 2).trans rfl
  have hcb3 : w2.cell? ⟨w.heap.size + 1, 3, none⟩ = some (.string t) := (blk_cell bkb 3).trans rfl
  have hcc0 : w2.cell? ⟨w.heap.size + 1 + 1, 0, none⟩ = some (.int .i64 0) := (blk_cell bkc 0).trans rfl
  have hcc1 : w2.cell? ⟨w.heap.size + 1 + 1, 1, none⟩ = some (.int .i64 0) := (blk_cell bkc 1).trans rfl
  have hcc2 : w2.cell? ⟨w.heap.size + 1 + 1, 2, none⟩ = some (.int .i64 0) := (blk_cell bkc 2).trans rfl
  have hcc3 : w2.cell? ⟨w.heap.size + 1 + 1, 3, none⟩ = some (.string (⟨#[]⟩ : ByteArray)) := (blk_cell bkc 3).trans rfl
  have hfc0 := blk_frozen bkc 0
  have hfc1 := blk_frozen bkc 1
  have hfc2 := blk_frozen bkc 2
  have hfc3 := blk_frozen bkc 3
  have BKA := Aside0.mk bka
  have BKB := Aside0.mk bkb
  have BKC := Aside0.mk bkc
  clear bka bkb bkc hb2
  go_wp2
  refine bodyPost_ret (results_ct rfl _ _ (w.heap.size + 1 + 1) 23 #[.int .i64 1, .int .i64 0, .int .i64 0, .string (⟨#[]⟩ : ByteArray)] (0, 0) _ rfl (blk_put (blk_put (blk_put (blk_put BKC.out 0 _ rfl) 1 _ rfl) 2 _ rfl) 3 _ rfl) Try.underlying23 rfl (by kernel_rfl)) rfl ?_
  exact ⟨rfl, below_set (below_set (below_set (below_set (HB.out) (by omega)) (by omega)) (by omega)) (by omega)⟩
theorem impl_Logic.small (k : Nat) (K N S : Int) (s : ByteArray) (h : impl_ValueOK.f k K N S s = some true) (hK : K ≤ 1) : K = 0 ∧ N = 0 ∨ K = 1 ∧ N = 0 ∨ K = 1 ∧ N = 1 := by
  unfold impl_ValueOK.f at h
  by_cases k0 : K = 0
  · rw [if_pos k0] at h
    have := Option.some.inj h
    simp only [Bool.and_eq_true, beq_iff_eq] at this
    omega
  · by_cases k1 : K = 1
    · rw [if_neg k0, if_pos k1] at h
      by_cases c1 : N < 0
      · rw [if_pos c1] at h; cases h
      · by_cases c2 : N > 1
        · rw [if_neg c1, if_pos c2] at h; cases h
        · omega
    · rw [if_neg k0, if_neg k1, if_neg (by omega), if_neg (by omega), if_neg (by omega), if_neg (by omega)] at h
      cases h
theorem impl_Logic.calls (k : Nat) (a0 : Int) (a1_0 : Int) (a1_1 : Int) (a1_2 : Int) (a1_3 : ByteArray) (a2_0 : Int) (a2_1 : Int) (a2_2 : Int) (a2_3 : ByteArray) (r1 : Int) (r2 : Int) (r3 : Int) (r4 : ByteArray) (r5 : Int) (w : World) (h : impl_Logic.f k a0 a1_0 a1_1 a1_2 a1_3 a2_0 a2_1 a2_2 a2_3 = some (r1, r2, r3, r4, r5)) :
    Calls Try.prog 19 #[.int .i64 a0, .agg #[.int .i64 a1_0, .int .i64 a1_1, .int .i64 a1_2, .string a1_3], .agg #[.int .i64 a2_0, .int .i64 a2_1, .int .i64 a2_2, .string a2_3]] w fun e w' => e = .returned (.tuple #[.agg #[.int .i64 r1, .int .i64 r2, .int .i64 r3, .string r4], .int .i64 r5]) ∧ Below w.heap.size w w' := by
  unfold impl_Logic.f at h
  by_cases c1 : a0 < 1
  · rw [if_pos c1] at h; cases h; exact impl_Logic.e1 k w a0 a1_0 a1_1 a2_0 a2_1 a1_2 a2_2 a1_3 a2_3 c1
  · rw [if_neg c1] at h
    by_cases c2 : a0 > 3
    · rw [if_pos c2] at h; cases h; exact impl_Logic.e2 k w a0 a1_0 a1_1 a2_0 a2_1 a1_2 a2_2 a1_3 a2_3 c2
    · rw [if_neg c2] at h
      obtain ⟨ta, ha, h⟩ := Option.bind_eq_some_iff.mp h
      cases ta with
      | false => rw [if_neg (by simp)] at h; cases h; exact impl_Logic.e3 k w a0 a1_0 a1_1 a2_0 a2_1 a1_2 a2_2 a1_3 a2_3 (by omega) (by omega) ha
      | true =>
        rw [if_pos rfl] at h
        obtain ⟨tb, hb, h⟩ := Option.bind_eq_some_iff.mp h
        cases tb with
        | false => rw [if_neg (by simp)] at h; cases h; exact impl_Logic.e4 k w a0 a1_0 a1_1 a2_0 a2_1 a1_2 a2_2 a1_3 a2_3 (by omega) (by omega) ha hb
        | true =>
          rw [if_pos rfl] at h
          by_cases c3 : a1_0 > 1
          · rw [if_pos c3] at h; cases h; exact impl_Logic.e5 k w a0 a1_0 a1_1 a2_0 a2_1 a1_2 a2_2 a1_3 a2_3 (by omega) (by omega) c3 ha hb
          · rw [if_neg c3] at h
            by_cases c4 : a2_0 > 1
            · rw [if_pos c4] at h; cases h; exact impl_Logic.e6 k w a0 a1_0 a1_1 a2_0 a2_1 a1_2 a2_2 a1_3 a2_3 (by omega) (by omega) (by omega) c4 ha hb
            · rw [if_neg c4] at h
              have h := Option.some.inj h
              obtain ⟨o, ho⟩ : ∃ o : Int, o = a0 := ⟨_, rfl⟩
              rcases impl_Logic.small k _ _ _ _ ha (by omega) with ⟨rfl, rfl⟩ | ⟨rfl, rfl⟩ | ⟨rfl, rfl⟩ <;> rcases impl_Logic.small k _ _ _ _ hb (by omega) with ⟨rfl, rfl⟩ | ⟨rfl, rfl⟩ | ⟨rfl, rfl⟩ <;> rcases (show a0 = 1 ∨ a0 = 2 ∨ a0 = 3 by omega) with rfl | rfl | rfl <;> cases h
              · exact impl_Logic.m10000 k w a1_2 a2_2 a1_3 a2_3 ha hb
              · exact impl_Logic.m20000 k w a1_2 a2_2 a1_3 a2_3 ha hb
              · exact impl_Logic.m30000 k w a1_2 a2_2 a1_3 a2_3 ha hb
              · exact impl_Logic.m10010 k w a1_2 a2_2 a1_3 a2_3 ha hb
              · exact impl_Logic.m20010 k w a1_2 a2_2 a1_3 a2_3 ha hb
              · exact impl_Logic.m30010 k w a1_2 a2_2 a1_3 a2_3 ha hb
              · exact impl_Logic.m10011 k w a1_2 a2_2 a1_3 a2_3 ha hb
              · exact impl_Logic.m20011 k w a1_2 a2_2 a1_3 a2_3 ha hb
              · exact impl_Logic.m30011 k w a1_2 a2_2 a1_3 a2_3 ha hb
              · exact impl_Logic.m11000 k w a1_2 a2_2 a1_3 a2_3 ha hb
              · exact impl_Logic.m21000 k w a1_2 a2_2 a1_3 a2_3 ha hb
              · exact impl_Logic.m31000 k w a1_2 a2_2 a1_3 a2_3 ha hb
              · exact impl_Logic.m11010 k w a1_2 a2_2 a1_3 a2_3 ha hb
              · exact impl_Logic.m21010 k w a1_2 a2_2 a1_3 a2_3 ha hb
              · exact impl_Logic.m31010 k w a1_2 a2_2 a1_3 a2_3 ha hb
              · exact impl_Logic.m11011 k w a1_2 a2_2 a1_3 a2_3 ha hb
              · exact impl_Logic.m21011 k w a1_2 a2_2 a1_3 a2_3 ha hb
              · exact impl_Logic.m31011 k w a1_2 a2_2 a1_3 a2_3 ha hb
              · exact impl_Logic.m11100 k w a1_2 a2_2 a1_3 a2_3 ha hb
              · exact impl_Logic.m21100 k w a1_2 a2_2 a1_3 a2_3 ha hb
              · exact impl_Logic.m31100 k w a1_2 a2_2 a1_3 a2_3 ha hb
              · exact impl_Logic.m11110 k w a1_2 a2_2 a1_3 a2_3 ha hb
              · exact impl_Logic.m21110 k w a1_2 a2_2 a1_3 a2_3 ha hb
              · exact impl_Logic.m31110 k w a1_2 a2_2 a1_3 a2_3 ha hb
              · exact impl_Logic.m11111 k w a1_2 a2_2 a1_3 a2_3 ha hb
              · exact impl_Logic.m21111 k w a1_2 a2_2 a1_3 a2_3 ha hb
              · exact impl_Logic.m31111 k w a1_2 a2_2 a1_3 a2_3 ha hb


end Go.Proofs.Ytkhkhcgjopnchaa.QFnExactLogic
