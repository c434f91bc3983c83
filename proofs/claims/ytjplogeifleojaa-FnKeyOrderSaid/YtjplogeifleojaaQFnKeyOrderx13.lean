/- The functions that the law reaches, each as a plain Lean function with the proof that the Go code comes to its answers: written by a program of this session. No condition. -/
import Derived.Test.YtjplogeifleojaaQFnKeyOrderx0
import Derived.Test.YtjplogeifleojaaQFnKeyOrderx4
import Derived.Test.YtjplogeifleojaaQFnKeyOrderx6
import Derived.Test.YtjplogeifleojaaQFnKeyOrderx7
import Derived.Test.YtjplogeifleojaaQFnKeyOrderx9
import Derived.Test.YtjplogeifleojaaQFnKeyOrderx12
namespace Go.Proofs.Ytjplogeifleojaa.QFnKeyOrder
open Go.RowKit Go.Proofs.YtjplogeifleojaaW.PrintWords Go.Proofs.YtjplogeifleojaaW.PrintLast Go.Proofs.YtjplogeifleojaaW.PrintMore
attribute [local go_sem] max2_int min2_int max_two min_two max_three min_three max_four min_four str_gtr str_leq str_geq pw_at_slice   -- for this text's walks alone
set_option linter.unusedVariables false
set_option linter.unusedSimpArgs false

theorem q13z0 {P : Prop} (h : P := by first | (with_reducible assumption) | assumption) : P := h
theorem q13z1 {P : Prop} (h : P := by kernel_rfl) : P := h
theorem q13z2 {P : Prop} (h : P := by (try simp only [List.map_toArray, List.map_cons, List.map_nil]); first | done | rfl | (simp only [List.length_drop, List.length_take]; rfl)) : P := h
theorem q13z3 {P : Prop} (h : P := by repeat (first | (with_reducible first | exact HB.out | apply below_alloc | apply pw_below_drewN | apply below_drew1) | exact HB.out)) : P := h
theorem q13z4 {P : Prop} (h : P := by first | rfl | (simp; done) | (simp [*]; done)) : P := h
/-! ### laws_FnKeyOrder: function 5 -/
set_option maxRecDepth 100000 in
mutual
def laws_FnKeyOrder.j0 : Nat → List Int → List Int → Bool → Option (Bool)
  | 0, _, _, _ => none
  | k + 1, x0, x1, x23 => if x23 = true then (some true) else ((spec_DrawKeyBytes.f k x0).bind fun t873 => ((spec_DrawKeyBytes.f k x1).bind fun t876 => ((spec_KeyBytes.f k t873).bind fun bt879 => ((spec_KeyBytes.f k t876).bind fun bt881 => ((impl_KeyBytes.f k t873).bind fun bt883 => ((impl_KeyBytes.f k t876).bind fun bt885 => (if bt883.2 = bt879.2 then (if bt885.2 = bt881.2 then (if bt883.1.toList = bt879.1.toList then (laws_FnKeyOrder.j1 k t873 t876 bt879.2 bt881.2 bt883.1 bt885.1 (bt885.1.toList != bt881.1.toList)) else (laws_FnKeyOrder.j1 k t873 t876 bt879.2 bt881.2 bt883.1 bt885.1 true)) else (laws_FnKeyOrder.j1 k t873 t876 bt879.2 bt881.2 bt883.1 bt885.1 true)) else (laws_FnKeyOrder.j1 k t873 t876 bt879.2 bt881.2 bt883.1 bt885.1 true))))))))
def laws_FnKeyOrder.j1 : Nat → List (S42) → List (S42) → Int → Int → ByteArray → ByteArray → Bool → Option (Bool)
  | 0, _, _, _, _, _, _, _ => none
  | k + 1, x5, x6, x8, x10, x11, x13, x65 => if x65 = true then (some false) else (if x8 = 0 then (laws_FnKeyOrder.j2 k x5 x6 x11 x13 (x10 != 0)) else (laws_FnKeyOrder.j2 k x5 x6 x11 x13 true))
def laws_FnKeyOrder.j2 : Nat → List (S42) → List (S42) → ByteArray → ByteArray → Bool → Option (Bool)
  | 0, _, _, _, _, _ => none
  | k + 1, x5, x6, x11, x13, x71 => if x71 = true then (some true) else ((laws_sameValues.f k x5 x6).bind fun t887 => (if ((x11.toList == x13.toList) != t887) = true then (some false) else (laws_FnKeyOrder.l0 k x5 x6 x11 x13 0)))
def laws_FnKeyOrder.l0 : Nat → List (S42) → List (S42) → ByteArray → ByteArray → Int → Option (Bool)
  | 0, _, _, _, _, _ => none
  | k + 1, x5, x6, x11, x13, x15 => if x15 < (x5.length : Int) then (laws_FnKeyOrder.j4 k x5 x6 x11 x13 x15 (decide (x15 < (x6.length : Int)))) else (laws_FnKeyOrder.j4 k x5 x6 x11 x13 x15 false)
def laws_FnKeyOrder.j4 : Nat → List (S42) → List (S42) → ByteArray → ByteArray → Int → Bool → Option (Bool)
  | 0, _, _, _, _, _, _ => none
  | k + 1, x5, x6, x11, x13, x15, x88 => if x88 = true then (if 0 ≤ x15 then (if x15 < (x5.length : Int) then (if x15 < (x6.length : Int) then ((impl_Compare.f k (⟨#[]⟩ : ByteArray) ((rd_T42 x5 x15).f0) ((rd_T42 x5 x15).f1) ((rd_T42 x5 x15).f2) ((rd_T42 x5 x15).f3) ((rd_T42 x6 x15).f0) ((rd_T42 x6 x15).f1) ((rd_T42 x6 x15).f2) ((rd_T42 x6 x15).f3)).bind fun bt890 => (if bt890.2 = 0 then (if bt890.1 = 0 then (laws_FnKeyOrder.j5 k x5 x6 x11 x13 x15 bt890.1 (((rd_T42 x5 x15).f0) != ((rd_T42 x6 x15).f0))) else (laws_FnKeyOrder.j5 k x5 x6 x11 x13 x15 bt890.1 false)) else (some ((Op.bytesLess x11.toList x13.toList) == (decide (((rd_T42 x5 x15).f0) < ((rd_T42 x6 x15).f0))))))) else (none)) else (none)) else (none)) else (some ((decide ((x5.length : Int) < (x6.length : Int))) == (Op.bytesLess x11.toList x13.toList)))
def laws_FnKeyOrder.j5 : Nat → List (S42) → List (S42) → ByteArray → ByteArray → Int → Int → Bool → Option (Bool)
  | 0, _, _, _, _, _, _, _ => none
  | k + 1, x5, x6, x11, x13, x15, x16, x135 => if x135 = true then (if 0 ≤ x15 then (if x15 < (x5.length : Int) then (if x15 < (x6.length : Int) then (if ((rd_T42 x5 x15).f0) > ((rd_T42 x6 x15).f0) then (if 1 = 0 then (laws_FnKeyOrder.l0 k x5 x6 x11 x13 (wrap64 (x15 + 1))) else (some ((decide (1 < 0)) == (Op.bytesLess x11.toList x13.toList)))) else (if (-1) = 0 then (laws_FnKeyOrder.l0 k x5 x6 x11 x13 (wrap64 (x15 + 1))) else (some ((decide ((-1) < 0)) == (Op.bytesLess x11.toList x13.toList))))) else (none)) else (none)) else (none)) else (if x16 = 0 then (laws_FnKeyOrder.l0 k x5 x6 x11 x13 (wrap64 (x15 + 1))) else (some ((decide (x16 < 0)) == (Op.bytesLess x11.toList x13.toList))))
end
def laws_FnKeyOrder.f (k : Nat) (l0 : List Int) (l1 : List Int) : Option (Bool) := (laws_big.f l0).bind fun t871 => (if t871 = true then (laws_FnKeyOrder.j0 k l0 l1 true) else ((laws_big.f l1).bind fun t872 => (laws_FnKeyOrder.j0 k l0 l1 t872)))
def laws_FnKeyOrder.T18 : Bool × List (List Nat × List Nat) := (true, [([], []), ([], []), ([], []), ([1, 2], [1, 2]), ([3], [3]), ([], []), ([], []), ([5, 6], [5, 6]), ([7], [7]), ([0, 4, 8], [0, 4, 8]), ([9], [9]), ([10], [10]), ([10], [10]), ([11, 9, 0, 1, 2, 3, 4, 5, 6, 7, 8, 9, 10, 11], [11]), ([12, 13, 0, 1, 2, 3, 4, 5, 6, 7, 8, 9, 10, 11, 12, 13], [12])])
def laws_FnKeyOrder.B18 : List Nat := [0, 0, 0, 6, 14, 0, 0, 96, 224, 511, 1023, 2047, 2047, 4095, 16383]
theorem laws_FnKeyOrder.tab18 : rtab .any (opsOf Try.f5 18) = laws_FnKeyOrder.T18 := by kernel_rfl
theorem laws_FnKeyOrder.bits18 : waitsOk laws_FnKeyOrder.T18.2 laws_FnKeyOrder.B18 = true := by kernel_rfl
def laws_FnKeyOrder.T20 : Bool × List (List Nat × List Nat) := (true, [([], []), ([], []), ([0, 1], [0, 1]), ([], []), ([], []), ([3, 4], [3, 4]), ([5], [5]), ([6], [6]), ([], []), ([], []), ([8, 9], [8, 9]), ([10], [10]), ([11], [11]), ([7, 12], [7, 12]), ([2, 13], [2, 13]), ([14, 0, 1, 2, 3, 4, 5, 6, 7, 8, 9, 10, 11, 12, 13, 14], [14])])
def laws_FnKeyOrder.B20 : List Nat := [0, 0, 3, 0, 0, 24, 56, 120, 0, 0, 768, 1792, 3840, 8184, 16383, 32767]
theorem laws_FnKeyOrder.tab20 : rtab .any (opsOf Try.f5 20) = laws_FnKeyOrder.T20 := by kernel_rfl
theorem laws_FnKeyOrder.bits20 : waitsOk laws_FnKeyOrder.T20.2 laws_FnKeyOrder.B20 = true := by kernel_rfl
def laws_FnKeyOrder.T21 : Bool × List (List Nat × List Nat) := (true, [([], []), ([0], [0]), ([1], [1]), ([2], [2]), ([2], [2]), ([3, 4, 2], [2, 3, 4]), ([5, 2], [2, 5]), ([6, 2], [2, 6]), ([2], [2]), ([2], [2]), ([8, 9, 2], [2, 8, 9]), ([10, 2], [2, 10]), ([11, 2], [2, 11]), ([7, 12, 2], [2, 7, 12]), ([2, 13], [2, 13])])
def laws_FnKeyOrder.B21 : List Nat := [0, 1, 3, 7, 7, 31, 63, 127, 7, 7, 775, 1799, 3847, 8191, 16383]
theorem laws_FnKeyOrder.tab21 : rtab .any (opsOf Try.f5 21) = laws_FnKeyOrder.T21 := by kernel_rfl
theorem laws_FnKeyOrder.bits21 : waitsOk laws_FnKeyOrder.T21.2 laws_FnKeyOrder.B21 = true := by kernel_rfl
def laws_FnKeyOrder.T23 : Bool × List (List Nat × List Nat) := (true, [([], []), ([], []), ([0, 1], [0, 1]), ([2], [2]), ([3], [3]), ([], []), ([], []), ([5, 6], [5, 6]), ([7], [7]), ([8], [8]), ([4, 9], [4, 9])])
def laws_FnKeyOrder.B23 : List Nat := [0, 0, 3, 7, 15, 0, 0, 96, 224, 480, 1023]
theorem laws_FnKeyOrder.tab23 : rtab .any (opsOf Try.f5 23) = laws_FnKeyOrder.T23 := by kernel_rfl
theorem laws_FnKeyOrder.bits23 : waitsOk laws_FnKeyOrder.T23.2 laws_FnKeyOrder.B23 = true := by kernel_rfl
set_option maxHeartbeats 8000000 in
set_option maxRecDepth 100000 in
theorem laws_FnKeyOrder.calls (k : Nat) (A0 : Option Addr) (c0 : Nat) (l0 : List Int) (A1 : Option Addr) (c1 : Nat) (l1 : List Int) (r : Bool) (w : World) (hr0 : Kd.C (Kd.int .u8) w A0 l0.length l0) (hc0 : l0.length ≤ c0) (hr1 : Kd.C (Kd.int .u8) w A1 l1.length l1) (hc1 : l1.length ≤ c1) (h : laws_FnKeyOrder.f k l0 l1 = some r) (ht_ : r = true) :
    Calls Try.prog 5 #[.slice A0 l0.length c0, .slice A1 l1.length c1] w fun e w' => e = .returned (.bool r) ∧ Below w.heap.size w w' := by
  have hu40 := Try.underlying40; have hu42 := Try.underlying42; have HR0 := Aside0.mk hr0; have HC0 := Aside0.mk hc0; clear hr0 hc0; have HR1 := Aside0.mk hr1; have HC1 := Aside0.mk hc1; clear hr1 hc1; have HB := Aside0.mk (Below.refl w.heap.size w); have HT9_ := Aside0.mk ht_; clear ht_; have H : ((laws_big.f l0).bind fun t871 => (if t871 = true then (laws_FnKeyOrder.j0 k l0 l1 true) else ((laws_big.f l1).bind fun t872 => (laws_FnKeyOrder.j0 k l0 l1 t872)))) = some r := h; clear h; have HC3 := Aside0.mk H; clear H
  go_enter Try.func5, Try.ntmps5
  go_upto_region 1 with (fail)
  go_cut [23] (fun v23 wc => ∃ (kq : Nat) (x23_2 : Bool), v23 = .bool x23_2 ∧ Aside0 (laws_FnKeyOrder.j0 kq l0 l1 x23_2 = some r) ∧ Aside0 (kq ≤ k) ∧ Aside0 (Below w.heap.size w wc))
  case first =>
    have H := HC3.out; clear HC3; replace H := Option.bind_eq_some_iff.mp H; obtain ⟨t871, A40, H⟩ := H; replace H : (if t871 = true then (laws_FnKeyOrder.j0 k l0 l1 true) else ((laws_big.f l1).bind fun t872 => (laws_FnKeyOrder.j0 k l0 l1 t872))) = some r := H; have A4 := Aside0.mk A40; clear A40
    by_cases c5 : t871 = true
    · subst c5
      have H1 : (laws_FnKeyOrder.j0 k l0 l1 true) = some r := by rw [if_pos rfl] at H; exact H
      clear H; have H := H1; clear H1; have H' := Aside0.mk H; clear H
      go_wp2_with (first | ((with_reducible refine gate_callee (f := 15) rfl ?_); refine goesL_ (some 19) rfl rfl Try.func15 q13z1 rfl #[.slice A0 l0.length c0] rfl q13z2 ?_; (with_reducible refine (laws_big.calls _ _ l0 true _ ?side1 ?side2 A4.out).mono ?_); (case side1 => exact (by repeat (first | exact (Kd.C_below HR0.out HB.out) | (with_reducible refine Kd.C_alloc ?_ _) | (with_reducible refine Kd.C_drewN ?_ _) | (with_reducible refine Kd.C_drew ?_)))); (case side2 => exact HC0.out); rintro e w' ⟨rfl, ⟨nd, rfl⟩⟩; refine ⟨_, rfl, ?_⟩))
      go_meet
      case rel => exact ⟨_, (true), q13z4, H', ⟨by first | omega | exact Nat.le_refl _⟩, ⟨by repeat (first | (with_reducible first | exact HB.out | apply below_alloc | apply pw_below_drewN | apply below_drew1) | exact HB.out)⟩⟩
    · replace c5 := Bool.eq_false_iff.mpr c5
      subst c5
      have H1 : ((laws_big.f l1).bind fun t872 => (laws_FnKeyOrder.j0 k l0 l1 t872)) = some r := by rw [if_neg (show ¬ (false = true) by decide)] at H; exact H
      clear H; have H := H1; clear H1; replace H := Option.bind_eq_some_iff.mp H; obtain ⟨t872, A60, H⟩ := H; replace H : (laws_FnKeyOrder.j0 k l0 l1 t872) = some r := H; have A6 := Aside0.mk A60; clear A60; have H' := Aside0.mk H; clear H
      go_wp2_with (first | ((with_reducible refine gate_callee (f := 15) rfl ?_); refine goesL_ (some 19) rfl rfl Try.func15 q13z1 rfl #[.slice A0 l0.length c0] rfl q13z2 ?_; (with_reducible refine (laws_big.calls _ _ l0 false _ ?side1 ?side2 A4.out).mono ?_); (case side1 => exact (by repeat (first | exact (Kd.C_below HR0.out HB.out) | (with_reducible refine Kd.C_alloc ?_ _) | (with_reducible refine Kd.C_drewN ?_ _) | (with_reducible refine Kd.C_drew ?_)))); (case side2 => exact HC0.out); rintro e w' ⟨rfl, ⟨nd, rfl⟩⟩; refine ⟨_, rfl, ?_⟩) | (go_at_call 15; (with_reducible refine (laws_big.calls _ _ l1 t872 _ ?side1 ?side2 A6.out).mono ?_); (case side1 => exact (by repeat (first | exact (Kd.C_below HR1.out q13z3) | (with_reducible refine Kd.C_alloc ?_ _) | (with_reducible refine Kd.C_drewN ?_ _) | (with_reducible refine Kd.C_drew ?_)))); (case side2 => exact HC1.out); rintro e w' ⟨rfl, ⟨nd, rfl⟩⟩))
      go_meet
      case rel => exact ⟨_, (t872), q13z4, H', ⟨by first | omega | exact Nat.le_refl _⟩, ⟨by repeat (first | (with_reducible first | exact HB.out | apply below_alloc | apply pw_below_drewN | apply below_drew1) | exact HB.out)⟩⟩
  case rest =>
    clear HC3; (try clear c1); (try clear p2); (try clear c5); obtain ⟨kq, x23_2, rfl, HA, HJ2, HB⟩ := hcut
    cases kq with
    | zero => exact absurd HA.out (by simp [laws_FnKeyOrder.j0])
    | succ kj2 =>
      have H := HA.out; clear HA; simp only [laws_FnKeyOrder.j0] at H
      by_cases c7 : x23_2 = true
      · subst c7
        have H1 : (some true) = some r := by rw [if_pos rfl] at H; exact H
        clear H; have H := H1; clear H1; obtain rfl := Option.some.inj H
        go_wp2
        go_ret
        exact ⟨by first | rfl | (simp [errW_none, errW_some] <;> rfl) | (simp [*, errW_none, errW_some] <;> rfl), by repeat (first | (with_reducible first | exact HB.out | apply below_alloc | apply pw_below_drewN | apply below_drew1) | exact HB.out)⟩
      · replace c7 := Bool.eq_false_iff.mpr c7
        subst c7
        have H1 : ((spec_DrawKeyBytes.f kj2 l0).bind fun t873 => ((spec_DrawKeyBytes.f kj2 l1).bind fun t876 => ((spec_KeyBytes.f kj2 t873).bind fun bt879 => ((spec_KeyBytes.f kj2 t876).bind fun bt881 => ((impl_KeyBytes.f kj2 t873).bind fun bt883 => ((impl_KeyBytes.f kj2 t876).bind fun bt885 => (if bt883.2 = bt879.2 then (if bt885.2 = bt881.2 then (if bt883.1.toList = bt879.1.toList then (laws_FnKeyOrder.j1 kj2 t873 t876 bt879.2 bt881.2 bt883.1 bt885.1 (bt885.1.toList != bt881.1.toList)) else (laws_FnKeyOrder.j1 kj2 t873 t876 bt879.2 bt881.2 bt883.1 bt885.1 true)) else (laws_FnKeyOrder.j1 kj2 t873 t876 bt879.2 bt881.2 bt883.1 bt885.1 true)) else (laws_FnKeyOrder.j1 kj2 t873 t876 bt879.2 bt881.2 bt883.1 bt885.1 true)))))))) = some r := by rw [if_neg (show ¬ (false = true) by decide)] at H; exact H
        clear H; have H := H1; clear H1; replace H := Option.bind_eq_some_iff.mp H; obtain ⟨t873, A80, H⟩ := H; replace H : ((spec_DrawKeyBytes.f kj2 l1).bind fun t876 => ((spec_KeyBytes.f kj2 t873).bind fun bt879 => ((spec_KeyBytes.f kj2 t876).bind fun bt881 => ((impl_KeyBytes.f kj2 t873).bind fun bt883 => ((impl_KeyBytes.f kj2 t876).bind fun bt885 => (if bt883.2 = bt879.2 then (if bt885.2 = bt881.2 then (if bt883.1.toList = bt879.1.toList then (laws_FnKeyOrder.j1 kj2 t873 t876 bt879.2 bt881.2 bt883.1 bt885.1 (bt885.1.toList != bt881.1.toList)) else (laws_FnKeyOrder.j1 kj2 t873 t876 bt879.2 bt881.2 bt883.1 bt885.1 true)) else (laws_FnKeyOrder.j1 kj2 t873 t876 bt879.2 bt881.2 bt883.1 bt885.1 true)) else (laws_FnKeyOrder.j1 kj2 t873 t876 bt879.2 bt881.2 bt883.1 bt885.1 true))))))) = some r := H; have A8 := Aside0.mk A80; clear A80; replace H := Option.bind_eq_some_iff.mp H; obtain ⟨t876, A90, H⟩ := H; replace H : ((spec_KeyBytes.f kj2 t873).bind fun bt879 => ((spec_KeyBytes.f kj2 t876).bind fun bt881 => ((impl_KeyBytes.f kj2 t873).bind fun bt883 => ((impl_KeyBytes.f kj2 t876).bind fun bt885 => (if bt883.2 = bt879.2 then (if bt885.2 = bt881.2 then (if bt883.1.toList = bt879.1.toList then (laws_FnKeyOrder.j1 kj2 t873 t876 bt879.2 bt881.2 bt883.1 bt885.1 (bt885.1.toList != bt881.1.toList)) else (laws_FnKeyOrder.j1 kj2 t873 t876 bt879.2 bt881.2 bt883.1 bt885.1 true)) else (laws_FnKeyOrder.j1 kj2 t873 t876 bt879.2 bt881.2 bt883.1 bt885.1 true)) else (laws_FnKeyOrder.j1 kj2 t873 t876 bt879.2 bt881.2 bt883.1 bt885.1 true)))))) = some r := H; have A9 := Aside0.mk A90; clear A90; replace H := Option.bind_eq_some_iff.mp H; obtain ⟨⟨t879, t880⟩, A100, H⟩ := H; replace H : ((spec_KeyBytes.f kj2 t876).bind fun bt881 => ((impl_KeyBytes.f kj2 t873).bind fun bt883 => ((impl_KeyBytes.f kj2 t876).bind fun bt885 => (if bt883.2 = t880 then (if bt885.2 = bt881.2 then (if bt883.1.toList = t879.toList then (laws_FnKeyOrder.j1 kj2 t873 t876 t880 bt881.2 bt883.1 bt885.1 (bt885.1.toList != bt881.1.toList)) else (laws_FnKeyOrder.j1 kj2 t873 t876 t880 bt881.2 bt883.1 bt885.1 true)) else (laws_FnKeyOrder.j1 kj2 t873 t876 t880 bt881.2 bt883.1 bt885.1 true)) else (laws_FnKeyOrder.j1 kj2 t873 t876 t880 bt881.2 bt883.1 bt885.1 true))))) = some r := H; have A10 := Aside0.mk A100; clear A100; replace H := Option.bind_eq_some_iff.mp H; obtain ⟨⟨t881, t882⟩, A110, H⟩ := H; replace H : ((impl_KeyBytes.f kj2 t873).bind fun bt883 => ((impl_KeyBytes.f kj2 t876).bind fun bt885 => (if bt883.2 = t880 then (if bt885.2 = t882 then (if bt883.1.toList = t879.toList then (laws_FnKeyOrder.j1 kj2 t873 t876 t880 t882 bt883.1 bt885.1 (bt885.1.toList != t881.toList)) else (laws_FnKeyOrder.j1 kj2 t873 t876 t880 t882 bt883.1 bt885.1 true)) else (laws_FnKeyOrder.j1 kj2 t873 t876 t880 t882 bt883.1 bt885.1 true)) else (laws_FnKeyOrder.j1 kj2 t873 t876 t880 t882 bt883.1 bt885.1 true)))) = some r := H; have A11 := Aside0.mk A110; clear A110; replace H := Option.bind_eq_some_iff.mp H; obtain ⟨⟨t883, t884⟩, A120, H⟩ := H
        replace H : ((impl_KeyBytes.f kj2 t876).bind fun bt885 => (if t884 = t880 then (if bt885.2 = t882 then (if t883.toList = t879.toList then (laws_FnKeyOrder.j1 kj2 t873 t876 t880 t882 t883 bt885.1 (bt885.1.toList != t881.toList)) else (laws_FnKeyOrder.j1 kj2 t873 t876 t880 t882 t883 bt885.1 true)) else (laws_FnKeyOrder.j1 kj2 t873 t876 t880 t882 t883 bt885.1 true)) else (laws_FnKeyOrder.j1 kj2 t873 t876 t880 t882 t883 bt885.1 true))) = some r := H; have A12 := Aside0.mk A120; clear A120; replace H := Option.bind_eq_some_iff.mp H; obtain ⟨⟨t885, t886⟩, A130, H⟩ := H; replace H : (if t884 = t880 then (if t886 = t882 then (if t883.toList = t879.toList then (laws_FnKeyOrder.j1 kj2 t873 t876 t880 t882 t883 t885 (t885.toList != t881.toList)) else (laws_FnKeyOrder.j1 kj2 t873 t876 t880 t882 t883 t885 true)) else (laws_FnKeyOrder.j1 kj2 t873 t876 t880 t882 t883 t885 true)) else (laws_FnKeyOrder.j1 kj2 t873 t876 t880 t882 t883 t885 true)) = some r := H; have A13 := Aside0.mk A130; clear A130; have HC14 := Aside0.mk H; clear H
        go_upto_region 9 with (first | ((with_reducible refine gate_callee (f := 16) rfl ?_); refine goesL_ (some 25) rfl rfl Try.func16 q13z1 rfl #[.slice A0 l0.length c0] rfl q13z2 ?_; (with_reducible refine (spec_DrawKeyBytes.calls kj2 _ _ l0 t873 _ ?side1 ?side2 A8.out).mono ?_); (case side1 => exact (by repeat (first | exact (Kd.C_below HR0.out HB.out) | (with_reducible refine Kd.C_alloc ?_ _) | (with_reducible refine Kd.C_drewN ?_ _) | (with_reducible refine Kd.C_drew ?_)))); (case side2 => exact HC0.out); rintro e w15 ⟨v874, rfl, ho0, hb⟩; refine ⟨_, rfl, ?_⟩; have n0_ := Aside0.mk (Kd.R_lower ho0 (below_size q13z3)); have n1_ := Aside0.mk (below_step q13z3 hb); clear HB; have HO875 := n0_; have HB := n1_; clear n0_ n1_; (try clear hb); (try clear hb2); (try clear hk); (try clear hi); (try clear ho0)) | ((with_reducible refine gate_callee (f := 16) rfl ?_); refine goesL_ (some 27) rfl rfl Try.func16 q13z1 rfl #[.slice A1 l1.length c1] rfl q13z2 ?_; (with_reducible refine (spec_DrawKeyBytes.calls kj2 _ _ l1 t876 _ ?side1 ?side2 A9.out).mono ?_); (case side1 => exact (by repeat (first | exact (Kd.C_below HR1.out HB.out) | (with_reducible refine Kd.C_alloc ?_ _) | (with_reducible refine Kd.C_drewN ?_ _) | (with_reducible refine Kd.C_drew ?_)))); (case side2 => exact HC1.out); rintro e w16 ⟨v877, rfl, ho0, hb⟩; refine ⟨_, rfl, ?_⟩; have n0_ := Aside0.mk (Kd.R_elder' (by (with_reducible repeat (first | apply Kd.R_alloc | apply Kd.R_drewN | apply Kd.R_drew)); exact HO875.out) (Kd.R_base ho0) hb); have n1_ := Aside0.mk (Kd.R_lower (Kd.R_new' ho0 (Kd.R_lt (by (with_reducible repeat (first | apply Kd.R_alloc | apply Kd.R_drewN | apply Kd.R_drew)); exact HO875.out))) (below_size q13z3)); have n2_ := Aside0.mk (below_step q13z3 hb); clear HO875; clear HB; have HO875 := n0_; have HO878 := n1_; have HB := n2_; clear n0_ n1_ n2_; (try clear hb); (try clear hb2); (try clear hk); (try clear hi); (try clear ho0); obtain ⟨Ao17, co17, eo17⟩ := Kd.R_slice HO875.out; subst eo17) | ((with_reducible refine gate_callee (f := 7) rfl ?_); refine goesL_ (some 30) rfl rfl Try.func7 q13z1 rfl #[.slice Ao17 t873.length co17] rfl q13z2 ?_; (with_reducible refine (spec_KeyBytes.calls kj2 _ _ t873 t879 t880 _ ?side1 ?side2 A10.out).mono ?_); (case side1 => exact (by repeat (first | exact (Kd.R_reads' HO875.out).2.2 | (with_reducible refine Kd.C_alloc ?_ _) | (with_reducible refine Kd.C_drewN ?_ _) | (with_reducible refine Kd.C_drew ?_)))); (case side2 => exact (Kd.R_reads' HO875.out).2.1); rintro e w18 ⟨rfl, hb⟩; refine ⟨_, rfl, ?_⟩; have n0_ := Aside0.mk (Kd.R_below (by (with_reducible repeat (first | apply Kd.R_alloc | apply Kd.R_drewN | apply Kd.R_drew)); exact HO875.out) hb); have n1_ := Aside0.mk (Kd.R_below (by (with_reducible repeat (first | apply Kd.R_alloc | apply Kd.R_drewN | apply Kd.R_drew)); exact HO878.out) hb); have n2_ := Aside0.mk (below_step q13z3 hb); clear HO875; clear HO878; clear HB; have HO875 := n0_; have HO878 := n1_; have HB := n2_; clear n0_ n1_ n2_; (try clear hb); (try clear hb2); (try clear hk); (try clear hi); obtain ⟨Ao19, co19, eo19⟩ := Kd.R_slice HO878.out; subst eo19) | ((with_reducible refine gate_callee (f := 7) rfl ?_); refine goesL_ (some 35) rfl rfl Try.func7 q13z1 rfl #[.slice Ao19 t876.length co19] rfl q13z2 ?_; (with_reducible refine (spec_KeyBytes.calls kj2 _ _ t876 t881 t882 _ ?side1 ?side2 A11.out).mono ?_); (case side1 => exact (by repeat (first | exact (Kd.R_reads' HO878.out).2.2 | (with_reducible refine Kd.C_alloc ?_ _) | (with_reducible refine Kd.C_drewN ?_ _) | (with_reducible refine Kd.C_drew ?_)))); (case side2 => exact (Kd.R_reads' HO878.out).2.1); rintro e w20 ⟨rfl, hb⟩; refine ⟨_, rfl, ?_⟩; have n0_ := Aside0.mk (Kd.R_below (by (with_reducible repeat (first | apply Kd.R_alloc | apply Kd.R_drewN | apply Kd.R_drew)); exact HO875.out) hb); have n1_ := Aside0.mk (Kd.R_below (by (with_reducible repeat (first | apply Kd.R_alloc | apply Kd.R_drewN | apply Kd.R_drew)); exact HO878.out) hb); have n2_ := Aside0.mk (below_step q13z3 hb); clear HO875; clear HO878; clear HB; have HO875 := n0_; have HO878 := n1_; have HB := n2_; clear n0_ n1_ n2_; (try clear hb); (try clear hb2); (try clear hk); (try clear hi)) | ((with_reducible refine gate_callee (f := 9) rfl ?_); refine goesL_ (some 40) rfl rfl Try.func9 q13z1 rfl #[.slice Ao17 t873.length co17] rfl q13z2 ?_; (with_reducible refine (impl_KeyBytes.calls kj2 _ _ t873 t883 t884 _ ?side1 ?side2 A12.out).mono ?_); (case side1 => exact (by repeat (first | exact (Kd.R_reads' HO875.out).2.2 | (with_reducible refine Kd.C_alloc ?_ _) | (with_reducible refine Kd.C_drewN ?_ _) | (with_reducible refine Kd.C_drew ?_)))); (case side2 => exact (Kd.R_reads' HO875.out).2.1); rintro e w21 ⟨rfl, hb⟩; refine ⟨_, rfl, ?_⟩; have n0_ := Aside0.mk (Kd.R_below (by (with_reducible repeat (first | apply Kd.R_alloc | apply Kd.R_drewN | apply Kd.R_drew)); exact HO875.out) hb); have n1_ := Aside0.mk (Kd.R_below (by (with_reducible repeat (first | apply Kd.R_alloc | apply Kd.R_drewN | apply Kd.R_drew)); exact HO878.out) hb); have n2_ := Aside0.mk (below_step q13z3 hb); clear HO875; clear HO878; clear HB; have HO875 := n0_; have HO878 := n1_; have HB := n2_; clear n0_ n1_ n2_; (try clear hb); (try clear hb2); (try clear hk); (try clear hi)) | ((with_reducible refine gate_callee (f := 9) rfl ?_); refine goesL_ (some 45) rfl rfl Try.func9 q13z1 rfl #[.slice Ao19 t876.length co19] rfl q13z2 ?_; (with_reducible refine (impl_KeyBytes.calls kj2 _ _ t876 t885 t886 _ ?side1 ?side2 A13.out).mono ?_); (case side1 => exact (by repeat (first | exact (Kd.R_reads' HO878.out).2.2 | (with_reducible refine Kd.C_alloc ?_ _) | (with_reducible refine Kd.C_drewN ?_ _) | (with_reducible refine Kd.C_drew ?_)))); (case side2 => exact (Kd.R_reads' HO878.out).2.1); rintro e w22 ⟨rfl, hb⟩; refine ⟨_, rfl, ?_⟩; have n0_ := Aside0.mk (Kd.R_below (by (with_reducible repeat (first | apply Kd.R_alloc | apply Kd.R_drewN | apply Kd.R_drew)); exact HO875.out) hb); have n1_ := Aside0.mk (Kd.R_below (by (with_reducible repeat (first | apply Kd.R_alloc | apply Kd.R_drewN | apply Kd.R_drew)); exact HO878.out) hb); have n2_ := Aside0.mk (below_step q13z3 hb); clear HO875; clear HO878; clear HB; have HO875 := n0_; have HO878 := n1_; have HB := n2_; clear n0_ n1_ n2_; (try clear hb); (try clear hb2); (try clear hk); (try clear hi)))
        (try simp only [Act.put, List.setIfInBounds_toArray, List.set_cons_zero, List.set_cons_succ])
        go_cut [65] (fun v65 wc => ∃ (kq : Nat) (x65_13 : Bool), v65 = .bool x65_13 ∧ Aside0 (laws_FnKeyOrder.j1 kq t873 t876 t880 t882 t883 t885 x65_13 = some r) ∧ Aside0 (kq ≤ kj2) ∧ Aside0 (Kd.R k42 42 wc w.heap.size (fun k_ => some k_ ≠ ((.slice Ao19 t876.length co19) : Value).ownBlock) (.slice Ao17 t873.length co17) t873) ∧ Aside0 (Kd.R k42 42 wc w.heap.size (fun k_ => some k_ ≠ ((.slice Ao17 t873.length co17) : Value).ownBlock) (.slice Ao19 t876.length co19) t876) ∧ Aside0 (Below w.heap.size w wc))
        case first =>
          have H := HC14.out; clear HC14
          by_cases c23 : t884 = t880
          · rw [if_pos c23] at H
            have c23b0 : (t884 == t880) = true := beq_iff_eq.mpr c23; have c23b1 : (t884 != t880) = false := bne_eq_false_iff_eq.mpr c23; clear c23; (first | rw [c23b0] | (simp only [i64_w, i32_w]; rw [c23b0]) | skip)
            by_cases c24 : t886 = t882
            · rw [if_pos c24] at H
              have c24b0 : (t886 == t882) = true := beq_iff_eq.mpr c24; have c24b1 : (t886 != t882) = false := bne_eq_false_iff_eq.mpr c24; clear c24
              by_cases c25 : t883.toList = t879.toList
              · rw [if_pos c25] at H
                have c25b0 : (t883.toList == t879.toList) = true := beq_iff_eq.mpr c25; have c25b1 : (t883.toList != t879.toList) = false := bne_eq_false_iff_eq.mpr c25; clear c25; have H' := Aside0.mk H; clear H
                go_wp2
                go_meet
                case rel => exact ⟨_, ((t885.toList != t881.toList)), q13z4, H', ⟨by have := HJ2.out; first | omega | exact Nat.le_refl _⟩, ⟨by (with_reducible repeat (first | apply Kd.R_alloc | apply Kd.R_drewN | apply Kd.R_drew)); exact Kd.R_mono HO875.out (fun _ hk => hk.2)⟩, ⟨by (with_reducible repeat (first | apply Kd.R_alloc | apply Kd.R_drewN | apply Kd.R_drew)); exact Kd.R_mono HO878.out (fun _ hk => hk.2)⟩, ⟨by repeat (first | (with_reducible first | exact HB.out | apply below_alloc | apply pw_below_drewN | apply below_drew1) | exact HB.out)⟩⟩
              · rw [if_neg c25] at H
                have c25b0 : (t883.toList == t879.toList) = false := beq_eq_false_iff_ne.mpr c25; have c25b1 : (t883.toList != t879.toList) = true := bne_iff_ne.mpr c25; have H' := Aside0.mk H; clear H
                go_wp2
                go_meet
                case rel => exact ⟨_, (true), q13z4, H', ⟨by have := HJ2.out; first | omega | exact Nat.le_refl _⟩, ⟨by (with_reducible repeat (first | apply Kd.R_alloc | apply Kd.R_drewN | apply Kd.R_drew)); exact Kd.R_mono HO875.out (fun _ hk => hk.2)⟩, ⟨by (with_reducible repeat (first | apply Kd.R_alloc | apply Kd.R_drewN | apply Kd.R_drew)); exact Kd.R_mono HO878.out (fun _ hk => hk.2)⟩, ⟨by repeat (first | (with_reducible first | exact HB.out | apply below_alloc | apply pw_below_drewN | apply below_drew1) | exact HB.out)⟩⟩
            · rw [if_neg c24] at H
              have c24b0 : (t886 == t882) = false := beq_eq_false_iff_ne.mpr c24; have c24b1 : (t886 != t882) = true := bne_iff_ne.mpr c24; have H' := Aside0.mk H; clear H
              go_wp2
              go_meet
              case rel => exact ⟨_, (true), q13z4, H', ⟨by have := HJ2.out; first | omega | exact Nat.le_refl _⟩, ⟨by (with_reducible repeat (first | apply Kd.R_alloc | apply Kd.R_drewN | apply Kd.R_drew)); exact Kd.R_mono HO875.out (fun _ hk => hk.2)⟩, ⟨by (with_reducible repeat (first | apply Kd.R_alloc | apply Kd.R_drewN | apply Kd.R_drew)); exact Kd.R_mono HO878.out (fun _ hk => hk.2)⟩, ⟨by repeat (first | (with_reducible first | exact HB.out | apply below_alloc | apply pw_below_drewN | apply below_drew1) | exact HB.out)⟩⟩
          · rw [if_neg c23] at H
            have c23b0 : (t884 == t880) = false := beq_eq_false_iff_ne.mpr c23; have c23b1 : (t884 != t880) = true := bne_iff_ne.mpr c23; (first | rw [c23b0] | (simp only [i64_w, i32_w]; rw [c23b0]) | skip); have H' := Aside0.mk H; clear H
            go_wp2
            go_meet
            case rel => exact ⟨_, (true), q13z4, H', ⟨by have := HJ2.out; first | omega | exact Nat.le_refl _⟩, ⟨by (with_reducible repeat (first | apply Kd.R_alloc | apply Kd.R_drewN | apply Kd.R_drew)); exact Kd.R_mono HO875.out (fun _ hk => hk.2)⟩, ⟨by (with_reducible repeat (first | apply Kd.R_alloc | apply Kd.R_drewN | apply Kd.R_drew)); exact Kd.R_mono HO878.out (fun _ hk => hk.2)⟩, ⟨by repeat (first | (with_reducible first | exact HB.out | apply below_alloc | apply pw_below_drewN | apply below_drew1) | exact HB.out)⟩⟩
        case rest =>
          clear HC14; (try clear c1); (try clear c2); (try clear p2); (try clear c5); (try clear c7); (try clear c9); (try clear c15); (try clear c16); (try clear c23); (try clear c23b0); (try clear c23b1); (try clear c24); (try clear c24b0); (try clear c24b1); (try clear c25); (try clear c25b0); (try clear c25b1); (try clear p2); obtain ⟨kq, x65_13, rfl, HA, HJ13, HO_5, HO_6, HB⟩ := hcut
          cases kq with
          | zero => exact absurd HA.out (by simp [laws_FnKeyOrder.j1])
          | succ kj13 =>
            have H := HA.out; clear HA; simp only [laws_FnKeyOrder.j1] at H
            by_cases c26 : x65_13 = true
            · subst c26
              have H1 : (some false) = some r := by rw [if_pos rfl] at H; exact H
              clear H; have H := H1; clear H1; exact absurd (Option.some.inj H) (by rw [HT9_.out]; decide)
            · replace c26 := Bool.eq_false_iff.mpr c26
              subst c26
              have H1 : (if t880 = 0 then (laws_FnKeyOrder.j2 kj13 t873 t876 t883 t885 (t882 != 0)) else (laws_FnKeyOrder.j2 kj13 t873 t876 t883 t885 true)) = some r := by rw [if_neg (show ¬ (false = true) by decide)] at H; exact H
              clear H; have H := H1; clear H1; have HC27 := Aside0.mk H; clear H
              go_upto_region 11 with (fail)
              go_cut [71] (fun v71 wc => ∃ (kq : Nat) (x71_26 : Bool), v71 = .bool x71_26 ∧ Aside0 (laws_FnKeyOrder.j2 kq t873 t876 t883 t885 x71_26 = some r) ∧ Aside0 (kq ≤ kj13) ∧ Aside0 (Kd.R k42 42 wc w.heap.size (fun k_ => some k_ ≠ ((.slice Ao19 t876.length co19) : Value).ownBlock) (.slice Ao17 t873.length co17) t873) ∧ Aside0 (Kd.R k42 42 wc w.heap.size (fun k_ => some k_ ≠ ((.slice Ao17 t873.length co17) : Value).ownBlock) (.slice Ao19 t876.length co19) t876) ∧ Aside0 (Below w.heap.size w wc))
              case first =>
                have H := HC27.out; clear HC27
                by_cases c28 : t880 = 0
                · rw [if_pos c28] at H
                  have c28b0 : (t880 == 0) = true := beq_iff_eq.mpr c28; have c28b1 : (t880 != 0) = false := bne_eq_false_iff_eq.mpr c28; clear c28; (first | rw [c28b0] | (simp only [i64_w, i32_w]; rw [c28b0]) | skip); have H' := Aside0.mk H; clear H
                  go_wp2
                  go_meet
                  case rel => exact ⟨_, ((t882 != 0)), q13z4, H', ⟨by have := HJ2.out; have := HJ13.out; first | omega | exact Nat.le_refl _⟩, ⟨by (with_reducible repeat (first | apply Kd.R_alloc | apply Kd.R_drewN | apply Kd.R_drew)); exact HO_5.out⟩, ⟨by (with_reducible repeat (first | apply Kd.R_alloc | apply Kd.R_drewN | apply Kd.R_drew)); exact HO_6.out⟩, ⟨by repeat (first | (with_reducible first | exact HB.out | apply below_alloc | apply pw_below_drewN | apply below_drew1) | exact HB.out)⟩⟩
                · rw [if_neg c28] at H
                  have c28b0 : (t880 == 0) = false := beq_eq_false_iff_ne.mpr c28; have c28b1 : (t880 != 0) = true := bne_iff_ne.mpr c28; (first | rw [c28b0] | (simp only [i64_w, i32_w]; rw [c28b0]) | skip); have H' := Aside0.mk H; clear H
                  go_wp2
                  go_meet
                  case rel => exact ⟨_, (true), q13z4, H', ⟨by have := HJ2.out; have := HJ13.out; first | omega | exact Nat.le_refl _⟩, ⟨by (with_reducible repeat (first | apply Kd.R_alloc | apply Kd.R_drewN | apply Kd.R_drew)); exact HO_5.out⟩, ⟨by (with_reducible repeat (first | apply Kd.R_alloc | apply Kd.R_drewN | apply Kd.R_drew)); exact HO_6.out⟩, ⟨by repeat (first | (with_reducible first | exact HB.out | apply below_alloc | apply pw_below_drewN | apply below_drew1) | exact HB.out)⟩⟩
              case rest =>
                clear HC27; (try clear c1); (try clear c2); (try clear p2); (try clear c5); (try clear c7); (try clear c9); (try clear c15); (try clear c16); (try clear c23); (try clear c23b0); (try clear c23b1); (try clear c24); (try clear c24b0); (try clear c24b1); (try clear c25); (try clear c25b0); (try clear c25b1); (try clear c26); (try clear c28); (try clear c28b0); (try clear c28b1); (try clear p2); obtain ⟨kq, x71_26, rfl, HA, HJ26, HO_5, HO_6, HB⟩ := hcut
                cases kq with
                | zero => exact absurd HA.out (by simp [laws_FnKeyOrder.j2])
                | succ kj26 =>
                  have H := HA.out; clear HA; simp only [laws_FnKeyOrder.j2] at H
                  by_cases c29 : x71_26 = true
                  · subst c29
                    have H1 : (some true) = some r := by rw [if_pos rfl] at H; exact H
                    clear H; have H := H1; clear H1; obtain rfl := Option.some.inj H
                    go_wp2
                    go_ret
                    exact ⟨by first | rfl | (simp [errW_none, errW_some] <;> rfl) | (simp [*, errW_none, errW_some] <;> rfl), by repeat (first | (with_reducible first | exact HB.out | apply below_alloc | apply pw_below_drewN | apply below_drew1) | exact HB.out)⟩
                  · replace c29 := Bool.eq_false_iff.mpr c29
                    subst c29
                    have H1 : ((laws_sameValues.f kj26 t873 t876).bind fun t887 => (if ((t883.toList == t885.toList) != t887) = true then (some false) else (laws_FnKeyOrder.l0 kj26 t873 t876 t883 t885 0))) = some r := by rw [if_neg (show ¬ (false = true) by decide)] at H; exact H
                    clear H; have H := H1; clear H1; replace H := Option.bind_eq_some_iff.mp H; obtain ⟨t887, A300, H⟩ := H; replace H : (if ((t883.toList == t885.toList) != t887) = true then (some false) else (laws_FnKeyOrder.l0 kj26 t873 t876 t883 t885 0)) = some r := H; have A30 := Aside0.mk A300; clear A300
                    by_cases c31 : ((t883.toList == t885.toList) != t887) = true
                    · rw [if_pos c31] at H
                      have c31b0 : ((t883.toList == t885.toList) != t887) = true := c31; (try (have c31b1 : decide ((t883.toList == t885.toList) = t887) = false := by simpa using c31)); (try (have c31b2 : ((t883.toList == t885.toList) == t887) = false := by simpa using c31)); (try (have c31b3 : ¬ ((t883.toList == t885.toList) = t887) := by simpa using c31)); clear c31; exact absurd (Option.some.inj H) (by rw [HT9_.out]; decide)
                    · rw [if_neg c31] at H
                      have c31b0 : ((t883.toList == t885.toList) != t887) = false := by simpa using c31
                      (try (have c31b1 : decide ((t883.toList == t885.toList) = t887) = true := by simpa using c31)); (try (have c31b2 : ((t883.toList == t885.toList) == t887) = true := by simpa using c31)); clear c31; have H' := Aside0.mk H; clear H
                      go_wp2_with (first | ((with_reducible refine gate_callee (f := 17) rfl ?_); refine goesL_ (some 77) rfl rfl Try.func17 q13z1 rfl #[.slice Ao17 t873.length co17, .slice Ao19 t876.length co19] rfl q13z2 ?_; (with_reducible refine (laws_sameValues.calls kj26 _ _ t873 _ _ t876 t887 _ ?side1 ?side2 ?side3 ?side4 A30.out).mono ?_); (case side1 => exact (by repeat (first | exact (Kd.R_reads' HO_5.out).2.2 | (with_reducible refine Kd.C_alloc ?_ _) | (with_reducible refine Kd.C_drewN ?_ _) | (with_reducible refine Kd.C_drew ?_)))); (case side2 => exact (Kd.R_reads' HO_5.out).2.1); (case side3 => exact (by repeat (first | exact (Kd.R_reads' HO_6.out).2.2 | (with_reducible refine Kd.C_alloc ?_ _) | (with_reducible refine Kd.C_drewN ?_ _) | (with_reducible refine Kd.C_drew ?_)))); (case side4 => exact (Kd.R_reads' HO_6.out).2.1); rintro e w' ⟨rfl, ⟨nd, rfl⟩⟩; refine ⟨_, rfl, ?_⟩))
                      go_loopg [15] kj26 (fun kq v15 w' => ∃ (x15_4 : Int), v15 = .int .i64 x15_4 ∧ Aside0 (laws_FnKeyOrder.l0 kq t873 t876 t883 t885 x15_4 = some r) ∧ Aside0 (kq ≤ kj26) ∧ Aside0 (Kd.R k42 42 w' w.heap.size (fun k_ => some k_ ≠ ((.slice Ao19 t876.length co19) : Value).ownBlock) (.slice Ao17 t873.length co17) t873) ∧ Aside0 (Kd.R k42 42 w' w.heap.size (fun k_ => some k_ ≠ ((.slice Ao17 t873.length co17) : Value).ownBlock) (.slice Ao19 t876.length co19) t876) ∧ Aside0 (Below w.heap.size w w'))
                      case atStart => exact ⟨(0), q13z4, H', ⟨Nat.le_refl _⟩, ⟨by (with_reducible repeat (first | apply Kd.R_alloc | apply Kd.R_drewN | apply Kd.R_drew)); exact HO_5.out⟩, ⟨by (with_reducible repeat (first | apply Kd.R_alloc | apply Kd.R_drewN | apply Kd.R_drew)); exact HO_6.out⟩, ⟨by repeat (first | (with_reducible first | exact HB.out | apply below_alloc | apply pw_below_drewN | apply below_drew1) | exact HB.out)⟩⟩
                      case round =>
                        clear H'; (try clear c1); (try clear c2); (try clear p2); (try clear c3); (try clear c5); (try clear c7); (try clear c9); (try clear c15); (try clear c16); (try clear c17); (try clear c23); (try clear c23b0); (try clear c23b1); (try clear c24); (try clear c24b0); (try clear c24b1); (try clear c25); (try clear c25b0); (try clear c25b1); (try clear c26); (try clear c28); (try clear c28b0); (try clear c28b1); (try clear c29); (try clear c31); (try clear c31b0); (try clear c31b1); (try clear c31b2); (try clear p2); obtain ⟨x15_4, rfl, HA, HK4, HO_5, HO_6, HB⟩ := hrel
                        cases gk with
                        | zero => exact absurd HA.out (by simp [laws_FnKeyOrder.l0])
                        | succ k4 =>
                          have H := HA.out; clear HA; simp only [laws_FnKeyOrder.l0] at H; have HC32 := Aside0.mk H; clear H
                          go_upto_region 16 with (fail)
                          go_cut [88] (fun v88 wc => ∃ (kq : Nat) (x88_31 : Bool), v88 = .bool x88_31 ∧ Aside0 (laws_FnKeyOrder.j4 kq t873 t876 t883 t885 x15_4 x88_31 = some r) ∧ Aside0 (kq ≤ k4) ∧ Aside0 (Kd.R k42 42 wc w.heap.size (fun k_ => some k_ ≠ ((.slice Ao19 t876.length co19) : Value).ownBlock) (.slice Ao17 t873.length co17) t873) ∧ Aside0 (Kd.R k42 42 wc w.heap.size (fun k_ => some k_ ≠ ((.slice Ao17 t873.length co17) : Value).ownBlock) (.slice Ao19 t876.length co19) t876) ∧ Aside0 (Below w.heap.size w wc))
                          case first =>
                            have H := HC32.out; clear HC32
                            by_cases c33 : x15_4 < (t873.length : Int)
                            · rw [if_pos c33] at H
                              have c33b0 : decide (x15_4 < (t873.length : Int)) = true := decide_eq_true c33; clear c33; (first | rw [c33b0] | (simp only [i64_w, i32_w]; rw [c33b0]) | skip); have H' := Aside0.mk H; clear H
                              go_wp2
                              go_meet
                              case rel => exact ⟨_, (decide (x15_4 < (t876.length : Int))), q13z4, H', ⟨by have := HJ2.out; have := HJ13.out; have := HJ26.out; have := HK4.out; first | omega | exact Nat.le_refl _⟩, ⟨by (with_reducible repeat (first | apply Kd.R_alloc | apply Kd.R_drewN | apply Kd.R_drew)); exact HO_5.out⟩, ⟨by (with_reducible repeat (first | apply Kd.R_alloc | apply Kd.R_drewN | apply Kd.R_drew)); exact HO_6.out⟩, ⟨by repeat (first | (with_reducible first | exact HB.out | apply below_alloc | apply pw_below_drewN | apply below_drew1) | exact HB.out)⟩⟩
                            · rw [if_neg c33] at H
                              have c33b0 : decide (x15_4 < (t873.length : Int)) = false := decide_eq_false c33; clear c33; (first | rw [c33b0] | (simp only [i64_w, i32_w]; rw [c33b0]) | skip); have H' := Aside0.mk H; clear H
                              go_wp2
                              go_meet
                              case rel => exact ⟨_, (false), q13z4, H', ⟨by have := HJ2.out; have := HJ13.out; have := HJ26.out; have := HK4.out; first | omega | exact Nat.le_refl _⟩, ⟨by (with_reducible repeat (first | apply Kd.R_alloc | apply Kd.R_drewN | apply Kd.R_drew)); exact HO_5.out⟩, ⟨by (with_reducible repeat (first | apply Kd.R_alloc | apply Kd.R_drewN | apply Kd.R_drew)); exact HO_6.out⟩, ⟨by repeat (first | (with_reducible first | exact HB.out | apply below_alloc | apply pw_below_drewN | apply below_drew1) | exact HB.out)⟩⟩
                          case rest =>
                            clear HC32; (try clear c1); (try clear c2); (try clear p2); (try clear c3); (try clear c5); (try clear c7); (try clear c9); (try clear c15); (try clear c16); (try clear c17); (try clear c23); (try clear c23b0); (try clear c23b1); (try clear c24); (try clear c24b0); (try clear c24b1); (try clear c25); (try clear c25b0); (try clear c25b1); (try clear c26); (try clear c28); (try clear c28b0); (try clear c28b1); (try clear c29); (try clear c31); (try clear c31b0); (try clear c31b1); (try clear c31b2); (try clear c33); (try clear c33b0); (try clear p2); obtain ⟨kq, x88_31, rfl, HA, HJ31, HO_5, HO_6, HB⟩ := hcut
                            cases kq with
                            | zero => exact absurd HA.out (by simp [laws_FnKeyOrder.j4])
                            | succ kj31 =>
                              have H := HA.out; clear HA; simp only [laws_FnKeyOrder.j4] at H
                              by_cases c34 : x88_31 = true
                              · subst c34
                                have H1 : (if 0 ≤ x15_4 then (if x15_4 < (t873.length : Int) then (if x15_4 < (t876.length : Int) then ((impl_Compare.f kj31 (⟨#[]⟩ : ByteArray) ((rd_T42 t873 x15_4).f0) ((rd_T42 t873 x15_4).f1) ((rd_T42 t873 x15_4).f2) ((rd_T42 t873 x15_4).f3) ((rd_T42 t876 x15_4).f0) ((rd_T42 t876 x15_4).f1) ((rd_T42 t876 x15_4).f2) ((rd_T42 t876 x15_4).f3)).bind fun bt890 => (if bt890.2 = 0 then (if bt890.1 = 0 then (laws_FnKeyOrder.j5 kj31 t873 t876 t883 t885 x15_4 bt890.1 (((rd_T42 t873 x15_4).f0) != ((rd_T42 t876 x15_4).f0))) else (laws_FnKeyOrder.j5 kj31 t873 t876 t883 t885 x15_4 bt890.1 false)) else (some ((Op.bytesLess t883.toList t885.toList) == (decide (((rd_T42 t873 x15_4).f0) < ((rd_T42 t876 x15_4).f0))))))) else (none)) else (none)) else (none)) = some r := by rw [if_pos rfl] at H; exact H
                                clear H; have H := H1; clear H1
                                by_cases c35 : 0 ≤ x15_4
                                · rw [if_pos c35] at H
                                  have c35b0 : decide (0 ≤ x15_4) = true := decide_eq_true c35; clear c35
                                  by_cases c36 : x15_4 < (t873.length : Int)
                                  · rw [if_pos c36] at H
                                    have c36b0 : decide (x15_4 < (t873.length : Int)) = true := decide_eq_true c36; clear c36
                                    by_cases c37 : x15_4 < (t876.length : Int)
                                    · rw [if_pos c37] at H
                                      have c37b0 : decide (x15_4 < (t876.length : Int)) = true := decide_eq_true c37; clear c37; replace H := Option.bind_eq_some_iff.mp H; obtain ⟨⟨t890, t891⟩, A380, H⟩ := H; replace H : (if t891 = 0 then (if t890 = 0 then (laws_FnKeyOrder.j5 kj31 t873 t876 t883 t885 x15_4 t890 (((rd_T42 t873 x15_4).f0) != ((rd_T42 t876 x15_4).f0))) else (laws_FnKeyOrder.j5 kj31 t873 t876 t883 t885 x15_4 t890 false)) else (some ((Op.bytesLess t883.toList t885.toList) == (decide (((rd_T42 t873 x15_4).f0) < ((rd_T42 t876 x15_4).f0)))))) = some r := H; have A38 := Aside0.mk A380; clear A380
                                      by_cases c39 : t891 = 0
                                      · rw [if_pos c39] at H
                                        have c39b0 : (t891 == 0) = true := beq_iff_eq.mpr c39; have c39b1 : (t891 != 0) = false := bne_eq_false_iff_eq.mpr c39; clear c39; have HC40 := Aside0.mk H; clear H
                                        try go_wp2
                                        have n0_ := Aside0.mk (Kd.R_drew HO_5.out); have n1_ := Aside0.mk (Kd.R_drew HO_6.out); have n2_ := Aside0.mk (below_drew1 HB.out); clear HO_5; clear HO_6; clear HB; have HO_5 := n0_; have HO_6 := n1_; have HB := n2_; clear n0_ n1_ n2_; have p888 : 0 ≤ (x15_4 : Int) := of_decide_eq_true q13z0; have q888 : x15_4 < (t873.length : Int) := of_decide_eq_true q13z0; obtain ⟨ad888, e888, hx888_0, hx888_1, hx888_2, hx888_3⟩ := at_T42 (Kd.R_reads' HO_5.out).2.2 x15_4 p888 q888; cases e888; replace p888 := eq_true p888; replace q888 := eq_true q888; have p889 : 0 ≤ (x15_4 : Int) := of_decide_eq_true q13z0; have q889 : x15_4 < (t876.length : Int) := of_decide_eq_true q13z0; obtain ⟨ad889, e889, hx889_0, hx889_1, hx889_2, hx889_3⟩ := at_T42 (Kd.R_reads' HO_6.out).2.2 x15_4 p889 q889; cases e889; replace p889 := eq_true p889; replace q889 := eq_true q889; refine start_ (n := 15) (S := fun w' => w'.cell? (ad888.add ((x15_4).toNat * 4)) = some (.int .i64 ((rd_T42 t873 x15_4).f0)) ∧ w'.cell? ⟨(ad888.add ((x15_4).toNat * 4)).block, (ad888.add ((x15_4).toNat * 4)).off + 1, none⟩ = some (.int .i64 ((rd_T42 t873 x15_4).f1)) ∧ w'.cell? ⟨(ad888.add ((x15_4).toNat * 4)).block, (ad888.add ((x15_4).toNat * 4)).off + 2, none⟩ = some (.int .i64 ((rd_T42 t873 x15_4).f2)) ∧ w'.cell? ⟨(ad888.add ((x15_4).toNat * 4)).block, (ad888.add ((x15_4).toNat * 4)).off + 3, none⟩ = some (.string ((rd_T42 t873 x15_4).f3)) ∧ w'.cell? (ad889.add ((x15_4).toNat * 4)) = some (.int .i64 ((rd_T42 t876 x15_4).f0)) ∧ w'.cell? ⟨(ad889.add ((x15_4).toNat * 4)).block, (ad889.add ((x15_4).toNat * 4)).off + 1, none⟩ = some (.int .i64 ((rd_T42 t876 x15_4).f1)) ∧ w'.cell? ⟨(ad889.add ((x15_4).toNat * 4)).block, (ad889.add ((x15_4).toNat * 4)).off + 2, none⟩ = some (.int .i64 ((rd_T42 t876 x15_4).f2)) ∧ w'.cell? ⟨(ad889.add ((x15_4).toNat * 4)).block, (ad889.add ((x15_4).toNat * 4)).off + 3, none⟩ = some (.string ((rd_T42 t876 x15_4).f3))) (ds := []) #[false, false, false, false, false, false, false, false, false, false, false, false, false, false, false] q13z1 rfl rfl ⟨hx888_0, hx888_1, hx888_2, hx888_3, hx889_0, hx889_1, hx889_2, hx889_3⟩ (fun hHeld => ?_); refine with_tabW laws_FnKeyOrder.tab18 laws_FnKeyOrder.bits18 (fun HT_ HW_ => ?_)
                                        generalize wc.drew = w41 at HO_5 HO_6 HB hx888_0 hx888_1 hx888_2 hx888_3 hx889_0 hx889_1 hx889_2 hx889_3 hHeld ⊢
                                        refine pure_ (i := 0) (N := some 92) (v := ?_) (a' := ?_) #[true, false, false, false, false, false, false, false, false, false, false, false, false, false, false] rfl rfl (any_of HT_.out q13z1) (fun _ _ _ h => h) (Or.inl ⟨by rfl, ?_⟩) ?_ ?_; rotate_left
                                        · intro w'
                                          go_simp
                                          with_reducible rfl
                                        rotate_left
                                        · simp only [Act.put, List.setIfInBounds_toArray, List.set_cons_zero, List.set_cons_succ, i64_w, i32_w]
                                          rfl
                                        refine pure_ (i := 1) (N := some 93) (v := ?_) (a' := ?_) #[true, true, false, false, false, false, false, false, false, false, false, false, false, false, false] rfl rfl (any_of HT_.out q13z1) (fun _ _ _ h => h) (Or.inl ⟨by rfl, ?_⟩) ?_ ?_; rotate_left
                                        · intro w'
                                          go_simp
                                          with_reducible rfl
                                        rotate_left
                                        · simp only [Act.put, List.setIfInBounds_toArray, List.set_cons_zero, List.set_cons_succ, i64_w, i32_w]
                                          rfl
                                        refine pure_ (i := 2) (N := some 94) (v := ?_) (a' := ?_) #[true, true, true, false, false, false, false, false, false, false, false, false, false, false, false] rfl rfl (any_of HT_.out q13z1) (fun _ _ _ h => h) (Or.inl ⟨by rfl, ?_⟩) ?_ ?_; rotate_left
                                        · intro w'
                                          go_simp
                                          with_reducible rfl
                                        rotate_left
                                        · simp only [Act.put, List.setIfInBounds_toArray, List.set_cons_zero, List.set_cons_succ, i64_w, i32_w]
                                          rfl
                                        refine pure_ (i := 3) (N := some 95) (v := ?_) (a' := ?_) #[true, true, true, true, false, false, false, false, false, false, false, false, false, false, false] rfl rfl (any_of HT_.out q13z1) (fun _ _ _ h => h) (Or.inl ⟨by rfl, ?_⟩) ?_ ?_; rotate_left
                                        · intro w'
                                          go_simp
                                          with_reducible rfl
                                        rotate_left
                                        · simp only [Act.put, List.setIfInBounds_toArray, List.set_cons_zero, List.set_cons_succ, i64_w, i32_w]
                                          rfl
                                        refine pure_ (i := 5) (N := some 97) (v := ?_) (a' := ?_) #[true, true, true, true, false, true, false, false, false, false, false, false, false, false, false] rfl rfl (any_of HT_.out q13z1) (fun _ _ _ h => h) (Or.inl ⟨by rfl, ?_⟩) ?_ ?_; rotate_left
                                        · intro w'
                                          go_simp
                                          with_reducible rfl
                                        rotate_left
                                        · simp only [Act.put, List.setIfInBounds_toArray, List.set_cons_zero, List.set_cons_succ, i64_w, i32_w]
                                          rfl
                                        refine pure_ (i := 6) (N := some 98) (v := ?_) (a' := ?_) #[true, true, true, true, false, true, true, false, false, false, false, false, false, false, false] rfl rfl (any_of HT_.out q13z1) (fun _ _ _ h => h) (Or.inl ⟨by rfl, ?_⟩) ?_ ?_; rotate_left
                                        · intro w'
                                          go_simp
                                          with_reducible rfl
                                        rotate_left
                                        · simp only [Act.put, List.setIfInBounds_toArray, List.set_cons_zero, List.set_cons_succ, i64_w, i32_w]
                                          rfl
                                        refine pure_ (i := 7) (N := some 99) (v := ?_) (a' := ?_) #[true, true, true, true, false, true, true, true, false, false, false, false, false, false, false] rfl rfl (any_of HT_.out q13z1) (fun _ _ _ h => h) (Or.inl ⟨by rfl, ?_⟩) ?_ ?_; rotate_left
                                        · intro w'
                                          go_simp
                                          with_reducible rfl
                                        rotate_left
                                        · simp only [Act.put, List.setIfInBounds_toArray, List.set_cons_zero, List.set_cons_succ, i64_w, i32_w]
                                          rfl
                                        refine take_ (i := 4) (N := some 96) (v := ?_) (a' := ?_) #[true, true, true, true, true, true, true, true, false, false, false, false, false, false, false] rfl rfl (take_ofW HT_.out HW_.out q13z1) (fun _ _ _ h => h) (Or.inl ⟨by rfl, ?_⟩) hHeld ?_ ?_; rotate_left
                                        · rintro w' ⟨s0, s1, s2, s3, s4, s5, s6, s7⟩
                                          go_simp
                                          with_reducible rfl
                                        rotate_left
                                        · simp only [Act.put, List.setIfInBounds_toArray, List.set_cons_zero, List.set_cons_succ, i64_w, i32_w]
                                          rfl
                                        refine take_ (i := 8) (N := some 100) (v := ?_) (a' := ?_) #[true, true, true, true, true, true, true, true, true, false, false, false, false, false, false] rfl rfl (take_ofW HT_.out HW_.out q13z1) (fun _ _ _ h => h) (Or.inl ⟨by rfl, ?_⟩) hHeld ?_ ?_; rotate_left
                                        · rintro w' ⟨s0, s1, s2, s3, s4, s5, s6, s7⟩
                                          go_simp
                                          with_reducible rfl
                                        rotate_left
                                        · simp only [Act.put, List.setIfInBounds_toArray, List.set_cons_zero, List.set_cons_succ, i64_w, i32_w]
                                          rfl
                                        refine one_ (i := 9) (N := some 101) #[true, true, true, true, true, true, true, true, true, true, false, false, false, false, false] rfl rfl (one_of HT_.out q13z1) (by decide) (fun K hK => ?_); refine goes_ Try.func18 q13z1 rfl #[.agg #[.string (⟨#[]⟩ : ByteArray)], .agg #[.int .i64 ((rd_T42 t873 x15_4).f0), .int .i64 ((rd_T42 t873 x15_4).f1), .int .i64 ((rd_T42 t873 x15_4).f2), .string ((rd_T42 t873 x15_4).f3)], .agg #[.int .i64 ((rd_T42 t876 x15_4).f0), .int .i64 ((rd_T42 t876 x15_4).f1), .int .i64 ((rd_T42 t876 x15_4).f2), .string ((rd_T42 t876 x15_4).f3)]] (by rfl) rfl rfl q13z2 ?_; (with_reducible refine (impl_Compare.calls kj31 (⟨#[]⟩ : ByteArray) ((rd_T42 t873 x15_4).f0) ((rd_T42 t873 x15_4).f1) ((rd_T42 t873 x15_4).f2) ((rd_T42 t873 x15_4).f3) ((rd_T42 t876 x15_4).f0) ((rd_T42 t876 x15_4).f1) ((rd_T42 t876 x15_4).f2) ((rd_T42 t876 x15_4).f3) t890 t891 _ A38.out).mono ?_); rintro e w42 ⟨rfl, hb⟩; have HS0_ := (hb.cell (World.block_lt_of_cell? _ _ (hHeld.1))).trans (hHeld.1); have HS1_ := (hb.cell (World.block_lt_of_cell? _ _ (hHeld.2.1))).trans (hHeld.2.1); have HS2_ := (hb.cell (World.block_lt_of_cell? _ _ (hHeld.2.2.1))).trans (hHeld.2.2.1); have HS3_ := (hb.cell (World.block_lt_of_cell? _ _ (hHeld.2.2.2.1))).trans (hHeld.2.2.2.1); have HS4_ := (hb.cell (World.block_lt_of_cell? _ _ (hHeld.2.2.2.2.1))).trans (hHeld.2.2.2.2.1); have HS5_ := (hb.cell (World.block_lt_of_cell? _ _ (hHeld.2.2.2.2.2.1))).trans (hHeld.2.2.2.2.2.1); have HS6_ := (hb.cell (World.block_lt_of_cell? _ _ (hHeld.2.2.2.2.2.2.1))).trans (hHeld.2.2.2.2.2.2.1); have HS7_ := (hb.cell (World.block_lt_of_cell? _ _ (hHeld.2.2.2.2.2.2.2))).trans (hHeld.2.2.2.2.2.2.2); refine ⟨_, rfl, ?_⟩; have n0_ := Aside0.mk (Kd.R_below (by (with_reducible repeat (first | apply Kd.R_alloc | apply Kd.R_drewN | apply Kd.R_drew)); exact HO_5.out) hb); have n1_ := Aside0.mk (Kd.R_below (by (with_reducible repeat (first | apply Kd.R_alloc | apply Kd.R_drewN | apply Kd.R_drew)); exact HO_6.out) hb); have n2_ := Aside0.mk (below_step q13z3 hb); clear HO_5; clear HO_6; clear HB; have HO_5 := n0_; have HO_6 := n1_; have HB := n2_; clear n0_ n1_ n2_; (try clear hb); (try clear hb2); (try clear hk); (try clear hi); refine hK.out _ _ ⟨HS0_, HS1_, HS2_, HS3_, HS4_, HS5_, HS6_, HS7_⟩ (fun hHeld => ?_); clear hK K; refine norm_ (a' := ?_) ?_ ?_; rotate_left
                                        · show Act.put _ (some 101) _ = _
                                          simp only [Act.put, List.setIfInBounds_toArray, List.set_cons_zero, List.set_cons_succ, i64_w, i32_w]; rfl
                                        refine pure_ (i := 10) (N := some 91) (v := ?_) (a' := ?_) #[true, true, true, true, true, true, true, true, true, true, true, false, false, false, false] rfl rfl (any_of HT_.out q13z1) (fun _ _ _ h => h) (Or.inl ⟨by rfl, ?_⟩) ?_ ?_; rotate_left
                                        · intro w'
                                          go_simp
                                          with_reducible rfl
                                        rotate_left
                                        · simp only [Act.put, List.setIfInBounds_toArray, List.set_cons_zero, List.set_cons_succ, i64_w, i32_w]
                                          rfl
                                        refine pure_ (i := 11) (N := some 102) (v := ?_) (a' := ?_) #[true, true, true, true, true, true, true, true, true, true, true, true, false, false, false] rfl rfl (any_of HT_.out q13z1) (fun _ _ _ h => h) (Or.inl ⟨by rfl, ?_⟩) ?_ ?_; rotate_left
                                        · intro w'
                                          go_simp
                                          with_reducible rfl
                                        rotate_left
                                        · simp only [Act.put, List.setIfInBounds_toArray, List.set_cons_zero, List.set_cons_succ, i64_w, i32_w]
                                          rfl
                                        refine pure_ (i := 12) (N := some 103) (v := ?_) (a' := ?_) #[true, true, true, true, true, true, true, true, true, true, true, true, true, false, false] rfl rfl (any_of HT_.out q13z1) (fun _ _ _ h => h) (Or.inl ⟨by rfl, ?_⟩) ?_ ?_; rotate_left
                                        · intro w'
                                          go_simp
                                          with_reducible rfl
                                        rotate_left
                                        · simp only [Act.put, List.setIfInBounds_toArray, List.set_cons_zero, List.set_cons_succ, i64_w, i32_w]
                                          rfl
                                        refine pure_ (i := 13) (N := some 16) (v := ?_) (a' := ?_) #[true, true, true, true, true, true, true, true, true, true, true, true, true, true, false] rfl rfl (any_of HT_.out q13z1) (fun _ _ _ h => h) (Or.inl ⟨by rfl, ?_⟩) ?_ ?_; rotate_left
                                        · intro w'
                                          go_simp
                                          with_reducible rfl
                                        rotate_left
                                        · simp only [Act.put, List.setIfInBounds_toArray, List.set_cons_zero, List.set_cons_succ, i64_w, i32_w]
                                          rfl
                                        refine pure_ (i := 14) (N := some 17) (v := ?_) (a' := ?_) #[true, true, true, true, true, true, true, true, true, true, true, true, true, true, true] rfl rfl (any_of HT_.out q13z1) (fun _ _ _ h => h) (Or.inl ⟨by rfl, ?_⟩) ?_ ?_; rotate_left
                                        · intro w'
                                          go_simp
                                          with_reducible rfl
                                        rotate_left
                                        · simp only [Act.put, List.setIfInBounds_toArray, List.set_cons_zero, List.set_cons_succ, i64_w, i32_w]
                                          rfl
                                        refine done_ (done_of HT_.out q13z1) ?_
                                        go_upto_region 21 with (fail)
                                        go_cut [135] (fun v135 wc => ∃ (kq : Nat) (x135_39 : Bool), v135 = .bool x135_39 ∧ Aside0 (laws_FnKeyOrder.j5 kq t873 t876 t883 t885 x15_4 t890 x135_39 = some r) ∧ Aside0 (kq ≤ kj31) ∧ Aside0 (Kd.R k42 42 wc w.heap.size (fun k_ => some k_ ≠ ((.slice (some ad889) t876.length co19) : Value).ownBlock) (.slice (some ad888) t873.length co17) t873) ∧ Aside0 (Kd.R k42 42 wc w.heap.size (fun k_ => some k_ ≠ ((.slice (some ad888) t873.length co17) : Value).ownBlock) (.slice (some ad889) t876.length co19) t876) ∧ Aside0 (Below w.heap.size w wc))
                                        case first =>
                                          have H := HC40.out; clear HC40
                                          by_cases c43 : t890 = 0
                                          · rw [if_pos c43] at H
                                            have c43b0 : (t890 == 0) = true := beq_iff_eq.mpr c43; have c43b1 : (t890 != 0) = false := bne_eq_false_iff_eq.mpr c43; clear c43; (first | rw [c43b0] | (simp only [i64_w, i32_w]; rw [c43b0]) | skip); have H' := Aside0.mk H; clear H
                                            try go_wp2
                                            have n0_ := Aside0.mk (Kd.R_drew HO_5.out); have n1_ := Aside0.mk (Kd.R_drew HO_6.out); have n2_ := Aside0.mk (below_drew1 HB.out); clear HO_5; clear HO_6; clear HB; have HO_5 := n0_; have HO_6 := n1_; have HB := n2_; clear n0_ n1_ n2_; have p894 : 0 ≤ (x15_4 : Int) := of_decide_eq_true q13z0; have q894 : x15_4 < (t873.length : Int) := of_decide_eq_true q13z0; obtain ⟨ad894, e894, hx894_0, hx894_1, hx894_2, hx894_3⟩ := at_T42 (Kd.R_reads' HO_5.out).2.2 x15_4 p894 q894; obtain rfl : ad888 = ad894 := (by injection e894); replace p894 := eq_true p894; replace q894 := eq_true q894; have p895 : 0 ≤ (x15_4 : Int) := of_decide_eq_true q13z0; have q895 : x15_4 < (t876.length : Int) := of_decide_eq_true q13z0; obtain ⟨ad895, e895, hx895_0, hx895_1, hx895_2, hx895_3⟩ := at_T42 (Kd.R_reads' HO_6.out).2.2 x15_4 p895 q895; obtain rfl : ad889 = ad895 := (by injection e895); replace p895 := eq_true p895; replace q895 := eq_true q895; refine start_ (n := 15) (S := fun w' => w'.cell? (ad888.add ((x15_4).toNat * 4)) = some (.int .i64 ((rd_T42 t873 x15_4).f0)) ∧ w'.cell? ⟨(ad888.add ((x15_4).toNat * 4)).block, (ad888.add ((x15_4).toNat * 4)).off + 1, none⟩ = some (.int .i64 ((rd_T42 t873 x15_4).f1)) ∧ w'.cell? ⟨(ad888.add ((x15_4).toNat * 4)).block, (ad888.add ((x15_4).toNat * 4)).off + 2, none⟩ = some (.int .i64 ((rd_T42 t873 x15_4).f2)) ∧ w'.cell? ⟨(ad888.add ((x15_4).toNat * 4)).block, (ad888.add ((x15_4).toNat * 4)).off + 3, none⟩ = some (.string ((rd_T42 t873 x15_4).f3)) ∧ w'.cell? (ad889.add ((x15_4).toNat * 4)) = some (.int .i64 ((rd_T42 t876 x15_4).f0)) ∧ w'.cell? ⟨(ad889.add ((x15_4).toNat * 4)).block, (ad889.add ((x15_4).toNat * 4)).off + 1, none⟩ = some (.int .i64 ((rd_T42 t876 x15_4).f1)) ∧ w'.cell? ⟨(ad889.add ((x15_4).toNat * 4)).block, (ad889.add ((x15_4).toNat * 4)).off + 2, none⟩ = some (.int .i64 ((rd_T42 t876 x15_4).f2)) ∧ w'.cell? ⟨(ad889.add ((x15_4).toNat * 4)).block, (ad889.add ((x15_4).toNat * 4)).off + 3, none⟩ = some (.string ((rd_T42 t876 x15_4).f3))) (ds := []) #[false, false, false, false, false, false, false, false, false, false, false, false, false, false, false] q13z1 rfl rfl ⟨hx894_0, hx894_1, hx894_2, hx894_3, hx895_0, hx895_1, hx895_2, hx895_3⟩ (fun hHeld => ?_); refine with_tabW laws_FnKeyOrder.tab21 laws_FnKeyOrder.bits21 (fun HT_ HW_ => ?_)
                                            generalize w42.drew = w44 at HO_5 HO_6 HB hx894_0 hx894_1 hx894_2 hx894_3 hx895_0 hx895_1 hx895_2 hx895_3 hHeld ⊢
                                            refine pure_ (i := 0) (N := some 121) (v := ?_) (a' := ?_) #[true, false, false, false, false, false, false, false, false, false, false, false, false, false, false] rfl rfl (any_of HT_.out q13z1) (fun _ _ _ h => h) (Or.inl ⟨by rfl, ?_⟩) ?_ ?_; rotate_left
                                            · intro w'
                                              go_simp
                                              with_reducible rfl
                                            rotate_left
                                            · simp only [Act.put, List.setIfInBounds_toArray, List.set_cons_zero, List.set_cons_succ, i64_w, i32_w]
                                              rfl
                                            refine pure_ (i := 1) (N := some 122) (v := ?_) (a' := ?_) #[true, true, false, false, false, false, false, false, false, false, false, false, false, false, false] rfl rfl (any_of HT_.out q13z1) (fun _ _ _ h => h) (Or.inl ⟨by rfl, ?_⟩) ?_ ?_; rotate_left
                                            · intro w'
                                              go_simp
                                              with_reducible rfl
                                            rotate_left
                                            · simp only [Act.put, List.setIfInBounds_toArray, List.set_cons_zero, List.set_cons_succ, i64_w, i32_w]
                                              rfl
                                            refine pure_ (i := 2) (N := some 123) (v := ?_) (a' := ?_) #[true, true, true, false, false, false, false, false, false, false, false, false, false, false, false] rfl rfl (any_of HT_.out q13z1) (fun _ _ _ h => h) (Or.inl ⟨by rfl, ?_⟩) ?_ ?_; rotate_left
                                            · intro w'
                                              go_simp
                                              with_reducible rfl
                                            rotate_left
                                            · simp only [Act.put, List.setIfInBounds_toArray, List.set_cons_zero, List.set_cons_succ, i64_w, i32_w]
                                              rfl
                                            refine pure_ (i := 3) (N := some 124) (v := ?_) (a' := ?_) #[true, true, true, true, false, false, false, false, false, false, false, false, false, false, false] rfl rfl (any_of HT_.out q13z1) (fun _ _ _ h => h) (Or.inl ⟨by rfl, ?_⟩) ?_ ?_; rotate_left
                                            · intro w'
                                              go_simp
                                              with_reducible rfl
                                            rotate_left
                                            · simp only [Act.put, List.setIfInBounds_toArray, List.set_cons_zero, List.set_cons_succ, i64_w, i32_w]
                                              rfl
                                            refine pure_ (i := 4) (N := some 125) (v := ?_) (a' := ?_) #[true, true, true, true, true, false, false, false, false, false, false, false, false, false, false] rfl rfl (any_of HT_.out q13z1) (fun _ _ _ h => h) (Or.inl ⟨by rfl, ?_⟩) ?_ ?_; rotate_left
                                            · intro w'
                                              go_simp
                                              with_reducible rfl
                                            rotate_left
                                            · simp only [Act.put, List.setIfInBounds_toArray, List.set_cons_zero, List.set_cons_succ, i64_w, i32_w]
                                              rfl
                                            refine pure_ (i := 5) (N := some 126) (v := ?_) (a' := ?_) #[true, true, true, true, true, true, false, false, false, false, false, false, false, false, false] rfl rfl (any_of HT_.out q13z1) (fun _ _ _ h => h) (Or.inl ⟨by rfl, ?_⟩) ?_ ?_; rotate_left
                                            · intro w'
                                              go_simp
                                              with_reducible rfl
                                            rotate_left
                                            · simp only [Act.put, List.setIfInBounds_toArray, List.set_cons_zero, List.set_cons_succ, i64_w, i32_w]
                                              rfl
                                            refine pure_ (i := 6) (N := some 127) (v := ?_) (a' := ?_) #[true, true, true, true, true, true, true, false, false, false, false, false, false, false, false] rfl rfl (any_of HT_.out q13z1) (fun _ _ _ h => h) (Or.inl ⟨by rfl, ?_⟩) ?_ ?_; rotate_left
                                            · intro w'
                                              go_simp
                                              with_reducible rfl
                                            rotate_left
                                            · simp only [Act.put, List.setIfInBounds_toArray, List.set_cons_zero, List.set_cons_succ, i64_w, i32_w]
                                              rfl
                                            refine pure_ (i := 8) (N := some 129) (v := ?_) (a' := ?_) #[true, true, true, true, true, true, true, false, true, false, false, false, false, false, false] rfl rfl (any_of HT_.out q13z1) (fun _ _ _ h => h) (Or.inl ⟨by rfl, ?_⟩) ?_ ?_; rotate_left
                                            · intro w'
                                              go_simp
                                              with_reducible rfl
                                            rotate_left
                                            · simp only [Act.put, List.setIfInBounds_toArray, List.set_cons_zero, List.set_cons_succ, i64_w, i32_w]
                                              rfl
                                            refine pure_ (i := 9) (N := some 130) (v := ?_) (a' := ?_) #[true, true, true, true, true, true, true, false, true, true, false, false, false, false, false] rfl rfl (any_of HT_.out q13z1) (fun _ _ _ h => h) (Or.inl ⟨by rfl, ?_⟩) ?_ ?_; rotate_left
                                            · intro w'
                                              go_simp
                                              with_reducible rfl
                                            rotate_left
                                            · simp only [Act.put, List.setIfInBounds_toArray, List.set_cons_zero, List.set_cons_succ, i64_w, i32_w]
                                              rfl
                                            refine pure_ (i := 10) (N := some 131) (v := ?_) (a' := ?_) #[true, true, true, true, true, true, true, false, true, true, true, false, false, false, false] rfl rfl (any_of HT_.out q13z1) (fun _ _ _ h => h) (Or.inl ⟨by rfl, ?_⟩) ?_ ?_; rotate_left
                                            · intro w'
                                              go_simp
                                              with_reducible rfl
                                            rotate_left
                                            · simp only [Act.put, List.setIfInBounds_toArray, List.set_cons_zero, List.set_cons_succ, i64_w, i32_w]
                                              rfl
                                            refine pure_ (i := 11) (N := some 132) (v := ?_) (a' := ?_) #[true, true, true, true, true, true, true, false, true, true, true, true, false, false, false] rfl rfl (any_of HT_.out q13z1) (fun _ _ _ h => h) (Or.inl ⟨by rfl, ?_⟩) ?_ ?_; rotate_left
                                            · intro w'
                                              go_simp
                                              with_reducible rfl
                                            rotate_left
                                            · simp only [Act.put, List.setIfInBounds_toArray, List.set_cons_zero, List.set_cons_succ, i64_w, i32_w]
                                              rfl
                                            refine take_ (i := 7) (N := some 128) (v := ?_) (a' := ?_) #[true, true, true, true, true, true, true, true, true, true, true, true, false, false, false] rfl rfl (take_ofW HT_.out HW_.out q13z1) (fun _ _ _ h => h) (Or.inl ⟨by rfl, ?_⟩) hHeld ?_ ?_; rotate_left
                                            · rintro w' ⟨s0, s1, s2, s3, s4, s5, s6, s7⟩
                                              go_simp
                                              with_reducible rfl
                                            rotate_left
                                            · simp only [Act.put, List.setIfInBounds_toArray, List.set_cons_zero, List.set_cons_succ, i64_w, i32_w]
                                              rfl
                                            refine take_ (i := 12) (N := some 133) (v := ?_) (a' := ?_) #[true, true, true, true, true, true, true, true, true, true, true, true, true, false, false] rfl rfl (take_ofW HT_.out HW_.out q13z1) (fun _ _ _ h => h) (Or.inl ⟨by rfl, ?_⟩) hHeld ?_ ?_; rotate_left
                                            · rintro w' ⟨s0, s1, s2, s3, s4, s5, s6, s7⟩
                                              go_simp
                                              with_reducible rfl
                                            rotate_left
                                            · simp only [Act.put, List.setIfInBounds_toArray, List.set_cons_zero, List.set_cons_succ, i64_w, i32_w]
                                              rfl
                                            refine pure_ (i := 13) (N := some 134) (v := ?_) (a' := ?_) #[true, true, true, true, true, true, true, true, true, true, true, true, true, true, false] rfl rfl (any_of HT_.out q13z1) (fun _ _ _ h => h) (Or.inl ⟨by rfl, ?_⟩) ?_ ?_; rotate_left
                                            · intro w'
                                              go_simp
                                              with_reducible rfl
                                            rotate_left
                                            · simp only [Act.put, List.setIfInBounds_toArray, List.set_cons_zero, List.set_cons_succ, i64_w, i32_w]
                                              rfl
                                            refine pure_ (i := 14) (N := some 135) (v := ?_) (a' := ?_) #[true, true, true, true, true, true, true, true, true, true, true, true, true, true, true] rfl rfl (any_of HT_.out q13z1) (fun _ _ _ h => h) (Or.inl ⟨by rfl, ?_⟩) ?_ ?_; rotate_left
                                            · intro w'
                                              go_simp
                                              with_reducible rfl
                                            rotate_left
                                            · simp only [Act.put, List.setIfInBounds_toArray, List.set_cons_zero, List.set_cons_succ, i64_w, i32_w]
                                              rfl
                                            refine done_ (done_of HT_.out q13z1) ?_
                                            try go_wp2
                                            go_meet
                                            case rel => exact ⟨_, ((((rd_T42 t873 x15_4).f0) != ((rd_T42 t876 x15_4).f0))), q13z4, H', ⟨by have := HJ2.out; have := HJ13.out; have := HJ26.out; have := HK4.out; have := HJ31.out; first | omega | exact Nat.le_refl _⟩, ⟨by (with_reducible repeat (first | apply Kd.R_alloc | apply Kd.R_drewN | apply Kd.R_drew)); exact HO_5.out⟩, ⟨by (with_reducible repeat (first | apply Kd.R_alloc | apply Kd.R_drewN | apply Kd.R_drew)); exact HO_6.out⟩, ⟨by repeat (first | (with_reducible first | exact HB.out | apply below_alloc | apply pw_below_drewN | apply below_drew1) | exact HB.out)⟩⟩
                                          · rw [if_neg c43] at H
                                            have c43b0 : (t890 == 0) = false := beq_eq_false_iff_ne.mpr c43; have c43b1 : (t890 != 0) = true := bne_iff_ne.mpr c43; (first | rw [c43b0] | (simp only [i64_w, i32_w]; rw [c43b0]) | skip); have H' := Aside0.mk H; clear H
                                            try go_wp2
                                            have n0_ := Aside0.mk (Kd.R_drew HO_5.out); have n1_ := Aside0.mk (Kd.R_drew HO_6.out); have n2_ := Aside0.mk (below_drew1 HB.out); clear HO_5; clear HO_6; clear HB; have HO_5 := n0_; have HO_6 := n1_; have HB := n2_; clear n0_ n1_ n2_; refine start_ (n := 15) (S := fun w' => True) (ds := []) #[false, false, false, false, false, false, false, false, false, false, false, false, false, false, false] q13z1 rfl rfl trivial (fun hHeld => ?_); refine with_tabW laws_FnKeyOrder.tab21 laws_FnKeyOrder.bits21 (fun HT_ HW_ => ?_)
                                            generalize w42.drew = w45 at HO_5 HO_6 HB hHeld ⊢
                                            refine pure_ (i := 0) (N := some 121) (v := ?_) (a' := ?_) #[true, false, false, false, false, false, false, false, false, false, false, false, false, false, false] rfl rfl (any_of HT_.out q13z1) (fun _ _ _ h => h) (Or.inl ⟨by rfl, ?_⟩) ?_ ?_; rotate_left
                                            · intro w'
                                              go_simp
                                              with_reducible rfl
                                            rotate_left
                                            · simp only [Act.put, List.setIfInBounds_toArray, List.set_cons_zero, List.set_cons_succ, i64_w, i32_w]
                                              rfl
                                            refine pure_ (i := 1) (N := some 122) (v := ?_) (a' := ?_) #[true, true, false, false, false, false, false, false, false, false, false, false, false, false, false] rfl rfl (any_of HT_.out q13z1) (fun _ _ _ h => h) (Or.inl ⟨by rfl, ?_⟩) ?_ ?_; rotate_left
                                            · intro w'
                                              go_simp
                                              with_reducible rfl
                                            rotate_left
                                            · simp only [Act.put, List.setIfInBounds_toArray, List.set_cons_zero, List.set_cons_succ, i64_w, i32_w]
                                              rfl
                                            refine pure_ (i := 2) (N := some 123) (v := ?_) (a' := ?_) #[true, true, true, false, false, false, false, false, false, false, false, false, false, false, false] rfl rfl (any_of HT_.out q13z1) (fun _ _ _ h => h) (Or.inl ⟨by rfl, ?_⟩) ?_ ?_; rotate_left
                                            · intro w'
                                              go_simp
                                              with_reducible rfl
                                            rotate_left
                                            · simp only [Act.put, List.setIfInBounds_toArray, List.set_cons_zero, List.set_cons_succ, i64_w, i32_w]
                                              rfl
                                            refine pure_ (i := 3) (N := some 124) (v := undef) (a' := ?_) #[true, true, true, true, false, false, false, false, false, false, false, false, false, false, false] rfl rfl (any_of HT_.out q13z1) (fun _ _ _ h => h) (Or.inr ⟨by rfl, rfl⟩) ?_ ?_; rotate_left
                                            · simp only [Act.put, List.setIfInBounds_toArray, List.set_cons_zero, List.set_cons_succ, i64_w, i32_w]
                                              rfl
                                            refine pure_ (i := 4) (N := some 125) (v := undef) (a' := ?_) #[true, true, true, true, true, false, false, false, false, false, false, false, false, false, false] rfl rfl (any_of HT_.out q13z1) (fun _ _ _ h => h) (Or.inr ⟨by rfl, rfl⟩) ?_ ?_; rotate_left
                                            · simp only [Act.put, List.setIfInBounds_toArray, List.set_cons_zero, List.set_cons_succ, i64_w, i32_w]
                                              rfl
                                            refine pure_ (i := 5) (N := some 126) (v := undef) (a' := ?_) #[true, true, true, true, true, true, false, false, false, false, false, false, false, false, false] rfl rfl (any_of HT_.out q13z1) (fun _ _ _ h => h) (Or.inr ⟨by rfl, rfl⟩) ?_ ?_; rotate_left
                                            · simp only [Act.put, List.setIfInBounds_toArray, List.set_cons_zero, List.set_cons_succ, i64_w, i32_w]
                                              rfl
                                            refine pure_ (i := 6) (N := some 127) (v := undef) (a' := ?_) #[true, true, true, true, true, true, true, false, false, false, false, false, false, false, false] rfl rfl (any_of HT_.out q13z1) (fun _ _ _ h => h) (Or.inr ⟨by rfl, rfl⟩) ?_ ?_; rotate_left
                                            · simp only [Act.put, List.setIfInBounds_toArray, List.set_cons_zero, List.set_cons_succ, i64_w, i32_w]
                                              rfl
                                            refine pure_ (i := 7) (N := some 128) (v := undef) (a' := ?_) #[true, true, true, true, true, true, true, true, false, false, false, false, false, false, false] rfl rfl (any_of HT_.out q13z1) (fun _ _ _ h => h) (Or.inr ⟨by rfl, rfl⟩) ?_ ?_; rotate_left
                                            · simp only [Act.put, List.setIfInBounds_toArray, List.set_cons_zero, List.set_cons_succ, i64_w, i32_w]
                                              rfl
                                            refine pure_ (i := 8) (N := some 129) (v := undef) (a' := ?_) #[true, true, true, true, true, true, true, true, true, false, false, false, false, false, false] rfl rfl (any_of HT_.out q13z1) (fun _ _ _ h => h) (Or.inr ⟨by rfl, rfl⟩) ?_ ?_; rotate_left
                                            · simp only [Act.put, List.setIfInBounds_toArray, List.set_cons_zero, List.set_cons_succ, i64_w, i32_w]
                                              rfl
                                            refine pure_ (i := 9) (N := some 130) (v := undef) (a' := ?_) #[true, true, true, true, true, true, true, true, true, true, false, false, false, false, false] rfl rfl (any_of HT_.out q13z1) (fun _ _ _ h => h) (Or.inr ⟨by rfl, rfl⟩) ?_ ?_; rotate_left
                                            · simp only [Act.put, List.setIfInBounds_toArray, List.set_cons_zero, List.set_cons_succ, i64_w, i32_w]
                                              rfl
                                            refine pure_ (i := 10) (N := some 131) (v := undef) (a' := ?_) #[true, true, true, true, true, true, true, true, true, true, true, false, false, false, false] rfl rfl (any_of HT_.out q13z1) (fun _ _ _ h => h) (Or.inr ⟨by rfl, rfl⟩) ?_ ?_; rotate_left
                                            · simp only [Act.put, List.setIfInBounds_toArray, List.set_cons_zero, List.set_cons_succ, i64_w, i32_w]
                                              rfl
                                            refine pure_ (i := 11) (N := some 132) (v := undef) (a' := ?_) #[true, true, true, true, true, true, true, true, true, true, true, true, false, false, false] rfl rfl (any_of HT_.out q13z1) (fun _ _ _ h => h) (Or.inr ⟨by rfl, rfl⟩) ?_ ?_; rotate_left
                                            · simp only [Act.put, List.setIfInBounds_toArray, List.set_cons_zero, List.set_cons_succ, i64_w, i32_w]
                                              rfl
                                            refine pure_ (i := 12) (N := some 133) (v := undef) (a' := ?_) #[true, true, true, true, true, true, true, true, true, true, true, true, true, false, false] rfl rfl (any_of HT_.out q13z1) (fun _ _ _ h => h) (Or.inr ⟨by rfl, rfl⟩) ?_ ?_; rotate_left
                                            · simp only [Act.put, List.setIfInBounds_toArray, List.set_cons_zero, List.set_cons_succ, i64_w, i32_w]
                                              rfl
                                            refine pure_ (i := 13) (N := some 134) (v := undef) (a' := ?_) #[true, true, true, true, true, true, true, true, true, true, true, true, true, true, false] rfl rfl (any_of HT_.out q13z1) (fun _ _ _ h => h) (Or.inr ⟨by rfl, rfl⟩) ?_ ?_; rotate_left
                                            · simp only [Act.put, List.setIfInBounds_toArray, List.set_cons_zero, List.set_cons_succ, i64_w, i32_w]
                                              rfl
                                            refine pure_ (i := 14) (N := some 135) (v := ?_) (a' := ?_) #[true, true, true, true, true, true, true, true, true, true, true, true, true, true, true] rfl rfl (any_of HT_.out q13z1) (fun _ _ _ h => h) (Or.inl ⟨by rfl, ?_⟩) ?_ ?_; rotate_left
                                            · intro w'
                                              go_simp
                                              with_reducible rfl
                                            rotate_left
                                            · simp only [Act.put, List.setIfInBounds_toArray, List.set_cons_zero, List.set_cons_succ, i64_w, i32_w]
                                              rfl
                                            refine done_ (done_of HT_.out q13z1) ?_
                                            try go_wp2
                                            go_meet
                                            case rel => exact ⟨_, (false), q13z4, H', ⟨by have := HJ2.out; have := HJ13.out; have := HJ26.out; have := HK4.out; have := HJ31.out; first | omega | exact Nat.le_refl _⟩, ⟨by (with_reducible repeat (first | apply Kd.R_alloc | apply Kd.R_drewN | apply Kd.R_drew)); exact HO_5.out⟩, ⟨by (with_reducible repeat (first | apply Kd.R_alloc | apply Kd.R_drewN | apply Kd.R_drew)); exact HO_6.out⟩, ⟨by repeat (first | (with_reducible first | exact HB.out | apply below_alloc | apply pw_below_drewN | apply below_drew1) | exact HB.out)⟩⟩
                                        case rest =>
                                          clear HC40; (try clear c1); (try clear c2); (try clear p2); (try clear c3); (try clear c4); (try clear c5); (try clear c7); (try clear p8); (try clear q8); (try clear hx8); (try clear c9); (try clear c15); (try clear c16); (try clear c17); (try clear c18); (try clear c23); (try clear c23b0); (try clear c23b1); (try clear c24); (try clear c24b0); (try clear c24b1); (try clear c25); (try clear c25b0); (try clear c25b1); (try clear c26); (try clear c28); (try clear c28b0); (try clear c28b1); (try clear c29); (try clear c31); (try clear c31b0); (try clear c31b1); (try clear c31b2); (try clear c33); (try clear c33b0); (try clear c34); (try clear c35); (try clear c35b0); (try clear c36); (try clear c36b0); (try clear c37); (try clear c37b0); (try clear c39); (try clear c39b0); (try clear c39b1); (try clear c43); (try clear c43b0); (try clear c43b1); (try clear hx888_0); (try clear hx888_1); (try clear hx888_2); (try clear hx888_3); (try clear hx889_0); (try clear hx889_1); (try clear hx889_2); (try clear hx889_3); (try clear hx894_0); (try clear hx894_1); (try clear hx894_2); (try clear hx894_3); (try clear hx895_0); (try clear hx895_1); (try clear hx895_2); (try clear hx895_3); (try clear p2); (try clear p888); (try clear p889); (try clear p894); (try clear p895); (try clear q888); (try clear q889); (try clear q894); (try clear q895); obtain ⟨kq, x135_39, rfl, HA, HJ39, HO_5, HO_6, HB⟩ := hcut
                                          cases kq with
                                          | zero => exact absurd HA.out (by simp [laws_FnKeyOrder.j5])
                                          | succ kj39 =>
                                            have H := HA.out; clear HA; simp only [laws_FnKeyOrder.j5] at H
                                            by_cases c46 : x135_39 = true
                                            · subst c46
                                              have H1 : (if 0 ≤ x15_4 then (if x15_4 < (t873.length : Int) then (if x15_4 < (t876.length : Int) then (if ((rd_T42 t873 x15_4).f0) > ((rd_T42 t876 x15_4).f0) then (if 1 = 0 then (laws_FnKeyOrder.l0 kj39 t873 t876 t883 t885 (wrap64 (x15_4 + 1))) else (some ((decide (1 < 0)) == (Op.bytesLess t883.toList t885.toList)))) else (if (-1) = 0 then (laws_FnKeyOrder.l0 kj39 t873 t876 t883 t885 (wrap64 (x15_4 + 1))) else (some ((decide ((-1) < 0)) == (Op.bytesLess t883.toList t885.toList))))) else (none)) else (none)) else (none)) = some r := by rw [if_pos rfl] at H; exact H
                                              clear H; have H := H1; clear H1
                                              by_cases c47 : 0 ≤ x15_4
                                              · rw [if_pos c47] at H
                                                have c47b0 : decide (0 ≤ x15_4) = true := decide_eq_true c47; clear c47
                                                by_cases c48 : x15_4 < (t873.length : Int)
                                                · rw [if_pos c48] at H
                                                  have c48b0 : decide (x15_4 < (t873.length : Int)) = true := decide_eq_true c48; clear c48
                                                  by_cases c49 : x15_4 < (t876.length : Int)
                                                  · rw [if_pos c49] at H
                                                    have c49b0 : decide (x15_4 < (t876.length : Int)) = true := decide_eq_true c49; clear c49
                                                    by_cases c50 : ((rd_T42 t873 x15_4).f0) > ((rd_T42 t876 x15_4).f0)
                                                    · rw [if_pos c50] at H
                                                      have c50b0 : decide (((rd_T42 t876 x15_4).f0) < ((rd_T42 t873 x15_4).f0)) = true := decide_eq_true c50; clear c50
                                                      by_cases c51 : 1 = 0
                                                      · exact absurd c51 (by decide)
                                                      · rw [if_neg c51] at H
                                                        have c51b0 : (1 == 0) = false := beq_eq_false_iff_ne.mpr c51; have c51b1 : (1 != 0) = true := bne_iff_ne.mpr c51; obtain rfl := Option.some.inj H
                                                        try go_wp2
                                                        have n0_ := Aside0.mk (Kd.R_drew HO_5.out); have n1_ := Aside0.mk (Kd.R_drew HO_6.out); have n2_ := Aside0.mk (below_drew1 HB.out); clear HO_5; clear HO_6; clear HB; have HO_5 := n0_; have HO_6 := n1_; have HB := n2_; clear n0_ n1_ n2_; have p896 : 0 ≤ (x15_4 : Int) := of_decide_eq_true q13z0; have q896 : x15_4 < (t873.length : Int) := of_decide_eq_true q13z0; obtain ⟨ad896, e896, hx896_0, hx896_1, hx896_2, hx896_3⟩ := at_T42 (Kd.R_reads' HO_5.out).2.2 x15_4 p896 q896; obtain rfl : ad888 = ad896 := (by injection e896); replace p896 := eq_true p896; replace q896 := eq_true q896; have p897 : 0 ≤ (x15_4 : Int) := of_decide_eq_true q13z0; have q897 : x15_4 < (t876.length : Int) := of_decide_eq_true q13z0; obtain ⟨ad897, e897, hx897_0, hx897_1, hx897_2, hx897_3⟩ := at_T42 (Kd.R_reads' HO_6.out).2.2 x15_4 p897 q897; obtain rfl : ad889 = ad897 := (by injection e897); replace p897 := eq_true p897; replace q897 := eq_true q897; refine start_ (n := 11) (S := fun w' => w'.cell? (ad888.add ((x15_4).toNat * 4)) = some (.int .i64 ((rd_T42 t873 x15_4).f0)) ∧ w'.cell? ⟨(ad888.add ((x15_4).toNat * 4)).block, (ad888.add ((x15_4).toNat * 4)).off + 1, none⟩ = some (.int .i64 ((rd_T42 t873 x15_4).f1)) ∧ w'.cell? ⟨(ad888.add ((x15_4).toNat * 4)).block, (ad888.add ((x15_4).toNat * 4)).off + 2, none⟩ = some (.int .i64 ((rd_T42 t873 x15_4).f2)) ∧ w'.cell? ⟨(ad888.add ((x15_4).toNat * 4)).block, (ad888.add ((x15_4).toNat * 4)).off + 3, none⟩ = some (.string ((rd_T42 t873 x15_4).f3)) ∧ w'.cell? (ad889.add ((x15_4).toNat * 4)) = some (.int .i64 ((rd_T42 t876 x15_4).f0)) ∧ w'.cell? ⟨(ad889.add ((x15_4).toNat * 4)).block, (ad889.add ((x15_4).toNat * 4)).off + 1, none⟩ = some (.int .i64 ((rd_T42 t876 x15_4).f1)) ∧ w'.cell? ⟨(ad889.add ((x15_4).toNat * 4)).block, (ad889.add ((x15_4).toNat * 4)).off + 2, none⟩ = some (.int .i64 ((rd_T42 t876 x15_4).f2)) ∧ w'.cell? ⟨(ad889.add ((x15_4).toNat * 4)).block, (ad889.add ((x15_4).toNat * 4)).off + 3, none⟩ = some (.string ((rd_T42 t876 x15_4).f3))) (ds := []) #[false, false, false, false, false, false, false, false, false, false, false] q13z1 rfl rfl ⟨hx896_0, hx896_1, hx896_2, hx896_3, hx897_0, hx897_1, hx897_2, hx897_3⟩ (fun hHeld => ?_); refine with_tabW laws_FnKeyOrder.tab23 laws_FnKeyOrder.bits23 (fun HT_ HW_ => ?_)
                                                        generalize wc.drew = w53 at HO_5 HO_6 HB hx896_0 hx896_1 hx896_2 hx896_3 hx897_0 hx897_1 hx897_2 hx897_3 hHeld ⊢
                                                        refine pure_ (i := 0) (N := some 136) (v := ?_) (a' := ?_) #[true, false, false, false, false, false, false, false, false, false, false] rfl rfl (any_of HT_.out q13z1) (fun _ _ _ h => h) (Or.inl ⟨by rfl, ?_⟩) ?_ ?_; rotate_left
                                                        · intro w'
                                                          go_simp
                                                          with_reducible rfl
                                                        rotate_left
                                                        · simp only [Act.put, List.setIfInBounds_toArray, List.set_cons_zero, List.set_cons_succ, i64_w, i32_w]
                                                          rfl
                                                        refine pure_ (i := 1) (N := some 137) (v := ?_) (a' := ?_) #[true, true, false, false, false, false, false, false, false, false, false] rfl rfl (any_of HT_.out q13z1) (fun _ _ _ h => h) (Or.inl ⟨by rfl, ?_⟩) ?_ ?_; rotate_left
                                                        · intro w'
                                                          go_simp
                                                          with_reducible rfl
                                                        rotate_left
                                                        · simp only [Act.put, List.setIfInBounds_toArray, List.set_cons_zero, List.set_cons_succ, i64_w, i32_w]
                                                          rfl
                                                        refine pure_ (i := 2) (N := some 138) (v := ?_) (a' := ?_) #[true, true, true, false, false, false, false, false, false, false, false] rfl rfl (any_of HT_.out q13z1) (fun _ _ _ h => h) (Or.inl ⟨by rfl, ?_⟩) ?_ ?_; rotate_left
                                                        · intro w'
                                                          go_simp
                                                          with_reducible rfl
                                                        rotate_left
                                                        · simp only [Act.put, List.setIfInBounds_toArray, List.set_cons_zero, List.set_cons_succ, i64_w, i32_w]
                                                          rfl
                                                        refine pure_ (i := 3) (N := some 139) (v := ?_) (a' := ?_) #[true, true, true, true, false, false, false, false, false, false, false] rfl rfl (any_of HT_.out q13z1) (fun _ _ _ h => h) (Or.inl ⟨by rfl, ?_⟩) ?_ ?_; rotate_left
                                                        · intro w'
                                                          go_simp
                                                          with_reducible rfl
                                                        rotate_left
                                                        · simp only [Act.put, List.setIfInBounds_toArray, List.set_cons_zero, List.set_cons_succ, i64_w, i32_w]
                                                          rfl
                                                        refine pure_ (i := 5) (N := some 141) (v := ?_) (a' := ?_) #[true, true, true, true, false, true, false, false, false, false, false] rfl rfl (any_of HT_.out q13z1) (fun _ _ _ h => h) (Or.inl ⟨by rfl, ?_⟩) ?_ ?_; rotate_left
                                                        · intro w'
                                                          go_simp
                                                          with_reducible rfl
                                                        rotate_left
                                                        · simp only [Act.put, List.setIfInBounds_toArray, List.set_cons_zero, List.set_cons_succ, i64_w, i32_w]
                                                          rfl
                                                        refine pure_ (i := 6) (N := some 142) (v := ?_) (a' := ?_) #[true, true, true, true, false, true, true, false, false, false, false] rfl rfl (any_of HT_.out q13z1) (fun _ _ _ h => h) (Or.inl ⟨by rfl, ?_⟩) ?_ ?_; rotate_left
                                                        · intro w'
                                                          go_simp
                                                          with_reducible rfl
                                                        rotate_left
                                                        · simp only [Act.put, List.setIfInBounds_toArray, List.set_cons_zero, List.set_cons_succ, i64_w, i32_w]
                                                          rfl
                                                        refine pure_ (i := 7) (N := some 143) (v := ?_) (a' := ?_) #[true, true, true, true, false, true, true, true, false, false, false] rfl rfl (any_of HT_.out q13z1) (fun _ _ _ h => h) (Or.inl ⟨by rfl, ?_⟩) ?_ ?_; rotate_left
                                                        · intro w'
                                                          go_simp
                                                          with_reducible rfl
                                                        rotate_left
                                                        · simp only [Act.put, List.setIfInBounds_toArray, List.set_cons_zero, List.set_cons_succ, i64_w, i32_w]
                                                          rfl
                                                        refine pure_ (i := 8) (N := some 144) (v := ?_) (a' := ?_) #[true, true, true, true, false, true, true, true, true, false, false] rfl rfl (any_of HT_.out q13z1) (fun _ _ _ h => h) (Or.inl ⟨by rfl, ?_⟩) ?_ ?_; rotate_left
                                                        · intro w'
                                                          go_simp
                                                          with_reducible rfl
                                                        rotate_left
                                                        · simp only [Act.put, List.setIfInBounds_toArray, List.set_cons_zero, List.set_cons_succ, i64_w, i32_w]
                                                          rfl
                                                        refine take_ (i := 4) (N := some 140) (v := ?_) (a' := ?_) #[true, true, true, true, true, true, true, true, true, false, false] rfl rfl (take_ofW HT_.out HW_.out q13z1) (fun _ _ _ h => h) (Or.inl ⟨by rfl, ?_⟩) hHeld ?_ ?_; rotate_left
                                                        · rintro w' ⟨s0, s1, s2, s3, s4, s5, s6, s7⟩
                                                          go_simp
                                                          with_reducible rfl
                                                        rotate_left
                                                        · simp only [Act.put, List.setIfInBounds_toArray, List.set_cons_zero, List.set_cons_succ, i64_w, i32_w]
                                                          rfl
                                                        refine take_ (i := 9) (N := some 145) (v := ?_) (a' := ?_) #[true, true, true, true, true, true, true, true, true, true, false] rfl rfl (take_ofW HT_.out HW_.out q13z1) (fun _ _ _ h => h) (Or.inl ⟨by rfl, ?_⟩) hHeld ?_ ?_; rotate_left
                                                        · rintro w' ⟨s0, s1, s2, s3, s4, s5, s6, s7⟩
                                                          go_simp
                                                          with_reducible rfl
                                                        rotate_left
                                                        · simp only [Act.put, List.setIfInBounds_toArray, List.set_cons_zero, List.set_cons_succ, i64_w, i32_w]
                                                          rfl
                                                        refine pure_ (i := 10) (N := some 146) (v := ?_) (a' := ?_) #[true, true, true, true, true, true, true, true, true, true, true] rfl rfl (any_of HT_.out q13z1) (fun _ _ _ h => h) (Or.inl ⟨by rfl, ?_⟩) ?_ ?_; rotate_left
                                                        · intro w'
                                                          go_simp
                                                          with_reducible rfl
                                                        rotate_left
                                                        · simp only [Act.put, List.setIfInBounds_toArray, List.set_cons_zero, List.set_cons_succ, i64_w, i32_w]
                                                          rfl
                                                        refine done_ (done_of HT_.out q13z1) ?_
                                                        try go_wp2
                                                        go_ret
                                                        exact ⟨by first | rfl | (simp [errW_none, errW_some] <;> rfl) | (simp [*, errW_none, errW_some] <;> rfl), by repeat (first | (with_reducible first | exact HB.out | apply below_alloc | apply pw_below_drewN | apply below_drew1) | exact HB.out)⟩
                                                    · rw [if_neg c50] at H
                                                      have c50b0 : decide (((rd_T42 t876 x15_4).f0) < ((rd_T42 t873 x15_4).f0)) = false := decide_eq_false c50; clear c50
                                                      by_cases c54 : (-1) = 0
                                                      · exact absurd c54 (by decide)
                                                      · rw [if_neg c54] at H
                                                        have c54b0 : ((-1) == 0) = false := beq_eq_false_iff_ne.mpr c54; have c54b1 : ((-1) != 0) = true := bne_iff_ne.mpr c54; obtain rfl := Option.some.inj H
                                                        try go_wp2
                                                        have n0_ := Aside0.mk (Kd.R_drew HO_5.out); have n1_ := Aside0.mk (Kd.R_drew HO_6.out); have n2_ := Aside0.mk (below_drew1 HB.out); clear HO_5; clear HO_6; clear HB; have HO_5 := n0_; have HO_6 := n1_; have HB := n2_; clear n0_ n1_ n2_; have p896 : 0 ≤ (x15_4 : Int) := of_decide_eq_true q13z0; have q896 : x15_4 < (t873.length : Int) := of_decide_eq_true q13z0; obtain ⟨ad896, e896, hx896_0, hx896_1, hx896_2, hx896_3⟩ := at_T42 (Kd.R_reads' HO_5.out).2.2 x15_4 p896 q896; obtain rfl : ad888 = ad896 := (by injection e896); replace p896 := eq_true p896; replace q896 := eq_true q896; have p897 : 0 ≤ (x15_4 : Int) := of_decide_eq_true q13z0; have q897 : x15_4 < (t876.length : Int) := of_decide_eq_true q13z0; obtain ⟨ad897, e897, hx897_0, hx897_1, hx897_2, hx897_3⟩ := at_T42 (Kd.R_reads' HO_6.out).2.2 x15_4 p897 q897; obtain rfl : ad889 = ad897 := (by injection e897); replace p897 := eq_true p897; replace q897 := eq_true q897; refine start_ (n := 11) (S := fun w' => w'.cell? (ad888.add ((x15_4).toNat * 4)) = some (.int .i64 ((rd_T42 t873 x15_4).f0)) ∧ w'.cell? ⟨(ad888.add ((x15_4).toNat * 4)).block, (ad888.add ((x15_4).toNat * 4)).off + 1, none⟩ = some (.int .i64 ((rd_T42 t873 x15_4).f1)) ∧ w'.cell? ⟨(ad888.add ((x15_4).toNat * 4)).block, (ad888.add ((x15_4).toNat * 4)).off + 2, none⟩ = some (.int .i64 ((rd_T42 t873 x15_4).f2)) ∧ w'.cell? ⟨(ad888.add ((x15_4).toNat * 4)).block, (ad888.add ((x15_4).toNat * 4)).off + 3, none⟩ = some (.string ((rd_T42 t873 x15_4).f3)) ∧ w'.cell? (ad889.add ((x15_4).toNat * 4)) = some (.int .i64 ((rd_T42 t876 x15_4).f0)) ∧ w'.cell? ⟨(ad889.add ((x15_4).toNat * 4)).block, (ad889.add ((x15_4).toNat * 4)).off + 1, none⟩ = some (.int .i64 ((rd_T42 t876 x15_4).f1)) ∧ w'.cell? ⟨(ad889.add ((x15_4).toNat * 4)).block, (ad889.add ((x15_4).toNat * 4)).off + 2, none⟩ = some (.int .i64 ((rd_T42 t876 x15_4).f2)) ∧ w'.cell? ⟨(ad889.add ((x15_4).toNat * 4)).block, (ad889.add ((x15_4).toNat * 4)).off + 3, none⟩ = some (.string ((rd_T42 t876 x15_4).f3))) (ds := []) #[false, false, false, false, false, false, false, false, false, false, false] q13z1 rfl rfl ⟨hx896_0, hx896_1, hx896_2, hx896_3, hx897_0, hx897_1, hx897_2, hx897_3⟩ (fun hHeld => ?_); refine with_tabW laws_FnKeyOrder.tab23 laws_FnKeyOrder.bits23 (fun HT_ HW_ => ?_)
                                                        generalize wc.drew = w56 at HO_5 HO_6 HB hx896_0 hx896_1 hx896_2 hx896_3 hx897_0 hx897_1 hx897_2 hx897_3 hHeld ⊢
                                                        refine pure_ (i := 0) (N := some 136) (v := ?_) (a' := ?_) #[true, false, false, false, false, false, false, false, false, false, false] rfl rfl (any_of HT_.out q13z1) (fun _ _ _ h => h) (Or.inl ⟨by rfl, ?_⟩) ?_ ?_; rotate_left
                                                        · intro w'
                                                          go_simp
                                                          with_reducible rfl
                                                        rotate_left
                                                        · simp only [Act.put, List.setIfInBounds_toArray, List.set_cons_zero, List.set_cons_succ, i64_w, i32_w]
                                                          rfl
                                                        refine pure_ (i := 1) (N := some 137) (v := ?_) (a' := ?_) #[true, true, false, false, false, false, false, false, false, false, false] rfl rfl (any_of HT_.out q13z1) (fun _ _ _ h => h) (Or.inl ⟨by rfl, ?_⟩) ?_ ?_; rotate_left
                                                        · intro w'
                                                          go_simp
                                                          with_reducible rfl
                                                        rotate_left
                                                        · simp only [Act.put, List.setIfInBounds_toArray, List.set_cons_zero, List.set_cons_succ, i64_w, i32_w]
                                                          rfl
                                                        refine pure_ (i := 2) (N := some 138) (v := ?_) (a' := ?_) #[true, true, true, false, false, false, false, false, false, false, false] rfl rfl (any_of HT_.out q13z1) (fun _ _ _ h => h) (Or.inl ⟨by rfl, ?_⟩) ?_ ?_; rotate_left
                                                        · intro w'
                                                          go_simp
                                                          with_reducible rfl
                                                        rotate_left
                                                        · simp only [Act.put, List.setIfInBounds_toArray, List.set_cons_zero, List.set_cons_succ, i64_w, i32_w]
                                                          rfl
                                                        refine pure_ (i := 3) (N := some 139) (v := ?_) (a' := ?_) #[true, true, true, true, false, false, false, false, false, false, false] rfl rfl (any_of HT_.out q13z1) (fun _ _ _ h => h) (Or.inl ⟨by rfl, ?_⟩) ?_ ?_; rotate_left
                                                        · intro w'
                                                          go_simp
                                                          with_reducible rfl
                                                        rotate_left
                                                        · simp only [Act.put, List.setIfInBounds_toArray, List.set_cons_zero, List.set_cons_succ, i64_w, i32_w]
                                                          rfl
                                                        refine pure_ (i := 5) (N := some 141) (v := ?_) (a' := ?_) #[true, true, true, true, false, true, false, false, false, false, false] rfl rfl (any_of HT_.out q13z1) (fun _ _ _ h => h) (Or.inl ⟨by rfl, ?_⟩) ?_ ?_; rotate_left
                                                        · intro w'
                                                          go_simp
                                                          with_reducible rfl
                                                        rotate_left
                                                        · simp only [Act.put, List.setIfInBounds_toArray, List.set_cons_zero, List.set_cons_succ, i64_w, i32_w]
                                                          rfl
                                                        refine pure_ (i := 6) (N := some 142) (v := ?_) (a' := ?_) #[true, true, true, true, false, true, true, false, false, false, false] rfl rfl (any_of HT_.out q13z1) (fun _ _ _ h => h) (Or.inl ⟨by rfl, ?_⟩) ?_ ?_; rotate_left
                                                        · intro w'
                                                          go_simp
                                                          with_reducible rfl
                                                        rotate_left
                                                        · simp only [Act.put, List.setIfInBounds_toArray, List.set_cons_zero, List.set_cons_succ, i64_w, i32_w]
                                                          rfl
                                                        refine pure_ (i := 7) (N := some 143) (v := ?_) (a' := ?_) #[true, true, true, true, false, true, true, true, false, false, false] rfl rfl (any_of HT_.out q13z1) (fun _ _ _ h => h) (Or.inl ⟨by rfl, ?_⟩) ?_ ?_; rotate_left
                                                        · intro w'
                                                          go_simp
                                                          with_reducible rfl
                                                        rotate_left
                                                        · simp only [Act.put, List.setIfInBounds_toArray, List.set_cons_zero, List.set_cons_succ, i64_w, i32_w]
                                                          rfl
                                                        refine pure_ (i := 8) (N := some 144) (v := ?_) (a' := ?_) #[true, true, true, true, false, true, true, true, true, false, false] rfl rfl (any_of HT_.out q13z1) (fun _ _ _ h => h) (Or.inl ⟨by rfl, ?_⟩) ?_ ?_; rotate_left
                                                        · intro w'
                                                          go_simp
                                                          with_reducible rfl
                                                        rotate_left
                                                        · simp only [Act.put, List.setIfInBounds_toArray, List.set_cons_zero, List.set_cons_succ, i64_w, i32_w]
                                                          rfl
                                                        refine take_ (i := 4) (N := some 140) (v := ?_) (a' := ?_) #[true, true, true, true, true, true, true, true, true, false, false] rfl rfl (take_ofW HT_.out HW_.out q13z1) (fun _ _ _ h => h) (Or.inl ⟨by rfl, ?_⟩) hHeld ?_ ?_; rotate_left
                                                        · rintro w' ⟨s0, s1, s2, s3, s4, s5, s6, s7⟩
                                                          go_simp
                                                          with_reducible rfl
                                                        rotate_left
                                                        · simp only [Act.put, List.setIfInBounds_toArray, List.set_cons_zero, List.set_cons_succ, i64_w, i32_w]
                                                          rfl
                                                        refine take_ (i := 9) (N := some 145) (v := ?_) (a' := ?_) #[true, true, true, true, true, true, true, true, true, true, false] rfl rfl (take_ofW HT_.out HW_.out q13z1) (fun _ _ _ h => h) (Or.inl ⟨by rfl, ?_⟩) hHeld ?_ ?_; rotate_left
                                                        · rintro w' ⟨s0, s1, s2, s3, s4, s5, s6, s7⟩
                                                          go_simp
                                                          with_reducible rfl
                                                        rotate_left
                                                        · simp only [Act.put, List.setIfInBounds_toArray, List.set_cons_zero, List.set_cons_succ, i64_w, i32_w]
                                                          rfl
                                                        refine pure_ (i := 10) (N := some 146) (v := ?_) (a' := ?_) #[true, true, true, true, true, true, true, true, true, true, true] rfl rfl (any_of HT_.out q13z1) (fun _ _ _ h => h) (Or.inl ⟨by rfl, ?_⟩) ?_ ?_; rotate_left
                                                        · intro w'
                                                          go_simp
                                                          with_reducible rfl
                                                        rotate_left
                                                        · simp only [Act.put, List.setIfInBounds_toArray, List.set_cons_zero, List.set_cons_succ, i64_w, i32_w]
                                                          rfl
                                                        refine done_ (done_of HT_.out q13z1) ?_
                                                        try go_wp2
                                                        go_ret
                                                        exact ⟨by first | rfl | (simp [errW_none, errW_some] <;> rfl) | (simp [*, errW_none, errW_some] <;> rfl), by repeat (first | (with_reducible first | exact HB.out | apply below_alloc | apply pw_below_drewN | apply below_drew1) | exact HB.out)⟩
                                                  · rw [if_neg c49] at H
                                                    exact absurd H (by simp)
                                                · rw [if_neg c48] at H
                                                  exact absurd H (by simp)
                                              · rw [if_neg c47] at H
                                                exact absurd H (by simp)
                                            · replace c46 := Bool.eq_false_iff.mpr c46
                                              subst c46
                                              have H1 : (if t890 = 0 then (laws_FnKeyOrder.l0 kj39 t873 t876 t883 t885 (wrap64 (x15_4 + 1))) else (some ((decide (t890 < 0)) == (Op.bytesLess t883.toList t885.toList)))) = some r := by rw [if_neg (show ¬ (false = true) by decide)] at H; exact H
                                              clear H; have H := H1; clear H1
                                              by_cases c57 : t890 = 0
                                              · rw [if_pos c57] at H
                                                have c57b0 : (t890 == 0) = true := beq_iff_eq.mpr c57; have c57b1 : (t890 != 0) = false := bne_eq_false_iff_eq.mpr c57; clear c57; have H' := Aside0.mk H; clear H
                                                go_wp2
                                                go_roundg kj39
                                                case measure => have := HJ2.out; have := HJ13.out; have := HJ26.out; have := HK4.out; have := HJ31.out; have := HJ39.out; omega
                                                case rel => exact ⟨(wrap64 (x15_4 + 1)), q13z4, H', ⟨by have := HJ2.out; have := HJ13.out; have := HJ26.out; have := HK4.out; have := HJ31.out; have := HJ39.out; omega⟩, ⟨by (with_reducible repeat (first | apply Kd.R_alloc | apply Kd.R_drewN | apply Kd.R_drew)); exact HO_5.out⟩, ⟨by (with_reducible repeat (first | apply Kd.R_alloc | apply Kd.R_drewN | apply Kd.R_drew)); exact HO_6.out⟩, ⟨by repeat (first | (with_reducible first | exact HB.out | apply below_alloc | apply pw_below_drewN | apply below_drew1) | exact HB.out)⟩⟩
                                              · rw [if_neg c57] at H
                                                have c57b0 : (t890 == 0) = false := beq_eq_false_iff_ne.mpr c57; have c57b1 : (t890 != 0) = true := bne_iff_ne.mpr c57; obtain rfl := Option.some.inj H
                                                go_wp2
                                                go_ret
                                                exact ⟨by first | rfl | (simp [errW_none, errW_some] <;> rfl) | (simp [*, errW_none, errW_some] <;> rfl), by repeat (first | (with_reducible first | exact HB.out | apply below_alloc | apply pw_below_drewN | apply below_drew1) | exact HB.out)⟩
                                      · rw [if_neg c39] at H
                                        have c39b0 : (t891 == 0) = false := beq_eq_false_iff_ne.mpr c39; have c39b1 : (t891 != 0) = true := bne_iff_ne.mpr c39; obtain rfl := Option.some.inj H
                                        try go_wp2
                                        have n0_ := Aside0.mk (Kd.R_drew HO_5.out); have n1_ := Aside0.mk (Kd.R_drew HO_6.out); have n2_ := Aside0.mk (below_drew1 HB.out); clear HO_5; clear HO_6; clear HB; have HO_5 := n0_; have HO_6 := n1_; have HB := n2_; clear n0_ n1_ n2_; have p888 : 0 ≤ (x15_4 : Int) := of_decide_eq_true q13z0; have q888 : x15_4 < (t873.length : Int) := of_decide_eq_true q13z0; obtain ⟨ad888, e888, hx888_0, hx888_1, hx888_2, hx888_3⟩ := at_T42 (Kd.R_reads' HO_5.out).2.2 x15_4 p888 q888; cases e888; replace p888 := eq_true p888; replace q888 := eq_true q888; have p889 : 0 ≤ (x15_4 : Int) := of_decide_eq_true q13z0; have q889 : x15_4 < (t876.length : Int) := of_decide_eq_true q13z0; obtain ⟨ad889, e889, hx889_0, hx889_1, hx889_2, hx889_3⟩ := at_T42 (Kd.R_reads' HO_6.out).2.2 x15_4 p889 q889; cases e889; replace p889 := eq_true p889; replace q889 := eq_true q889; refine start_ (n := 15) (S := fun w' => w'.cell? (ad888.add ((x15_4).toNat * 4)) = some (.int .i64 ((rd_T42 t873 x15_4).f0)) ∧ w'.cell? ⟨(ad888.add ((x15_4).toNat * 4)).block, (ad888.add ((x15_4).toNat * 4)).off + 1, none⟩ = some (.int .i64 ((rd_T42 t873 x15_4).f1)) ∧ w'.cell? ⟨(ad888.add ((x15_4).toNat * 4)).block, (ad888.add ((x15_4).toNat * 4)).off + 2, none⟩ = some (.int .i64 ((rd_T42 t873 x15_4).f2)) ∧ w'.cell? ⟨(ad888.add ((x15_4).toNat * 4)).block, (ad888.add ((x15_4).toNat * 4)).off + 3, none⟩ = some (.string ((rd_T42 t873 x15_4).f3)) ∧ w'.cell? (ad889.add ((x15_4).toNat * 4)) = some (.int .i64 ((rd_T42 t876 x15_4).f0)) ∧ w'.cell? ⟨(ad889.add ((x15_4).toNat * 4)).block, (ad889.add ((x15_4).toNat * 4)).off + 1, none⟩ = some (.int .i64 ((rd_T42 t876 x15_4).f1)) ∧ w'.cell? ⟨(ad889.add ((x15_4).toNat * 4)).block, (ad889.add ((x15_4).toNat * 4)).off + 2, none⟩ = some (.int .i64 ((rd_T42 t876 x15_4).f2)) ∧ w'.cell? ⟨(ad889.add ((x15_4).toNat * 4)).block, (ad889.add ((x15_4).toNat * 4)).off + 3, none⟩ = some (.string ((rd_T42 t876 x15_4).f3))) (ds := []) #[false, false, false, false, false, false, false, false, false, false, false, false, false, false, false] q13z1 rfl rfl ⟨hx888_0, hx888_1, hx888_2, hx888_3, hx889_0, hx889_1, hx889_2, hx889_3⟩ (fun hHeld => ?_); refine with_tabW laws_FnKeyOrder.tab18 laws_FnKeyOrder.bits18 (fun HT_ HW_ => ?_)
                                        generalize wc.drew = w58 at HO_5 HO_6 HB hx888_0 hx888_1 hx888_2 hx888_3 hx889_0 hx889_1 hx889_2 hx889_3 hHeld ⊢
                                        refine pure_ (i := 0) (N := some 92) (v := ?_) (a' := ?_) #[true, false, false, false, false, false, false, false, false, false, false, false, false, false, false] rfl rfl (any_of HT_.out q13z1) (fun _ _ _ h => h) (Or.inl ⟨by rfl, ?_⟩) ?_ ?_; rotate_left
                                        · intro w'
                                          go_simp
                                          with_reducible rfl
                                        rotate_left
                                        · simp only [Act.put, List.setIfInBounds_toArray, List.set_cons_zero, List.set_cons_succ, i64_w, i32_w]
                                          rfl
                                        refine pure_ (i := 1) (N := some 93) (v := ?_) (a' := ?_) #[true, true, false, false, false, false, false, false, false, false, false, false, false, false, false] rfl rfl (any_of HT_.out q13z1) (fun _ _ _ h => h) (Or.inl ⟨by rfl, ?_⟩) ?_ ?_; rotate_left
                                        · intro w'
                                          go_simp
                                          with_reducible rfl
                                        rotate_left
                                        · simp only [Act.put, List.setIfInBounds_toArray, List.set_cons_zero, List.set_cons_succ, i64_w, i32_w]
                                          rfl
                                        refine pure_ (i := 2) (N := some 94) (v := ?_) (a' := ?_) #[true, true, true, false, false, false, false, false, false, false, false, false, false, false, false] rfl rfl (any_of HT_.out q13z1) (fun _ _ _ h => h) (Or.inl ⟨by rfl, ?_⟩) ?_ ?_; rotate_left
                                        · intro w'
                                          go_simp
                                          with_reducible rfl
                                        rotate_left
                                        · simp only [Act.put, List.setIfInBounds_toArray, List.set_cons_zero, List.set_cons_succ, i64_w, i32_w]
                                          rfl
                                        refine pure_ (i := 3) (N := some 95) (v := ?_) (a' := ?_) #[true, true, true, true, false, false, false, false, false, false, false, false, false, false, false] rfl rfl (any_of HT_.out q13z1) (fun _ _ _ h => h) (Or.inl ⟨by rfl, ?_⟩) ?_ ?_; rotate_left
                                        · intro w'
                                          go_simp
                                          with_reducible rfl
                                        rotate_left
                                        · simp only [Act.put, List.setIfInBounds_toArray, List.set_cons_zero, List.set_cons_succ, i64_w, i32_w]
                                          rfl
                                        refine pure_ (i := 5) (N := some 97) (v := ?_) (a' := ?_) #[true, true, true, true, false, true, false, false, false, false, false, false, false, false, false] rfl rfl (any_of HT_.out q13z1) (fun _ _ _ h => h) (Or.inl ⟨by rfl, ?_⟩) ?_ ?_; rotate_left
                                        · intro w'
                                          go_simp
                                          with_reducible rfl
                                        rotate_left
                                        · simp only [Act.put, List.setIfInBounds_toArray, List.set_cons_zero, List.set_cons_succ, i64_w, i32_w]
                                          rfl
                                        refine pure_ (i := 6) (N := some 98) (v := ?_) (a' := ?_) #[true, true, true, true, false, true, true, false, false, false, false, false, false, false, false] rfl rfl (any_of HT_.out q13z1) (fun _ _ _ h => h) (Or.inl ⟨by rfl, ?_⟩) ?_ ?_; rotate_left
                                        · intro w'
                                          go_simp
                                          with_reducible rfl
                                        rotate_left
                                        · simp only [Act.put, List.setIfInBounds_toArray, List.set_cons_zero, List.set_cons_succ, i64_w, i32_w]
                                          rfl
                                        refine pure_ (i := 7) (N := some 99) (v := ?_) (a' := ?_) #[true, true, true, true, false, true, true, true, false, false, false, false, false, false, false] rfl rfl (any_of HT_.out q13z1) (fun _ _ _ h => h) (Or.inl ⟨by rfl, ?_⟩) ?_ ?_; rotate_left
                                        · intro w'
                                          go_simp
                                          with_reducible rfl
                                        rotate_left
                                        · simp only [Act.put, List.setIfInBounds_toArray, List.set_cons_zero, List.set_cons_succ, i64_w, i32_w]
                                          rfl
                                        refine take_ (i := 4) (N := some 96) (v := ?_) (a' := ?_) #[true, true, true, true, true, true, true, true, false, false, false, false, false, false, false] rfl rfl (take_ofW HT_.out HW_.out q13z1) (fun _ _ _ h => h) (Or.inl ⟨by rfl, ?_⟩) hHeld ?_ ?_; rotate_left
                                        · rintro w' ⟨s0, s1, s2, s3, s4, s5, s6, s7⟩
                                          go_simp
                                          with_reducible rfl
                                        rotate_left
                                        · simp only [Act.put, List.setIfInBounds_toArray, List.set_cons_zero, List.set_cons_succ, i64_w, i32_w]
                                          rfl
                                        refine take_ (i := 8) (N := some 100) (v := ?_) (a' := ?_) #[true, true, true, true, true, true, true, true, true, false, false, false, false, false, false] rfl rfl (take_ofW HT_.out HW_.out q13z1) (fun _ _ _ h => h) (Or.inl ⟨by rfl, ?_⟩) hHeld ?_ ?_; rotate_left
                                        · rintro w' ⟨s0, s1, s2, s3, s4, s5, s6, s7⟩
                                          go_simp
                                          with_reducible rfl
                                        rotate_left
                                        · simp only [Act.put, List.setIfInBounds_toArray, List.set_cons_zero, List.set_cons_succ, i64_w, i32_w]
                                          rfl
                                        refine one_ (i := 9) (N := some 101) #[true, true, true, true, true, true, true, true, true, true, false, false, false, false, false] rfl rfl (one_of HT_.out q13z1) (by decide) (fun K hK => ?_); refine goes_ Try.func18 q13z1 rfl #[.agg #[.string (⟨#[]⟩ : ByteArray)], .agg #[.int .i64 ((rd_T42 t873 x15_4).f0), .int .i64 ((rd_T42 t873 x15_4).f1), .int .i64 ((rd_T42 t873 x15_4).f2), .string ((rd_T42 t873 x15_4).f3)], .agg #[.int .i64 ((rd_T42 t876 x15_4).f0), .int .i64 ((rd_T42 t876 x15_4).f1), .int .i64 ((rd_T42 t876 x15_4).f2), .string ((rd_T42 t876 x15_4).f3)]] (by rfl) rfl rfl q13z2 ?_; (with_reducible refine (impl_Compare.calls kj31 (⟨#[]⟩ : ByteArray) ((rd_T42 t873 x15_4).f0) ((rd_T42 t873 x15_4).f1) ((rd_T42 t873 x15_4).f2) ((rd_T42 t873 x15_4).f3) ((rd_T42 t876 x15_4).f0) ((rd_T42 t876 x15_4).f1) ((rd_T42 t876 x15_4).f2) ((rd_T42 t876 x15_4).f3) t890 t891 _ A38.out).mono ?_); rintro e w59 ⟨rfl, hb⟩; have HS0_ := (hb.cell (World.block_lt_of_cell? _ _ (hHeld.1))).trans (hHeld.1); have HS1_ := (hb.cell (World.block_lt_of_cell? _ _ (hHeld.2.1))).trans (hHeld.2.1); have HS2_ := (hb.cell (World.block_lt_of_cell? _ _ (hHeld.2.2.1))).trans (hHeld.2.2.1); have HS3_ := (hb.cell (World.block_lt_of_cell? _ _ (hHeld.2.2.2.1))).trans (hHeld.2.2.2.1); have HS4_ := (hb.cell (World.block_lt_of_cell? _ _ (hHeld.2.2.2.2.1))).trans (hHeld.2.2.2.2.1); have HS5_ := (hb.cell (World.block_lt_of_cell? _ _ (hHeld.2.2.2.2.2.1))).trans (hHeld.2.2.2.2.2.1); have HS6_ := (hb.cell (World.block_lt_of_cell? _ _ (hHeld.2.2.2.2.2.2.1))).trans (hHeld.2.2.2.2.2.2.1); have HS7_ := (hb.cell (World.block_lt_of_cell? _ _ (hHeld.2.2.2.2.2.2.2))).trans (hHeld.2.2.2.2.2.2.2); refine ⟨_, rfl, ?_⟩; have n0_ := Aside0.mk (Kd.R_below (by (with_reducible repeat (first | apply Kd.R_alloc | apply Kd.R_drewN | apply Kd.R_drew)); exact HO_5.out) hb); have n1_ := Aside0.mk (Kd.R_below (by (with_reducible repeat (first | apply Kd.R_alloc | apply Kd.R_drewN | apply Kd.R_drew)); exact HO_6.out) hb); have n2_ := Aside0.mk (below_step q13z3 hb); clear HO_5; clear HO_6; clear HB; have HO_5 := n0_; have HO_6 := n1_; have HB := n2_; clear n0_ n1_ n2_; (try clear hb); (try clear hb2); (try clear hk); (try clear hi); refine hK.out _ _ ⟨HS0_, HS1_, HS2_, HS3_, HS4_, HS5_, HS6_, HS7_⟩ (fun hHeld => ?_); clear hK K; refine norm_ (a' := ?_) ?_ ?_; rotate_left
                                        · show Act.put _ (some 101) _ = _
                                          simp only [Act.put, List.setIfInBounds_toArray, List.set_cons_zero, List.set_cons_succ, i64_w, i32_w]; rfl
                                        refine pure_ (i := 10) (N := some 91) (v := ?_) (a' := ?_) #[true, true, true, true, true, true, true, true, true, true, true, false, false, false, false] rfl rfl (any_of HT_.out q13z1) (fun _ _ _ h => h) (Or.inl ⟨by rfl, ?_⟩) ?_ ?_; rotate_left
                                        · intro w'
                                          go_simp
                                          with_reducible rfl
                                        rotate_left
                                        · simp only [Act.put, List.setIfInBounds_toArray, List.set_cons_zero, List.set_cons_succ, i64_w, i32_w]
                                          rfl
                                        refine pure_ (i := 11) (N := some 102) (v := ?_) (a' := ?_) #[true, true, true, true, true, true, true, true, true, true, true, true, false, false, false] rfl rfl (any_of HT_.out q13z1) (fun _ _ _ h => h) (Or.inl ⟨by rfl, ?_⟩) ?_ ?_; rotate_left
                                        · intro w'
                                          go_simp
                                          with_reducible rfl
                                        rotate_left
                                        · simp only [Act.put, List.setIfInBounds_toArray, List.set_cons_zero, List.set_cons_succ, i64_w, i32_w]
                                          rfl
                                        refine pure_ (i := 12) (N := some 103) (v := ?_) (a' := ?_) #[true, true, true, true, true, true, true, true, true, true, true, true, true, false, false] rfl rfl (any_of HT_.out q13z1) (fun _ _ _ h => h) (Or.inl ⟨by rfl, ?_⟩) ?_ ?_; rotate_left
                                        · intro w'
                                          go_simp
                                          with_reducible rfl
                                        rotate_left
                                        · simp only [Act.put, List.setIfInBounds_toArray, List.set_cons_zero, List.set_cons_succ, i64_w, i32_w]
                                          rfl
                                        refine pure_ (i := 13) (N := some 16) (v := ?_) (a' := ?_) #[true, true, true, true, true, true, true, true, true, true, true, true, true, true, false] rfl rfl (any_of HT_.out q13z1) (fun _ _ _ h => h) (Or.inl ⟨by rfl, ?_⟩) ?_ ?_; rotate_left
                                        · intro w'
                                          go_simp
                                          with_reducible rfl
                                        rotate_left
                                        · simp only [Act.put, List.setIfInBounds_toArray, List.set_cons_zero, List.set_cons_succ, i64_w, i32_w]
                                          rfl
                                        refine pure_ (i := 14) (N := some 17) (v := ?_) (a' := ?_) #[true, true, true, true, true, true, true, true, true, true, true, true, true, true, true] rfl rfl (any_of HT_.out q13z1) (fun _ _ _ h => h) (Or.inl ⟨by rfl, ?_⟩) ?_ ?_; rotate_left
                                        · intro w'
                                          go_simp
                                          with_reducible rfl
                                        rotate_left
                                        · simp only [Act.put, List.setIfInBounds_toArray, List.set_cons_zero, List.set_cons_succ, i64_w, i32_w]
                                          rfl
                                        refine done_ (done_of HT_.out q13z1) ?_
                                        try go_wp2
                                        have n0_ := Aside0.mk (Kd.R_drew HO_5.out); have n1_ := Aside0.mk (Kd.R_drew HO_6.out); have n2_ := Aside0.mk (below_drew1 HB.out); clear HO_5; clear HO_6; clear HB; have HO_5 := n0_; have HO_6 := n1_; have HB := n2_; clear n0_ n1_ n2_; have p892 : 0 ≤ (x15_4 : Int) := of_decide_eq_true q13z0; have q892 : x15_4 < (t873.length : Int) := of_decide_eq_true q13z0; obtain ⟨ad892, e892, hx892_0, hx892_1, hx892_2, hx892_3⟩ := at_T42 (Kd.R_reads' HO_5.out).2.2 x15_4 p892 q892; obtain rfl : ad888 = ad892 := (by injection e892); replace p892 := eq_true p892; replace q892 := eq_true q892; have p893 : 0 ≤ (x15_4 : Int) := of_decide_eq_true q13z0; have q893 : x15_4 < (t876.length : Int) := of_decide_eq_true q13z0; obtain ⟨ad893, e893, hx893_0, hx893_1, hx893_2, hx893_3⟩ := at_T42 (Kd.R_reads' HO_6.out).2.2 x15_4 p893 q893; obtain rfl : ad889 = ad893 := (by injection e893); replace p893 := eq_true p893; replace q893 := eq_true q893; refine start_ (n := 16) (S := fun w' => w'.cell? (ad888.add ((x15_4).toNat * 4)) = some (.int .i64 ((rd_T42 t873 x15_4).f0)) ∧ w'.cell? ⟨(ad888.add ((x15_4).toNat * 4)).block, (ad888.add ((x15_4).toNat * 4)).off + 1, none⟩ = some (.int .i64 ((rd_T42 t873 x15_4).f1)) ∧ w'.cell? ⟨(ad888.add ((x15_4).toNat * 4)).block, (ad888.add ((x15_4).toNat * 4)).off + 2, none⟩ = some (.int .i64 ((rd_T42 t873 x15_4).f2)) ∧ w'.cell? ⟨(ad888.add ((x15_4).toNat * 4)).block, (ad888.add ((x15_4).toNat * 4)).off + 3, none⟩ = some (.string ((rd_T42 t873 x15_4).f3)) ∧ w'.cell? (ad889.add ((x15_4).toNat * 4)) = some (.int .i64 ((rd_T42 t876 x15_4).f0)) ∧ w'.cell? ⟨(ad889.add ((x15_4).toNat * 4)).block, (ad889.add ((x15_4).toNat * 4)).off + 1, none⟩ = some (.int .i64 ((rd_T42 t876 x15_4).f1)) ∧ w'.cell? ⟨(ad889.add ((x15_4).toNat * 4)).block, (ad889.add ((x15_4).toNat * 4)).off + 2, none⟩ = some (.int .i64 ((rd_T42 t876 x15_4).f2)) ∧ w'.cell? ⟨(ad889.add ((x15_4).toNat * 4)).block, (ad889.add ((x15_4).toNat * 4)).off + 3, none⟩ = some (.string ((rd_T42 t876 x15_4).f3))) (ds := []) #[false, false, false, false, false, false, false, false, false, false, false, false, false, false, false, false] q13z1 rfl rfl ⟨hx892_0, hx892_1, hx892_2, hx892_3, hx893_0, hx893_1, hx893_2, hx893_3⟩ (fun hHeld => ?_); refine with_tabW laws_FnKeyOrder.tab20 laws_FnKeyOrder.bits20 (fun HT_ HW_ => ?_)
                                        generalize w59.drew = w60 at HO_5 HO_6 HB hx892_0 hx892_1 hx892_2 hx892_3 hx893_0 hx893_1 hx893_2 hx893_3 hHeld ⊢
                                        refine pure_ (i := 0) (N := some 106) (v := ?_) (a' := ?_) #[true, false, false, false, false, false, false, false, false, false, false, false, false, false, false, false] rfl rfl (any_of HT_.out q13z1) (fun _ _ _ h => h) (Or.inl ⟨by rfl, ?_⟩) ?_ ?_; rotate_left
                                        · intro w'
                                          go_simp
                                          with_reducible rfl
                                        rotate_left
                                        · simp only [Act.put, List.setIfInBounds_toArray, List.set_cons_zero, List.set_cons_succ, i64_w, i32_w]
                                          rfl
                                        refine pure_ (i := 1) (N := some 107) (v := ?_) (a' := ?_) #[true, true, false, false, false, false, false, false, false, false, false, false, false, false, false, false] rfl rfl (any_of HT_.out q13z1) (fun _ _ _ h => h) (Or.inl ⟨by rfl, ?_⟩) ?_ ?_; rotate_left
                                        · intro w'
                                          go_simp
                                          with_reducible rfl
                                        rotate_left
                                        · simp only [Act.put, List.setIfInBounds_toArray, List.set_cons_zero, List.set_cons_succ, i64_w, i32_w]
                                          rfl
                                        refine pure_ (i := 2) (N := some 108) (v := ?_) (a' := ?_) #[true, true, true, false, false, false, false, false, false, false, false, false, false, false, false, false] rfl rfl (any_of HT_.out q13z1) (fun _ _ _ h => h) (Or.inl ⟨by rfl, ?_⟩) ?_ ?_; rotate_left
                                        · intro w'
                                          go_simp
                                          with_reducible rfl
                                        rotate_left
                                        · simp only [Act.put, List.setIfInBounds_toArray, List.set_cons_zero, List.set_cons_succ, i64_w, i32_w]
                                          rfl
                                        refine pure_ (i := 3) (N := some 109) (v := ?_) (a' := ?_) #[true, true, true, true, false, false, false, false, false, false, false, false, false, false, false, false] rfl rfl (any_of HT_.out q13z1) (fun _ _ _ h => h) (Or.inl ⟨by rfl, ?_⟩) ?_ ?_; rotate_left
                                        · intro w'
                                          go_simp
                                          with_reducible rfl
                                        rotate_left
                                        · simp only [Act.put, List.setIfInBounds_toArray, List.set_cons_zero, List.set_cons_succ, i64_w, i32_w]
                                          rfl
                                        refine pure_ (i := 4) (N := some 110) (v := ?_) (a' := ?_) #[true, true, true, true, true, false, false, false, false, false, false, false, false, false, false, false] rfl rfl (any_of HT_.out q13z1) (fun _ _ _ h => h) (Or.inl ⟨by rfl, ?_⟩) ?_ ?_; rotate_left
                                        · intro w'
                                          go_simp
                                          with_reducible rfl
                                        rotate_left
                                        · simp only [Act.put, List.setIfInBounds_toArray, List.set_cons_zero, List.set_cons_succ, i64_w, i32_w]
                                          rfl
                                        refine pure_ (i := 5) (N := some 111) (v := ?_) (a' := ?_) #[true, true, true, true, true, true, false, false, false, false, false, false, false, false, false, false] rfl rfl (any_of HT_.out q13z1) (fun _ _ _ h => h) (Or.inl ⟨by rfl, ?_⟩) ?_ ?_; rotate_left
                                        · intro w'
                                          go_simp
                                          with_reducible rfl
                                        rotate_left
                                        · simp only [Act.put, List.setIfInBounds_toArray, List.set_cons_zero, List.set_cons_succ, i64_w, i32_w]
                                          rfl
                                        refine pure_ (i := 6) (N := some 112) (v := ?_) (a' := ?_) #[true, true, true, true, true, true, true, false, false, false, false, false, false, false, false, false] rfl rfl (any_of HT_.out q13z1) (fun _ _ _ h => h) (Or.inl ⟨by rfl, ?_⟩) ?_ ?_; rotate_left
                                        · intro w'
                                          go_simp
                                          with_reducible rfl
                                        rotate_left
                                        · simp only [Act.put, List.setIfInBounds_toArray, List.set_cons_zero, List.set_cons_succ, i64_w, i32_w]
                                          rfl
                                        refine pure_ (i := 8) (N := some 114) (v := ?_) (a' := ?_) #[true, true, true, true, true, true, true, false, true, false, false, false, false, false, false, false] rfl rfl (any_of HT_.out q13z1) (fun _ _ _ h => h) (Or.inl ⟨by rfl, ?_⟩) ?_ ?_; rotate_left
                                        · intro w'
                                          go_simp
                                          with_reducible rfl
                                        rotate_left
                                        · simp only [Act.put, List.setIfInBounds_toArray, List.set_cons_zero, List.set_cons_succ, i64_w, i32_w]
                                          rfl
                                        refine pure_ (i := 9) (N := some 115) (v := ?_) (a' := ?_) #[true, true, true, true, true, true, true, false, true, true, false, false, false, false, false, false] rfl rfl (any_of HT_.out q13z1) (fun _ _ _ h => h) (Or.inl ⟨by rfl, ?_⟩) ?_ ?_; rotate_left
                                        · intro w'
                                          go_simp
                                          with_reducible rfl
                                        rotate_left
                                        · simp only [Act.put, List.setIfInBounds_toArray, List.set_cons_zero, List.set_cons_succ, i64_w, i32_w]
                                          rfl
                                        refine pure_ (i := 10) (N := some 116) (v := ?_) (a' := ?_) #[true, true, true, true, true, true, true, false, true, true, true, false, false, false, false, false] rfl rfl (any_of HT_.out q13z1) (fun _ _ _ h => h) (Or.inl ⟨by rfl, ?_⟩) ?_ ?_; rotate_left
                                        · intro w'
                                          go_simp
                                          with_reducible rfl
                                        rotate_left
                                        · simp only [Act.put, List.setIfInBounds_toArray, List.set_cons_zero, List.set_cons_succ, i64_w, i32_w]
                                          rfl
                                        refine pure_ (i := 11) (N := some 117) (v := ?_) (a' := ?_) #[true, true, true, true, true, true, true, false, true, true, true, true, false, false, false, false] rfl rfl (any_of HT_.out q13z1) (fun _ _ _ h => h) (Or.inl ⟨by rfl, ?_⟩) ?_ ?_; rotate_left
                                        · intro w'
                                          go_simp
                                          with_reducible rfl
                                        rotate_left
                                        · simp only [Act.put, List.setIfInBounds_toArray, List.set_cons_zero, List.set_cons_succ, i64_w, i32_w]
                                          rfl
                                        refine take_ (i := 7) (N := some 113) (v := ?_) (a' := ?_) #[true, true, true, true, true, true, true, true, true, true, true, true, false, false, false, false] rfl rfl (take_ofW HT_.out HW_.out q13z1) (fun _ _ _ h => h) (Or.inl ⟨by rfl, ?_⟩) hHeld ?_ ?_; rotate_left
                                        · rintro w' ⟨s0, s1, s2, s3, s4, s5, s6, s7⟩
                                          go_simp
                                          with_reducible rfl
                                        rotate_left
                                        · simp only [Act.put, List.setIfInBounds_toArray, List.set_cons_zero, List.set_cons_succ, i64_w, i32_w]
                                          rfl
                                        refine take_ (i := 12) (N := some 118) (v := ?_) (a' := ?_) #[true, true, true, true, true, true, true, true, true, true, true, true, true, false, false, false] rfl rfl (take_ofW HT_.out HW_.out q13z1) (fun _ _ _ h => h) (Or.inl ⟨by rfl, ?_⟩) hHeld ?_ ?_; rotate_left
                                        · rintro w' ⟨s0, s1, s2, s3, s4, s5, s6, s7⟩
                                          go_simp
                                          with_reducible rfl
                                        rotate_left
                                        · simp only [Act.put, List.setIfInBounds_toArray, List.set_cons_zero, List.set_cons_succ, i64_w, i32_w]
                                          rfl
                                        refine pure_ (i := 13) (N := some 119) (v := ?_) (a' := ?_) #[true, true, true, true, true, true, true, true, true, true, true, true, true, true, false, false] rfl rfl (any_of HT_.out q13z1) (fun _ _ _ h => h) (Or.inl ⟨by rfl, ?_⟩) ?_ ?_; rotate_left
                                        · intro w'
                                          go_simp
                                          with_reducible rfl
                                        rotate_left
                                        · simp only [Act.put, List.setIfInBounds_toArray, List.set_cons_zero, List.set_cons_succ, i64_w, i32_w]
                                          rfl
                                        refine pure_ (i := 14) (N := some 120) (v := ?_) (a' := ?_) #[true, true, true, true, true, true, true, true, true, true, true, true, true, true, true, false] rfl rfl (any_of HT_.out q13z1) (fun _ _ _ h => h) (Or.inl ⟨by rfl, ?_⟩) ?_ ?_; rotate_left
                                        · intro w'
                                          go_simp
                                          with_reducible rfl
                                        rotate_left
                                        · simp only [Act.put, List.setIfInBounds_toArray, List.set_cons_zero, List.set_cons_succ, i64_w, i32_w]
                                          rfl
                                        refine pure_ (i := 15) (N := some 4) (v := ?_) (a' := ?_) #[true, true, true, true, true, true, true, true, true, true, true, true, true, true, true, true] rfl rfl (any_of HT_.out q13z1) (fun _ _ _ h => h) (Or.inl ⟨by rfl, ?_⟩) ?_ ?_; rotate_left
                                        · intro w'
                                          go_simp
                                          with_reducible rfl
                                        rotate_left
                                        · simp only [Act.put, List.setIfInBounds_toArray, List.set_cons_zero, List.set_cons_succ, i64_w, i32_w]
                                          rfl
                                        refine done_ (done_of HT_.out q13z1) ?_
                                        try go_wp2
                                        go_ret
                                        exact ⟨by first | rfl | (simp [errW_none, errW_some] <;> rfl) | (simp [*, errW_none, errW_some] <;> rfl), by repeat (first | (with_reducible first | exact HB.out | apply below_alloc | apply pw_below_drewN | apply below_drew1) | exact HB.out)⟩
                                    · rw [if_neg c37] at H
                                      exact absurd H (by simp)
                                  · rw [if_neg c36] at H
                                    exact absurd H (by simp)
                                · rw [if_neg c35] at H
                                  exact absurd H (by simp)
                              · replace c34 := Bool.eq_false_iff.mpr c34
                                subst c34
                                have H1 : (some ((decide ((t873.length : Int) < (t876.length : Int))) == (Op.bytesLess t883.toList t885.toList))) = some r := by rw [if_neg (show ¬ (false = true) by decide)] at H; exact H
                                clear H; have H := H1; clear H1; obtain rfl := Option.some.inj H
                                go_wp2
                                go_ret
                                exact ⟨by first | rfl | (simp [errW_none, errW_some] <;> rfl) | (simp [*, errW_none, errW_some] <;> rfl), by repeat (first | (with_reducible first | exact HB.out | apply below_alloc | apply pw_below_drewN | apply below_drew1) | exact HB.out)⟩

end Go.Proofs.Ytjplogeifleojaa.QFnKeyOrder
