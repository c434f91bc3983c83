/- The functions that the law reaches, each as a plain Lean function with the proof that the Go code comes to its answers: written by a program of this session. No condition. -/
import Derived.Test.YtkfjgloalfpcmaaQFnExactNodeNewx0
import Derived.Test.YtkfjgloalfpcmaaQFnExactNodeNewx2
import Derived.Test.YtkfjgloalfpcmaaQFnExactNodeNewx3
import Derived.Test.YtkfjgloalfpcmaaQFnExactNodeNewx5
namespace Go.Proofs.Ytkfjgloalfpcmaa.QFnExactNodeNew
open Go.RowKit Go.Proofs.YtkfjgloalfpcmaaW.PrintWords Go.Proofs.YtkfjgloalfpcmaaW.PrintLast Go.Proofs.YtkfjgloalfpcmaaW.PrintMore
attribute [local go_sem] max2_int min2_int max_two min_two max_three min_three max_four min_four str_gtr str_leq str_geq pw_at_slice   -- for this text's walks alone
set_option linter.unusedVariables false
set_option linter.unusedSimpArgs false

/-! ### laws_FnExactNodeNew: function 4 -/
set_option maxRecDepth 100000 in
mutual
def laws_FnExactNodeNew.j0 : Nat → Int → Int → Int → Bool → Int → Int → Int → Int → Int → List (S54) → Int → Int → Int → Int → Int → Int → Int → Int → List Int → List Int → Int → Int → Int → Int → Int → List (S54) → Int → Int → Int → Int → Int → Int → Int → Int → List Int → List Int → Option (Bool)
  | 0, _, _, _, _, _, _, _, _, _, _, _, _, _, _, _, _, _, _, _, _, _, _, _, _, _, _, _, _, _, _, _, _, _, _, _, _ => none
  | k + 1, x0, x1, x6, x33, x670000, x670001, x670002, x670003, x670004, x670005, x670006, x670007, x670008, x670009, x670010, x670011, x670012, x670013, x670014, x670015, x694000, x694001, x694002, x694003, x694004, x694005, x694006, x694007, x694008, x694009, x694010, x694011, x694012, x694013, x694014, x694015 => if x33 = true then (some false) else ((laws_markNode.f k x694000 x694001 x694002 x694003 x694004 x694005 x694006 x694007 x694008 x694009 x694010 x694011 x694012 x694013 x694014 x694015 1).bind fun bt695 => ((laws_heldNode.f k x694000 x694001 x694002 x694003 x694004 bt695.2.1 x694006 x694007 x694008 x694009 x694010 x694011 x694012 x694013 bt695.2.2.1 bt695.2.2.2 1).bind fun t699 => (if t699 < 0 then (some false) else (if t699 = bt695.1 then ((impl_NodeNew.f x0 x1).bind fun bt700 => ((laws_eqNode.f k bt700.1 bt700.2.1 bt700.2.2.1 bt700.2.2.2.1 bt700.2.2.2.2.1 bt700.2.2.2.2.2.1 bt700.2.2.2.2.2.2.1 bt700.2.2.2.2.2.2.2.1 bt700.2.2.2.2.2.2.2.2.1 bt700.2.2.2.2.2.2.2.2.2.1 bt700.2.2.2.2.2.2.2.2.2.2.1 bt700.2.2.2.2.2.2.2.2.2.2.2.1 bt700.2.2.2.2.2.2.2.2.2.2.2.2.1 bt700.2.2.2.2.2.2.2.2.2.2.2.2.2.1 bt700.2.2.2.2.2.2.2.2.2.2.2.2.2.2.1 bt700.2.2.2.2.2.2.2.2.2.2.2.2.2.2.2.1 x670000 x670001 x670002 x670003 x670004 x670005 x670006 x670007 x670008 x670009 x670010 x670011 x670012 x670013 x670014 x670015).bind fun t724 => (if t724 = true then (laws_FnExactNodeNew.j1 k bt695.1 (bt700.2.2.2.2.2.2.2.2.2.2.2.2.2.2.2.2 != x6) x694000 x694001 x694002 x694003 x694004 bt695.2.1 x694006 x694007 x694008 x694009 x694010 x694011 x694012 x694013 bt695.2.2.1 bt695.2.2.2) else (laws_FnExactNodeNew.j1 k bt695.1 true x694000 x694001 x694002 x694003 x694004 bt695.2.1 x694006 x694007 x694008 x694009 x694010 x694011 x694012 x694013 bt695.2.2.1 bt695.2.2.2)))) else (some false)))))
def laws_FnExactNodeNew.j1 : Nat → Int → Bool → Int → Int → Int → Int → Int → List (S54) → Int → Int → Int → Int → Int → Int → Int → Int → List Int → List Int → Option (Bool)
  | 0, _, _, _, _, _, _, _, _, _, _, _, _, _, _, _, _, _, _ => none
  | k + 1, x9, x59, x694000, x694001, x694002, x694003, x694004, x694005, x694006, x694007, x694008, x694009, x694010, x694011, x694012, x694013, x694014, x694015 => if x59 = true then (some false) else ((laws_heldNode.f k x694000 x694001 x694002 x694003 x694004 x694005 x694006 x694007 x694008 x694009 x694010 x694011 x694012 x694013 x694014 x694015 1).bind fun t725 => (if t725 < 0 then (some false) else (if t725 = x9 then (some true) else (some false))))
end
def laws_FnExactNodeNew.f (k : Nat) (a0 : Int) (a1 : Int) : Option (Bool) := (spec_NodeNew.f a0 a1).bind fun bt646 => ((impl_NodeNew.f a0 a1).bind fun bt670 => ((laws_eqNode.f k bt670.1 bt670.2.1 bt670.2.2.1 bt670.2.2.2.1 bt670.2.2.2.2.1 bt670.2.2.2.2.2.1 bt670.2.2.2.2.2.2.1 bt670.2.2.2.2.2.2.2.1 bt670.2.2.2.2.2.2.2.2.1 bt670.2.2.2.2.2.2.2.2.2.1 bt670.2.2.2.2.2.2.2.2.2.2.1 bt670.2.2.2.2.2.2.2.2.2.2.2.1 bt670.2.2.2.2.2.2.2.2.2.2.2.2.1 bt670.2.2.2.2.2.2.2.2.2.2.2.2.2.1 bt670.2.2.2.2.2.2.2.2.2.2.2.2.2.2.1 bt670.2.2.2.2.2.2.2.2.2.2.2.2.2.2.2.1 bt646.1 bt646.2.1 bt646.2.2.1 bt646.2.2.2.1 bt646.2.2.2.2.1 bt646.2.2.2.2.2.1 bt646.2.2.2.2.2.2.1 bt646.2.2.2.2.2.2.2.1 bt646.2.2.2.2.2.2.2.2.1 bt646.2.2.2.2.2.2.2.2.2.1 bt646.2.2.2.2.2.2.2.2.2.2.1 bt646.2.2.2.2.2.2.2.2.2.2.2.1 bt646.2.2.2.2.2.2.2.2.2.2.2.2.1 bt646.2.2.2.2.2.2.2.2.2.2.2.2.2.1 bt646.2.2.2.2.2.2.2.2.2.2.2.2.2.2.1 bt646.2.2.2.2.2.2.2.2.2.2.2.2.2.2.2.1).bind fun t694 => (if t694 = true then (laws_FnExactNodeNew.j0 k a0 a1 bt646.2.2.2.2.2.2.2.2.2.2.2.2.2.2.2.2 (bt670.2.2.2.2.2.2.2.2.2.2.2.2.2.2.2.2 != bt646.2.2.2.2.2.2.2.2.2.2.2.2.2.2.2.2) bt646.1 bt646.2.1 bt646.2.2.1 bt646.2.2.2.1 bt646.2.2.2.2.1 bt646.2.2.2.2.2.1 bt646.2.2.2.2.2.2.1 bt646.2.2.2.2.2.2.2.1 bt646.2.2.2.2.2.2.2.2.1 bt646.2.2.2.2.2.2.2.2.2.1 bt646.2.2.2.2.2.2.2.2.2.2.1 bt646.2.2.2.2.2.2.2.2.2.2.2.1 bt646.2.2.2.2.2.2.2.2.2.2.2.2.1 bt646.2.2.2.2.2.2.2.2.2.2.2.2.2.1 bt646.2.2.2.2.2.2.2.2.2.2.2.2.2.2.1 bt646.2.2.2.2.2.2.2.2.2.2.2.2.2.2.2.1 bt670.1 bt670.2.1 bt670.2.2.1 bt670.2.2.2.1 bt670.2.2.2.2.1 bt670.2.2.2.2.2.1 bt670.2.2.2.2.2.2.1 bt670.2.2.2.2.2.2.2.1 bt670.2.2.2.2.2.2.2.2.1 bt670.2.2.2.2.2.2.2.2.2.1 bt670.2.2.2.2.2.2.2.2.2.2.1 bt670.2.2.2.2.2.2.2.2.2.2.2.1 bt670.2.2.2.2.2.2.2.2.2.2.2.2.1 bt670.2.2.2.2.2.2.2.2.2.2.2.2.2.1 bt670.2.2.2.2.2.2.2.2.2.2.2.2.2.2.1 bt670.2.2.2.2.2.2.2.2.2.2.2.2.2.2.2.1) else (laws_FnExactNodeNew.j0 k a0 a1 bt646.2.2.2.2.2.2.2.2.2.2.2.2.2.2.2.2 true bt646.1 bt646.2.1 bt646.2.2.1 bt646.2.2.2.1 bt646.2.2.2.2.1 bt646.2.2.2.2.2.1 bt646.2.2.2.2.2.2.1 bt646.2.2.2.2.2.2.2.1 bt646.2.2.2.2.2.2.2.2.1 bt646.2.2.2.2.2.2.2.2.2.1 bt646.2.2.2.2.2.2.2.2.2.2.1 bt646.2.2.2.2.2.2.2.2.2.2.2.1 bt646.2.2.2.2.2.2.2.2.2.2.2.2.1 bt646.2.2.2.2.2.2.2.2.2.2.2.2.2.1 bt646.2.2.2.2.2.2.2.2.2.2.2.2.2.2.1 bt646.2.2.2.2.2.2.2.2.2.2.2.2.2.2.2.1 bt670.1 bt670.2.1 bt670.2.2.1 bt670.2.2.2.1 bt670.2.2.2.2.1 bt670.2.2.2.2.2.1 bt670.2.2.2.2.2.2.1 bt670.2.2.2.2.2.2.2.1 bt670.2.2.2.2.2.2.2.2.1 bt670.2.2.2.2.2.2.2.2.2.1 bt670.2.2.2.2.2.2.2.2.2.2.1 bt670.2.2.2.2.2.2.2.2.2.2.2.1 bt670.2.2.2.2.2.2.2.2.2.2.2.2.1 bt670.2.2.2.2.2.2.2.2.2.2.2.2.2.1 bt670.2.2.2.2.2.2.2.2.2.2.2.2.2.2.1 bt670.2.2.2.2.2.2.2.2.2.2.2.2.2.2.2.1))))
theorem laws_FnExactNodeNew.mono_l : ∀ k, (∀ y0 y1 y2 y3 y4 y5 y6 y7 y8 y9 y10 y11 y12 y13 y14 y15 y16 y17 y18 y19 y20 y21 y22 y23 y24 y25 y26 y27 y28 y29 y30 y31 y32 y33 y34 y35, LeO (laws_FnExactNodeNew.j0 k y0 y1 y2 y3 y4 y5 y6 y7 y8 y9 y10 y11 y12 y13 y14 y15 y16 y17 y18 y19 y20 y21 y22 y23 y24 y25 y26 y27 y28 y29 y30 y31 y32 y33 y34 y35) (laws_FnExactNodeNew.j0 (k + 1) y0 y1 y2 y3 y4 y5 y6 y7 y8 y9 y10 y11 y12 y13 y14 y15 y16 y17 y18 y19 y20 y21 y22 y23 y24 y25 y26 y27 y28 y29 y30 y31 y32 y33 y34 y35)) ∧ (∀ y0 y1 y2 y3 y4 y5 y6 y7 y8 y9 y10 y11 y12 y13 y14 y15 y16 y17, LeO (laws_FnExactNodeNew.j1 k y0 y1 y2 y3 y4 y5 y6 y7 y8 y9 y10 y11 y12 y13 y14 y15 y16 y17) (laws_FnExactNodeNew.j1 (k + 1) y0 y1 y2 y3 y4 y5 y6 y7 y8 y9 y10 y11 y12 y13 y14 y15 y16 y17))
  | 0 => ⟨fun _ _ _ _ _ _ _ _ _ _ _ _ _ _ _ _ _ _ _ _ _ _ _ _ _ _ _ _ _ _ _ _ _ _ _ _ r h => by simp [laws_FnExactNodeNew.j0] at h, fun _ _ _ _ _ _ _ _ _ _ _ _ _ _ _ _ _ _ r h => by simp [laws_FnExactNodeNew.j1] at h⟩
  | k + 1 => by
    obtain ⟨ih0, ih1⟩ := laws_FnExactNodeNew.mono_l k
    refine ⟨?_, ?_⟩
    · intro y0 y1 y2 y3 y4 y5 y6 y7 y8 y9 y10 y11 y12 y13 y14 y15 y16 y17 y18 y19 y20 y21 y22 y23 y24 y25 y26 y27 y28 y29 y30 y31 y32 y33 y34 y35
      unfold laws_FnExactNodeNew.j0
      repeat' first
      | (with_reducible exact ih0 _ _ _ _ _ _ _ _ _ _ _ _ _ _ _ _ _ _ _ _ _ _ _ _ _ _ _ _ _ _ _ _ _ _ _ _)
      | (with_reducible exact ih1 _ _ _ _ _ _ _ _ _ _ _ _ _ _ _ _ _ _)
      | (with_reducible exact laws_eqNode.mono _ _ _ _ _ _ _ _ _ _ _ _ _ _ _ _ _ _ _ _ _ _ _ _ _ _ _ _ _ _ _ _ _)
      | (with_reducible exact laws_heldNode.mono _ _ _ _ _ _ _ _ _ _ _ _ _ _ _ _ _ _)
      | (with_reducible exact laws_markNode.mono _ _ _ _ _ _ _ _ _ _ _ _ _ _ _ _ _ _)
      | (with_reducible exact LeO.refl _)
      | (with_reducible exact LeO.none _)
      | (with_reducible refine LeO.ite ?_ ?_)
      | (with_reducible refine LeO.bind ?_ (fun _ => ?_))
      | exact ih0 _ _ _ _ _ _ _ _ _ _ _ _ _ _ _ _ _ _ _ _ _ _ _ _ _ _ _ _ _ _ _ _ _ _ _ _
      | exact ih1 _ _ _ _ _ _ _ _ _ _ _ _ _ _ _ _ _ _
      | exact laws_eqNode.mono _ _ _ _ _ _ _ _ _ _ _ _ _ _ _ _ _ _ _ _ _ _ _ _ _ _ _ _ _ _ _ _ _
      | exact laws_heldNode.mono _ _ _ _ _ _ _ _ _ _ _ _ _ _ _ _ _ _
      | exact laws_markNode.mono _ _ _ _ _ _ _ _ _ _ _ _ _ _ _ _ _ _
      | exact LeO.none _
      | refine LeO.ite ?_ ?_
      | refine LeO.bind ?_ (fun _ => ?_)
    · intro y0 y1 y2 y3 y4 y5 y6 y7 y8 y9 y10 y11 y12 y13 y14 y15 y16 y17
      unfold laws_FnExactNodeNew.j1
      repeat' first
      | (with_reducible exact ih0 _ _ _ _ _ _ _ _ _ _ _ _ _ _ _ _ _ _ _ _ _ _ _ _ _ _ _ _ _ _ _ _ _ _ _ _)
      | (with_reducible exact ih1 _ _ _ _ _ _ _ _ _ _ _ _ _ _ _ _ _ _)
      | (with_reducible exact laws_eqNode.mono _ _ _ _ _ _ _ _ _ _ _ _ _ _ _ _ _ _ _ _ _ _ _ _ _ _ _ _ _ _ _ _ _)
      | (with_reducible exact laws_heldNode.mono _ _ _ _ _ _ _ _ _ _ _ _ _ _ _ _ _ _)
      | (with_reducible exact laws_markNode.mono _ _ _ _ _ _ _ _ _ _ _ _ _ _ _ _ _ _)
      | (with_reducible exact LeO.refl _)
      | (with_reducible exact LeO.none _)
      | (with_reducible refine LeO.ite ?_ ?_)
      | (with_reducible refine LeO.bind ?_ (fun _ => ?_))
      | exact ih0 _ _ _ _ _ _ _ _ _ _ _ _ _ _ _ _ _ _ _ _ _ _ _ _ _ _ _ _ _ _ _ _ _ _ _ _
      | exact ih1 _ _ _ _ _ _ _ _ _ _ _ _ _ _ _ _ _ _
      | exact laws_eqNode.mono _ _ _ _ _ _ _ _ _ _ _ _ _ _ _ _ _ _ _ _ _ _ _ _ _ _ _ _ _ _ _ _ _
      | exact laws_heldNode.mono _ _ _ _ _ _ _ _ _ _ _ _ _ _ _ _ _ _
      | exact laws_markNode.mono _ _ _ _ _ _ _ _ _ _ _ _ _ _ _ _ _ _
      | exact LeO.none _
      | refine LeO.ite ?_ ?_
      | refine LeO.bind ?_ (fun _ => ?_)
theorem laws_FnExactNodeNew.mono : ∀ a0 a1 k, LeO (laws_FnExactNodeNew.f k a0 a1) (laws_FnExactNodeNew.f (k + 1) a0 a1) := by
  intro a0 a1 k
  obtain ⟨ih0, ih1⟩ := laws_FnExactNodeNew.mono_l k
  unfold laws_FnExactNodeNew.f
  repeat' first
      | (with_reducible exact ih0 _ _ _ _ _ _ _ _ _ _ _ _ _ _ _ _ _ _ _ _ _ _ _ _ _ _ _ _ _ _ _ _ _ _ _ _)
      | (with_reducible exact ih1 _ _ _ _ _ _ _ _ _ _ _ _ _ _ _ _ _ _)
      | (with_reducible exact laws_eqNode.mono _ _ _ _ _ _ _ _ _ _ _ _ _ _ _ _ _ _ _ _ _ _ _ _ _ _ _ _ _ _ _ _ _)
      | (with_reducible exact laws_heldNode.mono _ _ _ _ _ _ _ _ _ _ _ _ _ _ _ _ _ _)
      | (with_reducible exact laws_markNode.mono _ _ _ _ _ _ _ _ _ _ _ _ _ _ _ _ _ _)
      | (with_reducible exact LeO.refl _)
      | (with_reducible exact LeO.none _)
      | (with_reducible refine LeO.ite ?_ ?_)
      | (with_reducible refine LeO.bind ?_ (fun _ => ?_))
      | exact ih0 _ _ _ _ _ _ _ _ _ _ _ _ _ _ _ _ _ _ _ _ _ _ _ _ _ _ _ _ _ _ _ _ _ _ _ _
      | exact ih1 _ _ _ _ _ _ _ _ _ _ _ _ _ _ _ _ _ _
      | exact laws_eqNode.mono _ _ _ _ _ _ _ _ _ _ _ _ _ _ _ _ _ _ _ _ _ _ _ _ _ _ _ _ _ _ _ _ _
      | exact laws_heldNode.mono _ _ _ _ _ _ _ _ _ _ _ _ _ _ _ _ _ _
      | exact laws_markNode.mono _ _ _ _ _ _ _ _ _ _ _ _ _ _ _ _ _ _
      | exact LeO.none _
      | refine LeO.ite ?_ ?_
      | refine LeO.bind ?_ (fun _ => ?_)
set_option maxHeartbeats 8000000 in
set_option maxRecDepth 100000 in
theorem laws_FnExactNodeNew.calls (k : Nat) (a0 : Int) (a1 : Int) (r : Bool) (w : World) (h : laws_FnExactNodeNew.f k a0 a1 = some r) (ht_ : r = true) :
    Calls Try.prog 4 #[.int .i64 a0, .int .i64 a1] w fun e w' => e = .returned (.bool r) ∧ Below w.heap.size w w' := by
  have hu30 := Try.underlying30
  have HB := Aside0.mk (Below.refl w.heap.size w)
  have HT9_ := Aside0.mk ht_
  clear ht_
  have H : ((spec_NodeNew.f a0 a1).bind fun bt646 => ((impl_NodeNew.f a0 a1).bind fun bt670 => ((laws_eqNode.f k bt670.1 bt670.2.1 bt670.2.2.1 bt670.2.2.2.1 bt670.2.2.2.2.1 bt670.2.2.2.2.2.1 bt670.2.2.2.2.2.2.1 bt670.2.2.2.2.2.2.2.1 bt670.2.2.2.2.2.2.2.2.1 bt670.2.2.2.2.2.2.2.2.2.1 bt670.2.2.2.2.2.2.2.2.2.2.1 bt670.2.2.2.2.2.2.2.2.2.2.2.1 bt670.2.2.2.2.2.2.2.2.2.2.2.2.1 bt670.2.2.2.2.2.2.2.2.2.2.2.2.2.1 bt670.2.2.2.2.2.2.2.2.2.2.2.2.2.2.1 bt670.2.2.2.2.2.2.2.2.2.2.2.2.2.2.2.1 bt646.1 bt646.2.1 bt646.2.2.1 bt646.2.2.2.1 bt646.2.2.2.2.1 bt646.2.2.2.2.2.1 bt646.2.2.2.2.2.2.1 bt646.2.2.2.2.2.2.2.1 bt646.2.2.2.2.2.2.2.2.1 bt646.2.2.2.2.2.2.2.2.2.1 bt646.2.2.2.2.2.2.2.2.2.2.1 bt646.2.2.2.2.2.2.2.2.2.2.2.1 bt646.2.2.2.2.2.2.2.2.2.2.2.2.1 bt646.2.2.2.2.2.2.2.2.2.2.2.2.2.1 bt646.2.2.2.2.2.2.2.2.2.2.2.2.2.2.1 bt646.2.2.2.2.2.2.2.2.2.2.2.2.2.2.2.1).bind fun t694 => (if t694 = true then (laws_FnExactNodeNew.j0 k a0 a1 bt646.2.2.2.2.2.2.2.2.2.2.2.2.2.2.2.2 (bt670.2.2.2.2.2.2.2.2.2.2.2.2.2.2.2.2 != bt646.2.2.2.2.2.2.2.2.2.2.2.2.2.2.2.2) bt646.1 bt646.2.1 bt646.2.2.1 bt646.2.2.2.1 bt646.2.2.2.2.1 bt646.2.2.2.2.2.1 bt646.2.2.2.2.2.2.1 bt646.2.2.2.2.2.2.2.1 bt646.2.2.2.2.2.2.2.2.1 bt646.2.2.2.2.2.2.2.2.2.1 bt646.2.2.2.2.2.2.2.2.2.2.1 bt646.2.2.2.2.2.2.2.2.2.2.2.1 bt646.2.2.2.2.2.2.2.2.2.2.2.2.1 bt646.2.2.2.2.2.2.2.2.2.2.2.2.2.1 bt646.2.2.2.2.2.2.2.2.2.2.2.2.2.2.1 bt646.2.2.2.2.2.2.2.2.2.2.2.2.2.2.2.1 bt670.1 bt670.2.1 bt670.2.2.1 bt670.2.2.2.1 bt670.2.2.2.2.1 bt670.2.2.2.2.2.1 bt670.2.2.2.2.2.2.1 bt670.2.2.2.2.2.2.2.1 bt670.2.2.2.2.2.2.2.2.1 bt670.2.2.2.2.2.2.2.2.2.1 bt670.2.2.2.2.2.2.2.2.2.2.1 bt670.2.2.2.2.2.2.2.2.2.2.2.1 bt670.2.2.2.2.2.2.2.2.2.2.2.2.1 bt670.2.2.2.2.2.2.2.2.2.2.2.2.2.1 bt670.2.2.2.2.2.2.2.2.2.2.2.2.2.2.1 bt670.2.2.2.2.2.2.2.2.2.2.2.2.2.2.2.1) else (laws_FnExactNodeNew.j0 k a0 a1 bt646.2.2.2.2.2.2.2.2.2.2.2.2.2.2.2.2 true bt646.1 bt646.2.1 bt646.2.2.1 bt646.2.2.2.1 bt646.2.2.2.2.1 bt646.2.2.2.2.2.1 bt646.2.2.2.2.2.2.1 bt646.2.2.2.2.2.2.2.1 bt646.2.2.2.2.2.2.2.2.1 bt646.2.2.2.2.2.2.2.2.2.1 bt646.2.2.2.2.2.2.2.2.2.2.1 bt646.2.2.2.2.2.2.2.2.2.2.2.1 bt646.2.2.2.2.2.2.2.2.2.2.2.2.1 bt646.2.2.2.2.2.2.2.2.2.2.2.2.2.1 bt646.2.2.2.2.2.2.2.2.2.2.2.2.2.2.1 bt646.2.2.2.2.2.2.2.2.2.2.2.2.2.2.2.1 bt670.1 bt670.2.1 bt670.2.2.1 bt670.2.2.2.1 bt670.2.2.2.2.1 bt670.2.2.2.2.2.1 bt670.2.2.2.2.2.2.1 bt670.2.2.2.2.2.2.2.1 bt670.2.2.2.2.2.2.2.2.1 bt670.2.2.2.2.2.2.2.2.2.1 bt670.2.2.2.2.2.2.2.2.2.2.1 bt670.2.2.2.2.2.2.2.2.2.2.2.1 bt670.2.2.2.2.2.2.2.2.2.2.2.2.1 bt670.2.2.2.2.2.2.2.2.2.2.2.2.2.1 bt670.2.2.2.2.2.2.2.2.2.2.2.2.2.2.1 bt670.2.2.2.2.2.2.2.2.2.2.2.2.2.2.2.1))))) = some r := h
  clear h
  replace H := Option.bind_eq_some_iff.mp H
  obtain ⟨⟨t646, t647, t648, t649, t650, t651, t654, t655, t656, t657, t658, t659, t660, t661, t662, t665, t668⟩, A30, H⟩ := H
  replace H : ((impl_NodeNew.f a0 a1).bind fun bt670 => ((laws_eqNode.f k bt670.1 bt670.2.1 bt670.2.2.1 bt670.2.2.2.1 bt670.2.2.2.2.1 bt670.2.2.2.2.2.1 bt670.2.2.2.2.2.2.1 bt670.2.2.2.2.2.2.2.1 bt670.2.2.2.2.2.2.2.2.1 bt670.2.2.2.2.2.2.2.2.2.1 bt670.2.2.2.2.2.2.2.2.2.2.1 bt670.2.2.2.2.2.2.2.2.2.2.2.1 bt670.2.2.2.2.2.2.2.2.2.2.2.2.1 bt670.2.2.2.2.2.2.2.2.2.2.2.2.2.1 bt670.2.2.2.2.2.2.2.2.2.2.2.2.2.2.1 bt670.2.2.2.2.2.2.2.2.2.2.2.2.2.2.2.1 t646 t647 t648 t649 t650 t651 t654 t655 t656 t657 t658 t659 t660 t661 t662 t665).bind fun t694 => (if t694 = true then (laws_FnExactNodeNew.j0 k a0 a1 t668 (bt670.2.2.2.2.2.2.2.2.2.2.2.2.2.2.2.2 != t668) t646 t647 t648 t649 t650 t651 t654 t655 t656 t657 t658 t659 t660 t661 t662 t665 bt670.1 bt670.2.1 bt670.2.2.1 bt670.2.2.2.1 bt670.2.2.2.2.1 bt670.2.2.2.2.2.1 bt670.2.2.2.2.2.2.1 bt670.2.2.2.2.2.2.2.1 bt670.2.2.2.2.2.2.2.2.1 bt670.2.2.2.2.2.2.2.2.2.1 bt670.2.2.2.2.2.2.2.2.2.2.1 bt670.2.2.2.2.2.2.2.2.2.2.2.1 bt670.2.2.2.2.2.2.2.2.2.2.2.2.1 bt670.2.2.2.2.2.2.2.2.2.2.2.2.2.1 bt670.2.2.2.2.2.2.2.2.2.2.2.2.2.2.1 bt670.2.2.2.2.2.2.2.2.2.2.2.2.2.2.2.1) else (laws_FnExactNodeNew.j0 k a0 a1 t668 true t646 t647 t648 t649 t650 t651 t654 t655 t656 t657 t658 t659 t660 t661 t662 t665 bt670.1 bt670.2.1 bt670.2.2.1 bt670.2.2.2.1 bt670.2.2.2.2.1 bt670.2.2.2.2.2.1 bt670.2.2.2.2.2.2.1 bt670.2.2.2.2.2.2.2.1 bt670.2.2.2.2.2.2.2.2.1 bt670.2.2.2.2.2.2.2.2.2.1 bt670.2.2.2.2.2.2.2.2.2.2.1 bt670.2.2.2.2.2.2.2.2.2.2.2.1 bt670.2.2.2.2.2.2.2.2.2.2.2.2.1 bt670.2.2.2.2.2.2.2.2.2.2.2.2.2.1 bt670.2.2.2.2.2.2.2.2.2.2.2.2.2.2.1 bt670.2.2.2.2.2.2.2.2.2.2.2.2.2.2.2.1)))) = some r := H
  have A3 := Aside0.mk A30
  clear A30
  replace H := Option.bind_eq_some_iff.mp H
  obtain ⟨⟨t670, t671, t672, t673, t674, t675, t678, t679, t680, t681, t682, t683, t684, t685, t686, t689, t692⟩, A40, H⟩ := H
  replace H : ((laws_eqNode.f k t670 t671 t672 t673 t674 t675 t678 t679 t680 t681 t682 t683 t684 t685 t686 t689 t646 t647 t648 t649 t650 t651 t654 t655 t656 t657 t658 t659 t660 t661 t662 t665).bind fun t694 => (if t694 = true then (laws_FnExactNodeNew.j0 k a0 a1 t668 (t692 != t668) t646 t647 t648 t649 t650 t651 t654 t655 t656 t657 t658 t659 t660 t661 t662 t665 t670 t671 t672 t673 t674 t675 t678 t679 t680 t681 t682 t683 t684 t685 t686 t689) else (laws_FnExactNodeNew.j0 k a0 a1 t668 true t646 t647 t648 t649 t650 t651 t654 t655 t656 t657 t658 t659 t660 t661 t662 t665 t670 t671 t672 t673 t674 t675 t678 t679 t680 t681 t682 t683 t684 t685 t686 t689))) = some r := H
  have A4 := Aside0.mk A40
  clear A40
  have HC5 := Aside0.mk H
  clear H
  go_enter Try.func4, Try.ntmps4
  as_aux_lemma =>
  go_upto_region 3 with (first | ((with_reducible refine gate_callee (f := 14) rfl ?_); refine goesL_ (some 16) rfl rfl Try.func14 (by kernel_rfl) rfl #[.int .i64 a0, .int .i64 a1] rfl (by (try simp only [List.map_toArray, List.map_cons, List.map_nil]); first | done | rfl | (simp only [List.length_drop, List.length_take]; rfl)) ?_; (with_reducible refine (spec_NodeNew.calls a0 a1 t646 t647 t648 t649 t650 t651 t654 t655 t656 t657 t658 t659 t660 t661 t662 t665 t668 _ A3.out).mono ?_); rintro e w6 ⟨v652, v663, v666, rfl, ho0, ho1, ho2, hb⟩; refine ⟨_, rfl, ?_⟩; have n0_ := Aside0.mk (Kd.R_lower ho0 (below_size (by repeat (first | (with_reducible first | exact HB.out | apply below_alloc | apply pw_below_drewN | apply below_drew1) | exact HB.out)))); have n1_ := Aside0.mk (Kd.R_lower ho1 (below_size (by repeat (first | (with_reducible first | exact HB.out | apply below_alloc | apply pw_below_drewN | apply below_drew1) | exact HB.out)))); have n2_ := Aside0.mk (Kd.R_lower ho2 (below_size (by repeat (first | (with_reducible first | exact HB.out | apply below_alloc | apply pw_below_drewN | apply below_drew1) | exact HB.out)))); have n3_ := Aside0.mk (below_step (by repeat (first | (with_reducible first | exact HB.out | apply below_alloc | apply pw_below_drewN | apply below_drew1) | exact HB.out)) hb); clear HB; have HO653 := n0_; have HO664 := n1_; have HO667 := n2_; have HB := n3_; clear n0_ n1_ n2_ n3_; (try clear hb); (try clear hb2); (try clear hk); (try clear hi); (try clear ho0); (try clear ho1); (try clear ho2); obtain ⟨Ao7, co7, eo7⟩ := Kd.R_slice HO653.out; subst eo7; obtain ⟨Ao8, co8, eo8⟩ := Kd.R_slice HO664.out; subst eo8; obtain ⟨Ao9, co9, eo9⟩ := Kd.R_slice HO667.out; subst eo9) | ((with_reducible refine gate_dst (N := 5) rfl ?_); refine boxst_event ?hg (N := 5) ?hd ?hg2 ?hn2 ?ho2 (cs := #[.int .i64 t646, .int .i64 t647, .int .i64 t648, .int .i64 t649, .int .i64 t650, .slice Ao7 t651.length co7, .int .i64 t654, .int .i64 t655, .int .i64 t656, .int .i64 t657, .int .i64 t658, .int .i64 t659, .int .i64 t660, .int .i64 t661, .slice Ao8 t662.length co8, .slice Ao9 t665.length co9]) (zs := #[.int .i64 0, .int .i64 0, .int .i64 0, .int .i64 0, .int .i64 0, .slice none 0 0, .int .i64 0, .int .i64 0, .int .i64 0, .int .i64 0, .int .i64 0, .int .i64 0, .int .i64 0, .int .i64 0, .slice none 0 0, .slice none 0 0]) (t := 30) ?hr ?hr2 ?_; (case hd => rfl); (case hg => rfl); (case hg2 => rfl); (case hn2 => rfl); (case ho2 => exact ⟨_, rfl⟩); (case hr => first | (go_simp; done) | (go_simp; rfl)); (case hr2 => first | (go_simp; done) | (go_simp; rfl)); intro gb669 hg w10 hbox hb; have n0_ := Aside0.mk (Kd.R_below (by (with_reducible repeat (first | apply Kd.R_alloc | apply Kd.R_drewN | apply Kd.R_drew)); exact HO653.out) hb); have n1_ := Aside0.mk (Kd.R_below (by (with_reducible repeat (first | apply Kd.R_alloc | apply Kd.R_drewN | apply Kd.R_drew)); exact HO664.out) hb); have n2_ := Aside0.mk (Kd.R_below (by (with_reducible repeat (first | apply Kd.R_alloc | apply Kd.R_drewN | apply Kd.R_drew)); exact HO667.out) hb); have n3_ := Aside0.mk (below_step (by repeat (first | (with_reducible first | exact HB.out | apply below_alloc | apply pw_below_drewN | apply below_drew1) | exact HB.out)) hb); have n4_ := Aside0.mk (hbox); have n5_ := Aside0.mk ((by rw [hg]; exact (below_size (by repeat (first | (with_reducible first | exact HB.out | apply below_alloc | apply pw_below_drewN | apply below_drew1) | exact HB.out))) : w.heap.size ≤ gb669)); have n6_ := Aside0.mk ((by rw [hg]; exact (below_size (by repeat (first | (with_reducible first | exact HB.out | apply below_alloc | apply pw_below_drewN | apply below_drew1) | exact HB.out))) : w.heap.size ≤ gb669)); clear HO653; clear HO664; clear HO667; clear HB; have HO653 := n0_; have HO664 := n1_; have HO667 := n2_; have HB := n3_; have BK669 := n4_; have GW669 := n5_; have GE669 := n6_; clear n0_ n1_ n2_ n3_ n4_ n5_ n6_; clear hb hbox hg) | ((with_reducible refine gate_callee (f := 15) rfl ?_); refine goesL_ (some 22) rfl rfl Try.func15 (by kernel_rfl) rfl #[.int .i64 a0, .int .i64 a1] rfl (by (try simp only [List.map_toArray, List.map_cons, List.map_nil]); first | done | rfl | (simp only [List.length_drop, List.length_take]; rfl)) ?_; (with_reducible refine (impl_NodeNew.calls a0 a1 t670 t671 t672 t673 t674 t675 t678 t679 t680 t681 t682 t683 t684 t685 t686 t689 t692 _ A4.out).mono ?_); rintro e w11 ⟨v676, v687, v690, rfl, ho0, ho1, ho2, hb⟩; refine ⟨_, rfl, ?_⟩; have n0_ := Aside0.mk (Kd.R_elder' (by (with_reducible repeat (first | apply Kd.R_alloc | apply Kd.R_drewN | apply Kd.R_drew)); exact HO653.out) (Kd.R_base ho0) hb); have n1_ := Aside0.mk (Kd.R_mono (Kd.R_told (Kd.R_told (Kd.R_old (by (with_reducible repeat (first | apply Kd.R_alloc | apply Kd.R_drewN | apply Kd.R_drew)); exact HO664.out) hb) (Kd.R_base ho1)) (Kd.R_base ho2)) (fun _ h_ => h_.1)); have n2_ := Aside0.mk (Kd.R_mono (Kd.R_told (Kd.R_told (Kd.R_old (by (with_reducible repeat (first | apply Kd.R_alloc | apply Kd.R_drewN | apply Kd.R_drew)); exact HO667.out) hb) (Kd.R_base ho1)) (Kd.R_base ho2)) (fun _ h_ => h_.1)); have n3_ := Aside0.mk (Kd.R_lower (Kd.R_new' ho0 (Kd.R_lt (by (with_reducible repeat (first | apply Kd.R_alloc | apply Kd.R_drewN | apply Kd.R_drew)); exact HO653.out))) (below_size (by repeat (first | (with_reducible first | exact HB.out | apply below_alloc | apply pw_below_drewN | apply below_drew1 | refine below_set ?_ GE669.out) | exact HB.out)))); have n4_ := Aside0.mk (Kd.R_lower (Kd.R_new' (Kd.R_new' ho1 (Kd.R_lt (by (with_reducible repeat (first | apply Kd.R_alloc | apply Kd.R_drewN | apply Kd.R_drew)); exact HO664.out))) (Kd.R_lt (by (with_reducible repeat (first | apply Kd.R_alloc | apply Kd.R_drewN | apply Kd.R_drew)); exact HO667.out))) (below_size (by repeat (first | (with_reducible first | exact HB.out | apply below_alloc | apply pw_below_drewN | apply below_drew1 | refine below_set ?_ GE669.out) | exact HB.out)))); have n5_ := Aside0.mk (Kd.R_lower (Kd.R_new' (Kd.R_new' ho2 (Kd.R_lt (by (with_reducible repeat (first | apply Kd.R_alloc | apply Kd.R_drewN | apply Kd.R_drew)); exact HO664.out))) (Kd.R_lt (by (with_reducible repeat (first | apply Kd.R_alloc | apply Kd.R_drewN | apply Kd.R_drew)); exact HO667.out))) (below_size (by repeat (first | (with_reducible first | exact HB.out | apply below_alloc | apply pw_below_drewN | apply below_drew1 | refine below_set ?_ GE669.out) | exact HB.out)))); have n6_ := Aside0.mk (blk_below (g := gb669) (o := .cells #[.int .i64 t646, .int .i64 t647, .int .i64 t648, .int .i64 t649, .int .i64 t650, .slice Ao7 t651.length co7, .int .i64 t654, .int .i64 t655, .int .i64 t656, .int .i64 t657, .int .i64 t658, .int .i64 t659, .int .i64 t660, .int .i64 t661, .slice Ao8 t662.length co8, .slice Ao9 t665.length co9] 30 (0, 0)) (by (with_reducible repeat (first | refine blk_drewN ?_ _ | refine blk_drew ?_ | refine blk_alloc ?_ _)); exact BK669.out) hb); have n7_ := Aside0.mk (below_step (by repeat (first | (with_reducible first | exact HB.out | apply below_alloc | apply pw_below_drewN | apply below_drew1 | refine below_set ?_ GE669.out) | exact HB.out)) hb); clear HO653; clear HO664; clear HO667; clear BK669; clear HB; have HO653 := n0_; have HO664 := n1_; have HO667 := n2_; have HO677 := n3_; have HO688 := n4_; have HO691 := n5_; have BK669 := n6_; have HB := n7_; clear n0_ n1_ n2_ n3_ n4_ n5_ n6_ n7_; (try clear hb); (try clear hb2); (try clear hk); (try clear hi); (try clear ho0); (try clear ho1); (try clear ho2); obtain ⟨Ao12, co12, eo12⟩ := Kd.R_slice HO677.out; subst eo12; obtain ⟨Ao13, co13, eo13⟩ := Kd.R_slice HO688.out; subst eo13; obtain ⟨Ao14, co14, eo14⟩ := Kd.R_slice HO691.out; subst eo14) | ((with_reducible refine gate_dst (N := 7) rfl ?_); refine boxst_event ?hg (N := 7) ?hd ?hg2 ?hn2 ?ho2 (cs := #[.int .i64 t670, .int .i64 t671, .int .i64 t672, .int .i64 t673, .int .i64 t674, .slice Ao12 t675.length co12, .int .i64 t678, .int .i64 t679, .int .i64 t680, .int .i64 t681, .int .i64 t682, .int .i64 t683, .int .i64 t684, .int .i64 t685, .slice Ao13 t686.length co13, .slice Ao14 t689.length co14]) (zs := #[.int .i64 0, .int .i64 0, .int .i64 0, .int .i64 0, .int .i64 0, .slice none 0 0, .int .i64 0, .int .i64 0, .int .i64 0, .int .i64 0, .int .i64 0, .int .i64 0, .int .i64 0, .int .i64 0, .slice none 0 0, .slice none 0 0]) (t := 30) ?hr ?hr2 ?_; (case hd => rfl); (case hg => rfl); (case hg2 => rfl); (case hn2 => rfl); (case ho2 => exact ⟨_, rfl⟩); (case hr => first | (go_simp; done) | (go_simp; rfl)); (case hr2 => first | (go_simp; done) | (go_simp; rfl)); intro gb693 hg w15 hbox hb; have n0_ := Aside0.mk (Kd.R_below (by (with_reducible repeat (first | apply Kd.R_alloc | apply Kd.R_drewN | apply Kd.R_drew)); exact HO653.out) hb); have n1_ := Aside0.mk (Kd.R_below (by (with_reducible repeat (first | apply Kd.R_alloc | apply Kd.R_drewN | apply Kd.R_drew)); exact HO664.out) hb); have n2_ := Aside0.mk (Kd.R_below (by (with_reducible repeat (first | apply Kd.R_alloc | apply Kd.R_drewN | apply Kd.R_drew)); exact HO667.out) hb); have n3_ := Aside0.mk (Kd.R_below (by (with_reducible repeat (first | apply Kd.R_alloc | apply Kd.R_drewN | apply Kd.R_drew)); exact HO677.out) hb); have n4_ := Aside0.mk (Kd.R_below (by (with_reducible repeat (first | apply Kd.R_alloc | apply Kd.R_drewN | apply Kd.R_drew)); exact HO688.out) hb); have n5_ := Aside0.mk (Kd.R_below (by (with_reducible repeat (first | apply Kd.R_alloc | apply Kd.R_drewN | apply Kd.R_drew)); exact HO691.out) hb); have n6_ := Aside0.mk (blk_below (g := gb669) (o := .cells #[.int .i64 t646, .int .i64 t647, .int .i64 t648, .int .i64 t649, .int .i64 t650, .slice Ao7 t651.length co7, .int .i64 t654, .int .i64 t655, .int .i64 t656, .int .i64 t657, .int .i64 t658, .int .i64 t659, .int .i64 t660, .int .i64 t661, .slice Ao8 t662.length co8, .slice Ao9 t665.length co9] 30 (0, 0)) (by (with_reducible repeat (first | refine blk_drewN ?_ _ | refine blk_drew ?_ | refine blk_alloc ?_ _)); exact BK669.out) hb); have n7_ := Aside0.mk (below_step (by repeat (first | (with_reducible first | exact HB.out | apply below_alloc | apply pw_below_drewN | apply below_drew1 | refine below_set ?_ GE669.out) | exact HB.out)) hb); have n8_ := Aside0.mk (hbox); have n9_ := Aside0.mk ((by rw [hg]; exact (below_size (by repeat (first | (with_reducible first | exact HB.out | apply below_alloc | apply pw_below_drewN | apply below_drew1 | refine below_set ?_ GE669.out) | exact HB.out))) : w.heap.size ≤ gb693)); have n10_ := Aside0.mk ((by rw [hg]; exact (below_size (by repeat (first | (with_reducible first | exact HB.out | apply below_alloc | apply pw_below_drewN | apply below_drew1 | refine below_set ?_ GE669.out) | exact HB.out))) : w.heap.size ≤ gb693)); have n11_ := Aside0.mk ((by rw [hg]; exact Nat.ne_of_lt (blk_lt (g := gb669) (o := .cells #[.int .i64 t646, .int .i64 t647, .int .i64 t648, .int .i64 t649, .int .i64 t650, .slice Ao7 t651.length co7, .int .i64 t654, .int .i64 t655, .int .i64 t656, .int .i64 t657, .int .i64 t658, .int .i64 t659, .int .i64 t660, .int .i64 t661, .slice Ao8 t662.length co8, .slice Ao9 t665.length co9] 30 (0, 0)) (by (with_reducible repeat (first | refine blk_drewN ?_ _ | refine blk_drew ?_ | refine blk_alloc ?_ _)); exact BK669.out)) : gb669 ≠ gb693)); have n12_ := Aside0.mk ((by rw [hg]; exact Nat.ne_of_gt (blk_lt (g := gb669) (o := .cells #[.int .i64 t646, .int .i64 t647, .int .i64 t648, .int .i64 t649, .int .i64 t650, .slice Ao7 t651.length co7, .int .i64 t654, .int .i64 t655, .int .i64 t656, .int .i64 t657, .int .i64 t658, .int .i64 t659, .int .i64 t660, .int .i64 t661, .slice Ao8 t662.length co8, .slice Ao9 t665.length co9] 30 (0, 0)) (by (with_reducible repeat (first | refine blk_drewN ?_ _ | refine blk_drew ?_ | refine blk_alloc ?_ _)); exact BK669.out)) : gb693 ≠ gb669)); clear HO653; clear HO664; clear HO667; clear HO677; clear HO688; clear HO691; clear BK669; clear HB; have HO653 := n0_; have HO664 := n1_; have HO667 := n2_; have HO677 := n3_; have HO688 := n4_; have HO691 := n5_; have BK669 := n6_; have HB := n7_; have BK693 := n8_; have GW693 := n9_; have GE693 := n10_; have NB669_693 := n11_; have NB693_669 := n12_; clear n0_ n1_ n2_ n3_ n4_ n5_ n6_ n7_ n8_ n9_ n10_ n11_ n12_; clear hb hbox hg))
  (try simp only [Act.put, List.setIfInBounds_toArray, List.set_cons_zero, List.set_cons_succ])
  go_cut [33] (fun v33 wc => ∃ (kq : Nat) (x33_4 : Bool), v33 = .bool x33_4 ∧ Aside0 (laws_FnExactNodeNew.j0 kq a0 a1 t668 x33_4 t646 t647 t648 t649 t650 t651 t654 t655 t656 t657 t658 t659 t660 t661 t662 t665 t670 t671 t672 t673 t674 t675 t678 t679 t680 t681 t682 t683 t684 t685 t686 t689 = some r) ∧ Aside0 (kq ≤ k) ∧ Aside0 (Kd.R k54 54 wc w.heap.size (fun k_ => some k_ ≠ ((.slice Ao12 t675.length co12) : Value).ownBlock) (.slice Ao7 t651.length co7) t651) ∧ Aside0 (Kd.R (Kd.int .i64) 3 wc w.heap.size (fun k_ => some k_ ≠ ((.slice Ao9 t665.length co9) : Value).ownBlock ∧ some k_ ≠ ((.slice Ao13 t686.length co13) : Value).ownBlock ∧ some k_ ≠ ((.slice Ao14 t689.length co14) : Value).ownBlock) (.slice Ao8 t662.length co8) t662) ∧ Aside0 (Kd.R (Kd.int .i64) 3 wc w.heap.size (fun k_ => some k_ ≠ ((.slice Ao8 t662.length co8) : Value).ownBlock ∧ some k_ ≠ ((.slice Ao13 t686.length co13) : Value).ownBlock ∧ some k_ ≠ ((.slice Ao14 t689.length co14) : Value).ownBlock) (.slice Ao9 t665.length co9) t665) ∧ Aside0 (Kd.R k54 54 wc w.heap.size (fun k_ => some k_ ≠ ((.slice Ao7 t651.length co7) : Value).ownBlock) (.slice Ao12 t675.length co12) t675) ∧ Aside0 (Kd.R (Kd.int .i64) 3 wc w.heap.size (fun k_ => some k_ ≠ ((.slice Ao8 t662.length co8) : Value).ownBlock ∧ some k_ ≠ ((.slice Ao9 t665.length co9) : Value).ownBlock ∧ some k_ ≠ ((.slice Ao14 t689.length co14) : Value).ownBlock) (.slice Ao13 t686.length co13) t686) ∧ Aside0 (Kd.R (Kd.int .i64) 3 wc w.heap.size (fun k_ => some k_ ≠ ((.slice Ao8 t662.length co8) : Value).ownBlock ∧ some k_ ≠ ((.slice Ao9 t665.length co9) : Value).ownBlock ∧ some k_ ≠ ((.slice Ao13 t686.length co13) : Value).ownBlock) (.slice Ao14 t689.length co14) t689) ∧ Aside0 (wc.heap[gb669]? = some (.cells #[.int .i64 t646, .int .i64 t647, .int .i64 t648, .int .i64 t649, .int .i64 t650, (.slice Ao7 t651.length co7), .int .i64 t654, .int .i64 t655, .int .i64 t656, .int .i64 t657, .int .i64 t658, .int .i64 t659, .int .i64 t660, .int .i64 t661, (.slice Ao8 t662.length co8), (.slice Ao9 t665.length co9)] 30 (0, 0))) ∧ Aside0 (wc.heap[gb693]? = some (.cells #[.int .i64 t670, .int .i64 t671, .int .i64 t672, .int .i64 t673, .int .i64 t674, (.slice Ao12 t675.length co12), .int .i64 t678, .int .i64 t679, .int .i64 t680, .int .i64 t681, .int .i64 t682, .int .i64 t683, .int .i64 t684, .int .i64 t685, (.slice Ao13 t686.length co13), (.slice Ao14 t689.length co14)] 30 (0, 0))) ∧ Aside0 (Below w.heap.size w wc))
  case first =>
    have H := HC5.out
    clear HC5
    replace H := Option.bind_eq_some_iff.mp H
    obtain ⟨t694, A160, H⟩ := H
    replace H : (if t694 = true then (laws_FnExactNodeNew.j0 k a0 a1 t668 (t692 != t668) t646 t647 t648 t649 t650 t651 t654 t655 t656 t657 t658 t659 t660 t661 t662 t665 t670 t671 t672 t673 t674 t675 t678 t679 t680 t681 t682 t683 t684 t685 t686 t689) else (laws_FnExactNodeNew.j0 k a0 a1 t668 true t646 t647 t648 t649 t650 t651 t654 t655 t656 t657 t658 t659 t660 t661 t662 t665 t670 t671 t672 t673 t674 t675 t678 t679 t680 t681 t682 t683 t684 t685 t686 t689)) = some r := H
    have A16 := Aside0.mk A160
    clear A160
    by_cases c17 : t694 = true
    · subst c17
      have H1 : (laws_FnExactNodeNew.j0 k a0 a1 t668 (t692 != t668) t646 t647 t648 t649 t650 t651 t654 t655 t656 t657 t658 t659 t660 t661 t662 t665 t670 t671 t672 t673 t674 t675 t678 t679 t680 t681 t682 t683 t684 t685 t686 t689) = some r := by rw [if_pos rfl] at H; exact H
      clear H
      have H := H1
      clear H1
      have H' := Aside0.mk H
      clear H
      have hnb18 := NB693_669.out
      have hnc18 := NB669_693.out
      have hcz19_0 : w15.cell? ⟨gb693, 0, none⟩ = some (.int .i64 t670) := (blk_cell BK693.out 0).trans rfl
      have hcz19_1 : w15.cell? ⟨gb693, 1, none⟩ = some (.int .i64 t671) := (blk_cell BK693.out 1).trans rfl
      have hcz19_2 : w15.cell? ⟨gb693, 2, none⟩ = some (.int .i64 t672) := (blk_cell BK693.out 2).trans rfl
      have hcz19_3 : w15.cell? ⟨gb693, 3, none⟩ = some (.int .i64 t673) := (blk_cell BK693.out 3).trans rfl
      have hcz19_4 : w15.cell? ⟨gb693, 4, none⟩ = some (.int .i64 t674) := (blk_cell BK693.out 4).trans rfl
      have hcz19_5 : w15.cell? ⟨gb693, 5, none⟩ = some (.slice Ao12 t675.length co12) := (blk_cell BK693.out 5).trans rfl
      have hcz19_6 : w15.cell? ⟨gb693, 6, none⟩ = some (.int .i64 t678) := (blk_cell BK693.out 6).trans rfl
      have hcz19_7 : w15.cell? ⟨gb693, 7, none⟩ = some (.int .i64 t679) := (blk_cell BK693.out 7).trans rfl
      have hcz19_8 : w15.cell? ⟨gb693, 8, none⟩ = some (.int .i64 t680) := (blk_cell BK693.out 8).trans rfl
      have hcz19_9 : w15.cell? ⟨gb693, 9, none⟩ = some (.int .i64 t681) := (blk_cell BK693.out 9).trans rfl
      have hcz19_10 : w15.cell? ⟨gb693, 10, none⟩ = some (.int .i64 t682) := (blk_cell BK693.out 10).trans rfl
      have hcz19_11 : w15.cell? ⟨gb693, 11, none⟩ = some (.int .i64 t683) := (blk_cell BK693.out 11).trans rfl
      have hcz19_12 : w15.cell? ⟨gb693, 12, none⟩ = some (.int .i64 t684) := (blk_cell BK693.out 12).trans rfl
      have hcz19_13 : w15.cell? ⟨gb693, 13, none⟩ = some (.int .i64 t685) := (blk_cell BK693.out 13).trans rfl
      have hcz19_14 : w15.cell? ⟨gb693, 14, none⟩ = some (.slice Ao13 t686.length co13) := (blk_cell BK693.out 14).trans rfl
      have hcz19_15 : w15.cell? ⟨gb693, 15, none⟩ = some (.slice Ao14 t689.length co14) := (blk_cell BK693.out 15).trans rfl
      have hfz19_0 := blk_frozen BK693.out 0
      have hfz19_1 := blk_frozen BK693.out 1
      have hfz19_2 := blk_frozen BK693.out 2
      have hfz19_3 := blk_frozen BK693.out 3
      have hfz19_4 := blk_frozen BK693.out 4
      have hfz19_5 := blk_frozen BK693.out 5
      have hfz19_6 := blk_frozen BK693.out 6
      have hfz19_7 := blk_frozen BK693.out 7
      have hfz19_8 := blk_frozen BK693.out 8
      have hfz19_9 := blk_frozen BK693.out 9
      have hfz19_10 := blk_frozen BK693.out 10
      have hfz19_11 := blk_frozen BK693.out 11
      have hfz19_12 := blk_frozen BK693.out 12
      have hfz19_13 := blk_frozen BK693.out 13
      have hfz19_14 := blk_frozen BK693.out 14
      have hfz19_15 := blk_frozen BK693.out 15
      have hcz20_0 : w15.cell? ⟨gb669, 0, none⟩ = some (.int .i64 t646) := (blk_cell BK669.out 0).trans rfl
      have hcz20_1 : w15.cell? ⟨gb669, 1, none⟩ = some (.int .i64 t647) := (blk_cell BK669.out 1).trans rfl
      have hcz20_2 : w15.cell? ⟨gb669, 2, none⟩ = some (.int .i64 t648) := (blk_cell BK669.out 2).trans rfl
      have hcz20_3 : w15.cell? ⟨gb669, 3, none⟩ = some (.int .i64 t649) := (blk_cell BK669.out 3).trans rfl
      have hcz20_4 : w15.cell? ⟨gb669, 4, none⟩ = some (.int .i64 t650) := (blk_cell BK669.out 4).trans rfl
      have hcz20_5 : w15.cell? ⟨gb669, 5, none⟩ = some (.slice Ao7 t651.length co7) := (blk_cell BK669.out 5).trans rfl
      have hcz20_6 : w15.cell? ⟨gb669, 6, none⟩ = some (.int .i64 t654) := (blk_cell BK669.out 6).trans rfl
      have hcz20_7 : w15.cell? ⟨gb669, 7, none⟩ = some (.int .i64 t655) := (blk_cell BK669.out 7).trans rfl
      have hcz20_8 : w15.cell? ⟨gb669, 8, none⟩ = some (.int .i64 t656) := (blk_cell BK669.out 8).trans rfl
      have hcz20_9 : w15.cell? ⟨gb669, 9, none⟩ = some (.int .i64 t657) := (blk_cell BK669.out 9).trans rfl
      have hcz20_10 : w15.cell? ⟨gb669, 10, none⟩ = some (.int .i64 t658) := (blk_cell BK669.out 10).trans rfl
      have hcz20_11 : w15.cell? ⟨gb669, 11, none⟩ = some (.int .i64 t659) := (blk_cell BK669.out 11).trans rfl
      have hcz20_12 : w15.cell? ⟨gb669, 12, none⟩ = some (.int .i64 t660) := (blk_cell BK669.out 12).trans rfl
      have hcz20_13 : w15.cell? ⟨gb669, 13, none⟩ = some (.int .i64 t661) := (blk_cell BK669.out 13).trans rfl
      have hcz20_14 : w15.cell? ⟨gb669, 14, none⟩ = some (.slice Ao8 t662.length co8) := (blk_cell BK669.out 14).trans rfl
      have hcz20_15 : w15.cell? ⟨gb669, 15, none⟩ = some (.slice Ao9 t665.length co9) := (blk_cell BK669.out 15).trans rfl
      have hfz20_0 := blk_frozen BK669.out 0
      have hfz20_1 := blk_frozen BK669.out 1
      have hfz20_2 := blk_frozen BK669.out 2
      have hfz20_3 := blk_frozen BK669.out 3
      have hfz20_4 := blk_frozen BK669.out 4
      have hfz20_5 := blk_frozen BK669.out 5
      have hfz20_6 := blk_frozen BK669.out 6
      have hfz20_7 := blk_frozen BK669.out 7
      have hfz20_8 := blk_frozen BK669.out 8
      have hfz20_9 := blk_frozen BK669.out 9
      have hfz20_10 := blk_frozen BK669.out 10
      have hfz20_11 := blk_frozen BK669.out 11
      have hfz20_12 := blk_frozen BK669.out 12
      have hfz20_13 := blk_frozen BK669.out 13
      have hfz20_14 := blk_frozen BK669.out 14
      have hfz20_15 := blk_frozen BK669.out 15
      as_aux_lemma =>
      go_wp2_with (first | ((with_reducible refine gate_callee (f := 13) rfl ?_); refine goesL_ (some 27) rfl rfl Try.func13 (by kernel_rfl) rfl #[.agg #[.int .i64 t670, .int .i64 t671, .int .i64 t672, .int .i64 t673, .int .i64 t674, .slice Ao12 t675.length co12, .int .i64 t678, .int .i64 t679, .int .i64 t680, .int .i64 t681, .int .i64 t682, .int .i64 t683, .int .i64 t684, .int .i64 t685, .slice Ao13 t686.length co13, .slice Ao14 t689.length co14], .agg #[.int .i64 t646, .int .i64 t647, .int .i64 t648, .int .i64 t649, .int .i64 t650, .slice Ao7 t651.length co7, .int .i64 t654, .int .i64 t655, .int .i64 t656, .int .i64 t657, .int .i64 t658, .int .i64 t659, .int .i64 t660, .int .i64 t661, .slice Ao8 t662.length co8, .slice Ao9 t665.length co9]] rfl (by (try simp only [List.map_toArray, List.map_cons, List.map_nil]); first | done | rfl | (simp only [List.length_drop, List.length_take]; rfl)) ?_; (with_reducible refine (laws_eqNode.calls k t670 t671 t672 t673 t674 _ _ t675 t678 t679 t680 t681 t682 t683 t684 t685 _ _ t686 _ _ t689 t646 t647 t648 t649 t650 _ _ t651 t654 t655 t656 t657 t658 t659 t660 t661 _ _ t662 _ _ t665 true _ ?side1 ?side2 ?side3 ?side4 ?side5 ?side6 ?side7 ?side8 ?side9 ?side10 ?side11 ?side12 A16.out).mono ?_); (case side1 => repeat (first | exact (Kd.R_reads' HO677.out).2.2 | (with_reducible refine Kd.C_alloc ?_ _) | (with_reducible refine Kd.C_drewN ?_ _) | (with_reducible refine Kd.C_drew ?_))); (case side2 => exact (Kd.R_reads' HO677.out).2.1); (case side3 => repeat (first | exact (Kd.R_reads' HO688.out).2.2 | (with_reducible refine Kd.C_alloc ?_ _) | (with_reducible refine Kd.C_drewN ?_ _) | (with_reducible refine Kd.C_drew ?_))); (case side4 => exact (Kd.R_reads' HO688.out).2.1); (case side5 => repeat (first | exact (Kd.R_reads' HO691.out).2.2 | (with_reducible refine Kd.C_alloc ?_ _) | (with_reducible refine Kd.C_drewN ?_ _) | (with_reducible refine Kd.C_drew ?_))); (case side6 => exact (Kd.R_reads' HO691.out).2.1); (case side7 => repeat (first | exact (Kd.R_reads' HO653.out).2.2 | (with_reducible refine Kd.C_alloc ?_ _) | (with_reducible refine Kd.C_drewN ?_ _) | (with_reducible refine Kd.C_drew ?_))); (case side8 => exact (Kd.R_reads' HO653.out).2.1); (case side9 => repeat (first | exact (Kd.R_reads' HO664.out).2.2 | (with_reducible refine Kd.C_alloc ?_ _) | (with_reducible refine Kd.C_drewN ?_ _) | (with_reducible refine Kd.C_drew ?_))); (case side10 => exact (Kd.R_reads' HO664.out).2.1); (case side11 => repeat (first | exact (Kd.R_reads' HO667.out).2.2 | (with_reducible refine Kd.C_alloc ?_ _) | (with_reducible refine Kd.C_drewN ?_ _) | (with_reducible refine Kd.C_drew ?_))); (case side12 => exact (Kd.R_reads' HO667.out).2.1); rintro e w21 ⟨rfl, hb⟩; refine ⟨_, rfl, ?_⟩; have n0_ := Aside0.mk (Kd.R_below (by (with_reducible repeat (first | apply Kd.R_alloc | apply Kd.R_drewN | apply Kd.R_drew)); exact HO653.out) hb); have n1_ := Aside0.mk (Kd.R_below (by (with_reducible repeat (first | apply Kd.R_alloc | apply Kd.R_drewN | apply Kd.R_drew)); exact HO664.out) hb); have n2_ := Aside0.mk (Kd.R_below (by (with_reducible repeat (first | apply Kd.R_alloc | apply Kd.R_drewN | apply Kd.R_drew)); exact HO667.out) hb); have n3_ := Aside0.mk (Kd.R_below (by (with_reducible repeat (first | apply Kd.R_alloc | apply Kd.R_drewN | apply Kd.R_drew)); exact HO677.out) hb); have n4_ := Aside0.mk (Kd.R_below (by (with_reducible repeat (first | apply Kd.R_alloc | apply Kd.R_drewN | apply Kd.R_drew)); exact HO688.out) hb); have n5_ := Aside0.mk (Kd.R_below (by (with_reducible repeat (first | apply Kd.R_alloc | apply Kd.R_drewN | apply Kd.R_drew)); exact HO691.out) hb); have n6_ := Aside0.mk (blk_below (g := gb669) (o := .cells #[.int .i64 t646, .int .i64 t647, .int .i64 t648, .int .i64 t649, .int .i64 t650, .slice Ao7 t651.length co7, .int .i64 t654, .int .i64 t655, .int .i64 t656, .int .i64 t657, .int .i64 t658, .int .i64 t659, .int .i64 t660, .int .i64 t661, .slice Ao8 t662.length co8, .slice Ao9 t665.length co9] 30 (0, 0)) (by (with_reducible repeat (first | refine blk_drewN ?_ _ | refine blk_drew ?_ | refine blk_alloc ?_ _)); exact BK669.out) hb); have n7_ := Aside0.mk (blk_below (g := gb693) (o := .cells #[.int .i64 t670, .int .i64 t671, .int .i64 t672, .int .i64 t673, .int .i64 t674, .slice Ao12 t675.length co12, .int .i64 t678, .int .i64 t679, .int .i64 t680, .int .i64 t681, .int .i64 t682, .int .i64 t683, .int .i64 t684, .int .i64 t685, .slice Ao13 t686.length co13, .slice Ao14 t689.length co14] 30 (0, 0)) (by (with_reducible repeat (first | refine blk_drewN ?_ _ | refine blk_drew ?_ | refine blk_alloc ?_ _)); exact BK693.out) hb); have n8_ := Aside0.mk (below_step (by repeat (first | (with_reducible first | exact HB.out | apply below_alloc | apply pw_below_drewN | apply below_drew1 | refine below_set ?_ GE669.out | refine below_set ?_ GE693.out) | exact HB.out)) hb); clear HO653; clear HO664; clear HO667; clear HO677; clear HO688; clear HO691; clear BK669; clear BK693; clear HB; have HO653 := n0_; have HO664 := n1_; have HO667 := n2_; have HO677 := n3_; have HO688 := n4_; have HO691 := n5_; have BK669 := n6_; have BK693 := n7_; have HB := n8_; clear n0_ n1_ n2_ n3_ n4_ n5_ n6_ n7_ n8_; (try clear hb); (try clear hb2); (try clear hk); (try clear hi)))
      go_meet
      case rel => exact ⟨_, ((t692 != t668)), (by first | rfl | (simp; done) | (simp [*]; done)), H', ⟨by first | omega | exact Nat.le_refl _⟩, ⟨by (with_reducible repeat (first | apply Kd.R_alloc | apply Kd.R_drewN | apply Kd.R_drew)); exact Kd.R_mono HO653.out (fun _ hk => hk.2)⟩, ⟨by (with_reducible repeat (first | apply Kd.R_alloc | apply Kd.R_drewN | apply Kd.R_drew)); exact Kd.R_mono HO664.out (fun _ hk => ⟨hk.1.1, ⟨hk.1.2, hk.2⟩⟩)⟩, ⟨by (with_reducible repeat (first | apply Kd.R_alloc | apply Kd.R_drewN | apply Kd.R_drew)); exact Kd.R_mono HO667.out (fun _ hk => ⟨hk.1.1, ⟨hk.1.2, hk.2⟩⟩)⟩, ⟨by (with_reducible repeat (first | apply Kd.R_alloc | apply Kd.R_drewN | apply Kd.R_drew)); exact Kd.R_mono HO677.out (fun _ hk => hk.2)⟩, ⟨by (with_reducible repeat (first | apply Kd.R_alloc | apply Kd.R_drewN | apply Kd.R_drew)); exact Kd.R_mono HO688.out (fun _ hk => ⟨hk.1.2, ⟨hk.2, hk.1.1⟩⟩)⟩, ⟨by (with_reducible repeat (first | apply Kd.R_alloc | apply Kd.R_drewN | apply Kd.R_drew)); exact Kd.R_mono HO691.out (fun _ hk => ⟨hk.1.2, ⟨hk.2, hk.1.1⟩⟩)⟩, ⟨by (with_reducible repeat (first | refine blk_drewN ?_ _ | refine blk_drew ?_ | refine blk_alloc ?_ _)); exact BK669.out⟩, ⟨by (with_reducible repeat (first | refine blk_drewN ?_ _ | refine blk_drew ?_ | refine blk_alloc ?_ _)); exact BK693.out⟩, ⟨by repeat (first | (with_reducible first | exact HB.out | apply below_alloc | apply pw_below_drewN | apply below_drew1 | refine below_set ?_ GE669.out | refine below_set ?_ GE693.out) | exact HB.out)⟩⟩
    · replace c17 := Bool.eq_false_iff.mpr c17
      subst c17
      have H1 : (laws_FnExactNodeNew.j0 k a0 a1 t668 true t646 t647 t648 t649 t650 t651 t654 t655 t656 t657 t658 t659 t660 t661 t662 t665 t670 t671 t672 t673 t674 t675 t678 t679 t680 t681 t682 t683 t684 t685 t686 t689) = some r := by rw [if_neg (show ¬ (false = true) by decide)] at H; exact H
      clear H
      have H := H1
      clear H1
      have H' := Aside0.mk H
      clear H
      have hnb22 := NB693_669.out
      have hnc22 := NB669_693.out
      have hcz23_0 : w15.cell? ⟨gb693, 0, none⟩ = some (.int .i64 t670) := (blk_cell BK693.out 0).trans rfl
      have hcz23_1 : w15.cell? ⟨gb693, 1, none⟩ = some (.int .i64 t671) := (blk_cell BK693.out 1).trans rfl
      have hcz23_2 : w15.cell? ⟨gb693, 2, none⟩ = some (.int .i64 t672) := (blk_cell BK693.out 2).trans rfl
      have hcz23_3 : w15.cell? ⟨gb693, 3, none⟩ = some (.int .i64 t673) := (blk_cell BK693.out 3).trans rfl
      have hcz23_4 : w15.cell? ⟨gb693, 4, none⟩ = some (.int .i64 t674) := (blk_cell BK693.out 4).trans rfl
      have hcz23_5 : w15.cell? ⟨gb693, 5, none⟩ = some (.slice Ao12 t675.length co12) := (blk_cell BK693.out 5).trans rfl
      have hcz23_6 : w15.cell? ⟨gb693, 6, none⟩ = some (.int .i64 t678) := (blk_cell BK693.out 6).trans rfl
      have hcz23_7 : w15.cell? ⟨gb693, 7, none⟩ = some (.int .i64 t679) := (blk_cell BK693.out 7).trans rfl
      have hcz23_8 : w15.cell? ⟨gb693, 8, none⟩ = some (.int .i64 t680) := (blk_cell BK693.out 8).trans rfl
      have hcz23_9 : w15.cell? ⟨gb693, 9, none⟩ = some (.int .i64 t681) := (blk_cell BK693.out 9).trans rfl
      have hcz23_10 : w15.cell? ⟨gb693, 10, none⟩ = some (.int .i64 t682) := (blk_cell BK693.out 10).trans rfl
      have hcz23_11 : w15.cell? ⟨gb693, 11, none⟩ = some (.int .i64 t683) := (blk_cell BK693.out 11).trans rfl
      have hcz23_12 : w15.cell? ⟨gb693, 12, none⟩ = some (.int .i64 t684) := (blk_cell BK693.out 12).trans rfl
      have hcz23_13 : w15.cell? ⟨gb693, 13, none⟩ = some (.int .i64 t685) := (blk_cell BK693.out 13).trans rfl
      have hcz23_14 : w15.cell? ⟨gb693, 14, none⟩ = some (.slice Ao13 t686.length co13) := (blk_cell BK693.out 14).trans rfl
      have hcz23_15 : w15.cell? ⟨gb693, 15, none⟩ = some (.slice Ao14 t689.length co14) := (blk_cell BK693.out 15).trans rfl
      have hfz23_0 := blk_frozen BK693.out 0
      have hfz23_1 := blk_frozen BK693.out 1
      have hfz23_2 := blk_frozen BK693.out 2
      have hfz23_3 := blk_frozen BK693.out 3
      have hfz23_4 := blk_frozen BK693.out 4
      have hfz23_5 := blk_frozen BK693.out 5
      have hfz23_6 := blk_frozen BK693.out 6
      have hfz23_7 := blk_frozen BK693.out 7
      have hfz23_8 := blk_frozen BK693.out 8
      have hfz23_9 := blk_frozen BK693.out 9
      have hfz23_10 := blk_frozen BK693.out 10
      have hfz23_11 := blk_frozen BK693.out 11
      have hfz23_12 := blk_frozen BK693.out 12
      have hfz23_13 := blk_frozen BK693.out 13
      have hfz23_14 := blk_frozen BK693.out 14
      have hfz23_15 := blk_frozen BK693.out 15
      have hcz24_0 : w15.cell? ⟨gb669, 0, none⟩ = some (.int .i64 t646) := (blk_cell BK669.out 0).trans rfl
      have hcz24_1 : w15.cell? ⟨gb669, 1, none⟩ = some (.int .i64 t647) := (blk_cell BK669.out 1).trans rfl
      have hcz24_2 : w15.cell? ⟨gb669, 2, none⟩ = some (.int .i64 t648) := (blk_cell BK669.out 2).trans rfl
      have hcz24_3 : w15.cell? ⟨gb669, 3, none⟩ = some (.int .i64 t649) := (blk_cell BK669.out 3).trans rfl
      have hcz24_4 : w15.cell? ⟨gb669, 4, none⟩ = some (.int .i64 t650) := (blk_cell BK669.out 4).trans rfl
      have hcz24_5 : w15.cell? ⟨gb669, 5, none⟩ = some (.slice Ao7 t651.length co7) := (blk_cell BK669.out 5).trans rfl
      have hcz24_6 : w15.cell? ⟨gb669, 6, none⟩ = some (.int .i64 t654) := (blk_cell BK669.out 6).trans rfl
      have hcz24_7 : w15.cell? ⟨gb669, 7, none⟩ = some (.int .i64 t655) := (blk_cell BK669.out 7).trans rfl
      have hcz24_8 : w15.cell? ⟨gb669, 8, none⟩ = some (.int .i64 t656) := (blk_cell BK669.out 8).trans rfl
      have hcz24_9 : w15.cell? ⟨gb669, 9, none⟩ = some (.int .i64 t657) := (blk_cell BK669.out 9).trans rfl
      have hcz24_10 : w15.cell? ⟨gb669, 10, none⟩ = some (.int .i64 t658) := (blk_cell BK669.out 10).trans rfl
      have hcz24_11 : w15.cell? ⟨gb669, 11, none⟩ = some (.int .i64 t659) := (blk_cell BK669.out 11).trans rfl
      have hcz24_12 : w15.cell? ⟨gb669, 12, none⟩ = some (.int .i64 t660) := (blk_cell BK669.out 12).trans rfl
      have hcz24_13 : w15.cell? ⟨gb669, 13, none⟩ = some (.int .i64 t661) := (blk_cell BK669.out 13).trans rfl
      have hcz24_14 : w15.cell? ⟨gb669, 14, none⟩ = some (.slice Ao8 t662.length co8) := (blk_cell BK669.out 14).trans rfl
      have hcz24_15 : w15.cell? ⟨gb669, 15, none⟩ = some (.slice Ao9 t665.length co9) := (blk_cell BK669.out 15).trans rfl
      have hfz24_0 := blk_frozen BK669.out 0
      have hfz24_1 := blk_frozen BK669.out 1
      have hfz24_2 := blk_frozen BK669.out 2
      have hfz24_3 := blk_frozen BK669.out 3
      have hfz24_4 := blk_frozen BK669.out 4
      have hfz24_5 := blk_frozen BK669.out 5
      have hfz24_6 := blk_frozen BK669.out 6
      have hfz24_7 := blk_frozen BK669.out 7
      have hfz24_8 := blk_frozen BK669.out 8
      have hfz24_9 := blk_frozen BK669.out 9
      have hfz24_10 := blk_frozen BK669.out 10
      have hfz24_11 := blk_frozen BK669.out 11
      have hfz24_12 := blk_frozen BK669.out 12
      have hfz24_13 := blk_frozen BK669.out 13
      have hfz24_14 := blk_frozen BK669.out 14
      have hfz24_15 := blk_frozen BK669.out 15
      as_aux_lemma =>
      go_wp2_with (first | ((with_reducible refine gate_callee (f := 13) rfl ?_); refine goesL_ (some 27) rfl rfl Try.func13 (by kernel_rfl) rfl #[.agg #[.int .i64 t670, .int .i64 t671, .int .i64 t672, .int .i64 t673, .int .i64 t674, .slice Ao12 t675.length co12, .int .i64 t678, .int .i64 t679, .int .i64 t680, .int .i64 t681, .int .i64 t682, .int .i64 t683, .int .i64 t684, .int .i64 t685, .slice Ao13 t686.length co13, .slice Ao14 t689.length co14], .agg #[.int .i64 t646, .int .i64 t647, .int .i64 t648, .int .i64 t649, .int .i64 t650, .slice Ao7 t651.length co7, .int .i64 t654, .int .i64 t655, .int .i64 t656, .int .i64 t657, .int .i64 t658, .int .i64 t659, .int .i64 t660, .int .i64 t661, .slice Ao8 t662.length co8, .slice Ao9 t665.length co9]] rfl (by (try simp only [List.map_toArray, List.map_cons, List.map_nil]); first | done | rfl | (simp only [List.length_drop, List.length_take]; rfl)) ?_; (with_reducible refine (laws_eqNode.calls k t670 t671 t672 t673 t674 _ _ t675 t678 t679 t680 t681 t682 t683 t684 t685 _ _ t686 _ _ t689 t646 t647 t648 t649 t650 _ _ t651 t654 t655 t656 t657 t658 t659 t660 t661 _ _ t662 _ _ t665 false _ ?side1 ?side2 ?side3 ?side4 ?side5 ?side6 ?side7 ?side8 ?side9 ?side10 ?side11 ?side12 A16.out).mono ?_); (case side1 => repeat (first | exact (Kd.R_reads' HO677.out).2.2 | (with_reducible refine Kd.C_alloc ?_ _) | (with_reducible refine Kd.C_drewN ?_ _) | (with_reducible refine Kd.C_drew ?_))); (case side2 => exact (Kd.R_reads' HO677.out).2.1); (case side3 => repeat (first | exact (Kd.R_reads' HO688.out).2.2 | (with_reducible refine Kd.C_alloc ?_ _) | (with_reducible refine Kd.C_drewN ?_ _) | (with_reducible refine Kd.C_drew ?_))); (case side4 => exact (Kd.R_reads' HO688.out).2.1); (case side5 => repeat (first | exact (Kd.R_reads' HO691.out).2.2 | (with_reducible refine Kd.C_alloc ?_ _) | (with_reducible refine Kd.C_drewN ?_ _) | (with_reducible refine Kd.C_drew ?_))); (case side6 => exact (Kd.R_reads' HO691.out).2.1); (case side7 => repeat (first | exact (Kd.R_reads' HO653.out).2.2 | (with_reducible refine Kd.C_alloc ?_ _) | (with_reducible refine Kd.C_drewN ?_ _) | (with_reducible refine Kd.C_drew ?_))); (case side8 => exact (Kd.R_reads' HO653.out).2.1); (case side9 => repeat (first | exact (Kd.R_reads' HO664.out).2.2 | (with_reducible refine Kd.C_alloc ?_ _) | (with_reducible refine Kd.C_drewN ?_ _) | (with_reducible refine Kd.C_drew ?_))); (case side10 => exact (Kd.R_reads' HO664.out).2.1); (case side11 => repeat (first | exact (Kd.R_reads' HO667.out).2.2 | (with_reducible refine Kd.C_alloc ?_ _) | (with_reducible refine Kd.C_drewN ?_ _) | (with_reducible refine Kd.C_drew ?_))); (case side12 => exact (Kd.R_reads' HO667.out).2.1); rintro e w25 ⟨rfl, hb⟩; refine ⟨_, rfl, ?_⟩; have n0_ := Aside0.mk (Kd.R_below (by (with_reducible repeat (first | apply Kd.R_alloc | apply Kd.R_drewN | apply Kd.R_drew)); exact HO653.out) hb); have n1_ := Aside0.mk (Kd.R_below (by (with_reducible repeat (first | apply Kd.R_alloc | apply Kd.R_drewN | apply Kd.R_drew)); exact HO664.out) hb); have n2_ := Aside0.mk (Kd.R_below (by (with_reducible repeat (first | apply Kd.R_alloc | apply Kd.R_drewN | apply Kd.R_drew)); exact HO667.out) hb); have n3_ := Aside0.mk (Kd.R_below (by (with_reducible repeat (first | apply Kd.R_alloc | apply Kd.R_drewN | apply Kd.R_drew)); exact HO677.out) hb); have n4_ := Aside0.mk (Kd.R_below (by (with_reducible repeat (first | apply Kd.R_alloc | apply Kd.R_drewN | apply Kd.R_drew)); exact HO688.out) hb); have n5_ := Aside0.mk (Kd.R_below (by (with_reducible repeat (first | apply Kd.R_alloc | apply Kd.R_drewN | apply Kd.R_drew)); exact HO691.out) hb); have n6_ := Aside0.mk (blk_below (g := gb669) (o := .cells #[.int .i64 t646, .int .i64 t647, .int .i64 t648, .int .i64 t649, .int .i64 t650, .slice Ao7 t651.length co7, .int .i64 t654, .int .i64 t655, .int .i64 t656, .int .i64 t657, .int .i64 t658, .int .i64 t659, .int .i64 t660, .int .i64 t661, .slice Ao8 t662.length co8, .slice Ao9 t665.length co9] 30 (0, 0)) (by (with_reducible repeat (first | refine blk_drewN ?_ _ | refine blk_drew ?_ | refine blk_alloc ?_ _)); exact BK669.out) hb); have n7_ := Aside0.mk (blk_below (g := gb693) (o := .cells #[.int .i64 t670, .int .i64 t671, .int .i64 t672, .int .i64 t673, .int .i64 t674, .slice Ao12 t675.length co12, .int .i64 t678, .int .i64 t679, .int .i64 t680, .int .i64 t681, .int .i64 t682, .int .i64 t683, .int .i64 t684, .int .i64 t685, .slice Ao13 t686.length co13, .slice Ao14 t689.length co14] 30 (0, 0)) (by (with_reducible repeat (first | refine blk_drewN ?_ _ | refine blk_drew ?_ | refine blk_alloc ?_ _)); exact BK693.out) hb); have n8_ := Aside0.mk (below_step (by repeat (first | (with_reducible first | exact HB.out | apply below_alloc | apply pw_below_drewN | apply below_drew1 | refine below_set ?_ GE669.out | refine below_set ?_ GE693.out) | exact HB.out)) hb); clear HO653; clear HO664; clear HO667; clear HO677; clear HO688; clear HO691; clear BK669; clear BK693; clear HB; have HO653 := n0_; have HO664 := n1_; have HO667 := n2_; have HO677 := n3_; have HO688 := n4_; have HO691 := n5_; have BK669 := n6_; have BK693 := n7_; have HB := n8_; clear n0_ n1_ n2_ n3_ n4_ n5_ n6_ n7_ n8_; (try clear hb); (try clear hb2); (try clear hk); (try clear hi)))
      go_meet
      case rel => exact ⟨_, (true), (by first | rfl | (simp; done) | (simp [*]; done)), H', ⟨by first | omega | exact Nat.le_refl _⟩, ⟨by (with_reducible repeat (first | apply Kd.R_alloc | apply Kd.R_drewN | apply Kd.R_drew)); exact Kd.R_mono HO653.out (fun _ hk => hk.2)⟩, ⟨by (with_reducible repeat (first | apply Kd.R_alloc | apply Kd.R_drewN | apply Kd.R_drew)); exact Kd.R_mono HO664.out (fun _ hk => ⟨hk.1.1, ⟨hk.1.2, hk.2⟩⟩)⟩, ⟨by (with_reducible repeat (first | apply Kd.R_alloc | apply Kd.R_drewN | apply Kd.R_drew)); exact Kd.R_mono HO667.out (fun _ hk => ⟨hk.1.1, ⟨hk.1.2, hk.2⟩⟩)⟩, ⟨by (with_reducible repeat (first | apply Kd.R_alloc | apply Kd.R_drewN | apply Kd.R_drew)); exact Kd.R_mono HO677.out (fun _ hk => hk.2)⟩, ⟨by (with_reducible repeat (first | apply Kd.R_alloc | apply Kd.R_drewN | apply Kd.R_drew)); exact Kd.R_mono HO688.out (fun _ hk => ⟨hk.1.2, ⟨hk.2, hk.1.1⟩⟩)⟩, ⟨by (with_reducible repeat (first | apply Kd.R_alloc | apply Kd.R_drewN | apply Kd.R_drew)); exact Kd.R_mono HO691.out (fun _ hk => ⟨hk.1.2, ⟨hk.2, hk.1.1⟩⟩)⟩, ⟨by (with_reducible repeat (first | refine blk_drewN ?_ _ | refine blk_drew ?_ | refine blk_alloc ?_ _)); exact BK669.out⟩, ⟨by (with_reducible repeat (first | refine blk_drewN ?_ _ | refine blk_drew ?_ | refine blk_alloc ?_ _)); exact BK693.out⟩, ⟨by repeat (first | (with_reducible first | exact HB.out | apply below_alloc | apply pw_below_drewN | apply below_drew1 | refine below_set ?_ GE669.out | refine below_set ?_ GE693.out) | exact HB.out)⟩⟩
  case rest =>
    as_aux_lemma =>
    clear HC5
    try clear c1
    try clear c2
    try clear p2
    try clear c4
    try clear c13
    try clear c14
    try clear c15
    try clear c17
    try clear c18
    try clear c22
    try clear hcz19_0
    try clear hcz19_1
    try clear hcz19_10
    try clear hcz19_11
    try clear hcz19_12
    try clear hcz19_13
    try clear hcz19_14
    try clear hcz19_15
    try clear hcz19_2
    try clear hcz19_3
    try clear hcz19_4
    try clear hcz19_5
    try clear hcz19_6
    try clear hcz19_7
    try clear hcz19_8
    try clear hcz19_9
    try clear hcz20_0
    try clear hcz20_1
    try clear hcz20_10
    try clear hcz20_11
    try clear hcz20_12
    try clear hcz20_13
    try clear hcz20_14
    try clear hcz20_15
    try clear hcz20_2
    try clear hcz20_3
    try clear hcz20_4
    try clear hcz20_5
    try clear hcz20_6
    try clear hcz20_7
    try clear hcz20_8
    try clear hcz20_9
    try clear hcz23_0
    try clear hcz23_1
    try clear hcz23_10
    try clear hcz23_11
    try clear hcz23_12
    try clear hcz23_13
    try clear hcz23_14
    try clear hcz23_15
    try clear hcz23_2
    try clear hcz23_3
    try clear hcz23_4
    try clear hcz23_5
    try clear hcz23_6
    try clear hcz23_7
    try clear hcz23_8
    try clear hcz23_9
    try clear hcz24_0
    try clear hcz24_1
    try clear hcz24_10
    try clear hcz24_11
    try clear hcz24_12
    try clear hcz24_13
    try clear hcz24_14
    try clear hcz24_15
    try clear hcz24_2
    try clear hcz24_3
    try clear hcz24_4
    try clear hcz24_5
    try clear hcz24_6
    try clear hcz24_7
    try clear hcz24_8
    try clear hcz24_9
    try clear hfz19_0
    try clear hfz19_1
    try clear hfz19_10
    try clear hfz19_11
    try clear hfz19_12
    try clear hfz19_13
    try clear hfz19_14
    try clear hfz19_15
    try clear hfz19_2
    try clear hfz19_3
    try clear hfz19_4
    try clear hfz19_5
    try clear hfz19_6
    try clear hfz19_7
    try clear hfz19_8
    try clear hfz19_9
    try clear hfz20_0
    try clear hfz20_1
    try clear hfz20_10
    try clear hfz20_11
    try clear hfz20_12
    try clear hfz20_13
    try clear hfz20_14
    try clear hfz20_15
    try clear hfz20_2
    try clear hfz20_3
    try clear hfz20_4
    try clear hfz20_5
    try clear hfz20_6
    try clear hfz20_7
    try clear hfz20_8
    try clear hfz20_9
    try clear hfz23_0
    try clear hfz23_1
    try clear hfz23_10
    try clear hfz23_11
    try clear hfz23_12
    try clear hfz23_13
    try clear hfz23_14
    try clear hfz23_15
    try clear hfz23_2
    try clear hfz23_3
    try clear hfz23_4
    try clear hfz23_5
    try clear hfz23_6
    try clear hfz23_7
    try clear hfz23_8
    try clear hfz23_9
    try clear hfz24_0
    try clear hfz24_1
    try clear hfz24_10
    try clear hfz24_11
    try clear hfz24_12
    try clear hfz24_13
    try clear hfz24_14
    try clear hfz24_15
    try clear hfz24_2
    try clear hfz24_3
    try clear hfz24_4
    try clear hfz24_5
    try clear hfz24_6
    try clear hfz24_7
    try clear hfz24_8
    try clear hfz24_9
    obtain ⟨kq, x33_4, rfl, HA, HJ4, HO_670005, HO_670014, HO_670015, HO_694005, HO_694014, HO_694015, BK669, BK693, HB⟩ := hcut
    cases kq with
    | zero => exact absurd HA.out (by simp [laws_FnExactNodeNew.j0])
    | succ kj4 =>
      have H := HA.out
      clear HA
      simp only [laws_FnExactNodeNew.j0] at H
      by_cases c26 : x33_4 = true
      · subst c26
        have H1 : (some false) = some r := by rw [if_pos rfl] at H; exact H
        clear H
        have H := H1
        clear H1
        exact absurd (Option.some.inj H) (by rw [HT9_.out]; decide)
      · replace c26 := Bool.eq_false_iff.mpr c26
        subst c26
        have H1 : ((laws_markNode.f kj4 t670 t671 t672 t673 t674 t675 t678 t679 t680 t681 t682 t683 t684 t685 t686 t689 1).bind fun bt695 => ((laws_heldNode.f kj4 t670 t671 t672 t673 t674 bt695.2.1 t678 t679 t680 t681 t682 t683 t684 t685 bt695.2.2.1 bt695.2.2.2 1).bind fun t699 => (if t699 < 0 then (some false) else (if t699 = bt695.1 then ((impl_NodeNew.f a0 a1).bind fun bt700 => ((laws_eqNode.f kj4 bt700.1 bt700.2.1 bt700.2.2.1 bt700.2.2.2.1 bt700.2.2.2.2.1 bt700.2.2.2.2.2.1 bt700.2.2.2.2.2.2.1 bt700.2.2.2.2.2.2.2.1 bt700.2.2.2.2.2.2.2.2.1 bt700.2.2.2.2.2.2.2.2.2.1 bt700.2.2.2.2.2.2.2.2.2.2.1 bt700.2.2.2.2.2.2.2.2.2.2.2.1 bt700.2.2.2.2.2.2.2.2.2.2.2.2.1 bt700.2.2.2.2.2.2.2.2.2.2.2.2.2.1 bt700.2.2.2.2.2.2.2.2.2.2.2.2.2.2.1 bt700.2.2.2.2.2.2.2.2.2.2.2.2.2.2.2.1 t646 t647 t648 t649 t650 t651 t654 t655 t656 t657 t658 t659 t660 t661 t662 t665).bind fun t724 => (if t724 = true then (laws_FnExactNodeNew.j1 kj4 bt695.1 (bt700.2.2.2.2.2.2.2.2.2.2.2.2.2.2.2.2 != t668) t670 t671 t672 t673 t674 bt695.2.1 t678 t679 t680 t681 t682 t683 t684 t685 bt695.2.2.1 bt695.2.2.2) else (laws_FnExactNodeNew.j1 kj4 bt695.1 true t670 t671 t672 t673 t674 bt695.2.1 t678 t679 t680 t681 t682 t683 t684 t685 bt695.2.2.1 bt695.2.2.2)))) else (some false))))) = some r := by rw [if_neg (show ¬ (false = true) by decide)] at H; exact H
        clear H
        have H := H1
        clear H1
        replace H := Option.bind_eq_some_iff.mp H
        obtain ⟨⟨t695, t696, t697, t698⟩, A270, H⟩ := H
        replace H : ((laws_heldNode.f kj4 t670 t671 t672 t673 t674 t696 t678 t679 t680 t681 t682 t683 t684 t685 t697 t698 1).bind fun t699 => (if t699 < 0 then (some false) else (if t699 = t695 then ((impl_NodeNew.f a0 a1).bind fun bt700 => ((laws_eqNode.f kj4 bt700.1 bt700.2.1 bt700.2.2.1 bt700.2.2.2.1 bt700.2.2.2.2.1 bt700.2.2.2.2.2.1 bt700.2.2.2.2.2.2.1 bt700.2.2.2.2.2.2.2.1 bt700.2.2.2.2.2.2.2.2.1 bt700.2.2.2.2.2.2.2.2.2.1 bt700.2.2.2.2.2.2.2.2.2.2.1 bt700.2.2.2.2.2.2.2.2.2.2.2.1 bt700.2.2.2.2.2.2.2.2.2.2.2.2.1 bt700.2.2.2.2.2.2.2.2.2.2.2.2.2.1 bt700.2.2.2.2.2.2.2.2.2.2.2.2.2.2.1 bt700.2.2.2.2.2.2.2.2.2.2.2.2.2.2.2.1 t646 t647 t648 t649 t650 t651 t654 t655 t656 t657 t658 t659 t660 t661 t662 t665).bind fun t724 => (if t724 = true then (laws_FnExactNodeNew.j1 kj4 t695 (bt700.2.2.2.2.2.2.2.2.2.2.2.2.2.2.2.2 != t668) t670 t671 t672 t673 t674 t696 t678 t679 t680 t681 t682 t683 t684 t685 t697 t698) else (laws_FnExactNodeNew.j1 kj4 t695 true t670 t671 t672 t673 t674 t696 t678 t679 t680 t681 t682 t683 t684 t685 t697 t698)))) else (some false)))) = some r := H
        have A27 := Aside0.mk A270
        clear A270
        replace H := Option.bind_eq_some_iff.mp H
        obtain ⟨t699, A280, H⟩ := H
        replace H : (if t699 < 0 then (some false) else (if t699 = t695 then ((impl_NodeNew.f a0 a1).bind fun bt700 => ((laws_eqNode.f kj4 bt700.1 bt700.2.1 bt700.2.2.1 bt700.2.2.2.1 bt700.2.2.2.2.1 bt700.2.2.2.2.2.1 bt700.2.2.2.2.2.2.1 bt700.2.2.2.2.2.2.2.1 bt700.2.2.2.2.2.2.2.2.1 bt700.2.2.2.2.2.2.2.2.2.1 bt700.2.2.2.2.2.2.2.2.2.2.1 bt700.2.2.2.2.2.2.2.2.2.2.2.1 bt700.2.2.2.2.2.2.2.2.2.2.2.2.1 bt700.2.2.2.2.2.2.2.2.2.2.2.2.2.1 bt700.2.2.2.2.2.2.2.2.2.2.2.2.2.2.1 bt700.2.2.2.2.2.2.2.2.2.2.2.2.2.2.2.1 t646 t647 t648 t649 t650 t651 t654 t655 t656 t657 t658 t659 t660 t661 t662 t665).bind fun t724 => (if t724 = true then (laws_FnExactNodeNew.j1 kj4 t695 (bt700.2.2.2.2.2.2.2.2.2.2.2.2.2.2.2.2 != t668) t670 t671 t672 t673 t674 t696 t678 t679 t680 t681 t682 t683 t684 t685 t697 t698) else (laws_FnExactNodeNew.j1 kj4 t695 true t670 t671 t672 t673 t674 t696 t678 t679 t680 t681 t682 t683 t684 t685 t697 t698)))) else (some false))) = some r := H
        have A28 := Aside0.mk A280
        clear A280
        by_cases c29 : t699 < 0
        · rw [if_pos c29] at H
          have c29b0 : decide (t699 < 0) = true := decide_eq_true c29
          clear c29
          exact absurd (Option.some.inj H) (by rw [HT9_.out]; decide)
        · rw [if_neg c29] at H
          have c29b0 : decide (t699 < 0) = false := decide_eq_false c29
          clear c29
          by_cases c30 : t699 = t695
          · rw [if_pos c30] at H
            have c30b0 : (t699 == t695) = true := beq_iff_eq.mpr c30
            have c30b1 : (t699 != t695) = false := bne_eq_false_iff_eq.mpr c30
            clear c30
            replace H := Option.bind_eq_some_iff.mp H
            obtain ⟨⟨t700, t701, t702, t703, t704, t705, t708, t709, t710, t711, t712, t713, t714, t715, t716, t719, t722⟩, A310, H⟩ := H
            replace H : ((laws_eqNode.f kj4 t700 t701 t702 t703 t704 t705 t708 t709 t710 t711 t712 t713 t714 t715 t716 t719 t646 t647 t648 t649 t650 t651 t654 t655 t656 t657 t658 t659 t660 t661 t662 t665).bind fun t724 => (if t724 = true then (laws_FnExactNodeNew.j1 kj4 t695 (t722 != t668) t670 t671 t672 t673 t674 t696 t678 t679 t680 t681 t682 t683 t684 t685 t697 t698) else (laws_FnExactNodeNew.j1 kj4 t695 true t670 t671 t672 t673 t674 t696 t678 t679 t680 t681 t682 t683 t684 t685 t697 t698))) = some r := H
            have A31 := Aside0.mk A310
            clear A310
            have HC32 := Aside0.mk H
            clear H
            have hnb33 := NB693_669.out
            have hnc33 := NB669_693.out
            have hcz34_0 : wc.cell? ⟨gb693, 0, none⟩ = some (.int .i64 t670) := (blk_cell BK693.out 0).trans rfl
            have hcz34_1 : wc.cell? ⟨gb693, 1, none⟩ = some (.int .i64 t671) := (blk_cell BK693.out 1).trans rfl
            have hcz34_2 : wc.cell? ⟨gb693, 2, none⟩ = some (.int .i64 t672) := (blk_cell BK693.out 2).trans rfl
            have hcz34_3 : wc.cell? ⟨gb693, 3, none⟩ = some (.int .i64 t673) := (blk_cell BK693.out 3).trans rfl
            have hcz34_4 : wc.cell? ⟨gb693, 4, none⟩ = some (.int .i64 t674) := (blk_cell BK693.out 4).trans rfl
            have hcz34_5 : wc.cell? ⟨gb693, 5, none⟩ = some (.slice Ao12 t675.length co12) := (blk_cell BK693.out 5).trans rfl
            have hcz34_6 : wc.cell? ⟨gb693, 6, none⟩ = some (.int .i64 t678) := (blk_cell BK693.out 6).trans rfl
            have hcz34_7 : wc.cell? ⟨gb693, 7, none⟩ = some (.int .i64 t679) := (blk_cell BK693.out 7).trans rfl
            have hcz34_8 : wc.cell? ⟨gb693, 8, none⟩ = some (.int .i64 t680) := (blk_cell BK693.out 8).trans rfl
            have hcz34_9 : wc.cell? ⟨gb693, 9, none⟩ = some (.int .i64 t681) := (blk_cell BK693.out 9).trans rfl
            have hcz34_10 : wc.cell? ⟨gb693, 10, none⟩ = some (.int .i64 t682) := (blk_cell BK693.out 10).trans rfl
            have hcz34_11 : wc.cell? ⟨gb693, 11, none⟩ = some (.int .i64 t683) := (blk_cell BK693.out 11).trans rfl
            have hcz34_12 : wc.cell? ⟨gb693, 12, none⟩ = some (.int .i64 t684) := (blk_cell BK693.out 12).trans rfl
            have hcz34_13 : wc.cell? ⟨gb693, 13, none⟩ = some (.int .i64 t685) := (blk_cell BK693.out 13).trans rfl
            have hcz34_14 : wc.cell? ⟨gb693, 14, none⟩ = some (.slice Ao13 t686.length co13) := (blk_cell BK693.out 14).trans rfl
            have hcz34_15 : wc.cell? ⟨gb693, 15, none⟩ = some (.slice Ao14 t689.length co14) := (blk_cell BK693.out 15).trans rfl
            have hfz34_0 := blk_frozen BK693.out 0
            have hfz34_1 := blk_frozen BK693.out 1
            have hfz34_2 := blk_frozen BK693.out 2
            have hfz34_3 := blk_frozen BK693.out 3
            have hfz34_4 := blk_frozen BK693.out 4
            have hfz34_5 := blk_frozen BK693.out 5
            have hfz34_6 := blk_frozen BK693.out 6
            have hfz34_7 := blk_frozen BK693.out 7
            have hfz34_8 := blk_frozen BK693.out 8
            have hfz34_9 := blk_frozen BK693.out 9
            have hfz34_10 := blk_frozen BK693.out 10
            have hfz34_11 := blk_frozen BK693.out 11
            have hfz34_12 := blk_frozen BK693.out 12
            have hfz34_13 := blk_frozen BK693.out 13
            have hfz34_14 := blk_frozen BK693.out 14
            have hfz34_15 := blk_frozen BK693.out 15
            as_aux_lemma =>
            go_upto_region 14 with (first | ((with_reducible refine gate_callee (f := 16) rfl ?_); refine goesL_ (some 36) rfl rfl Try.func16 (by kernel_rfl) rfl #[.agg #[.int .i64 t670, .int .i64 t671, .int .i64 t672, .int .i64 t673, .int .i64 t674, .slice Ao12 t675.length co12, .int .i64 t678, .int .i64 t679, .int .i64 t680, .int .i64 t681, .int .i64 t682, .int .i64 t683, .int .i64 t684, .int .i64 t685, .slice Ao13 t686.length co13, .slice Ao14 t689.length co14], .int .i64 1] rfl (by (try simp only [List.map_toArray, List.map_cons, List.map_nil]); first | done | rfl | (simp only [List.length_drop, List.length_take]; rfl)) ?_; (with_reducible refine (laws_markNode.calls kj4 t670 t671 t672 t673 t674 (fun k_ => some k_ = (.slice Ao12 t675.length co12 : Value).ownBlock) (.slice Ao12 t675.length co12) t675 t678 t679 t680 t681 t682 t683 t684 t685 (fun k_ => some k_ = (.slice Ao13 t686.length co13 : Value).ownBlock) (.slice Ao13 t686.length co13) t686 (fun k_ => some k_ = (.slice Ao14 t689.length co14 : Value).ownBlock) (.slice Ao14 t689.length co14) t689 1 t695 t696 t697 t698 w _ ?side1 ?side2 ?side3 ?side4 ?side5 ?side6 A27.out).mono ?_); (case side1 => repeat (first | (with_reducible first | exact HB.out | apply below_alloc | apply pw_below_drewN | apply below_drew1 | refine below_set ?_ GE669.out | refine below_set ?_ GE693.out) | exact HB.out)); (case side2 => exact Kd.R_tight rfl HO_694005.out); (case side3 => exact Kd.R_tight rfl HO_694014.out); (case side4 => exact fun k_ e_ => (HO_694014.out.1 k_ e_.symm).2.2); (case side5 => exact Kd.R_tight rfl HO_694015.out); (case side6 => exact fun k_ e_ => (HO_694015.out.1 k_ e_.symm).2.2); rintro e w35 ⟨rfl, hy0, hy1, hy2, hb, hkp⟩; refine ⟨_, rfl, ?_⟩; have n0_ := Aside0.mk (Kd.R_mono (ok' := fun k_ => some k_ ≠ (.slice Ao12 t675.length co12 : Value).ownBlock) (Kd.R_keptB ((Kd.R_apart' (Kd.R_apart' HO_670005.out (Kd.R_typed HO_694014.out) (by decide)) (Kd.R_typed HO_694015.out) (by decide))) hkp (fun k_ hk_ hs_ => Or.elim hs_ (fun e_ => (hk_.1.1) e_) (fun e_ => Or.elim e_ (fun e_ => (hk_.1.2) e_) (fun e_ => (hk_.2) e_)))) (fun k_ hk_ => hk_.1.1.1)); have n1_ := Aside0.mk (Kd.R_mono (ok' := fun k_ => some k_ ≠ (.slice Ao9 t665.length co9 : Value).ownBlock ∧ some k_ ≠ (.slice Ao13 t686.length co13 : Value).ownBlock ∧ some k_ ≠ (.slice Ao14 t689.length co14 : Value).ownBlock) (Kd.R_keptB ((Kd.R_apart' HO_670014.out (Kd.R_typed HO_694005.out) (by decide))) hkp (fun k_ hk_ hs_ => Or.elim hs_ (fun e_ => (hk_.2) e_) (fun e_ => Or.elim e_ (fun e_ => (hk_.1.2.1) e_) (fun e_ => (hk_.1.2.2) e_)))) (fun k_ hk_ => ⟨hk_.1.1.1, hk_.1.1.2.1, hk_.1.1.2.2⟩)); have n2_ := Aside0.mk (Kd.R_mono (ok' := fun k_ => some k_ ≠ (.slice Ao8 t662.length co8 : Value).ownBlock ∧ some k_ ≠ (.slice Ao13 t686.length co13 : Value).ownBlock ∧ some k_ ≠ (.slice Ao14 t689.length co14 : Value).ownBlock) (Kd.R_keptB ((Kd.R_apart' HO_670015.out (Kd.R_typed HO_694005.out) (by decide))) hkp (fun k_ hk_ hs_ => Or.elim hs_ (fun e_ => (hk_.2) e_) (fun e_ => Or.elim e_ (fun e_ => (hk_.1.2.1) e_) (fun e_ => (hk_.1.2.2) e_)))) (fun k_ hk_ => ⟨hk_.1.1.1, hk_.1.1.2.1, hk_.1.1.2.2⟩)); have n3_ := Aside0.mk (Kd.R_reok rfl hy0 (fun k_ e_ => HO_694005.out.1 k_ e_)); have n4_ := Aside0.mk (Kd.R_reok rfl hy1 (fun k_ e_ => HO_694014.out.1 k_ e_)); have n5_ := Aside0.mk (Kd.R_reok rfl hy2 (fun k_ e_ => HO_694015.out.1 k_ e_)); have n6_ := Aside0.mk (blk_kept (by (with_reducible repeat (first | refine blk_drewN ?_ _ | refine blk_drew ?_ | refine blk_alloc ?_ _)); exact BK669.out) hkp (fun hs_ => Or.elim hs_ (fun e_ => (fun e_ => (Kd.R_ne HO_694005.out BK669.out (by decide)) e_) e_) (fun e_ => Or.elim e_ (fun e_ => (fun e_ => (Kd.R_ne HO_694014.out BK669.out (by decide)) e_) e_) (fun e_ => (fun e_ => (Kd.R_ne HO_694015.out BK669.out (by decide)) e_) e_)))); have n7_ := Aside0.mk (blk_kept (by (with_reducible repeat (first | refine blk_drewN ?_ _ | refine blk_drew ?_ | refine blk_alloc ?_ _)); exact BK693.out) hkp (fun hs_ => Or.elim hs_ (fun e_ => (fun e_ => (Kd.R_ne HO_694005.out BK693.out (by decide)) e_) e_) (fun e_ => Or.elim e_ (fun e_ => (fun e_ => (Kd.R_ne HO_694014.out BK693.out (by decide)) e_) e_) (fun e_ => (fun e_ => (Kd.R_ne HO_694015.out BK693.out (by decide)) e_) e_)))); have n8_ := Aside0.mk (hb); clear HO_670005; clear HO_670014; clear HO_670015; clear HO_694005; clear HO_694014; clear HO_694015; clear BK669; clear BK693; clear HB; have HO_670005 := n0_; have HO_670014 := n1_; have HO_670015 := n2_; have HO_694005 := n3_; have HO_694014 := n4_; have HO_694015 := n5_; have BK669 := n6_; have BK693 := n7_; have HB := n8_; clear n0_ n1_ n2_ n3_ n4_ n5_ n6_ n7_ n8_; (try clear hb); (try clear hkp); (try clear hy0); (try clear hy1); (try clear hy2); have hcz36_0 : w35.cell? ⟨gb693, 0, none⟩ = some (.int .i64 t670) := (blk_cell BK693.out 0).trans rfl; have hcz36_1 : w35.cell? ⟨gb693, 1, none⟩ = some (.int .i64 t671) := (blk_cell BK693.out 1).trans rfl; have hcz36_2 : w35.cell? ⟨gb693, 2, none⟩ = some (.int .i64 t672) := (blk_cell BK693.out 2).trans rfl; have hcz36_3 : w35.cell? ⟨gb693, 3, none⟩ = some (.int .i64 t673) := (blk_cell BK693.out 3).trans rfl; have hcz36_4 : w35.cell? ⟨gb693, 4, none⟩ = some (.int .i64 t674) := (blk_cell BK693.out 4).trans rfl; have hcz36_5 : w35.cell? ⟨gb693, 5, none⟩ = some (.slice Ao12 t675.length co12) := (blk_cell BK693.out 5).trans rfl; have hcz36_6 : w35.cell? ⟨gb693, 6, none⟩ = some (.int .i64 t678) := (blk_cell BK693.out 6).trans rfl; have hcz36_7 : w35.cell? ⟨gb693, 7, none⟩ = some (.int .i64 t679) := (blk_cell BK693.out 7).trans rfl; have hcz36_8 : w35.cell? ⟨gb693, 8, none⟩ = some (.int .i64 t680) := (blk_cell BK693.out 8).trans rfl; have hcz36_9 : w35.cell? ⟨gb693, 9, none⟩ = some (.int .i64 t681) := (blk_cell BK693.out 9).trans rfl; have hcz36_10 : w35.cell? ⟨gb693, 10, none⟩ = some (.int .i64 t682) := (blk_cell BK693.out 10).trans rfl; have hcz36_11 : w35.cell? ⟨gb693, 11, none⟩ = some (.int .i64 t683) := (blk_cell BK693.out 11).trans rfl; have hcz36_12 : w35.cell? ⟨gb693, 12, none⟩ = some (.int .i64 t684) := (blk_cell BK693.out 12).trans rfl; have hcz36_13 : w35.cell? ⟨gb693, 13, none⟩ = some (.int .i64 t685) := (blk_cell BK693.out 13).trans rfl; have hcz36_14 : w35.cell? ⟨gb693, 14, none⟩ = some (.slice Ao13 t686.length co13) := (blk_cell BK693.out 14).trans rfl; have hcz36_15 : w35.cell? ⟨gb693, 15, none⟩ = some (.slice Ao14 t689.length co14) := (blk_cell BK693.out 15).trans rfl; have hfz36_0 := blk_frozen BK693.out 0; have hfz36_1 := blk_frozen BK693.out 1; have hfz36_2 := blk_frozen BK693.out 2; have hfz36_3 := blk_frozen BK693.out 3; have hfz36_4 := blk_frozen BK693.out 4; have hfz36_5 := blk_frozen BK693.out 5; have hfz36_6 := blk_frozen BK693.out 6; have hfz36_7 := blk_frozen BK693.out 7; have hfz36_8 := blk_frozen BK693.out 8; have hfz36_9 := blk_frozen BK693.out 9; have hfz36_10 := blk_frozen BK693.out 10; have hfz36_11 := blk_frozen BK693.out 11; have hfz36_12 := blk_frozen BK693.out 12; have hfz36_13 := blk_frozen BK693.out 13; have hfz36_14 := blk_frozen BK693.out 14; have hfz36_15 := blk_frozen BK693.out 15) | ((with_reducible refine gate_callee (f := 17) rfl ?_); refine goesL_ (some 39) rfl rfl Try.func17 (by kernel_rfl) rfl #[.agg #[.int .i64 t670, .int .i64 t671, .int .i64 t672, .int .i64 t673, .int .i64 t674, .slice Ao12 t696.length co12, .int .i64 t678, .int .i64 t679, .int .i64 t680, .int .i64 t681, .int .i64 t682, .int .i64 t683, .int .i64 t684, .int .i64 t685, .slice Ao13 t697.length co13, .slice Ao14 t698.length co14], .int .i64 1] rfl (by (try simp only [List.map_toArray, List.map_cons, List.map_nil]); first | done | (rw [show t696.length = t675.length from (Kd.R_reads' HO_694005.out).1.symm, show t697.length = t686.length from (Kd.R_reads' HO_694014.out).1.symm, show t698.length = t689.length from (Kd.R_reads' HO_694015.out).1.symm] <;> rfl) | rfl | (simp only [List.length_drop, List.length_take]; rfl)) ?_; (with_reducible refine (laws_heldNode.calls kj4 t670 t671 t672 t673 t674 _ _ t696 t678 t679 t680 t681 t682 t683 t684 t685 _ _ t697 _ _ t698 1 t699 _ ?side1 ?side2 ?side3 ?side4 ?side5 ?side6 A28.out).mono ?_); (case side1 => repeat (first | exact (Kd.R_reads' HO_694005.out).2.2 | (with_reducible refine Kd.C_alloc ?_ _) | (with_reducible refine Kd.C_drewN ?_ _) | (with_reducible refine Kd.C_drew ?_))); (case side2 => rw [show t696.length = t675.length from (Kd.R_reads' HO_694005.out).1.symm]; exact (Kd.R_reads' HO_694005.out).2.1); (case side3 => repeat (first | exact (Kd.R_reads' HO_694014.out).2.2 | (with_reducible refine Kd.C_alloc ?_ _) | (with_reducible refine Kd.C_drewN ?_ _) | (with_reducible refine Kd.C_drew ?_))); (case side4 => rw [show t697.length = t686.length from (Kd.R_reads' HO_694014.out).1.symm]; exact (Kd.R_reads' HO_694014.out).2.1); (case side5 => repeat (first | exact (Kd.R_reads' HO_694015.out).2.2 | (with_reducible refine Kd.C_alloc ?_ _) | (with_reducible refine Kd.C_drewN ?_ _) | (with_reducible refine Kd.C_drew ?_))); (case side6 => rw [show t698.length = t689.length from (Kd.R_reads' HO_694015.out).1.symm]; exact (Kd.R_reads' HO_694015.out).2.1); rintro e w37 ⟨rfl, hb⟩; refine ⟨_, rfl, ?_⟩; have n0_ := Aside0.mk (Kd.R_below (by (with_reducible repeat (first | apply Kd.R_alloc | apply Kd.R_drewN | apply Kd.R_drew)); exact HO_670005.out) hb); have n1_ := Aside0.mk (Kd.R_below (by (with_reducible repeat (first | apply Kd.R_alloc | apply Kd.R_drewN | apply Kd.R_drew)); exact HO_670014.out) hb); have n2_ := Aside0.mk (Kd.R_below (by (with_reducible repeat (first | apply Kd.R_alloc | apply Kd.R_drewN | apply Kd.R_drew)); exact HO_670015.out) hb); have n3_ := Aside0.mk (Kd.R_below (by (with_reducible repeat (first | apply Kd.R_alloc | apply Kd.R_drewN | apply Kd.R_drew)); exact HO_694005.out) hb); have n4_ := Aside0.mk (Kd.R_below (by (with_reducible repeat (first | apply Kd.R_alloc | apply Kd.R_drewN | apply Kd.R_drew)); exact HO_694014.out) hb); have n5_ := Aside0.mk (Kd.R_below (by (with_reducible repeat (first | apply Kd.R_alloc | apply Kd.R_drewN | apply Kd.R_drew)); exact HO_694015.out) hb); have n6_ := Aside0.mk (blk_below (g := gb669) (o := .cells #[.int .i64 t646, .int .i64 t647, .int .i64 t648, .int .i64 t649, .int .i64 t650, .slice Ao7 t651.length co7, .int .i64 t654, .int .i64 t655, .int .i64 t656, .int .i64 t657, .int .i64 t658, .int .i64 t659, .int .i64 t660, .int .i64 t661, .slice Ao8 t662.length co8, .slice Ao9 t665.length co9] 30 (0, 0)) (by (with_reducible repeat (first | refine blk_drewN ?_ _ | refine blk_drew ?_ | refine blk_alloc ?_ _)); exact BK669.out) hb); have n7_ := Aside0.mk (blk_below (g := gb693) (o := .cells #[.int .i64 t670, .int .i64 t671, .int .i64 t672, .int .i64 t673, .int .i64 t674, .slice Ao12 t675.length co12, .int .i64 t678, .int .i64 t679, .int .i64 t680, .int .i64 t681, .int .i64 t682, .int .i64 t683, .int .i64 t684, .int .i64 t685, .slice Ao13 t686.length co13, .slice Ao14 t689.length co14] 30 (0, 0)) (by (with_reducible repeat (first | refine blk_drewN ?_ _ | refine blk_drew ?_ | refine blk_alloc ?_ _)); exact BK693.out) hb); have n8_ := Aside0.mk (below_step (by repeat (first | (with_reducible first | exact HB.out | apply below_alloc | apply pw_below_drewN | apply below_drew1 | refine below_set ?_ GE669.out | refine below_set ?_ GE693.out) | exact HB.out)) hb); clear HO_670005; clear HO_670014; clear HO_670015; clear HO_694005; clear HO_694014; clear HO_694015; clear BK669; clear BK693; clear HB; have HO_670005 := n0_; have HO_670014 := n1_; have HO_670015 := n2_; have HO_694005 := n3_; have HO_694014 := n4_; have HO_694015 := n5_; have BK669 := n6_; have BK693 := n7_; have HB := n8_; clear n0_ n1_ n2_ n3_ n4_ n5_ n6_ n7_ n8_; (try clear hb); (try clear hb2); (try clear hk); (try clear hi)) | ((with_reducible refine gate_callee (f := 15) rfl ?_); refine goesL_ (some 48) rfl rfl Try.func15 (by kernel_rfl) rfl #[.int .i64 a0, .int .i64 a1] rfl (by (try simp only [List.map_toArray, List.map_cons, List.map_nil]); first | done | rfl | (simp only [List.length_drop, List.length_take]; rfl)) ?_; (with_reducible refine (impl_NodeNew.calls a0 a1 t700 t701 t702 t703 t704 t705 t708 t709 t710 t711 t712 t713 t714 t715 t716 t719 t722 _ A31.out).mono ?_); rintro e w38 ⟨v706, v717, v720, rfl, ho0, ho1, ho2, hb⟩; refine ⟨_, rfl, ?_⟩; have n0_ := Aside0.mk (Kd.R_elder' (by (with_reducible repeat (first | apply Kd.R_alloc | apply Kd.R_drewN | apply Kd.R_drew)); exact HO_670005.out) (Kd.R_base ho0) hb); have n1_ := Aside0.mk (Kd.R_mono (Kd.R_told (Kd.R_told (Kd.R_old (by (with_reducible repeat (first | apply Kd.R_alloc | apply Kd.R_drewN | apply Kd.R_drew)); exact HO_670014.out) hb) (Kd.R_base ho1)) (Kd.R_base ho2)) (fun _ h_ => h_.1)); have n2_ := Aside0.mk (Kd.R_mono (Kd.R_told (Kd.R_told (Kd.R_old (by (with_reducible repeat (first | apply Kd.R_alloc | apply Kd.R_drewN | apply Kd.R_drew)); exact HO_670015.out) hb) (Kd.R_base ho1)) (Kd.R_base ho2)) (fun _ h_ => h_.1)); have n3_ := Aside0.mk (Kd.R_elder' (by (with_reducible repeat (first | apply Kd.R_alloc | apply Kd.R_drewN | apply Kd.R_drew)); exact HO_694005.out) (Kd.R_base ho0) hb); have n4_ := Aside0.mk (Kd.R_mono (Kd.R_told (Kd.R_told (Kd.R_old (by (with_reducible repeat (first | apply Kd.R_alloc | apply Kd.R_drewN | apply Kd.R_drew)); exact HO_694014.out) hb) (Kd.R_base ho1)) (Kd.R_base ho2)) (fun _ h_ => h_.1)); have n5_ := Aside0.mk (Kd.R_mono (Kd.R_told (Kd.R_told (Kd.R_old (by (with_reducible repeat (first | apply Kd.R_alloc | apply Kd.R_drewN | apply Kd.R_drew)); exact HO_694015.out) hb) (Kd.R_base ho1)) (Kd.R_base ho2)) (fun _ h_ => h_.1)); have n6_ := Aside0.mk (Kd.R_lower (Kd.R_new' (Kd.R_new' ho0 (Kd.R_lt (by (with_reducible repeat (first | apply Kd.R_alloc | apply Kd.R_drewN | apply Kd.R_drew)); exact HO_670005.out))) (Kd.R_lt (by (with_reducible repeat (first | apply Kd.R_alloc | apply Kd.R_drewN | apply Kd.R_drew)); exact HO_694005.out))) (below_size (by repeat (first | (with_reducible first | exact HB.out | apply below_alloc | apply pw_below_drewN | apply below_drew1 | refine below_set ?_ GE669.out | refine below_set ?_ GE693.out) | exact HB.out)))); have n7_ := Aside0.mk (Kd.R_lower (Kd.R_new' (Kd.R_new' (Kd.R_new' (Kd.R_new' ho1 (Kd.R_lt (by (with_reducible repeat (first | apply Kd.R_alloc | apply Kd.R_drewN | apply Kd.R_drew)); exact HO_670014.out))) (Kd.R_lt (by (with_reducible repeat (first | apply Kd.R_alloc | apply Kd.R_drewN | apply Kd.R_drew)); exact HO_670015.out))) (Kd.R_lt (by (with_reducible repeat (first | apply Kd.R_alloc | apply Kd.R_drewN | apply Kd.R_drew)); exact HO_694014.out))) (Kd.R_lt (by (with_reducible repeat (first | apply Kd.R_alloc | apply Kd.R_drewN | apply Kd.R_drew)); exact HO_694015.out))) (below_size (by repeat (first | (with_reducible first | exact HB.out | apply below_alloc | apply pw_below_drewN | apply below_drew1 | refine below_set ?_ GE669.out | refine below_set ?_ GE693.out) | exact HB.out)))); have n8_ := Aside0.mk (Kd.R_lower (Kd.R_new' (Kd.R_new' (Kd.R_new' (Kd.R_new' ho2 (Kd.R_lt (by (with_reducible repeat (first | apply Kd.R_alloc | apply Kd.R_drewN | apply Kd.R_drew)); exact HO_670014.out))) (Kd.R_lt (by (with_reducible repeat (first | apply Kd.R_alloc | apply Kd.R_drewN | apply Kd.R_drew)); exact HO_670015.out))) (Kd.R_lt (by (with_reducible repeat (first | apply Kd.R_alloc | apply Kd.R_drewN | apply Kd.R_drew)); exact HO_694014.out))) (Kd.R_lt (by (with_reducible repeat (first | apply Kd.R_alloc | apply Kd.R_drewN | apply Kd.R_drew)); exact HO_694015.out))) (below_size (by repeat (first | (with_reducible first | exact HB.out | apply below_alloc | apply pw_below_drewN | apply below_drew1 | refine below_set ?_ GE669.out | refine below_set ?_ GE693.out) | exact HB.out)))); have n9_ := Aside0.mk (blk_below (g := gb669) (o := .cells #[.int .i64 t646, .int .i64 t647, .int .i64 t648, .int .i64 t649, .int .i64 t650, .slice Ao7 t651.length co7, .int .i64 t654, .int .i64 t655, .int .i64 t656, .int .i64 t657, .int .i64 t658, .int .i64 t659, .int .i64 t660, .int .i64 t661, .slice Ao8 t662.length co8, .slice Ao9 t665.length co9] 30 (0, 0)) (by (with_reducible repeat (first | refine blk_drewN ?_ _ | refine blk_drew ?_ | refine blk_alloc ?_ _)); exact BK669.out) hb); have n10_ := Aside0.mk (blk_below (g := gb693) (o := .cells #[.int .i64 t670, .int .i64 t671, .int .i64 t672, .int .i64 t673, .int .i64 t674, .slice Ao12 t675.length co12, .int .i64 t678, .int .i64 t679, .int .i64 t680, .int .i64 t681, .int .i64 t682, .int .i64 t683, .int .i64 t684, .int .i64 t685, .slice Ao13 t686.length co13, .slice Ao14 t689.length co14] 30 (0, 0)) (by (with_reducible repeat (first | refine blk_drewN ?_ _ | refine blk_drew ?_ | refine blk_alloc ?_ _)); exact BK693.out) hb); have n11_ := Aside0.mk (below_step (by repeat (first | (with_reducible first | exact HB.out | apply below_alloc | apply pw_below_drewN | apply below_drew1 | refine below_set ?_ GE669.out | refine below_set ?_ GE693.out) | exact HB.out)) hb); clear HO_670005; clear HO_670014; clear HO_670015; clear HO_694005; clear HO_694014; clear HO_694015; clear BK669; clear BK693; clear HB; have HO_670005 := n0_; have HO_670014 := n1_; have HO_670015 := n2_; have HO_694005 := n3_; have HO_694014 := n4_; have HO_694015 := n5_; have HO707 := n6_; have HO718 := n7_; have HO721 := n8_; have BK669 := n9_; have BK693 := n10_; have HB := n11_; clear n0_ n1_ n2_ n3_ n4_ n5_ n6_ n7_ n8_ n9_ n10_ n11_; (try clear hb); (try clear hb2); (try clear hk); (try clear hi); (try clear ho0); (try clear ho1); (try clear ho2); obtain ⟨Ao39, co39, eo39⟩ := Kd.R_slice HO707.out; subst eo39; obtain ⟨Ao40, co40, eo40⟩ := Kd.R_slice HO718.out; subst eo40; obtain ⟨Ao41, co41, eo41⟩ := Kd.R_slice HO721.out; subst eo41) | ((with_reducible refine gate_dst (N := 11) rfl ?_); refine boxst_event ?hg (N := 11) ?hd ?hg2 ?hn2 ?ho2 (cs := #[.int .i64 t700, .int .i64 t701, .int .i64 t702, .int .i64 t703, .int .i64 t704, .slice Ao39 t705.length co39, .int .i64 t708, .int .i64 t709, .int .i64 t710, .int .i64 t711, .int .i64 t712, .int .i64 t713, .int .i64 t714, .int .i64 t715, .slice Ao40 t716.length co40, .slice Ao41 t719.length co41]) (zs := #[.int .i64 0, .int .i64 0, .int .i64 0, .int .i64 0, .int .i64 0, .slice none 0 0, .int .i64 0, .int .i64 0, .int .i64 0, .int .i64 0, .int .i64 0, .int .i64 0, .int .i64 0, .int .i64 0, .slice none 0 0, .slice none 0 0]) (t := 30) ?hr ?hr2 ?_; (case hd => rfl); (case hg => rfl); (case hg2 => rfl); (case hn2 => rfl); (case ho2 => exact ⟨_, rfl⟩); (case hr => first | (go_simp; done) | (go_simp; rfl)); (case hr2 => first | (go_simp; done) | (go_simp; rfl)); intro gb723 hg w42 hbox hb; have n0_ := Aside0.mk (Kd.R_below (by (with_reducible repeat (first | apply Kd.R_alloc | apply Kd.R_drewN | apply Kd.R_drew)); exact HO_670005.out) hb); have n1_ := Aside0.mk (Kd.R_below (by (with_reducible repeat (first | apply Kd.R_alloc | apply Kd.R_drewN | apply Kd.R_drew)); exact HO_670014.out) hb); have n2_ := Aside0.mk (Kd.R_below (by (with_reducible repeat (first | apply Kd.R_alloc | apply Kd.R_drewN | apply Kd.R_drew)); exact HO_670015.out) hb); have n3_ := Aside0.mk (Kd.R_below (by (with_reducible repeat (first | apply Kd.R_alloc | apply Kd.R_drewN | apply Kd.R_drew)); exact HO_694005.out) hb); have n4_ := Aside0.mk (Kd.R_below (by (with_reducible repeat (first | apply Kd.R_alloc | apply Kd.R_drewN | apply Kd.R_drew)); exact HO_694014.out) hb); have n5_ := Aside0.mk (Kd.R_below (by (with_reducible repeat (first | apply Kd.R_alloc | apply Kd.R_drewN | apply Kd.R_drew)); exact HO_694015.out) hb); have n6_ := Aside0.mk (Kd.R_below (by (with_reducible repeat (first | apply Kd.R_alloc | apply Kd.R_drewN | apply Kd.R_drew)); exact HO707.out) hb); have n7_ := Aside0.mk (Kd.R_below (by (with_reducible repeat (first | apply Kd.R_alloc | apply Kd.R_drewN | apply Kd.R_drew)); exact HO718.out) hb); have n8_ := Aside0.mk (Kd.R_below (by (with_reducible repeat (first | apply Kd.R_alloc | apply Kd.R_drewN | apply Kd.R_drew)); exact HO721.out) hb); have n9_ := Aside0.mk (blk_below (g := gb669) (o := .cells #[.int .i64 t646, .int .i64 t647, .int .i64 t648, .int .i64 t649, .int .i64 t650, .slice Ao7 t651.length co7, .int .i64 t654, .int .i64 t655, .int .i64 t656, .int .i64 t657, .int .i64 t658, .int .i64 t659, .int .i64 t660, .int .i64 t661, .slice Ao8 t662.length co8, .slice Ao9 t665.length co9] 30 (0, 0)) (by (with_reducible repeat (first | refine blk_drewN ?_ _ | refine blk_drew ?_ | refine blk_alloc ?_ _)); exact BK669.out) hb); have n10_ := Aside0.mk (blk_below (g := gb693) (o := .cells #[.int .i64 t670, .int .i64 t671, .int .i64 t672, .int .i64 t673, .int .i64 t674, .slice Ao12 t675.length co12, .int .i64 t678, .int .i64 t679, .int .i64 t680, .int .i64 t681, .int .i64 t682, .int .i64 t683, .int .i64 t684, .int .i64 t685, .slice Ao13 t686.length co13, .slice Ao14 t689.length co14] 30 (0, 0)) (by (with_reducible repeat (first | refine blk_drewN ?_ _ | refine blk_drew ?_ | refine blk_alloc ?_ _)); exact BK693.out) hb); have n11_ := Aside0.mk (below_step (by repeat (first | (with_reducible first | exact HB.out | apply below_alloc | apply pw_below_drewN | apply below_drew1 | refine below_set ?_ GE669.out | refine below_set ?_ GE693.out) | exact HB.out)) hb); have n12_ := Aside0.mk (hbox); have n13_ := Aside0.mk ((by rw [hg]; exact (below_size (by repeat (first | (with_reducible first | exact HB.out | apply below_alloc | apply pw_below_drewN | apply below_drew1 | refine below_set ?_ GE669.out | refine below_set ?_ GE693.out) | exact HB.out))) : w.heap.size ≤ gb723)); have n14_ := Aside0.mk ((by rw [hg]; exact (below_size (by repeat (first | (with_reducible first | exact HB.out | apply below_alloc | apply pw_below_drewN | apply below_drew1 | refine below_set ?_ GE669.out | refine below_set ?_ GE693.out) | exact HB.out))) : w.heap.size ≤ gb723)); have n15_ := Aside0.mk ((by rw [hg]; exact Nat.ne_of_lt (blk_lt (g := gb669) (o := .cells #[.int .i64 t646, .int .i64 t647, .int .i64 t648, .int .i64 t649, .int .i64 t650, .slice Ao7 t651.length co7, .int .i64 t654, .int .i64 t655, .int .i64 t656, .int .i64 t657, .int .i64 t658, .int .i64 t659, .int .i64 t660, .int .i64 t661, .slice Ao8 t662.length co8, .slice Ao9 t665.length co9] 30 (0, 0)) (by (with_reducible repeat (first | refine blk_drewN ?_ _ | refine blk_drew ?_ | refine blk_alloc ?_ _)); exact BK669.out)) : gb669 ≠ gb723)); have n16_ := Aside0.mk ((by rw [hg]; exact Nat.ne_of_gt (blk_lt (g := gb669) (o := .cells #[.int .i64 t646, .int .i64 t647, .int .i64 t648, .int .i64 t649, .int .i64 t650, .slice Ao7 t651.length co7, .int .i64 t654, .int .i64 t655, .int .i64 t656, .int .i64 t657, .int .i64 t658, .int .i64 t659, .int .i64 t660, .int .i64 t661, .slice Ao8 t662.length co8, .slice Ao9 t665.length co9] 30 (0, 0)) (by (with_reducible repeat (first | refine blk_drewN ?_ _ | refine blk_drew ?_ | refine blk_alloc ?_ _)); exact BK669.out)) : gb723 ≠ gb669)); have n17_ := Aside0.mk ((by rw [hg]; exact Nat.ne_of_lt (blk_lt (g := gb693) (o := .cells #[.int .i64 t670, .int .i64 t671, .int .i64 t672, .int .i64 t673, .int .i64 t674, .slice Ao12 t675.length co12, .int .i64 t678, .int .i64 t679, .int .i64 t680, .int .i64 t681, .int .i64 t682, .int .i64 t683, .int .i64 t684, .int .i64 t685, .slice Ao13 t686.length co13, .slice Ao14 t689.length co14] 30 (0, 0)) (by (with_reducible repeat (first | refine blk_drewN ?_ _ | refine blk_drew ?_ | refine blk_alloc ?_ _)); exact BK693.out)) : gb693 ≠ gb723)); have n18_ := Aside0.mk ((by rw [hg]; exact Nat.ne_of_gt (blk_lt (g := gb693) (o := .cells #[.int .i64 t670, .int .i64 t671, .int .i64 t672, .int .i64 t673, .int .i64 t674, .slice Ao12 t675.length co12, .int .i64 t678, .int .i64 t679, .int .i64 t680, .int .i64 t681, .int .i64 t682, .int .i64 t683, .int .i64 t684, .int .i64 t685, .slice Ao13 t686.length co13, .slice Ao14 t689.length co14] 30 (0, 0)) (by (with_reducible repeat (first | refine blk_drewN ?_ _ | refine blk_drew ?_ | refine blk_alloc ?_ _)); exact BK693.out)) : gb723 ≠ gb693)); clear HO_670005; clear HO_670014; clear HO_670015; clear HO_694005; clear HO_694014; clear HO_694015; clear HO707; clear HO718; clear HO721; clear BK669; clear BK693; clear HB; have HO_670005 := n0_; have HO_670014 := n1_; have HO_670015 := n2_; have HO_694005 := n3_; have HO_694014 := n4_; have HO_694015 := n5_; have HO707 := n6_; have HO718 := n7_; have HO721 := n8_; have BK669 := n9_; have BK693 := n10_; have HB := n11_; have BK723 := n12_; have GW723 := n13_; have GE723 := n14_; have NB669_723 := n15_; have NB723_669 := n16_; have NB693_723 := n17_; have NB723_693 := n18_; clear n0_ n1_ n2_ n3_ n4_ n5_ n6_ n7_ n8_ n9_ n10_ n11_ n12_ n13_ n14_ n15_ n16_ n17_ n18_; clear hb hbox hg))
            (try simp only [Act.put, List.setIfInBounds_toArray, List.set_cons_zero, List.set_cons_succ])
            go_cut [59] (fun v59 wc => ∃ (kq : Nat) (x59_31 : Bool), v59 = .bool x59_31 ∧ Aside0 (laws_FnExactNodeNew.j1 kq t695 x59_31 t670 t671 t672 t673 t674 t696 t678 t679 t680 t681 t682 t683 t684 t685 t697 t698 = some r) ∧ Aside0 (kq ≤ kj4) ∧ Aside0 (Kd.R k54 54 wc w.heap.size (fun k_ => some k_ ≠ ((.slice Ao12 t675.length co12) : Value).ownBlock ∧ some k_ ≠ ((.slice Ao39 t705.length co39) : Value).ownBlock) (.slice Ao7 t651.length co7) t651) ∧ Aside0 (Kd.R (Kd.int .i64) 3 wc w.heap.size (fun k_ => some k_ ≠ ((.slice Ao9 t665.length co9) : Value).ownBlock ∧ some k_ ≠ ((.slice Ao13 t686.length co13) : Value).ownBlock ∧ some k_ ≠ ((.slice Ao14 t689.length co14) : Value).ownBlock ∧ some k_ ≠ ((.slice Ao40 t716.length co40) : Value).ownBlock ∧ some k_ ≠ ((.slice Ao41 t719.length co41) : Value).ownBlock) (.slice Ao8 t662.length co8) t662) ∧ Aside0 (Kd.R (Kd.int .i64) 3 wc w.heap.size (fun k_ => some k_ ≠ ((.slice Ao8 t662.length co8) : Value).ownBlock ∧ some k_ ≠ ((.slice Ao13 t686.length co13) : Value).ownBlock ∧ some k_ ≠ ((.slice Ao14 t689.length co14) : Value).ownBlock ∧ some k_ ≠ ((.slice Ao40 t716.length co40) : Value).ownBlock ∧ some k_ ≠ ((.slice Ao41 t719.length co41) : Value).ownBlock) (.slice Ao9 t665.length co9) t665) ∧ Aside0 (Kd.R k54 54 wc w.heap.size (fun k_ => some k_ ≠ ((.slice Ao7 t651.length co7) : Value).ownBlock ∧ some k_ ≠ ((.slice Ao39 t705.length co39) : Value).ownBlock) (.slice Ao12 t675.length co12) t696) ∧ Aside0 (Kd.R (Kd.int .i64) 3 wc w.heap.size (fun k_ => some k_ ≠ ((.slice Ao8 t662.length co8) : Value).ownBlock ∧ some k_ ≠ ((.slice Ao9 t665.length co9) : Value).ownBlock ∧ some k_ ≠ ((.slice Ao14 t689.length co14) : Value).ownBlock ∧ some k_ ≠ ((.slice Ao40 t716.length co40) : Value).ownBlock ∧ some k_ ≠ ((.slice Ao41 t719.length co41) : Value).ownBlock) (.slice Ao13 t686.length co13) t697) ∧ Aside0 (Kd.R (Kd.int .i64) 3 wc w.heap.size (fun k_ => some k_ ≠ ((.slice Ao8 t662.length co8) : Value).ownBlock ∧ some k_ ≠ ((.slice Ao9 t665.length co9) : Value).ownBlock ∧ some k_ ≠ ((.slice Ao13 t686.length co13) : Value).ownBlock ∧ some k_ ≠ ((.slice Ao40 t716.length co40) : Value).ownBlock ∧ some k_ ≠ ((.slice Ao41 t719.length co41) : Value).ownBlock) (.slice Ao14 t689.length co14) t698) ∧ Aside0 (Kd.R k54 54 wc w.heap.size (fun k_ => some k_ ≠ ((.slice Ao7 t651.length co7) : Value).ownBlock ∧ some k_ ≠ ((.slice Ao12 t675.length co12) : Value).ownBlock) (.slice Ao39 t705.length co39) t705) ∧ Aside0 (Kd.R (Kd.int .i64) 3 wc w.heap.size (fun k_ => some k_ ≠ ((.slice Ao8 t662.length co8) : Value).ownBlock ∧ some k_ ≠ ((.slice Ao9 t665.length co9) : Value).ownBlock ∧ some k_ ≠ ((.slice Ao13 t686.length co13) : Value).ownBlock ∧ some k_ ≠ ((.slice Ao14 t689.length co14) : Value).ownBlock ∧ some k_ ≠ ((.slice Ao41 t719.length co41) : Value).ownBlock) (.slice Ao40 t716.length co40) t716) ∧ Aside0 (Kd.R (Kd.int .i64) 3 wc w.heap.size (fun k_ => some k_ ≠ ((.slice Ao8 t662.length co8) : Value).ownBlock ∧ some k_ ≠ ((.slice Ao9 t665.length co9) : Value).ownBlock ∧ some k_ ≠ ((.slice Ao13 t686.length co13) : Value).ownBlock ∧ some k_ ≠ ((.slice Ao14 t689.length co14) : Value).ownBlock ∧ some k_ ≠ ((.slice Ao40 t716.length co40) : Value).ownBlock) (.slice Ao41 t719.length co41) t719) ∧ Aside0 (wc.heap[gb669]? = some (.cells #[.int .i64 t646, .int .i64 t647, .int .i64 t648, .int .i64 t649, .int .i64 t650, (.slice Ao7 t651.length co7), .int .i64 t654, .int .i64 t655, .int .i64 t656, .int .i64 t657, .int .i64 t658, .int .i64 t659, .int .i64 t660, .int .i64 t661, (.slice Ao8 t662.length co8), (.slice Ao9 t665.length co9)] 30 (0, 0))) ∧ Aside0 (wc.heap[gb693]? = some (.cells #[.int .i64 t670, .int .i64 t671, .int .i64 t672, .int .i64 t673, .int .i64 t674, (.slice Ao12 t675.length co12), .int .i64 t678, .int .i64 t679, .int .i64 t680, .int .i64 t681, .int .i64 t682, .int .i64 t683, .int .i64 t684, .int .i64 t685, (.slice Ao13 t686.length co13), (.slice Ao14 t689.length co14)] 30 (0, 0))) ∧ Aside0 (wc.heap[gb723]? = some (.cells #[.int .i64 t700, .int .i64 t701, .int .i64 t702, .int .i64 t703, .int .i64 t704, (.slice Ao39 t705.length co39), .int .i64 t708, .int .i64 t709, .int .i64 t710, .int .i64 t711, .int .i64 t712, .int .i64 t713, .int .i64 t714, .int .i64 t715, (.slice Ao40 t716.length co40), (.slice Ao41 t719.length co41)] 30 (0, 0))) ∧ Aside0 (Below w.heap.size w wc))
            case first =>
              have H := HC32.out
              clear HC32
              replace H := Option.bind_eq_some_iff.mp H
              obtain ⟨t724, A430, H⟩ := H
              replace H : (if t724 = true then (laws_FnExactNodeNew.j1 kj4 t695 (t722 != t668) t670 t671 t672 t673 t674 t696 t678 t679 t680 t681 t682 t683 t684 t685 t697 t698) else (laws_FnExactNodeNew.j1 kj4 t695 true t670 t671 t672 t673 t674 t696 t678 t679 t680 t681 t682 t683 t684 t685 t697 t698)) = some r := H
              have A43 := Aside0.mk A430
              clear A430
              by_cases c44 : t724 = true
              · subst c44
                have H1 : (laws_FnExactNodeNew.j1 kj4 t695 (t722 != t668) t670 t671 t672 t673 t674 t696 t678 t679 t680 t681 t682 t683 t684 t685 t697 t698) = some r := by rw [if_pos rfl] at H; exact H
                clear H
                have H := H1
                clear H1
                have H' := Aside0.mk H
                clear H
                have hnb45 := NB723_669.out
                have hnc45 := NB669_723.out
                have hnb46 := NB723_693.out
                have hnc46 := NB693_723.out
                have hcz47_0 : w42.cell? ⟨gb723, 0, none⟩ = some (.int .i64 t700) := (blk_cell BK723.out 0).trans rfl
                have hcz47_1 : w42.cell? ⟨gb723, 1, none⟩ = some (.int .i64 t701) := (blk_cell BK723.out 1).trans rfl
                have hcz47_2 : w42.cell? ⟨gb723, 2, none⟩ = some (.int .i64 t702) := (blk_cell BK723.out 2).trans rfl
                have hcz47_3 : w42.cell? ⟨gb723, 3, none⟩ = some (.int .i64 t703) := (blk_cell BK723.out 3).trans rfl
                have hcz47_4 : w42.cell? ⟨gb723, 4, none⟩ = some (.int .i64 t704) := (blk_cell BK723.out 4).trans rfl
                have hcz47_5 : w42.cell? ⟨gb723, 5, none⟩ = some (.slice Ao39 t705.length co39) := (blk_cell BK723.out 5).trans rfl
                have hcz47_6 : w42.cell? ⟨gb723, 6, none⟩ = some (.int .i64 t708) := (blk_cell BK723.out 6).trans rfl
                have hcz47_7 : w42.cell? ⟨gb723, 7, none⟩ = some (.int .i64 t709) := (blk_cell BK723.out 7).trans rfl
                have hcz47_8 : w42.cell? ⟨gb723, 8, none⟩ = some (.int .i64 t710) := (blk_cell BK723.out 8).trans rfl
                have hcz47_9 : w42.cell? ⟨gb723, 9, none⟩ = some (.int .i64 t711) := (blk_cell BK723.out 9).trans rfl
                have hcz47_10 : w42.cell? ⟨gb723, 10, none⟩ = some (.int .i64 t712) := (blk_cell BK723.out 10).trans rfl
                have hcz47_11 : w42.cell? ⟨gb723, 11, none⟩ = some (.int .i64 t713) := (blk_cell BK723.out 11).trans rfl
                have hcz47_12 : w42.cell? ⟨gb723, 12, none⟩ = some (.int .i64 t714) := (blk_cell BK723.out 12).trans rfl
                have hcz47_13 : w42.cell? ⟨gb723, 13, none⟩ = some (.int .i64 t715) := (blk_cell BK723.out 13).trans rfl
                have hcz47_14 : w42.cell? ⟨gb723, 14, none⟩ = some (.slice Ao40 t716.length co40) := (blk_cell BK723.out 14).trans rfl
                have hcz47_15 : w42.cell? ⟨gb723, 15, none⟩ = some (.slice Ao41 t719.length co41) := (blk_cell BK723.out 15).trans rfl
                have hfz47_0 := blk_frozen BK723.out 0
                have hfz47_1 := blk_frozen BK723.out 1
                have hfz47_2 := blk_frozen BK723.out 2
                have hfz47_3 := blk_frozen BK723.out 3
                have hfz47_4 := blk_frozen BK723.out 4
                have hfz47_5 := blk_frozen BK723.out 5
                have hfz47_6 := blk_frozen BK723.out 6
                have hfz47_7 := blk_frozen BK723.out 7
                have hfz47_8 := blk_frozen BK723.out 8
                have hfz47_9 := blk_frozen BK723.out 9
                have hfz47_10 := blk_frozen BK723.out 10
                have hfz47_11 := blk_frozen BK723.out 11
                have hfz47_12 := blk_frozen BK723.out 12
                have hfz47_13 := blk_frozen BK723.out 13
                have hfz47_14 := blk_frozen BK723.out 14
                have hfz47_15 := blk_frozen BK723.out 15
                have hnb48 := NB669_693.out
                have hnc48 := NB693_669.out
                have hcz49_0 : w42.cell? ⟨gb669, 0, none⟩ = some (.int .i64 t646) := (blk_cell BK669.out 0).trans rfl
                have hcz49_1 : w42.cell? ⟨gb669, 1, none⟩ = some (.int .i64 t647) := (blk_cell BK669.out 1).trans rfl
                have hcz49_2 : w42.cell? ⟨gb669, 2, none⟩ = some (.int .i64 t648) := (blk_cell BK669.out 2).trans rfl
                have hcz49_3 : w42.cell? ⟨gb669, 3, none⟩ = some (.int .i64 t649) := (blk_cell BK669.out 3).trans rfl
                have hcz49_4 : w42.cell? ⟨gb669, 4, none⟩ = some (.int .i64 t650) := (blk_cell BK669.out 4).trans rfl
                have hcz49_5 : w42.cell? ⟨gb669, 5, none⟩ = some (.slice Ao7 t651.length co7) := (blk_cell BK669.out 5).trans rfl
                have hcz49_6 : w42.cell? ⟨gb669, 6, none⟩ = some (.int .i64 t654) := (blk_cell BK669.out 6).trans rfl
                have hcz49_7 : w42.cell? ⟨gb669, 7, none⟩ = some (.int .i64 t655) := (blk_cell BK669.out 7).trans rfl
                have hcz49_8 : w42.cell? ⟨gb669, 8, none⟩ = some (.int .i64 t656) := (blk_cell BK669.out 8).trans rfl
                have hcz49_9 : w42.cell? ⟨gb669, 9, none⟩ = some (.int .i64 t657) := (blk_cell BK669.out 9).trans rfl
                have hcz49_10 : w42.cell? ⟨gb669, 10, none⟩ = some (.int .i64 t658) := (blk_cell BK669.out 10).trans rfl
                have hcz49_11 : w42.cell? ⟨gb669, 11, none⟩ = some (.int .i64 t659) := (blk_cell BK669.out 11).trans rfl
                have hcz49_12 : w42.cell? ⟨gb669, 12, none⟩ = some (.int .i64 t660) := (blk_cell BK669.out 12).trans rfl
                have hcz49_13 : w42.cell? ⟨gb669, 13, none⟩ = some (.int .i64 t661) := (blk_cell BK669.out 13).trans rfl
                have hcz49_14 : w42.cell? ⟨gb669, 14, none⟩ = some (.slice Ao8 t662.length co8) := (blk_cell BK669.out 14).trans rfl
                have hcz49_15 : w42.cell? ⟨gb669, 15, none⟩ = some (.slice Ao9 t665.length co9) := (blk_cell BK669.out 15).trans rfl
                have hfz49_0 := blk_frozen BK669.out 0
                have hfz49_1 := blk_frozen BK669.out 1
                have hfz49_2 := blk_frozen BK669.out 2
                have hfz49_3 := blk_frozen BK669.out 3
                have hfz49_4 := blk_frozen BK669.out 4
                have hfz49_5 := blk_frozen BK669.out 5
                have hfz49_6 := blk_frozen BK669.out 6
                have hfz49_7 := blk_frozen BK669.out 7
                have hfz49_8 := blk_frozen BK669.out 8
                have hfz49_9 := blk_frozen BK669.out 9
                have hfz49_10 := blk_frozen BK669.out 10
                have hfz49_11 := blk_frozen BK669.out 11
                have hfz49_12 := blk_frozen BK669.out 12
                have hfz49_13 := blk_frozen BK669.out 13
                have hfz49_14 := blk_frozen BK669.out 14
                have hfz49_15 := blk_frozen BK669.out 15
                as_aux_lemma =>
                go_wp2_with (first | ((with_reducible refine gate_callee (f := 13) rfl ?_); refine goesL_ (some 53) rfl rfl Try.func13 (by kernel_rfl) rfl #[.agg #[.int .i64 t700, .int .i64 t701, .int .i64 t702, .int .i64 t703, .int .i64 t704, .slice Ao39 t705.length co39, .int .i64 t708, .int .i64 t709, .int .i64 t710, .int .i64 t711, .int .i64 t712, .int .i64 t713, .int .i64 t714, .int .i64 t715, .slice Ao40 t716.length co40, .slice Ao41 t719.length co41], .agg #[.int .i64 t646, .int .i64 t647, .int .i64 t648, .int .i64 t649, .int .i64 t650, .slice Ao7 t651.length co7, .int .i64 t654, .int .i64 t655, .int .i64 t656, .int .i64 t657, .int .i64 t658, .int .i64 t659, .int .i64 t660, .int .i64 t661, .slice Ao8 t662.length co8, .slice Ao9 t665.length co9]] rfl (by (try simp only [List.map_toArray, List.map_cons, List.map_nil]); first | done | rfl | (simp only [List.length_drop, List.length_take]; rfl)) ?_; (with_reducible refine (laws_eqNode.calls kj4 t700 t701 t702 t703 t704 _ _ t705 t708 t709 t710 t711 t712 t713 t714 t715 _ _ t716 _ _ t719 t646 t647 t648 t649 t650 _ _ t651 t654 t655 t656 t657 t658 t659 t660 t661 _ _ t662 _ _ t665 true _ ?side1 ?side2 ?side3 ?side4 ?side5 ?side6 ?side7 ?side8 ?side9 ?side10 ?side11 ?side12 A43.out).mono ?_); (case side1 => repeat (first | exact (Kd.R_reads' HO707.out).2.2 | (with_reducible refine Kd.C_alloc ?_ _) | (with_reducible refine Kd.C_drewN ?_ _) | (with_reducible refine Kd.C_drew ?_))); (case side2 => exact (Kd.R_reads' HO707.out).2.1); (case side3 => repeat (first | exact (Kd.R_reads' HO718.out).2.2 | (with_reducible refine Kd.C_alloc ?_ _) | (with_reducible refine Kd.C_drewN ?_ _) | (with_reducible refine Kd.C_drew ?_))); (case side4 => exact (Kd.R_reads' HO718.out).2.1); (case side5 => repeat (first | exact (Kd.R_reads' HO721.out).2.2 | (with_reducible refine Kd.C_alloc ?_ _) | (with_reducible refine Kd.C_drewN ?_ _) | (with_reducible refine Kd.C_drew ?_))); (case side6 => exact (Kd.R_reads' HO721.out).2.1); (case side7 => repeat (first | exact (Kd.R_reads' HO_670005.out).2.2 | (with_reducible refine Kd.C_alloc ?_ _) | (with_reducible refine Kd.C_drewN ?_ _) | (with_reducible refine Kd.C_drew ?_))); (case side8 => exact (Kd.R_reads' HO_670005.out).2.1); (case side9 => repeat (first | exact (Kd.R_reads' HO_670014.out).2.2 | (with_reducible refine Kd.C_alloc ?_ _) | (with_reducible refine Kd.C_drewN ?_ _) | (with_reducible refine Kd.C_drew ?_))); (case side10 => exact (Kd.R_reads' HO_670014.out).2.1); (case side11 => repeat (first | exact (Kd.R_reads' HO_670015.out).2.2 | (with_reducible refine Kd.C_alloc ?_ _) | (with_reducible refine Kd.C_drewN ?_ _) | (with_reducible refine Kd.C_drew ?_))); (case side12 => exact (Kd.R_reads' HO_670015.out).2.1); rintro e w50 ⟨rfl, hb⟩; refine ⟨_, rfl, ?_⟩; have n0_ := Aside0.mk (Kd.R_below (by (with_reducible repeat (first | apply Kd.R_alloc | apply Kd.R_drewN | apply Kd.R_drew)); exact HO_670005.out) hb); have n1_ := Aside0.mk (Kd.R_below (by (with_reducible repeat (first | apply Kd.R_alloc | apply Kd.R_drewN | apply Kd.R_drew)); exact HO_670014.out) hb); have n2_ := Aside0.mk (Kd.R_below (by (with_reducible repeat (first | apply Kd.R_alloc | apply Kd.R_drewN | apply Kd.R_drew)); exact HO_670015.out) hb); have n3_ := Aside0.mk (Kd.R_below (by (with_reducible repeat (first | apply Kd.R_alloc | apply Kd.R_drewN | apply Kd.R_drew)); exact HO_694005.out) hb); have n4_ := Aside0.mk (Kd.R_below (by (with_reducible repeat (first | apply Kd.R_alloc | apply Kd.R_drewN | apply Kd.R_drew)); exact HO_694014.out) hb); have n5_ := Aside0.mk (Kd.R_below (by (with_reducible repeat (first | apply Kd.R_alloc | apply Kd.R_drewN | apply Kd.R_drew)); exact HO_694015.out) hb); have n6_ := Aside0.mk (Kd.R_below (by (with_reducible repeat (first | apply Kd.R_alloc | apply Kd.R_drewN | apply Kd.R_drew)); exact HO707.out) hb); have n7_ := Aside0.mk (Kd.R_below (by (with_reducible repeat (first | apply Kd.R_alloc | apply Kd.R_drewN | apply Kd.R_drew)); exact HO718.out) hb); have n8_ := Aside0.mk (Kd.R_below (by (with_reducible repeat (first | apply Kd.R_alloc | apply Kd.R_drewN | apply Kd.R_drew)); exact HO721.out) hb); have n9_ := Aside0.mk (blk_below (g := gb669) (o := .cells #[.int .i64 t646, .int .i64 t647, .int .i64 t648, .int .i64 t649, .int .i64 t650, .slice Ao7 t651.length co7, .int .i64 t654, .int .i64 t655, .int .i64 t656, .int .i64 t657, .int .i64 t658, .int .i64 t659, .int .i64 t660, .int .i64 t661, .slice Ao8 t662.length co8, .slice Ao9 t665.length co9] 30 (0, 0)) (by (with_reducible repeat (first | refine blk_drewN ?_ _ | refine blk_drew ?_ | refine blk_alloc ?_ _)); exact BK669.out) hb); have n10_ := Aside0.mk (blk_below (g := gb693) (o := .cells #[.int .i64 t670, .int .i64 t671, .int .i64 t672, .int .i64 t673, .int .i64 t674, .slice Ao12 t675.length co12, .int .i64 t678, .int .i64 t679, .int .i64 t680, .int .i64 t681, .int .i64 t682, .int .i64 t683, .int .i64 t684, .int .i64 t685, .slice Ao13 t686.length co13, .slice Ao14 t689.length co14] 30 (0, 0)) (by (with_reducible repeat (first | refine blk_drewN ?_ _ | refine blk_drew ?_ | refine blk_alloc ?_ _)); exact BK693.out) hb); have n11_ := Aside0.mk (blk_below (g := gb723) (o := .cells #[.int .i64 t700, .int .i64 t701, .int .i64 t702, .int .i64 t703, .int .i64 t704, .slice Ao39 t705.length co39, .int .i64 t708, .int .i64 t709, .int .i64 t710, .int .i64 t711, .int .i64 t712, .int .i64 t713, .int .i64 t714, .int .i64 t715, .slice Ao40 t716.length co40, .slice Ao41 t719.length co41] 30 (0, 0)) (by (with_reducible repeat (first | refine blk_drewN ?_ _ | refine blk_drew ?_ | refine blk_alloc ?_ _)); exact BK723.out) hb); have n12_ := Aside0.mk (below_step (by repeat (first | (with_reducible first | exact HB.out | apply below_alloc | apply pw_below_drewN | apply below_drew1 | refine below_set ?_ GE669.out | refine below_set ?_ GE693.out | refine below_set ?_ GE723.out) | exact HB.out)) hb); clear HO_670005; clear HO_670014; clear HO_670015; clear HO_694005; clear HO_694014; clear HO_694015; clear HO707; clear HO718; clear HO721; clear BK669; clear BK693; clear BK723; clear HB; have HO_670005 := n0_; have HO_670014 := n1_; have HO_670015 := n2_; have HO_694005 := n3_; have HO_694014 := n4_; have HO_694015 := n5_; have HO707 := n6_; have HO718 := n7_; have HO721 := n8_; have BK669 := n9_; have BK693 := n10_; have BK723 := n11_; have HB := n12_; clear n0_ n1_ n2_ n3_ n4_ n5_ n6_ n7_ n8_ n9_ n10_ n11_ n12_; (try clear hb); (try clear hb2); (try clear hk); (try clear hi)))
                go_meet
                case rel => exact ⟨_, ((t722 != t668)), (by first | rfl | (simp; done) | (simp [*]; done)), H', ⟨by have := HJ4.out; first | omega | exact Nat.le_refl _⟩, ⟨by (with_reducible repeat (first | apply Kd.R_alloc | apply Kd.R_drewN | apply Kd.R_drew)); exact HO_670005.out⟩, ⟨by (with_reducible repeat (first | apply Kd.R_alloc | apply Kd.R_drewN | apply Kd.R_drew)); exact Kd.R_mono HO_670014.out (fun _ hk => ⟨hk.1.1.1, ⟨hk.1.1.2.1, ⟨hk.1.1.2.2, ⟨hk.1.2, hk.2⟩⟩⟩⟩)⟩, ⟨by (with_reducible repeat (first | apply Kd.R_alloc | apply Kd.R_drewN | apply Kd.R_drew)); exact Kd.R_mono HO_670015.out (fun _ hk => ⟨hk.1.1.1, ⟨hk.1.1.2.1, ⟨hk.1.1.2.2, ⟨hk.1.2, hk.2⟩⟩⟩⟩)⟩, ⟨by (with_reducible repeat (first | apply Kd.R_alloc | apply Kd.R_drewN | apply Kd.R_drew)); exact HO_694005.out⟩, ⟨by (with_reducible repeat (first | apply Kd.R_alloc | apply Kd.R_drewN | apply Kd.R_drew)); exact Kd.R_mono HO_694014.out (fun _ hk => ⟨hk.1.1.1, ⟨hk.1.1.2.1, ⟨hk.1.1.2.2, ⟨hk.1.2, hk.2⟩⟩⟩⟩)⟩, ⟨by (with_reducible repeat (first | apply Kd.R_alloc | apply Kd.R_drewN | apply Kd.R_drew)); exact Kd.R_mono HO_694015.out (fun _ hk => ⟨hk.1.1.1, ⟨hk.1.1.2.1, ⟨hk.1.1.2.2, ⟨hk.1.2, hk.2⟩⟩⟩⟩)⟩, ⟨by (with_reducible repeat (first | apply Kd.R_alloc | apply Kd.R_drewN | apply Kd.R_drew)); exact Kd.R_mono HO707.out (fun _ hk => ⟨hk.1.2, hk.2⟩)⟩, ⟨by (with_reducible repeat (first | apply Kd.R_alloc | apply Kd.R_drewN | apply Kd.R_drew)); exact Kd.R_mono HO718.out (fun _ hk => ⟨hk.1.1.1.2, ⟨hk.1.1.2, ⟨hk.1.2, ⟨hk.2, hk.1.1.1.1⟩⟩⟩⟩)⟩, ⟨by (with_reducible repeat (first | apply Kd.R_alloc | apply Kd.R_drewN | apply Kd.R_drew)); exact Kd.R_mono HO721.out (fun _ hk => ⟨hk.1.1.1.2, ⟨hk.1.1.2, ⟨hk.1.2, ⟨hk.2, hk.1.1.1.1⟩⟩⟩⟩)⟩, ⟨by (with_reducible repeat (first | refine blk_drewN ?_ _ | refine blk_drew ?_ | refine blk_alloc ?_ _)); exact BK669.out⟩, ⟨by (with_reducible repeat (first | refine blk_drewN ?_ _ | refine blk_drew ?_ | refine blk_alloc ?_ _)); exact BK693.out⟩, ⟨by (with_reducible repeat (first | refine blk_drewN ?_ _ | refine blk_drew ?_ | refine blk_alloc ?_ _)); exact BK723.out⟩, ⟨by repeat (first | (with_reducible first | exact HB.out | apply below_alloc | apply pw_below_drewN | apply below_drew1 | refine below_set ?_ GE669.out | refine below_set ?_ GE693.out | refine below_set ?_ GE723.out) | exact HB.out)⟩⟩
              · replace c44 := Bool.eq_false_iff.mpr c44
                subst c44
                have H1 : (laws_FnExactNodeNew.j1 kj4 t695 true t670 t671 t672 t673 t674 t696 t678 t679 t680 t681 t682 t683 t684 t685 t697 t698) = some r := by rw [if_neg (show ¬ (false = true) by decide)] at H; exact H
                clear H
                have H := H1
                clear H1
                have H' := Aside0.mk H
                clear H
                have hnb51 := NB723_669.out
                have hnc51 := NB669_723.out
                have hnb52 := NB723_693.out
                have hnc52 := NB693_723.out
                have hcz53_0 : w42.cell? ⟨gb723, 0, none⟩ = some (.int .i64 t700) := (blk_cell BK723.out 0).trans rfl
                have hcz53_1 : w42.cell? ⟨gb723, 1, none⟩ = some (.int .i64 t701) := (blk_cell BK723.out 1).trans rfl
                have hcz53_2 : w42.cell? ⟨gb723, 2, none⟩ = some (.int .i64 t702) := (blk_cell BK723.out 2).trans rfl
                have hcz53_3 : w42.cell? ⟨gb723, 3, none⟩ = some (.int .i64 t703) := (blk_cell BK723.out 3).trans rfl
                have hcz53_4 : w42.cell? ⟨gb723, 4, none⟩ = some (.int .i64 t704) := (blk_cell BK723.out 4).trans rfl
                have hcz53_5 : w42.cell? ⟨gb723, 5, none⟩ = some (.slice Ao39 t705.length co39) := (blk_cell BK723.out 5).trans rfl
                have hcz53_6 : w42.cell? ⟨gb723, 6, none⟩ = some (.int .i64 t708) := (blk_cell BK723.out 6).trans rfl
                have hcz53_7 : w42.cell? ⟨gb723, 7, none⟩ = some (.int .i64 t709) := (blk_cell BK723.out 7).trans rfl
                have hcz53_8 : w42.cell? ⟨gb723, 8, none⟩ = some (.int .i64 t710) := (blk_cell BK723.out 8).trans rfl
                have hcz53_9 : w42.cell? ⟨gb723, 9, none⟩ = some (.int .i64 t711) := (blk_cell BK723.out 9).trans rfl
                have hcz53_10 : w42.cell? ⟨gb723, 10, none⟩ = some (.int .i64 t712) := (blk_cell BK723.out 10).trans rfl
                have hcz53_11 : w42.cell? ⟨gb723, 11, none⟩ = some (.int .i64 t713) := (blk_cell BK723.out 11).trans rfl
                have hcz53_12 : w42.cell? ⟨gb723, 12, none⟩ = some (.int .i64 t714) := (blk_cell BK723.out 12).trans rfl
                have hcz53_13 : w42.cell? ⟨gb723, 13, none⟩ = some (.int .i64 t715) := (blk_cell BK723.out 13).trans rfl
                have hcz53_14 : w42.cell? ⟨gb723, 14, none⟩ = some (.slice Ao40 t716.length co40) := (blk_cell BK723.out 14).trans rfl
                have hcz53_15 : w42.cell? ⟨gb723, 15, none⟩ = some (.slice Ao41 t719.length co41) := (blk_cell BK723.out 15).trans rfl
                have hfz53_0 := blk_frozen BK723.out 0
                have hfz53_1 := blk_frozen BK723.out 1
                have hfz53_2 := blk_frozen BK723.out 2
                have hfz53_3 := blk_frozen BK723.out 3
                have hfz53_4 := blk_frozen BK723.out 4
                have hfz53_5 := blk_frozen BK723.out 5
                have hfz53_6 := blk_frozen BK723.out 6
                have hfz53_7 := blk_frozen BK723.out 7
                have hfz53_8 := blk_frozen BK723.out 8
                have hfz53_9 := blk_frozen BK723.out 9
                have hfz53_10 := blk_frozen BK723.out 10
                have hfz53_11 := blk_frozen BK723.out 11
                have hfz53_12 := blk_frozen BK723.out 12
                have hfz53_13 := blk_frozen BK723.out 13
                have hfz53_14 := blk_frozen BK723.out 14
                have hfz53_15 := blk_frozen BK723.out 15
                have hnb54 := NB669_693.out
                have hnc54 := NB693_669.out
                have hcz55_0 : w42.cell? ⟨gb669, 0, none⟩ = some (.int .i64 t646) := (blk_cell BK669.out 0).trans rfl
                have hcz55_1 : w42.cell? ⟨gb669, 1, none⟩ = some (.int .i64 t647) := (blk_cell BK669.out 1).trans rfl
                have hcz55_2 : w42.cell? ⟨gb669, 2, none⟩ = some (.int .i64 t648) := (blk_cell BK669.out 2).trans rfl
                have hcz55_3 : w42.cell? ⟨gb669, 3, none⟩ = some (.int .i64 t649) := (blk_cell BK669.out 3).trans rfl
                have hcz55_4 : w42.cell? ⟨gb669, 4, none⟩ = some (.int .i64 t650) := (blk_cell BK669.out 4).trans rfl
                have hcz55_5 : w42.cell? ⟨gb669, 5, none⟩ = some (.slice Ao7 t651.length co7) := (blk_cell BK669.out 5).trans rfl
                have hcz55_6 : w42.cell? ⟨gb669, 6, none⟩ = some (.int .i64 t654) := (blk_cell BK669.out 6).trans rfl
                have hcz55_7 : w42.cell? ⟨gb669, 7, none⟩ = some (.int .i64 t655) := (blk_cell BK669.out 7).trans rfl
                have hcz55_8 : w42.cell? ⟨gb669, 8, none⟩ = some (.int .i64 t656) := (blk_cell BK669.out 8).trans rfl
                have hcz55_9 : w42.cell? ⟨gb669, 9, none⟩ = some (.int .i64 t657) := (blk_cell BK669.out 9).trans rfl
                have hcz55_10 : w42.cell? ⟨gb669, 10, none⟩ = some (.int .i64 t658) := (blk_cell BK669.out 10).trans rfl
                have hcz55_11 : w42.cell? ⟨gb669, 11, none⟩ = some (.int .i64 t659) := (blk_cell BK669.out 11).trans rfl
                have hcz55_12 : w42.cell? ⟨gb669, 12, none⟩ = some (.int .i64 t660) := (blk_cell BK669.out 12).trans rfl
                have hcz55_13 : w42.cell? ⟨gb669, 13, none⟩ = some (.int .i64 t661) := (blk_cell BK669.out 13).trans rfl
                have hcz55_14 : w42.cell? ⟨gb669, 14, none⟩ = some (.slice Ao8 t662.length co8) := (blk_cell BK669.out 14).trans rfl
                have hcz55_15 : w42.cell? ⟨gb669, 15, none⟩ = some (.slice Ao9 t665.length co9) := (blk_cell BK669.out 15).trans rfl
                have hfz55_0 := blk_frozen BK669.out 0
                have hfz55_1 := blk_frozen BK669.out 1
                have hfz55_2 := blk_frozen BK669.out 2
                have hfz55_3 := blk_frozen BK669.out 3
                have hfz55_4 := blk_frozen BK669.out 4
                have hfz55_5 := blk_frozen BK669.out 5
                have hfz55_6 := blk_frozen BK669.out 6
                have hfz55_7 := blk_frozen BK669.out 7
                have hfz55_8 := blk_frozen BK669.out 8
                have hfz55_9 := blk_frozen BK669.out 9
                have hfz55_10 := blk_frozen BK669.out 10
                have hfz55_11 := blk_frozen BK669.out 11
                have hfz55_12 := blk_frozen BK669.out 12
                have hfz55_13 := blk_frozen BK669.out 13
                have hfz55_14 := blk_frozen BK669.out 14
                have hfz55_15 := blk_frozen BK669.out 15
                as_aux_lemma =>
                go_wp2_with (first | ((with_reducible refine gate_callee (f := 13) rfl ?_); refine goesL_ (some 53) rfl rfl Try.func13 (by kernel_rfl) rfl #[.agg #[.int .i64 t700, .int .i64 t701, .int .i64 t702, .int .i64 t703, .int .i64 t704, .slice Ao39 t705.length co39, .int .i64 t708, .int .i64 t709, .int .i64 t710, .int .i64 t711, .int .i64 t712, .int .i64 t713, .int .i64 t714, .int .i64 t715, .slice Ao40 t716.length co40, .slice Ao41 t719.length co41], .agg #[.int .i64 t646, .int .i64 t647, .int .i64 t648, .int .i64 t649, .int .i64 t650, .slice Ao7 t651.length co7, .int .i64 t654, .int .i64 t655, .int .i64 t656, .int .i64 t657, .int .i64 t658, .int .i64 t659, .int .i64 t660, .int .i64 t661, .slice Ao8 t662.length co8, .slice Ao9 t665.length co9]] rfl (by (try simp only [List.map_toArray, List.map_cons, List.map_nil]); first | done | rfl | (simp only [List.length_drop, List.length_take]; rfl)) ?_; (with_reducible refine (laws_eqNode.calls kj4 t700 t701 t702 t703 t704 _ _ t705 t708 t709 t710 t711 t712 t713 t714 t715 _ _ t716 _ _ t719 t646 t647 t648 t649 t650 _ _ t651 t654 t655 t656 t657 t658 t659 t660 t661 _ _ t662 _ _ t665 false _ ?side1 ?side2 ?side3 ?side4 ?side5 ?side6 ?side7 ?side8 ?side9 ?side10 ?side11 ?side12 A43.out).mono ?_); (case side1 => repeat (first | exact (Kd.R_reads' HO707.out).2.2 | (with_reducible refine Kd.C_alloc ?_ _) | (with_reducible refine Kd.C_drewN ?_ _) | (with_reducible refine Kd.C_drew ?_))); (case side2 => exact (Kd.R_reads' HO707.out).2.1); (case side3 => repeat (first | exact (Kd.R_reads' HO718.out).2.2 | (with_reducible refine Kd.C_alloc ?_ _) | (with_reducible refine Kd.C_drewN ?_ _) | (with_reducible refine Kd.C_drew ?_))); (case side4 => exact (Kd.R_reads' HO718.out).2.1); (case side5 => repeat (first | exact (Kd.R_reads' HO721.out).2.2 | (with_reducible refine Kd.C_alloc ?_ _) | (with_reducible refine Kd.C_drewN ?_ _) | (with_reducible refine Kd.C_drew ?_))); (case side6 => exact (Kd.R_reads' HO721.out).2.1); (case side7 => repeat (first | exact (Kd.R_reads' HO_670005.out).2.2 | (with_reducible refine Kd.C_alloc ?_ _) | (with_reducible refine Kd.C_drewN ?_ _) | (with_reducible refine Kd.C_drew ?_))); (case side8 => exact (Kd.R_reads' HO_670005.out).2.1); (case side9 => repeat (first | exact (Kd.R_reads' HO_670014.out).2.2 | (with_reducible refine Kd.C_alloc ?_ _) | (with_reducible refine Kd.C_drewN ?_ _) | (with_reducible refine Kd.C_drew ?_))); (case side10 => exact (Kd.R_reads' HO_670014.out).2.1); (case side11 => repeat (first | exact (Kd.R_reads' HO_670015.out).2.2 | (with_reducible refine Kd.C_alloc ?_ _) | (with_reducible refine Kd.C_drewN ?_ _) | (with_reducible refine Kd.C_drew ?_))); (case side12 => exact (Kd.R_reads' HO_670015.out).2.1); rintro e w56 ⟨rfl, hb⟩; refine ⟨_, rfl, ?_⟩; have n0_ := Aside0.mk (Kd.R_below (by (with_reducible repeat (first | apply Kd.R_alloc | apply Kd.R_drewN | apply Kd.R_drew)); exact HO_670005.out) hb); have n1_ := Aside0.mk (Kd.R_below (by (with_reducible repeat (first | apply Kd.R_alloc | apply Kd.R_drewN | apply Kd.R_drew)); exact HO_670014.out) hb); have n2_ := Aside0.mk (Kd.R_below (by (with_reducible repeat (first | apply Kd.R_alloc | apply Kd.R_drewN | apply Kd.R_drew)); exact HO_670015.out) hb); have n3_ := Aside0.mk (Kd.R_below (by (with_reducible repeat (first | apply Kd.R_alloc | apply Kd.R_drewN | apply Kd.R_drew)); exact HO_694005.out) hb); have n4_ := Aside0.mk (Kd.R_below (by (with_reducible repeat (first | apply Kd.R_alloc | apply Kd.R_drewN | apply Kd.R_drew)); exact HO_694014.out) hb); have n5_ := Aside0.mk (Kd.R_below (by (with_reducible repeat (first | apply Kd.R_alloc | apply Kd.R_drewN | apply Kd.R_drew)); exact HO_694015.out) hb); have n6_ := Aside0.mk (Kd.R_below (by (with_reducible repeat (first | apply Kd.R_alloc | apply Kd.R_drewN | apply Kd.R_drew)); exact HO707.out) hb); have n7_ := Aside0.mk (Kd.R_below (by (with_reducible repeat (first | apply Kd.R_alloc | apply Kd.R_drewN | apply Kd.R_drew)); exact HO718.out) hb); have n8_ := Aside0.mk (Kd.R_below (by (with_reducible repeat (first | apply Kd.R_alloc | apply Kd.R_drewN | apply Kd.R_drew)); exact HO721.out) hb); have n9_ := Aside0.mk (blk_below (g := gb669) (o := .cells #[.int .i64 t646, .int .i64 t647, .int .i64 t648, .int .i64 t649, .int .i64 t650, .slice Ao7 t651.length co7, .int .i64 t654, .int .i64 t655, .int .i64 t656, .int .i64 t657, .int .i64 t658, .int .i64 t659, .int .i64 t660, .int .i64 t661, .slice Ao8 t662.length co8, .slice Ao9 t665.length co9] 30 (0, 0)) (by (with_reducible repeat (first | refine blk_drewN ?_ _ | refine blk_drew ?_ | refine blk_alloc ?_ _)); exact BK669.out) hb); have n10_ := Aside0.mk (blk_below (g := gb693) (o := .cells #[.int .i64 t670, .int .i64 t671, .int .i64 t672, .int .i64 t673, .int .i64 t674, .slice Ao12 t675.length co12, .int .i64 t678, .int .i64 t679, .int .i64 t680, .int .i64 t681, .int .i64 t682, .int .i64 t683, .int .i64 t684, .int .i64 t685, .slice Ao13 t686.length co13, .slice Ao14 t689.length co14] 30 (0, 0)) (by (with_reducible repeat (first | refine blk_drewN ?_ _ | refine blk_drew ?_ | refine blk_alloc ?_ _)); exact BK693.out) hb); have n11_ := Aside0.mk (blk_below (g := gb723) (o := .cells #[.int .i64 t700, .int .i64 t701, .int .i64 t702, .int .i64 t703, .int .i64 t704, .slice Ao39 t705.length co39, .int .i64 t708, .int .i64 t709, .int .i64 t710, .int .i64 t711, .int .i64 t712, .int .i64 t713, .int .i64 t714, .int .i64 t715, .slice Ao40 t716.length co40, .slice Ao41 t719.length co41] 30 (0, 0)) (by (with_reducible repeat (first | refine blk_drewN ?_ _ | refine blk_drew ?_ | refine blk_alloc ?_ _)); exact BK723.out) hb); have n12_ := Aside0.mk (below_step (by repeat (first | (with_reducible first | exact HB.out | apply below_alloc | apply pw_below_drewN | apply below_drew1 | refine below_set ?_ GE669.out | refine below_set ?_ GE693.out | refine below_set ?_ GE723.out) | exact HB.out)) hb); clear HO_670005; clear HO_670014; clear HO_670015; clear HO_694005; clear HO_694014; clear HO_694015; clear HO707; clear HO718; clear HO721; clear BK669; clear BK693; clear BK723; clear HB; have HO_670005 := n0_; have HO_670014 := n1_; have HO_670015 := n2_; have HO_694005 := n3_; have HO_694014 := n4_; have HO_694015 := n5_; have HO707 := n6_; have HO718 := n7_; have HO721 := n8_; have BK669 := n9_; have BK693 := n10_; have BK723 := n11_; have HB := n12_; clear n0_ n1_ n2_ n3_ n4_ n5_ n6_ n7_ n8_ n9_ n10_ n11_ n12_; (try clear hb); (try clear hb2); (try clear hk); (try clear hi)))
                go_meet
                case rel => exact ⟨_, (true), (by first | rfl | (simp; done) | (simp [*]; done)), H', ⟨by have := HJ4.out; first | omega | exact Nat.le_refl _⟩, ⟨by (with_reducible repeat (first | apply Kd.R_alloc | apply Kd.R_drewN | apply Kd.R_drew)); exact HO_670005.out⟩, ⟨by (with_reducible repeat (first | apply Kd.R_alloc | apply Kd.R_drewN | apply Kd.R_drew)); exact Kd.R_mono HO_670014.out (fun _ hk => ⟨hk.1.1.1, ⟨hk.1.1.2.1, ⟨hk.1.1.2.2, ⟨hk.1.2, hk.2⟩⟩⟩⟩)⟩, ⟨by (with_reducible repeat (first | apply Kd.R_alloc | apply Kd.R_drewN | apply Kd.R_drew)); exact Kd.R_mono HO_670015.out (fun _ hk => ⟨hk.1.1.1, ⟨hk.1.1.2.1, ⟨hk.1.1.2.2, ⟨hk.1.2, hk.2⟩⟩⟩⟩)⟩, ⟨by (with_reducible repeat (first | apply Kd.R_alloc | apply Kd.R_drewN | apply Kd.R_drew)); exact HO_694005.out⟩, ⟨by (with_reducible repeat (first | apply Kd.R_alloc | apply Kd.R_drewN | apply Kd.R_drew)); exact Kd.R_mono HO_694014.out (fun _ hk => ⟨hk.1.1.1, ⟨hk.1.1.2.1, ⟨hk.1.1.2.2, ⟨hk.1.2, hk.2⟩⟩⟩⟩)⟩, ⟨by (with_reducible repeat (first | apply Kd.R_alloc | apply Kd.R_drewN | apply Kd.R_drew)); exact Kd.R_mono HO_694015.out (fun _ hk => ⟨hk.1.1.1, ⟨hk.1.1.2.1, ⟨hk.1.1.2.2, ⟨hk.1.2, hk.2⟩⟩⟩⟩)⟩, ⟨by (with_reducible repeat (first | apply Kd.R_alloc | apply Kd.R_drewN | apply Kd.R_drew)); exact Kd.R_mono HO707.out (fun _ hk => ⟨hk.1.2, hk.2⟩)⟩, ⟨by (with_reducible repeat (first | apply Kd.R_alloc | apply Kd.R_drewN | apply Kd.R_drew)); exact Kd.R_mono HO718.out (fun _ hk => ⟨hk.1.1.1.2, ⟨hk.1.1.2, ⟨hk.1.2, ⟨hk.2, hk.1.1.1.1⟩⟩⟩⟩)⟩, ⟨by (with_reducible repeat (first | apply Kd.R_alloc | apply Kd.R_drewN | apply Kd.R_drew)); exact Kd.R_mono HO721.out (fun _ hk => ⟨hk.1.1.1.2, ⟨hk.1.1.2, ⟨hk.1.2, ⟨hk.2, hk.1.1.1.1⟩⟩⟩⟩)⟩, ⟨by (with_reducible repeat (first | refine blk_drewN ?_ _ | refine blk_drew ?_ | refine blk_alloc ?_ _)); exact BK669.out⟩, ⟨by (with_reducible repeat (first | refine blk_drewN ?_ _ | refine blk_drew ?_ | refine blk_alloc ?_ _)); exact BK693.out⟩, ⟨by (with_reducible repeat (first | refine blk_drewN ?_ _ | refine blk_drew ?_ | refine blk_alloc ?_ _)); exact BK723.out⟩, ⟨by repeat (first | (with_reducible first | exact HB.out | apply below_alloc | apply pw_below_drewN | apply below_drew1 | refine below_set ?_ GE669.out | refine below_set ?_ GE693.out | refine below_set ?_ GE723.out) | exact HB.out)⟩⟩
            case rest =>
              as_aux_lemma =>
              clear HC32
              try clear c1
              try clear c2
              try clear p2
              try clear c3
              try clear c4
              try clear c5
              try clear c13
              try clear c14
              try clear c15
              try clear c16
              try clear c17
              try clear c18
              try clear c22
              try clear c26
              try clear c29
              try clear c29b0
              try clear c30
              try clear c30b0
              try clear c30b1
              try clear c33
              try clear c44
              try clear c45
              try clear c46
              try clear c48
              try clear c51
              try clear c52
              try clear c54
              try clear hcz19_0
              try clear hcz19_1
              try clear hcz19_10
              try clear hcz19_11
              try clear hcz19_12
              try clear hcz19_13
              try clear hcz19_14
              try clear hcz19_15
              try clear hcz19_2
              try clear hcz19_3
              try clear hcz19_4
              try clear hcz19_5
              try clear hcz19_6
              try clear hcz19_7
              try clear hcz19_8
              try clear hcz19_9
              try clear hcz20_0
              try clear hcz20_1
              try clear hcz20_10
              try clear hcz20_11
              try clear hcz20_12
              try clear hcz20_13
              try clear hcz20_14
              try clear hcz20_15
              try clear hcz20_2
              try clear hcz20_3
              try clear hcz20_4
              try clear hcz20_5
              try clear hcz20_6
              try clear hcz20_7
              try clear hcz20_8
              try clear hcz20_9
              try clear hcz23_0
              try clear hcz23_1
              try clear hcz23_10
              try clear hcz23_11
              try clear hcz23_12
              try clear hcz23_13
              try clear hcz23_14
              try clear hcz23_15
              try clear hcz23_2
              try clear hcz23_3
              try clear hcz23_4
              try clear hcz23_5
              try clear hcz23_6
              try clear hcz23_7
              try clear hcz23_8
              try clear hcz23_9
              try clear hcz24_0
              try clear hcz24_1
              try clear hcz24_10
              try clear hcz24_11
              try clear hcz24_12
              try clear hcz24_13
              try clear hcz24_14
              try clear hcz24_15
              try clear hcz24_2
              try clear hcz24_3
              try clear hcz24_4
              try clear hcz24_5
              try clear hcz24_6
              try clear hcz24_7
              try clear hcz24_8
              try clear hcz24_9
              try clear hcz34_0
              try clear hcz34_1
              try clear hcz34_10
              try clear hcz34_11
              try clear hcz34_12
              try clear hcz34_13
              try clear hcz34_14
              try clear hcz34_15
              try clear hcz34_2
              try clear hcz34_3
              try clear hcz34_4
              try clear hcz34_5
              try clear hcz34_6
              try clear hcz34_7
              try clear hcz34_8
              try clear hcz34_9
              try clear hcz36_0
              try clear hcz36_1
              try clear hcz36_10
              try clear hcz36_11
              try clear hcz36_12
              try clear hcz36_13
              try clear hcz36_14
              try clear hcz36_15
              try clear hcz36_2
              try clear hcz36_3
              try clear hcz36_4
              try clear hcz36_5
              try clear hcz36_6
              try clear hcz36_7
              try clear hcz36_8
              try clear hcz36_9
              try clear hcz47_0
              try clear hcz47_1
              try clear hcz47_10
              try clear hcz47_11
              try clear hcz47_12
              try clear hcz47_13
              try clear hcz47_14
              try clear hcz47_15
              try clear hcz47_2
              try clear hcz47_3
              try clear hcz47_4
              try clear hcz47_5
              try clear hcz47_6
              try clear hcz47_7
              try clear hcz47_8
              try clear hcz47_9
              try clear hcz49_0
              try clear hcz49_1
              try clear hcz49_10
              try clear hcz49_11
              try clear hcz49_12
              try clear hcz49_13
              try clear hcz49_14
              try clear hcz49_15
              try clear hcz49_2
              try clear hcz49_3
              try clear hcz49_4
              try clear hcz49_5
              try clear hcz49_6
              try clear hcz49_7
              try clear hcz49_8
              try clear hcz49_9
              try clear hcz53_0
              try clear hcz53_1
              try clear hcz53_10
              try clear hcz53_11
              try clear hcz53_12
              try clear hcz53_13
              try clear hcz53_14
              try clear hcz53_15
              try clear hcz53_2
              try clear hcz53_3
              try clear hcz53_4
              try clear hcz53_5
              try clear hcz53_6
              try clear hcz53_7
              try clear hcz53_8
              try clear hcz53_9
              try clear hcz55_0
              try clear hcz55_1
              try clear hcz55_10
              try clear hcz55_11
              try clear hcz55_12
              try clear hcz55_13
              try clear hcz55_14
              try clear hcz55_15
              try clear hcz55_2
              try clear hcz55_3
              try clear hcz55_4
              try clear hcz55_5
              try clear hcz55_6
              try clear hcz55_7
              try clear hcz55_8
              try clear hcz55_9
              try clear hfz19_0
              try clear hfz19_1
              try clear hfz19_10
              try clear hfz19_11
              try clear hfz19_12
              try clear hfz19_13
              try clear hfz19_14
              try clear hfz19_15
              try clear hfz19_2
              try clear hfz19_3
              try clear hfz19_4
              try clear hfz19_5
              try clear hfz19_6
              try clear hfz19_7
              try clear hfz19_8
              try clear hfz19_9
              try clear hfz20_0
              try clear hfz20_1
              try clear hfz20_10
              try clear hfz20_11
              try clear hfz20_12
              try clear hfz20_13
              try clear hfz20_14
              try clear hfz20_15
              try clear hfz20_2
              try clear hfz20_3
              try clear hfz20_4
              try clear hfz20_5
              try clear hfz20_6
              try clear hfz20_7
              try clear hfz20_8
              try clear hfz20_9
              try clear hfz23_0
              try clear hfz23_1
              try clear hfz23_10
              try clear hfz23_11
              try clear hfz23_12
              try clear hfz23_13
              try clear hfz23_14
              try clear hfz23_15
              try clear hfz23_2
              try clear hfz23_3
              try clear hfz23_4
              try clear hfz23_5
              try clear hfz23_6
              try clear hfz23_7
              try clear hfz23_8
              try clear hfz23_9
              try clear hfz24_0
              try clear hfz24_1
              try clear hfz24_10
              try clear hfz24_11
              try clear hfz24_12
              try clear hfz24_13
              try clear hfz24_14
              try clear hfz24_15
              try clear hfz24_2
              try clear hfz24_3
              try clear hfz24_4
              try clear hfz24_5
              try clear hfz24_6
              try clear hfz24_7
              try clear hfz24_8
              try clear hfz24_9
              try clear hfz34_0
              try clear hfz34_1
              try clear hfz34_10
              try clear hfz34_11
              try clear hfz34_12
              try clear hfz34_13
              try clear hfz34_14
              try clear hfz34_15
              try clear hfz34_2
              try clear hfz34_3
              try clear hfz34_4
              try clear hfz34_5
              try clear hfz34_6
              try clear hfz34_7
              try clear hfz34_8
              try clear hfz34_9
              try clear hfz36_0
              try clear hfz36_1
              try clear hfz36_10
              try clear hfz36_11
              try clear hfz36_12
              try clear hfz36_13
              try clear hfz36_14
              try clear hfz36_15
              try clear hfz36_2
              try clear hfz36_3
              try clear hfz36_4
              try clear hfz36_5
              try clear hfz36_6
              try clear hfz36_7
              try clear hfz36_8
              try clear hfz36_9
              try clear hfz47_0
              try clear hfz47_1
              try clear hfz47_10
              try clear hfz47_11
              try clear hfz47_12
              try clear hfz47_13
              try clear hfz47_14
              try clear hfz47_15
              try clear hfz47_2
              try clear hfz47_3
              try clear hfz47_4
              try clear hfz47_5
              try clear hfz47_6
              try clear hfz47_7
              try clear hfz47_8
              try clear hfz47_9
              try clear hfz49_0
              try clear hfz49_1
              try clear hfz49_10
              try clear hfz49_11
              try clear hfz49_12
              try clear hfz49_13
              try clear hfz49_14
              try clear hfz49_15
              try clear hfz49_2
              try clear hfz49_3
              try clear hfz49_4
              try clear hfz49_5
              try clear hfz49_6
              try clear hfz49_7
              try clear hfz49_8
              try clear hfz49_9
              try clear hfz53_0
              try clear hfz53_1
              try clear hfz53_10
              try clear hfz53_11
              try clear hfz53_12
              try clear hfz53_13
              try clear hfz53_14
              try clear hfz53_15
              try clear hfz53_2
              try clear hfz53_3
              try clear hfz53_4
              try clear hfz53_5
              try clear hfz53_6
              try clear hfz53_7
              try clear hfz53_8
              try clear hfz53_9
              try clear hfz55_0
              try clear hfz55_1
              try clear hfz55_10
              try clear hfz55_11
              try clear hfz55_12
              try clear hfz55_13
              try clear hfz55_14
              try clear hfz55_15
              try clear hfz55_2
              try clear hfz55_3
              try clear hfz55_4
              try clear hfz55_5
              try clear hfz55_6
              try clear hfz55_7
              try clear hfz55_8
              try clear hfz55_9
              try clear p2
              obtain ⟨kq, x59_31, rfl, HA, HJ31, HO_670005, HO_670014, HO_670015, HO_694005, HO_694014, HO_694015, HO_724005, HO_724014, HO_724015, BK669, BK693, BK723, HB⟩ := hcut
              have hl694005_31 := (Kd.R_reads' HO_694005.out).1
              rw [hl694005_31] at HO_694005
              (try simp only [hl694005_31])
              (try simp only [hl694005_31] at BK669)
              (try simp only [hl694005_31] at BK693)
              (try simp only [hl694005_31] at BK723)
              (try simp only [hl694005_31] at HO_670005)
              (try simp only [hl694005_31] at HO_670014)
              (try simp only [hl694005_31] at HO_670015)
              (try simp only [hl694005_31] at HO_694014)
              (try simp only [hl694005_31] at HO_694015)
              (try simp only [hl694005_31] at HO_724005)
              (try simp only [hl694005_31] at HO_724014)
              (try simp only [hl694005_31] at HO_724015)
              have hl694014_31 := (Kd.R_reads' HO_694014.out).1
              rw [hl694014_31] at HO_694014
              (try simp only [hl694014_31])
              (try simp only [hl694014_31] at BK669)
              (try simp only [hl694014_31] at BK693)
              (try simp only [hl694014_31] at BK723)
              (try simp only [hl694014_31] at HO_670005)
              (try simp only [hl694014_31] at HO_670014)
              (try simp only [hl694014_31] at HO_670015)
              (try simp only [hl694014_31] at HO_694005)
              (try simp only [hl694014_31] at HO_694015)
              (try simp only [hl694014_31] at HO_724005)
              (try simp only [hl694014_31] at HO_724014)
              (try simp only [hl694014_31] at HO_724015)
              have hl694015_31 := (Kd.R_reads' HO_694015.out).1
              rw [hl694015_31] at HO_694015
              (try simp only [hl694015_31])
              (try simp only [hl694015_31] at BK669)
              (try simp only [hl694015_31] at BK693)
              (try simp only [hl694015_31] at BK723)
              (try simp only [hl694015_31] at HO_670005)
              (try simp only [hl694015_31] at HO_670014)
              (try simp only [hl694015_31] at HO_670015)
              (try simp only [hl694015_31] at HO_694005)
              (try simp only [hl694015_31] at HO_694014)
              (try simp only [hl694015_31] at HO_724005)
              (try simp only [hl694015_31] at HO_724014)
              (try simp only [hl694015_31] at HO_724015)
              cases kq with
              | zero => exact absurd HA.out (by simp [laws_FnExactNodeNew.j1])
              | succ kj31 =>
                have H := HA.out
                clear HA
                simp only [laws_FnExactNodeNew.j1] at H
                by_cases c57 : x59_31 = true
                · subst c57
                  have H1 : (some false) = some r := by rw [if_pos rfl] at H; exact H
                  clear H
                  have H := H1
                  clear H1
                  exact absurd (Option.some.inj H) (by rw [HT9_.out]; decide)
                · replace c57 := Bool.eq_false_iff.mpr c57
                  subst c57
                  have H1 : ((laws_heldNode.f kj31 t670 t671 t672 t673 t674 t696 t678 t679 t680 t681 t682 t683 t684 t685 t697 t698 1).bind fun t725 => (if t725 < 0 then (some false) else (if t725 = t695 then (some true) else (some false)))) = some r := by rw [if_neg (show ¬ (false = true) by decide)] at H; exact H
                  clear H
                  have H := H1
                  clear H1
                  replace H := Option.bind_eq_some_iff.mp H
                  obtain ⟨t725, A580, H⟩ := H
                  replace H : (if t725 < 0 then (some false) else (if t725 = t695 then (some true) else (some false))) = some r := H
                  have A58 := Aside0.mk A580
                  clear A580
                  by_cases c59 : t725 < 0
                  · rw [if_pos c59] at H
                    have c59b0 : decide (t725 < 0) = true := decide_eq_true c59
                    clear c59
                    exact absurd (Option.some.inj H) (by rw [HT9_.out]; decide)
                  · rw [if_neg c59] at H
                    have c59b0 : decide (t725 < 0) = false := decide_eq_false c59
                    clear c59
                    by_cases c60 : t725 = t695
                    · rw [if_pos c60] at H
                      have c60b0 : (t725 == t695) = true := beq_iff_eq.mpr c60
                      have c60b1 : (t725 != t695) = false := bne_eq_false_iff_eq.mpr c60
                      clear c60
                      obtain rfl := Option.some.inj H
                      have hnb61 := NB693_669.out
                      have hnc61 := NB669_693.out
                      have hnb62 := NB693_723.out
                      have hnc62 := NB723_693.out
                      have hcz63_0 : wc.cell? ⟨gb693, 0, none⟩ = some (.int .i64 t670) := (blk_cell BK693.out 0).trans rfl
                      have hcz63_1 : wc.cell? ⟨gb693, 1, none⟩ = some (.int .i64 t671) := (blk_cell BK693.out 1).trans rfl
                      have hcz63_2 : wc.cell? ⟨gb693, 2, none⟩ = some (.int .i64 t672) := (blk_cell BK693.out 2).trans rfl
                      have hcz63_3 : wc.cell? ⟨gb693, 3, none⟩ = some (.int .i64 t673) := (blk_cell BK693.out 3).trans rfl
                      have hcz63_4 : wc.cell? ⟨gb693, 4, none⟩ = some (.int .i64 t674) := (blk_cell BK693.out 4).trans rfl
                      have hcz63_5 : wc.cell? ⟨gb693, 5, none⟩ = some (.slice Ao12 t696.length co12) := (blk_cell BK693.out 5).trans rfl
                      have hcz63_6 : wc.cell? ⟨gb693, 6, none⟩ = some (.int .i64 t678) := (blk_cell BK693.out 6).trans rfl
                      have hcz63_7 : wc.cell? ⟨gb693, 7, none⟩ = some (.int .i64 t679) := (blk_cell BK693.out 7).trans rfl
                      have hcz63_8 : wc.cell? ⟨gb693, 8, none⟩ = some (.int .i64 t680) := (blk_cell BK693.out 8).trans rfl
                      have hcz63_9 : wc.cell? ⟨gb693, 9, none⟩ = some (.int .i64 t681) := (blk_cell BK693.out 9).trans rfl
                      have hcz63_10 : wc.cell? ⟨gb693, 10, none⟩ = some (.int .i64 t682) := (blk_cell BK693.out 10).trans rfl
                      have hcz63_11 : wc.cell? ⟨gb693, 11, none⟩ = some (.int .i64 t683) := (blk_cell BK693.out 11).trans rfl
                      have hcz63_12 : wc.cell? ⟨gb693, 12, none⟩ = some (.int .i64 t684) := (blk_cell BK693.out 12).trans rfl
                      have hcz63_13 : wc.cell? ⟨gb693, 13, none⟩ = some (.int .i64 t685) := (blk_cell BK693.out 13).trans rfl
                      have hcz63_14 : wc.cell? ⟨gb693, 14, none⟩ = some (.slice Ao13 t697.length co13) := (blk_cell BK693.out 14).trans rfl
                      have hcz63_15 : wc.cell? ⟨gb693, 15, none⟩ = some (.slice Ao14 t698.length co14) := (blk_cell BK693.out 15).trans rfl
                      have hfz63_0 := blk_frozen BK693.out 0
                      have hfz63_1 := blk_frozen BK693.out 1
                      have hfz63_2 := blk_frozen BK693.out 2
                      have hfz63_3 := blk_frozen BK693.out 3
                      have hfz63_4 := blk_frozen BK693.out 4
                      have hfz63_5 := blk_frozen BK693.out 5
                      have hfz63_6 := blk_frozen BK693.out 6
                      have hfz63_7 := blk_frozen BK693.out 7
                      have hfz63_8 := blk_frozen BK693.out 8
                      have hfz63_9 := blk_frozen BK693.out 9
                      have hfz63_10 := blk_frozen BK693.out 10
                      have hfz63_11 := blk_frozen BK693.out 11
                      have hfz63_12 := blk_frozen BK693.out 12
                      have hfz63_13 := blk_frozen BK693.out 13
                      have hfz63_14 := blk_frozen BK693.out 14
                      have hfz63_15 := blk_frozen BK693.out 15
                      as_aux_lemma =>
                      go_wp2_with (first | ((with_reducible refine gate_callee (f := 17) rfl ?_); refine goesL_ (some 62) rfl rfl Try.func17 (by kernel_rfl) rfl #[.agg #[.int .i64 t670, .int .i64 t671, .int .i64 t672, .int .i64 t673, .int .i64 t674, .slice Ao12 t696.length co12, .int .i64 t678, .int .i64 t679, .int .i64 t680, .int .i64 t681, .int .i64 t682, .int .i64 t683, .int .i64 t684, .int .i64 t685, .slice Ao13 t697.length co13, .slice Ao14 t698.length co14], .int .i64 1] rfl (by (try simp only [List.map_toArray, List.map_cons, List.map_nil]); first | done | rfl | (simp only [List.length_drop, List.length_take]; rfl)) ?_; (with_reducible refine (laws_heldNode.calls kj31 t670 t671 t672 t673 t674 _ _ t696 t678 t679 t680 t681 t682 t683 t684 t685 _ _ t697 _ _ t698 1 t725 _ ?side1 ?side2 ?side3 ?side4 ?side5 ?side6 A58.out).mono ?_); (case side1 => repeat (first | exact (Kd.R_reads' HO_694005.out).2.2 | (with_reducible refine Kd.C_alloc ?_ _) | (with_reducible refine Kd.C_drewN ?_ _) | (with_reducible refine Kd.C_drew ?_))); (case side2 => exact (Kd.R_reads' HO_694005.out).2.1); (case side3 => repeat (first | exact (Kd.R_reads' HO_694014.out).2.2 | (with_reducible refine Kd.C_alloc ?_ _) | (with_reducible refine Kd.C_drewN ?_ _) | (with_reducible refine Kd.C_drew ?_))); (case side4 => exact (Kd.R_reads' HO_694014.out).2.1); (case side5 => repeat (first | exact (Kd.R_reads' HO_694015.out).2.2 | (with_reducible refine Kd.C_alloc ?_ _) | (with_reducible refine Kd.C_drewN ?_ _) | (with_reducible refine Kd.C_drew ?_))); (case side6 => exact (Kd.R_reads' HO_694015.out).2.1); rintro e w64 ⟨rfl, hb⟩; refine ⟨_, rfl, ?_⟩; have n0_ := Aside0.mk (Kd.R_below (by (with_reducible repeat (first | apply Kd.R_alloc | apply Kd.R_drewN | apply Kd.R_drew)); exact HO_670005.out) hb); have n1_ := Aside0.mk (Kd.R_below (by (with_reducible repeat (first | apply Kd.R_alloc | apply Kd.R_drewN | apply Kd.R_drew)); exact HO_670014.out) hb); have n2_ := Aside0.mk (Kd.R_below (by (with_reducible repeat (first | apply Kd.R_alloc | apply Kd.R_drewN | apply Kd.R_drew)); exact HO_670015.out) hb); have n3_ := Aside0.mk (Kd.R_below (by (with_reducible repeat (first | apply Kd.R_alloc | apply Kd.R_drewN | apply Kd.R_drew)); exact HO_694005.out) hb); have n4_ := Aside0.mk (Kd.R_below (by (with_reducible repeat (first | apply Kd.R_alloc | apply Kd.R_drewN | apply Kd.R_drew)); exact HO_694014.out) hb); have n5_ := Aside0.mk (Kd.R_below (by (with_reducible repeat (first | apply Kd.R_alloc | apply Kd.R_drewN | apply Kd.R_drew)); exact HO_694015.out) hb); have n6_ := Aside0.mk (Kd.R_below (by (with_reducible repeat (first | apply Kd.R_alloc | apply Kd.R_drewN | apply Kd.R_drew)); exact HO_724005.out) hb); have n7_ := Aside0.mk (Kd.R_below (by (with_reducible repeat (first | apply Kd.R_alloc | apply Kd.R_drewN | apply Kd.R_drew)); exact HO_724014.out) hb); have n8_ := Aside0.mk (Kd.R_below (by (with_reducible repeat (first | apply Kd.R_alloc | apply Kd.R_drewN | apply Kd.R_drew)); exact HO_724015.out) hb); have n9_ := Aside0.mk (blk_below (g := gb669) (o := .cells #[.int .i64 t646, .int .i64 t647, .int .i64 t648, .int .i64 t649, .int .i64 t650, .slice Ao7 t651.length co7, .int .i64 t654, .int .i64 t655, .int .i64 t656, .int .i64 t657, .int .i64 t658, .int .i64 t659, .int .i64 t660, .int .i64 t661, .slice Ao8 t662.length co8, .slice Ao9 t665.length co9] 30 (0, 0)) (by (with_reducible repeat (first | refine blk_drewN ?_ _ | refine blk_drew ?_ | refine blk_alloc ?_ _)); exact BK669.out) hb); have n10_ := Aside0.mk (blk_below (g := gb693) (o := .cells #[.int .i64 t670, .int .i64 t671, .int .i64 t672, .int .i64 t673, .int .i64 t674, .slice Ao12 t696.length co12, .int .i64 t678, .int .i64 t679, .int .i64 t680, .int .i64 t681, .int .i64 t682, .int .i64 t683, .int .i64 t684, .int .i64 t685, .slice Ao13 t697.length co13, .slice Ao14 t698.length co14] 30 (0, 0)) (by (with_reducible repeat (first | refine blk_drewN ?_ _ | refine blk_drew ?_ | refine blk_alloc ?_ _)); exact BK693.out) hb); have n11_ := Aside0.mk (blk_below (g := gb723) (o := .cells #[.int .i64 t700, .int .i64 t701, .int .i64 t702, .int .i64 t703, .int .i64 t704, .slice Ao39 t705.length co39, .int .i64 t708, .int .i64 t709, .int .i64 t710, .int .i64 t711, .int .i64 t712, .int .i64 t713, .int .i64 t714, .int .i64 t715, .slice Ao40 t716.length co40, .slice Ao41 t719.length co41] 30 (0, 0)) (by (with_reducible repeat (first | refine blk_drewN ?_ _ | refine blk_drew ?_ | refine blk_alloc ?_ _)); exact BK723.out) hb); have n12_ := Aside0.mk (below_step (by repeat (first | (with_reducible first | exact HB.out | apply below_alloc | apply pw_below_drewN | apply below_drew1 | refine below_set ?_ GE669.out | refine below_set ?_ GE693.out | refine below_set ?_ GE723.out) | exact HB.out)) hb); clear HO_670005; clear HO_670014; clear HO_670015; clear HO_694005; clear HO_694014; clear HO_694015; clear HO_724005; clear HO_724014; clear HO_724015; clear BK669; clear BK693; clear BK723; clear HB; have HO_670005 := n0_; have HO_670014 := n1_; have HO_670015 := n2_; have HO_694005 := n3_; have HO_694014 := n4_; have HO_694015 := n5_; have HO_724005 := n6_; have HO_724014 := n7_; have HO_724015 := n8_; have BK669 := n9_; have BK693 := n10_; have BK723 := n11_; have HB := n12_; clear n0_ n1_ n2_ n3_ n4_ n5_ n6_ n7_ n8_ n9_ n10_ n11_ n12_; (try clear hb); (try clear hb2); (try clear hk); (try clear hi)))
                      go_ret
                      exact ⟨by first | rfl | (simp [errW_none, errW_some] <;> rfl) | (simp [*, errW_none, errW_some] <;> rfl), by repeat (first | (with_reducible first | exact HB.out | apply below_alloc | apply pw_below_drewN | apply below_drew1 | refine below_set ?_ GE669.out | refine below_set ?_ GE693.out | refine below_set ?_ GE723.out) | exact HB.out)⟩
                    · rw [if_neg c60] at H
                      have c60b0 : (t725 == t695) = false := beq_eq_false_iff_ne.mpr c60
                      have c60b1 : (t725 != t695) = true := bne_iff_ne.mpr c60
                      exact absurd (Option.some.inj H) (by rw [HT9_.out]; decide)
          · rw [if_neg c30] at H
            have c30b0 : (t699 == t695) = false := beq_eq_false_iff_ne.mpr c30
            have c30b1 : (t699 != t695) = true := bne_iff_ne.mpr c30
            exact absurd (Option.some.inj H) (by rw [HT9_.out]; decide)

end Go.Proofs.Ytkfjgloalfpcmaa.QFnExactNodeNew
