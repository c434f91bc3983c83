/- The law FnExactClockRun, walked: where each call's answer is told and each test is passed, it returns true. Its conditions: the calls' answers, and that the reference and the program answer alike. -/
import Derived.Test.YtiolnbhcmoafjaaQFnClocksx3
import Derived.Test.YtiolnbhcmoafjaaQFnClocksx5
import Derived.Test.YtiolnbhcmoafjaaExcB
import Derived.Test.YtiolnbhcmoafjaaExcD
import Derived.Test.YtiolnbhcmoafjaaExcM
namespace Go.Proofs.Ytiolnbhcmoafjaa.QFnClocks
open Go.RowKit Go.Proofs.YtiolnbhcmoafjaaW.PrintWords Go.Proofs.YtiolnbhcmoafjaaW.PrintLast Go.Proofs.YtiolnbhcmoafjaaW.PrintMore
attribute [local go_sem] max2_int min2_int max_two min_two max_three min_three max_four min_four str_gtr str_leq str_geq pw_at_slice   -- for this text's walks alone
set_option linter.unusedVariables false
set_option linter.unusedSimpArgs false
theorem held_len (k : Nat) (A0 : Option Addr) (c0 n : Nat) (l0 : List S42) (a1 : Int) (r : Int) (w : World) (hn : n = l0.length) (hr0 : Kd.C k42 w A0 l0.length l0) (hc0 : l0.length ≤ c0) (h : laws_heldClockObsS.f k l0 a1 = some r) :
    Calls Try.prog 14 #[.slice A0 n c0, .int .i64 a1] w fun e w' => e = .returned (.int .i64 r) ∧ Drawn0 w w' := by
  subst hn
  exact laws_heldClockObsS.calls k A0 c0 l0 a1 r w hr0 hc0 h
theorem drawn_below {w w' : World} (h : Drawn0 w w') : Below w.heap.size w w' := by
  obtain ⟨nd, rfl⟩ := h
  exact pw_below_drewN (Below.refl _ _) nd
theorem S_range {w : World} {base : Nat} {v : Value} {xs : List S42} {ok : Nat → Prop} (h : Kd.R k42 42 w base ok v xs) : Kd.R k42 42 w base (fun k => base ≤ k ∧ k < w.heap.size) v xs := Kd.R_mono (Kd.R_bound h) (fun _ hk => ⟨hk.2.1, hk.2.2.1⟩)
theorem R_range {w : World} {base : Nat} {v : Value} {xs : List S44} {ok : Nat → Prop} (h : Kd.R k44 44 w base ok v xs) : Kd.R k44 44 w base (fun k => base ≤ k ∧ k < w.heap.size) v xs := Kd.R_mono (Kd.R_bound h) (fun _ hk => ⟨hk.2.1, hk.2.2.1⟩)
theorem S_kept {w w1 : World} {base : Nat} {v : Value} {xs : List S42} {ok P : Nat → Prop} (h : Kd.R k42 42 w base ok v xs) (hk : Kept w w1 P) (hn : ∀ k, ok k → ¬ P k) : Kd.R k42 42 w1 base ok v xs := Kd.R_step h (fun k ho hlt => hk.2 k hlt (hn k ho))
set_option maxHeartbeats 8000000 in
set_option maxRecDepth 100000 in
theorem law_small (a0 : Int) (A2 : Option Addr) (c2 : Nat) (l2 : List S65) (t : Int) (w : World) (hr : Kd.C k65 w A2 l2.length l2) (hc : l2.length ≤ c2) (h : laws_szClockOpS.f l2 1048576 = some t) (ht : t < 0) :
    Calls Try.prog 3 #[.int .i64 a0, .slice A2 l2.length c2] w fun e w' => e = .returned (.bool true) ∧ Below w.heap.size w w' := by
  have HR := Aside0.mk hr
  have HC := Aside0.mk hc
  have A0 := Aside0.mk h
  clear hr hc h
  have z : decide (t < 0) = true := decide_eq_true ht
  clear ht
  go_enter Try.func3, Try.ntmps3
  go_wp2_with (go_at_call 6; refine (laws_szClockOpS.calls A2 c2 l2 1048576 t w HR.out HC.out A0.out).mono ?_; rintro e w1 ⟨rfl, hd⟩; have HB := Aside0.mk (drawn_below hd); clear hd)
  go_ret
  exact ⟨by first | rfl | (simp; done), HB.out⟩
set_option maxHeartbeats 8000000 in
set_option maxRecDepth 100000 in
theorem law_walk (k : Nat) (a0 : Int) (A2 : Option Addr) (c2 : Nat) (l2 : List S65) (t : Int) (o1 o2 : List S44) (r1 r2 : List S42) (cc kk mm : Int) (w : World) (hr : Kd.C k65 w A2 l2.length l2) (hc : l2.length ≤ c2)
    (h0 : laws_szClockOpS.f l2 1048576 = some t) (ht : ¬ t < 0) (h1 : laws_toClockOpS.f k l2 = some o1) (h2 : spec_ClockRun.f k a0 o1 = some (r1, cc)) (h3 : impl_ClockRun.f k a0 o1 = some (r1, cc))
    (h4 : laws_eqClockObsS.f k r1 r1 = some true) (h5 : laws_eqClockOpS.f k o1 o1 = some true) (h6 : laws_markClockOpS.f k o1 1 = some (kk, o2)) (hk : ¬ kk < 0) (h7 : laws_markClockObsS.f k r1 1 = some (mm, r2)) (h8 : laws_heldClockObsS.f k r2 1 = some mm) (hm : ¬ mm < 0) :
    Calls Try.prog 3 #[.int .i64 a0, .slice A2 l2.length c2] w fun e w' => e = .returned (.bool true) ∧ Below w.heap.size w w' := by
  have HR := Aside0.mk hr
  have HC := Aside0.mk hc
  have B0 := Aside0.mk h0
  have B1 := Aside0.mk h1
  have B2 := Aside0.mk h2
  have B3 := Aside0.mk h3
  have B4 := Aside0.mk h4
  have B5 := Aside0.mk h5
  have B6 := Aside0.mk h6
  have B7 := Aside0.mk h7
  have B8 := Aside0.mk h8
  have z0 : decide (t < 0) = false := decide_eq_false ht
  have z1 : decide (kk < 0) = false := decide_eq_false hk
  have z2 : decide (mm < 0) = false := decide_eq_false hm
  have z3 : (cc != cc) = false := by simp
  have z4 : (mm != mm) = false := by simp
  clear hr hc h0 h1 h2 h3 h4 h5 h6 h7 h8 ht hk hm
  go_enter Try.func3, Try.ntmps3
  go_upto_region 5 with (go_at_call 6; refine (laws_szClockOpS.calls A2 c2 l2 1048576 t w HR.out HC.out B0.out).mono ?_; rintro e w1 ⟨rfl, hd⟩; have HB1 := Aside0.mk (drawn_below hd); clear hd)
  go_upto_region 6 with (first | (go_at_call 8; refine (laws_toClockOpS.calls k A2 c2 l2 o1 w1 (Kd.C_below HR.out HB1.out) HC.out B1.out).mono ?_; rintro e w2 ⟨v_, rfl, h_, hb⟩; obtain ⟨AA, cA, rfl⟩ := Kd.R_slice h_; have HA := Aside0.mk (Kd.R_reads' h_); have HB2 := Aside0.mk (below_step HB1.out hb); clear h_ hb) | (go_at_call 7; refine (spec_ClockRun.calls k a0 AA cA o1 r1 cc w2 HA.out.2.2 HA.out.2.1 B2.out).mono ?_; rintro e w3 ⟨v_, rfl, h_, hb⟩; obtain ⟨A8, c8, rfl⟩ := Kd.R_slice h_; have HS8 := Aside0.mk (S_range h_); have HB3 := Aside0.mk (below_step HB2.out hb); clear h_ hb))
  go_upto_region 7 with (first | (go_at_call 8; refine (laws_toClockOpS.calls k A2 c2 l2 o1 w3 (Kd.C_below HR.out HB3.out) HC.out B1.out).mono ?_; rintro e w4 ⟨v_, rfl, h_, hb⟩; obtain ⟨A10, c10, rfl⟩ := Kd.R_slice h_; have HR10 := Aside0.mk (R_range h_); have HB4 := Aside0.mk (below_step HB3.out hb); have n_ := Aside0.mk (Kd.R_below HS8.out hb); clear HS8; have HS8 := n_; clear n_ h_; have HL34 := Aside0.mk hb.size; clear hb))
  go_upto_region 8 with (first | (go_at_call 9; refine (impl_ClockRun.calls k a0 A10 c10 o1 r1 cc w4 (Kd.R_reads' HR10.out).2.2 (Kd.R_reads' HR10.out).2.1 B3.out).mono ?_; rintro e w5 ⟨v_, rfl, h_, hb⟩; obtain ⟨A11, c11, rfl⟩ := Kd.R_slice h_; have HS11 := Aside0.mk (Kd.R_mono (S_range h_) (fun _ hk => hk.1) : Kd.R k42 42 w5 w4.heap.size (fun k => w4.heap.size ≤ k) _ r1); have HB5 := Aside0.mk (below_step HB4.out hb); have n_ := Aside0.mk (Kd.R_below HS8.out hb); have m_ := Aside0.mk (Kd.R_below HR10.out hb); clear HS8 HR10; have HS8 := n_; have HR10 := m_; clear n_ m_ h_ hb))
  go_upto_region 10 with (first | (go_at_call 10; refine (laws_eqClockObsS.calls k A11 c11 r1 A8 c8 r1 true w5 (Kd.R_reads' HS11.out).2.2 (Kd.R_reads' HS11.out).2.1 (Kd.R_reads' HS8.out).2.2 (Kd.R_reads' HS8.out).2.1 B4.out).mono ?_; rintro e w6 ⟨rfl, hb⟩; have HB6 := Aside0.mk (below_step HB5.out hb); have n_ := Aside0.mk (Kd.R_below HS8.out hb); have m_ := Aside0.mk (Kd.R_below HR10.out hb); have o_ := Aside0.mk (Kd.R_below HS11.out hb); clear HS8 HR10 HS11; have HS8 := n_; have HR10 := m_; have HS11 := o_; clear n_ m_ o_ hb))
  go_upto_region 13 with (first | (go_at_call 8; refine (laws_toClockOpS.calls k A2 c2 l2 o1 w6 (Kd.C_below HR.out HB6.out) HC.out B1.out).mono ?_; rintro e w7 ⟨v_, rfl, h_, hb⟩; obtain ⟨AB, cB, rfl⟩ := Kd.R_slice h_; have HA2 := Aside0.mk (Kd.R_reads' h_); have HB7 := Aside0.mk (below_step HB6.out hb); have n_ := Aside0.mk (Kd.R_below HS8.out hb); have m_ := Aside0.mk (Kd.R_below HR10.out hb); have o_ := Aside0.mk (Kd.R_below HS11.out hb); clear HS8 HR10 HS11; have HS8 := n_; have HR10 := m_; have HS11 := o_; clear n_ m_ o_ h_ hb) | (go_at_call 11; refine (laws_eqClockOpS.calls k A10 c10 o1 AB cB o1 true w7 (Kd.R_reads' HR10.out).2.2 (Kd.R_reads' HR10.out).2.1 HA2.out.2.2 HA2.out.2.1 B5.out).mono ?_; rintro e w8 ⟨rfl, hb⟩; have HB8 := Aside0.mk (below_step HB7.out hb); have n_ := Aside0.mk (Kd.R_below HS8.out hb); have m_ := Aside0.mk (Kd.R_below HR10.out hb); have o_ := Aside0.mk (Kd.R_below HS11.out hb); clear HS8 HR10 HS11; have HS8 := n_; have HR10 := m_; have HS11 := o_; clear n_ m_ o_ hb))
  go_upto_region 14 with (first | (go_at_call 12; refine (laws_markClockOpS.calls k (fun k => w3.heap.size ≤ k ∧ k < w4.heap.size) (.slice A10 o1.length c10) o1 1 kk o2 w w8 HB8.out (Kd.R_lower HR10.out HB3.out.size) B6.out).mono ?_; rintro e w9 ⟨rfl, _, hb, hk⟩; have HB9 := Aside0.mk hb; have n_ := Aside0.mk (S_kept HS8.out hk (fun k h h2 => by have := h.2; have := h2.1; omega)); have o_ := Aside0.mk (S_kept HS11.out hk (fun k h h2 => by have := h2.2; omega)); clear HS8 HR10 HS11; have HS8 := n_; have HS11 := o_; clear n_ o_ hb hk))
  go_upto_region 17 with (first | (go_at_call 10; refine (laws_eqClockObsS.calls k A11 c11 r1 A8 c8 r1 true w9 (Kd.R_reads' HS11.out).2.2 (Kd.R_reads' HS11.out).2.1 (Kd.R_reads' HS8.out).2.2 (Kd.R_reads' HS8.out).2.1 B4.out).mono ?_; rintro e w10 ⟨rfl, hb⟩; have HB10 := Aside0.mk (below_step HB9.out hb); have n_ := Aside0.mk (Kd.R_below HS8.out hb); have o_ := Aside0.mk (Kd.R_below HS11.out hb); clear HS8 HS11; have HS8 := n_; have HS11 := o_; clear n_ o_ hb))
  go_upto_region 19 with (first | (go_at_call 13; refine (laws_markClockObsS.calls k (fun k => w4.heap.size ≤ k) (.slice A11 r1.length c11) r1 1 mm r2 w w10 HB10.out (Kd.R_lower HS11.out HB4.out.size) B7.out).mono ?_; rintro e w11 ⟨rfl, h_, hb, hk⟩; have HB11 := Aside0.mk hb; have n_ := Aside0.mk (S_kept HS8.out hk (fun k h h2 => by have := h.2; have := HL34.out; omega)); have HLn := Aside0.mk (Kd.R_reads' h_).1; clear HS8 HS11; have HS8 := n_; have HS11 := Aside0.mk h_; clear n_ h_ hb hk))
  go_upto_region 24 with (first | (go_at_call 14; refine (held_len k A11 c11 r1.length r2 1 mm w11 HLn.out (Kd.R_reads' HS11.out).2.2 (by have := (Kd.R_reads' HS11.out).2.1; have := HLn.out; omega) B8.out).mono ?_; rintro e w12 ⟨rfl, hd⟩; have hb := drawn_below hd; have HB12 := Aside0.mk (below_step HB11.out hb); have n_ := Aside0.mk (Kd.R_below HS8.out hb); have o_ := Aside0.mk (Kd.R_below HS11.out hb); clear HS8 HS11; have HS8 := n_; have HS11 := o_; clear n_ o_ hb hd))
  go_upto_region 25 with (first | (go_at_call 8; refine (laws_toClockOpS.calls k A2 c2 l2 o1 w12 (Kd.C_below HR.out HB12.out) HC.out B1.out).mono ?_; rintro e w13 ⟨v_, rfl, h_, hb⟩; obtain ⟨AC, cC, rfl⟩ := Kd.R_slice h_; have HA3 := Aside0.mk (Kd.R_reads' h_); have HB13 := Aside0.mk (below_step HB12.out hb); have n_ := Aside0.mk (Kd.R_below HS8.out hb); have o_ := Aside0.mk (Kd.R_below HS11.out hb); clear HS8 HS11; have HS8 := n_; have HS11 := o_; clear n_ o_ h_ hb) | (go_at_call 9; refine (impl_ClockRun.calls k a0 AC cC o1 r1 cc w13 HA3.out.2.2 HA3.out.2.1 B3.out).mono ?_; rintro e w14 ⟨v_, rfl, h_, hb⟩; obtain ⟨A16, c16, rfl⟩ := Kd.R_slice h_; have HA4 := Aside0.mk (Kd.R_reads' h_); have HB14 := Aside0.mk (below_step HB13.out hb); have n_ := Aside0.mk (Kd.R_below HS8.out hb); have o_ := Aside0.mk (Kd.R_below HS11.out hb); clear HS8 HS11; have HS8 := n_; have HS11 := o_; clear n_ o_ h_ hb))
  go_upto_region 28 with (first | (go_at_call 10; refine (laws_eqClockObsS.calls k A16 c16 r1 A8 c8 r1 true w14 HA4.out.2.2 HA4.out.2.1 (Kd.R_reads' HS8.out).2.2 (Kd.R_reads' HS8.out).2.1 B4.out).mono ?_; rintro e w15 ⟨rfl, hb⟩; have HB15 := Aside0.mk (below_step HB14.out hb); have o_ := Aside0.mk (Kd.R_below HS11.out hb); clear HS8 HS11; have HS11 := o_; clear o_ hb))
  go_wp2_with (go_at_call 14; refine (held_len k A11 c11 r1.length r2 1 mm w15 HLn.out (Kd.R_reads' HS11.out).2.2 (by have := (Kd.R_reads' HS11.out).2.1; have := HLn.out; omega) B8.out).mono ?_; rintro e w16 ⟨rfl, hd⟩; have HB16 := Aside0.mk (below_step HB15.out (drawn_below hd)); clear hd)
  go_ret
  exact ⟨by first | rfl | (simp; done), HB16.out⟩
/-- The calls' answers under which the law returns true. -/
def AllTold (k : Nat) (a0 : Int) (l2 : List S65) : Prop := ∃ t, laws_szClockOpS.f l2 1048576 = some t ∧ (t < 0 ∨ ¬ t < 0 ∧ ∃ (o1 o2 : List S44) (r1 r2 : List S42) (cc kk mm : Int), laws_toClockOpS.f k l2 = some o1 ∧ spec_ClockRun.f k a0 o1 = some (r1, cc) ∧ impl_ClockRun.f k a0 o1 = some (r1, cc) ∧ laws_eqClockObsS.f k r1 r1 = some true ∧ laws_eqClockOpS.f k o1 o1 = some true ∧ laws_markClockOpS.f k o1 1 = some (kk, o2) ∧ ¬ kk < 0 ∧ laws_markClockObsS.f k r1 1 = some (mm, r2) ∧ laws_heldClockObsS.f k r2 1 = some mm ∧ ¬ mm < 0)
theorem laws_FnExactClockRun.calls (k : Nat) (a0 : Int) (A2 : Option Addr) (c2 : Nat) (l2 : List S65) (r : Bool) (w : World) (hr : Kd.C k65 w A2 l2.length l2) (hc : l2.length ≤ c2) (h : AllTold k a0 l2) (ht_ : r = true) :
    Calls Try.prog 3 #[.int .i64 a0, .slice A2 l2.length c2] w fun e w' => e = .returned (.bool r) ∧ Below w.heap.size w w' := by
  subst ht_
  obtain ⟨t, h0, h⟩ := h
  rcases h with h | ⟨ht, o1, o2, r1, r2, cc, kk, mm, h1, h2, h3, h4, h5, h6, hk, h7, h8, hm⟩
  · exact law_small a0 A2 c2 l2 t w hr hc h0 h
  · exact law_walk k a0 A2 c2 l2 t o1 o2 r1 r2 cc kk mm w hr hc h0 ht h1 h2 h3 h4 h5 h6 hk h7 h8 hm
end Go.Proofs.Ytiolnbhcmoafjaa.QFnClocks
