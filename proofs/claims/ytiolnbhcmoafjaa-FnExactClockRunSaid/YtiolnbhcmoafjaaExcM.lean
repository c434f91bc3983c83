/- The law's writing of marks into a row of answers, walked by hand. No condition. -/
import Derived.Test.YtiolnbhcmoafjaaQFnClocksx0
namespace Go.Proofs.Ytiolnbhcmoafjaa.QFnClocks
open Go.RowKit Go.Proofs.YtiolnbhcmoafjaaW.PrintWords Go.Proofs.YtiolnbhcmoafjaaW.PrintLast Go.Proofs.YtiolnbhcmoafjaaW.PrintMore
set_option linter.unusedVariables false
set_option linter.unusedSimpArgs false
set_option maxRecDepth 100000 in
def laws_markClockObsS.l0 : Nat → List S42 → Int → Int → Option (Int × List S42)
  | 0, _, _, _ => none
  | k + 1, x0, x1, x5 => if x5 < (x0.length : Int) then (if 0 ≤ x5 then ((some ((x0.set (x5 : Int).toNat (⟨x1, (⟨(rd_T42 x0 x5).f1.f0, (rd_T42 x0 x5).f1.f1⟩ : S40)⟩ : S42))) : Option (List S42)).bind fun y1 => ((some ((y1.set (x5 : Int).toNat (⟨(rd_T42 y1 x5).f0, (⟨wrap64 (x1 + 1), (rd_T42 y1 x5).f1.f1⟩ : S40)⟩ : S42))) : Option (List S42)).bind fun y2 => (laws_markClockObsS.l0 k (y2.set (x5 : Int).toNat (⟨(rd_T42 y2 x5).f0, (⟨(rd_T42 y2 x5).f1.f0, wrap64 ((wrap64 (x1 + 1)) + 1)⟩ : S40)⟩ : S42)) (wrap64 ((wrap64 ((wrap64 (x1 + 1)) + 1)) + 1)) (wrap64 (x5 + 1))))) else none) else some (x1, x0)
def laws_markClockObsS.f (k : Nat) (l0 : List S42) (a1 : Int) : Option (Int × List S42) := laws_markClockObsS.l0 k l0 a1 0
set_option maxHeartbeats 8000000 in
set_option maxRecDepth 100000 in
theorem laws_markClockObsS.calls (k : Nat) (P0_ : Nat → Prop) (u9000_ : Value) (l0 : List S42) (a1 : Int) (r1 : Int) (r2 : List S42) (w0 w : World) (hB : Below w0.heap.size w0 w) (ho0 : Kd.R k42 42 w w0.heap.size P0_ u9000_ l0) (h : laws_markClockObsS.f k l0 a1 = some (r1, r2)) :
    Calls Try.prog 13 #[u9000_, .int .i64 a1] w fun e w' => e = .returned (.int .i64 r1) ∧ Kd.R k42 42 w' w0.heap.size (fun k_ => (P0_ k_ ∨ w.heap.size ≤ k_)) u9000_ r2 ∧ Below w0.heap.size w0 w' ∧ Kept w w' (fun k_ => P0_ k_) := by
  have HO0 := Aside0.mk (show Kd.R k42 42 w w0.heap.size (fun k_ => (P0_ k_ ∨ w.heap.size ≤ k_)) u9000_ l0 from Kd.R_mono ho0 (fun k_ hk => (.inl hk)))
  have HK := Aside0.mk (Kept.refl w (fun k_ => P0_ k_))
  have HB := Aside0.mk hB
  clear hB ho0
  have H' := Aside0.mk (show laws_markClockObsS.l0 k l0 a1 0 = some (r1, r2) from h)
  clear h
  go_enter Try.func13, Try.ntmps13
  go_wp2
  go_loopg [1, 5] k (fun kq v1 v5 w' => ∃ (x0_1 : List S42) (x1_1 : Int) (x5_1 : Int), v1 = .int .i64 x1_1 ∧ v5 = .int .i64 x5_1 ∧ Aside0 (laws_markClockObsS.l0 kq x0_1 x1_1 x5_1 = some (r1, r2)) ∧ Aside0 (kq ≤ k) ∧ Aside0 (Kd.R k42 42 w' w0.heap.size (fun k_ => (P0_ k_ ∨ w.heap.size ≤ k_)) u9000_ x0_1) ∧ Aside0 (Kept w w' (fun k_ => P0_ k_)) ∧ Aside0 (Below w0.heap.size w0 w'))
  case atStart => exact ⟨(l0), (a1), (0), (by first | rfl | (simp; done)), (by first | rfl | (simp; done)), H', ⟨Nat.le_refl _⟩, ⟨by (with_reducible repeat (first | apply Kd.R_alloc | apply Kd.R_drewN | apply Kd.R_drew)); exact HO0.out⟩, ⟨by repeat (first | (with_reducible first | exact HK.out | apply Kept.alloc | apply Kept.drewN | apply Kept.drew) | exact HK.out)⟩, ⟨by repeat (first | (with_reducible first | exact HB.out | apply below_alloc | apply pw_below_drewN | apply below_drew1) | exact HB.out)⟩⟩
  case round =>
    clear H' HO0
    obtain ⟨x0_1, x1_1, x5_1, rfl, rfl, HA, HK1, HO_0, HK, HB⟩ := hrel
    cases gk with
    | zero => exact absurd HA.out (by simp [laws_markClockObsS.l0])
    | succ k1 =>
      have H := HA.out
      clear HA
      simp only [laws_markClockObsS.l0] at H
      by_cases c3 : x5_1 < (x0_1.length : Int)
      · rw [if_pos c3] at H
        have c3b0 : decide (x5_1 < (x0_1.length : Int)) = true := decide_eq_true c3
        by_cases c4 : 0 ≤ x5_1
        · rw [if_pos c4] at H
          have c4b0 : decide (0 ≤ x5_1) = true := decide_eq_true c4
          obtain ⟨y1, hy1⟩ : ∃ y_ : List S42, y_ = (x0_1.set (x5_1 : Int).toNat (⟨x1_1, (⟨(rd_T42 x0_1 x5_1).f1.f0, (rd_T42 x0_1 x5_1).f1.f1⟩ : S40)⟩ : S42)) := ⟨_, rfl⟩
          replace H : ((some ((y1.set (x5_1 : Int).toNat (⟨(rd_T42 y1 x5_1).f0, (⟨wrap64 (x1_1 + 1), (rd_T42 y1 x5_1).f1.f1⟩ : S40)⟩ : S42))) : Option (List S42)).bind fun y2 => (laws_markClockObsS.l0 k1 (y2.set (x5_1 : Int).toNat (⟨(rd_T42 y2 x5_1).f0, (⟨(rd_T42 y2 x5_1).f1.f0, wrap64 ((wrap64 (x1_1 + 1)) + 1)⟩ : S40)⟩ : S42)) (wrap64 ((wrap64 ((wrap64 (x1_1 + 1)) + 1)) + 1)) (wrap64 (x5_1 + 1)))) = some (r1, r2) := by rw [hy1]; exact H
          have Ny1 := Aside0.mk hy1
          clear hy1
          obtain ⟨y2, hy2⟩ : ∃ y_ : List S42, y_ = (y1.set (x5_1 : Int).toNat (⟨(rd_T42 y1 x5_1).f0, (⟨wrap64 (x1_1 + 1), (rd_T42 y1 x5_1).f1.f1⟩ : S40)⟩ : S42)) := ⟨_, rfl⟩
          replace H : (laws_markClockObsS.l0 k1 (y2.set (x5_1 : Int).toNat (⟨(rd_T42 y2 x5_1).f0, (⟨(rd_T42 y2 x5_1).f1.f0, wrap64 ((wrap64 (x1_1 + 1)) + 1)⟩ : S40)⟩ : S42)) (wrap64 ((wrap64 ((wrap64 (x1_1 + 1)) + 1)) + 1)) (wrap64 (x5_1 + 1))) = some (r1, r2) := by rw [hy2]; exact H
          have Ny2 := Aside0.mk hy2
          clear hy2
          obtain ⟨y3, hy3⟩ : ∃ y_ : List S42, y_ = (y2.set (x5_1 : Int).toNat (⟨(rd_T42 y2 x5_1).f0, (⟨(rd_T42 y2 x5_1).f1.f0, wrap64 ((wrap64 (x1_1 + 1)) + 1)⟩ : S40)⟩ : S42)) := ⟨_, rfl⟩
          replace H : laws_markClockObsS.l0 k1 y3 (wrap64 ((wrap64 ((wrap64 (x1_1 + 1)) + 1)) + 1)) (wrap64 (x5_1 + 1)) = some (r1, r2) := by rw [hy3]; exact H
          have Ny3 := Aside0.mk hy3
          clear hy3
          have H' := Aside0.mk H
          clear H
          obtain ⟨Ao9, co9, eo9⟩ := Kd.R_slice HO_0.out
          subst eo9
          have p5 := eq_true c4
          have q5 : (x5_1 < ((x0_1.length : Int) : Int)) = True := eq_true c3
          obtain ⟨go5, co5, eo5, gb5, gl5, cl5, HG5⟩ := Kd.R_form HO_0.out (by omega)
          (first | cases eo5 | (injection eo5 with ea_ en_ ec_; (first | subst ea_ | (injection ea_ with ea_; subst ea_)); subst ec_; clear en_))
          have GB5 := Aside0.mk gb5
          clear gb5 gl5 HG5 c3 c4
          obtain ⟨ce_, hcl_, hM_, hcc_, hfr_⟩ := Kd.R_elem HO_0.out z42 (x5_1 : Int) (of_decide_eq_true (by first | (with_reducible assumption) | assumption)) (by have h_ : (x5_1 : Int) < ((x0_1.length : Int) : Int) := of_decide_eq_true (by first | (with_reducible assumption) | assumption); first | exact h_ | (have e_ := (Kd.R_reads' HO_0.out).1; omega) | simpa using h_)
          obtain rfl := k42_openM hM_
          have hx0_0 : wr.cell? ⟨go5, (x5_1 : Int).toNat * 3, none⟩ = some (.int .i64 ((rd_T42 x0_1 x5_1).f0)) := hcc_ 0 _ rfl
          have hf0_0 : wr.frozen? ⟨go5, (x5_1 : Int).toNat * 3, none⟩ = false := hfr_ 0
          have hx0_1 : wr.cell? ⟨go5, (x5_1 : Int).toNat * 3 + 1, none⟩ = some (.int .i64 ((rd_T42 x0_1 x5_1).f1.f0)) := hcc_ 1 _ rfl
          have hf0_1 : wr.frozen? ⟨go5, (x5_1 : Int).toNat * 3 + 1, none⟩ = false := hfr_ 1
          have hx0_2 : wr.cell? ⟨go5, (x5_1 : Int).toNat * 3 + 2, none⟩ = some (.int .i64 ((rd_T42 x0_1 x5_1).f1.f1)) := hcc_ 2 _ rfl
          have hf0_2 : wr.frozen? ⟨go5, (x5_1 : Int).toNat * 3 + 2, none⟩ = false := hfr_ 2
          have HP0 := Kd.R_seg HO_0.out (x5_1 : Int) (of_decide_eq_true (by first | (with_reducible assumption) | assumption)) (by have h_ : (x5_1 : Int) < ((x0_1.length : Int) : Int) := of_decide_eq_true (by first | (with_reducible assumption) | assumption); first | exact h_ | (have e_ := (Kd.R_reads' HO_0.out).1; omega) | simpa using h_) (seg := [.int .i64 (x1_1)]) (j := 0) hcl_ hcc_ (show 1 ≤ 3 from by decide) (x' := (⟨x1_1, (⟨(rd_T42 x0_1 x5_1).f1.f0, (rd_T42 x0_1 x5_1).f1.f1⟩ : S40)⟩ : S42)) (k42_mkM _ _ _ (⟨x1_1, (⟨(rd_T42 x0_1 x5_1).f1.f0, (rd_T42 x0_1 x5_1).f1.f1⟩ : S40)⟩ : S42)) (fun _ hk => hk)
          clear hcl_ hcc_ hfr_ hM_
          go_wp2_with (first | ((with_reducible refine gate_store (t := 3) (p := 16) rfl ?_); refine store_event (t := 3) (p := 16) (v := ?vo0) (w1 := (wr.setCell ⟨go5, (x5_1 : Int).toNat * 3, none⟩ (.int .i64 (x1_1)))) ?hg ?ho ?hn ?hr ?_; (case ho => rfl); (case hg => rfl); (case hn => rfl); (case hr => first | (go_simp; done) | (go_simp; rfl)); intro w1 hw; have hg : wr.grownBy w1 (some go5) := (by rw [hw]; exact HP0.2); have hp_ : Kd.R k42 42 w1 w0.heap.size (fun k_ => (P0_ k_ ∨ w.heap.size ≤ k_)) (.slice (some ⟨go5, 0, none⟩) x0_1.length co9) y1 := (by rw [hw, Ny1.out]; exact HP0.1); clear HP0; have n0_ := Aside0.mk (hp_); have n1_ := Aside0.mk ((by rw [hw]; exact below_set (HB.out) GB5.out : Below w0.heap.size w0 w1)); have n2_ := Aside0.mk (Kept.of_grown (S := (fun k_ => P0_ k_)) hg (by repeat (first | (with_reducible first | exact HK.out | apply Kept.alloc | apply Kept.drewN | apply Kept.drew) | exact HK.out)) (fun k_ e_ => (HO_0.out.1 k_ e_))); clear HO_0; clear HB; clear HK; have HO_0 := n0_; have HB := n1_; have HK := n2_; clear n0_ n1_ n2_; clear hg hw hp_; obtain ⟨ce_, hcl_, hM_, hcc_, hfr_⟩ := Kd.R_elem HO_0.out z42 (x5_1 : Int) (of_decide_eq_true (by first | (with_reducible assumption) | assumption)) (by have h_ : (x5_1 : Int) < ((x0_1.length : Int) : Int) := of_decide_eq_true (by first | (with_reducible assumption) | assumption); first | exact h_ | (have e_ := (Kd.R_reads' HO_0.out).1; omega) | simpa using h_); obtain rfl := k42_openM hM_; have hx1_0 : w1.cell? ⟨go5, (x5_1 : Int).toNat * 3, none⟩ = some (.int .i64 ((rd_T42 y1 x5_1).f0)) := hcc_ 0 _ rfl; have hf1_0 : w1.frozen? ⟨go5, (x5_1 : Int).toNat * 3, none⟩ = false := hfr_ 0; have hx1_1 : w1.cell? ⟨go5, (x5_1 : Int).toNat * 3 + 1, none⟩ = some (.int .i64 ((rd_T42 y1 x5_1).f1.f0)) := hcc_ 1 _ rfl; have hf1_1 : w1.frozen? ⟨go5, (x5_1 : Int).toNat * 3 + 1, none⟩ = false := hfr_ 1; have hx1_2 : w1.cell? ⟨go5, (x5_1 : Int).toNat * 3 + 2, none⟩ = some (.int .i64 ((rd_T42 y1 x5_1).f1.f1)) := hcc_ 2 _ rfl; have hf1_2 : w1.frozen? ⟨go5, (x5_1 : Int).toNat * 3 + 2, none⟩ = false := hfr_ 2; have HP1 := Kd.R_seg HO_0.out (x5_1 : Int) (of_decide_eq_true (by first | (with_reducible assumption) | assumption)) (by have h_ : (x5_1 : Int) < ((x0_1.length : Int) : Int) := of_decide_eq_true (by first | (with_reducible assumption) | assumption); first | exact h_ | (have e_ := (Kd.R_reads' HO_0.out).1; omega) | simpa using h_) (seg := [.int .i64 (wrap64 (x1_1 + 1))]) (j := 1) hcl_ hcc_ (show 2 ≤ 3 from by decide) (x' := (⟨(rd_T42 y1 x5_1).f0, (⟨wrap64 (x1_1 + 1), (rd_T42 y1 x5_1).f1.f1⟩ : S40)⟩ : S42)) (k42_mkM _ _ _ (⟨(rd_T42 y1 x5_1).f0, (⟨wrap64 (x1_1 + 1), (rd_T42 y1 x5_1).f1.f1⟩ : S40)⟩ : S42)) (fun _ hk => hk); clear hcl_ hcc_ hfr_ hM_) | ((with_reducible refine gate_store (t := 3) (p := 24) rfl ?_); refine store_event (t := 3) (p := 24) (v := ?vo1) (w1 := (w1.setCell ⟨go5, (x5_1 : Int).toNat * 3 + 1, none⟩ (.int .i64 (wrap64 (x1_1 + 1))))) ?hg ?ho ?hn ?hr ?_; (case ho => rfl); (case hg => rfl); (case hn => rfl); (case hr => first | (go_simp; done) | (go_simp; rfl)); intro w2 hw; have hg : w1.grownBy w2 (some go5) := (by rw [hw]; exact HP1.2); have hp_ : Kd.R k42 42 w2 w0.heap.size (fun k_ => (P0_ k_ ∨ w.heap.size ≤ k_)) (.slice (some ⟨go5, 0, none⟩) x0_1.length co9) y2 := (by rw [hw, Ny2.out]; exact HP1.1); clear HP1; have n0_ := Aside0.mk (hp_); have n1_ := Aside0.mk ((by rw [hw]; exact below_set (HB.out) GB5.out : Below w0.heap.size w0 w2)); have n2_ := Aside0.mk (Kept.of_grown (S := (fun k_ => P0_ k_)) hg (by repeat (first | (with_reducible first | exact HK.out | apply Kept.alloc | apply Kept.drewN | apply Kept.drew) | exact HK.out)) (fun k_ e_ => (HO_0.out.1 k_ e_))); clear HO_0; clear HB; clear HK; have HO_0 := n0_; have HB := n1_; have HK := n2_; clear n0_ n1_ n2_; clear hg hw hp_; obtain ⟨ce_, hcl_, hM_, hcc_, hfr_⟩ := Kd.R_elem HO_0.out z42 (x5_1 : Int) (of_decide_eq_true (by first | (with_reducible assumption) | assumption)) (by have h_ : (x5_1 : Int) < ((x0_1.length : Int) : Int) := of_decide_eq_true (by first | (with_reducible assumption) | assumption); first | exact h_ | (have e_ := (Kd.R_reads' HO_0.out).1; omega) | simpa using h_); obtain rfl := k42_openM hM_; have hx2_0 : w2.cell? ⟨go5, (x5_1 : Int).toNat * 3, none⟩ = some (.int .i64 ((rd_T42 y2 x5_1).f0)) := hcc_ 0 _ rfl; have hf2_0 : w2.frozen? ⟨go5, (x5_1 : Int).toNat * 3, none⟩ = false := hfr_ 0; have hx2_1 : w2.cell? ⟨go5, (x5_1 : Int).toNat * 3 + 1, none⟩ = some (.int .i64 ((rd_T42 y2 x5_1).f1.f0)) := hcc_ 1 _ rfl; have hf2_1 : w2.frozen? ⟨go5, (x5_1 : Int).toNat * 3 + 1, none⟩ = false := hfr_ 1; have hx2_2 : w2.cell? ⟨go5, (x5_1 : Int).toNat * 3 + 2, none⟩ = some (.int .i64 ((rd_T42 y2 x5_1).f1.f1)) := hcc_ 2 _ rfl; have hf2_2 : w2.frozen? ⟨go5, (x5_1 : Int).toNat * 3 + 2, none⟩ = false := hfr_ 2; have HP2 := Kd.R_seg HO_0.out (x5_1 : Int) (of_decide_eq_true (by first | (with_reducible assumption) | assumption)) (by have h_ : (x5_1 : Int) < ((x0_1.length : Int) : Int) := of_decide_eq_true (by first | (with_reducible assumption) | assumption); first | exact h_ | (have e_ := (Kd.R_reads' HO_0.out).1; omega) | simpa using h_) (seg := [.int .i64 (wrap64 ((wrap64 (x1_1 + 1)) + 1))]) (j := 2) hcl_ hcc_ (show 3 ≤ 3 from by decide) (x' := (⟨(rd_T42 y2 x5_1).f0, (⟨(rd_T42 y2 x5_1).f1.f0, wrap64 ((wrap64 (x1_1 + 1)) + 1)⟩ : S40)⟩ : S42)) (k42_mkM _ _ _ (⟨(rd_T42 y2 x5_1).f0, (⟨(rd_T42 y2 x5_1).f1.f0, wrap64 ((wrap64 (x1_1 + 1)) + 1)⟩ : S40)⟩ : S42)) (fun _ hk => hk); clear hcl_ hcc_ hfr_ hM_) | ((with_reducible refine gate_store (t := 3) (p := 32) rfl ?_); refine store_event (t := 3) (p := 32) (v := ?vo2) (w1 := (w2.setCell ⟨go5, (x5_1 : Int).toNat * 3 + 2, none⟩ (.int .i64 (wrap64 ((wrap64 (x1_1 + 1)) + 1))))) ?hg ?ho ?hn ?hr ?_; (case ho => rfl); (case hg => rfl); (case hn => rfl); (case hr => first | (go_simp; done) | (go_simp; rfl)); intro w3 hw; have hg : w2.grownBy w3 (some go5) := (by rw [hw]; exact HP2.2); have hp_ : Kd.R k42 42 w3 w0.heap.size (fun k_ => (P0_ k_ ∨ w.heap.size ≤ k_)) (.slice (some ⟨go5, 0, none⟩) x0_1.length co9) y3 := (by rw [hw, Ny3.out]; exact HP2.1); clear HP2; have n0_ := Aside0.mk (hp_); have n1_ := Aside0.mk ((by rw [hw]; exact below_set (HB.out) GB5.out : Below w0.heap.size w0 w3)); have n2_ := Aside0.mk (Kept.of_grown (S := (fun k_ => P0_ k_)) hg (by repeat (first | (with_reducible first | exact HK.out | apply Kept.alloc | apply Kept.drewN | apply Kept.drew) | exact HK.out)) (fun k_ e_ => (HO_0.out.1 k_ e_))); clear HO_0; clear HB; clear HK; have HO_0 := n0_; have HB := n1_; have HK := n2_; clear n0_ n1_ n2_; clear hg hw hp_))
          go_roundg k1
          case measure => have := HK1.out; omega
          case rel => exact ⟨y3, (wrap64 ((wrap64 ((wrap64 (x1_1 + 1)) + 1)) + 1)), (wrap64 (x5_1 + 1)), (by first | rfl | (simp; done) | (simp [*]; done)), (by first | rfl | (simp; done) | (simp [*]; done)), H', ⟨by have := HK1.out; omega⟩, ⟨by (with_reducible repeat (first | apply Kd.R_alloc | apply Kd.R_drewN | apply Kd.R_drew)); exact HO_0.out⟩, ⟨by repeat (first | (with_reducible first | exact HK.out | apply Kept.alloc | apply Kept.drewN | apply Kept.drew) | exact HK.out)⟩, ⟨by repeat (first | (with_reducible first | exact HB.out | apply below_alloc | apply pw_below_drewN | apply below_drew1) | exact HB.out)⟩⟩
        · rw [if_neg c4] at H
          exact absurd H (by simp)
      · rw [if_neg c3] at H
        have c3b0 : decide (x5_1 < (x0_1.length : Int)) = false := decide_eq_false c3
        clear c3
        simp only [Option.some.injEq, Prod.mk.injEq] at H
        obtain ⟨rfl, rfl⟩ := H
        obtain ⟨Ao9, co9, eo9⟩ := Kd.R_slice HO_0.out
        subst eo9
        go_wp2
        go_ret
        exact ⟨by first | rfl | (simp; done) | (simp [*]; done), by (with_reducible repeat (first | apply Kd.R_alloc | apply Kd.R_drewN | apply Kd.R_drew)); exact HO_0.out, by repeat (first | (with_reducible first | exact HB.out | apply below_alloc | apply pw_below_drewN | apply below_drew1) | exact HB.out), by repeat (first | (with_reducible first | exact HK.out | apply Kept.alloc | apply Kept.drewN | apply Kept.drew) | exact HK.out)⟩
end Go.Proofs.Ytiolnbhcmoafjaa.QFnClocks
