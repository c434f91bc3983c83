/- The functions that the law reaches, each as a plain Lean function with the proof that the Go code comes to its answers: written by a program of this session. No condition. -/
import Derived.Test.YtjplogeifleojaaQFnExactKeyBytesx0
import Derived.Test.YtjplogeifleojaaQFnExactKeyBytesx5
namespace Go.Proofs.Ytjplogeifleojaa.QFnExactKeyBytes
open Go.RowKit Go.Proofs.YtjplogeifleojaaW.PrintWords Go.Proofs.YtjplogeifleojaaW.PrintLast Go.Proofs.YtjplogeifleojaaW.PrintMore
attribute [local go_sem] max2_int min2_int max_two min_two max_three min_three max_four min_four str_gtr str_leq str_geq pw_at_slice   -- for this text's walks alone
set_option linter.unusedVariables false
set_option linter.unusedSimpArgs false

theorem q6z0 {P : Prop} (h : P := by repeat (first | (with_reducible first | exact HB.out | apply below_alloc | apply pw_below_drewN | apply below_drew1 | refine below_set ?_ GE645.out) | exact HB.out)) : P := h
theorem q6z1 {P : Prop} (h : P := by (with_reducible repeat (first | refine blk_drewN ?_ _ | refine blk_drew ?_ | refine blk_alloc ?_ _)); exact BK645.out) : P := h
theorem q6z2 {P : Prop} (h : P := by first | (simp only [putAll, Act.put, List.setIfInBounds_toArray, List.set_cons_zero, List.set_cons_succ]; done) | (simp only [putAll, Act.put, List.setIfInBounds_toArray, List.set_cons_zero, List.set_cons_succ]; rfl)) : P := h
theorem q6z3 {P : Prop} (h : P := by (try simp only [List.map_toArray, List.map_cons, List.map_nil]); first | done | rfl | (simp only [List.length_drop, List.length_take]; rfl)) : P := h
theorem q6z4 {P : Prop} (h : P := by (with_reducible repeat (first | apply Kd.R_alloc | apply Kd.R_drewN | apply Kd.R_drew)); exact HO656.out) : P := h
theorem q6z5 {P : Prop} (h : P := by (with_reducible repeat (first | apply Kd.R_alloc | apply Kd.R_drewN | apply Kd.R_drew)); exact HO662.out) : P := h
theorem q6z6 {P : Prop} (h : P := by repeat (first | (with_reducible first | exact HB.out | apply below_alloc | apply pw_below_drewN | apply below_drew1) | exact HB.out)) : P := h
theorem q6z7 {P : Prop} (h : P := by kernel_rfl) : P := h
theorem x6_sz_lit1 (x : UInt8) : (⟨#[x]⟩ : ByteArray).size = 1 := rfl
/-! ### impl_KeyBytes: function 9 -/
def impl_KeyBytes.bld_lays169_ren : Go.Shelf.Ren := ⟨fun | 169 => 29 | n => n, fun | 70 => 50 | 9 => 9 | 0 => 0 | 72 => 52 | 37 => 34 | 127 => 77 | 3 => 3 | 5 => 5 | n => n, fun | n => n⟩
theorem impl_KeyBytes.bld_lays169 : Go.Proofs.Lays.n169 Try.prog impl_KeyBytes.bld_lays169_ren := {
  mixed := by kernel_rfl
  f169 := Try.func29.trans (congrArg some q6z7)
  t0 := Try.underlying0
  a0 := Try.isAgg0
  z0 := Try.sizeOf0
  v0 := Try.zeroValue0
  t3 := Try.underlying3
  a3 := Try.isAgg3
  z3 := Try.sizeOf3
  v3 := Try.zeroValue3
  t9 := Try.underlying9
  a9 := Try.isAgg9
  z9 := Try.sizeOf9
  v9 := Try.zeroValue9
  t37 := Try.underlying34
  a37 := Try.isAgg34
  z37 := Try.sizeOf34
  v37 := Try.zeroValue34
  t70 := Try.underlying50
  a70 := Try.isAgg50
  z70 := Try.sizeOf50
  v70 := Try.zeroValue50
  t72 := Try.underlying52
  a72 := Try.isAgg52
  z72 := Try.sizeOf52
  v72 := Try.zeroValue52
  t127 := Try.underlying77
  a127 := Try.isAgg77
  z127 := Try.sizeOf77
  v127 := Try.zeroValue77 }
theorem impl_KeyBytes.bld_extra : Builder.Extra Try.prog impl_KeyBytes.bld_lays169_ren := {
  sizeBuilder := by kernel_rfl
  liesBuilder := by kernel_rfl
  t5 := Try.underlying5
  a5 := Try.isAgg5
  z5 := Try.sizeOf5
  v5 := Try.zeroValue5
  infoByte := by kernel_rfl
  cellsByte := by kernel_rfl
  sizeByte := by kernel_rfl
  neB5 := by decide }

theorem impl_KeyBytes.bld_used (b : Nat) (w : World) (h0 : w.cell? ⟨b, 0, none⟩ = some (.pointer (some ⟨b, 0, none⟩))) :
    Calls Try.prog 49 #[.pointer (some ⟨b, 0, none⟩)] w fun e w' => e = .returned (.tuple #[]) ∧ w' = w := by
  obtain ⟨j, hj, _⟩ := Option.map_eq_some_iff.1 impl_KeyBytes.bld_extra.sizeBuilder
  go_enter Try.func49, Try.ntmps49
  go_wp2
  rw [Lib.run_neq_ptr_same w _ Try.underlying50 hj]
  go_wp2
  go_end0
  exact ⟨rfl, rfl⟩
theorem impl_KeyBytes.bld_fresh (b : Nat) (w : World) (h0 : w.cell? ⟨b, 0, none⟩ = some (.pointer none)) (hsh : w.shape? b = some (52, 2)) (hfz : w.frozen? ⟨b, 0, none⟩ = false) :
    Calls Try.prog 49 #[.pointer (some ⟨b, 0, none⟩)] w fun e w' => e = .returned (.tuple #[]) ∧ w' = w.setCell ⟨b, 0, none⟩ (.pointer (some ⟨b, 0, none⟩)) := by
  obtain ⟨j, hj, hjs⟩ := Option.map_eq_some_iff.1 impl_KeyBytes.bld_extra.sizeBuilder
  go_enter Try.func49, Try.ntmps49
  go_wp2
  rw [Lib.run_to_unsafe w ⟨b, 0, none⟩ Try.underlying50 Try.underlying86 hj (by rw [hjs]; decide) hsh (Nat.zero_lt_succ 1)]
  simp only [Result.andThen]
  rw [Oper.upon_value]
  go_wp2
  rw [run_callFunc_extern Try.func59 q6z7 q6z7 q6z7 (e := Extern.AbiNoEscape.same) q6z7]
  rw [Lib.run_noEscape]
  simp only [Result.andThen]
  rw [Oper.upon_value]
  go_wp2
  rw [Lib.run_from_unsafe w ⟨b, 0, none⟩ Try.underlying86 Try.underlying50 hj hsh impl_KeyBytes.bld_extra.liesBuilder]
  simp only [Result.andThen]
  rw [Oper.upon_value]
  go_wp2
  go_end0
  exact ⟨rfl, rfl⟩
theorem impl_KeyBytes.bld_check (B b : Nat) (bs : List Value) (w : World) (h : Lib.IsBuilder 52 5 B b bs w) :
    Calls Try.prog 49 #[.pointer (some ⟨b, 0, none⟩)] w fun e w' => e = .returned (.tuple #[]) ∧ (Lib.BuilderAt 52 5 B b (.pointer (some ⟨b, 0, none⟩)) bs w' ∧ Below B w w') := by
  rcases h with h | h
  · refine (impl_KeyBytes.bld_fresh b w h.cell0 h.shape h.frozen0).mono ?_
    rintro e w' ⟨rfl, rfl⟩
    exact ⟨rfl, h.used _, (Below.refl B w).setCell (p := ⟨b, 0, none⟩) h.1 _⟩
  · refine (impl_KeyBytes.bld_used b w h.cell0).mono ?_
    rintro e w' ⟨rfl, rfl⟩
    exact ⟨rfl, h, Below.refl B _⟩
set_option maxHeartbeats 1000000 in
theorem impl_KeyBytes.bld_write (B b : Nat) (bs : List Value) (s : ByteArray) (w : World) (h : Lib.IsBuilder 52 5 B b bs w) (hlen : bs.length + s.size ≤ 140737488355328) (hBw : B ≤ w.heap.size) :
    Calls Try.prog 26 #[.pointer (some ⟨b, 0, none⟩), .string s] w fun e w' => e = .returned (.tuple #[.int .i64 s.size, .nilIface]) ∧ (Lib.BuilderAt 52 5 B b (.pointer (some ⟨b, 0, none⟩)) (bs ++ Lib.strCells s) w' ∧ Below B w w') := by
  obtain ⟨i0, hi, hz0, hz1, hz2⟩ := info_parts impl_KeyBytes.bld_extra.infoByte
  go_enter Try.func26, Try.ntmps26
  go_wp2_with (go_at_call 49; refine (impl_KeyBytes.bld_check B b bs _ h).mono ?_)
  rintro e w1 ⟨rfl, h1, hb1⟩
  obtain ⟨hB, v, hbk, hown, hne⟩ := h1
  have c0 : w1.cell? ⟨b, 0, none⟩ = some (.pointer (some ⟨b, 0, none⟩)) := by rw [Lib.cell_of_heap hbk]; rfl
  have c1 : w1.cell? ⟨b, 1, none⟩ = some v := by rw [Lib.cell_of_heap hbk]; rfl
  go_wp2_with (at_builtin; refine Lib.wpList_append_own_string _ rfl _ _ 34 9 rfl B 5 i0 Try.underlying34 Try.underlying9 hi hz0 hz1 hz2 _ _ _ rfl hown s rfl ?c3 ?c4 ?c5 ?_)
  case c3 => unfold maxLen; omega
  case c4 => omega
  case c5 => have := hb1.size; omega
  intro v' w2 hown' hgrow _
  have hlt : b < w1.heap.size := by
    rcases Nat.lt_or_ge b w1.heap.size with h' | h'
    · exact h'
    · simp [Array.getElem?_eq_none h'] at hbk
  have hb2 : w2.heap[b]? = some (.cells #[.pointer (some ⟨b, 0, none⟩), v] 52 (0, 0)) := by
    rw [hgrow.block b hlt (fun e => hne e.symm)]
    exact hbk
  have d0 : w2.cell? ⟨b, 0, none⟩ = some (.pointer (some ⟨b, 0, none⟩)) := by rw [Lib.cell_of_heap hb2]; rfl
  have d1 : w2.cell? ⟨b, 1, none⟩ = some v := by rw [Lib.cell_of_heap hb2]; rfl
  have f1 : w2.frozen? ⟨b, 1, none⟩ = false := Lib.frozen_of_heap hb2 1
  obtain ⟨ao, n', cap, rfl⟩ : ∃ ao n' cap, v' = .slice ao n' cap := by
    rcases hown'.2 with ⟨hv, _⟩ | ⟨g, cap, cur, hv, _⟩
    · exact ⟨_, _, _, hv⟩
    · exact ⟨_, _, _, hv⟩
  go_wp2
  go_ret2
  refine ⟨rfl, ?_, ?_⟩
  · exact Lib.BuilderAt.put (T := 52) (e := 5) hB hb2 (bs' := bs ++ Lib.strCells s) (by simpa [Lib.strCells_length] using hown') impl_KeyBytes.bld_extra.neB5
  · exact (hb1.grown hgrow (by have := hb1.size; omega) (fun k hk => (hown.lt k hk).1)).setCell (p := ⟨b, 1, none⟩) hB _
set_option maxHeartbeats 1000000 in
theorem impl_KeyBytes.bld_byte (B b : Nat) (bs : List Value) (c : Int) (w : World) (h : Lib.IsBuilder 52 5 B b bs w) (hlen : bs.length + 1 ≤ 140737488355328) (hBw : B ≤ w.heap.size) :
    Calls Try.prog 25 #[.pointer (some ⟨b, 0, none⟩), .int .u8 c] w fun e w' => e = .returned .nilIface ∧ (Lib.BuilderAt 52 5 B b (.pointer (some ⟨b, 0, none⟩)) (bs ++ [.int .u8 c]) w' ∧ Below B w w') := by
  obtain ⟨i0, hi, hz0, hz1, hz2⟩ := info_parts impl_KeyBytes.bld_extra.infoByte
  go_enter Try.func25, Try.ntmps25
  go_wp2_with (go_at_call 49; refine (impl_KeyBytes.bld_check B b bs _ h).mono ?_)
  rintro e w1 ⟨rfl, h1, hb1⟩
  obtain ⟨hB, v, hbk, hown, hne⟩ := h1
  have c0 : w1.cell? ⟨b, 0, none⟩ = some (.pointer (some ⟨b, 0, none⟩)) := by rw [Lib.cell_of_heap hbk]; rfl
  have c1 : w1.cell? ⟨b, 1, none⟩ = some v := by rw [Lib.cell_of_heap hbk]; rfl
  go_wp2_with (at_builtin; refine wpList_append_own _ rfl _ _ 34 rfl B 5 i0 (.int .u8 0) 1 1 Try.underlying34 hi hz0 hz1 hz2 rfl (by decide) _ _ _ rfl (hown.alloc _) ⟨w1.heap.size, 0, none⟩ 1 1 [.int .u8 c] rfl rfl ?c1 ?c2 ?c3 ?c4 ?c5 ?_)
  case c1 =>
    intro j u hj
    match j, hj with
    | 0, hj => simp at hj; subst hj; simp [Addr.add]
  case c2 => intro u hu; simp at hu; subst hu; rfl
  case c3 => unfold maxLen; omega
  case c4 => omega
  case c5 => have := hb1.size; simp; omega
  intro v' w2 hown' hgrow _
  have hlt : b < w1.heap.size := by
    rcases Nat.lt_or_ge b w1.heap.size with h' | h'
    · exact h'
    · simp [Array.getElem?_eq_none h'] at hbk
  have hb2 : w2.heap[b]? = some (.cells #[.pointer (some ⟨b, 0, none⟩), v] 52 (0, 0)) := by
    rw [hgrow.block b (by simp; omega) (fun e => hne e.symm), Lib.alloc_old w1 _ b hlt]
    exact hbk
  have d0 : w2.cell? ⟨b, 0, none⟩ = some (.pointer (some ⟨b, 0, none⟩)) := by rw [Lib.cell_of_heap hb2]; rfl
  have d1 : w2.cell? ⟨b, 1, none⟩ = some v := by rw [Lib.cell_of_heap hb2]; rfl
  have f1 : w2.frozen? ⟨b, 1, none⟩ = false := Lib.frozen_of_heap hb2 1
  obtain ⟨g, cap, rfl⟩ : ∃ g cap, v' = .slice (some ⟨g, 0, none⟩) (bs.length + 1) cap := by
    rcases hown'.2 with ⟨_, h0⟩ | ⟨g, cap, cur, hv, _⟩
    · omega
    · exact ⟨g, cap, hv⟩
  go_wp2
  go_ret
  refine ⟨rfl, ?_, ?_⟩
  · exact Lib.BuilderAt.put (T := 52) (e := 5) hB hb2 (bs' := bs ++ [.int .u8 c]) (by simpa using hown') impl_KeyBytes.bld_extra.neB5
  · exact ((hb1.alloc (by have := hb1.size; omega) _).grown hgrow (by have := hb1.size; simp; omega) (fun k hk => (hown.lt k hk).1)).setCell (p := ⟨b, 1, none⟩) hB _
theorem impl_KeyBytes.bld_app (a s : ByteArray) : Lib.byteCells (a ++ s).data.toList = Lib.byteCells a.data.toList ++ Lib.strCells s := by
  rw [ByteArray.data_append, Array.toList_append, Lib.byteCells_append]; rfl
theorem impl_KeyBytes.bld_len {a : ByteArray} {n : Nat} (h : a.size + n ≤ 140737488355328) : (Lib.byteCells a.data.toList).length + n ≤ 140737488355328 := by
  rw [Lib.byteCells_length, Array.length_toList]; exact h
theorem impl_KeyBytes.bld_text (B b : Nat) (l : List UInt8) (w : World) (h : Lib.IsBuilder 52 5 B b (Lib.byteCells l) w) (hBw : B ≤ w.heap.size) :
    Calls Try.prog 29 #[.pointer (some ⟨b, 0, none⟩)] w fun e w' => e = .returned (.string ⟨l.toArray⟩) ∧ Below B w w' := Any.Builder_String_any impl_KeyBytes.bld_lays169 impl_KeyBytes.bld_extra B b l w h hBw
theorem impl_KeyBytes.bld_below {T e : TypeId} {B b : Nat} {p : Value} {bs : List Value} {W W' : World} (h : Lib.BuilderAt T e B b p bs W) (hb : Below W.heap.size W W') : Lib.BuilderAt T e B b p bs W' := by
  have hlt := h.lt
  obtain ⟨hB, v, hv, hown, hne⟩ := h
  refine ⟨hB, v, (hb.block b hlt).trans hv, ⟨hown.1, ?_⟩, hne⟩
  rcases hown.2 with h | ⟨g, cap, cur, e1, e2, e3, r⟩
  · exact .inl h
  · exact .inr ⟨g, cap, cur, e1, e2, (hb.block g (blk_lt e3)).trans e3, r⟩
theorem impl_KeyBytes.bld_isb {T e : TypeId} {B b : Nat} {bs : List Value} {W W' : World} (h : Lib.IsBuilder T e B b bs W) (hb : Below W.heap.size W W') : Lib.IsBuilder T e B b bs W' :=
  h.elim (fun x => .inl (impl_KeyBytes.bld_below x hb)) (fun x => .inr (impl_KeyBytes.bld_below x hb))
theorem impl_KeyBytes.bld_low {T e : TypeId} {B b : Nat} {bs : List Value} {W : World} (h : Lib.IsBuilder T e B b bs W) : b < W.heap.size := h.elim (fun x => x.lt) (fun x => x.lt)
set_option maxRecDepth 100000 in
mutual
def impl_KeyBytes.l0 : Nat → ByteArray → List (S42) → Int → Int → Option (ByteArray × Int)
  | 0, _, _, _, _ => none
  | k + 1, x4, x13, x14, x15 => if x15 < x14 then (if 0 ≤ x15 then (if x15 < (x13.length : Int) then ((impl_ValueOK.f k ((rd_T42 x13 x15).f0) ((rd_T42 x13 x15).f1) ((rd_T42 x13 x15).f2) ((rd_T42 x13 x15).f3)).bind fun t646 => (if t646 = true then (if ((rd_T42 x13 x15).f0) = 0 then (if x4.size + 1 ≤ 140737488355328 then (impl_KeyBytes.l0 k (x4 ++ (⟨#[1]⟩ : ByteArray)) x13 x14 (wrap64 (x15 + 1))) else (none)) else (if ((rd_T42 x13 x15).f0) = 1 then ((some (([2, ((rd_T42 x13 x15).f1) % 256] : List Int) : List Int)).bind fun y647 => (if x4.size + (strOfNums y647).size ≤ 140737488355328 then (impl_KeyBytes.l0 k (x4 ++ (strOfNums y647)) x13 x14 (wrap64 (x15 + 1))) else (none))) else (if ((rd_T42 x13 x15).f0) = 2 then (impl_KeyBytes.j1 k x4 x13 x14 x15 ((rd_T42 x13 x15).f0) (((rd_T42 x13 x15).f0) == 2) ((rd_T42 x13 x15).f0) ((rd_T42 x13 x15).f1) ((rd_T42 x13 x15).f2) ((rd_T42 x13 x15).f3)) else (impl_KeyBytes.j1 k x4 x13 x14 x15 ((rd_T42 x13 x15).f0) (((rd_T42 x13 x15).f0) == 3) ((rd_T42 x13 x15).f0) ((rd_T42 x13 x15).f1) ((rd_T42 x13 x15).f2) ((rd_T42 x13 x15).f3))))) else (some ((⟨#[]⟩ : ByteArray), 1)))) else (none)) else (none)) else (some (x4, 0))
def impl_KeyBytes.j1 : Nat → ByteArray → List (S42) → Int → Int → Int → Bool → Int → Int → Int → ByteArray → Option (ByteArray × Int)
  | 0, _, _, _, _, _, _, _, _, _, _ => none
  | k + 1, x4, x13, x14, x15, x23, x35, x646000, x646001, x646002, x646003 => if x35 = true then ((impl_p10.f k x646002).bind fun t650 => (if t650 = 0 then (none) else (if (Int.tmod x646001 t650) < 0 then ((impl_bytesOf.f k (wrap64 (1152921504606846976 + (wrap64 ((wrap64 (Int.tdiv x646001 t650)) - 1)))) 8).bind fun t651 => (if 1 + t651.size ≤ 9223372036854775807 then ((impl_p10.f k (wrap64 (6 - x646002))).bind fun t652 => ((impl_bytesOf.f k (wrap64 ((wrap64 ((Int.tmod x646001 t650) + t650)) * t652)) 3).bind fun t653 => (if ((⟨#[3]⟩ : ByteArray) ++ t651).size + t653.size ≤ 9223372036854775807 then ((some (([(x646000) % 256] : List Int) : List Int)).bind fun y654 => (if (((⟨#[3]⟩ : ByteArray) ++ t651) ++ t653).size + (strOfNums y654).size ≤ 9223372036854775807 then (if x4.size + ((((⟨#[3]⟩ : ByteArray) ++ t651) ++ t653) ++ (strOfNums y654)).size ≤ 140737488355328 then (impl_KeyBytes.l0 k (x4 ++ ((((⟨#[3]⟩ : ByteArray) ++ t651) ++ t653) ++ (strOfNums y654))) x13 x14 (wrap64 (x15 + 1))) else (none)) else (none))) else (none)))) else (none))) else ((impl_bytesOf.f k (wrap64 (1152921504606846976 + (wrap64 (Int.tdiv x646001 t650)))) 8).bind fun t657 => (if 1 + t657.size ≤ 9223372036854775807 then ((impl_p10.f k (wrap64 (6 - x646002))).bind fun t658 => ((impl_bytesOf.f k (wrap64 ((Int.tmod x646001 t650) * t658)) 3).bind fun t659 => (if ((⟨#[3]⟩ : ByteArray) ++ t657).size + t659.size ≤ 9223372036854775807 then ((some (([(x646000) % 256] : List Int) : List Int)).bind fun y660 => (if (((⟨#[3]⟩ : ByteArray) ++ t657) ++ t659).size + (strOfNums y660).size ≤ 9223372036854775807 then (if x4.size + ((((⟨#[3]⟩ : ByteArray) ++ t657) ++ t659) ++ (strOfNums y660)).size ≤ 140737488355328 then (impl_KeyBytes.l0 k (x4 ++ ((((⟨#[3]⟩ : ByteArray) ++ t657) ++ t659) ++ (strOfNums y660))) x13 x14 (wrap64 (x15 + 1))) else (none)) else (none))) else (none)))) else (none)))))) else (if x23 = 4 then (if 1 + x646003.size ≤ 9223372036854775807 then (if ((⟨#[4]⟩ : ByteArray) ++ x646003).size + 1 ≤ 9223372036854775807 then (if x4.size + (((⟨#[4]⟩ : ByteArray) ++ x646003) ++ (⟨#[0]⟩ : ByteArray)).size ≤ 140737488355328 then (impl_KeyBytes.l0 k (x4 ++ (((⟨#[4]⟩ : ByteArray) ++ x646003) ++ (⟨#[0]⟩ : ByteArray))) x13 x14 (wrap64 (x15 + 1))) else (none)) else (none)) else (none)) else (if x23 = 5 then ((impl_bytesOf.f k x646001 3).bind fun t663 => (if 1 + t663.size ≤ 9223372036854775807 then (if x4.size + ((⟨#[5]⟩ : ByteArray) ++ t663).size ≤ 140737488355328 then (impl_KeyBytes.l0 k (x4 ++ ((⟨#[5]⟩ : ByteArray) ++ t663)) x13 x14 (wrap64 (x15 + 1))) else (none)) else (none))) else (impl_KeyBytes.l0 k x4 x13 x14 (wrap64 (x15 + 1)))))
end
def impl_KeyBytes.f (k : Nat) (l0 : List (S42)) : Option (ByteArray × Int) := if (l0.length : Int) > 16 then (some ((⟨#[]⟩ : ByteArray), 1)) else (impl_KeyBytes.l0 k (⟨#[]⟩ : ByteArray) l0 (l0.length : Int) 0)
theorem impl_KeyBytes.mono_l : ∀ k, (∀ y0 y1 y2 y3, LeO (impl_KeyBytes.l0 k y0 y1 y2 y3) (impl_KeyBytes.l0 (k + 1) y0 y1 y2 y3)) ∧ (∀ y0 y1 y2 y3 y4 y5 y6 y7 y8 y9, LeO (impl_KeyBytes.j1 k y0 y1 y2 y3 y4 y5 y6 y7 y8 y9) (impl_KeyBytes.j1 (k + 1) y0 y1 y2 y3 y4 y5 y6 y7 y8 y9))
  | 0 => ⟨fun _ _ _ _ r h => by simp [impl_KeyBytes.l0] at h, fun _ _ _ _ _ _ _ _ _ _ r h => by simp [impl_KeyBytes.j1] at h⟩
  | k + 1 => by
    obtain ⟨ih0, ih1⟩ := impl_KeyBytes.mono_l k
    refine ⟨?_, ?_⟩
    · intro y0 y1 y2 y3
      unfold impl_KeyBytes.l0
      repeat' first
      | (with_reducible exact ih0 _ _ _ _)
      | (with_reducible exact ih1 _ _ _ _ _ _ _ _ _ _)
      | (with_reducible exact impl_ValueOK.mono _ _ _ _ _)
      | (with_reducible exact impl_bytesOf.mono _ _ _)
      | (with_reducible exact impl_p10.mono _ _)
      | (with_reducible exact LeO.refl _)
      | (with_reducible exact LeO.none _)
      | (with_reducible refine LeO.ite ?_ ?_)
      | (with_reducible refine LeO.bind ?_ (fun _ => ?_))
      | exact ih0 _ _ _ _
      | exact ih1 _ _ _ _ _ _ _ _ _ _
      | exact impl_ValueOK.mono _ _ _ _ _
      | exact impl_bytesOf.mono _ _ _
      | exact impl_p10.mono _ _
      | exact LeO.none _
      | refine LeO.ite ?_ ?_
      | refine LeO.bind ?_ (fun _ => ?_)
    · intro y0 y1 y2 y3 y4 y5 y6 y7 y8 y9
      unfold impl_KeyBytes.j1
      repeat' first
      | (with_reducible exact ih0 _ _ _ _)
      | (with_reducible exact ih1 _ _ _ _ _ _ _ _ _ _)
      | (with_reducible exact impl_ValueOK.mono _ _ _ _ _)
      | (with_reducible exact impl_bytesOf.mono _ _ _)
      | (with_reducible exact impl_p10.mono _ _)
      | (with_reducible exact LeO.refl _)
      | (with_reducible exact LeO.none _)
      | (with_reducible refine LeO.ite ?_ ?_)
      | (with_reducible refine LeO.bind ?_ (fun _ => ?_))
      | exact ih0 _ _ _ _
      | exact ih1 _ _ _ _ _ _ _ _ _ _
      | exact impl_ValueOK.mono _ _ _ _ _
      | exact impl_bytesOf.mono _ _ _
      | exact impl_p10.mono _ _
      | exact LeO.none _
      | refine LeO.ite ?_ ?_
      | refine LeO.bind ?_ (fun _ => ?_)
theorem impl_KeyBytes.mono : ∀ a0 k, LeO (impl_KeyBytes.f k a0) (impl_KeyBytes.f (k + 1) a0) := by
  intro a0 k
  obtain ⟨ih0, ih1⟩ := impl_KeyBytes.mono_l k
  unfold impl_KeyBytes.f
  repeat' first
      | (with_reducible exact ih0 _ _ _ _)
      | (with_reducible exact ih1 _ _ _ _ _ _ _ _ _ _)
      | (with_reducible exact impl_ValueOK.mono _ _ _ _ _)
      | (with_reducible exact impl_bytesOf.mono _ _ _)
      | (with_reducible exact impl_p10.mono _ _)
      | (with_reducible exact LeO.refl _)
      | (with_reducible exact LeO.none _)
      | (with_reducible refine LeO.ite ?_ ?_)
      | (with_reducible refine LeO.bind ?_ (fun _ => ?_))
      | exact ih0 _ _ _ _
      | exact ih1 _ _ _ _ _ _ _ _ _ _
      | exact impl_ValueOK.mono _ _ _ _ _
      | exact impl_bytesOf.mono _ _ _
      | exact impl_p10.mono _ _
      | exact LeO.none _
      | refine LeO.ite ?_ ?_
      | refine LeO.bind ?_ (fun _ => ?_)
def impl_KeyBytes.T22 : Bool × List (List Nat × List Nat) := (true, [([], []), ([0], [0]), ([1], [1]), ([2], [2]), ([], []), ([], []), ([5], [5]), ([6], [6]), ([7, 2], [7]), ([4, 8], [4, 8]), ([9, 8], [9]), ([3, 10], [3, 10]), ([], []), ([12], [12]), ([13], [13]), ([14], [14]), ([15], [15]), ([11, 16], [11, 16]), ([17, 10], [17])])
def impl_KeyBytes.B22 : List Nat := [0, 1, 3, 7, 0, 0, 32, 96, 231, 503, 1015, 2047, 0, 4096, 12288, 28672, 61440, 131071, 262143]
theorem impl_KeyBytes.tab22 : rtab .any (opsOf Try.f9 22) = impl_KeyBytes.T22 := by kernel_rfl
theorem impl_KeyBytes.bits22 : waitsOk impl_KeyBytes.T22.2 impl_KeyBytes.B22 = true := by kernel_rfl
set_option maxHeartbeats 8000000 in
set_option maxRecDepth 100000 in
theorem impl_KeyBytes.calls (k : Nat) (A0 : Option Addr) (c0 : Nat) (l0 : List (S42)) (r1 : ByteArray) (r2 : Int) (w : World) (hr0 : Kd.C k42 w A0 l0.length l0) (hc0 : l0.length ≤ c0) (h : impl_KeyBytes.f k l0 = some (r1, r2)) :
    Calls Try.prog 9 #[.slice A0 l0.length c0] w fun e w' => e = .returned (.tuple #[.string r1, .int .i64 r2]) ∧ Below w.heap.size w w' := by
  have hu42 := Try.underlying42; have HR0 := Aside0.mk hr0; have HC0 := Aside0.mk hc0; clear hr0 hc0; have HB := Aside0.mk (Below.refl w.heap.size w); have H : (if (l0.length : Int) > 16 then (some ((⟨#[]⟩ : ByteArray), 1)) else (impl_KeyBytes.l0 k (⟨#[]⟩ : ByteArray) l0 (l0.length : Int) 0)) = some (r1, r2) := h; clear h
  by_cases c2 : (l0.length : Int) > 16
  · rw [if_pos c2] at H
    have c2b0 : decide (16 < (l0.length : Int)) = true := decide_eq_true c2; have c2b1 : decide (16 < l0.length) = true := decide_eq_true (by omega); clear c2; simp only [Option.some.injEq, Prod.mk.injEq] at H; obtain ⟨rfl, rfl⟩ := H
    go_enter Try.func9, Try.ntmps9
    go_wp2
    go_ret2
    exact ⟨by first | rfl | (simp [errW_none, errW_some] <;> rfl) | (simp [*, errW_none, errW_some] <;> rfl), by repeat (first | (with_reducible first | exact HB.out | apply below_alloc | apply pw_below_drewN | apply below_drew1) | exact HB.out)⟩
  · rw [if_neg c2] at H
    have c2b0 : decide (16 < (l0.length : Int)) = false := decide_eq_false c2; have c2b1 : decide (16 < l0.length) = false := decide_eq_false (by omega); clear c2; have H' := Aside0.mk H; clear H
    go_enter Try.func9, Try.ntmps9
    go_wp2
    have HBD := Aside0.mk (show Lib.IsBuilder 52 5 w.heap.size w.heap.size (Lib.byteCells []) (w.alloc (Obj.cells #[Value.pointer none, Value.slice none 0 0] 52)) from Lib.fresh_isBuilder 52 5 w)
    go_loopg [15] k (fun kq v15 w' => ∃ (x4_1 : ByteArray) (x15_1 : Int), v15 = .int .i64 x15_1 ∧ Aside0 (impl_KeyBytes.l0 kq x4_1 l0 (l0.length : Int) x15_1 = some (r1, r2)) ∧ Aside0 (kq ≤ k) ∧ Aside0 (Lib.IsBuilder 52 5 w.heap.size w.heap.size (Lib.byteCells x4_1.data.toList) w') ∧ Aside0 (Below w.heap.size w w'))
    case atStart => exact ⟨(⟨#[]⟩ : ByteArray), 0, rfl, H', ⟨Nat.le_refl _⟩, HBD, ⟨by repeat (first | (with_reducible first | exact HB.out | apply below_alloc | apply pw_below_drewN | apply below_drew1) | exact HB.out)⟩⟩
    case round =>
      clear H'; (try clear c2); (try clear c2b0); (try clear c2b1); (try clear p2); clear HBD; obtain ⟨x4_1, x15_1, rfl, HA, HK1, HBD, HBo⟩ := hrel; obtain ⟨wz, hwz⟩ : ∃ wz, wz = wr := ⟨_, rfl⟩; subst hwz; have HRo := HR0; clear HR0; have HR0 := Aside0.mk (Kd.C_below HRo.out HBo.out); have HB := Aside0.mk (Below.refl wz.heap.size wz)
      cases gk with
      | zero => exact absurd HA.out (by simp [impl_KeyBytes.l0])
      | succ k1 =>
        have H := HA.out; clear HA; simp only [impl_KeyBytes.l0] at H
        by_cases c3 : x15_1 < (l0.length : Int)
        · rw [if_pos c3] at H
          have c3b0 : decide (x15_1 < (l0.length : Int)) = true := decide_eq_true c3; clear c3
          by_cases c4 : 0 ≤ x15_1
          · rw [if_pos c4] at H
            have c4b0 : decide (0 ≤ x15_1) = true := decide_eq_true c4; clear c4
            by_cases c5 : x15_1 < (l0.length : Int)
            · rw [if_pos c5] at H
              have c5b0 : decide (x15_1 < (l0.length : Int)) = true := decide_eq_true c5; clear c5; replace H := Option.bind_eq_some_iff.mp H; obtain ⟨t646, A60, H⟩ := H; replace H : (if t646 = true then (if ((rd_T42 l0 x15_1).f0) = 0 then (if x4_1.size + 1 ≤ 140737488355328 then (impl_KeyBytes.l0 k1 (x4_1 ++ (⟨#[1]⟩ : ByteArray)) l0 (l0.length : Int) (wrap64 (x15_1 + 1))) else (none)) else (if ((rd_T42 l0 x15_1).f0) = 1 then ((some (([2, ((rd_T42 l0 x15_1).f1) % 256] : List Int) : List Int)).bind fun y647 => (if x4_1.size + (strOfNums y647).size ≤ 140737488355328 then (impl_KeyBytes.l0 k1 (x4_1 ++ (strOfNums y647)) l0 (l0.length : Int) (wrap64 (x15_1 + 1))) else (none))) else (if ((rd_T42 l0 x15_1).f0) = 2 then (impl_KeyBytes.j1 k1 x4_1 l0 (l0.length : Int) x15_1 ((rd_T42 l0 x15_1).f0) (((rd_T42 l0 x15_1).f0) == 2) ((rd_T42 l0 x15_1).f0) ((rd_T42 l0 x15_1).f1) ((rd_T42 l0 x15_1).f2) ((rd_T42 l0 x15_1).f3)) else (impl_KeyBytes.j1 k1 x4_1 l0 (l0.length : Int) x15_1 ((rd_T42 l0 x15_1).f0) (((rd_T42 l0 x15_1).f0) == 3) ((rd_T42 l0 x15_1).f0) ((rd_T42 l0 x15_1).f1) ((rd_T42 l0 x15_1).f2) ((rd_T42 l0 x15_1).f3))))) else (some ((⟨#[]⟩ : ByteArray), 1))) = some (r1, r2) := H; have A6 := Aside0.mk A60; clear A60
              by_cases c7 : t646 = true
              · subst c7
                have H1 : (if ((rd_T42 l0 x15_1).f0) = 0 then (if x4_1.size + 1 ≤ 140737488355328 then (impl_KeyBytes.l0 k1 (x4_1 ++ (⟨#[1]⟩ : ByteArray)) l0 (l0.length : Int) (wrap64 (x15_1 + 1))) else (none)) else (if ((rd_T42 l0 x15_1).f0) = 1 then ((some (([2, ((rd_T42 l0 x15_1).f1) % 256] : List Int) : List Int)).bind fun y647 => (if x4_1.size + (strOfNums y647).size ≤ 140737488355328 then (impl_KeyBytes.l0 k1 (x4_1 ++ (strOfNums y647)) l0 (l0.length : Int) (wrap64 (x15_1 + 1))) else (none))) else (if ((rd_T42 l0 x15_1).f0) = 2 then (impl_KeyBytes.j1 k1 x4_1 l0 (l0.length : Int) x15_1 ((rd_T42 l0 x15_1).f0) (((rd_T42 l0 x15_1).f0) == 2) ((rd_T42 l0 x15_1).f0) ((rd_T42 l0 x15_1).f1) ((rd_T42 l0 x15_1).f2) ((rd_T42 l0 x15_1).f3)) else (impl_KeyBytes.j1 k1 x4_1 l0 (l0.length : Int) x15_1 ((rd_T42 l0 x15_1).f0) (((rd_T42 l0 x15_1).f0) == 3) ((rd_T42 l0 x15_1).f0) ((rd_T42 l0 x15_1).f1) ((rd_T42 l0 x15_1).f2) ((rd_T42 l0 x15_1).f3))))) = some (r1, r2) := by rw [if_pos rfl] at H; exact H
                clear H; have H := H1; clear H1
                by_cases c8 : ((rd_T42 l0 x15_1).f0) = 0
                · rw [if_pos c8] at H
                  have c8b0 : (((rd_T42 l0 x15_1).f0) == 0) = true := beq_iff_eq.mpr c8; have c8b1 : (((rd_T42 l0 x15_1).f0) != 0) = false := bne_eq_false_iff_eq.mpr c8; clear c8
                  by_cases c9 : x4_1.size + 1 ≤ 140737488355328
                  · rw [if_pos c9] at H
                    have c9b0 := eq_true c9; have c9b1 : decide (x4_1.size + 1 ≤ 140737488355328) = true := decide_eq_true c9
                    try have c9b2 : (140737488355328 < x4_1.size + 1) = False := eq_false (Nat.not_lt.2 c9)
                    try (have c9b3 := c9b2; simp only [ByteArray.size_append] at c9b3)
                    try (have c9b6 := c9b2; simp only [ByteArray.size_append, x6_sz_lit1] at c9b6)
                    have H' := Aside0.mk H; clear H; have p644 : 0 ≤ (x15_1 : Int) := of_decide_eq_true (by first | (with_reducible assumption) | assumption); have q644 : x15_1 < (l0.length : Int) := of_decide_eq_true (by first | (with_reducible assumption) | assumption); obtain ⟨ad644, e644, hx644_0, hx644_1, hx644_2, hx644_3⟩ := at_T42 HR0.out x15_1 p644 q644; cases e644; replace hx644_0 := (HB.out.cell (World.block_lt_of_cell? wz _ hx644_0)).trans hx644_0; replace hx644_1 := (HB.out.cell (World.block_lt_of_cell? wz _ hx644_1)).trans hx644_1; replace hx644_2 := (HB.out.cell (World.block_lt_of_cell? wz _ hx644_2)).trans hx644_2; replace hx644_3 := (HB.out.cell (World.block_lt_of_cell? wz _ hx644_3)).trans hx644_3; replace p644 := eq_true p644; replace q644 := eq_true q644
                    go_wp2_with (first | ((with_reducible refine gate_dst (N := 6) rfl ?_); refine boxst_event ?hg (N := 6) ?hd ?hg2 ?hn2 ?ho2 (cs := #[.int .i64 ((rd_T42 l0 x15_1).f0), .int .i64 ((rd_T42 l0 x15_1).f1), .int .i64 ((rd_T42 l0 x15_1).f2), .string ((rd_T42 l0 x15_1).f3)]) (zs := #[.int .i64 0, .int .i64 0, .int .i64 0, .string (⟨#[]⟩ : ByteArray)]) (t := 42) ?hr ?hr2 ?_; (case hd => rfl); (case hg => rfl); (case hg2 => rfl); (case hn2 => rfl); (case ho2 => exact ⟨_, rfl⟩); (case hr => first | (go_simp; done) | (go_simp; rfl)); (case hr2 => first | (go_simp; done) | (go_simp; rfl)); intro gb645 hg w10 hbox hb; have n0_ := Aside0.mk (below_step q6z6 hb); have n1_ := Aside0.mk (hbox); have n2_ := Aside0.mk ((by rw [hg]; exact (below_size q6z6) : wz.heap.size ≤ gb645)); have n3_ := Aside0.mk ((by rw [hg]; exact (below_size q6z6) : wz.heap.size ≤ gb645)); clear HB; have HB := n0_; have BK645 := n1_; have GW645 := n2_; have GE645 := n3_; clear n0_ n1_ n2_ n3_; clear hb hbox hg; have hcz11_0 : w10.cell? ⟨gb645, 0, none⟩ = some (.int .i64 ((rd_T42 l0 x15_1).f0)) := (blk_cell BK645.out 0).trans rfl; have hcz11_1 : w10.cell? ⟨gb645, 1, none⟩ = some (.int .i64 ((rd_T42 l0 x15_1).f1)) := (blk_cell BK645.out 1).trans rfl; have hcz11_2 : w10.cell? ⟨gb645, 2, none⟩ = some (.int .i64 ((rd_T42 l0 x15_1).f2)) := (blk_cell BK645.out 2).trans rfl; have hcz11_3 : w10.cell? ⟨gb645, 3, none⟩ = some (.string ((rd_T42 l0 x15_1).f3)) := (blk_cell BK645.out 3).trans rfl; have hfz11_0 := blk_frozen BK645.out 0; have hfz11_1 := blk_frozen BK645.out 1; have hfz11_2 := blk_frozen BK645.out 2; have hfz11_3 := blk_frozen BK645.out 3) | ((with_reducible refine gate_callee (f := 24) rfl ?_); refine goesL_ (some 20) rfl rfl Try.func24 q6z7 rfl #[.agg #[.int .i64 ((rd_T42 l0 x15_1).f0), .int .i64 ((rd_T42 l0 x15_1).f1), .int .i64 ((rd_T42 l0 x15_1).f2), .string ((rd_T42 l0 x15_1).f3)]] rfl q6z3 ?_; (with_reducible refine (impl_ValueOK.calls k1 ((rd_T42 l0 x15_1).f0) ((rd_T42 l0 x15_1).f1) ((rd_T42 l0 x15_1).f2) ((rd_T42 l0 x15_1).f3) true _ A6.out).mono ?_); rintro e w12 ⟨rfl, hb⟩; refine ⟨_, rfl, ?_⟩; have n0_ := Aside0.mk (blk_below (g := gb645) (o := .cells #[.int .i64 ((rd_T42 l0 x15_1).f0), .int .i64 ((rd_T42 l0 x15_1).f1), .int .i64 ((rd_T42 l0 x15_1).f2), .string ((rd_T42 l0 x15_1).f3)] 42 (0, 0)) q6z1 hb); have n1_ := Aside0.mk (below_step q6z0 hb); clear BK645; clear HB; have BK645 := n0_; have HB := n1_; clear n0_ n1_; (try clear hb); (try clear hb2); (try clear hk); (try clear hi); have hcz13_0 : w12.cell? ⟨gb645, 0, none⟩ = some (.int .i64 ((rd_T42 l0 x15_1).f0)) := (blk_cell BK645.out 0).trans rfl; have hcz13_1 : w12.cell? ⟨gb645, 1, none⟩ = some (.int .i64 ((rd_T42 l0 x15_1).f1)) := (blk_cell BK645.out 1).trans rfl; have hcz13_2 : w12.cell? ⟨gb645, 2, none⟩ = some (.int .i64 ((rd_T42 l0 x15_1).f2)) := (blk_cell BK645.out 2).trans rfl; have hcz13_3 : w12.cell? ⟨gb645, 3, none⟩ = some (.string ((rd_T42 l0 x15_1).f3)) := (blk_cell BK645.out 3).trans rfl; have hfz13_0 := blk_frozen BK645.out 0; have hfz13_1 := blk_frozen BK645.out 1; have hfz13_2 := blk_frozen BK645.out 2; have hfz13_3 := blk_frozen BK645.out 3) | ((with_reducible refine gate_callee (f := 25) rfl ?_); refine goesL_ (some 26) rfl rfl Try.func25 q6z7 rfl #[.pointer (some ⟨w.heap.size, 0, none⟩), .int .u8 1] rfl q6z3 ?_; (with_reducible refine (impl_KeyBytes.bld_byte w.heap.size w.heap.size (Lib.byteCells x4_1.data.toList) 1 _ (impl_KeyBytes.bld_isb HBD.out q6z0) (impl_KeyBytes.bld_len (by assumption)) (Nat.le_trans HBo.out.size (below_size q6z0))).mono ?_); rintro e w98 ⟨rfl, hbd, hb⟩; refine ⟨_, rfl, ?_⟩; have n0_ := Aside0.mk (show Lib.IsBuilder 52 5 w.heap.size w.heap.size (Lib.byteCells (x4_1 ++ (⟨#[1]⟩ : ByteArray)).data.toList) w98 from .inr (by rw [impl_KeyBytes.bld_app]; exact hbd)); have n1_ := Aside0.mk (HBo.out.trans (((show Below wz.heap.size wz _ from by repeat (first | (with_reducible first | exact HB.out | apply below_alloc | apply pw_below_drewN | apply below_drew1 | refine below_set ?_ GE645.out) | exact HB.out)).mono HBo.out.size).trans hb)); clear HBD; have HBD := n0_; have HBF := n1_; clear n0_ n1_; clear hb hbd))
                    go_roundg k1
                    case measure => have := HK1.out; omega
                    case rel => exact ⟨(x4_1 ++ (⟨#[1]⟩ : ByteArray)), (wrap64 (x15_1 + 1)), (by first | rfl | (simp; done) | (simp [*]; done)), H', ⟨by have := HK1.out; omega⟩, HBD, HBF⟩
                  · rw [if_neg c9] at H
                    exact absurd H (by simp)
                · rw [if_neg c8] at H
                  have c8b0 : (((rd_T42 l0 x15_1).f0) == 0) = false := beq_eq_false_iff_ne.mpr c8; have c8b1 : (((rd_T42 l0 x15_1).f0) != 0) = true := bne_iff_ne.mpr c8
                  by_cases c14 : ((rd_T42 l0 x15_1).f0) = 1
                  · rw [if_pos c14] at H
                    have c14b0 : (((rd_T42 l0 x15_1).f0) == 1) = true := beq_iff_eq.mpr c14; have c14b1 : (((rd_T42 l0 x15_1).f0) != 1) = false := bne_eq_false_iff_eq.mpr c14; clear c14; obtain ⟨y647, hy647⟩ : ∃ y_ : List Int, y_ = (([2, ((rd_T42 l0 x15_1).f1) % 256] : List Int)) := ⟨_, rfl⟩
                    replace H : (if x4_1.size + (strOfNums y647).size ≤ 140737488355328 then (impl_KeyBytes.l0 k1 (x4_1 ++ (strOfNums y647)) l0 (l0.length : Int) (wrap64 (x15_1 + 1))) else (none)) = some (r1, r2) := by first | (rw [hy647]; with_reducible exact H) | (have H2_ := (Option.bind_some _ _).symm.trans H; rw [hy647]; with_reducible exact H2_) | (have H2_ := (Option.bind_some _ _).symm.trans H; with_reducible exact H2_) | with_reducible exact H | (rw [hy647]; exact H) | exact H
                    have Ny647 := Aside0.mk hy647; clear hy647
                    by_cases c15 : x4_1.size + (strOfNums y647).size ≤ 140737488355328
                    · rw [if_pos c15] at H
                      have c15b0 := eq_true c15; have c15b1 : decide (x4_1.size + (strOfNums y647).size ≤ 140737488355328) = true := decide_eq_true c15
                      try have c15b2 : (140737488355328 < x4_1.size + (strOfNums y647).size) = False := eq_false (Nat.not_lt.2 c15)
                      try (have c15b3 := c15b2; simp only [ByteArray.size_append] at c15b3)
                      try (have c15b6 := c15b2; simp only [ByteArray.size_append, x6_sz_lit1] at c15b6)
                      have H' := Aside0.mk H; clear H; have p644 : 0 ≤ (x15_1 : Int) := of_decide_eq_true (by first | (with_reducible assumption) | assumption); have q644 : x15_1 < (l0.length : Int) := of_decide_eq_true (by first | (with_reducible assumption) | assumption); obtain ⟨ad644, e644, hx644_0, hx644_1, hx644_2, hx644_3⟩ := at_T42 HR0.out x15_1 p644 q644; cases e644; replace hx644_0 := (HB.out.cell (World.block_lt_of_cell? wz _ hx644_0)).trans hx644_0; replace hx644_1 := (HB.out.cell (World.block_lt_of_cell? wz _ hx644_1)).trans hx644_1; replace hx644_2 := (HB.out.cell (World.block_lt_of_cell? wz _ hx644_2)).trans hx644_2; replace hx644_3 := (HB.out.cell (World.block_lt_of_cell? wz _ hx644_3)).trans hx644_3; replace p644 := eq_true p644; replace q644 := eq_true q644
                      go_wp2_with (first | ((with_reducible refine gate_dst (N := 6) rfl ?_); refine boxst_event ?hg (N := 6) ?hd ?hg2 ?hn2 ?ho2 (cs := #[.int .i64 ((rd_T42 l0 x15_1).f0), .int .i64 ((rd_T42 l0 x15_1).f1), .int .i64 ((rd_T42 l0 x15_1).f2), .string ((rd_T42 l0 x15_1).f3)]) (zs := #[.int .i64 0, .int .i64 0, .int .i64 0, .string (⟨#[]⟩ : ByteArray)]) (t := 42) ?hr ?hr2 ?_; (case hd => rfl); (case hg => rfl); (case hg2 => rfl); (case hn2 => rfl); (case ho2 => exact ⟨_, rfl⟩); (case hr => first | (go_simp; done) | (go_simp; rfl)); (case hr2 => first | (go_simp; done) | (go_simp; rfl)); intro gb645 hg w16 hbox hb; have n0_ := Aside0.mk (below_step q6z6 hb); have n1_ := Aside0.mk (hbox); have n2_ := Aside0.mk ((by rw [hg]; exact (below_size q6z6) : wz.heap.size ≤ gb645)); have n3_ := Aside0.mk ((by rw [hg]; exact (below_size q6z6) : wz.heap.size ≤ gb645)); clear HB; have HB := n0_; have BK645 := n1_; have GW645 := n2_; have GE645 := n3_; clear n0_ n1_ n2_ n3_; clear hb hbox hg; have hcz17_0 : w16.cell? ⟨gb645, 0, none⟩ = some (.int .i64 ((rd_T42 l0 x15_1).f0)) := (blk_cell BK645.out 0).trans rfl; have hcz17_1 : w16.cell? ⟨gb645, 1, none⟩ = some (.int .i64 ((rd_T42 l0 x15_1).f1)) := (blk_cell BK645.out 1).trans rfl; have hcz17_2 : w16.cell? ⟨gb645, 2, none⟩ = some (.int .i64 ((rd_T42 l0 x15_1).f2)) := (blk_cell BK645.out 2).trans rfl; have hcz17_3 : w16.cell? ⟨gb645, 3, none⟩ = some (.string ((rd_T42 l0 x15_1).f3)) := (blk_cell BK645.out 3).trans rfl; have hfz17_0 := blk_frozen BK645.out 0; have hfz17_1 := blk_frozen BK645.out 1; have hfz17_2 := blk_frozen BK645.out 2; have hfz17_3 := blk_frozen BK645.out 3) | ((with_reducible refine gate_callee (f := 24) rfl ?_); refine goesL_ (some 20) rfl rfl Try.func24 q6z7 rfl #[.agg #[.int .i64 ((rd_T42 l0 x15_1).f0), .int .i64 ((rd_T42 l0 x15_1).f1), .int .i64 ((rd_T42 l0 x15_1).f2), .string ((rd_T42 l0 x15_1).f3)]] rfl q6z3 ?_; (with_reducible refine (impl_ValueOK.calls k1 ((rd_T42 l0 x15_1).f0) ((rd_T42 l0 x15_1).f1) ((rd_T42 l0 x15_1).f2) ((rd_T42 l0 x15_1).f3) true _ A6.out).mono ?_); rintro e w18 ⟨rfl, hb⟩; refine ⟨_, rfl, ?_⟩; have n0_ := Aside0.mk (blk_below (g := gb645) (o := .cells #[.int .i64 ((rd_T42 l0 x15_1).f0), .int .i64 ((rd_T42 l0 x15_1).f1), .int .i64 ((rd_T42 l0 x15_1).f2), .string ((rd_T42 l0 x15_1).f3)] 42 (0, 0)) q6z1 hb); have n1_ := Aside0.mk (below_step q6z0 hb); clear BK645; clear HB; have BK645 := n0_; have HB := n1_; clear n0_ n1_; (try clear hb); (try clear hb2); (try clear hk); (try clear hi); have hcz19_0 : w18.cell? ⟨gb645, 0, none⟩ = some (.int .i64 ((rd_T42 l0 x15_1).f0)) := (blk_cell BK645.out 0).trans rfl; have hcz19_1 : w18.cell? ⟨gb645, 1, none⟩ = some (.int .i64 ((rd_T42 l0 x15_1).f1)) := (blk_cell BK645.out 1).trans rfl; have hcz19_2 : w18.cell? ⟨gb645, 2, none⟩ = some (.int .i64 ((rd_T42 l0 x15_1).f2)) := (blk_cell BK645.out 2).trans rfl; have hcz19_3 : w18.cell? ⟨gb645, 3, none⟩ = some (.string ((rd_T42 l0 x15_1).f3)) := (blk_cell BK645.out 3).trans rfl; have hfz19_0 := blk_frozen BK645.out 0; have hfz19_1 := blk_frozen BK645.out 1; have hfz19_2 := blk_frozen BK645.out 2; have hfz19_3 := blk_frozen BK645.out 3) | ((with_reducible refine gate_dst (N := 32) rfl ?_); refine Kd.R_lit (Kd.int .u8) _ 5 ?hg (N := 32) ?hd (xs := ([2, ((rd_T42 l0 x15_1).f1) % 256] : List Int)) (inner := [.int .u8 2, .int .u8 (((rd_T42 l0 x15_1).f1) % 256)]) (ok := fun _ => True) (okp := fun _ => True) ?hr ?hp (fun _ hk => hk) trivial (Below.refl _ _) (Nat.le_refl _) (by simp) ?_; (case hd => rfl); (case hg => rfl); (case hr => first | (go_simp; done) | (go_simp; rfl)); (case hp => exact (Reps.one (show Kd.M (Kd.int .u8) _ _ _ 2 [.int .u8 2] from rfl) (Reps.one (show Kd.M (Kd.int .u8) _ _ _ (((rd_T42 l0 x15_1).f1) % 256) [.int .u8 (((rd_T42 l0 x15_1).f1) % 256)] from rfl) (Reps.none _ _)))); intro v648 w20 ho21 hb hg_ hnew_; clear hg_ hnew_; (first | rw [← Ny647.out] at ho21 | (simp only [Int.reduceToNat] at ho21; rw [← Ny647.out] at ho21)); have n0_ := Aside0.mk (Kd.R_lower ho21 (below_size q6z0)); have n1_ := Aside0.mk (blk_below (g := gb645) (o := .cells #[.int .i64 ((rd_T42 l0 x15_1).f0), .int .i64 ((rd_T42 l0 x15_1).f1), .int .i64 ((rd_T42 l0 x15_1).f2), .string ((rd_T42 l0 x15_1).f3)] 42 (0, 0)) q6z1 hb); have n2_ := Aside0.mk (below_step q6z0 hb); clear BK645; clear HB; have HO649 := n0_; have BK645 := n1_; have HB := n2_; clear n0_ n1_ n2_; clear hb ho21; have hcv22 := own_string (P := Try.prog) Try.underlying34 Try.underlying5 Try.underlying9 (Kd.own_of_R HO649.out)) | ((with_reducible refine gate_callee (f := 26) rfl ?_); refine goesL_ (some 34) rfl rfl Try.func26 q6z7 rfl #[.pointer (some ⟨w.heap.size, 0, none⟩), .string (strOfNums y647)] rfl q6z3 ?_; (with_reducible refine (impl_KeyBytes.bld_write w.heap.size w.heap.size (Lib.byteCells x4_1.data.toList) (strOfNums y647) _ (impl_KeyBytes.bld_isb HBD.out q6z0) (impl_KeyBytes.bld_len (by assumption)) (Nat.le_trans HBo.out.size (below_size q6z0))).mono ?_); rintro e w98 ⟨rfl, hbd, hb⟩; refine ⟨_, rfl, ?_⟩; have n0_ := Aside0.mk (show Lib.IsBuilder 52 5 w.heap.size w.heap.size (Lib.byteCells (x4_1 ++ (strOfNums y647)).data.toList) w98 from .inr (by rw [impl_KeyBytes.bld_app]; exact hbd)); have n1_ := Aside0.mk (HBo.out.trans (((show Below wz.heap.size wz _ from by repeat (first | (with_reducible first | exact HB.out | apply below_alloc | apply pw_below_drewN | apply below_drew1 | refine below_set ?_ GE645.out) | exact HB.out)).mono HBo.out.size).trans hb)); clear HBD; have HBD := n0_; have HBF := n1_; clear n0_ n1_; clear hb hbd))
                      go_roundg k1
                      case measure => have := HK1.out; omega
                      case rel => exact ⟨(x4_1 ++ (strOfNums y647)), (wrap64 (x15_1 + 1)), (by first | rfl | (simp; done) | (simp [*]; done)), H', ⟨by have := HK1.out; omega⟩, HBD, HBF⟩
                    · rw [if_neg c15] at H
                      exact absurd H (by simp)
                  · rw [if_neg c14] at H
                    have c14b0 : (((rd_T42 l0 x15_1).f0) == 1) = false := beq_eq_false_iff_ne.mpr c14; have c14b1 : (((rd_T42 l0 x15_1).f0) != 1) = true := bne_iff_ne.mpr c14; have HC23 := Aside0.mk H; clear H; have p644 : 0 ≤ (x15_1 : Int) := of_decide_eq_true (by first | (with_reducible assumption) | assumption); have q644 : x15_1 < (l0.length : Int) := of_decide_eq_true (by first | (with_reducible assumption) | assumption); obtain ⟨ad644, e644, hx644_0, hx644_1, hx644_2, hx644_3⟩ := at_T42 HR0.out x15_1 p644 q644; cases e644; replace hx644_0 := (HB.out.cell (World.block_lt_of_cell? wz _ hx644_0)).trans hx644_0; replace hx644_1 := (HB.out.cell (World.block_lt_of_cell? wz _ hx644_1)).trans hx644_1; replace hx644_2 := (HB.out.cell (World.block_lt_of_cell? wz _ hx644_2)).trans hx644_2; replace hx644_3 := (HB.out.cell (World.block_lt_of_cell? wz _ hx644_3)).trans hx644_3; replace p644 := eq_true p644; replace q644 := eq_true q644
                    go_upto_if 35 with (first | ((with_reducible refine gate_dst (N := 6) rfl ?_); refine boxst_event ?hg (N := 6) ?hd ?hg2 ?hn2 ?ho2 (cs := #[.int .i64 ((rd_T42 l0 x15_1).f0), .int .i64 ((rd_T42 l0 x15_1).f1), .int .i64 ((rd_T42 l0 x15_1).f2), .string ((rd_T42 l0 x15_1).f3)]) (zs := #[.int .i64 0, .int .i64 0, .int .i64 0, .string (⟨#[]⟩ : ByteArray)]) (t := 42) ?hr ?hr2 ?_; (case hd => rfl); (case hg => rfl); (case hg2 => rfl); (case hn2 => rfl); (case ho2 => exact ⟨_, rfl⟩); (case hr => first | (go_simp; done) | (go_simp; rfl)); (case hr2 => first | (go_simp; done) | (go_simp; rfl)); intro gb645 hg w24 hbox hb; have n0_ := Aside0.mk (below_step q6z6 hb); have n1_ := Aside0.mk (hbox); have n2_ := Aside0.mk ((by rw [hg]; exact (below_size q6z6) : wz.heap.size ≤ gb645)); have n3_ := Aside0.mk ((by rw [hg]; exact (below_size q6z6) : wz.heap.size ≤ gb645)); clear HB; have HB := n0_; have BK645 := n1_; have GW645 := n2_; have GE645 := n3_; clear n0_ n1_ n2_ n3_; clear hb hbox hg; have hcz25_0 : w24.cell? ⟨gb645, 0, none⟩ = some (.int .i64 ((rd_T42 l0 x15_1).f0)) := (blk_cell BK645.out 0).trans rfl; have hcz25_1 : w24.cell? ⟨gb645, 1, none⟩ = some (.int .i64 ((rd_T42 l0 x15_1).f1)) := (blk_cell BK645.out 1).trans rfl; have hcz25_2 : w24.cell? ⟨gb645, 2, none⟩ = some (.int .i64 ((rd_T42 l0 x15_1).f2)) := (blk_cell BK645.out 2).trans rfl; have hcz25_3 : w24.cell? ⟨gb645, 3, none⟩ = some (.string ((rd_T42 l0 x15_1).f3)) := (blk_cell BK645.out 3).trans rfl; have hfz25_0 := blk_frozen BK645.out 0; have hfz25_1 := blk_frozen BK645.out 1; have hfz25_2 := blk_frozen BK645.out 2; have hfz25_3 := blk_frozen BK645.out 3) | ((with_reducible refine gate_callee (f := 24) rfl ?_); refine goesL_ (some 20) rfl rfl Try.func24 q6z7 rfl #[.agg #[.int .i64 ((rd_T42 l0 x15_1).f0), .int .i64 ((rd_T42 l0 x15_1).f1), .int .i64 ((rd_T42 l0 x15_1).f2), .string ((rd_T42 l0 x15_1).f3)]] rfl q6z3 ?_; (with_reducible refine (impl_ValueOK.calls k1 ((rd_T42 l0 x15_1).f0) ((rd_T42 l0 x15_1).f1) ((rd_T42 l0 x15_1).f2) ((rd_T42 l0 x15_1).f3) true _ A6.out).mono ?_); rintro e w26 ⟨rfl, hb⟩; refine ⟨_, rfl, ?_⟩; have n0_ := Aside0.mk (blk_below (g := gb645) (o := .cells #[.int .i64 ((rd_T42 l0 x15_1).f0), .int .i64 ((rd_T42 l0 x15_1).f1), .int .i64 ((rd_T42 l0 x15_1).f2), .string ((rd_T42 l0 x15_1).f3)] 42 (0, 0)) q6z1 hb); have n1_ := Aside0.mk (below_step q6z0 hb); clear BK645; clear HB; have BK645 := n0_; have HB := n1_; clear n0_ n1_; (try clear hb); (try clear hb2); (try clear hk); (try clear hi); have hcz27_0 : w26.cell? ⟨gb645, 0, none⟩ = some (.int .i64 ((rd_T42 l0 x15_1).f0)) := (blk_cell BK645.out 0).trans rfl; have hcz27_1 : w26.cell? ⟨gb645, 1, none⟩ = some (.int .i64 ((rd_T42 l0 x15_1).f1)) := (blk_cell BK645.out 1).trans rfl; have hcz27_2 : w26.cell? ⟨gb645, 2, none⟩ = some (.int .i64 ((rd_T42 l0 x15_1).f2)) := (blk_cell BK645.out 2).trans rfl; have hcz27_3 : w26.cell? ⟨gb645, 3, none⟩ = some (.string ((rd_T42 l0 x15_1).f3)) := (blk_cell BK645.out 3).trans rfl; have hfz27_0 := blk_frozen BK645.out 0; have hfz27_1 := blk_frozen BK645.out 1; have hfz27_2 := blk_frozen BK645.out 2; have hfz27_3 := blk_frozen BK645.out 3))
                    (try simp only [Act.put, List.setIfInBounds_toArray, List.set_cons_zero, List.set_cons_succ])
                    go_cut [35] (fun v35 wc => ∃ (kq : Nat) (x35_22 : Bool), v35 = .bool x35_22 ∧ Aside0 (impl_KeyBytes.j1 kq x4_1 l0 (l0.length : Int) x15_1 ((rd_T42 l0 x15_1).f0) x35_22 ((rd_T42 l0 x15_1).f0) ((rd_T42 l0 x15_1).f1) ((rd_T42 l0 x15_1).f2) ((rd_T42 l0 x15_1).f3) = some (r1, r2)) ∧ Aside0 (kq ≤ k1) ∧ Aside0 (wc.heap[gb645]? = some (.cells #[.int .i64 ((rd_T42 l0 x15_1).f0), .int .i64 ((rd_T42 l0 x15_1).f1), .int .i64 ((rd_T42 l0 x15_1).f2), .string ((rd_T42 l0 x15_1).f3)] 42 (0, 0))) ∧ Aside0 (Below wz.heap.size wz wc))
                    case first =>
                      have H := HC23.out; clear HC23
                      by_cases c28 : ((rd_T42 l0 x15_1).f0) = 2
                      · rw [if_pos c28] at H
                        have c28b0 : (((rd_T42 l0 x15_1).f0) == 2) = true := beq_iff_eq.mpr c28; have c28b1 : (((rd_T42 l0 x15_1).f0) != 2) = false := bne_eq_false_iff_eq.mpr c28; clear c28; (first | rw [c28b0] | (simp only [i64_w, i32_w]; rw [c28b0]) | skip); have H' := Aside0.mk H; clear H
                        go_wp2
                        go_meet
                        case rel => exact ⟨_, ((((rd_T42 l0 x15_1).f0) == 2)), (by first | rfl | (simp; done) | (simp [*]; done)), H', ⟨by have := HK1.out; first | omega | exact Nat.le_refl _⟩, ⟨by (with_reducible repeat (first | refine blk_drewN ?_ _ | refine blk_drew ?_ | refine blk_alloc ?_ _)); exact BK645.out⟩, ⟨by repeat (first | (with_reducible first | exact HB.out | apply below_alloc | apply pw_below_drewN | apply below_drew1 | refine below_set ?_ GE645.out) | exact HB.out)⟩⟩
                      · rw [if_neg c28] at H
                        have c28b0 : (((rd_T42 l0 x15_1).f0) == 2) = false := beq_eq_false_iff_ne.mpr c28; have c28b1 : (((rd_T42 l0 x15_1).f0) != 2) = true := bne_iff_ne.mpr c28; (first | rw [c28b0] | (simp only [i64_w, i32_w]; rw [c28b0]) | skip); have H' := Aside0.mk H; clear H
                        go_wp2
                        go_meet
                        case rel => exact ⟨_, ((((rd_T42 l0 x15_1).f0) == 3)), (by first | rfl | (simp; done) | (simp [*]; done)), H', ⟨by have := HK1.out; first | omega | exact Nat.le_refl _⟩, ⟨by (with_reducible repeat (first | refine blk_drewN ?_ _ | refine blk_drew ?_ | refine blk_alloc ?_ _)); exact BK645.out⟩, ⟨by repeat (first | (with_reducible first | exact HB.out | apply below_alloc | apply pw_below_drewN | apply below_drew1 | refine below_set ?_ GE645.out) | exact HB.out)⟩⟩
                    case rest =>
                      clear HC23; (try clear c1); (try clear c2); (try clear c2b0); (try clear c2b1); (try clear p2); (try clear hcv2); (try clear c3); (try clear c3b0); (try clear c4); (try clear c4b0); (try clear c5); (try clear c5b0); (try clear p6); (try clear q6); (try clear hx6); (try clear c7); (try clear c8); (try clear c8b0); (try clear c8b1); (try clear c9); (try clear c9b0); (try clear c9b1); (try clear c9b2); (try clear c14); (try clear c14b0); (try clear c14b1); (try clear c15); (try clear c15b0); (try clear c15b1); (try clear c15b2); (try clear hcv22); (try clear c24); (try clear c28); (try clear c28b0); (try clear c28b1); (try clear hcz11_0); (try clear hcz11_1); (try clear hcz11_2); (try clear hcz11_3); (try clear hcz13_0); (try clear hcz13_1); (try clear hcz13_2); (try clear hcz13_3); (try clear hcz17_0); (try clear hcz17_1); (try clear hcz17_2); (try clear hcz17_3); (try clear hcz19_0); (try clear hcz19_1); (try clear hcz19_2); (try clear hcz19_3); (try clear hcz25_0); (try clear hcz25_1); (try clear hcz25_2); (try clear hcz25_3); (try clear hcz27_0); (try clear hcz27_1); (try clear hcz27_2); (try clear hcz27_3); (try clear hfz11_0); (try clear hfz11_1); (try clear hfz11_2); (try clear hfz11_3); (try clear hfz13_0); (try clear hfz13_1); (try clear hfz13_2); (try clear hfz13_3); (try clear hfz17_0); (try clear hfz17_1); (try clear hfz17_2); (try clear hfz17_3); (try clear hfz19_0); (try clear hfz19_1); (try clear hfz19_2); (try clear hfz19_3); (try clear hfz25_0); (try clear hfz25_1); (try clear hfz25_2); (try clear hfz25_3); (try clear hfz27_0); (try clear hfz27_1); (try clear hfz27_2); (try clear hfz27_3); (try clear hx644_0); (try clear hx644_1); (try clear hx644_2); (try clear hx644_3); (try clear p2); (try clear p644); (try clear q644); obtain ⟨kq, x35_22, rfl, HA, HJ22, BK645, HB⟩ := hcut
                      cases kq with
                      | zero => exact absurd HA.out (by simp [impl_KeyBytes.j1])
                      | succ kj22 =>
                        have H := HA.out; clear HA; simp only [impl_KeyBytes.j1] at H
                        by_cases c29 : x35_22 = true
                        · subst c29
                          have H1 : ((impl_p10.f kj22 ((rd_T42 l0 x15_1).f2)).bind fun t650 => (if t650 = 0 then (none) else (if (Int.tmod ((rd_T42 l0 x15_1).f1) t650) < 0 then ((impl_bytesOf.f kj22 (wrap64 (1152921504606846976 + (wrap64 ((wrap64 (Int.tdiv ((rd_T42 l0 x15_1).f1) t650)) - 1)))) 8).bind fun t651 => (if 1 + t651.size ≤ 9223372036854775807 then ((impl_p10.f kj22 (wrap64 (6 - ((rd_T42 l0 x15_1).f2)))).bind fun t652 => ((impl_bytesOf.f kj22 (wrap64 ((wrap64 ((Int.tmod ((rd_T42 l0 x15_1).f1) t650) + t650)) * t652)) 3).bind fun t653 => (if ((⟨#[3]⟩ : ByteArray) ++ t651).size + t653.size ≤ 9223372036854775807 then ((some (([(((rd_T42 l0 x15_1).f0)) % 256] : List Int) : List Int)).bind fun y654 => (if (((⟨#[3]⟩ : ByteArray) ++ t651) ++ t653).size + (strOfNums y654).size ≤ 9223372036854775807 then (if x4_1.size + ((((⟨#[3]⟩ : ByteArray) ++ t651) ++ t653) ++ (strOfNums y654)).size ≤ 140737488355328 then (impl_KeyBytes.l0 kj22 (x4_1 ++ ((((⟨#[3]⟩ : ByteArray) ++ t651) ++ t653) ++ (strOfNums y654))) l0 (l0.length : Int) (wrap64 (x15_1 + 1))) else (none)) else (none))) else (none)))) else (none))) else ((impl_bytesOf.f kj22 (wrap64 (1152921504606846976 + (wrap64 (Int.tdiv ((rd_T42 l0 x15_1).f1) t650)))) 8).bind fun t657 => (if 1 + t657.size ≤ 9223372036854775807 then ((impl_p10.f kj22 (wrap64 (6 - ((rd_T42 l0 x15_1).f2)))).bind fun t658 => ((impl_bytesOf.f kj22 (wrap64 ((Int.tmod ((rd_T42 l0 x15_1).f1) t650) * t658)) 3).bind fun t659 => (if ((⟨#[3]⟩ : ByteArray) ++ t657).size + t659.size ≤ 9223372036854775807 then ((some (([(((rd_T42 l0 x15_1).f0)) % 256] : List Int) : List Int)).bind fun y660 => (if (((⟨#[3]⟩ : ByteArray) ++ t657) ++ t659).size + (strOfNums y660).size ≤ 9223372036854775807 then (if x4_1.size + ((((⟨#[3]⟩ : ByteArray) ++ t657) ++ t659) ++ (strOfNums y660)).size ≤ 140737488355328 then (impl_KeyBytes.l0 kj22 (x4_1 ++ ((((⟨#[3]⟩ : ByteArray) ++ t657) ++ t659) ++ (strOfNums y660))) l0 (l0.length : Int) (wrap64 (x15_1 + 1))) else (none)) else (none))) else (none)))) else (none)))))) = some (r1, r2) := by rw [if_pos rfl] at H; exact H
                          clear H; have H := H1; clear H1; replace H := Option.bind_eq_some_iff.mp H; obtain ⟨t650, A300, H⟩ := H; replace H : (if t650 = 0 then (none) else (if (Int.tmod ((rd_T42 l0 x15_1).f1) t650) < 0 then ((impl_bytesOf.f kj22 (wrap64 (1152921504606846976 + (wrap64 ((wrap64 (Int.tdiv ((rd_T42 l0 x15_1).f1) t650)) - 1)))) 8).bind fun t651 => (if 1 + t651.size ≤ 9223372036854775807 then ((impl_p10.f kj22 (wrap64 (6 - ((rd_T42 l0 x15_1).f2)))).bind fun t652 => ((impl_bytesOf.f kj22 (wrap64 ((wrap64 ((Int.tmod ((rd_T42 l0 x15_1).f1) t650) + t650)) * t652)) 3).bind fun t653 => (if ((⟨#[3]⟩ : ByteArray) ++ t651).size + t653.size ≤ 9223372036854775807 then ((some (([(((rd_T42 l0 x15_1).f0)) % 256] : List Int) : List Int)).bind fun y654 => (if (((⟨#[3]⟩ : ByteArray) ++ t651) ++ t653).size + (strOfNums y654).size ≤ 9223372036854775807 then (if x4_1.size + ((((⟨#[3]⟩ : ByteArray) ++ t651) ++ t653) ++ (strOfNums y654)).size ≤ 140737488355328 then (impl_KeyBytes.l0 kj22 (x4_1 ++ ((((⟨#[3]⟩ : ByteArray) ++ t651) ++ t653) ++ (strOfNums y654))) l0 (l0.length : Int) (wrap64 (x15_1 + 1))) else (none)) else (none))) else (none)))) else (none))) else ((impl_bytesOf.f kj22 (wrap64 (1152921504606846976 + (wrap64 (Int.tdiv ((rd_T42 l0 x15_1).f1) t650)))) 8).bind fun t657 => (if 1 + t657.size ≤ 9223372036854775807 then ((impl_p10.f kj22 (wrap64 (6 - ((rd_T42 l0 x15_1).f2)))).bind fun t658 => ((impl_bytesOf.f kj22 (wrap64 ((Int.tmod ((rd_T42 l0 x15_1).f1) t650) * t658)) 3).bind fun t659 => (if ((⟨#[3]⟩ : ByteArray) ++ t657).size + t659.size ≤ 9223372036854775807 then ((some (([(((rd_T42 l0 x15_1).f0)) % 256] : List Int) : List Int)).bind fun y660 => (if (((⟨#[3]⟩ : ByteArray) ++ t657) ++ t659).size + (strOfNums y660).size ≤ 9223372036854775807 then (if x4_1.size + ((((⟨#[3]⟩ : ByteArray) ++ t657) ++ t659) ++ (strOfNums y660)).size ≤ 140737488355328 then (impl_KeyBytes.l0 kj22 (x4_1 ++ ((((⟨#[3]⟩ : ByteArray) ++ t657) ++ t659) ++ (strOfNums y660))) l0 (l0.length : Int) (wrap64 (x15_1 + 1))) else (none)) else (none))) else (none)))) else (none))))) = some (r1, r2) := H; have A30 := Aside0.mk A300; clear A300
                          by_cases c31 : t650 = 0
                          · rw [if_pos c31] at H
                            exact absurd H (by simp)
                          · rw [if_neg c31] at H
                            have c31b0 : (t650 == 0) = false := beq_eq_false_iff_ne.mpr c31; have c31b1 : (t650 != 0) = true := bne_iff_ne.mpr c31
                            by_cases c32 : (Int.tmod ((rd_T42 l0 x15_1).f1) t650) < 0
                            · rw [if_pos c32] at H
                              have c32b0 : decide ((Int.tmod ((rd_T42 l0 x15_1).f1) t650) < 0) = true := decide_eq_true c32; clear c32; replace H := Option.bind_eq_some_iff.mp H; obtain ⟨t651, A330, H⟩ := H; replace H : (if 1 + t651.size ≤ 9223372036854775807 then ((impl_p10.f kj22 (wrap64 (6 - ((rd_T42 l0 x15_1).f2)))).bind fun t652 => ((impl_bytesOf.f kj22 (wrap64 ((wrap64 ((Int.tmod ((rd_T42 l0 x15_1).f1) t650) + t650)) * t652)) 3).bind fun t653 => (if ((⟨#[3]⟩ : ByteArray) ++ t651).size + t653.size ≤ 9223372036854775807 then ((some (([(((rd_T42 l0 x15_1).f0)) % 256] : List Int) : List Int)).bind fun y654 => (if (((⟨#[3]⟩ : ByteArray) ++ t651) ++ t653).size + (strOfNums y654).size ≤ 9223372036854775807 then (if x4_1.size + ((((⟨#[3]⟩ : ByteArray) ++ t651) ++ t653) ++ (strOfNums y654)).size ≤ 140737488355328 then (impl_KeyBytes.l0 kj22 (x4_1 ++ ((((⟨#[3]⟩ : ByteArray) ++ t651) ++ t653) ++ (strOfNums y654))) l0 (l0.length : Int) (wrap64 (x15_1 + 1))) else (none)) else (none))) else (none)))) else (none)) = some (r1, r2) := H; have A33 := Aside0.mk A330; clear A330
                              by_cases c34 : 1 + t651.size ≤ 9223372036854775807
                              · rw [if_pos c34] at H
                                have c34b0 := eq_true c34; have c34b1 : decide (1 + t651.size ≤ 9223372036854775807) = true := decide_eq_true c34
                                try have c34b2 : (9223372036854775807 < 1 + t651.size) = False := eq_false (Nat.not_lt.2 c34)
                                try (have c34b3 := c34b2; simp only [ByteArray.size_append] at c34b3)
                                try (have c34b6 := c34b2; simp only [ByteArray.size_append, x6_sz_lit1] at c34b6)
                                replace H := Option.bind_eq_some_iff.mp H; obtain ⟨t652, A350, H⟩ := H; replace H : ((impl_bytesOf.f kj22 (wrap64 ((wrap64 ((Int.tmod ((rd_T42 l0 x15_1).f1) t650) + t650)) * t652)) 3).bind fun t653 => (if ((⟨#[3]⟩ : ByteArray) ++ t651).size + t653.size ≤ 9223372036854775807 then ((some (([(((rd_T42 l0 x15_1).f0)) % 256] : List Int) : List Int)).bind fun y654 => (if (((⟨#[3]⟩ : ByteArray) ++ t651) ++ t653).size + (strOfNums y654).size ≤ 9223372036854775807 then (if x4_1.size + ((((⟨#[3]⟩ : ByteArray) ++ t651) ++ t653) ++ (strOfNums y654)).size ≤ 140737488355328 then (impl_KeyBytes.l0 kj22 (x4_1 ++ ((((⟨#[3]⟩ : ByteArray) ++ t651) ++ t653) ++ (strOfNums y654))) l0 (l0.length : Int) (wrap64 (x15_1 + 1))) else (none)) else (none))) else (none))) = some (r1, r2) := H; have A35 := Aside0.mk A350; clear A350; replace H := Option.bind_eq_some_iff.mp H; obtain ⟨t653, A360, H⟩ := H; replace H : (if ((⟨#[3]⟩ : ByteArray) ++ t651).size + t653.size ≤ 9223372036854775807 then ((some (([(((rd_T42 l0 x15_1).f0)) % 256] : List Int) : List Int)).bind fun y654 => (if (((⟨#[3]⟩ : ByteArray) ++ t651) ++ t653).size + (strOfNums y654).size ≤ 9223372036854775807 then (if x4_1.size + ((((⟨#[3]⟩ : ByteArray) ++ t651) ++ t653) ++ (strOfNums y654)).size ≤ 140737488355328 then (impl_KeyBytes.l0 kj22 (x4_1 ++ ((((⟨#[3]⟩ : ByteArray) ++ t651) ++ t653) ++ (strOfNums y654))) l0 (l0.length : Int) (wrap64 (x15_1 + 1))) else (none)) else (none))) else (none)) = some (r1, r2) := H; have A36 := Aside0.mk A360; clear A360
                                by_cases c37 : ((⟨#[3]⟩ : ByteArray) ++ t651).size + t653.size ≤ 9223372036854775807
                                · rw [if_pos c37] at H
                                  have c37b0 := eq_true c37; have c37b1 : decide (((⟨#[3]⟩ : ByteArray) ++ t651).size + t653.size ≤ 9223372036854775807) = true := decide_eq_true c37
                                  try have c37b2 : (9223372036854775807 < ((⟨#[3]⟩ : ByteArray) ++ t651).size + t653.size) = False := eq_false (Nat.not_lt.2 c37)
                                  try (have c37b3 := c37b2; simp only [ByteArray.size_append] at c37b3)
                                  try (have c37b6 := c37b2; simp only [ByteArray.size_append, x6_sz_lit1] at c37b6)
                                  obtain ⟨y654, hy654⟩ : ∃ y_ : List Int, y_ = (([(((rd_T42 l0 x15_1).f0)) % 256] : List Int)) := ⟨_, rfl⟩
                                  replace H : (if (((⟨#[3]⟩ : ByteArray) ++ t651) ++ t653).size + (strOfNums y654).size ≤ 9223372036854775807 then (if x4_1.size + ((((⟨#[3]⟩ : ByteArray) ++ t651) ++ t653) ++ (strOfNums y654)).size ≤ 140737488355328 then (impl_KeyBytes.l0 kj22 (x4_1 ++ ((((⟨#[3]⟩ : ByteArray) ++ t651) ++ t653) ++ (strOfNums y654))) l0 (l0.length : Int) (wrap64 (x15_1 + 1))) else (none)) else (none)) = some (r1, r2) := by first | (rw [hy654]; with_reducible exact H) | (have H2_ := (Option.bind_some _ _).symm.trans H; rw [hy654]; with_reducible exact H2_) | (have H2_ := (Option.bind_some _ _).symm.trans H; with_reducible exact H2_) | with_reducible exact H | (rw [hy654]; exact H) | exact H
                                  have Ny654 := Aside0.mk hy654; clear hy654
                                  by_cases c38 : (((⟨#[3]⟩ : ByteArray) ++ t651) ++ t653).size + (strOfNums y654).size ≤ 9223372036854775807
                                  · rw [if_pos c38] at H
                                    have c38b0 := eq_true c38; have c38b1 : decide ((((⟨#[3]⟩ : ByteArray) ++ t651) ++ t653).size + (strOfNums y654).size ≤ 9223372036854775807) = true := decide_eq_true c38
                                    try have c38b2 : (9223372036854775807 < (((⟨#[3]⟩ : ByteArray) ++ t651) ++ t653).size + (strOfNums y654).size) = False := eq_false (Nat.not_lt.2 c38)
                                    try (have c38b3 := c38b2; simp only [ByteArray.size_append] at c38b3)
                                    try (have c38b6 := c38b2; simp only [ByteArray.size_append, x6_sz_lit1] at c38b6)
                                    by_cases c39 : x4_1.size + ((((⟨#[3]⟩ : ByteArray) ++ t651) ++ t653) ++ (strOfNums y654)).size ≤ 140737488355328
                                    · rw [if_pos c39] at H
                                      have c39b0 := eq_true c39; have c39b1 : decide (x4_1.size + ((((⟨#[3]⟩ : ByteArray) ++ t651) ++ t653) ++ (strOfNums y654)).size ≤ 140737488355328) = true := decide_eq_true c39
                                      try have c39b2 : (140737488355328 < x4_1.size + ((((⟨#[3]⟩ : ByteArray) ++ t651) ++ t653) ++ (strOfNums y654)).size) = False := eq_false (Nat.not_lt.2 c39)
                                      try (have c39b3 := c39b2; simp only [ByteArray.size_append] at c39b3)
                                      try (have c39b6 := c39b2; simp only [ByteArray.size_append, x6_sz_lit1] at c39b6)
                                      have H' := Aside0.mk H; clear H; have hcz40_0 : wc.cell? ⟨gb645, 0, none⟩ = some (.int .i64 ((rd_T42 l0 x15_1).f0)) := (blk_cell BK645.out 0).trans rfl; have hcz40_1 : wc.cell? ⟨gb645, 1, none⟩ = some (.int .i64 ((rd_T42 l0 x15_1).f1)) := (blk_cell BK645.out 1).trans rfl; have hcz40_2 : wc.cell? ⟨gb645, 2, none⟩ = some (.int .i64 ((rd_T42 l0 x15_1).f2)) := (blk_cell BK645.out 2).trans rfl; have hcz40_3 : wc.cell? ⟨gb645, 3, none⟩ = some (.string ((rd_T42 l0 x15_1).f3)) := (blk_cell BK645.out 3).trans rfl; have hfz40_0 := blk_frozen BK645.out 0; have hfz40_1 := blk_frozen BK645.out 1; have hfz40_2 := blk_frozen BK645.out 2; have hfz40_3 := blk_frozen BK645.out 3
                                      try go_wp2_with (first | ((with_reducible refine gate_callee (f := 27) rfl ?_); refine goesL_ (some 40) rfl rfl Try.func27 q6z7 rfl #[.int .i64 ((rd_T42 l0 x15_1).f2)] rfl q6z3 ?_; (with_reducible refine (impl_p10.calls kj22 ((rd_T42 l0 x15_1).f2) t650 _ A30.out).mono ?_); rintro e w' ⟨rfl, ⟨nd, rfl⟩⟩; refine ⟨_, rfl, ?_⟩))
                                      (try (rw [drewN_self wc]; generalize hq_ : World.drewN wc _ = wc; have n0_ : Aside0 (wc.heap[gb645]? = some (.cells #[.int .i64 ((rd_T42 l0 x15_1).f0), .int .i64 ((rd_T42 l0 x15_1).f1), .int .i64 ((rd_T42 l0 x15_1).f2), .string ((rd_T42 l0 x15_1).f3)] 42 (0, 0))) := ⟨by rw [← hq_]; exact q6z1⟩; have n1_ : Aside0 (Below wz.heap.size wz wc) := ⟨by rw [← hq_]; exact q6z0⟩; clear BK645 HB hq_; have BK645 := n0_; have HB := n1_; clear n0_ n1_)); have n0_ := Aside0.mk (blk_drew BK645.out); have n1_ := Aside0.mk (below_drew1 HB.out); clear BK645; clear HB; have BK645 := n0_; have HB := n1_; clear n0_ n1_; refine start_ (n := 19) (S := fun w' => w'.cell? ⟨gb645, 0, none⟩ = some (.int .i64 ((rd_T42 l0 x15_1).f0)) ∧ w'.cell? ⟨gb645, 1, none⟩ = some (.int .i64 ((rd_T42 l0 x15_1).f1)) ∧ w'.cell? ⟨gb645, 2, none⟩ = some (.int .i64 ((rd_T42 l0 x15_1).f2)) ∧ w'.cell? ⟨gb645, 3, none⟩ = some (.string ((rd_T42 l0 x15_1).f3))) (ds := [18]) #[false, false, false, false, false, false, false, false, false, false, false, false, false, false, false, false, false, false, false] q6z7 rfl rfl ⟨(blk_cell BK645.out 0).trans rfl, (blk_cell BK645.out 1).trans rfl, (blk_cell BK645.out 2).trans rfl, (blk_cell BK645.out 3).trans rfl⟩ (fun hHeld => ?_); refine with_tabW impl_KeyBytes.tab22 impl_KeyBytes.bits22 (fun HT_ HW_ => ?_)
                                      generalize wc.drew = w41 at BK645 HB hHeld ⊢
                                      refine pure_ (i := 0) (N := some 56) (v := ?_) (a' := ?_) #[true, false, false, false, false, false, false, false, false, false, false, false, false, false, false, false, false, false, false] rfl rfl (any_of HT_.out q6z7) (fun _ _ _ h => h) (Or.inl ⟨by rfl, ?_⟩) ?_ ?_; rotate_left
                                      · intro w'
                                        go_simp
                                        with_reducible rfl
                                      rotate_left
                                      · simp only [Act.put, List.setIfInBounds_toArray, List.set_cons_zero, List.set_cons_succ, i64_w, i32_w]
                                        rfl
                                      refine pure_ (i := 1) (N := some 57) (v := ?_) (a' := ?_) #[true, true, false, false, false, false, false, false, false, false, false, false, false, false, false, false, false, false, false] rfl rfl (any_of HT_.out q6z7) (fun _ _ _ h => h) (Or.inl ⟨by rfl, ?_⟩) ?_ ?_; rotate_left
                                      · intro w'
                                        go_simp
                                        with_reducible rfl
                                      rotate_left
                                      · simp only [Act.put, List.setIfInBounds_toArray, List.set_cons_zero, List.set_cons_succ, i64_w, i32_w]
                                        rfl
                                      refine pure_ (i := 4) (N := some 60) (v := ?_) (a' := ?_) #[true, true, false, false, true, false, false, false, false, false, false, false, false, false, false, false, false, false, false] rfl rfl (any_of HT_.out q6z7) (fun _ _ _ h => h) (Or.inl ⟨by rfl, ?_⟩) ?_ ?_; rotate_left
                                      · intro w'
                                        go_simp
                                        with_reducible rfl
                                      rotate_left
                                      · simp only [Act.put, List.setIfInBounds_toArray, List.set_cons_zero, List.set_cons_succ, i64_w, i32_w]
                                        rfl
                                      refine pure_ (i := 5) (N := some 61) (v := ?_) (a' := ?_) #[true, true, false, false, true, true, false, false, false, false, false, false, false, false, false, false, false, false, false] rfl rfl (any_of HT_.out q6z7) (fun _ _ _ h => h) (Or.inl ⟨by rfl, ?_⟩) ?_ ?_; rotate_left
                                      · intro w'
                                        go_simp
                                        with_reducible rfl
                                      rotate_left
                                      · simp only [Act.put, List.setIfInBounds_toArray, List.set_cons_zero, List.set_cons_succ, i64_w, i32_w]
                                        rfl
                                      refine pure_ (i := 12) (N := some 68) (v := ?_) (a' := ?_) #[true, true, false, false, true, true, false, false, false, false, false, false, true, false, false, false, false, false, false] rfl rfl (any_of HT_.out q6z7) (fun _ _ _ h => h) (Or.inl ⟨by rfl, ?_⟩) ?_ ?_; rotate_left
                                      · intro w'
                                        go_simp
                                        with_reducible rfl
                                      rotate_left
                                      · simp only [Act.put, List.setIfInBounds_toArray, List.set_cons_zero, List.set_cons_succ, i64_w, i32_w]
                                        rfl
                                      refine take_ (i := 6) (N := some 62) (v := ?_) (a' := ?_) #[true, true, false, false, true, true, true, false, false, false, false, false, true, false, false, false, false, false, false] rfl rfl (take_ofW HT_.out HW_.out q6z7) (fun _ _ _ h => h) (Or.inl ⟨by rfl, ?_⟩) hHeld ?_ ?_; rotate_left
                                      · rintro w' ⟨s0, s1, s2, s3⟩
                                        go_simp
                                        with_reducible rfl
                                      rotate_left
                                      · simp only [Act.put, List.setIfInBounds_toArray, List.set_cons_zero, List.set_cons_succ, i64_w, i32_w]
                                        rfl
                                      refine pure_ (i := 7) (N := some 63) (v := ?_) (a' := ?_) #[true, true, false, false, true, true, true, true, false, false, false, false, true, false, false, false, false, false, false] rfl rfl (any_of HT_.out q6z7) (fun _ _ _ h => h) (Or.inl ⟨by rfl, ?_⟩) ?_ ?_; rotate_left
                                      · intro w'
                                        go_simp
                                        with_reducible rfl
                                      rotate_left
                                      · simp only [Act.put, List.setIfInBounds_toArray, List.set_cons_zero, List.set_cons_succ, i64_w, i32_w]
                                        rfl
                                      refine take_ (i := 13) (N := some 69) (v := ?_) (a' := ?_) #[true, true, false, false, true, true, true, true, false, false, false, false, true, true, false, false, false, false, false] rfl rfl (take_ofW HT_.out HW_.out q6z7) (fun _ _ _ h => h) (Or.inl ⟨by rfl, ?_⟩) hHeld ?_ ?_; rotate_left
                                      · rintro w' ⟨s0, s1, s2, s3⟩
                                        go_simp
                                        with_reducible rfl
                                      rotate_left
                                      · simp only [Act.put, List.setIfInBounds_toArray, List.set_cons_zero, List.set_cons_succ, i64_w, i32_w]
                                        rfl
                                      refine pure_ (i := 14) (N := some 70) (v := ?_) (a' := ?_) #[true, true, false, false, true, true, true, true, false, false, false, false, true, true, true, false, false, false, false] rfl rfl (any_of HT_.out q6z7) (fun _ _ _ h => h) (Or.inl ⟨by rfl, ?_⟩) ?_ ?_; rotate_left
                                      · intro w'
                                        go_simp
                                        with_reducible rfl
                                      rotate_left
                                      · simp only [Act.put, List.setIfInBounds_toArray, List.set_cons_zero, List.set_cons_succ, i64_w, i32_w]
                                        rfl
                                      refine join_ (σ := Value) 2 #[true, true, true, true, true, true, true, true, true, true, true, true, true, true, true, true, true, false, false] (fun s_ => [(58, .string t651), (64, .int .i64 t652), (66, .string t653), (71, s_), (72, .string (strOfNums y654)), (59, .string ((⟨#[3]⟩ : ByteArray) ++ t651)), (65, .int .i64 (wrap64 ((wrap64 ((Int.tmod ((rd_T42 l0 x15_1).f1) t650) + t650)) * t652))), (67, .string (((⟨#[3]⟩ : ByteArray) ++ t651) ++ t653))]) (fun s_ w' => (w'.cell? ⟨gb645, 0, none⟩ = some (.int .i64 ((rd_T42 l0 x15_1).f0)) ∧ w'.cell? ⟨gb645, 1, none⟩ = some (.int .i64 ((rd_T42 l0 x15_1).f1)) ∧ w'.cell? ⟨gb645, 2, none⟩ = some (.int .i64 ((rd_T42 l0 x15_1).f2)) ∧ w'.cell? ⟨gb645, 3, none⟩ = some (.string ((rd_T42 l0 x15_1).f3))) ∧ (Kd.R (Kd.int .u8) 5 w' wz.heap.size (fun _ => True) s_ y654) ∧ (w'.heap[gb645]? = some (.cells #[.int .i64 ((rd_T42 l0 x15_1).f0), .int .i64 ((rd_T42 l0 x15_1).f1), .int .i64 ((rd_T42 l0 x15_1).f2), .string ((rd_T42 l0 x15_1).f3)] 42 (0, 0))) ∧ (Below wz.heap.size wz w')) ?_ ?_; rotate_left
                                      · intro hJ2_8_10_15_16
                                        refine join_ (σ := Value) 3 #[true, true, true, true, true, true, true, true, true, true, true, true, true, true, true, true, false, false, false] (fun s_ => [(58, .string t651), (64, .int .i64 t652), (66, .string t653), (71, s_), (59, .string ((⟨#[3]⟩ : ByteArray) ++ t651)), (65, .int .i64 (wrap64 ((wrap64 ((Int.tmod ((rd_T42 l0 x15_1).f1) t650) + t650)) * t652))), (67, .string (((⟨#[3]⟩ : ByteArray) ++ t651) ++ t653))]) (fun s_ w' => (w'.cell? ⟨gb645, 0, none⟩ = some (.int .i64 ((rd_T42 l0 x15_1).f0)) ∧ w'.cell? ⟨gb645, 1, none⟩ = some (.int .i64 ((rd_T42 l0 x15_1).f1)) ∧ w'.cell? ⟨gb645, 2, none⟩ = some (.int .i64 ((rd_T42 l0 x15_1).f2)) ∧ w'.cell? ⟨gb645, 3, none⟩ = some (.string ((rd_T42 l0 x15_1).f3))) ∧ (Kd.R (Kd.int .u8) 5 w' wz.heap.size (fun _ => True) s_ y654) ∧ (w'.heap[gb645]? = some (.cells #[.int .i64 ((rd_T42 l0 x15_1).f0), .int .i64 ((rd_T42 l0 x15_1).f1), .int .i64 ((rd_T42 l0 x15_1).f2), .string ((rd_T42 l0 x15_1).f3)] 42 (0, 0))) ∧ (Below wz.heap.size wz w')) ?_ ?_; rotate_left
                                        · intro hJ2_8_10_15
                                          refine join_ (σ := Value) 4 #[true, true, true, true, true, true, true, true, true, true, false, false, true, true, true, true, true, false, false] (fun s_ => [(58, .string t651), (64, .int .i64 t652), (71, s_), (72, .string (strOfNums y654)), (59, .string ((⟨#[3]⟩ : ByteArray) ++ t651)), (65, .int .i64 (wrap64 ((wrap64 ((Int.tmod ((rd_T42 l0 x15_1).f1) t650) + t650)) * t652)))]) (fun s_ w' => (w'.cell? ⟨gb645, 0, none⟩ = some (.int .i64 ((rd_T42 l0 x15_1).f0)) ∧ w'.cell? ⟨gb645, 1, none⟩ = some (.int .i64 ((rd_T42 l0 x15_1).f1)) ∧ w'.cell? ⟨gb645, 2, none⟩ = some (.int .i64 ((rd_T42 l0 x15_1).f2)) ∧ w'.cell? ⟨gb645, 3, none⟩ = some (.string ((rd_T42 l0 x15_1).f3))) ∧ (Kd.R (Kd.int .u8) 5 w' wz.heap.size (fun _ => True) s_ y654) ∧ (w'.heap[gb645]? = some (.cells #[.int .i64 ((rd_T42 l0 x15_1).f0), .int .i64 ((rd_T42 l0 x15_1).f1), .int .i64 ((rd_T42 l0 x15_1).f2), .string ((rd_T42 l0 x15_1).f3)] 42 (0, 0))) ∧ (Below wz.heap.size wz w')) ?_ ?_; rotate_left
                                          · intro hJ2_8_15_16
                                            refine join_ (σ := Unit) 4 #[true, true, true, true, true, true, true, true, true, true, true, true, true, true, true, false, false, false, false] (fun s_ => [(58, .string t651), (64, .int .i64 t652), (66, .string t653), (59, .string ((⟨#[3]⟩ : ByteArray) ++ t651)), (65, .int .i64 (wrap64 ((wrap64 ((Int.tmod ((rd_T42 l0 x15_1).f1) t650) + t650)) * t652))), (67, .string (((⟨#[3]⟩ : ByteArray) ++ t651) ++ t653))]) (fun s_ w' => (w'.cell? ⟨gb645, 0, none⟩ = some (.int .i64 ((rd_T42 l0 x15_1).f0)) ∧ w'.cell? ⟨gb645, 1, none⟩ = some (.int .i64 ((rd_T42 l0 x15_1).f1)) ∧ w'.cell? ⟨gb645, 2, none⟩ = some (.int .i64 ((rd_T42 l0 x15_1).f2)) ∧ w'.cell? ⟨gb645, 3, none⟩ = some (.string ((rd_T42 l0 x15_1).f3))) ∧ (w'.heap[gb645]? = some (.cells #[.int .i64 ((rd_T42 l0 x15_1).f0), .int .i64 ((rd_T42 l0 x15_1).f1), .int .i64 ((rd_T42 l0 x15_1).f2), .string ((rd_T42 l0 x15_1).f3)] 42 (0, 0))) ∧ (Below wz.heap.size wz w')) ?_ ?_; rotate_left
                                            · intro hJ2_8_10
                                              refine join_ (σ := Value) 5 #[true, true, true, true, true, true, true, true, true, true, false, false, true, true, true, true, false, false, false] (fun s_ => [(58, .string t651), (64, .int .i64 t652), (71, s_), (59, .string ((⟨#[3]⟩ : ByteArray) ++ t651)), (65, .int .i64 (wrap64 ((wrap64 ((Int.tmod ((rd_T42 l0 x15_1).f1) t650) + t650)) * t652)))]) (fun s_ w' => (w'.cell? ⟨gb645, 0, none⟩ = some (.int .i64 ((rd_T42 l0 x15_1).f0)) ∧ w'.cell? ⟨gb645, 1, none⟩ = some (.int .i64 ((rd_T42 l0 x15_1).f1)) ∧ w'.cell? ⟨gb645, 2, none⟩ = some (.int .i64 ((rd_T42 l0 x15_1).f2)) ∧ w'.cell? ⟨gb645, 3, none⟩ = some (.string ((rd_T42 l0 x15_1).f3))) ∧ (Kd.R (Kd.int .u8) 5 w' wz.heap.size (fun _ => True) s_ y654) ∧ (w'.heap[gb645]? = some (.cells #[.int .i64 ((rd_T42 l0 x15_1).f0), .int .i64 ((rd_T42 l0 x15_1).f1), .int .i64 ((rd_T42 l0 x15_1).f2), .string ((rd_T42 l0 x15_1).f3)] 42 (0, 0))) ∧ (Below wz.heap.size wz w')) ?_ ?_; rotate_left
                                              · intro hJ2_8_15
                                                refine join_ (σ := Value) 6 #[true, true, true, true, true, true, true, true, false, false, false, false, true, true, true, true, true, false, false] (fun s_ => [(58, .string t651), (71, s_), (72, .string (strOfNums y654)), (59, .string ((⟨#[3]⟩ : ByteArray) ++ t651))]) (fun s_ w' => (w'.cell? ⟨gb645, 0, none⟩ = some (.int .i64 ((rd_T42 l0 x15_1).f0)) ∧ w'.cell? ⟨gb645, 1, none⟩ = some (.int .i64 ((rd_T42 l0 x15_1).f1)) ∧ w'.cell? ⟨gb645, 2, none⟩ = some (.int .i64 ((rd_T42 l0 x15_1).f2)) ∧ w'.cell? ⟨gb645, 3, none⟩ = some (.string ((rd_T42 l0 x15_1).f3))) ∧ (Kd.R (Kd.int .u8) 5 w' wz.heap.size (fun _ => True) s_ y654) ∧ (w'.heap[gb645]? = some (.cells #[.int .i64 ((rd_T42 l0 x15_1).f0), .int .i64 ((rd_T42 l0 x15_1).f1), .int .i64 ((rd_T42 l0 x15_1).f2), .string ((rd_T42 l0 x15_1).f3)] 42 (0, 0))) ∧ (Below wz.heap.size wz w')) ?_ ?_; rotate_left
                                                · intro hJ2_15_16
                                                  refine join_ (σ := Unit) 6 #[true, true, true, true, true, true, true, true, true, true, false, false, true, true, true, false, false, false, false] (fun s_ => [(58, .string t651), (64, .int .i64 t652), (59, .string ((⟨#[3]⟩ : ByteArray) ++ t651)), (65, .int .i64 (wrap64 ((wrap64 ((Int.tmod ((rd_T42 l0 x15_1).f1) t650) + t650)) * t652)))]) (fun s_ w' => (w'.cell? ⟨gb645, 0, none⟩ = some (.int .i64 ((rd_T42 l0 x15_1).f0)) ∧ w'.cell? ⟨gb645, 1, none⟩ = some (.int .i64 ((rd_T42 l0 x15_1).f1)) ∧ w'.cell? ⟨gb645, 2, none⟩ = some (.int .i64 ((rd_T42 l0 x15_1).f2)) ∧ w'.cell? ⟨gb645, 3, none⟩ = some (.string ((rd_T42 l0 x15_1).f3))) ∧ (w'.heap[gb645]? = some (.cells #[.int .i64 ((rd_T42 l0 x15_1).f0), .int .i64 ((rd_T42 l0 x15_1).f1), .int .i64 ((rd_T42 l0 x15_1).f2), .string ((rd_T42 l0 x15_1).f3)] 42 (0, 0))) ∧ (Below wz.heap.size wz w')) ?_ ?_; rotate_left
                                                  · intro hJ2_8
                                                    refine join_ (σ := Value) 7 #[true, true, true, true, true, true, true, true, false, false, false, false, true, true, true, true, false, false, false] (fun s_ => [(58, .string t651), (71, s_), (59, .string ((⟨#[3]⟩ : ByteArray) ++ t651))]) (fun s_ w' => (w'.cell? ⟨gb645, 0, none⟩ = some (.int .i64 ((rd_T42 l0 x15_1).f0)) ∧ w'.cell? ⟨gb645, 1, none⟩ = some (.int .i64 ((rd_T42 l0 x15_1).f1)) ∧ w'.cell? ⟨gb645, 2, none⟩ = some (.int .i64 ((rd_T42 l0 x15_1).f2)) ∧ w'.cell? ⟨gb645, 3, none⟩ = some (.string ((rd_T42 l0 x15_1).f3))) ∧ (Kd.R (Kd.int .u8) 5 w' wz.heap.size (fun _ => True) s_ y654) ∧ (w'.heap[gb645]? = some (.cells #[.int .i64 ((rd_T42 l0 x15_1).f0), .int .i64 ((rd_T42 l0 x15_1).f1), .int .i64 ((rd_T42 l0 x15_1).f2), .string ((rd_T42 l0 x15_1).f3)] 42 (0, 0))) ∧ (Below wz.heap.size wz w')) ?_ ?_; rotate_left
                                                    · intro hJ2_15
                                                      refine join_ (σ := Value) 8 #[true, true, false, false, true, true, true, true, false, false, false, false, true, true, true, true, true, false, false] (fun s_ => [(71, s_), (72, .string (strOfNums y654))]) (fun s_ w' => (w'.cell? ⟨gb645, 0, none⟩ = some (.int .i64 ((rd_T42 l0 x15_1).f0)) ∧ w'.cell? ⟨gb645, 1, none⟩ = some (.int .i64 ((rd_T42 l0 x15_1).f1)) ∧ w'.cell? ⟨gb645, 2, none⟩ = some (.int .i64 ((rd_T42 l0 x15_1).f2)) ∧ w'.cell? ⟨gb645, 3, none⟩ = some (.string ((rd_T42 l0 x15_1).f3))) ∧ (Kd.R (Kd.int .u8) 5 w' wz.heap.size (fun _ => True) s_ y654) ∧ (w'.heap[gb645]? = some (.cells #[.int .i64 ((rd_T42 l0 x15_1).f0), .int .i64 ((rd_T42 l0 x15_1).f1), .int .i64 ((rd_T42 l0 x15_1).f2), .string ((rd_T42 l0 x15_1).f3)] 42 (0, 0))) ∧ (Below wz.heap.size wz w')) ?_ ?_; rotate_left
                                                      · intro hJ15_16
                                                        refine join_ (σ := Unit) 8 #[true, true, true, true, true, true, true, true, false, false, false, false, true, true, true, false, false, false, false] (fun s_ => [(58, .string t651), (59, .string ((⟨#[3]⟩ : ByteArray) ++ t651))]) (fun s_ w' => (w'.cell? ⟨gb645, 0, none⟩ = some (.int .i64 ((rd_T42 l0 x15_1).f0)) ∧ w'.cell? ⟨gb645, 1, none⟩ = some (.int .i64 ((rd_T42 l0 x15_1).f1)) ∧ w'.cell? ⟨gb645, 2, none⟩ = some (.int .i64 ((rd_T42 l0 x15_1).f2)) ∧ w'.cell? ⟨gb645, 3, none⟩ = some (.string ((rd_T42 l0 x15_1).f3))) ∧ (w'.heap[gb645]? = some (.cells #[.int .i64 ((rd_T42 l0 x15_1).f0), .int .i64 ((rd_T42 l0 x15_1).f1), .int .i64 ((rd_T42 l0 x15_1).f2), .string ((rd_T42 l0 x15_1).f3)] 42 (0, 0))) ∧ (Below wz.heap.size wz w')) ?_ ?_; rotate_left
                                                        · intro hJ2
                                                          refine join_ (σ := Value) 9 #[true, true, false, false, true, true, true, true, false, false, false, false, true, true, true, true, false, false, false] (fun s_ => [(71, s_)]) (fun s_ w' => (w'.cell? ⟨gb645, 0, none⟩ = some (.int .i64 ((rd_T42 l0 x15_1).f0)) ∧ w'.cell? ⟨gb645, 1, none⟩ = some (.int .i64 ((rd_T42 l0 x15_1).f1)) ∧ w'.cell? ⟨gb645, 2, none⟩ = some (.int .i64 ((rd_T42 l0 x15_1).f2)) ∧ w'.cell? ⟨gb645, 3, none⟩ = some (.string ((rd_T42 l0 x15_1).f3))) ∧ (Kd.R (Kd.int .u8) 5 w' wz.heap.size (fun _ => True) s_ y654) ∧ (w'.heap[gb645]? = some (.cells #[.int .i64 ((rd_T42 l0 x15_1).f0), .int .i64 ((rd_T42 l0 x15_1).f1), .int .i64 ((rd_T42 l0 x15_1).f2), .string ((rd_T42 l0 x15_1).f3)] 42 (0, 0))) ∧ (Below wz.heap.size wz w')) ?_ ?_; rotate_left
                                                          · intro hJ15
                                                            refine two_ (i := 2) (j := 15) (Ni := some 58) (Nj := some 71) #[true, true, true, false, true, true, true, true, false, false, false, false, true, true, true, false, false, false, false] #[true, true, false, false, true, true, true, true, false, false, false, false, true, true, true, true, false, false, false] rfl rfl rfl rfl (two_of HT_.out q6z7) (by decide) (by decide) (fun K hK => ?_) (fun K hK => ?_)
                                                            · skip
                                                              refine goes_ Try.func28 q6z7 rfl #[.int .i64 (wrap64 (1152921504606846976 + (wrap64 ((wrap64 (Int.tdiv ((rd_T42 l0 x15_1).f1) t650)) - 1)))), .int .i64 8] (by rfl) rfl rfl q6z3 ?_; (with_reducible refine (impl_bytesOf.calls kj22 (wrap64 (1152921504606846976 + (wrap64 ((wrap64 (Int.tdiv ((rd_T42 l0 x15_1).f1) t650)) - 1)))) 8 t651 _ A33.out).mono ?_); rintro e w42 ⟨rfl, hb⟩; refine ⟨_, rfl, ?_⟩; have n0_ := Aside0.mk (blk_below (g := gb645) (o := .cells #[.int .i64 ((rd_T42 l0 x15_1).f0), .int .i64 ((rd_T42 l0 x15_1).f1), .int .i64 ((rd_T42 l0 x15_1).f2), .string ((rd_T42 l0 x15_1).f3)] 42 (0, 0)) q6z1 hb); have n1_ := Aside0.mk (below_step q6z0 hb); clear BK645; clear HB; have BK645 := n0_; have HB := n1_; clear n0_ n1_; (try clear hb); (try clear hb2); (try clear hk); (try clear hi); refine hK.out _ _ ⟨(blk_cell BK645.out 0).trans rfl, (blk_cell BK645.out 1).trans rfl, (blk_cell BK645.out 2).trans rfl, (blk_cell BK645.out 3).trans rfl⟩ (fun hHeld => ?_); clear hK K; refine norm_ (a' := ?_) ?_ ?_; rotate_left
                                                              · show Act.put _ (some 58) _ = _
                                                                simp only [Act.put, List.setIfInBounds_toArray, List.set_cons_zero, List.set_cons_succ, i64_w, i32_w]; rfl
                                                              refine pure_ (i := 3) (N := some 59) (v := ?_) (a' := ?_) #[true, true, true, true, true, true, true, true, false, false, false, false, true, true, true, false, false, false, false] rfl rfl (any_of HT_.out q6z7) (fun _ _ _ h => h) (Or.inl ⟨by rfl, ?_⟩) ?_ ?_; rotate_left
                                                              · intro w'
                                                                go_simp
                                                                with_reducible rfl
                                                              rotate_left
                                                              · simp only [Act.put, List.setIfInBounds_toArray, List.set_cons_zero, List.set_cons_succ, i64_w, i32_w]
                                                                rfl
                                                              exact norm_ q6z2 (hJ2 () _ ⟨hHeld, q6z1, q6z0⟩)
                                                            · skip
                                                              refine Kd.R_lit_step (Kd.int .u8) _ 5 ?hg (N := 71) ?hd (xs := ([(((rd_T42 l0 x15_1).f0)) % 256] : List Int)) (inner := [.int .u8 ((((rd_T42 l0 x15_1).f0)) % 256)]) (ok := fun _ => True) (okp := fun _ => True) ?hr ?hp (fun _ hk => hk) trivial (Below.refl _ _) (Nat.le_refl _) (by simp) ?_; (case hd => rfl); (case hg => rfl); (case hr => first | (go_simp; done) | (go_simp; rfl)); (case hp => exact (Reps.one (show Kd.M (Kd.int .u8) _ _ _ ((((rd_T42 l0 x15_1).f0)) % 256) [.int .u8 ((((rd_T42 l0 x15_1).f0)) % 256)] from rfl) (Reps.none _ _))); intro v655 w42 ho43 hb hg_ hnew_; clear hg_ hnew_; (first | rw [← Ny654.out] at ho43 | (simp only [Int.reduceToNat] at ho43; rw [← Ny654.out] at ho43)); have n0_ := Aside0.mk (Kd.R_lower ho43 (below_size q6z0)); have n1_ := Aside0.mk (blk_below (g := gb645) (o := .cells #[.int .i64 ((rd_T42 l0 x15_1).f0), .int .i64 ((rd_T42 l0 x15_1).f1), .int .i64 ((rd_T42 l0 x15_1).f2), .string ((rd_T42 l0 x15_1).f3)] 42 (0, 0)) q6z1 hb); have n2_ := Aside0.mk (below_step q6z0 hb); clear BK645; clear HB; have HO656 := n0_; have BK645 := n1_; have HB := n2_; clear n0_ n1_ n2_; clear hb ho43; refine hK.out _ _ ⟨(blk_cell BK645.out 0).trans rfl, (blk_cell BK645.out 1).trans rfl, (blk_cell BK645.out 2).trans rfl, (blk_cell BK645.out 3).trans rfl⟩ (fun hHeld => ?_); clear hK K; refine norm_ (a' := ?_) ?_ ?_; rotate_left
                                                              · show Act.put _ (some 71) _ = _
                                                                simp only [Act.put, List.setIfInBounds_toArray, List.set_cons_zero, List.set_cons_succ, i64_w, i32_w]; rfl
                                                              exact norm_ q6z2 (hJ15 (v655) _ ⟨hHeld, q6z4, q6z1, q6z0⟩)
                                                          · skip
                                                            rintro v655 w44 ⟨hS_, h0_, h1_, h2_⟩; have n0_ : Aside0 (Kd.R (Kd.int .u8) 5 w44 wz.heap.size (fun _ => True) v655 y654) := ⟨h0_⟩; have n1_ : Aside0 (w44.heap[gb645]? = some (.cells #[.int .i64 ((rd_T42 l0 x15_1).f0), .int .i64 ((rd_T42 l0 x15_1).f1), .int .i64 ((rd_T42 l0 x15_1).f2), .string ((rd_T42 l0 x15_1).f3)] 42 (0, 0))) := ⟨h1_⟩; have n2_ : Aside0 (Below wz.heap.size wz w44) := ⟨h2_⟩; clear BK645; clear HB; clear h0_ h1_ h2_; have HO656 := n0_; have BK645 := n1_; have HB := n2_; clear n0_ n1_ n2_; have hHeld : w44.cell? ⟨gb645, 0, none⟩ = some (.int .i64 ((rd_T42 l0 x15_1).f0)) ∧ w44.cell? ⟨gb645, 1, none⟩ = some (.int .i64 ((rd_T42 l0 x15_1).f1)) ∧ w44.cell? ⟨gb645, 2, none⟩ = some (.int .i64 ((rd_T42 l0 x15_1).f2)) ∧ w44.cell? ⟨gb645, 3, none⟩ = some (.string ((rd_T42 l0 x15_1).f3)) := hS_; refine norm_ (a' := ?_) ?_ ?_; rotate_left
                                                            · simp only [putAll, Act.put, List.setIfInBounds_toArray, List.set_cons_zero, List.set_cons_succ]
                                                              rfl
                                                            refine two_ (i := 2) (j := 16) (Ni := some 58) (Nj := some 72) #[true, true, true, false, true, true, true, true, false, false, false, false, true, true, true, true, false, false, false] #[true, true, false, false, true, true, true, true, false, false, false, false, true, true, true, true, true, false, false] rfl rfl rfl rfl (two_of HT_.out q6z7) (by decide) (by decide) (fun K hK => ?_) (fun K hK => ?_)
                                                            · skip
                                                              refine goes_ Try.func28 q6z7 rfl #[.int .i64 (wrap64 (1152921504606846976 + (wrap64 ((wrap64 (Int.tdiv ((rd_T42 l0 x15_1).f1) t650)) - 1)))), .int .i64 8] (by rfl) rfl rfl q6z3 ?_; (with_reducible refine (impl_bytesOf.calls kj22 (wrap64 (1152921504606846976 + (wrap64 ((wrap64 (Int.tdiv ((rd_T42 l0 x15_1).f1) t650)) - 1)))) 8 t651 _ A33.out).mono ?_); rintro e w45 ⟨rfl, hb⟩; refine ⟨_, rfl, ?_⟩; have n0_ := Aside0.mk (Kd.R_below q6z4 hb); have n1_ := Aside0.mk (blk_below (g := gb645) (o := .cells #[.int .i64 ((rd_T42 l0 x15_1).f0), .int .i64 ((rd_T42 l0 x15_1).f1), .int .i64 ((rd_T42 l0 x15_1).f2), .string ((rd_T42 l0 x15_1).f3)] 42 (0, 0)) q6z1 hb); have n2_ := Aside0.mk (below_step q6z0 hb); clear HO656; clear BK645; clear HB; have HO656 := n0_; have BK645 := n1_; have HB := n2_; clear n0_ n1_ n2_; (try clear hb); (try clear hb2); (try clear hk); (try clear hi); refine hK.out _ _ ⟨(blk_cell BK645.out 0).trans rfl, (blk_cell BK645.out 1).trans rfl, (blk_cell BK645.out 2).trans rfl, (blk_cell BK645.out 3).trans rfl⟩ (fun hHeld => ?_); clear hK K; refine norm_ (a' := ?_) ?_ ?_; rotate_left
                                                              · show Act.put _ (some 58) _ = _
                                                                simp only [Act.put, List.setIfInBounds_toArray, List.set_cons_zero, List.set_cons_succ, i64_w, i32_w]; rfl
                                                              refine pure_ (i := 3) (N := some 59) (v := ?_) (a' := ?_) #[true, true, true, true, true, true, true, true, false, false, false, false, true, true, true, true, false, false, false] rfl rfl (any_of HT_.out q6z7) (fun _ _ _ h => h) (Or.inl ⟨by rfl, ?_⟩) ?_ ?_; rotate_left
                                                              · intro w'
                                                                go_simp
                                                                with_reducible rfl
                                                              rotate_left
                                                              · simp only [Act.put, List.setIfInBounds_toArray, List.set_cons_zero, List.set_cons_succ, i64_w, i32_w]
                                                                rfl
                                                              exact norm_ q6z2 (hJ2_15 (v655) _ ⟨hHeld, q6z4, q6z1, q6z0⟩)
                                                            · skip
                                                              have hcv45 := own_string (P := Try.prog) Try.underlying34 Try.underlying5 Try.underlying9 (Kd.own_of_R HO656.out); refine value_ (w1 := ?_) (v := ?_) (by rfl) rfl ?_ ?_; rotate_left 2
                                                              · go_simp
                                                                constructor
                                                                · rfl
                                                                · rfl
                                                              clear hcv45; refine hK.out _ _ ⟨(blk_cell BK645.out 0).trans rfl, (blk_cell BK645.out 1).trans rfl, (blk_cell BK645.out 2).trans rfl, (blk_cell BK645.out 3).trans rfl⟩ (fun hHeld => ?_); clear hK K; refine norm_ (a' := ?_) ?_ ?_; rotate_left
                                                              · show Act.put _ (some 72) _ = _
                                                                simp only [Act.put, List.setIfInBounds_toArray, List.set_cons_zero, List.set_cons_succ, i64_w, i32_w]; rfl
                                                              exact norm_ q6z2 (hJ15_16 (v655) _ ⟨hHeld, q6z4, q6z1, q6z0⟩)
                                                        · skip
                                                          rintro _ w43 ⟨hS_, h0_, h1_⟩; have n0_ : Aside0 (w43.heap[gb645]? = some (.cells #[.int .i64 ((rd_T42 l0 x15_1).f0), .int .i64 ((rd_T42 l0 x15_1).f1), .int .i64 ((rd_T42 l0 x15_1).f2), .string ((rd_T42 l0 x15_1).f3)] 42 (0, 0))) := ⟨h0_⟩; have n1_ : Aside0 (Below wz.heap.size wz w43) := ⟨h1_⟩; clear BK645; clear HB; clear h0_ h1_; have BK645 := n0_; have HB := n1_; clear n0_ n1_; have hHeld : w43.cell? ⟨gb645, 0, none⟩ = some (.int .i64 ((rd_T42 l0 x15_1).f0)) ∧ w43.cell? ⟨gb645, 1, none⟩ = some (.int .i64 ((rd_T42 l0 x15_1).f1)) ∧ w43.cell? ⟨gb645, 2, none⟩ = some (.int .i64 ((rd_T42 l0 x15_1).f2)) ∧ w43.cell? ⟨gb645, 3, none⟩ = some (.string ((rd_T42 l0 x15_1).f3)) := hS_; refine norm_ (a' := ?_) ?_ ?_; rotate_left
                                                          · simp only [putAll, Act.put, List.setIfInBounds_toArray, List.set_cons_zero, List.set_cons_succ]
                                                            rfl
                                                          refine two_ (i := 8) (j := 15) (Ni := some 64) (Nj := some 71) #[true, true, true, true, true, true, true, true, true, false, false, false, true, true, true, false, false, false, false] #[true, true, true, true, true, true, true, true, false, false, false, false, true, true, true, true, false, false, false] rfl rfl rfl rfl (two_of HT_.out q6z7) (by decide) (by decide) (fun K hK => ?_) (fun K hK => ?_)
                                                          · skip
                                                            refine goes_ Try.func27 q6z7 rfl #[.int .i64 (wrap64 (6 - ((rd_T42 l0 x15_1).f2)))] (by rfl) rfl rfl q6z3 ?_; (with_reducible refine (impl_p10.calls kj22 (wrap64 (6 - ((rd_T42 l0 x15_1).f2))) t652 _ A35.out).mono ?_); rintro e w' ⟨rfl, ⟨nd, rfl⟩⟩; refine ⟨_, rfl, ?_⟩; refine hK.out _ _ ⟨(blk_cell BK645.out 0).trans rfl, (blk_cell BK645.out 1).trans rfl, (blk_cell BK645.out 2).trans rfl, (blk_cell BK645.out 3).trans rfl⟩ (fun hHeld => ?_); clear hK K; refine norm_ (a' := ?_) ?_ ?_; rotate_left
                                                            · show Act.put _ (some 64) _ = _
                                                              simp only [Act.put, List.setIfInBounds_toArray, List.set_cons_zero, List.set_cons_succ, i64_w, i32_w]; rfl
                                                            refine pure_ (i := 9) (N := some 65) (v := ?_) (a' := ?_) #[true, true, true, true, true, true, true, true, true, true, false, false, true, true, true, false, false, false, false] rfl rfl (any_of HT_.out q6z7) (fun _ _ _ h => h) (Or.inl ⟨by rfl, ?_⟩) ?_ ?_; rotate_left
                                                            · intro w'
                                                              go_simp
                                                              with_reducible rfl
                                                            rotate_left
                                                            · simp only [Act.put, List.setIfInBounds_toArray, List.set_cons_zero, List.set_cons_succ, i64_w, i32_w]
                                                              rfl
                                                            exact norm_ q6z2 (hJ2_8 () _ ⟨hHeld, q6z1, q6z0⟩)
                                                          · skip
                                                            refine Kd.R_lit_step (Kd.int .u8) _ 5 ?hg (N := 71) ?hd (xs := ([(((rd_T42 l0 x15_1).f0)) % 256] : List Int)) (inner := [.int .u8 ((((rd_T42 l0 x15_1).f0)) % 256)]) (ok := fun _ => True) (okp := fun _ => True) ?hr ?hp (fun _ hk => hk) trivial (Below.refl _ _) (Nat.le_refl _) (by simp) ?_; (case hd => rfl); (case hg => rfl); (case hr => first | (go_simp; done) | (go_simp; rfl)); (case hp => exact (Reps.one (show Kd.M (Kd.int .u8) _ _ _ ((((rd_T42 l0 x15_1).f0)) % 256) [.int .u8 ((((rd_T42 l0 x15_1).f0)) % 256)] from rfl) (Reps.none _ _))); intro v655 w44 ho45 hb hg_ hnew_; clear hg_ hnew_; (first | rw [← Ny654.out] at ho45 | (simp only [Int.reduceToNat] at ho45; rw [← Ny654.out] at ho45)); have n0_ := Aside0.mk (Kd.R_lower ho45 (below_size q6z0)); have n1_ := Aside0.mk (blk_below (g := gb645) (o := .cells #[.int .i64 ((rd_T42 l0 x15_1).f0), .int .i64 ((rd_T42 l0 x15_1).f1), .int .i64 ((rd_T42 l0 x15_1).f2), .string ((rd_T42 l0 x15_1).f3)] 42 (0, 0)) q6z1 hb); have n2_ := Aside0.mk (below_step q6z0 hb); clear BK645; clear HB; have HO656 := n0_; have BK645 := n1_; have HB := n2_; clear n0_ n1_ n2_; clear hb ho45; refine hK.out _ _ ⟨(blk_cell BK645.out 0).trans rfl, (blk_cell BK645.out 1).trans rfl, (blk_cell BK645.out 2).trans rfl, (blk_cell BK645.out 3).trans rfl⟩ (fun hHeld => ?_); clear hK K; refine norm_ (a' := ?_) ?_ ?_; rotate_left
                                                            · show Act.put _ (some 71) _ = _
                                                              simp only [Act.put, List.setIfInBounds_toArray, List.set_cons_zero, List.set_cons_succ, i64_w, i32_w]; rfl
                                                            exact norm_ q6z2 (hJ2_15 (v655) _ ⟨hHeld, q6z4, q6z1, q6z0⟩)
                                                      · skip
                                                        rintro v655 w45 ⟨hS_, h0_, h1_, h2_⟩; have n0_ : Aside0 (Kd.R (Kd.int .u8) 5 w45 wz.heap.size (fun _ => True) v655 y654) := ⟨h0_⟩; have n1_ : Aside0 (w45.heap[gb645]? = some (.cells #[.int .i64 ((rd_T42 l0 x15_1).f0), .int .i64 ((rd_T42 l0 x15_1).f1), .int .i64 ((rd_T42 l0 x15_1).f2), .string ((rd_T42 l0 x15_1).f3)] 42 (0, 0))) := ⟨h1_⟩; have n2_ : Aside0 (Below wz.heap.size wz w45) := ⟨h2_⟩; clear BK645; clear HB; clear h0_ h1_ h2_; have HO656 := n0_; have BK645 := n1_; have HB := n2_; clear n0_ n1_ n2_; have hHeld : w45.cell? ⟨gb645, 0, none⟩ = some (.int .i64 ((rd_T42 l0 x15_1).f0)) ∧ w45.cell? ⟨gb645, 1, none⟩ = some (.int .i64 ((rd_T42 l0 x15_1).f1)) ∧ w45.cell? ⟨gb645, 2, none⟩ = some (.int .i64 ((rd_T42 l0 x15_1).f2)) ∧ w45.cell? ⟨gb645, 3, none⟩ = some (.string ((rd_T42 l0 x15_1).f3)) := hS_; refine norm_ (a' := ?_) ?_ ?_; rotate_left
                                                        · simp only [putAll, Act.put, List.setIfInBounds_toArray, List.set_cons_zero, List.set_cons_succ]
                                                          rfl
                                                        refine one_ (i := 2) (N := some 58) #[true, true, true, false, true, true, true, true, false, false, false, false, true, true, true, true, true, false, false] rfl rfl (one_of HT_.out q6z7) (by decide) (fun K hK => ?_); refine goes_ Try.func28 q6z7 rfl #[.int .i64 (wrap64 (1152921504606846976 + (wrap64 ((wrap64 (Int.tdiv ((rd_T42 l0 x15_1).f1) t650)) - 1)))), .int .i64 8] (by rfl) rfl rfl q6z3 ?_; (with_reducible refine (impl_bytesOf.calls kj22 (wrap64 (1152921504606846976 + (wrap64 ((wrap64 (Int.tdiv ((rd_T42 l0 x15_1).f1) t650)) - 1)))) 8 t651 _ A33.out).mono ?_); rintro e w46 ⟨rfl, hb⟩; refine ⟨_, rfl, ?_⟩; have n0_ := Aside0.mk (Kd.R_below q6z4 hb); have n1_ := Aside0.mk (blk_below (g := gb645) (o := .cells #[.int .i64 ((rd_T42 l0 x15_1).f0), .int .i64 ((rd_T42 l0 x15_1).f1), .int .i64 ((rd_T42 l0 x15_1).f2), .string ((rd_T42 l0 x15_1).f3)] 42 (0, 0)) q6z1 hb); have n2_ := Aside0.mk (below_step q6z0 hb); clear HO656; clear BK645; clear HB; have HO656 := n0_; have BK645 := n1_; have HB := n2_; clear n0_ n1_ n2_; (try clear hb); (try clear hb2); (try clear hk); (try clear hi); refine hK.out _ _ ⟨(blk_cell BK645.out 0).trans rfl, (blk_cell BK645.out 1).trans rfl, (blk_cell BK645.out 2).trans rfl, (blk_cell BK645.out 3).trans rfl⟩ (fun hHeld => ?_); clear hK K; refine norm_ (a' := ?_) ?_ ?_; rotate_left
                                                        · show Act.put _ (some 58) _ = _
                                                          simp only [Act.put, List.setIfInBounds_toArray, List.set_cons_zero, List.set_cons_succ, i64_w, i32_w]; rfl
                                                        refine pure_ (i := 3) (N := some 59) (v := ?_) (a' := ?_) #[true, true, true, true, true, true, true, true, false, false, false, false, true, true, true, true, true, false, false] rfl rfl (any_of HT_.out q6z7) (fun _ _ _ h => h) (Or.inl ⟨by rfl, ?_⟩) ?_ ?_; rotate_left
                                                        · intro w'
                                                          go_simp
                                                          with_reducible rfl
                                                        rotate_left
                                                        · simp only [Act.put, List.setIfInBounds_toArray, List.set_cons_zero, List.set_cons_succ, i64_w, i32_w]
                                                          rfl
                                                        exact norm_ q6z2 (hJ2_15_16 (v655) _ ⟨hHeld, q6z4, q6z1, q6z0⟩)
                                                    · skip
                                                      rintro v655 w45 ⟨hS_, h0_, h1_, h2_⟩; have n0_ : Aside0 (Kd.R (Kd.int .u8) 5 w45 wz.heap.size (fun _ => True) v655 y654) := ⟨h0_⟩; have n1_ : Aside0 (w45.heap[gb645]? = some (.cells #[.int .i64 ((rd_T42 l0 x15_1).f0), .int .i64 ((rd_T42 l0 x15_1).f1), .int .i64 ((rd_T42 l0 x15_1).f2), .string ((rd_T42 l0 x15_1).f3)] 42 (0, 0))) := ⟨h1_⟩; have n2_ : Aside0 (Below wz.heap.size wz w45) := ⟨h2_⟩; clear BK645; clear HB; clear h0_ h1_ h2_; have HO656 := n0_; have BK645 := n1_; have HB := n2_; clear n0_ n1_ n2_; have hHeld : w45.cell? ⟨gb645, 0, none⟩ = some (.int .i64 ((rd_T42 l0 x15_1).f0)) ∧ w45.cell? ⟨gb645, 1, none⟩ = some (.int .i64 ((rd_T42 l0 x15_1).f1)) ∧ w45.cell? ⟨gb645, 2, none⟩ = some (.int .i64 ((rd_T42 l0 x15_1).f2)) ∧ w45.cell? ⟨gb645, 3, none⟩ = some (.string ((rd_T42 l0 x15_1).f3)) := hS_; refine norm_ (a' := ?_) ?_ ?_; rotate_left
                                                      · simp only [putAll, Act.put, List.setIfInBounds_toArray, List.set_cons_zero, List.set_cons_succ]
                                                        rfl
                                                      refine two_ (i := 8) (j := 16) (Ni := some 64) (Nj := some 72) #[true, true, true, true, true, true, true, true, true, false, false, false, true, true, true, true, false, false, false] #[true, true, true, true, true, true, true, true, false, false, false, false, true, true, true, true, true, false, false] rfl rfl rfl rfl (two_of HT_.out q6z7) (by decide) (by decide) (fun K hK => ?_) (fun K hK => ?_)
                                                      · skip
                                                        refine goes_ Try.func27 q6z7 rfl #[.int .i64 (wrap64 (6 - ((rd_T42 l0 x15_1).f2)))] (by rfl) rfl rfl q6z3 ?_; (with_reducible refine (impl_p10.calls kj22 (wrap64 (6 - ((rd_T42 l0 x15_1).f2))) t652 _ A35.out).mono ?_); rintro e w' ⟨rfl, ⟨nd, rfl⟩⟩; refine ⟨_, rfl, ?_⟩; refine hK.out _ _ ⟨(blk_cell BK645.out 0).trans rfl, (blk_cell BK645.out 1).trans rfl, (blk_cell BK645.out 2).trans rfl, (blk_cell BK645.out 3).trans rfl⟩ (fun hHeld => ?_); clear hK K; refine norm_ (a' := ?_) ?_ ?_; rotate_left
                                                        · show Act.put _ (some 64) _ = _
                                                          simp only [Act.put, List.setIfInBounds_toArray, List.set_cons_zero, List.set_cons_succ, i64_w, i32_w]; rfl
                                                        refine pure_ (i := 9) (N := some 65) (v := ?_) (a' := ?_) #[true, true, true, true, true, true, true, true, true, true, false, false, true, true, true, true, false, false, false] rfl rfl (any_of HT_.out q6z7) (fun _ _ _ h => h) (Or.inl ⟨by rfl, ?_⟩) ?_ ?_; rotate_left
                                                        · intro w'
                                                          go_simp
                                                          with_reducible rfl
                                                        rotate_left
                                                        · simp only [Act.put, List.setIfInBounds_toArray, List.set_cons_zero, List.set_cons_succ, i64_w, i32_w]
                                                          rfl
                                                        exact norm_ q6z2 (hJ2_8_15 (v655) _ ⟨hHeld, q6z4, q6z1, q6z0⟩)
                                                      · skip
                                                        have hcv46 := own_string (P := Try.prog) Try.underlying34 Try.underlying5 Try.underlying9 (Kd.own_of_R HO656.out); refine value_ (w1 := ?_) (v := ?_) (by rfl) rfl ?_ ?_; rotate_left 2
                                                        · go_simp
                                                          constructor
                                                          · rfl
                                                          · rfl
                                                        clear hcv46; refine hK.out _ _ ⟨(blk_cell BK645.out 0).trans rfl, (blk_cell BK645.out 1).trans rfl, (blk_cell BK645.out 2).trans rfl, (blk_cell BK645.out 3).trans rfl⟩ (fun hHeld => ?_); clear hK K; refine norm_ (a' := ?_) ?_ ?_; rotate_left
                                                        · show Act.put _ (some 72) _ = _
                                                          simp only [Act.put, List.setIfInBounds_toArray, List.set_cons_zero, List.set_cons_succ, i64_w, i32_w]; rfl
                                                        exact norm_ q6z2 (hJ2_15_16 (v655) _ ⟨hHeld, q6z4, q6z1, q6z0⟩)
                                                  · skip
                                                    rintro _ w43 ⟨hS_, h0_, h1_⟩; have n0_ : Aside0 (w43.heap[gb645]? = some (.cells #[.int .i64 ((rd_T42 l0 x15_1).f0), .int .i64 ((rd_T42 l0 x15_1).f1), .int .i64 ((rd_T42 l0 x15_1).f2), .string ((rd_T42 l0 x15_1).f3)] 42 (0, 0))) := ⟨h0_⟩; have n1_ : Aside0 (Below wz.heap.size wz w43) := ⟨h1_⟩; clear BK645; clear HB; clear h0_ h1_; have BK645 := n0_; have HB := n1_; clear n0_ n1_; have hHeld : w43.cell? ⟨gb645, 0, none⟩ = some (.int .i64 ((rd_T42 l0 x15_1).f0)) ∧ w43.cell? ⟨gb645, 1, none⟩ = some (.int .i64 ((rd_T42 l0 x15_1).f1)) ∧ w43.cell? ⟨gb645, 2, none⟩ = some (.int .i64 ((rd_T42 l0 x15_1).f2)) ∧ w43.cell? ⟨gb645, 3, none⟩ = some (.string ((rd_T42 l0 x15_1).f3)) := hS_; refine norm_ (a' := ?_) ?_ ?_; rotate_left
                                                    · simp only [putAll, Act.put, List.setIfInBounds_toArray, List.set_cons_zero, List.set_cons_succ]
                                                      rfl
                                                    refine two_ (i := 10) (j := 15) (Ni := some 66) (Nj := some 71) #[true, true, true, true, true, true, true, true, true, true, true, false, true, true, true, false, false, false, false] #[true, true, true, true, true, true, true, true, true, true, false, false, true, true, true, true, false, false, false] rfl rfl rfl rfl (two_of HT_.out q6z7) (by decide) (by decide) (fun K hK => ?_) (fun K hK => ?_)
                                                    · skip
                                                      refine goes_ Try.func28 q6z7 rfl #[.int .i64 (wrap64 ((wrap64 ((Int.tmod ((rd_T42 l0 x15_1).f1) t650) + t650)) * t652)), .int .i64 3] (by rfl) rfl rfl q6z3 ?_; (with_reducible refine (impl_bytesOf.calls kj22 (wrap64 ((wrap64 ((Int.tmod ((rd_T42 l0 x15_1).f1) t650) + t650)) * t652)) 3 t653 _ A36.out).mono ?_); rintro e w44 ⟨rfl, hb⟩; refine ⟨_, rfl, ?_⟩; have n0_ := Aside0.mk (blk_below (g := gb645) (o := .cells #[.int .i64 ((rd_T42 l0 x15_1).f0), .int .i64 ((rd_T42 l0 x15_1).f1), .int .i64 ((rd_T42 l0 x15_1).f2), .string ((rd_T42 l0 x15_1).f3)] 42 (0, 0)) q6z1 hb); have n1_ := Aside0.mk (below_step q6z0 hb); clear BK645; clear HB; have BK645 := n0_; have HB := n1_; clear n0_ n1_; (try clear hb); (try clear hb2); (try clear hk); (try clear hi); refine hK.out _ _ ⟨(blk_cell BK645.out 0).trans rfl, (blk_cell BK645.out 1).trans rfl, (blk_cell BK645.out 2).trans rfl, (blk_cell BK645.out 3).trans rfl⟩ (fun hHeld => ?_); clear hK K; refine norm_ (a' := ?_) ?_ ?_; rotate_left
                                                      · show Act.put _ (some 66) _ = _
                                                        simp only [Act.put, List.setIfInBounds_toArray, List.set_cons_zero, List.set_cons_succ, i64_w, i32_w]; rfl
                                                      refine pure_ (i := 11) (N := some 67) (v := ?_) (a' := ?_) #[true, true, true, true, true, true, true, true, true, true, true, true, true, true, true, false, false, false, false] rfl rfl (any_of HT_.out q6z7) (fun _ _ _ h => h) (Or.inl ⟨by rfl, ?_⟩) ?_ ?_; rotate_left
                                                      · intro w'
                                                        go_simp
                                                        with_reducible rfl
                                                      rotate_left
                                                      · simp only [Act.put, List.setIfInBounds_toArray, List.set_cons_zero, List.set_cons_succ, i64_w, i32_w]
                                                        rfl
                                                      exact norm_ q6z2 (hJ2_8_10 () _ ⟨hHeld, q6z1, q6z0⟩)
                                                    · skip
                                                      refine Kd.R_lit_step (Kd.int .u8) _ 5 ?hg (N := 71) ?hd (xs := ([(((rd_T42 l0 x15_1).f0)) % 256] : List Int)) (inner := [.int .u8 ((((rd_T42 l0 x15_1).f0)) % 256)]) (ok := fun _ => True) (okp := fun _ => True) ?hr ?hp (fun _ hk => hk) trivial (Below.refl _ _) (Nat.le_refl _) (by simp) ?_; (case hd => rfl); (case hg => rfl); (case hr => first | (go_simp; done) | (go_simp; rfl)); (case hp => exact (Reps.one (show Kd.M (Kd.int .u8) _ _ _ ((((rd_T42 l0 x15_1).f0)) % 256) [.int .u8 ((((rd_T42 l0 x15_1).f0)) % 256)] from rfl) (Reps.none _ _))); intro v655 w44 ho45 hb hg_ hnew_; clear hg_ hnew_; (first | rw [← Ny654.out] at ho45 | (simp only [Int.reduceToNat] at ho45; rw [← Ny654.out] at ho45)); have n0_ := Aside0.mk (Kd.R_lower ho45 (below_size q6z0)); have n1_ := Aside0.mk (blk_below (g := gb645) (o := .cells #[.int .i64 ((rd_T42 l0 x15_1).f0), .int .i64 ((rd_T42 l0 x15_1).f1), .int .i64 ((rd_T42 l0 x15_1).f2), .string ((rd_T42 l0 x15_1).f3)] 42 (0, 0)) q6z1 hb); have n2_ := Aside0.mk (below_step q6z0 hb); clear BK645; clear HB; have HO656 := n0_; have BK645 := n1_; have HB := n2_; clear n0_ n1_ n2_; clear hb ho45; refine hK.out _ _ ⟨(blk_cell BK645.out 0).trans rfl, (blk_cell BK645.out 1).trans rfl, (blk_cell BK645.out 2).trans rfl, (blk_cell BK645.out 3).trans rfl⟩ (fun hHeld => ?_); clear hK K; refine norm_ (a' := ?_) ?_ ?_; rotate_left
                                                      · show Act.put _ (some 71) _ = _
                                                        simp only [Act.put, List.setIfInBounds_toArray, List.set_cons_zero, List.set_cons_succ, i64_w, i32_w]; rfl
                                                      exact norm_ q6z2 (hJ2_8_15 (v655) _ ⟨hHeld, q6z4, q6z1, q6z0⟩)
                                                · skip
                                                  rintro v655 w46 ⟨hS_, h0_, h1_, h2_⟩; have n0_ : Aside0 (Kd.R (Kd.int .u8) 5 w46 wz.heap.size (fun _ => True) v655 y654) := ⟨h0_⟩; have n1_ : Aside0 (w46.heap[gb645]? = some (.cells #[.int .i64 ((rd_T42 l0 x15_1).f0), .int .i64 ((rd_T42 l0 x15_1).f1), .int .i64 ((rd_T42 l0 x15_1).f2), .string ((rd_T42 l0 x15_1).f3)] 42 (0, 0))) := ⟨h1_⟩; have n2_ : Aside0 (Below wz.heap.size wz w46) := ⟨h2_⟩; clear BK645; clear HB; clear h0_ h1_ h2_; have HO656 := n0_; have BK645 := n1_; have HB := n2_; clear n0_ n1_ n2_; have hHeld : w46.cell? ⟨gb645, 0, none⟩ = some (.int .i64 ((rd_T42 l0 x15_1).f0)) ∧ w46.cell? ⟨gb645, 1, none⟩ = some (.int .i64 ((rd_T42 l0 x15_1).f1)) ∧ w46.cell? ⟨gb645, 2, none⟩ = some (.int .i64 ((rd_T42 l0 x15_1).f2)) ∧ w46.cell? ⟨gb645, 3, none⟩ = some (.string ((rd_T42 l0 x15_1).f3)) := hS_; refine norm_ (a' := ?_) ?_ ?_; rotate_left
                                                  · simp only [putAll, Act.put, List.setIfInBounds_toArray, List.set_cons_zero, List.set_cons_succ]
                                                    rfl
                                                  refine one_ (i := 8) (N := some 64) #[true, true, true, true, true, true, true, true, true, false, false, false, true, true, true, true, true, false, false] rfl rfl (one_of HT_.out q6z7) (by decide) (fun K hK => ?_); refine goes_ Try.func27 q6z7 rfl #[.int .i64 (wrap64 (6 - ((rd_T42 l0 x15_1).f2)))] (by rfl) rfl rfl q6z3 ?_; (with_reducible refine (impl_p10.calls kj22 (wrap64 (6 - ((rd_T42 l0 x15_1).f2))) t652 _ A35.out).mono ?_); rintro e w' ⟨rfl, ⟨nd, rfl⟩⟩; refine ⟨_, rfl, ?_⟩; refine hK.out _ _ ⟨(blk_cell BK645.out 0).trans rfl, (blk_cell BK645.out 1).trans rfl, (blk_cell BK645.out 2).trans rfl, (blk_cell BK645.out 3).trans rfl⟩ (fun hHeld => ?_); clear hK K; refine norm_ (a' := ?_) ?_ ?_; rotate_left
                                                  · show Act.put _ (some 64) _ = _
                                                    simp only [Act.put, List.setIfInBounds_toArray, List.set_cons_zero, List.set_cons_succ, i64_w, i32_w]; rfl
                                                  refine pure_ (i := 9) (N := some 65) (v := ?_) (a' := ?_) #[true, true, true, true, true, true, true, true, true, true, false, false, true, true, true, true, true, false, false] rfl rfl (any_of HT_.out q6z7) (fun _ _ _ h => h) (Or.inl ⟨by rfl, ?_⟩) ?_ ?_; rotate_left
                                                  · intro w'
                                                    go_simp
                                                    with_reducible rfl
                                                  rotate_left
                                                  · simp only [Act.put, List.setIfInBounds_toArray, List.set_cons_zero, List.set_cons_succ, i64_w, i32_w]
                                                    rfl
                                                  exact norm_ q6z2 (hJ2_8_15_16 (v655) _ ⟨hHeld, q6z4, q6z1, q6z0⟩)
                                              · skip
                                                rintro v655 w45 ⟨hS_, h0_, h1_, h2_⟩; have n0_ : Aside0 (Kd.R (Kd.int .u8) 5 w45 wz.heap.size (fun _ => True) v655 y654) := ⟨h0_⟩; have n1_ : Aside0 (w45.heap[gb645]? = some (.cells #[.int .i64 ((rd_T42 l0 x15_1).f0), .int .i64 ((rd_T42 l0 x15_1).f1), .int .i64 ((rd_T42 l0 x15_1).f2), .string ((rd_T42 l0 x15_1).f3)] 42 (0, 0))) := ⟨h1_⟩; have n2_ : Aside0 (Below wz.heap.size wz w45) := ⟨h2_⟩; clear BK645; clear HB; clear h0_ h1_ h2_; have HO656 := n0_; have BK645 := n1_; have HB := n2_; clear n0_ n1_ n2_; have hHeld : w45.cell? ⟨gb645, 0, none⟩ = some (.int .i64 ((rd_T42 l0 x15_1).f0)) ∧ w45.cell? ⟨gb645, 1, none⟩ = some (.int .i64 ((rd_T42 l0 x15_1).f1)) ∧ w45.cell? ⟨gb645, 2, none⟩ = some (.int .i64 ((rd_T42 l0 x15_1).f2)) ∧ w45.cell? ⟨gb645, 3, none⟩ = some (.string ((rd_T42 l0 x15_1).f3)) := hS_; refine norm_ (a' := ?_) ?_ ?_; rotate_left
                                                · simp only [putAll, Act.put, List.setIfInBounds_toArray, List.set_cons_zero, List.set_cons_succ]
                                                  rfl
                                                refine two_ (i := 10) (j := 16) (Ni := some 66) (Nj := some 72) #[true, true, true, true, true, true, true, true, true, true, true, false, true, true, true, true, false, false, false] #[true, true, true, true, true, true, true, true, true, true, false, false, true, true, true, true, true, false, false] rfl rfl rfl rfl (two_of HT_.out q6z7) (by decide) (by decide) (fun K hK => ?_) (fun K hK => ?_)
                                                · skip
                                                  refine goes_ Try.func28 q6z7 rfl #[.int .i64 (wrap64 ((wrap64 ((Int.tmod ((rd_T42 l0 x15_1).f1) t650) + t650)) * t652)), .int .i64 3] (by rfl) rfl rfl q6z3 ?_; (with_reducible refine (impl_bytesOf.calls kj22 (wrap64 ((wrap64 ((Int.tmod ((rd_T42 l0 x15_1).f1) t650) + t650)) * t652)) 3 t653 _ A36.out).mono ?_); rintro e w46 ⟨rfl, hb⟩; refine ⟨_, rfl, ?_⟩; have n0_ := Aside0.mk (Kd.R_below q6z4 hb); have n1_ := Aside0.mk (blk_below (g := gb645) (o := .cells #[.int .i64 ((rd_T42 l0 x15_1).f0), .int .i64 ((rd_T42 l0 x15_1).f1), .int .i64 ((rd_T42 l0 x15_1).f2), .string ((rd_T42 l0 x15_1).f3)] 42 (0, 0)) q6z1 hb); have n2_ := Aside0.mk (below_step q6z0 hb); clear HO656; clear BK645; clear HB; have HO656 := n0_; have BK645 := n1_; have HB := n2_; clear n0_ n1_ n2_; (try clear hb); (try clear hb2); (try clear hk); (try clear hi); refine hK.out _ _ ⟨(blk_cell BK645.out 0).trans rfl, (blk_cell BK645.out 1).trans rfl, (blk_cell BK645.out 2).trans rfl, (blk_cell BK645.out 3).trans rfl⟩ (fun hHeld => ?_); clear hK K; refine norm_ (a' := ?_) ?_ ?_; rotate_left
                                                  · show Act.put _ (some 66) _ = _
                                                    simp only [Act.put, List.setIfInBounds_toArray, List.set_cons_zero, List.set_cons_succ, i64_w, i32_w]; rfl
                                                  refine pure_ (i := 11) (N := some 67) (v := ?_) (a' := ?_) #[true, true, true, true, true, true, true, true, true, true, true, true, true, true, true, true, false, false, false] rfl rfl (any_of HT_.out q6z7) (fun _ _ _ h => h) (Or.inl ⟨by rfl, ?_⟩) ?_ ?_; rotate_left
                                                  · intro w'
                                                    go_simp
                                                    with_reducible rfl
                                                  rotate_left
                                                  · simp only [Act.put, List.setIfInBounds_toArray, List.set_cons_zero, List.set_cons_succ, i64_w, i32_w]
                                                    rfl
                                                  exact norm_ q6z2 (hJ2_8_10_15 (v655) _ ⟨hHeld, q6z4, q6z1, q6z0⟩)
                                                · skip
                                                  have hcv46 := own_string (P := Try.prog) Try.underlying34 Try.underlying5 Try.underlying9 (Kd.own_of_R HO656.out); refine value_ (w1 := ?_) (v := ?_) (by rfl) rfl ?_ ?_; rotate_left 2
                                                  · go_simp
                                                    constructor
                                                    · rfl
                                                    · rfl
                                                  clear hcv46; refine hK.out _ _ ⟨(blk_cell BK645.out 0).trans rfl, (blk_cell BK645.out 1).trans rfl, (blk_cell BK645.out 2).trans rfl, (blk_cell BK645.out 3).trans rfl⟩ (fun hHeld => ?_); clear hK K; refine norm_ (a' := ?_) ?_ ?_; rotate_left
                                                  · show Act.put _ (some 72) _ = _
                                                    simp only [Act.put, List.setIfInBounds_toArray, List.set_cons_zero, List.set_cons_succ, i64_w, i32_w]; rfl
                                                  exact norm_ q6z2 (hJ2_8_15_16 (v655) _ ⟨hHeld, q6z4, q6z1, q6z0⟩)
                                            · skip
                                              rintro _ w44 ⟨hS_, h0_, h1_⟩; have n0_ : Aside0 (w44.heap[gb645]? = some (.cells #[.int .i64 ((rd_T42 l0 x15_1).f0), .int .i64 ((rd_T42 l0 x15_1).f1), .int .i64 ((rd_T42 l0 x15_1).f2), .string ((rd_T42 l0 x15_1).f3)] 42 (0, 0))) := ⟨h0_⟩; have n1_ : Aside0 (Below wz.heap.size wz w44) := ⟨h1_⟩; clear BK645; clear HB; clear h0_ h1_; have BK645 := n0_; have HB := n1_; clear n0_ n1_; have hHeld : w44.cell? ⟨gb645, 0, none⟩ = some (.int .i64 ((rd_T42 l0 x15_1).f0)) ∧ w44.cell? ⟨gb645, 1, none⟩ = some (.int .i64 ((rd_T42 l0 x15_1).f1)) ∧ w44.cell? ⟨gb645, 2, none⟩ = some (.int .i64 ((rd_T42 l0 x15_1).f2)) ∧ w44.cell? ⟨gb645, 3, none⟩ = some (.string ((rd_T42 l0 x15_1).f3)) := hS_; refine norm_ (a' := ?_) ?_ ?_; rotate_left
                                              · simp only [putAll, Act.put, List.setIfInBounds_toArray, List.set_cons_zero, List.set_cons_succ]
                                                rfl
                                              refine one_ (i := 15) (N := some 71) #[true, true, true, true, true, true, true, true, true, true, true, true, true, true, true, true, false, false, false] rfl rfl (one_of HT_.out q6z7) (by decide) (fun K hK => ?_); refine Kd.R_lit_step (Kd.int .u8) _ 5 ?hg (N := 71) ?hd (xs := ([(((rd_T42 l0 x15_1).f0)) % 256] : List Int)) (inner := [.int .u8 ((((rd_T42 l0 x15_1).f0)) % 256)]) (ok := fun _ => True) (okp := fun _ => True) ?hr ?hp (fun _ hk => hk) trivial (Below.refl _ _) (Nat.le_refl _) (by simp) ?_; (case hd => rfl); (case hg => rfl); (case hr => first | (go_simp; done) | (go_simp; rfl)); (case hp => exact (Reps.one (show Kd.M (Kd.int .u8) _ _ _ ((((rd_T42 l0 x15_1).f0)) % 256) [.int .u8 ((((rd_T42 l0 x15_1).f0)) % 256)] from rfl) (Reps.none _ _))); intro v655 w45 ho46 hb hg_ hnew_; clear hg_ hnew_; (first | rw [← Ny654.out] at ho46 | (simp only [Int.reduceToNat] at ho46; rw [← Ny654.out] at ho46)); have n0_ := Aside0.mk (Kd.R_lower ho46 (below_size q6z0)); have n1_ := Aside0.mk (blk_below (g := gb645) (o := .cells #[.int .i64 ((rd_T42 l0 x15_1).f0), .int .i64 ((rd_T42 l0 x15_1).f1), .int .i64 ((rd_T42 l0 x15_1).f2), .string ((rd_T42 l0 x15_1).f3)] 42 (0, 0)) q6z1 hb); have n2_ := Aside0.mk (below_step q6z0 hb); clear BK645; clear HB; have HO656 := n0_; have BK645 := n1_; have HB := n2_; clear n0_ n1_ n2_; clear hb ho46; refine hK.out _ _ ⟨(blk_cell BK645.out 0).trans rfl, (blk_cell BK645.out 1).trans rfl, (blk_cell BK645.out 2).trans rfl, (blk_cell BK645.out 3).trans rfl⟩ (fun hHeld => ?_); clear hK K; refine norm_ (a' := ?_) ?_ ?_; rotate_left
                                              · show Act.put _ (some 71) _ = _
                                                simp only [Act.put, List.setIfInBounds_toArray, List.set_cons_zero, List.set_cons_succ, i64_w, i32_w]; rfl
                                              exact norm_ q6z2 (hJ2_8_10_15 (v655) _ ⟨hHeld, q6z4, q6z1, q6z0⟩)
                                          · skip
                                            rintro v655 w46 ⟨hS_, h0_, h1_, h2_⟩; have n0_ : Aside0 (Kd.R (Kd.int .u8) 5 w46 wz.heap.size (fun _ => True) v655 y654) := ⟨h0_⟩; have n1_ : Aside0 (w46.heap[gb645]? = some (.cells #[.int .i64 ((rd_T42 l0 x15_1).f0), .int .i64 ((rd_T42 l0 x15_1).f1), .int .i64 ((rd_T42 l0 x15_1).f2), .string ((rd_T42 l0 x15_1).f3)] 42 (0, 0))) := ⟨h1_⟩; have n2_ : Aside0 (Below wz.heap.size wz w46) := ⟨h2_⟩; clear BK645; clear HB; clear h0_ h1_ h2_; have HO656 := n0_; have BK645 := n1_; have HB := n2_; clear n0_ n1_ n2_; have hHeld : w46.cell? ⟨gb645, 0, none⟩ = some (.int .i64 ((rd_T42 l0 x15_1).f0)) ∧ w46.cell? ⟨gb645, 1, none⟩ = some (.int .i64 ((rd_T42 l0 x15_1).f1)) ∧ w46.cell? ⟨gb645, 2, none⟩ = some (.int .i64 ((rd_T42 l0 x15_1).f2)) ∧ w46.cell? ⟨gb645, 3, none⟩ = some (.string ((rd_T42 l0 x15_1).f3)) := hS_; refine norm_ (a' := ?_) ?_ ?_; rotate_left
                                            · simp only [putAll, Act.put, List.setIfInBounds_toArray, List.set_cons_zero, List.set_cons_succ]
                                              rfl
                                            refine one_ (i := 10) (N := some 66) #[true, true, true, true, true, true, true, true, true, true, true, false, true, true, true, true, true, false, false] rfl rfl (one_of HT_.out q6z7) (by decide) (fun K hK => ?_); refine goes_ Try.func28 q6z7 rfl #[.int .i64 (wrap64 ((wrap64 ((Int.tmod ((rd_T42 l0 x15_1).f1) t650) + t650)) * t652)), .int .i64 3] (by rfl) rfl rfl q6z3 ?_; (with_reducible refine (impl_bytesOf.calls kj22 (wrap64 ((wrap64 ((Int.tmod ((rd_T42 l0 x15_1).f1) t650) + t650)) * t652)) 3 t653 _ A36.out).mono ?_); rintro e w47 ⟨rfl, hb⟩; refine ⟨_, rfl, ?_⟩; have n0_ := Aside0.mk (Kd.R_below q6z4 hb); have n1_ := Aside0.mk (blk_below (g := gb645) (o := .cells #[.int .i64 ((rd_T42 l0 x15_1).f0), .int .i64 ((rd_T42 l0 x15_1).f1), .int .i64 ((rd_T42 l0 x15_1).f2), .string ((rd_T42 l0 x15_1).f3)] 42 (0, 0)) q6z1 hb); have n2_ := Aside0.mk (below_step q6z0 hb); clear HO656; clear BK645; clear HB; have HO656 := n0_; have BK645 := n1_; have HB := n2_; clear n0_ n1_ n2_; (try clear hb); (try clear hb2); (try clear hk); (try clear hi); refine hK.out _ _ ⟨(blk_cell BK645.out 0).trans rfl, (blk_cell BK645.out 1).trans rfl, (blk_cell BK645.out 2).trans rfl, (blk_cell BK645.out 3).trans rfl⟩ (fun hHeld => ?_); clear hK K; refine norm_ (a' := ?_) ?_ ?_; rotate_left
                                            · show Act.put _ (some 66) _ = _
                                              simp only [Act.put, List.setIfInBounds_toArray, List.set_cons_zero, List.set_cons_succ, i64_w, i32_w]; rfl
                                            refine pure_ (i := 11) (N := some 67) (v := ?_) (a' := ?_) #[true, true, true, true, true, true, true, true, true, true, true, true, true, true, true, true, true, false, false] rfl rfl (any_of HT_.out q6z7) (fun _ _ _ h => h) (Or.inl ⟨by rfl, ?_⟩) ?_ ?_; rotate_left
                                            · intro w'
                                              go_simp
                                              with_reducible rfl
                                            rotate_left
                                            · simp only [Act.put, List.setIfInBounds_toArray, List.set_cons_zero, List.set_cons_succ, i64_w, i32_w]
                                              rfl
                                            exact norm_ q6z2 (hJ2_8_10_15_16 (v655) _ ⟨hHeld, q6z4, q6z1, q6z0⟩)
                                        · skip
                                          rintro v655 w46 ⟨hS_, h0_, h1_, h2_⟩; have n0_ : Aside0 (Kd.R (Kd.int .u8) 5 w46 wz.heap.size (fun _ => True) v655 y654) := ⟨h0_⟩; have n1_ : Aside0 (w46.heap[gb645]? = some (.cells #[.int .i64 ((rd_T42 l0 x15_1).f0), .int .i64 ((rd_T42 l0 x15_1).f1), .int .i64 ((rd_T42 l0 x15_1).f2), .string ((rd_T42 l0 x15_1).f3)] 42 (0, 0))) := ⟨h1_⟩; have n2_ : Aside0 (Below wz.heap.size wz w46) := ⟨h2_⟩; clear BK645; clear HB; clear h0_ h1_ h2_; have HO656 := n0_; have BK645 := n1_; have HB := n2_; clear n0_ n1_ n2_; have hHeld : w46.cell? ⟨gb645, 0, none⟩ = some (.int .i64 ((rd_T42 l0 x15_1).f0)) ∧ w46.cell? ⟨gb645, 1, none⟩ = some (.int .i64 ((rd_T42 l0 x15_1).f1)) ∧ w46.cell? ⟨gb645, 2, none⟩ = some (.int .i64 ((rd_T42 l0 x15_1).f2)) ∧ w46.cell? ⟨gb645, 3, none⟩ = some (.string ((rd_T42 l0 x15_1).f3)) := hS_; refine norm_ (a' := ?_) ?_ ?_; rotate_left
                                          · simp only [putAll, Act.put, List.setIfInBounds_toArray, List.set_cons_zero, List.set_cons_succ]
                                            rfl
                                          refine one_ (i := 16) (N := some 72) #[true, true, true, true, true, true, true, true, true, true, true, true, true, true, true, true, true, false, false] rfl rfl (one_of HT_.out q6z7) (by decide) (fun K hK => ?_); have hcv47 := own_string (P := Try.prog) Try.underlying34 Try.underlying5 Try.underlying9 (Kd.own_of_R HO656.out); refine value_ (w1 := ?_) (v := ?_) (by rfl) rfl ?_ ?_; rotate_left 2
                                          · go_simp
                                            constructor
                                            · rfl
                                            · rfl
                                          clear hcv47; refine hK.out _ _ ⟨(blk_cell BK645.out 0).trans rfl, (blk_cell BK645.out 1).trans rfl, (blk_cell BK645.out 2).trans rfl, (blk_cell BK645.out 3).trans rfl⟩ (fun hHeld => ?_); clear hK K; refine norm_ (a' := ?_) ?_ ?_; rotate_left
                                          · show Act.put _ (some 72) _ = _
                                            simp only [Act.put, List.setIfInBounds_toArray, List.set_cons_zero, List.set_cons_succ, i64_w, i32_w]; rfl
                                          exact norm_ q6z2 (hJ2_8_10_15_16 (v655) _ ⟨hHeld, q6z4, q6z1, q6z0⟩)
                                      rintro v655 w47 ⟨hS_, h0_, h1_, h2_⟩; have n0_ : Aside0 (Kd.R (Kd.int .u8) 5 w47 wz.heap.size (fun _ => True) v655 y654) := ⟨h0_⟩; have n1_ : Aside0 (w47.heap[gb645]? = some (.cells #[.int .i64 ((rd_T42 l0 x15_1).f0), .int .i64 ((rd_T42 l0 x15_1).f1), .int .i64 ((rd_T42 l0 x15_1).f2), .string ((rd_T42 l0 x15_1).f3)] 42 (0, 0))) := ⟨h1_⟩; have n2_ : Aside0 (Below wz.heap.size wz w47) := ⟨h2_⟩; clear BK645; clear HB; clear h0_ h1_ h2_; have HO656 := n0_; have BK645 := n1_; have HB := n2_; clear n0_ n1_ n2_; have hHeld : w47.cell? ⟨gb645, 0, none⟩ = some (.int .i64 ((rd_T42 l0 x15_1).f0)) ∧ w47.cell? ⟨gb645, 1, none⟩ = some (.int .i64 ((rd_T42 l0 x15_1).f1)) ∧ w47.cell? ⟨gb645, 2, none⟩ = some (.int .i64 ((rd_T42 l0 x15_1).f2)) ∧ w47.cell? ⟨gb645, 3, none⟩ = some (.string ((rd_T42 l0 x15_1).f3)) := hS_; refine norm_ (a' := ?_) ?_ ?_; rotate_left
                                      · simp only [putAll, Act.put, List.setIfInBounds_toArray, List.set_cons_zero, List.set_cons_succ]
                                        rfl
                                      refine pure_ (i := 17) (N := some 73) (v := ?_) (a' := ?_) #[true, true, true, true, true, true, true, true, true, true, true, true, true, true, true, true, true, true, false] rfl rfl (any_of HT_.out q6z7) (fun _ _ _ h => h) (Or.inl ⟨by rfl, ?_⟩) ?_ ?_; rotate_left
                                      · intro w'
                                        go_simp
                                        with_reducible rfl
                                      rotate_left
                                      · simp only [Act.put, List.setIfInBounds_toArray, List.set_cons_zero, List.set_cons_succ, i64_w, i32_w]
                                        rfl
                                      refine last_ (i := 18) (N := some 74) #[true, true, true, true, true, true, true, true, true, true, true, true, true, true, true, true, true, true, true] rfl rfl q6z7 (by decide) (fun K hK => ?_); refine goes_ Try.func26 q6z7 rfl #[.pointer (some ⟨w.heap.size, 0, none⟩), .string ((((⟨#[3]⟩ : ByteArray) ++ t651) ++ t653) ++ (strOfNums y654))] (by rfl) rfl rfl q6z3 ?_; (with_reducible refine (impl_KeyBytes.bld_write w.heap.size w.heap.size (Lib.byteCells x4_1.data.toList) ((((⟨#[3]⟩ : ByteArray) ++ t651) ++ t653) ++ (strOfNums y654)) _ (impl_KeyBytes.bld_isb HBD.out q6z0) (impl_KeyBytes.bld_len (by assumption)) (Nat.le_trans HBo.out.size (below_size q6z0))).mono ?_); rintro e w98 ⟨rfl, hbd, hb⟩; refine ⟨_, rfl, ?_⟩; have n0_ := Aside0.mk (show Lib.IsBuilder 52 5 w.heap.size w.heap.size (Lib.byteCells (x4_1 ++ ((((⟨#[3]⟩ : ByteArray) ++ t651) ++ t653) ++ (strOfNums y654))).data.toList) w98 from .inr (by rw [impl_KeyBytes.bld_app]; exact hbd)); have n1_ := Aside0.mk (HBo.out.trans (((show Below wz.heap.size wz _ from by repeat (first | (with_reducible first | exact HB.out | apply below_alloc | apply pw_below_drewN | apply below_drew1 | refine below_set ?_ GE645.out) | exact HB.out)).mono HBo.out.size).trans hb)); clear HBD; have HBD := n0_; have HBF := n1_; clear n0_ n1_; clear hb hbd; refine hK.out _ _ ?_; clear hK K; refine norm_ (a' := ?_) ?_ ?_; rotate_left
                                      · show Act.put _ (some 74) _ = _
                                        simp only [Act.put, List.setIfInBounds_toArray, List.set_cons_zero, List.set_cons_succ, i64_w, i32_w]; rfl
                                      refine done_ (done_of HT_.out q6z7) ?_
                                      try go_wp2
                                      go_roundg kj22
                                      case measure => have := HK1.out; have := HJ22.out; omega
                                      case rel => exact ⟨(x4_1 ++ ((((⟨#[3]⟩ : ByteArray) ++ t651) ++ t653) ++ (strOfNums y654))), (wrap64 (x15_1 + 1)), (by first | rfl | (simp; done) | (simp [*]; done)), H', ⟨by have := HK1.out; have := HJ22.out; omega⟩, HBD, HBF⟩
                                    · rw [if_neg c39] at H
                                      exact absurd H (by simp)
                                  · rw [if_neg c38] at H
                                    exact absurd H (by simp)
                                · rw [if_neg c37] at H
                                  exact absurd H (by simp)
                              · rw [if_neg c34] at H
                                exact absurd H (by simp)
                            · rw [if_neg c32] at H
                              have c32b0 : decide ((Int.tmod ((rd_T42 l0 x15_1).f1) t650) < 0) = false := decide_eq_false c32; clear c32; replace H := Option.bind_eq_some_iff.mp H; obtain ⟨t657, A480, H⟩ := H; replace H : (if 1 + t657.size ≤ 9223372036854775807 then ((impl_p10.f kj22 (wrap64 (6 - ((rd_T42 l0 x15_1).f2)))).bind fun t658 => ((impl_bytesOf.f kj22 (wrap64 ((Int.tmod ((rd_T42 l0 x15_1).f1) t650) * t658)) 3).bind fun t659 => (if ((⟨#[3]⟩ : ByteArray) ++ t657).size + t659.size ≤ 9223372036854775807 then ((some (([(((rd_T42 l0 x15_1).f0)) % 256] : List Int) : List Int)).bind fun y660 => (if (((⟨#[3]⟩ : ByteArray) ++ t657) ++ t659).size + (strOfNums y660).size ≤ 9223372036854775807 then (if x4_1.size + ((((⟨#[3]⟩ : ByteArray) ++ t657) ++ t659) ++ (strOfNums y660)).size ≤ 140737488355328 then (impl_KeyBytes.l0 kj22 (x4_1 ++ ((((⟨#[3]⟩ : ByteArray) ++ t657) ++ t659) ++ (strOfNums y660))) l0 (l0.length : Int) (wrap64 (x15_1 + 1))) else (none)) else (none))) else (none)))) else (none)) = some (r1, r2) := H; have A48 := Aside0.mk A480; clear A480
                              by_cases c49 : 1 + t657.size ≤ 9223372036854775807
                              · rw [if_pos c49] at H
                                have c49b0 := eq_true c49; have c49b1 : decide (1 + t657.size ≤ 9223372036854775807) = true := decide_eq_true c49
                                try have c49b2 : (9223372036854775807 < 1 + t657.size) = False := eq_false (Nat.not_lt.2 c49)
                                try (have c49b3 := c49b2; simp only [ByteArray.size_append] at c49b3)
                                try (have c49b6 := c49b2; simp only [ByteArray.size_append, x6_sz_lit1] at c49b6)
                                replace H := Option.bind_eq_some_iff.mp H; obtain ⟨t658, A500, H⟩ := H; replace H : ((impl_bytesOf.f kj22 (wrap64 ((Int.tmod ((rd_T42 l0 x15_1).f1) t650) * t658)) 3).bind fun t659 => (if ((⟨#[3]⟩ : ByteArray) ++ t657).size + t659.size ≤ 9223372036854775807 then ((some (([(((rd_T42 l0 x15_1).f0)) % 256] : List Int) : List Int)).bind fun y660 => (if (((⟨#[3]⟩ : ByteArray) ++ t657) ++ t659).size + (strOfNums y660).size ≤ 9223372036854775807 then (if x4_1.size + ((((⟨#[3]⟩ : ByteArray) ++ t657) ++ t659) ++ (strOfNums y660)).size ≤ 140737488355328 then (impl_KeyBytes.l0 kj22 (x4_1 ++ ((((⟨#[3]⟩ : ByteArray) ++ t657) ++ t659) ++ (strOfNums y660))) l0 (l0.length : Int) (wrap64 (x15_1 + 1))) else (none)) else (none))) else (none))) = some (r1, r2) := H; have A50 := Aside0.mk A500; clear A500; replace H := Option.bind_eq_some_iff.mp H; obtain ⟨t659, A510, H⟩ := H; replace H : (if ((⟨#[3]⟩ : ByteArray) ++ t657).size + t659.size ≤ 9223372036854775807 then ((some (([(((rd_T42 l0 x15_1).f0)) % 256] : List Int) : List Int)).bind fun y660 => (if (((⟨#[3]⟩ : ByteArray) ++ t657) ++ t659).size + (strOfNums y660).size ≤ 9223372036854775807 then (if x4_1.size + ((((⟨#[3]⟩ : ByteArray) ++ t657) ++ t659) ++ (strOfNums y660)).size ≤ 140737488355328 then (impl_KeyBytes.l0 kj22 (x4_1 ++ ((((⟨#[3]⟩ : ByteArray) ++ t657) ++ t659) ++ (strOfNums y660))) l0 (l0.length : Int) (wrap64 (x15_1 + 1))) else (none)) else (none))) else (none)) = some (r1, r2) := H; have A51 := Aside0.mk A510; clear A510
                                by_cases c52 : ((⟨#[3]⟩ : ByteArray) ++ t657).size + t659.size ≤ 9223372036854775807
                                · rw [if_pos c52] at H
                                  have c52b0 := eq_true c52; have c52b1 : decide (((⟨#[3]⟩ : ByteArray) ++ t657).size + t659.size ≤ 9223372036854775807) = true := decide_eq_true c52
                                  try have c52b2 : (9223372036854775807 < ((⟨#[3]⟩ : ByteArray) ++ t657).size + t659.size) = False := eq_false (Nat.not_lt.2 c52)
                                  try (have c52b3 := c52b2; simp only [ByteArray.size_append] at c52b3)
                                  try (have c52b6 := c52b2; simp only [ByteArray.size_append, x6_sz_lit1] at c52b6)
                                  obtain ⟨y660, hy660⟩ : ∃ y_ : List Int, y_ = (([(((rd_T42 l0 x15_1).f0)) % 256] : List Int)) := ⟨_, rfl⟩
                                  replace H : (if (((⟨#[3]⟩ : ByteArray) ++ t657) ++ t659).size + (strOfNums y660).size ≤ 9223372036854775807 then (if x4_1.size + ((((⟨#[3]⟩ : ByteArray) ++ t657) ++ t659) ++ (strOfNums y660)).size ≤ 140737488355328 then (impl_KeyBytes.l0 kj22 (x4_1 ++ ((((⟨#[3]⟩ : ByteArray) ++ t657) ++ t659) ++ (strOfNums y660))) l0 (l0.length : Int) (wrap64 (x15_1 + 1))) else (none)) else (none)) = some (r1, r2) := by first | (rw [hy660]; with_reducible exact H) | (have H2_ := (Option.bind_some _ _).symm.trans H; rw [hy660]; with_reducible exact H2_) | (have H2_ := (Option.bind_some _ _).symm.trans H; with_reducible exact H2_) | with_reducible exact H | (rw [hy660]; exact H) | exact H
                                  have Ny660 := Aside0.mk hy660; clear hy660
                                  by_cases c53 : (((⟨#[3]⟩ : ByteArray) ++ t657) ++ t659).size + (strOfNums y660).size ≤ 9223372036854775807
                                  · rw [if_pos c53] at H
                                    have c53b0 := eq_true c53; have c53b1 : decide ((((⟨#[3]⟩ : ByteArray) ++ t657) ++ t659).size + (strOfNums y660).size ≤ 9223372036854775807) = true := decide_eq_true c53
                                    try have c53b2 : (9223372036854775807 < (((⟨#[3]⟩ : ByteArray) ++ t657) ++ t659).size + (strOfNums y660).size) = False := eq_false (Nat.not_lt.2 c53)
                                    try (have c53b3 := c53b2; simp only [ByteArray.size_append] at c53b3)
                                    try (have c53b6 := c53b2; simp only [ByteArray.size_append, x6_sz_lit1] at c53b6)
                                    by_cases c54 : x4_1.size + ((((⟨#[3]⟩ : ByteArray) ++ t657) ++ t659) ++ (strOfNums y660)).size ≤ 140737488355328
                                    · rw [if_pos c54] at H
                                      have c54b0 := eq_true c54; have c54b1 : decide (x4_1.size + ((((⟨#[3]⟩ : ByteArray) ++ t657) ++ t659) ++ (strOfNums y660)).size ≤ 140737488355328) = true := decide_eq_true c54
                                      try have c54b2 : (140737488355328 < x4_1.size + ((((⟨#[3]⟩ : ByteArray) ++ t657) ++ t659) ++ (strOfNums y660)).size) = False := eq_false (Nat.not_lt.2 c54)
                                      try (have c54b3 := c54b2; simp only [ByteArray.size_append] at c54b3)
                                      try (have c54b6 := c54b2; simp only [ByteArray.size_append, x6_sz_lit1] at c54b6)
                                      have H' := Aside0.mk H; clear H; have hcz55_0 : wc.cell? ⟨gb645, 0, none⟩ = some (.int .i64 ((rd_T42 l0 x15_1).f0)) := (blk_cell BK645.out 0).trans rfl; have hcz55_1 : wc.cell? ⟨gb645, 1, none⟩ = some (.int .i64 ((rd_T42 l0 x15_1).f1)) := (blk_cell BK645.out 1).trans rfl; have hcz55_2 : wc.cell? ⟨gb645, 2, none⟩ = some (.int .i64 ((rd_T42 l0 x15_1).f2)) := (blk_cell BK645.out 2).trans rfl; have hcz55_3 : wc.cell? ⟨gb645, 3, none⟩ = some (.string ((rd_T42 l0 x15_1).f3)) := (blk_cell BK645.out 3).trans rfl; have hfz55_0 := blk_frozen BK645.out 0; have hfz55_1 := blk_frozen BK645.out 1; have hfz55_2 := blk_frozen BK645.out 2; have hfz55_3 := blk_frozen BK645.out 3
                                      try go_wp2_with (first | ((with_reducible refine gate_callee (f := 27) rfl ?_); refine goesL_ (some 40) rfl rfl Try.func27 q6z7 rfl #[.int .i64 ((rd_T42 l0 x15_1).f2)] rfl q6z3 ?_; (with_reducible refine (impl_p10.calls kj22 ((rd_T42 l0 x15_1).f2) t650 _ A30.out).mono ?_); rintro e w' ⟨rfl, ⟨nd, rfl⟩⟩; refine ⟨_, rfl, ?_⟩))
                                      (try (rw [drewN_self wc]; generalize hq_ : World.drewN wc _ = wc; have n0_ : Aside0 (wc.heap[gb645]? = some (.cells #[.int .i64 ((rd_T42 l0 x15_1).f0), .int .i64 ((rd_T42 l0 x15_1).f1), .int .i64 ((rd_T42 l0 x15_1).f2), .string ((rd_T42 l0 x15_1).f3)] 42 (0, 0))) := ⟨by rw [← hq_]; exact q6z1⟩; have n1_ : Aside0 (Below wz.heap.size wz wc) := ⟨by rw [← hq_]; exact q6z0⟩; clear BK645 HB hq_; have BK645 := n0_; have HB := n1_; clear n0_ n1_)); have n0_ := Aside0.mk (blk_drew BK645.out); have n1_ := Aside0.mk (below_drew1 HB.out); clear BK645; clear HB; have BK645 := n0_; have HB := n1_; clear n0_ n1_; refine start_ (n := 19) (S := fun w' => w'.cell? ⟨gb645, 0, none⟩ = some (.int .i64 ((rd_T42 l0 x15_1).f0)) ∧ w'.cell? ⟨gb645, 1, none⟩ = some (.int .i64 ((rd_T42 l0 x15_1).f1)) ∧ w'.cell? ⟨gb645, 2, none⟩ = some (.int .i64 ((rd_T42 l0 x15_1).f2)) ∧ w'.cell? ⟨gb645, 3, none⟩ = some (.string ((rd_T42 l0 x15_1).f3))) (ds := [18]) #[false, false, false, false, false, false, false, false, false, false, false, false, false, false, false, false, false, false, false] q6z7 rfl rfl ⟨(blk_cell BK645.out 0).trans rfl, (blk_cell BK645.out 1).trans rfl, (blk_cell BK645.out 2).trans rfl, (blk_cell BK645.out 3).trans rfl⟩ (fun hHeld => ?_); refine with_tabW impl_KeyBytes.tab22 impl_KeyBytes.bits22 (fun HT_ HW_ => ?_)
                                      generalize wc.drew = w56 at BK645 HB hHeld ⊢
                                      refine pure_ (i := 0) (N := some 56) (v := ?_) (a' := ?_) #[true, false, false, false, false, false, false, false, false, false, false, false, false, false, false, false, false, false, false] rfl rfl (any_of HT_.out q6z7) (fun _ _ _ h => h) (Or.inl ⟨by rfl, ?_⟩) ?_ ?_; rotate_left
                                      · intro w'
                                        go_simp
                                        with_reducible rfl
                                      rotate_left
                                      · simp only [Act.put, List.setIfInBounds_toArray, List.set_cons_zero, List.set_cons_succ, i64_w, i32_w]
                                        rfl
                                      refine pure_ (i := 1) (N := some 57) (v := ?_) (a' := ?_) #[true, true, false, false, false, false, false, false, false, false, false, false, false, false, false, false, false, false, false] rfl rfl (any_of HT_.out q6z7) (fun _ _ _ h => h) (Or.inl ⟨by rfl, ?_⟩) ?_ ?_; rotate_left
                                      · intro w'
                                        go_simp
                                        with_reducible rfl
                                      rotate_left
                                      · simp only [Act.put, List.setIfInBounds_toArray, List.set_cons_zero, List.set_cons_succ, i64_w, i32_w]
                                        rfl
                                      refine pure_ (i := 4) (N := some 60) (v := ?_) (a' := ?_) #[true, true, false, false, true, false, false, false, false, false, false, false, false, false, false, false, false, false, false] rfl rfl (any_of HT_.out q6z7) (fun _ _ _ h => h) (Or.inl ⟨by rfl, ?_⟩) ?_ ?_; rotate_left
                                      · intro w'
                                        go_simp
                                        with_reducible rfl
                                      rotate_left
                                      · simp only [Act.put, List.setIfInBounds_toArray, List.set_cons_zero, List.set_cons_succ, i64_w, i32_w]
                                        rfl
                                      refine pure_ (i := 5) (N := some 61) (v := ?_) (a' := ?_) #[true, true, false, false, true, true, false, false, false, false, false, false, false, false, false, false, false, false, false] rfl rfl (any_of HT_.out q6z7) (fun _ _ _ h => h) (Or.inl ⟨by rfl, ?_⟩) ?_ ?_; rotate_left
                                      · intro w'
                                        go_simp
                                        with_reducible rfl
                                      rotate_left
                                      · simp only [Act.put, List.setIfInBounds_toArray, List.set_cons_zero, List.set_cons_succ, i64_w, i32_w]
                                        rfl
                                      refine pure_ (i := 12) (N := some 68) (v := ?_) (a' := ?_) #[true, true, false, false, true, true, false, false, false, false, false, false, true, false, false, false, false, false, false] rfl rfl (any_of HT_.out q6z7) (fun _ _ _ h => h) (Or.inl ⟨by rfl, ?_⟩) ?_ ?_; rotate_left
                                      · intro w'
                                        go_simp
                                        with_reducible rfl
                                      rotate_left
                                      · simp only [Act.put, List.setIfInBounds_toArray, List.set_cons_zero, List.set_cons_succ, i64_w, i32_w]
                                        rfl
                                      refine take_ (i := 6) (N := some 62) (v := ?_) (a' := ?_) #[true, true, false, false, true, true, true, false, false, false, false, false, true, false, false, false, false, false, false] rfl rfl (take_ofW HT_.out HW_.out q6z7) (fun _ _ _ h => h) (Or.inl ⟨by rfl, ?_⟩) hHeld ?_ ?_; rotate_left
                                      · rintro w' ⟨s0, s1, s2, s3⟩
                                        go_simp
                                        with_reducible rfl
                                      rotate_left
                                      · simp only [Act.put, List.setIfInBounds_toArray, List.set_cons_zero, List.set_cons_succ, i64_w, i32_w]
                                        rfl
                                      refine pure_ (i := 7) (N := some 63) (v := ?_) (a' := ?_) #[true, true, false, false, true, true, true, true, false, false, false, false, true, false, false, false, false, false, false] rfl rfl (any_of HT_.out q6z7) (fun _ _ _ h => h) (Or.inl ⟨by rfl, ?_⟩) ?_ ?_; rotate_left
                                      · intro w'
                                        go_simp
                                        with_reducible rfl
                                      rotate_left
                                      · simp only [Act.put, List.setIfInBounds_toArray, List.set_cons_zero, List.set_cons_succ, i64_w, i32_w]
                                        rfl
                                      refine take_ (i := 13) (N := some 69) (v := ?_) (a' := ?_) #[true, true, false, false, true, true, true, true, false, false, false, false, true, true, false, false, false, false, false] rfl rfl (take_ofW HT_.out HW_.out q6z7) (fun _ _ _ h => h) (Or.inl ⟨by rfl, ?_⟩) hHeld ?_ ?_; rotate_left
                                      · rintro w' ⟨s0, s1, s2, s3⟩
                                        go_simp
                                        with_reducible rfl
                                      rotate_left
                                      · simp only [Act.put, List.setIfInBounds_toArray, List.set_cons_zero, List.set_cons_succ, i64_w, i32_w]
                                        rfl
                                      refine pure_ (i := 14) (N := some 70) (v := ?_) (a' := ?_) #[true, true, false, false, true, true, true, true, false, false, false, false, true, true, true, false, false, false, false] rfl rfl (any_of HT_.out q6z7) (fun _ _ _ h => h) (Or.inl ⟨by rfl, ?_⟩) ?_ ?_; rotate_left
                                      · intro w'
                                        go_simp
                                        with_reducible rfl
                                      rotate_left
                                      · simp only [Act.put, List.setIfInBounds_toArray, List.set_cons_zero, List.set_cons_succ, i64_w, i32_w]
                                        rfl
                                      refine join_ (σ := Value) 2 #[true, true, true, true, true, true, true, true, true, true, true, true, true, true, true, true, true, false, false] (fun s_ => [(58, .string t657), (64, .int .i64 t658), (66, .string t659), (71, s_), (72, .string (strOfNums y660)), (59, .string ((⟨#[3]⟩ : ByteArray) ++ t657)), (65, .int .i64 (wrap64 ((Int.tmod ((rd_T42 l0 x15_1).f1) t650) * t658))), (67, .string (((⟨#[3]⟩ : ByteArray) ++ t657) ++ t659))]) (fun s_ w' => (w'.cell? ⟨gb645, 0, none⟩ = some (.int .i64 ((rd_T42 l0 x15_1).f0)) ∧ w'.cell? ⟨gb645, 1, none⟩ = some (.int .i64 ((rd_T42 l0 x15_1).f1)) ∧ w'.cell? ⟨gb645, 2, none⟩ = some (.int .i64 ((rd_T42 l0 x15_1).f2)) ∧ w'.cell? ⟨gb645, 3, none⟩ = some (.string ((rd_T42 l0 x15_1).f3))) ∧ (Kd.R (Kd.int .u8) 5 w' wz.heap.size (fun _ => True) s_ y660) ∧ (w'.heap[gb645]? = some (.cells #[.int .i64 ((rd_T42 l0 x15_1).f0), .int .i64 ((rd_T42 l0 x15_1).f1), .int .i64 ((rd_T42 l0 x15_1).f2), .string ((rd_T42 l0 x15_1).f3)] 42 (0, 0))) ∧ (Below wz.heap.size wz w')) ?_ ?_; rotate_left
                                      · intro hJ2_8_10_15_16
                                        refine join_ (σ := Value) 3 #[true, true, true, true, true, true, true, true, true, true, true, true, true, true, true, true, false, false, false] (fun s_ => [(58, .string t657), (64, .int .i64 t658), (66, .string t659), (71, s_), (59, .string ((⟨#[3]⟩ : ByteArray) ++ t657)), (65, .int .i64 (wrap64 ((Int.tmod ((rd_T42 l0 x15_1).f1) t650) * t658))), (67, .string (((⟨#[3]⟩ : ByteArray) ++ t657) ++ t659))]) (fun s_ w' => (w'.cell? ⟨gb645, 0, none⟩ = some (.int .i64 ((rd_T42 l0 x15_1).f0)) ∧ w'.cell? ⟨gb645, 1, none⟩ = some (.int .i64 ((rd_T42 l0 x15_1).f1)) ∧ w'.cell? ⟨gb645, 2, none⟩ = some (.int .i64 ((rd_T42 l0 x15_1).f2)) ∧ w'.cell? ⟨gb645, 3, none⟩ = some (.string ((rd_T42 l0 x15_1).f3))) ∧ (Kd.R (Kd.int .u8) 5 w' wz.heap.size (fun _ => True) s_ y660) ∧ (w'.heap[gb645]? = some (.cells #[.int .i64 ((rd_T42 l0 x15_1).f0), .int .i64 ((rd_T42 l0 x15_1).f1), .int .i64 ((rd_T42 l0 x15_1).f2), .string ((rd_T42 l0 x15_1).f3)] 42 (0, 0))) ∧ (Below wz.heap.size wz w')) ?_ ?_; rotate_left
                                        · intro hJ2_8_10_15
                                          refine join_ (σ := Value) 4 #[true, true, true, true, true, true, true, true, true, true, false, false, true, true, true, true, true, false, false] (fun s_ => [(58, .string t657), (64, .int .i64 t658), (71, s_), (72, .string (strOfNums y660)), (59, .string ((⟨#[3]⟩ : ByteArray) ++ t657)), (65, .int .i64 (wrap64 ((Int.tmod ((rd_T42 l0 x15_1).f1) t650) * t658)))]) (fun s_ w' => (w'.cell? ⟨gb645, 0, none⟩ = some (.int .i64 ((rd_T42 l0 x15_1).f0)) ∧ w'.cell? ⟨gb645, 1, none⟩ = some (.int .i64 ((rd_T42 l0 x15_1).f1)) ∧ w'.cell? ⟨gb645, 2, none⟩ = some (.int .i64 ((rd_T42 l0 x15_1).f2)) ∧ w'.cell? ⟨gb645, 3, none⟩ = some (.string ((rd_T42 l0 x15_1).f3))) ∧ (Kd.R (Kd.int .u8) 5 w' wz.heap.size (fun _ => True) s_ y660) ∧ (w'.heap[gb645]? = some (.cells #[.int .i64 ((rd_T42 l0 x15_1).f0), .int .i64 ((rd_T42 l0 x15_1).f1), .int .i64 ((rd_T42 l0 x15_1).f2), .string ((rd_T42 l0 x15_1).f3)] 42 (0, 0))) ∧ (Below wz.heap.size wz w')) ?_ ?_; rotate_left
                                          · intro hJ2_8_15_16
                                            refine join_ (σ := Unit) 4 #[true, true, true, true, true, true, true, true, true, true, true, true, true, true, true, false, false, false, false] (fun s_ => [(58, .string t657), (64, .int .i64 t658), (66, .string t659), (59, .string ((⟨#[3]⟩ : ByteArray) ++ t657)), (65, .int .i64 (wrap64 ((Int.tmod ((rd_T42 l0 x15_1).f1) t650) * t658))), (67, .string (((⟨#[3]⟩ : ByteArray) ++ t657) ++ t659))]) (fun s_ w' => (w'.cell? ⟨gb645, 0, none⟩ = some (.int .i64 ((rd_T42 l0 x15_1).f0)) ∧ w'.cell? ⟨gb645, 1, none⟩ = some (.int .i64 ((rd_T42 l0 x15_1).f1)) ∧ w'.cell? ⟨gb645, 2, none⟩ = some (.int .i64 ((rd_T42 l0 x15_1).f2)) ∧ w'.cell? ⟨gb645, 3, none⟩ = some (.string ((rd_T42 l0 x15_1).f3))) ∧ (w'.heap[gb645]? = some (.cells #[.int .i64 ((rd_T42 l0 x15_1).f0), .int .i64 ((rd_T42 l0 x15_1).f1), .int .i64 ((rd_T42 l0 x15_1).f2), .string ((rd_T42 l0 x15_1).f3)] 42 (0, 0))) ∧ (Below wz.heap.size wz w')) ?_ ?_; rotate_left
                                            · intro hJ2_8_10
                                              refine join_ (σ := Value) 5 #[true, true, true, true, true, true, true, true, true, true, false, false, true, true, true, true, false, false, false] (fun s_ => [(58, .string t657), (64, .int .i64 t658), (71, s_), (59, .string ((⟨#[3]⟩ : ByteArray) ++ t657)), (65, .int .i64 (wrap64 ((Int.tmod ((rd_T42 l0 x15_1).f1) t650) * t658)))]) (fun s_ w' => (w'.cell? ⟨gb645, 0, none⟩ = some (.int .i64 ((rd_T42 l0 x15_1).f0)) ∧ w'.cell? ⟨gb645, 1, none⟩ = some (.int .i64 ((rd_T42 l0 x15_1).f1)) ∧ w'.cell? ⟨gb645, 2, none⟩ = some (.int .i64 ((rd_T42 l0 x15_1).f2)) ∧ w'.cell? ⟨gb645, 3, none⟩ = some (.string ((rd_T42 l0 x15_1).f3))) ∧ (Kd.R (Kd.int .u8) 5 w' wz.heap.size (fun _ => True) s_ y660) ∧ (w'.heap[gb645]? = some (.cells #[.int .i64 ((rd_T42 l0 x15_1).f0), .int .i64 ((rd_T42 l0 x15_1).f1), .int .i64 ((rd_T42 l0 x15_1).f2), .string ((rd_T42 l0 x15_1).f3)] 42 (0, 0))) ∧ (Below wz.heap.size wz w')) ?_ ?_; rotate_left
                                              · intro hJ2_8_15
                                                refine join_ (σ := Value) 6 #[true, true, true, true, true, true, true, true, false, false, false, false, true, true, true, true, true, false, false] (fun s_ => [(58, .string t657), (71, s_), (72, .string (strOfNums y660)), (59, .string ((⟨#[3]⟩ : ByteArray) ++ t657))]) (fun s_ w' => (w'.cell? ⟨gb645, 0, none⟩ = some (.int .i64 ((rd_T42 l0 x15_1).f0)) ∧ w'.cell? ⟨gb645, 1, none⟩ = some (.int .i64 ((rd_T42 l0 x15_1).f1)) ∧ w'.cell? ⟨gb645, 2, none⟩ = some (.int .i64 ((rd_T42 l0 x15_1).f2)) ∧ w'.cell? ⟨gb645, 3, none⟩ = some (.string ((rd_T42 l0 x15_1).f3))) ∧ (Kd.R (Kd.int .u8) 5 w' wz.heap.size (fun _ => True) s_ y660) ∧ (w'.heap[gb645]? = some (.cells #[.int .i64 ((rd_T42 l0 x15_1).f0), .int .i64 ((rd_T42 l0 x15_1).f1), .int .i64 ((rd_T42 l0 x15_1).f2), .string ((rd_T42 l0 x15_1).f3)] 42 (0, 0))) ∧ (Below wz.heap.size wz w')) ?_ ?_; rotate_left
                                                · intro hJ2_15_16
                                                  refine join_ (σ := Unit) 6 #[true, true, true, true, true, true, true, true, true, true, false, false, true, true, true, false, false, false, false] (fun s_ => [(58, .string t657), (64, .int .i64 t658), (59, .string ((⟨#[3]⟩ : ByteArray) ++ t657)), (65, .int .i64 (wrap64 ((Int.tmod ((rd_T42 l0 x15_1).f1) t650) * t658)))]) (fun s_ w' => (w'.cell? ⟨gb645, 0, none⟩ = some (.int .i64 ((rd_T42 l0 x15_1).f0)) ∧ w'.cell? ⟨gb645, 1, none⟩ = some (.int .i64 ((rd_T42 l0 x15_1).f1)) ∧ w'.cell? ⟨gb645, 2, none⟩ = some (.int .i64 ((rd_T42 l0 x15_1).f2)) ∧ w'.cell? ⟨gb645, 3, none⟩ = some (.string ((rd_T42 l0 x15_1).f3))) ∧ (w'.heap[gb645]? = some (.cells #[.int .i64 ((rd_T42 l0 x15_1).f0), .int .i64 ((rd_T42 l0 x15_1).f1), .int .i64 ((rd_T42 l0 x15_1).f2), .string ((rd_T42 l0 x15_1).f3)] 42 (0, 0))) ∧ (Below wz.heap.size wz w')) ?_ ?_; rotate_left
                                                  · intro hJ2_8
                                                    refine join_ (σ := Value) 7 #[true, true, true, true, true, true, true, true, false, false, false, false, true, true, true, true, false, false, false] (fun s_ => [(58, .string t657), (71, s_), (59, .string ((⟨#[3]⟩ : ByteArray) ++ t657))]) (fun s_ w' => (w'.cell? ⟨gb645, 0, none⟩ = some (.int .i64 ((rd_T42 l0 x15_1).f0)) ∧ w'.cell? ⟨gb645, 1, none⟩ = some (.int .i64 ((rd_T42 l0 x15_1).f1)) ∧ w'.cell? ⟨gb645, 2, none⟩ = some (.int .i64 ((rd_T42 l0 x15_1).f2)) ∧ w'.cell? ⟨gb645, 3, none⟩ = some (.string ((rd_T42 l0 x15_1).f3))) ∧ (Kd.R (Kd.int .u8) 5 w' wz.heap.size (fun _ => True) s_ y660) ∧ (w'.heap[gb645]? = some (.cells #[.int .i64 ((rd_T42 l0 x15_1).f0), .int .i64 ((rd_T42 l0 x15_1).f1), .int .i64 ((rd_T42 l0 x15_1).f2), .string ((rd_T42 l0 x15_1).f3)] 42 (0, 0))) ∧ (Below wz.heap.size wz w')) ?_ ?_; rotate_left
                                                    · intro hJ2_15
                                                      refine join_ (σ := Value) 8 #[true, true, false, false, true, true, true, true, false, false, false, false, true, true, true, true, true, false, false] (fun s_ => [(71, s_), (72, .string (strOfNums y660))]) (fun s_ w' => (w'.cell? ⟨gb645, 0, none⟩ = some (.int .i64 ((rd_T42 l0 x15_1).f0)) ∧ w'.cell? ⟨gb645, 1, none⟩ = some (.int .i64 ((rd_T42 l0 x15_1).f1)) ∧ w'.cell? ⟨gb645, 2, none⟩ = some (.int .i64 ((rd_T42 l0 x15_1).f2)) ∧ w'.cell? ⟨gb645, 3, none⟩ = some (.string ((rd_T42 l0 x15_1).f3))) ∧ (Kd.R (Kd.int .u8) 5 w' wz.heap.size (fun _ => True) s_ y660) ∧ (w'.heap[gb645]? = some (.cells #[.int .i64 ((rd_T42 l0 x15_1).f0), .int .i64 ((rd_T42 l0 x15_1).f1), .int .i64 ((rd_T42 l0 x15_1).f2), .string ((rd_T42 l0 x15_1).f3)] 42 (0, 0))) ∧ (Below wz.heap.size wz w')) ?_ ?_; rotate_left
                                                      · intro hJ15_16
                                                        refine join_ (σ := Unit) 8 #[true, true, true, true, true, true, true, true, false, false, false, false, true, true, true, false, false, false, false] (fun s_ => [(58, .string t657), (59, .string ((⟨#[3]⟩ : ByteArray) ++ t657))]) (fun s_ w' => (w'.cell? ⟨gb645, 0, none⟩ = some (.int .i64 ((rd_T42 l0 x15_1).f0)) ∧ w'.cell? ⟨gb645, 1, none⟩ = some (.int .i64 ((rd_T42 l0 x15_1).f1)) ∧ w'.cell? ⟨gb645, 2, none⟩ = some (.int .i64 ((rd_T42 l0 x15_1).f2)) ∧ w'.cell? ⟨gb645, 3, none⟩ = some (.string ((rd_T42 l0 x15_1).f3))) ∧ (w'.heap[gb645]? = some (.cells #[.int .i64 ((rd_T42 l0 x15_1).f0), .int .i64 ((rd_T42 l0 x15_1).f1), .int .i64 ((rd_T42 l0 x15_1).f2), .string ((rd_T42 l0 x15_1).f3)] 42 (0, 0))) ∧ (Below wz.heap.size wz w')) ?_ ?_; rotate_left
                                                        · intro hJ2
                                                          refine join_ (σ := Value) 9 #[true, true, false, false, true, true, true, true, false, false, false, false, true, true, true, true, false, false, false] (fun s_ => [(71, s_)]) (fun s_ w' => (w'.cell? ⟨gb645, 0, none⟩ = some (.int .i64 ((rd_T42 l0 x15_1).f0)) ∧ w'.cell? ⟨gb645, 1, none⟩ = some (.int .i64 ((rd_T42 l0 x15_1).f1)) ∧ w'.cell? ⟨gb645, 2, none⟩ = some (.int .i64 ((rd_T42 l0 x15_1).f2)) ∧ w'.cell? ⟨gb645, 3, none⟩ = some (.string ((rd_T42 l0 x15_1).f3))) ∧ (Kd.R (Kd.int .u8) 5 w' wz.heap.size (fun _ => True) s_ y660) ∧ (w'.heap[gb645]? = some (.cells #[.int .i64 ((rd_T42 l0 x15_1).f0), .int .i64 ((rd_T42 l0 x15_1).f1), .int .i64 ((rd_T42 l0 x15_1).f2), .string ((rd_T42 l0 x15_1).f3)] 42 (0, 0))) ∧ (Below wz.heap.size wz w')) ?_ ?_; rotate_left
                                                          · intro hJ15
                                                            refine two_ (i := 2) (j := 15) (Ni := some 58) (Nj := some 71) #[true, true, true, false, true, true, true, true, false, false, false, false, true, true, true, false, false, false, false] #[true, true, false, false, true, true, true, true, false, false, false, false, true, true, true, true, false, false, false] rfl rfl rfl rfl (two_of HT_.out q6z7) (by decide) (by decide) (fun K hK => ?_) (fun K hK => ?_)
                                                            · skip
                                                              refine goes_ Try.func28 q6z7 rfl #[.int .i64 (wrap64 (1152921504606846976 + (wrap64 (Int.tdiv ((rd_T42 l0 x15_1).f1) t650)))), .int .i64 8] (by rfl) rfl rfl q6z3 ?_; (with_reducible refine (impl_bytesOf.calls kj22 (wrap64 (1152921504606846976 + (wrap64 (Int.tdiv ((rd_T42 l0 x15_1).f1) t650)))) 8 t657 _ A48.out).mono ?_); rintro e w57 ⟨rfl, hb⟩; refine ⟨_, rfl, ?_⟩; have n0_ := Aside0.mk (blk_below (g := gb645) (o := .cells #[.int .i64 ((rd_T42 l0 x15_1).f0), .int .i64 ((rd_T42 l0 x15_1).f1), .int .i64 ((rd_T42 l0 x15_1).f2), .string ((rd_T42 l0 x15_1).f3)] 42 (0, 0)) q6z1 hb); have n1_ := Aside0.mk (below_step q6z0 hb); clear BK645; clear HB; have BK645 := n0_; have HB := n1_; clear n0_ n1_; (try clear hb); (try clear hb2); (try clear hk); (try clear hi); refine hK.out _ _ ⟨(blk_cell BK645.out 0).trans rfl, (blk_cell BK645.out 1).trans rfl, (blk_cell BK645.out 2).trans rfl, (blk_cell BK645.out 3).trans rfl⟩ (fun hHeld => ?_); clear hK K; refine norm_ (a' := ?_) ?_ ?_; rotate_left
                                                              · show Act.put _ (some 58) _ = _
                                                                simp only [Act.put, List.setIfInBounds_toArray, List.set_cons_zero, List.set_cons_succ, i64_w, i32_w]; rfl
                                                              refine pure_ (i := 3) (N := some 59) (v := ?_) (a' := ?_) #[true, true, true, true, true, true, true, true, false, false, false, false, true, true, true, false, false, false, false] rfl rfl (any_of HT_.out q6z7) (fun _ _ _ h => h) (Or.inl ⟨by rfl, ?_⟩) ?_ ?_; rotate_left
                                                              · intro w'
                                                                go_simp
                                                                with_reducible rfl
                                                              rotate_left
                                                              · simp only [Act.put, List.setIfInBounds_toArray, List.set_cons_zero, List.set_cons_succ, i64_w, i32_w]
                                                                rfl
                                                              exact norm_ q6z2 (hJ2 () _ ⟨hHeld, q6z1, q6z0⟩)
                                                            · skip
                                                              refine Kd.R_lit_step (Kd.int .u8) _ 5 ?hg (N := 71) ?hd (xs := ([(((rd_T42 l0 x15_1).f0)) % 256] : List Int)) (inner := [.int .u8 ((((rd_T42 l0 x15_1).f0)) % 256)]) (ok := fun _ => True) (okp := fun _ => True) ?hr ?hp (fun _ hk => hk) trivial (Below.refl _ _) (Nat.le_refl _) (by simp) ?_; (case hd => rfl); (case hg => rfl); (case hr => first | (go_simp; done) | (go_simp; rfl)); (case hp => exact (Reps.one (show Kd.M (Kd.int .u8) _ _ _ ((((rd_T42 l0 x15_1).f0)) % 256) [.int .u8 ((((rd_T42 l0 x15_1).f0)) % 256)] from rfl) (Reps.none _ _))); intro v661 w57 ho58 hb hg_ hnew_; clear hg_ hnew_; (first | rw [← Ny660.out] at ho58 | (simp only [Int.reduceToNat] at ho58; rw [← Ny660.out] at ho58)); have n0_ := Aside0.mk (Kd.R_lower ho58 (below_size q6z0)); have n1_ := Aside0.mk (blk_below (g := gb645) (o := .cells #[.int .i64 ((rd_T42 l0 x15_1).f0), .int .i64 ((rd_T42 l0 x15_1).f1), .int .i64 ((rd_T42 l0 x15_1).f2), .string ((rd_T42 l0 x15_1).f3)] 42 (0, 0)) q6z1 hb); have n2_ := Aside0.mk (below_step q6z0 hb); clear BK645; clear HB; have HO662 := n0_; have BK645 := n1_; have HB := n2_; clear n0_ n1_ n2_; clear hb ho58; refine hK.out _ _ ⟨(blk_cell BK645.out 0).trans rfl, (blk_cell BK645.out 1).trans rfl, (blk_cell BK645.out 2).trans rfl, (blk_cell BK645.out 3).trans rfl⟩ (fun hHeld => ?_); clear hK K; refine norm_ (a' := ?_) ?_ ?_; rotate_left
                                                              · show Act.put _ (some 71) _ = _
                                                                simp only [Act.put, List.setIfInBounds_toArray, List.set_cons_zero, List.set_cons_succ, i64_w, i32_w]; rfl
                                                              exact norm_ q6z2 (hJ15 (v661) _ ⟨hHeld, q6z5, q6z1, q6z0⟩)
                                                          · skip
                                                            rintro v661 w59 ⟨hS_, h0_, h1_, h2_⟩; have n0_ : Aside0 (Kd.R (Kd.int .u8) 5 w59 wz.heap.size (fun _ => True) v661 y660) := ⟨h0_⟩; have n1_ : Aside0 (w59.heap[gb645]? = some (.cells #[.int .i64 ((rd_T42 l0 x15_1).f0), .int .i64 ((rd_T42 l0 x15_1).f1), .int .i64 ((rd_T42 l0 x15_1).f2), .string ((rd_T42 l0 x15_1).f3)] 42 (0, 0))) := ⟨h1_⟩; have n2_ : Aside0 (Below wz.heap.size wz w59) := ⟨h2_⟩; clear BK645; clear HB; clear h0_ h1_ h2_; have HO662 := n0_; have BK645 := n1_; have HB := n2_; clear n0_ n1_ n2_; have hHeld : w59.cell? ⟨gb645, 0, none⟩ = some (.int .i64 ((rd_T42 l0 x15_1).f0)) ∧ w59.cell? ⟨gb645, 1, none⟩ = some (.int .i64 ((rd_T42 l0 x15_1).f1)) ∧ w59.cell? ⟨gb645, 2, none⟩ = some (.int .i64 ((rd_T42 l0 x15_1).f2)) ∧ w59.cell? ⟨gb645, 3, none⟩ = some (.string ((rd_T42 l0 x15_1).f3)) := hS_; refine norm_ (a' := ?_) ?_ ?_; rotate_left
                                                            · simp only [putAll, Act.put, List.setIfInBounds_toArray, List.set_cons_zero, List.set_cons_succ]
                                                              rfl
                                                            refine two_ (i := 2) (j := 16) (Ni := some 58) (Nj := some 72) #[true, true, true, false, true, true, true, true, false, false, false, false, true, true, true, true, false, false, false] #[true, true, false, false, true, true, true, true, false, false, false, false, true, true, true, true, true, false, false] rfl rfl rfl rfl (two_of HT_.out q6z7) (by decide) (by decide) (fun K hK => ?_) (fun K hK => ?_)
                                                            · skip
                                                              refine goes_ Try.func28 q6z7 rfl #[.int .i64 (wrap64 (1152921504606846976 + (wrap64 (Int.tdiv ((rd_T42 l0 x15_1).f1) t650)))), .int .i64 8] (by rfl) rfl rfl q6z3 ?_; (with_reducible refine (impl_bytesOf.calls kj22 (wrap64 (1152921504606846976 + (wrap64 (Int.tdiv ((rd_T42 l0 x15_1).f1) t650)))) 8 t657 _ A48.out).mono ?_); rintro e w60 ⟨rfl, hb⟩; refine ⟨_, rfl, ?_⟩; have n0_ := Aside0.mk (Kd.R_below q6z5 hb); have n1_ := Aside0.mk (blk_below (g := gb645) (o := .cells #[.int .i64 ((rd_T42 l0 x15_1).f0), .int .i64 ((rd_T42 l0 x15_1).f1), .int .i64 ((rd_T42 l0 x15_1).f2), .string ((rd_T42 l0 x15_1).f3)] 42 (0, 0)) q6z1 hb); have n2_ := Aside0.mk (below_step q6z0 hb); clear HO662; clear BK645; clear HB; have HO662 := n0_; have BK645 := n1_; have HB := n2_; clear n0_ n1_ n2_; (try clear hb); (try clear hb2); (try clear hk); (try clear hi); refine hK.out _ _ ⟨(blk_cell BK645.out 0).trans rfl, (blk_cell BK645.out 1).trans rfl, (blk_cell BK645.out 2).trans rfl, (blk_cell BK645.out 3).trans rfl⟩ (fun hHeld => ?_); clear hK K; refine norm_ (a' := ?_) ?_ ?_; rotate_left
                                                              · show Act.put _ (some 58) _ = _
                                                                simp only [Act.put, List.setIfInBounds_toArray, List.set_cons_zero, List.set_cons_succ, i64_w, i32_w]; rfl
                                                              refine pure_ (i := 3) (N := some 59) (v := ?_) (a' := ?_) #[true, true, true, true, true, true, true, true, false, false, false, false, true, true, true, true, false, false, false] rfl rfl (any_of HT_.out q6z7) (fun _ _ _ h => h) (Or.inl ⟨by rfl, ?_⟩) ?_ ?_; rotate_left
                                                              · intro w'
                                                                go_simp
                                                                with_reducible rfl
                                                              rotate_left
                                                              · simp only [Act.put, List.setIfInBounds_toArray, List.set_cons_zero, List.set_cons_succ, i64_w, i32_w]
                                                                rfl
                                                              exact norm_ q6z2 (hJ2_15 (v661) _ ⟨hHeld, q6z5, q6z1, q6z0⟩)
                                                            · skip
                                                              have hcv60 := own_string (P := Try.prog) Try.underlying34 Try.underlying5 Try.underlying9 (Kd.own_of_R HO662.out); refine value_ (w1 := ?_) (v := ?_) (by rfl) rfl ?_ ?_; rotate_left 2
                                                              · go_simp
                                                                constructor
                                                                · rfl
                                                                · rfl
                                                              clear hcv60; refine hK.out _ _ ⟨(blk_cell BK645.out 0).trans rfl, (blk_cell BK645.out 1).trans rfl, (blk_cell BK645.out 2).trans rfl, (blk_cell BK645.out 3).trans rfl⟩ (fun hHeld => ?_); clear hK K; refine norm_ (a' := ?_) ?_ ?_; rotate_left
                                                              · show Act.put _ (some 72) _ = _
                                                                simp only [Act.put, List.setIfInBounds_toArray, List.set_cons_zero, List.set_cons_succ, i64_w, i32_w]; rfl
                                                              exact norm_ q6z2 (hJ15_16 (v661) _ ⟨hHeld, q6z5, q6z1, q6z0⟩)
                                                        · skip
                                                          rintro _ w58 ⟨hS_, h0_, h1_⟩; have n0_ : Aside0 (w58.heap[gb645]? = some (.cells #[.int .i64 ((rd_T42 l0 x15_1).f0), .int .i64 ((rd_T42 l0 x15_1).f1), .int .i64 ((rd_T42 l0 x15_1).f2), .string ((rd_T42 l0 x15_1).f3)] 42 (0, 0))) := ⟨h0_⟩; have n1_ : Aside0 (Below wz.heap.size wz w58) := ⟨h1_⟩; clear BK645; clear HB; clear h0_ h1_; have BK645 := n0_; have HB := n1_; clear n0_ n1_; have hHeld : w58.cell? ⟨gb645, 0, none⟩ = some (.int .i64 ((rd_T42 l0 x15_1).f0)) ∧ w58.cell? ⟨gb645, 1, none⟩ = some (.int .i64 ((rd_T42 l0 x15_1).f1)) ∧ w58.cell? ⟨gb645, 2, none⟩ = some (.int .i64 ((rd_T42 l0 x15_1).f2)) ∧ w58.cell? ⟨gb645, 3, none⟩ = some (.string ((rd_T42 l0 x15_1).f3)) := hS_; refine norm_ (a' := ?_) ?_ ?_; rotate_left
                                                          · simp only [putAll, Act.put, List.setIfInBounds_toArray, List.set_cons_zero, List.set_cons_succ]
                                                            rfl
                                                          refine two_ (i := 8) (j := 15) (Ni := some 64) (Nj := some 71) #[true, true, true, true, true, true, true, true, true, false, false, false, true, true, true, false, false, false, false] #[true, true, true, true, true, true, true, true, false, false, false, false, true, true, true, true, false, false, false] rfl rfl rfl rfl (two_of HT_.out q6z7) (by decide) (by decide) (fun K hK => ?_) (fun K hK => ?_)
                                                          · skip
                                                            refine goes_ Try.func27 q6z7 rfl #[.int .i64 (wrap64 (6 - ((rd_T42 l0 x15_1).f2)))] (by rfl) rfl rfl q6z3 ?_; (with_reducible refine (impl_p10.calls kj22 (wrap64 (6 - ((rd_T42 l0 x15_1).f2))) t658 _ A50.out).mono ?_); rintro e w' ⟨rfl, ⟨nd, rfl⟩⟩; refine ⟨_, rfl, ?_⟩; refine hK.out _ _ ⟨(blk_cell BK645.out 0).trans rfl, (blk_cell BK645.out 1).trans rfl, (blk_cell BK645.out 2).trans rfl, (blk_cell BK645.out 3).trans rfl⟩ (fun hHeld => ?_); clear hK K; refine norm_ (a' := ?_) ?_ ?_; rotate_left
                                                            · show Act.put _ (some 64) _ = _
                                                              simp only [Act.put, List.setIfInBounds_toArray, List.set_cons_zero, List.set_cons_succ, i64_w, i32_w]; rfl
                                                            refine pure_ (i := 9) (N := some 65) (v := ?_) (a' := ?_) #[true, true, true, true, true, true, true, true, true, true, false, false, true, true, true, false, false, false, false] rfl rfl (any_of HT_.out q6z7) (fun _ _ _ h => h) (Or.inl ⟨by rfl, ?_⟩) ?_ ?_; rotate_left
                                                            · intro w'
                                                              go_simp
                                                              with_reducible rfl
                                                            rotate_left
                                                            · simp only [Act.put, List.setIfInBounds_toArray, List.set_cons_zero, List.set_cons_succ, i64_w, i32_w]
                                                              rfl
                                                            exact norm_ q6z2 (hJ2_8 () _ ⟨hHeld, q6z1, q6z0⟩)
                                                          · skip
                                                            refine Kd.R_lit_step (Kd.int .u8) _ 5 ?hg (N := 71) ?hd (xs := ([(((rd_T42 l0 x15_1).f0)) % 256] : List Int)) (inner := [.int .u8 ((((rd_T42 l0 x15_1).f0)) % 256)]) (ok := fun _ => True) (okp := fun _ => True) ?hr ?hp (fun _ hk => hk) trivial (Below.refl _ _) (Nat.le_refl _) (by simp) ?_; (case hd => rfl); (case hg => rfl); (case hr => first | (go_simp; done) | (go_simp; rfl)); (case hp => exact (Reps.one (show Kd.M (Kd.int .u8) _ _ _ ((((rd_T42 l0 x15_1).f0)) % 256) [.int .u8 ((((rd_T42 l0 x15_1).f0)) % 256)] from rfl) (Reps.none _ _))); intro v661 w59 ho60 hb hg_ hnew_; clear hg_ hnew_; (first | rw [← Ny660.out] at ho60 | (simp only [Int.reduceToNat] at ho60; rw [← Ny660.out] at ho60)); have n0_ := Aside0.mk (Kd.R_lower ho60 (below_size q6z0)); have n1_ := Aside0.mk (blk_below (g := gb645) (o := .cells #[.int .i64 ((rd_T42 l0 x15_1).f0), .int .i64 ((rd_T42 l0 x15_1).f1), .int .i64 ((rd_T42 l0 x15_1).f2), .string ((rd_T42 l0 x15_1).f3)] 42 (0, 0)) q6z1 hb); have n2_ := Aside0.mk (below_step q6z0 hb); clear BK645; clear HB; have HO662 := n0_; have BK645 := n1_; have HB := n2_; clear n0_ n1_ n2_; clear hb ho60; refine hK.out _ _ ⟨(blk_cell BK645.out 0).trans rfl, (blk_cell BK645.out 1).trans rfl, (blk_cell BK645.out 2).trans rfl, (blk_cell BK645.out 3).trans rfl⟩ (fun hHeld => ?_); clear hK K; refine norm_ (a' := ?_) ?_ ?_; rotate_left
                                                            · show Act.put _ (some 71) _ = _
                                                              simp only [Act.put, List.setIfInBounds_toArray, List.set_cons_zero, List.set_cons_succ, i64_w, i32_w]; rfl
                                                            exact norm_ q6z2 (hJ2_15 (v661) _ ⟨hHeld, q6z5, q6z1, q6z0⟩)
                                                      · skip
                                                        rintro v661 w60 ⟨hS_, h0_, h1_, h2_⟩; have n0_ : Aside0 (Kd.R (Kd.int .u8) 5 w60 wz.heap.size (fun _ => True) v661 y660) := ⟨h0_⟩; have n1_ : Aside0 (w60.heap[gb645]? = some (.cells #[.int .i64 ((rd_T42 l0 x15_1).f0), .int .i64 ((rd_T42 l0 x15_1).f1), .int .i64 ((rd_T42 l0 x15_1).f2), .string ((rd_T42 l0 x15_1).f3)] 42 (0, 0))) := ⟨h1_⟩; have n2_ : Aside0 (Below wz.heap.size wz w60) := ⟨h2_⟩; clear BK645; clear HB; clear h0_ h1_ h2_; have HO662 := n0_; have BK645 := n1_; have HB := n2_; clear n0_ n1_ n2_; have hHeld : w60.cell? ⟨gb645, 0, none⟩ = some (.int .i64 ((rd_T42 l0 x15_1).f0)) ∧ w60.cell? ⟨gb645, 1, none⟩ = some (.int .i64 ((rd_T42 l0 x15_1).f1)) ∧ w60.cell? ⟨gb645, 2, none⟩ = some (.int .i64 ((rd_T42 l0 x15_1).f2)) ∧ w60.cell? ⟨gb645, 3, none⟩ = some (.string ((rd_T42 l0 x15_1).f3)) := hS_; refine norm_ (a' := ?_) ?_ ?_; rotate_left
                                                        · simp only [putAll, Act.put, List.setIfInBounds_toArray, List.set_cons_zero, List.set_cons_succ]
                                                          rfl
                                                        refine one_ (i := 2) (N := some 58) #[true, true, true, false, true, true, true, true, false, false, false, false, true, true, true, true, true, false, false] rfl rfl (one_of HT_.out q6z7) (by decide) (fun K hK => ?_); refine goes_ Try.func28 q6z7 rfl #[.int .i64 (wrap64 (1152921504606846976 + (wrap64 (Int.tdiv ((rd_T42 l0 x15_1).f1) t650)))), .int .i64 8] (by rfl) rfl rfl q6z3 ?_; (with_reducible refine (impl_bytesOf.calls kj22 (wrap64 (1152921504606846976 + (wrap64 (Int.tdiv ((rd_T42 l0 x15_1).f1) t650)))) 8 t657 _ A48.out).mono ?_); rintro e w61 ⟨rfl, hb⟩; refine ⟨_, rfl, ?_⟩; have n0_ := Aside0.mk (Kd.R_below q6z5 hb); have n1_ := Aside0.mk (blk_below (g := gb645) (o := .cells #[.int .i64 ((rd_T42 l0 x15_1).f0), .int .i64 ((rd_T42 l0 x15_1).f1), .int .i64 ((rd_T42 l0 x15_1).f2), .string ((rd_T42 l0 x15_1).f3)] 42 (0, 0)) q6z1 hb); have n2_ := Aside0.mk (below_step q6z0 hb); clear HO662; clear BK645; clear HB; have HO662 := n0_; have BK645 := n1_; have HB := n2_; clear n0_ n1_ n2_; (try clear hb); (try clear hb2); (try clear hk); (try clear hi); refine hK.out _ _ ⟨(blk_cell BK645.out 0).trans rfl, (blk_cell BK645.out 1).trans rfl, (blk_cell BK645.out 2).trans rfl, (blk_cell BK645.out 3).trans rfl⟩ (fun hHeld => ?_); clear hK K; refine norm_ (a' := ?_) ?_ ?_; rotate_left
                                                        · show Act.put _ (some 58) _ = _
                                                          simp only [Act.put, List.setIfInBounds_toArray, List.set_cons_zero, List.set_cons_succ, i64_w, i32_w]; rfl
                                                        refine pure_ (i := 3) (N := some 59) (v := ?_) (a' := ?_) #[true, true, true, true, true, true, true, true, false, false, false, false, true, true, true, true, true, false, false] rfl rfl (any_of HT_.out q6z7) (fun _ _ _ h => h) (Or.inl ⟨by rfl, ?_⟩) ?_ ?_; rotate_left
                                                        · intro w'
                                                          go_simp
                                                          with_reducible rfl
                                                        rotate_left
                                                        · simp only [Act.put, List.setIfInBounds_toArray, List.set_cons_zero, List.set_cons_succ, i64_w, i32_w]
                                                          rfl
                                                        exact norm_ q6z2 (hJ2_15_16 (v661) _ ⟨hHeld, q6z5, q6z1, q6z0⟩)
                                                    · skip
                                                      rintro v661 w60 ⟨hS_, h0_, h1_, h2_⟩; have n0_ : Aside0 (Kd.R (Kd.int .u8) 5 w60 wz.heap.size (fun _ => True) v661 y660) := ⟨h0_⟩; have n1_ : Aside0 (w60.heap[gb645]? = some (.cells #[.int .i64 ((rd_T42 l0 x15_1).f0), .int .i64 ((rd_T42 l0 x15_1).f1), .int .i64 ((rd_T42 l0 x15_1).f2), .string ((rd_T42 l0 x15_1).f3)] 42 (0, 0))) := ⟨h1_⟩; have n2_ : Aside0 (Below wz.heap.size wz w60) := ⟨h2_⟩; clear BK645; clear HB; clear h0_ h1_ h2_; have HO662 := n0_; have BK645 := n1_; have HB := n2_; clear n0_ n1_ n2_; have hHeld : w60.cell? ⟨gb645, 0, none⟩ = some (.int .i64 ((rd_T42 l0 x15_1).f0)) ∧ w60.cell? ⟨gb645, 1, none⟩ = some (.int .i64 ((rd_T42 l0 x15_1).f1)) ∧ w60.cell? ⟨gb645, 2, none⟩ = some (.int .i64 ((rd_T42 l0 x15_1).f2)) ∧ w60.cell? ⟨gb645, 3, none⟩ = some (.string ((rd_T42 l0 x15_1).f3)) := hS_; refine norm_ (a' := ?_) ?_ ?_; rotate_left
                                                      · simp only [putAll, Act.put, List.setIfInBounds_toArray, List.set_cons_zero, List.set_cons_succ]
                                                        rfl
                                                      refine two_ (i := 8) (j := 16) (Ni := some 64) (Nj := some 72) #[true, true, true, true, true, true, true, true, true, false, false, false, true, true, true, true, false, false, false] #[true, true, true, true, true, true, true, true, false, false, false, false, true, true, true, true, true, false, false] rfl rfl rfl rfl (two_of HT_.out q6z7) (by decide) (by decide) (fun K hK => ?_) (fun K hK => ?_)
                                                      · skip
                                                        refine goes_ Try.func27 q6z7 rfl #[.int .i64 (wrap64 (6 - ((rd_T42 l0 x15_1).f2)))] (by rfl) rfl rfl q6z3 ?_; (with_reducible refine (impl_p10.calls kj22 (wrap64 (6 - ((rd_T42 l0 x15_1).f2))) t658 _ A50.out).mono ?_); rintro e w' ⟨rfl, ⟨nd, rfl⟩⟩; refine ⟨_, rfl, ?_⟩; refine hK.out _ _ ⟨(blk_cell BK645.out 0).trans rfl, (blk_cell BK645.out 1).trans rfl, (blk_cell BK645.out 2).trans rfl, (blk_cell BK645.out 3).trans rfl⟩ (fun hHeld => ?_); clear hK K; refine norm_ (a' := ?_) ?_ ?_; rotate_left
                                                        · show Act.put _ (some 64) _ = _
                                                          simp only [Act.put, List.setIfInBounds_toArray, List.set_cons_zero, List.set_cons_succ, i64_w, i32_w]; rfl
                                                        refine pure_ (i := 9) (N := some 65) (v := ?_) (a' := ?_) #[true, true, true, true, true, true, true, true, true, true, false, false, true, true, true, true, false, false, false] rfl rfl (any_of HT_.out q6z7) (fun _ _ _ h => h) (Or.inl ⟨by rfl, ?_⟩) ?_ ?_; rotate_left
                                                        · intro w'
                                                          go_simp
                                                          with_reducible rfl
                                                        rotate_left
                                                        · simp only [Act.put, List.setIfInBounds_toArray, List.set_cons_zero, List.set_cons_succ, i64_w, i32_w]
                                                          rfl
                                                        exact norm_ q6z2 (hJ2_8_15 (v661) _ ⟨hHeld, q6z5, q6z1, q6z0⟩)
                                                      · skip
                                                        have hcv61 := own_string (P := Try.prog) Try.underlying34 Try.underlying5 Try.underlying9 (Kd.own_of_R HO662.out); refine value_ (w1 := ?_) (v := ?_) (by rfl) rfl ?_ ?_; rotate_left 2
                                                        · go_simp
                                                          constructor
                                                          · rfl
                                                          · rfl
                                                        clear hcv61; refine hK.out _ _ ⟨(blk_cell BK645.out 0).trans rfl, (blk_cell BK645.out 1).trans rfl, (blk_cell BK645.out 2).trans rfl, (blk_cell BK645.out 3).trans rfl⟩ (fun hHeld => ?_); clear hK K; refine norm_ (a' := ?_) ?_ ?_; rotate_left
                                                        · show Act.put _ (some 72) _ = _
                                                          simp only [Act.put, List.setIfInBounds_toArray, List.set_cons_zero, List.set_cons_succ, i64_w, i32_w]; rfl
                                                        exact norm_ q6z2 (hJ2_15_16 (v661) _ ⟨hHeld, q6z5, q6z1, q6z0⟩)
                                                  · skip
                                                    rintro _ w58 ⟨hS_, h0_, h1_⟩; have n0_ : Aside0 (w58.heap[gb645]? = some (.cells #[.int .i64 ((rd_T42 l0 x15_1).f0), .int .i64 ((rd_T42 l0 x15_1).f1), .int .i64 ((rd_T42 l0 x15_1).f2), .string ((rd_T42 l0 x15_1).f3)] 42 (0, 0))) := ⟨h0_⟩; have n1_ : Aside0 (Below wz.heap.size wz w58) := ⟨h1_⟩; clear BK645; clear HB; clear h0_ h1_; have BK645 := n0_; have HB := n1_; clear n0_ n1_; have hHeld : w58.cell? ⟨gb645, 0, none⟩ = some (.int .i64 ((rd_T42 l0 x15_1).f0)) ∧ w58.cell? ⟨gb645, 1, none⟩ = some (.int .i64 ((rd_T42 l0 x15_1).f1)) ∧ w58.cell? ⟨gb645, 2, none⟩ = some (.int .i64 ((rd_T42 l0 x15_1).f2)) ∧ w58.cell? ⟨gb645, 3, none⟩ = some (.string ((rd_T42 l0 x15_1).f3)) := hS_; refine norm_ (a' := ?_) ?_ ?_; rotate_left
                                                    · simp only [putAll, Act.put, List.setIfInBounds_toArray, List.set_cons_zero, List.set_cons_succ]
                                                      rfl
                                                    refine two_ (i := 10) (j := 15) (Ni := some 66) (Nj := some 71) #[true, true, true, true, true, true, true, true, true, true, true, false, true, true, true, false, false, false, false] #[true, true, true, true, true, true, true, true, true, true, false, false, true, true, true, true, false, false, false] rfl rfl rfl rfl (two_of HT_.out q6z7) (by decide) (by decide) (fun K hK => ?_) (fun K hK => ?_)
                                                    · skip
                                                      refine goes_ Try.func28 q6z7 rfl #[.int .i64 (wrap64 ((Int.tmod ((rd_T42 l0 x15_1).f1) t650) * t658)), .int .i64 3] (by rfl) rfl rfl q6z3 ?_; (with_reducible refine (impl_bytesOf.calls kj22 (wrap64 ((Int.tmod ((rd_T42 l0 x15_1).f1) t650) * t658)) 3 t659 _ A51.out).mono ?_); rintro e w59 ⟨rfl, hb⟩; refine ⟨_, rfl, ?_⟩; have n0_ := Aside0.mk (blk_below (g := gb645) (o := .cells #[.int .i64 ((rd_T42 l0 x15_1).f0), .int .i64 ((rd_T42 l0 x15_1).f1), .int .i64 ((rd_T42 l0 x15_1).f2), .string ((rd_T42 l0 x15_1).f3)] 42 (0, 0)) q6z1 hb); have n1_ := Aside0.mk (below_step q6z0 hb); clear BK645; clear HB; have BK645 := n0_; have HB := n1_; clear n0_ n1_; (try clear hb); (try clear hb2); (try clear hk); (try clear hi); refine hK.out _ _ ⟨(blk_cell BK645.out 0).trans rfl, (blk_cell BK645.out 1).trans rfl, (blk_cell BK645.out 2).trans rfl, (blk_cell BK645.out 3).trans rfl⟩ (fun hHeld => ?_); clear hK K; refine norm_ (a' := ?_) ?_ ?_; rotate_left
                                                      · show Act.put _ (some 66) _ = _
                                                        simp only [Act.put, List.setIfInBounds_toArray, List.set_cons_zero, List.set_cons_succ, i64_w, i32_w]; rfl
                                                      refine pure_ (i := 11) (N := some 67) (v := ?_) (a' := ?_) #[true, true, true, true, true, true, true, true, true, true, true, true, true, true, true, false, false, false, false] rfl rfl (any_of HT_.out q6z7) (fun _ _ _ h => h) (Or.inl ⟨by rfl, ?_⟩) ?_ ?_; rotate_left
                                                      · intro w'
                                                        go_simp
                                                        with_reducible rfl
                                                      rotate_left
                                                      · simp only [Act.put, List.setIfInBounds_toArray, List.set_cons_zero, List.set_cons_succ, i64_w, i32_w]
                                                        rfl
                                                      exact norm_ q6z2 (hJ2_8_10 () _ ⟨hHeld, q6z1, q6z0⟩)
                                                    · skip
                                                      refine Kd.R_lit_step (Kd.int .u8) _ 5 ?hg (N := 71) ?hd (xs := ([(((rd_T42 l0 x15_1).f0)) % 256] : List Int)) (inner := [.int .u8 ((((rd_T42 l0 x15_1).f0)) % 256)]) (ok := fun _ => True) (okp := fun _ => True) ?hr ?hp (fun _ hk => hk) trivial (Below.refl _ _) (Nat.le_refl _) (by simp) ?_; (case hd => rfl); (case hg => rfl); (case hr => first | (go_simp; done) | (go_simp; rfl)); (case hp => exact (Reps.one (show Kd.M (Kd.int .u8) _ _ _ ((((rd_T42 l0 x15_1).f0)) % 256) [.int .u8 ((((rd_T42 l0 x15_1).f0)) % 256)] from rfl) (Reps.none _ _))); intro v661 w59 ho60 hb hg_ hnew_; clear hg_ hnew_; (first | rw [← Ny660.out] at ho60 | (simp only [Int.reduceToNat] at ho60; rw [← Ny660.out] at ho60)); have n0_ := Aside0.mk (Kd.R_lower ho60 (below_size q6z0)); have n1_ := Aside0.mk (blk_below (g := gb645) (o := .cells #[.int .i64 ((rd_T42 l0 x15_1).f0), .int .i64 ((rd_T42 l0 x15_1).f1), .int .i64 ((rd_T42 l0 x15_1).f2), .string ((rd_T42 l0 x15_1).f3)] 42 (0, 0)) q6z1 hb); have n2_ := Aside0.mk (below_step q6z0 hb); clear BK645; clear HB; have HO662 := n0_; have BK645 := n1_; have HB := n2_; clear n0_ n1_ n2_; clear hb ho60; refine hK.out _ _ ⟨(blk_cell BK645.out 0).trans rfl, (blk_cell BK645.out 1).trans rfl, (blk_cell BK645.out 2).trans rfl, (blk_cell BK645.out 3).trans rfl⟩ (fun hHeld => ?_); clear hK K; refine norm_ (a' := ?_) ?_ ?_; rotate_left
                                                      · show Act.put _ (some 71) _ = _
                                                        simp only [Act.put, List.setIfInBounds_toArray, List.set_cons_zero, List.set_cons_succ, i64_w, i32_w]; rfl
                                                      exact norm_ q6z2 (hJ2_8_15 (v661) _ ⟨hHeld, q6z5, q6z1, q6z0⟩)
                                                · skip
                                                  rintro v661 w61 ⟨hS_, h0_, h1_, h2_⟩; have n0_ : Aside0 (Kd.R (Kd.int .u8) 5 w61 wz.heap.size (fun _ => True) v661 y660) := ⟨h0_⟩; have n1_ : Aside0 (w61.heap[gb645]? = some (.cells #[.int .i64 ((rd_T42 l0 x15_1).f0), .int .i64 ((rd_T42 l0 x15_1).f1), .int .i64 ((rd_T42 l0 x15_1).f2), .string ((rd_T42 l0 x15_1).f3)] 42 (0, 0))) := ⟨h1_⟩; have n2_ : Aside0 (Below wz.heap.size wz w61) := ⟨h2_⟩; clear BK645; clear HB; clear h0_ h1_ h2_; have HO662 := n0_; have BK645 := n1_; have HB := n2_; clear n0_ n1_ n2_; have hHeld : w61.cell? ⟨gb645, 0, none⟩ = some (.int .i64 ((rd_T42 l0 x15_1).f0)) ∧ w61.cell? ⟨gb645, 1, none⟩ = some (.int .i64 ((rd_T42 l0 x15_1).f1)) ∧ w61.cell? ⟨gb645, 2, none⟩ = some (.int .i64 ((rd_T42 l0 x15_1).f2)) ∧ w61.cell? ⟨gb645, 3, none⟩ = some (.string ((rd_T42 l0 x15_1).f3)) := hS_; refine norm_ (a' := ?_) ?_ ?_; rotate_left
                                                  · simp only [putAll, Act.put, List.setIfInBounds_toArray, List.set_cons_zero, List.set_cons_succ]
                                                    rfl
                                                  refine one_ (i := 8) (N := some 64) #[true, true, true, true, true, true, true, true, true, false, false, false, true, true, true, true, true, false, false] rfl rfl (one_of HT_.out q6z7) (by decide) (fun K hK => ?_); refine goes_ Try.func27 q6z7 rfl #[.int .i64 (wrap64 (6 - ((rd_T42 l0 x15_1).f2)))] (by rfl) rfl rfl q6z3 ?_; (with_reducible refine (impl_p10.calls kj22 (wrap64 (6 - ((rd_T42 l0 x15_1).f2))) t658 _ A50.out).mono ?_); rintro e w' ⟨rfl, ⟨nd, rfl⟩⟩; refine ⟨_, rfl, ?_⟩; refine hK.out _ _ ⟨(blk_cell BK645.out 0).trans rfl, (blk_cell BK645.out 1).trans rfl, (blk_cell BK645.out 2).trans rfl, (blk_cell BK645.out 3).trans rfl⟩ (fun hHeld => ?_); clear hK K; refine norm_ (a' := ?_) ?_ ?_; rotate_left
                                                  · show Act.put _ (some 64) _ = _
                                                    simp only [Act.put, List.setIfInBounds_toArray, List.set_cons_zero, List.set_cons_succ, i64_w, i32_w]; rfl
                                                  refine pure_ (i := 9) (N := some 65) (v := ?_) (a' := ?_) #[true, true, true, true, true, true, true, true, true, true, false, false, true, true, true, true, true, false, false] rfl rfl (any_of HT_.out q6z7) (fun _ _ _ h => h) (Or.inl ⟨by rfl, ?_⟩) ?_ ?_; rotate_left
                                                  · intro w'
                                                    go_simp
                                                    with_reducible rfl
                                                  rotate_left
                                                  · simp only [Act.put, List.setIfInBounds_toArray, List.set_cons_zero, List.set_cons_succ, i64_w, i32_w]
                                                    rfl
                                                  exact norm_ q6z2 (hJ2_8_15_16 (v661) _ ⟨hHeld, q6z5, q6z1, q6z0⟩)
                                              · skip
                                                rintro v661 w60 ⟨hS_, h0_, h1_, h2_⟩; have n0_ : Aside0 (Kd.R (Kd.int .u8) 5 w60 wz.heap.size (fun _ => True) v661 y660) := ⟨h0_⟩; have n1_ : Aside0 (w60.heap[gb645]? = some (.cells #[.int .i64 ((rd_T42 l0 x15_1).f0), .int .i64 ((rd_T42 l0 x15_1).f1), .int .i64 ((rd_T42 l0 x15_1).f2), .string ((rd_T42 l0 x15_1).f3)] 42 (0, 0))) := ⟨h1_⟩; have n2_ : Aside0 (Below wz.heap.size wz w60) := ⟨h2_⟩; clear BK645; clear HB; clear h0_ h1_ h2_; have HO662 := n0_; have BK645 := n1_; have HB := n2_; clear n0_ n1_ n2_; have hHeld : w60.cell? ⟨gb645, 0, none⟩ = some (.int .i64 ((rd_T42 l0 x15_1).f0)) ∧ w60.cell? ⟨gb645, 1, none⟩ = some (.int .i64 ((rd_T42 l0 x15_1).f1)) ∧ w60.cell? ⟨gb645, 2, none⟩ = some (.int .i64 ((rd_T42 l0 x15_1).f2)) ∧ w60.cell? ⟨gb645, 3, none⟩ = some (.string ((rd_T42 l0 x15_1).f3)) := hS_; refine norm_ (a' := ?_) ?_ ?_; rotate_left
                                                · simp only [putAll, Act.put, List.setIfInBounds_toArray, List.set_cons_zero, List.set_cons_succ]
                                                  rfl
                                                refine two_ (i := 10) (j := 16) (Ni := some 66) (Nj := some 72) #[true, true, true, true, true, true, true, true, true, true, true, false, true, true, true, true, false, false, false] #[true, true, true, true, true, true, true, true, true, true, false, false, true, true, true, true, true, false, false] rfl rfl rfl rfl (two_of HT_.out q6z7) (by decide) (by decide) (fun K hK => ?_) (fun K hK => ?_)
                                                · skip
                                                  refine goes_ Try.func28 q6z7 rfl #[.int .i64 (wrap64 ((Int.tmod ((rd_T42 l0 x15_1).f1) t650) * t658)), .int .i64 3] (by rfl) rfl rfl q6z3 ?_; (with_reducible refine (impl_bytesOf.calls kj22 (wrap64 ((Int.tmod ((rd_T42 l0 x15_1).f1) t650) * t658)) 3 t659 _ A51.out).mono ?_); rintro e w61 ⟨rfl, hb⟩; refine ⟨_, rfl, ?_⟩; have n0_ := Aside0.mk (Kd.R_below q6z5 hb); have n1_ := Aside0.mk (blk_below (g := gb645) (o := .cells #[.int .i64 ((rd_T42 l0 x15_1).f0), .int .i64 ((rd_T42 l0 x15_1).f1), .int .i64 ((rd_T42 l0 x15_1).f2), .string ((rd_T42 l0 x15_1).f3)] 42 (0, 0)) q6z1 hb); have n2_ := Aside0.mk (below_step q6z0 hb); clear HO662; clear BK645; clear HB; have HO662 := n0_; have BK645 := n1_; have HB := n2_; clear n0_ n1_ n2_; (try clear hb); (try clear hb2); (try clear hk); (try clear hi); refine hK.out _ _ ⟨(blk_cell BK645.out 0).trans rfl, (blk_cell BK645.out 1).trans rfl, (blk_cell BK645.out 2).trans rfl, (blk_cell BK645.out 3).trans rfl⟩ (fun hHeld => ?_); clear hK K; refine norm_ (a' := ?_) ?_ ?_; rotate_left
                                                  · show Act.put _ (some 66) _ = _
                                                    simp only [Act.put, List.setIfInBounds_toArray, List.set_cons_zero, List.set_cons_succ, i64_w, i32_w]; rfl
                                                  refine pure_ (i := 11) (N := some 67) (v := ?_) (a' := ?_) #[true, true, true, true, true, true, true, true, true, true, true, true, true, true, true, true, false, false, false] rfl rfl (any_of HT_.out q6z7) (fun _ _ _ h => h) (Or.inl ⟨by rfl, ?_⟩) ?_ ?_; rotate_left
                                                  · intro w'
                                                    go_simp
                                                    with_reducible rfl
                                                  rotate_left
                                                  · simp only [Act.put, List.setIfInBounds_toArray, List.set_cons_zero, List.set_cons_succ, i64_w, i32_w]
                                                    rfl
                                                  exact norm_ q6z2 (hJ2_8_10_15 (v661) _ ⟨hHeld, q6z5, q6z1, q6z0⟩)
                                                · skip
                                                  have hcv61 := own_string (P := Try.prog) Try.underlying34 Try.underlying5 Try.underlying9 (Kd.own_of_R HO662.out); refine value_ (w1 := ?_) (v := ?_) (by rfl) rfl ?_ ?_; rotate_left 2
                                                  · go_simp
                                                    constructor
                                                    · rfl
                                                    · rfl
                                                  clear hcv61; refine hK.out _ _ ⟨(blk_cell BK645.out 0).trans rfl, (blk_cell BK645.out 1).trans rfl, (blk_cell BK645.out 2).trans rfl, (blk_cell BK645.out 3).trans rfl⟩ (fun hHeld => ?_); clear hK K; refine norm_ (a' := ?_) ?_ ?_; rotate_left
                                                  · show Act.put _ (some 72) _ = _
                                                    simp only [Act.put, List.setIfInBounds_toArray, List.set_cons_zero, List.set_cons_succ, i64_w, i32_w]; rfl
                                                  exact norm_ q6z2 (hJ2_8_15_16 (v661) _ ⟨hHeld, q6z5, q6z1, q6z0⟩)
                                            · skip
                                              rintro _ w59 ⟨hS_, h0_, h1_⟩; have n0_ : Aside0 (w59.heap[gb645]? = some (.cells #[.int .i64 ((rd_T42 l0 x15_1).f0), .int .i64 ((rd_T42 l0 x15_1).f1), .int .i64 ((rd_T42 l0 x15_1).f2), .string ((rd_T42 l0 x15_1).f3)] 42 (0, 0))) := ⟨h0_⟩; have n1_ : Aside0 (Below wz.heap.size wz w59) := ⟨h1_⟩; clear BK645; clear HB; clear h0_ h1_; have BK645 := n0_; have HB := n1_; clear n0_ n1_; have hHeld : w59.cell? ⟨gb645, 0, none⟩ = some (.int .i64 ((rd_T42 l0 x15_1).f0)) ∧ w59.cell? ⟨gb645, 1, none⟩ = some (.int .i64 ((rd_T42 l0 x15_1).f1)) ∧ w59.cell? ⟨gb645, 2, none⟩ = some (.int .i64 ((rd_T42 l0 x15_1).f2)) ∧ w59.cell? ⟨gb645, 3, none⟩ = some (.string ((rd_T42 l0 x15_1).f3)) := hS_; refine norm_ (a' := ?_) ?_ ?_; rotate_left
                                              · simp only [putAll, Act.put, List.setIfInBounds_toArray, List.set_cons_zero, List.set_cons_succ]
                                                rfl
                                              refine one_ (i := 15) (N := some 71) #[true, true, true, true, true, true, true, true, true, true, true, true, true, true, true, true, false, false, false] rfl rfl (one_of HT_.out q6z7) (by decide) (fun K hK => ?_); refine Kd.R_lit_step (Kd.int .u8) _ 5 ?hg (N := 71) ?hd (xs := ([(((rd_T42 l0 x15_1).f0)) % 256] : List Int)) (inner := [.int .u8 ((((rd_T42 l0 x15_1).f0)) % 256)]) (ok := fun _ => True) (okp := fun _ => True) ?hr ?hp (fun _ hk => hk) trivial (Below.refl _ _) (Nat.le_refl _) (by simp) ?_; (case hd => rfl); (case hg => rfl); (case hr => first | (go_simp; done) | (go_simp; rfl)); (case hp => exact (Reps.one (show Kd.M (Kd.int .u8) _ _ _ ((((rd_T42 l0 x15_1).f0)) % 256) [.int .u8 ((((rd_T42 l0 x15_1).f0)) % 256)] from rfl) (Reps.none _ _))); intro v661 w60 ho61 hb hg_ hnew_; clear hg_ hnew_; (first | rw [← Ny660.out] at ho61 | (simp only [Int.reduceToNat] at ho61; rw [← Ny660.out] at ho61)); have n0_ := Aside0.mk (Kd.R_lower ho61 (below_size q6z0)); have n1_ := Aside0.mk (blk_below (g := gb645) (o := .cells #[.int .i64 ((rd_T42 l0 x15_1).f0), .int .i64 ((rd_T42 l0 x15_1).f1), .int .i64 ((rd_T42 l0 x15_1).f2), .string ((rd_T42 l0 x15_1).f3)] 42 (0, 0)) q6z1 hb); have n2_ := Aside0.mk (below_step q6z0 hb); clear BK645; clear HB; have HO662 := n0_; have BK645 := n1_; have HB := n2_; clear n0_ n1_ n2_; clear hb ho61; refine hK.out _ _ ⟨(blk_cell BK645.out 0).trans rfl, (blk_cell BK645.out 1).trans rfl, (blk_cell BK645.out 2).trans rfl, (blk_cell BK645.out 3).trans rfl⟩ (fun hHeld => ?_); clear hK K; refine norm_ (a' := ?_) ?_ ?_; rotate_left
                                              · show Act.put _ (some 71) _ = _
                                                simp only [Act.put, List.setIfInBounds_toArray, List.set_cons_zero, List.set_cons_succ, i64_w, i32_w]; rfl
                                              exact norm_ q6z2 (hJ2_8_10_15 (v661) _ ⟨hHeld, q6z5, q6z1, q6z0⟩)
                                          · skip
                                            rintro v661 w61 ⟨hS_, h0_, h1_, h2_⟩; have n0_ : Aside0 (Kd.R (Kd.int .u8) 5 w61 wz.heap.size (fun _ => True) v661 y660) := ⟨h0_⟩; have n1_ : Aside0 (w61.heap[gb645]? = some (.cells #[.int .i64 ((rd_T42 l0 x15_1).f0), .int .i64 ((rd_T42 l0 x15_1).f1), .int .i64 ((rd_T42 l0 x15_1).f2), .string ((rd_T42 l0 x15_1).f3)] 42 (0, 0))) := ⟨h1_⟩; have n2_ : Aside0 (Below wz.heap.size wz w61) := ⟨h2_⟩; clear BK645; clear HB; clear h0_ h1_ h2_; have HO662 := n0_; have BK645 := n1_; have HB := n2_; clear n0_ n1_ n2_; have hHeld : w61.cell? ⟨gb645, 0, none⟩ = some (.int .i64 ((rd_T42 l0 x15_1).f0)) ∧ w61.cell? ⟨gb645, 1, none⟩ = some (.int .i64 ((rd_T42 l0 x15_1).f1)) ∧ w61.cell? ⟨gb645, 2, none⟩ = some (.int .i64 ((rd_T42 l0 x15_1).f2)) ∧ w61.cell? ⟨gb645, 3, none⟩ = some (.string ((rd_T42 l0 x15_1).f3)) := hS_; refine norm_ (a' := ?_) ?_ ?_; rotate_left
                                            · simp only [putAll, Act.put, List.setIfInBounds_toArray, List.set_cons_zero, List.set_cons_succ]
                                              rfl
                                            refine one_ (i := 10) (N := some 66) #[true, true, true, true, true, true, true, true, true, true, true, false, true, true, true, true, true, false, false] rfl rfl (one_of HT_.out q6z7) (by decide) (fun K hK => ?_); refine goes_ Try.func28 q6z7 rfl #[.int .i64 (wrap64 ((Int.tmod ((rd_T42 l0 x15_1).f1) t650) * t658)), .int .i64 3] (by rfl) rfl rfl q6z3 ?_; (with_reducible refine (impl_bytesOf.calls kj22 (wrap64 ((Int.tmod ((rd_T42 l0 x15_1).f1) t650) * t658)) 3 t659 _ A51.out).mono ?_); rintro e w62 ⟨rfl, hb⟩; refine ⟨_, rfl, ?_⟩; have n0_ := Aside0.mk (Kd.R_below q6z5 hb); have n1_ := Aside0.mk (blk_below (g := gb645) (o := .cells #[.int .i64 ((rd_T42 l0 x15_1).f0), .int .i64 ((rd_T42 l0 x15_1).f1), .int .i64 ((rd_T42 l0 x15_1).f2), .string ((rd_T42 l0 x15_1).f3)] 42 (0, 0)) q6z1 hb); have n2_ := Aside0.mk (below_step q6z0 hb); clear HO662; clear BK645; clear HB; have HO662 := n0_; have BK645 := n1_; have HB := n2_; clear n0_ n1_ n2_; (try clear hb); (try clear hb2); (try clear hk); (try clear hi); refine hK.out _ _ ⟨(blk_cell BK645.out 0).trans rfl, (blk_cell BK645.out 1).trans rfl, (blk_cell BK645.out 2).trans rfl, (blk_cell BK645.out 3).trans rfl⟩ (fun hHeld => ?_); clear hK K; refine norm_ (a' := ?_) ?_ ?_; rotate_left
                                            · show Act.put _ (some 66) _ = _
                                              simp only [Act.put, List.setIfInBounds_toArray, List.set_cons_zero, List.set_cons_succ, i64_w, i32_w]; rfl
                                            refine pure_ (i := 11) (N := some 67) (v := ?_) (a' := ?_) #[true, true, true, true, true, true, true, true, true, true, true, true, true, true, true, true, true, false, false] rfl rfl (any_of HT_.out q6z7) (fun _ _ _ h => h) (Or.inl ⟨by rfl, ?_⟩) ?_ ?_; rotate_left
                                            · intro w'
                                              go_simp
                                              with_reducible rfl
                                            rotate_left
                                            · simp only [Act.put, List.setIfInBounds_toArray, List.set_cons_zero, List.set_cons_succ, i64_w, i32_w]
                                              rfl
                                            exact norm_ q6z2 (hJ2_8_10_15_16 (v661) _ ⟨hHeld, q6z5, q6z1, q6z0⟩)
                                        · skip
                                          rintro v661 w61 ⟨hS_, h0_, h1_, h2_⟩; have n0_ : Aside0 (Kd.R (Kd.int .u8) 5 w61 wz.heap.size (fun _ => True) v661 y660) := ⟨h0_⟩; have n1_ : Aside0 (w61.heap[gb645]? = some (.cells #[.int .i64 ((rd_T42 l0 x15_1).f0), .int .i64 ((rd_T42 l0 x15_1).f1), .int .i64 ((rd_T42 l0 x15_1).f2), .string ((rd_T42 l0 x15_1).f3)] 42 (0, 0))) := ⟨h1_⟩; have n2_ : Aside0 (Below wz.heap.size wz w61) := ⟨h2_⟩; clear BK645; clear HB; clear h0_ h1_ h2_; have HO662 := n0_; have BK645 := n1_; have HB := n2_; clear n0_ n1_ n2_; have hHeld : w61.cell? ⟨gb645, 0, none⟩ = some (.int .i64 ((rd_T42 l0 x15_1).f0)) ∧ w61.cell? ⟨gb645, 1, none⟩ = some (.int .i64 ((rd_T42 l0 x15_1).f1)) ∧ w61.cell? ⟨gb645, 2, none⟩ = some (.int .i64 ((rd_T42 l0 x15_1).f2)) ∧ w61.cell? ⟨gb645, 3, none⟩ = some (.string ((rd_T42 l0 x15_1).f3)) := hS_; refine norm_ (a' := ?_) ?_ ?_; rotate_left
                                          · simp only [putAll, Act.put, List.setIfInBounds_toArray, List.set_cons_zero, List.set_cons_succ]
                                            rfl
                                          refine one_ (i := 16) (N := some 72) #[true, true, true, true, true, true, true, true, true, true, true, true, true, true, true, true, true, false, false] rfl rfl (one_of HT_.out q6z7) (by decide) (fun K hK => ?_); have hcv62 := own_string (P := Try.prog) Try.underlying34 Try.underlying5 Try.underlying9 (Kd.own_of_R HO662.out); refine value_ (w1 := ?_) (v := ?_) (by rfl) rfl ?_ ?_; rotate_left 2
                                          · go_simp
                                            constructor
                                            · rfl
                                            · rfl
                                          clear hcv62; refine hK.out _ _ ⟨(blk_cell BK645.out 0).trans rfl, (blk_cell BK645.out 1).trans rfl, (blk_cell BK645.out 2).trans rfl, (blk_cell BK645.out 3).trans rfl⟩ (fun hHeld => ?_); clear hK K; refine norm_ (a' := ?_) ?_ ?_; rotate_left
                                          · show Act.put _ (some 72) _ = _
                                            simp only [Act.put, List.setIfInBounds_toArray, List.set_cons_zero, List.set_cons_succ, i64_w, i32_w]; rfl
                                          exact norm_ q6z2 (hJ2_8_10_15_16 (v661) _ ⟨hHeld, q6z5, q6z1, q6z0⟩)
                                      rintro v661 w62 ⟨hS_, h0_, h1_, h2_⟩; have n0_ : Aside0 (Kd.R (Kd.int .u8) 5 w62 wz.heap.size (fun _ => True) v661 y660) := ⟨h0_⟩; have n1_ : Aside0 (w62.heap[gb645]? = some (.cells #[.int .i64 ((rd_T42 l0 x15_1).f0), .int .i64 ((rd_T42 l0 x15_1).f1), .int .i64 ((rd_T42 l0 x15_1).f2), .string ((rd_T42 l0 x15_1).f3)] 42 (0, 0))) := ⟨h1_⟩; have n2_ : Aside0 (Below wz.heap.size wz w62) := ⟨h2_⟩; clear BK645; clear HB; clear h0_ h1_ h2_; have HO662 := n0_; have BK645 := n1_; have HB := n2_; clear n0_ n1_ n2_; have hHeld : w62.cell? ⟨gb645, 0, none⟩ = some (.int .i64 ((rd_T42 l0 x15_1).f0)) ∧ w62.cell? ⟨gb645, 1, none⟩ = some (.int .i64 ((rd_T42 l0 x15_1).f1)) ∧ w62.cell? ⟨gb645, 2, none⟩ = some (.int .i64 ((rd_T42 l0 x15_1).f2)) ∧ w62.cell? ⟨gb645, 3, none⟩ = some (.string ((rd_T42 l0 x15_1).f3)) := hS_; refine norm_ (a' := ?_) ?_ ?_; rotate_left
                                      · simp only [putAll, Act.put, List.setIfInBounds_toArray, List.set_cons_zero, List.set_cons_succ]
                                        rfl
                                      refine pure_ (i := 17) (N := some 73) (v := ?_) (a' := ?_) #[true, true, true, true, true, true, true, true, true, true, true, true, true, true, true, true, true, true, false] rfl rfl (any_of HT_.out q6z7) (fun _ _ _ h => h) (Or.inl ⟨by rfl, ?_⟩) ?_ ?_; rotate_left
                                      · intro w'
                                        go_simp
                                        with_reducible rfl
                                      rotate_left
                                      · simp only [Act.put, List.setIfInBounds_toArray, List.set_cons_zero, List.set_cons_succ, i64_w, i32_w]
                                        rfl
                                      refine last_ (i := 18) (N := some 74) #[true, true, true, true, true, true, true, true, true, true, true, true, true, true, true, true, true, true, true] rfl rfl q6z7 (by decide) (fun K hK => ?_); refine goes_ Try.func26 q6z7 rfl #[.pointer (some ⟨w.heap.size, 0, none⟩), .string ((((⟨#[3]⟩ : ByteArray) ++ t657) ++ t659) ++ (strOfNums y660))] (by rfl) rfl rfl q6z3 ?_; (with_reducible refine (impl_KeyBytes.bld_write w.heap.size w.heap.size (Lib.byteCells x4_1.data.toList) ((((⟨#[3]⟩ : ByteArray) ++ t657) ++ t659) ++ (strOfNums y660)) _ (impl_KeyBytes.bld_isb HBD.out q6z0) (impl_KeyBytes.bld_len (by assumption)) (Nat.le_trans HBo.out.size (below_size q6z0))).mono ?_); rintro e w98 ⟨rfl, hbd, hb⟩; refine ⟨_, rfl, ?_⟩; have n0_ := Aside0.mk (show Lib.IsBuilder 52 5 w.heap.size w.heap.size (Lib.byteCells (x4_1 ++ ((((⟨#[3]⟩ : ByteArray) ++ t657) ++ t659) ++ (strOfNums y660))).data.toList) w98 from .inr (by rw [impl_KeyBytes.bld_app]; exact hbd)); have n1_ := Aside0.mk (HBo.out.trans (((show Below wz.heap.size wz _ from by repeat (first | (with_reducible first | exact HB.out | apply below_alloc | apply pw_below_drewN | apply below_drew1 | refine below_set ?_ GE645.out) | exact HB.out)).mono HBo.out.size).trans hb)); clear HBD; have HBD := n0_; have HBF := n1_; clear n0_ n1_; clear hb hbd; refine hK.out _ _ ?_; clear hK K; refine norm_ (a' := ?_) ?_ ?_; rotate_left
                                      · show Act.put _ (some 74) _ = _
                                        simp only [Act.put, List.setIfInBounds_toArray, List.set_cons_zero, List.set_cons_succ, i64_w, i32_w]; rfl
                                      refine done_ (done_of HT_.out q6z7) ?_
                                      try go_wp2
                                      go_roundg kj22
                                      case measure => have := HK1.out; have := HJ22.out; omega
                                      case rel => exact ⟨(x4_1 ++ ((((⟨#[3]⟩ : ByteArray) ++ t657) ++ t659) ++ (strOfNums y660))), (wrap64 (x15_1 + 1)), (by first | rfl | (simp; done) | (simp [*]; done)), H', ⟨by have := HK1.out; have := HJ22.out; omega⟩, HBD, HBF⟩
                                    · rw [if_neg c54] at H
                                      exact absurd H (by simp)
                                  · rw [if_neg c53] at H
                                    exact absurd H (by simp)
                                · rw [if_neg c52] at H
                                  exact absurd H (by simp)
                              · rw [if_neg c49] at H
                                exact absurd H (by simp)
                        · replace c29 := Bool.eq_false_iff.mpr c29
                          subst c29
                          have H1 : (if ((rd_T42 l0 x15_1).f0) = 4 then (if 1 + ((rd_T42 l0 x15_1).f3).size ≤ 9223372036854775807 then (if ((⟨#[4]⟩ : ByteArray) ++ ((rd_T42 l0 x15_1).f3)).size + 1 ≤ 9223372036854775807 then (if x4_1.size + (((⟨#[4]⟩ : ByteArray) ++ ((rd_T42 l0 x15_1).f3)) ++ (⟨#[0]⟩ : ByteArray)).size ≤ 140737488355328 then (impl_KeyBytes.l0 kj22 (x4_1 ++ (((⟨#[4]⟩ : ByteArray) ++ ((rd_T42 l0 x15_1).f3)) ++ (⟨#[0]⟩ : ByteArray))) l0 (l0.length : Int) (wrap64 (x15_1 + 1))) else (none)) else (none)) else (none)) else (if ((rd_T42 l0 x15_1).f0) = 5 then ((impl_bytesOf.f kj22 ((rd_T42 l0 x15_1).f1) 3).bind fun t663 => (if 1 + t663.size ≤ 9223372036854775807 then (if x4_1.size + ((⟨#[5]⟩ : ByteArray) ++ t663).size ≤ 140737488355328 then (impl_KeyBytes.l0 kj22 (x4_1 ++ ((⟨#[5]⟩ : ByteArray) ++ t663)) l0 (l0.length : Int) (wrap64 (x15_1 + 1))) else (none)) else (none))) else (impl_KeyBytes.l0 kj22 x4_1 l0 (l0.length : Int) (wrap64 (x15_1 + 1))))) = some (r1, r2) := by rw [if_neg (show ¬ (false = true) by decide)] at H; exact H
                          clear H; have H := H1; clear H1
                          by_cases c63 : ((rd_T42 l0 x15_1).f0) = 4
                          · rw [if_pos c63] at H
                            have c63b0 : (((rd_T42 l0 x15_1).f0) == 4) = true := beq_iff_eq.mpr c63; have c63b1 : (((rd_T42 l0 x15_1).f0) != 4) = false := bne_eq_false_iff_eq.mpr c63; clear c63
                            by_cases c64 : 1 + ((rd_T42 l0 x15_1).f3).size ≤ 9223372036854775807
                            · rw [if_pos c64] at H
                              have c64b0 := eq_true c64; have c64b1 : decide (1 + ((rd_T42 l0 x15_1).f3).size ≤ 9223372036854775807) = true := decide_eq_true c64
                              try have c64b2 : (9223372036854775807 < 1 + ((rd_T42 l0 x15_1).f3).size) = False := eq_false (Nat.not_lt.2 c64)
                              try (have c64b3 := c64b2; simp only [ByteArray.size_append] at c64b3)
                              try (have c64b6 := c64b2; simp only [ByteArray.size_append, x6_sz_lit1] at c64b6)
                              by_cases c65 : ((⟨#[4]⟩ : ByteArray) ++ ((rd_T42 l0 x15_1).f3)).size + 1 ≤ 9223372036854775807
                              · rw [if_pos c65] at H
                                have c65b0 := eq_true c65; have c65b1 : decide (((⟨#[4]⟩ : ByteArray) ++ ((rd_T42 l0 x15_1).f3)).size + 1 ≤ 9223372036854775807) = true := decide_eq_true c65
                                try have c65b2 : (9223372036854775807 < ((⟨#[4]⟩ : ByteArray) ++ ((rd_T42 l0 x15_1).f3)).size + 1) = False := eq_false (Nat.not_lt.2 c65)
                                try (have c65b3 := c65b2; simp only [ByteArray.size_append] at c65b3)
                                try (have c65b6 := c65b2; simp only [ByteArray.size_append, x6_sz_lit1] at c65b6)
                                by_cases c66 : x4_1.size + (((⟨#[4]⟩ : ByteArray) ++ ((rd_T42 l0 x15_1).f3)) ++ (⟨#[0]⟩ : ByteArray)).size ≤ 140737488355328
                                · rw [if_pos c66] at H
                                  have c66b0 := eq_true c66; have c66b1 : decide (x4_1.size + (((⟨#[4]⟩ : ByteArray) ++ ((rd_T42 l0 x15_1).f3)) ++ (⟨#[0]⟩ : ByteArray)).size ≤ 140737488355328) = true := decide_eq_true c66
                                  try have c66b2 : (140737488355328 < x4_1.size + (((⟨#[4]⟩ : ByteArray) ++ ((rd_T42 l0 x15_1).f3)) ++ (⟨#[0]⟩ : ByteArray)).size) = False := eq_false (Nat.not_lt.2 c66)
                                  try (have c66b3 := c66b2; simp only [ByteArray.size_append] at c66b3)
                                  try (have c66b6 := c66b2; simp only [ByteArray.size_append, x6_sz_lit1] at c66b6)
                                  have H' := Aside0.mk H; clear H; have hcz67_0 : wc.cell? ⟨gb645, 0, none⟩ = some (.int .i64 ((rd_T42 l0 x15_1).f0)) := (blk_cell BK645.out 0).trans rfl; have hcz67_1 : wc.cell? ⟨gb645, 1, none⟩ = some (.int .i64 ((rd_T42 l0 x15_1).f1)) := (blk_cell BK645.out 1).trans rfl; have hcz67_2 : wc.cell? ⟨gb645, 2, none⟩ = some (.int .i64 ((rd_T42 l0 x15_1).f2)) := (blk_cell BK645.out 2).trans rfl; have hcz67_3 : wc.cell? ⟨gb645, 3, none⟩ = some (.string ((rd_T42 l0 x15_1).f3)) := (blk_cell BK645.out 3).trans rfl; have hfz67_0 := blk_frozen BK645.out 0; have hfz67_1 := blk_frozen BK645.out 1; have hfz67_2 := blk_frozen BK645.out 2; have hfz67_3 := blk_frozen BK645.out 3
                                  go_wp2_with (first | ((with_reducible refine gate_callee (f := 26) rfl ?_); refine goesL_ (some 81) rfl rfl Try.func26 q6z7 rfl #[.pointer (some ⟨w.heap.size, 0, none⟩), .string (((⟨#[4]⟩ : ByteArray) ++ ((rd_T42 l0 x15_1).f3)) ++ (⟨#[0]⟩ : ByteArray))] rfl q6z3 ?_; (with_reducible refine (impl_KeyBytes.bld_write w.heap.size w.heap.size (Lib.byteCells x4_1.data.toList) (((⟨#[4]⟩ : ByteArray) ++ ((rd_T42 l0 x15_1).f3)) ++ (⟨#[0]⟩ : ByteArray)) _ (impl_KeyBytes.bld_isb HBD.out q6z0) (impl_KeyBytes.bld_len (by assumption)) (Nat.le_trans HBo.out.size (below_size q6z0))).mono ?_); rintro e w98 ⟨rfl, hbd, hb⟩; refine ⟨_, rfl, ?_⟩; have n0_ := Aside0.mk (show Lib.IsBuilder 52 5 w.heap.size w.heap.size (Lib.byteCells (x4_1 ++ (((⟨#[4]⟩ : ByteArray) ++ ((rd_T42 l0 x15_1).f3)) ++ (⟨#[0]⟩ : ByteArray))).data.toList) w98 from .inr (by rw [impl_KeyBytes.bld_app]; exact hbd)); have n1_ := Aside0.mk (HBo.out.trans (((show Below wz.heap.size wz _ from by repeat (first | (with_reducible first | exact HB.out | apply below_alloc | apply pw_below_drewN | apply below_drew1 | refine below_set ?_ GE645.out) | exact HB.out)).mono HBo.out.size).trans hb)); clear HBD; have HBD := n0_; have HBF := n1_; clear n0_ n1_; clear hb hbd))
                                  go_roundg kj22
                                  case measure => have := HK1.out; have := HJ22.out; omega
                                  case rel => exact ⟨(x4_1 ++ (((⟨#[4]⟩ : ByteArray) ++ ((rd_T42 l0 x15_1).f3)) ++ (⟨#[0]⟩ : ByteArray))), (wrap64 (x15_1 + 1)), (by first | rfl | (simp; done) | (simp [*]; done)), H', ⟨by have := HK1.out; have := HJ22.out; omega⟩, HBD, HBF⟩
                                · rw [if_neg c66] at H
                                  exact absurd H (by simp)
                              · rw [if_neg c65] at H
                                exact absurd H (by simp)
                            · rw [if_neg c64] at H
                              exact absurd H (by simp)
                          · rw [if_neg c63] at H
                            have c63b0 : (((rd_T42 l0 x15_1).f0) == 4) = false := beq_eq_false_iff_ne.mpr c63; have c63b1 : (((rd_T42 l0 x15_1).f0) != 4) = true := bne_iff_ne.mpr c63
                            by_cases c68 : ((rd_T42 l0 x15_1).f0) = 5
                            · rw [if_pos c68] at H
                              have c68b0 : (((rd_T42 l0 x15_1).f0) == 5) = true := beq_iff_eq.mpr c68; have c68b1 : (((rd_T42 l0 x15_1).f0) != 5) = false := bne_eq_false_iff_eq.mpr c68; clear c68; replace H := Option.bind_eq_some_iff.mp H; obtain ⟨t663, A690, H⟩ := H; replace H : (if 1 + t663.size ≤ 9223372036854775807 then (if x4_1.size + ((⟨#[5]⟩ : ByteArray) ++ t663).size ≤ 140737488355328 then (impl_KeyBytes.l0 kj22 (x4_1 ++ ((⟨#[5]⟩ : ByteArray) ++ t663)) l0 (l0.length : Int) (wrap64 (x15_1 + 1))) else (none)) else (none)) = some (r1, r2) := H; have A69 := Aside0.mk A690; clear A690
                              by_cases c70 : 1 + t663.size ≤ 9223372036854775807
                              · rw [if_pos c70] at H
                                have c70b0 := eq_true c70; have c70b1 : decide (1 + t663.size ≤ 9223372036854775807) = true := decide_eq_true c70
                                try have c70b2 : (9223372036854775807 < 1 + t663.size) = False := eq_false (Nat.not_lt.2 c70)
                                try (have c70b3 := c70b2; simp only [ByteArray.size_append] at c70b3)
                                try (have c70b6 := c70b2; simp only [ByteArray.size_append, x6_sz_lit1] at c70b6)
                                by_cases c71 : x4_1.size + ((⟨#[5]⟩ : ByteArray) ++ t663).size ≤ 140737488355328
                                · rw [if_pos c71] at H
                                  have c71b0 := eq_true c71; have c71b1 : decide (x4_1.size + ((⟨#[5]⟩ : ByteArray) ++ t663).size ≤ 140737488355328) = true := decide_eq_true c71
                                  try have c71b2 : (140737488355328 < x4_1.size + ((⟨#[5]⟩ : ByteArray) ++ t663).size) = False := eq_false (Nat.not_lt.2 c71)
                                  try (have c71b3 := c71b2; simp only [ByteArray.size_append] at c71b3)
                                  try (have c71b6 := c71b2; simp only [ByteArray.size_append, x6_sz_lit1] at c71b6)
                                  have H' := Aside0.mk H; clear H; have hcz72_0 : wc.cell? ⟨gb645, 0, none⟩ = some (.int .i64 ((rd_T42 l0 x15_1).f0)) := (blk_cell BK645.out 0).trans rfl; have hcz72_1 : wc.cell? ⟨gb645, 1, none⟩ = some (.int .i64 ((rd_T42 l0 x15_1).f1)) := (blk_cell BK645.out 1).trans rfl; have hcz72_2 : wc.cell? ⟨gb645, 2, none⟩ = some (.int .i64 ((rd_T42 l0 x15_1).f2)) := (blk_cell BK645.out 2).trans rfl; have hcz72_3 : wc.cell? ⟨gb645, 3, none⟩ = some (.string ((rd_T42 l0 x15_1).f3)) := (blk_cell BK645.out 3).trans rfl; have hfz72_0 := blk_frozen BK645.out 0; have hfz72_1 := blk_frozen BK645.out 1; have hfz72_2 := blk_frozen BK645.out 2; have hfz72_3 := blk_frozen BK645.out 3
                                  go_wp2_with (first | ((with_reducible refine gate_callee (f := 28) rfl ?_); refine goesL_ (some 86) rfl rfl Try.func28 q6z7 rfl #[.int .i64 ((rd_T42 l0 x15_1).f1), .int .i64 3] rfl q6z3 ?_; (with_reducible refine (impl_bytesOf.calls kj22 ((rd_T42 l0 x15_1).f1) 3 t663 _ A69.out).mono ?_); rintro e w73 ⟨rfl, hb⟩; refine ⟨_, rfl, ?_⟩; have n0_ := Aside0.mk (blk_below (g := gb645) (o := .cells #[.int .i64 ((rd_T42 l0 x15_1).f0), .int .i64 ((rd_T42 l0 x15_1).f1), .int .i64 ((rd_T42 l0 x15_1).f2), .string ((rd_T42 l0 x15_1).f3)] 42 (0, 0)) q6z1 hb); have n1_ := Aside0.mk (below_step q6z0 hb); clear BK645; clear HB; have BK645 := n0_; have HB := n1_; clear n0_ n1_; (try clear hb); (try clear hb2); (try clear hk); (try clear hi)) | ((with_reducible refine gate_callee (f := 26) rfl ?_); refine goesL_ (some 88) rfl rfl Try.func26 q6z7 rfl #[.pointer (some ⟨w.heap.size, 0, none⟩), .string ((⟨#[5]⟩ : ByteArray) ++ t663)] rfl q6z3 ?_; (with_reducible refine (impl_KeyBytes.bld_write w.heap.size w.heap.size (Lib.byteCells x4_1.data.toList) ((⟨#[5]⟩ : ByteArray) ++ t663) _ (impl_KeyBytes.bld_isb HBD.out q6z0) (impl_KeyBytes.bld_len (by assumption)) (Nat.le_trans HBo.out.size (below_size q6z0))).mono ?_); rintro e w98 ⟨rfl, hbd, hb⟩; refine ⟨_, rfl, ?_⟩; have n0_ := Aside0.mk (show Lib.IsBuilder 52 5 w.heap.size w.heap.size (Lib.byteCells (x4_1 ++ ((⟨#[5]⟩ : ByteArray) ++ t663)).data.toList) w98 from .inr (by rw [impl_KeyBytes.bld_app]; exact hbd)); have n1_ := Aside0.mk (HBo.out.trans (((show Below wz.heap.size wz _ from by repeat (first | (with_reducible first | exact HB.out | apply below_alloc | apply pw_below_drewN | apply below_drew1 | refine below_set ?_ GE645.out) | exact HB.out)).mono HBo.out.size).trans hb)); clear HBD; have HBD := n0_; have HBF := n1_; clear n0_ n1_; clear hb hbd))
                                  go_roundg kj22
                                  case measure => have := HK1.out; have := HJ22.out; omega
                                  case rel => exact ⟨(x4_1 ++ ((⟨#[5]⟩ : ByteArray) ++ t663)), (wrap64 (x15_1 + 1)), (by first | rfl | (simp; done) | (simp [*]; done)), H', ⟨by have := HK1.out; have := HJ22.out; omega⟩, HBD, HBF⟩
                                · rw [if_neg c71] at H
                                  exact absurd H (by simp)
                              · rw [if_neg c70] at H
                                exact absurd H (by simp)
                            · rw [if_neg c68] at H
                              have c68b0 : (((rd_T42 l0 x15_1).f0) == 5) = false := beq_eq_false_iff_ne.mpr c68; have c68b1 : (((rd_T42 l0 x15_1).f0) != 5) = true := bne_iff_ne.mpr c68; have H' := Aside0.mk H; clear H
                              go_wp2
                              go_roundg kj22
                              case measure => have := HK1.out; have := HJ22.out; omega
                              case rel => exact ⟨(x4_1), (wrap64 (x15_1 + 1)), (by first | rfl | (simp; done) | (simp [*]; done)), H', ⟨by have := HK1.out; have := HJ22.out; omega⟩, ⟨impl_KeyBytes.bld_isb HBD.out q6z0⟩, ⟨HBo.out.trans ((show Below wz.heap.size wz _ from by repeat (first | (with_reducible first | exact HB.out | apply below_alloc | apply pw_below_drewN | apply below_drew1 | refine below_set ?_ GE645.out) | exact HB.out)).mono HBo.out.size)⟩⟩
              · replace c7 := Bool.eq_false_iff.mpr c7
                subst c7
                have H1 : (some ((⟨#[]⟩ : ByteArray), 1)) = some (r1, r2) := by rw [if_neg (show ¬ (false = true) by decide)] at H; exact H
                clear H; have H := H1; clear H1; simp only [Option.some.injEq, Prod.mk.injEq] at H; obtain ⟨rfl, rfl⟩ := H; have p644 : 0 ≤ (x15_1 : Int) := of_decide_eq_true (by first | (with_reducible assumption) | assumption); have q644 : x15_1 < (l0.length : Int) := of_decide_eq_true (by first | (with_reducible assumption) | assumption); obtain ⟨ad644, e644, hx644_0, hx644_1, hx644_2, hx644_3⟩ := at_T42 HR0.out x15_1 p644 q644; cases e644; replace hx644_0 := (HB.out.cell (World.block_lt_of_cell? wz _ hx644_0)).trans hx644_0; replace hx644_1 := (HB.out.cell (World.block_lt_of_cell? wz _ hx644_1)).trans hx644_1; replace hx644_2 := (HB.out.cell (World.block_lt_of_cell? wz _ hx644_2)).trans hx644_2; replace hx644_3 := (HB.out.cell (World.block_lt_of_cell? wz _ hx644_3)).trans hx644_3; replace p644 := eq_true p644; replace q644 := eq_true q644
                go_wp2_with (first | ((with_reducible refine gate_dst (N := 6) rfl ?_); refine boxst_event ?hg (N := 6) ?hd ?hg2 ?hn2 ?ho2 (cs := #[.int .i64 ((rd_T42 l0 x15_1).f0), .int .i64 ((rd_T42 l0 x15_1).f1), .int .i64 ((rd_T42 l0 x15_1).f2), .string ((rd_T42 l0 x15_1).f3)]) (zs := #[.int .i64 0, .int .i64 0, .int .i64 0, .string (⟨#[]⟩ : ByteArray)]) (t := 42) ?hr ?hr2 ?_; (case hd => rfl); (case hg => rfl); (case hg2 => rfl); (case hn2 => rfl); (case ho2 => exact ⟨_, rfl⟩); (case hr => first | (go_simp; done) | (go_simp; rfl)); (case hr2 => first | (go_simp; done) | (go_simp; rfl)); intro gb645 hg w74 hbox hb; have n0_ := Aside0.mk (below_step q6z6 hb); have n1_ := Aside0.mk (hbox); have n2_ := Aside0.mk ((by rw [hg]; exact (below_size q6z6) : wz.heap.size ≤ gb645)); have n3_ := Aside0.mk ((by rw [hg]; exact (below_size q6z6) : wz.heap.size ≤ gb645)); clear HB; have HB := n0_; have BK645 := n1_; have GW645 := n2_; have GE645 := n3_; clear n0_ n1_ n2_ n3_; clear hb hbox hg; have hcz75_0 : w74.cell? ⟨gb645, 0, none⟩ = some (.int .i64 ((rd_T42 l0 x15_1).f0)) := (blk_cell BK645.out 0).trans rfl; have hcz75_1 : w74.cell? ⟨gb645, 1, none⟩ = some (.int .i64 ((rd_T42 l0 x15_1).f1)) := (blk_cell BK645.out 1).trans rfl; have hcz75_2 : w74.cell? ⟨gb645, 2, none⟩ = some (.int .i64 ((rd_T42 l0 x15_1).f2)) := (blk_cell BK645.out 2).trans rfl; have hcz75_3 : w74.cell? ⟨gb645, 3, none⟩ = some (.string ((rd_T42 l0 x15_1).f3)) := (blk_cell BK645.out 3).trans rfl; have hfz75_0 := blk_frozen BK645.out 0; have hfz75_1 := blk_frozen BK645.out 1; have hfz75_2 := blk_frozen BK645.out 2; have hfz75_3 := blk_frozen BK645.out 3) | ((with_reducible refine gate_callee (f := 24) rfl ?_); refine goesL_ (some 20) rfl rfl Try.func24 q6z7 rfl #[.agg #[.int .i64 ((rd_T42 l0 x15_1).f0), .int .i64 ((rd_T42 l0 x15_1).f1), .int .i64 ((rd_T42 l0 x15_1).f2), .string ((rd_T42 l0 x15_1).f3)]] rfl q6z3 ?_; (with_reducible refine (impl_ValueOK.calls k1 ((rd_T42 l0 x15_1).f0) ((rd_T42 l0 x15_1).f1) ((rd_T42 l0 x15_1).f2) ((rd_T42 l0 x15_1).f3) false _ A6.out).mono ?_); rintro e w76 ⟨rfl, hb⟩; refine ⟨_, rfl, ?_⟩; have n0_ := Aside0.mk (blk_below (g := gb645) (o := .cells #[.int .i64 ((rd_T42 l0 x15_1).f0), .int .i64 ((rd_T42 l0 x15_1).f1), .int .i64 ((rd_T42 l0 x15_1).f2), .string ((rd_T42 l0 x15_1).f3)] 42 (0, 0)) q6z1 hb); have n1_ := Aside0.mk (below_step q6z0 hb); clear BK645; clear HB; have BK645 := n0_; have HB := n1_; clear n0_ n1_; (try clear hb); (try clear hb2); (try clear hk); (try clear hi)))
                go_ret2
                exact ⟨by first | rfl | (simp [errW_none, errW_some] <;> rfl) | (simp [*, errW_none, errW_some] <;> rfl), HBo.out.trans ((show Below wz.heap.size wz _ from by repeat (first | (with_reducible first | exact HB.out | apply below_alloc | apply pw_below_drewN | apply below_drew1 | refine below_set ?_ GE645.out) | exact HB.out)).mono HBo.out.size)⟩
            · rw [if_neg c5] at H
              exact absurd H (by simp)
          · rw [if_neg c4] at H
            exact absurd H (by simp)
        · rw [if_neg c3] at H
          have c3b0 : decide (x15_1 < (l0.length : Int)) = false := decide_eq_false c3; clear c3; simp only [Option.some.injEq, Prod.mk.injEq] at H; obtain ⟨rfl, rfl⟩ := H
          go_wp2_with (first | ((with_reducible refine gate_callee (f := 29) rfl ?_); refine goesL_ (some 90) rfl rfl Try.func29 q6z7 rfl #[.pointer (some ⟨w.heap.size, 0, none⟩)] rfl q6z3 ?_; (with_reducible refine (impl_KeyBytes.bld_text w.heap.size w.heap.size x4_1.data.toList _ (impl_KeyBytes.bld_isb HBD.out q6z0) (Nat.le_trans HBo.out.size (below_size q6z0))).mono ?_); rintro e w99 ⟨rfl, hb⟩; refine ⟨_, rfl, ?_⟩; have HBF := Aside0.mk (HBo.out.trans (((show Below wz.heap.size wz _ from by repeat (first | (with_reducible first | exact HB.out | apply below_alloc | apply pw_below_drewN | apply below_drew1 | refine below_set ?_ GE645.out) | exact HB.out)).mono HBo.out.size).trans hb)); clear hb))
          go_ret2
          exact ⟨rfl, HBF.out⟩

end Go.Proofs.Ytjplogeifleojaa.QFnExactKeyBytes
