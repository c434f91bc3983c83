/- A run of a disk as a plain run over records: the reference's and the program's runs come to it. No condition but on the number of operations. -/
import Derived.Test.YtnicllekmkkhlaaDkS
import Derived.Test.YtnicllekmkkhlaaQFnDiskSafex12
namespace Go.Proofs.Ytnicllekmkkhlaa.QFnDiskSafeK
set_option linter.unusedVariables false
set_option linter.unusedSimpArgs false
open Go.RowKit Go.Proofs.Ytnicllekmkkhlaa.QFnDiskSafe Go.Proofs.YtnicllekmkkhlaaW.PrintWords Go.Proofs.YtnicllekmkkhlaaW.PrintMore Go.Proofs.YtnicllekmkkhlaaU Go.Proofs.Ytnicllekmkkhlaa.QFnDiskSafeB
/-- The disk: the records whose frames lie on it or wait for it, how many are synced, how many of the frames' bytes are safe, is it up. -/
structure St where
  l : List S45
  s : Nat
  c : Nat
  up : Bool
instance (r : S45) : Decidable (Rok r) := by unfold Rok; infer_instance
def Bad (o : S56) : Prop := o.f0 < 1 ∨ o.f0 > 4 ∨ (o.f0 = 1 ∧ ¬ Rok o.f1)
instance (o : S56) : Decidable (Bad o) := by unfold Bad; infer_instance
def clamp (n : Int) (m : Nat) : Nat := min n.toNat m
def opened (σ : St) : S54 × St := (⟨0, (whole σ.l σ.c : Nat), σ.l.take (whole σ.l σ.c)⟩, ⟨σ.l.take (whole σ.l σ.c), whole σ.l σ.c, tot (σ.l.take (whole σ.l σ.c)), true⟩)
def step (σ : St) (o : S56) : S54 × St :=
  if Bad o then (⟨1, 0, []⟩, σ)
  else if o.f0 = 4 then opened σ
  else if σ.up = false then (⟨11, 0, []⟩, σ)
  else if o.f0 = 1 then (if σ.l.length ≥ 300 then (⟨9, 0, []⟩, σ) else (⟨0, (σ.l.length : Nat), []⟩, ⟨σ.l ++ [o.f1], σ.s, σ.c, true⟩))
  else if o.f0 = 2 then (⟨0, 0, []⟩, ⟨σ.l, σ.l.length, tot σ.l, true⟩)
  else (⟨0, 0, []⟩, ⟨σ.l, σ.s, σ.c + clamp o.f2 (tot σ.l - σ.c), false⟩)
def run : St → List S56 → List S54
  | _, [] => []
  | σ, o :: r => (step σ o).1 :: run (step σ o).2 r
theorem run_len : ∀ (r : List S56) (σ : St), (run σ r).length = r.length
  | [], _ => rfl
  | o :: r, σ => by simp only [run, List.length_cons, run_len r]
structure Inv (σ : St) : Prop where
  ok : ∀ x ∈ σ.l, Rok x
  len : σ.l.length ≤ 300
  syn : σ.s ≤ σ.l.length
  lo : tot (σ.l.take σ.s) ≤ σ.c
  hi : σ.c ≤ tot σ.l
theorem Inv.bytes {σ : St} (h : Inv σ) : tot σ.l ≤ 603900 := by have := tot_le σ.l h.ok; have := h.len; omega
theorem Inv.opened {σ : St} (h : Inv σ) : Inv (opened σ).2 := by
  have hm := whole_le σ.l σ.c
  have e : (σ.l.take (whole σ.l σ.c)).length = whole σ.l σ.c := by rw [List.length_take]; omega
  exact ⟨fun x hx => h.ok x (List.mem_of_mem_take hx), by show (σ.l.take (whole σ.l σ.c)).length ≤ 300; have := h.len; omega, by show whole σ.l σ.c ≤ (σ.l.take (whole σ.l σ.c)).length; omega, tot_take _ _, Nat.le_refl _⟩
theorem Inv.append {σ : St} (h : Inv σ) (x : S45) (hx : Rok x) (hl : σ.l.length < 300) (u : Bool) : Inv ⟨σ.l ++ [x], σ.s, σ.c, u⟩ := by
  refine ⟨fun y hy => ?_, ?_, ?_, ?_, ?_⟩
  · rcases List.mem_append.1 hy with q | q
    · exact h.ok y q
    · rw [List.mem_singleton.1 q]; exact hx
  · show (σ.l ++ [x]).length ≤ 300
    rw [List.length_append, List.length_singleton]; omega
  · show σ.s ≤ (σ.l ++ [x]).length
    have := h.syn; rw [List.length_append]; omega
  · show tot ((σ.l ++ [x]).take σ.s) ≤ σ.c
    rw [List.take_append_of_le_length h.syn]; exact h.lo
  · show σ.c ≤ tot (σ.l ++ [x])
    have := h.hi; rw [tot_snoc]; omega
theorem Inv.sync {σ : St} (h : Inv σ) (u : Bool) : Inv ⟨σ.l, σ.l.length, tot σ.l, u⟩ := ⟨h.ok, h.len, Nat.le_refl _, by show tot (σ.l.take σ.l.length) ≤ tot σ.l; exact tot_take _ _, Nat.le_refl _⟩
theorem Inv.crash {σ : St} (h : Inv σ) (n : Nat) (hn : n ≤ tot σ.l - σ.c) (u : Bool) : Inv ⟨σ.l, σ.s, σ.c + n, u⟩ := ⟨h.ok, h.len, h.syn, by show tot (σ.l.take σ.s) ≤ σ.c + n; have := h.lo; omega, by show σ.c + n ≤ tot σ.l; have := h.hi; omega⟩
theorem clamp_le (n : Int) (m : Nat) : clamp n m ≤ m := Nat.min_le_right _ _
theorem Inv.step {σ : St} (h : Inv σ) (o : S56) : Inv (step σ o).2 := by
  unfold QFnDiskSafeK.step
  by_cases hb : Bad o
  · rw [if_pos hb]; exact h
  · rw [if_neg hb]
    by_cases k4 : o.f0 = 4
    · rw [if_pos k4]; exact h.opened
    · rw [if_neg k4]
      by_cases hu : σ.up = false
      · rw [if_pos hu]; exact h
      · rw [if_neg hu]
        by_cases k1 : o.f0 = 1
        · rw [if_pos k1]
          by_cases hl : σ.l.length ≥ 300
          · rw [if_pos hl]; exact h
          · rw [if_neg hl]
            exact h.append o.f1 (Decidable.byContradiction fun q => hb (.inr (.inr ⟨k1, q⟩))) (by omega) _
        · rw [if_neg k1]
          by_cases k2 : o.f0 = 2
          · rw [if_pos k2]; exact h.sync _
          · rw [if_neg k2]; exact h.crash _ (clamp_le _ _) _
/-- What the run's own variables hold. -/
structure Rep (σ : St) (safe loose : ByteArray) (next : Int) : Prop where
  inv : Inv σ
  ex : ∃ fs, Frs 0 σ.l fs ∧ safe = ba (fs.flatten.take σ.c) ∧ (σ.up = true → loose = ba (fs.flatten.drop σ.c) ∧ next = ((σ.l.length : Nat) : Int))
theorem Rep.size {σ : St} {safe loose : ByteArray} {next : Int} (h : Rep σ safe loose next) : safe.size = σ.c := by
  obtain ⟨fs, hF, hs, _⟩ := h.ex
  rw [hs, ba_size, List.length_take, hF.len]
  have := h.inv.hi
  omega
theorem Rep.lsize {σ : St} {safe loose : ByteArray} {next : Int} (h : Rep σ safe loose next) (hu : σ.up = true) : loose.size = tot σ.l - σ.c := by
  obtain ⟨fs, hF, hs, hl⟩ := h.ex
  rw [(hl hu).1, ba_size, List.length_drop, hF.len]
theorem Rep.opened {σ : St} {safe loose : ByteArray} {next : Int} (h : Rep σ safe loose next) : Rep (opened σ).2 (safe.extract 0 (((0 + tot (σ.l.take (whole σ.l σ.c)) : Nat) : Int)).toNat) (⟨#[]⟩ : ByteArray) (((σ.l.take (whole σ.l σ.c)).length : Nat) : Int) := by
  have ht := whole_tot σ.l σ.c
  refine ⟨h.inv.opened, ?_⟩
  obtain ⟨fs, hF, hs, _⟩ := h.ex
  refine ⟨fs.take (whole σ.l σ.c), hF.take _, ?_, fun _ => ⟨?_, rfl⟩⟩
  · show safe.extract 0 (((0 + tot (σ.l.take (whole σ.l σ.c)) : Nat) : Int)).toNat = ba ((fs.take (whole σ.l σ.c)).flatten.take (tot (σ.l.take (whole σ.l σ.c))))
    rw [Int.toNat_natCast, Nat.zero_add, hs, ba_extract, List.drop_zero, Nat.sub_zero, List.take_take, hF.flat_take, List.take_take, Nat.min_eq_left ht, Nat.min_self]
  · show (⟨#[]⟩ : ByteArray) = ba ((fs.take (whole σ.l σ.c)).flatten.drop (tot (σ.l.take (whole σ.l σ.c))))
    rw [List.drop_of_length_le (by rw [(hF.take _).len]; exact Nat.le_refl _)]
    rfl
theorem Rep.append {σ : St} {safe loose : ByteArray} {next : Int} (h : Rep σ safe loose next) (hu : σ.up = true) (x : S45) (hx : Rok x) (hl : σ.l.length < 300) (f : List UInt8) (hf : Fr ((σ.l.length : Nat) : Int) x.f0 x.f1.data.toList f) :
    Rep ⟨σ.l ++ [x], σ.s, σ.c, true⟩ safe (loose ++ ba f) (((σ.l.length : Nat) : Int) + 1) := by
  refine ⟨h.inv.append x hx hl _, ?_⟩
  obtain ⟨fs, hF, hs, hlo⟩ := h.ex
  have hc := h.inv.hi
  have hlen := hF.len
  refine ⟨fs ++ [f], hF.snoc (by rw [Int.zero_add]; exact hf), ?_, fun _ => ⟨?_, ?_⟩⟩
  · show safe = ba ((fs ++ [f]).flatten.take σ.c)
    rw [List.flatten_append, List.take_append_of_le_length (by omega)]; exact hs
  · show loose ++ ba f = ba ((fs ++ [f]).flatten.drop σ.c)
    rw [List.flatten_append, List.drop_append_of_le_length (by omega), (hlo hu).1, ba_append]
    simp
  · show ((σ.l.length : Nat) : Int) + 1 = (((σ.l ++ [x]).length : Nat) : Int)
    rw [List.length_append, List.length_singleton]; omega
theorem Rep.sync {σ : St} {safe loose : ByteArray} {next : Int} (h : Rep σ safe loose next) (hu : σ.up = true) : Rep ⟨σ.l, σ.l.length, tot σ.l, true⟩ (safe ++ loose) (⟨#[]⟩ : ByteArray) next := by
  refine ⟨h.inv.sync _, ?_⟩
  obtain ⟨fs, hF, hs, hlo⟩ := h.ex
  have hlen := hF.len
  refine ⟨fs, hF, ?_, fun _ => ⟨?_, (hlo hu).2⟩⟩
  · show safe ++ loose = ba (fs.flatten.take (tot σ.l))
    rw [hs, (hlo hu).1, ba_append, List.take_append_drop, List.take_of_length_le (by omega)]
  · show (⟨#[]⟩ : ByteArray) = ba (fs.flatten.drop (tot σ.l))
    rw [List.drop_of_length_le (by omega)]
    rfl
theorem Rep.crash {σ : St} {safe loose : ByteArray} {next : Int} (h : Rep σ safe loose next) (hu : σ.up = true) (n : Nat) (hn : n ≤ tot σ.l - σ.c) (x : Int) : Rep ⟨σ.l, σ.s, σ.c + n, false⟩ (safe ++ loose.extract 0 n) (⟨#[]⟩ : ByteArray) x := by
  refine ⟨h.inv.crash n hn _, ?_⟩
  obtain ⟨fs, hF, hs, hlo⟩ := h.ex
  refine ⟨fs, hF, ?_, fun q => by cases q⟩
  show safe ++ loose.extract 0 n = ba (fs.flatten.take (σ.c + n))
  rw [hs, (hlo hu).1, ba_extract, ba_append, List.drop_zero, Nat.sub_zero, List.take_add]
/-! ### the reference -/
set_option maxHeartbeats 2000000 in
theorem spec_step (ops : List S56) (i : Int) (i0 : 0 ≤ i) (i1 : i < ops.length) (hl : ops.length ≤ 500) (acc : List S54) (ha : acc.length ≤ 500) (σ : St) (safe loose : ByteArray) (next : Int) (h : Rep σ safe loose next) (q : List S54 × Int)
    (hq : ∀ safe' loose' next', Rep (step σ (rd_T56 ops i)).2 safe' loose' next' → Ev (fun k => spec_DiskRun.l0 k ops (acc ++ [(step σ (rd_T56 ops i)).1]) safe' loose' next' (step σ (rd_T56 ops i)).2.up (i + 1)) q) :
    Ev (fun k => spec_DiskRun.l0 k ops acc safe loose next σ.up i) q := by
  obtain ⟨o, ho⟩ : ∃ o, rd_T56 ops i = o := ⟨_, rfl⟩
  rw [ho] at hq
  have ew := wrap_in (i + 1) (by omega) (by omega)
  have hA : acc.length < 3518437208883 := by omega
  have hb0 := h.inv.bytes
  have hc0 := h.inv.hi
  have hs0 := h.size
  have bad : Bad o → ∀ b : Bool, b = true → Ev (fun k => spec_DiskRun.j1 k ops acc safe loose next σ.up i b o.f0 o.f1.f0 o.f1.f1 o.f2 0 0) q := by
    rintro hb b rfl
    have e : step σ o = (⟨1, 0, []⟩, σ) := by unfold step; rw [if_pos hb]
    rw [e] at hq
    refine Ev.succ ?_
    simp only [spec_DiskRun.j1, ew]
    exact Ev.pos (by trivial) (Ev.pos hA (hq _ _ _ h))
  have good : ¬ Bad o → Ev (fun k => spec_DiskRun.j1 k ops acc safe loose next σ.up i false o.f0 o.f1.f0 o.f1.f1 o.f2 0 0) q := by
    intro hb
    refine Ev.succ ?_
    simp only [spec_DiskRun.j1, ew]
    refine Ev.neg (by simp) ?_
    by_cases k4 : o.f0 = 4
    · have e : step σ o = opened σ := by unfold step; rw [if_neg hb, if_pos k4]
      rw [e] at hq
      refine Ev.pos k4 ?_
      obtain ⟨fs, hF, hs, _⟩ := h.ex
      have sc := spec_whole (fs.flatten.take σ.c) (by rw [List.length_take, hF.len]; omega) σ.l fs [] 0 σ.c (by simpa using hF) h.inv.ok (Nat.zero_le _) (by rw [List.drop_zero]) (by have := h.inv.len; simp; omega)
      rw [List.nil_append] at sc
      have ht := whole_tot σ.l σ.c
      refine Ev.bind (a := (σ.l.take (whole σ.l σ.c), ((0 + tot (σ.l.take (whole σ.l σ.c)) : Nat) : Int))) (by simp only [spec_LogScan.f]; rw [hs]; exact sc) ?_
      refine Ev.pos (by show 0 ≤ ((0 + tot (σ.l.take (whole σ.l σ.c)) : Nat) : Int); omega) (Ev.pos (by show ((0 + tot (σ.l.take (whole σ.l σ.c)) : Nat) : Int) ≤ _; omega) (Ev.pos hA ?_))
      have e2 : (((σ.l.take (whole σ.l σ.c)).length : Nat) : Int) = ((whole σ.l σ.c : Nat) : Int) := by have := whole_le σ.l σ.c; rw [List.length_take]; omega
      have R := h.opened
      rw [e2] at R
      have := hq _ _ _ R
      simp only [e2]
      exact this
    · refine Ev.neg k4 ?_
      by_cases hu : σ.up = false
      · have e : step σ o = (⟨11, 0, []⟩, σ) := by unfold step; rw [if_neg hb, if_neg k4, if_pos hu]
        rw [e] at hq
        exact Ev.neg (by simp [hu]) (Ev.pos hA (hq _ _ _ h))
      · have hu' : σ.up = true := by simpa using hu
        refine Ev.pos hu' ?_
        have hls := h.lsize hu'
        obtain ⟨fs, hF, hs, hlo⟩ := h.ex
        have hnx := (hlo hu').2
        by_cases k1 : o.f0 = 1
        · refine Ev.pos k1 (Ev.succ ?_)
          simp only [spec_DiskRun.j2, ew]
          have hx : Rok o.f1 := Decidable.byContradiction fun z => hb (.inr (.inr ⟨k1, z⟩))
          by_cases hfull : σ.l.length ≥ 300
          · have e : step σ o = (⟨9, 0, []⟩, σ) := by unfold step; rw [if_neg hb, if_neg k4, if_neg hu, if_pos k1, if_pos hfull]
            rw [e] at hq
            exact Ev.pos (decide_eq_true (by rw [hnx]; omega)) (Ev.pos hA (hq _ _ _ h))
          · have e : step σ o = (⟨0, ((σ.l.length : Nat) : Int), []⟩, ⟨σ.l ++ [o.f1], σ.s, σ.c, true⟩) := by unfold step; rw [if_neg hb, if_neg k4, if_neg hu, if_pos k1, if_neg hfull]
            rw [e] at hq
            obtain ⟨f, hf, t1, _⟩ := frame_both ((σ.l.length : Nat) : Int) o.f1.f0 o.f1.f1 (by omega) (by omega) (by have := hx.2.2; omega)
            have fl : f.length = 13 + o.f1.f1.size := by rw [hf.len, body_len]
            have hz := hx.2.2
            rw [hnx]
            refine Ev.neg (by rw [decide_eq_true_eq]; omega) (Ev.pos k1 (Ev.bind t1 (Ev.pos (by rw [ba_size]; omega) (Ev.pos hA ?_))))
            rw [wrap_in (((σ.l.length : Nat) : Int) + 1) (by have := h.inv.len; omega) (by have := h.inv.len; omega), hu']
            exact hq _ _ _ (h.append hu' o.f1 hx (by omega) f hf)
        · refine Ev.neg k1 (Ev.succ ?_)
          simp only [spec_DiskRun.j2, ew]
          refine Ev.neg (by simp) (Ev.neg k1 ?_)
          by_cases k2 : o.f0 = 2
          · have e : step σ o = (⟨0, 0, []⟩, ⟨σ.l, σ.l.length, tot σ.l, true⟩) := by unfold step; rw [if_neg hb, if_neg k4, if_neg hu, if_neg k1, if_pos k2]
            rw [e] at hq
            rw [hu']
            exact Ev.pos k2 (Ev.pos (by omega) (Ev.pos hA (hq _ _ _ (h.sync hu'))))
          · have e : step σ o = (⟨0, 0, []⟩, ⟨σ.l, σ.s, σ.c + clamp o.f2 (tot σ.l - σ.c), false⟩) := by unfold step; rw [if_neg hb, if_neg k4, if_neg hu, if_neg k1, if_neg k2]
            rw [e] at hq
            refine Ev.neg k2 ?_
            have zx : ∀ j : Nat, (loose.extract 0 j).size ≤ 603900 := fun j => by rw [ByteArray.size_extract]; omega
            have fin : ∀ j : Nat, j = clamp o.f2 (tot σ.l - σ.c) → Ev (fun k => if safe.size + (loose.extract 0 j).size ≤ 9223372036854775807 then (if acc.length < 3518437208883 then (spec_DiskRun.l0 k ops (acc ++ [(⟨0, 0, ([] : List (S45))⟩ : S54)]) (safe ++ (loose.extract 0 j)) (⟨#[]⟩ : ByteArray) next false (i + 1)) else (none)) else (none)) q := by
              intro j hj
              refine Ev.pos (by have := zx j; omega) (Ev.pos hA ?_)
              rw [← hj] at hq
              exact hq _ _ _ (h.crash hu' j (by rw [hj]; exact clamp_le _ _) next)
            by_cases n0 : o.f2 < 0
            · refine Ev.pos n0 (Ev.neg (by omega) (Ev.pos (by omega) (Ev.pos (by omega) (fin 0 ?_))))
              unfold clamp; omega
            · refine Ev.neg n0 ?_
              by_cases n1 : o.f2 > (loose.size : Int)
              · refine Ev.pos n1 (Ev.pos (by omega) (Ev.pos (by omega) (fin _ ?_)))
                unfold clamp; omega
              · refine Ev.neg n1 (Ev.pos (by omega) (Ev.pos (by omega) (fin _ ?_)))
                unfold clamp; omega
  refine Ev.succ ?_
  simp only [spec_DiskRun.l0, ho]
  refine Ev.pos i1 (Ev.pos i0 ?_)
  by_cases c0 : o.f0 < 1
  · exact Ev.pos c0 (bad (.inl c0) _ rfl)
  refine Ev.neg c0 ?_
  by_cases c1 : o.f0 > 4
  · exact Ev.pos c1 (bad (.inr (.inl c1)) _ rfl)
  refine Ev.neg c1 ?_
  by_cases c2 : o.f0 = 1
  · refine Ev.pos c2 ?_
    obtain ⟨b, b1, b2⟩ := rok_spec o.f1
    refine Ev.bndc b1 ?_
    by_cases c3 : Rok o.f1
    · rw [b2.2 c3]
      exact good (by rintro (z | z | z); exact c0 z; exact c1 z; exact z.2 c3)
    · have e : b = false := by cases b with
        | false => rfl
        | true => exact absurd (b2.1 rfl) c3
      rw [e]
      exact bad (.inr (.inr ⟨c2, c3⟩)) _ rfl
  · exact Ev.neg c2 (good (by rintro (z | z | z); exact c0 z; exact c1 z; exact c2 z.1))
theorem rd56m (pre l : List S56) (r : S56) : rd_T56 (pre ++ r :: l) (pre.length : Int) = r := by
  unfold rd_T56
  rw [Int.toNat_natCast, List.getD_eq_getElem?_getD, List.getElem?_append_right (Nat.le_refl _), Nat.sub_self]
  rfl
theorem spec_run (rest : List S56) : ∀ (pre : List S56) (acc : List S54) (σ : St) (safe loose : ByteArray) (next : Int), Rep σ safe loose next → (pre ++ rest).length ≤ 500 → acc.length = pre.length →
    Ev (fun k => spec_DiskRun.l0 k (pre ++ rest) acc safe loose next σ.up (pre.length : Int)) (acc ++ run σ rest, 0) := by
  induction rest with
  | nil =>
    intro pre acc σ safe loose next h hl ha
    refine Ev.succ ?_
    simp only [spec_DiskRun.l0]
    exact Ev.neg (by rw [List.append_nil]; omega) (Ev.some' (by simp [run]))
  | cons o rest ih =>
    intro pre acc σ safe loose next h hl ha
    have hl2 := hl
    rw [List.length_append, List.length_cons] at hl2
    refine spec_step (pre ++ o :: rest) (pre.length : Int) (by omega) (by rw [List.length_append, List.length_cons]; omega) hl acc (by omega) σ safe loose next h _ ?_
    rw [rd56m]
    intro safe' loose' next' h'
    have := ih (pre ++ [o]) (acc ++ [(step σ o).1]) (step σ o).2 safe' loose' next' h' (by rw [List.append_assoc]; exact hl) (by rw [List.length_append, List.length_append, ha]; rfl)
    rw [List.append_assoc, List.append_assoc, show ((pre ++ [o]).length : Int) = (pre.length : Int) + 1 by rw [List.length_append, List.length_singleton]; omega] at this
    exact this
/-! ### the program -/
set_option maxHeartbeats 2000000 in
theorem impl_step (ops : List S56) (i : Int) (i0 : 0 ≤ i) (i1 : i < ops.length) (hl : ops.length ≤ 500) (acc : List S54) (ha : acc.length ≤ 500) (σ : St) (safe loose : ByteArray) (next : Int) (h : Rep σ safe loose next) (q : List S54 × Int)
    (hq : ∀ safe' loose' next', Rep (step σ (rd_T56 ops i)).2 safe' loose' next' → Ev (fun k => impl_DiskRun.l0 k safe' loose' next' (step σ (rd_T56 ops i)).2.up (acc ++ [(step σ (rd_T56 ops i)).1]) ops (ops.length : Int) (i + 1)) q) :
    Ev (fun k => impl_DiskRun.l0 k safe loose next σ.up acc ops (ops.length : Int) i) q := by
  obtain ⟨o, ho⟩ : ∃ o, rd_T56 ops i = o := ⟨_, rfl⟩
  rw [ho] at hq
  have ew := wrap_in (i + 1) (by omega) (by omega)
  have hA : acc.length < 3518437208883 := by omega
  have hb0 := h.inv.bytes
  have hc0 := h.inv.hi
  have hs0 := h.size
  have bad : Bad o → ∀ b : Bool, b = true → Ev (fun k => impl_DiskRun.j1 k safe loose next σ.up acc ops (ops.length : Int) i b o.f0 o.f1.f0 o.f1.f1 o.f2 0 0) q := by
    rintro hb b rfl
    have e : step σ o = (⟨1, 0, []⟩, σ) := by unfold step; rw [if_pos hb]
    rw [e] at hq
    refine Ev.succ ?_
    simp only [impl_DiskRun.j1, ew]
    exact Ev.pos (by trivial) (Ev.pos hA (hq _ _ _ h))
  have good : ¬ Bad o → Ev (fun k => impl_DiskRun.j1 k safe loose next σ.up acc ops (ops.length : Int) i false o.f0 o.f1.f0 o.f1.f1 o.f2 0 0) q := by
    intro hb
    have r0 : ¬ o.f0 < 1 := fun z => hb (.inl z)
    have r4 : ¬ o.f0 > 4 := fun z => hb (.inr (.inl z))
    refine Ev.succ ?_
    simp only [impl_DiskRun.j1]
    refine Ev.neg (by simp) ?_
    by_cases k4 : o.f0 = 4
    · have e : step σ o = opened σ := by unfold step; rw [if_neg hb, if_pos k4]
      rw [e] at hq
      have last : Ev (fun k => impl_DiskRun.j2 k safe loose next σ.up acc ops (ops.length : Int) i false o.f0 o.f1.f0 o.f1.f1 o.f2 0 0) q := by
        refine Ev.succ ?_
        simp only [impl_DiskRun.j2, ew]
        refine Ev.neg (by simp) (Ev.neg (by omega) (Ev.neg (by omega) (Ev.neg (by omega) (Ev.pos k4 ?_))))
        obtain ⟨fs, hF, hs, _⟩ := h.ex
        have sc := impl_whole (fs.flatten.take σ.c) (by rw [List.length_take, hF.len]; omega) σ.l fs [] 0 σ.c (by simpa using hF) h.inv.ok (Nat.zero_le _) (by rw [List.drop_zero]) (by have := h.inv.len; simp; omega)
        rw [List.nil_append] at sc
        have ht := whole_tot σ.l σ.c
        refine Ev.bind (a := (σ.l.take (whole σ.l σ.c), ((0 + tot (σ.l.take (whole σ.l σ.c)) : Nat) : Int))) (by
          simp only [impl_LogScan.f]
          rw [hs, decide_eq_false (by omega)]
          refine Ev.neg (by omega) (Ev.succ ?_)
          simp only [impl_LogScan.j0]
          exact Ev.neg (by simp) sc) ?_
        refine Ev.pos (by show 0 ≤ ((0 + tot (σ.l.take (whole σ.l σ.c)) : Nat) : Int); omega) (Ev.pos (by show ((0 + tot (σ.l.take (whole σ.l σ.c)) : Nat) : Int) ≤ _; omega) (Ev.pos hA ?_))
        have e2 : (((σ.l.take (whole σ.l σ.c)).length : Nat) : Int) = ((whole σ.l σ.c : Nat) : Int) := by have := whole_le σ.l σ.c; rw [List.length_take]; omega
        have R := h.opened
        rw [e2] at R
        have := hq _ _ _ R
        simp only [e2]
        exact this
      by_cases hu : σ.up = true
      · exact Ev.pos hu last
      · refine Ev.neg hu ?_
        rw [show (o.f0 != 4) = false by simp [k4]]
        exact last
    · by_cases hu : σ.up = false
      · have e : step σ o = (⟨11, 0, []⟩, σ) := by unfold step; rw [if_neg hb, if_neg k4, if_pos hu]
        rw [e] at hq
        refine Ev.neg (by simp [hu]) ?_
        rw [show (o.f0 != 4) = true by simp [k4]]
        refine Ev.succ ?_
        simp only [impl_DiskRun.j2, ew]
        exact Ev.pos (by trivial) (Ev.pos hA (hq _ _ _ h))
      · have hu' : σ.up = true := by simpa using hu
        refine Ev.pos hu' (Ev.succ ?_)
        simp only [impl_DiskRun.j2, ew]
        refine Ev.neg (by simp) ?_
        have hls := h.lsize hu'
        obtain ⟨fs, hF, hs, hlo⟩ := h.ex
        have hnx := (hlo hu').2
        by_cases k1 : o.f0 = 1
        · refine Ev.pos k1 ?_
          have hx : Rok o.f1 := Decidable.byContradiction fun z => hb (.inr (.inr ⟨k1, z⟩))
          by_cases hfull : σ.l.length ≥ 300
          · have e : step σ o = (⟨9, 0, []⟩, σ) := by unfold step; rw [if_neg hb, if_neg k4, if_neg hu, if_pos k1, if_pos hfull]
            rw [e] at hq
            exact Ev.pos (by rw [hnx]; omega) (Ev.pos hA (hq _ _ _ h))
          · have e : step σ o = (⟨0, ((σ.l.length : Nat) : Int), []⟩, ⟨σ.l ++ [o.f1], σ.s, σ.c, true⟩) := by unfold step; rw [if_neg hb, if_neg k4, if_neg hu, if_pos k1, if_neg hfull]
            rw [e] at hq
            obtain ⟨f, hf, _, t1⟩ := frame_both ((σ.l.length : Nat) : Int) o.f1.f0 o.f1.f1 (by omega) (by omega) (by have := hx.2.2; omega)
            have fl : f.length = 13 + o.f1.f1.size := by rw [hf.len, body_len]
            have hz := hx.2.2
            rw [hnx]
            refine Ev.neg (by omega) (Ev.bind t1 (Ev.pos (by rw [ba_size]; omega) (Ev.pos hA ?_)))
            rw [wrap_in (((σ.l.length : Nat) : Int) + 1) (by have := h.inv.len; omega) (by have := h.inv.len; omega), hu']
            exact hq _ _ _ (h.append hu' o.f1 hx (by omega) f hf)
        · refine Ev.neg k1 ?_
          by_cases k2 : o.f0 = 2
          · have e : step σ o = (⟨0, 0, []⟩, ⟨σ.l, σ.l.length, tot σ.l, true⟩) := by unfold step; rw [if_neg hb, if_neg k4, if_neg hu, if_neg k1, if_pos k2]
            rw [e] at hq
            rw [hu']
            exact Ev.pos k2 (Ev.pos (by omega) (Ev.pos hA (hq _ _ _ (h.sync hu'))))
          · have e : step σ o = (⟨0, 0, []⟩, ⟨σ.l, σ.s, σ.c + clamp o.f2 (tot σ.l - σ.c), false⟩) := by unfold step; rw [if_neg hb, if_neg k4, if_neg hu, if_neg k1, if_neg k2]
            rw [e] at hq
            have hm : 0 ≤ mn (mx o.f2 0) (loose.size : Int) ∧ mn (mx o.f2 0) (loose.size : Int) ≤ (loose.size : Int) ∧ (mn (mx o.f2 0) (loose.size : Int)).toNat = clamp o.f2 (tot σ.l - σ.c) := by
              unfold mn mx clamp
              refine ⟨?_, ?_, ?_⟩ <;> (split <;> split <;> omega)
            have zx : ∀ j : Nat, (loose.extract 0 j).size ≤ 603900 := fun j => by rw [ByteArray.size_extract]; omega
            refine Ev.neg k2 (Ev.pos (by omega) (Ev.pos hm.1 (Ev.pos hm.2.1 (Ev.pos (by have := zx (mn (mx o.f2 0) (loose.size : Int)).toNat; omega) (Ev.pos hA ?_)))))
            rw [hm.2.2]
            exact hq _ _ _ (h.crash hu' _ (clamp_le _ _) next)
  refine Ev.succ ?_
  simp only [impl_DiskRun.l0, ho]
  refine Ev.pos i1 (Ev.pos i0 (Ev.pos i1 ?_))
  by_cases c0 : o.f0 < 1
  · exact Ev.pos c0 (bad (.inl c0) _ rfl)
  refine Ev.neg c0 ?_
  by_cases c1 : o.f0 > 4
  · exact Ev.pos c1 (bad (.inr (.inl c1)) _ rfl)
  refine Ev.neg c1 ?_
  by_cases c2 : o.f0 = 1
  · refine Ev.pos c2 ?_
    obtain ⟨b, b1, b2⟩ := rok_impl o.f1
    refine Ev.bndc b1 ?_
    by_cases c3 : Rok o.f1
    · rw [b2.2 c3]
      exact good (by rintro (z | z | z); exact c0 z; exact c1 z; exact z.2 c3)
    · have e : b = false := by cases b with
        | false => rfl
        | true => exact absurd (b2.1 rfl) c3
      rw [e]
      exact bad (.inr (.inr ⟨c2, c3⟩)) _ rfl
  · exact Ev.neg c2 (good (by rintro (z | z | z); exact c0 z; exact c1 z; exact c2 z.1))
theorem impl_run (rest : List S56) : ∀ (pre : List S56) (acc : List S54) (σ : St) (safe loose : ByteArray) (next : Int), Rep σ safe loose next → (pre ++ rest).length ≤ 500 → acc.length = pre.length →
    Ev (fun k => impl_DiskRun.l0 k safe loose next σ.up acc (pre ++ rest) (((pre ++ rest).length : Nat) : Int) (pre.length : Int)) (acc ++ run σ rest, 0) := by
  induction rest with
  | nil =>
    intro pre acc σ safe loose next h hl ha
    refine Ev.succ ?_
    simp only [impl_DiskRun.l0]
    exact Ev.neg (by rw [List.append_nil]; omega) (Ev.some' (by simp [run]))
  | cons o rest ih =>
    intro pre acc σ safe loose next h hl ha
    have hl2 := hl
    rw [List.length_append, List.length_cons] at hl2
    refine impl_step (pre ++ o :: rest) (pre.length : Int) (by omega) (by rw [List.length_append, List.length_cons]; omega) hl acc (by omega) σ safe loose next h _ ?_
    rw [rd56m]
    intro safe' loose' next' h'
    have := ih (pre ++ [o]) (acc ++ [(step σ o).1]) (step σ o).2 safe' loose' next' h' (by rw [List.append_assoc]; exact hl) (by rw [List.length_append, List.length_append, ha]; rfl)
    rw [List.append_assoc, List.append_assoc, show ((pre ++ [o]).length : Int) = (pre.length : Int) + 1 by rw [List.length_append, List.length_singleton]; omega] at this
    exact this
def σ0 : St := ⟨[], 0, 0, true⟩
theorem rep0 : Rep σ0 (⟨#[]⟩ : ByteArray) (⟨#[]⟩ : ByteArray) 0 := ⟨⟨fun _ h => by simp [σ0] at h, by simp [σ0], by simp [σ0], by simp [σ0, tot], by simp [σ0, tot]⟩, [], rfl, rfl, fun _ => ⟨rfl, rfl⟩⟩
theorem both_run (ops : List S56) (hl : ops.length ≤ 500) : Ev (fun k => spec_DiskRun.f k ops) (run σ0 ops, 0) ∧ Ev (fun k => impl_DiskRun.f k ops) (run σ0 ops, 0) := by
  constructor
  · simp only [spec_DiskRun.f]
    exact Ev.neg (by omega) (by simpa [σ0] using spec_run ops [] [] σ0 _ _ 0 rep0 (by simpa using hl) rfl)
  · simp only [impl_DiskRun.f]
    exact Ev.neg (by omega) (by simpa [σ0] using impl_run ops [] [] σ0 _ _ 0 rep0 (by simpa using hl) rfl)
/-! ### the law -/
theorem rd45 (l : List S45) (i : Int) : rd_T45 l i = l.getD i.toNat z45 := rfl
set_option maxHeartbeats 2000000 in
theorem law_step (ops : List S56) (obs : List S54) (i : Nat) (hi : i < ops.length) (hl : ops.length ≤ 500) (ho : obs.length = ops.length) (σ : St) (h : Inv σ) (he : rd_T54 obs (i : Int) = (step σ (rd_T56 ops (i : Int))).1)
    (hq : Ev (fun k => laws_FnDiskSafe.l0 k ops obs obs (step σ (rd_T56 ops (i : Int))).2.l ((step σ (rd_T56 ops (i : Int))).2.s : Int) ((i + 1 : Nat) : Int)) true) :
    Ev (fun k => laws_FnDiskSafe.l0 k ops obs obs σ.l (σ.s : Int) (i : Int)) true := by
  obtain ⟨o, eo⟩ : ∃ o, rd_T56 ops (i : Int) = o := ⟨_, rfl⟩
  rw [eo] at he hq
  have ew : wrap64 ((i : Int) + 1) = ((i + 1 : Nat) : Int) := by rw [wrap_in _ (by omega) (by omega)]; omega
  refine Ev.succ ?_
  simp only [laws_FnDiskSafe.l0, he, eo, ew]
  refine Ev.pos (by omega) (Ev.pos (by omega) (Ev.pos (by omega) (Ev.pos (by trivial) ?_)))
  by_cases hb : Bad o
  · have e : step σ o = (⟨1, 0, []⟩, σ) := by unfold step; rw [if_pos hb]
    rw [e] at hq ⊢
    exact Ev.neg (by simp) hq
  by_cases k4 : o.f0 = 4
  · have e : step σ o = opened σ := by unfold step; rw [if_neg hb, if_pos k4]
    rw [e] at hq he ⊢
    have hm := whole_le σ.l σ.c
    have hge := whole_ge σ.l σ.c σ.s h.syn h.lo
    have hlen : (σ.l.take (whole σ.l σ.c)).length = whole σ.l σ.c := by rw [List.length_take]; omega
    have hN := h.len
    refine Ev.pos rfl (Ev.pos (by omega) (Ev.neg (by omega) (Ev.neg (by omega) (Ev.pos k4 ?_))))
    have e2l : (opened σ).1.f2 = σ.l.take (whole σ.l σ.c) := rfl
    have e1l : (opened σ).1.f1 = ((whole σ.l σ.c : Nat) : Int) := rfl
    simp only [e2l, e1l, hlen]
    refine Ev.neg (by omega) (Ev.neg (by omega) ?_)
    rw [show (((whole σ.l σ.c : Nat) : Int) != ((whole σ.l σ.c : Nat) : Int)) = false from by simp]
    refine Ev.succ ?_
    simp only [laws_FnDiskSafe.j2]
    refine Ev.neg (by simp) ?_
    have from_ : ∀ (d j : Nat), j + d = whole σ.l σ.c → Ev (fun k => laws_FnDiskSafe.l1 k ops obs obs σ.l (i : Int) ((whole σ.l σ.c : Nat) : Int) (j : Int)) true := by
      intro d
      induction d with
      | zero =>
        intro j hj
        refine Ev.succ ?_
        simp only [laws_FnDiskSafe.l1, ew]
        refine Ev.neg (by omega) (Ev.pos (by omega) (Ev.pos (by omega) ?_))
        rw [Int.toNat_natCast]
        exact hq
      | succ d ih =>
        intro j hj
        refine Ev.succ ?_
        simp only [laws_FnDiskSafe.l1, he]
        have e2 : (opened σ).1.f2 = σ.l.take (whole σ.l σ.c) := rfl
        refine Ev.pos (by omega) (Ev.pos (by omega) (Ev.pos (by omega) (Ev.pos (by omega) (Ev.pos (by rw [e2, hlen]; omega) (Ev.pos (by omega) ?_)))))
        have er : rd_T45 (opened σ).1.f2 (j : Int) = rd_T45 σ.l (j : Int) := by
          rw [e2, rd45, rd45, Int.toNat_natCast, List.getD_eq_getElem?_getD, List.getD_eq_getElem?_getD, List.getElem?_take_of_lt (by omega)]
        rw [er]
        refine Ev.neg (by simp) ?_
        rw [wrap_in ((j : Int) + 1) (by omega) (by omega)]
        exact ih (j + 1) (by omega)
    exact from_ (whole σ.l σ.c) 0 (by omega)
  by_cases hu : σ.up = false
  · have e : step σ o = (⟨11, 0, []⟩, σ) := by unfold step; rw [if_neg hb, if_neg k4, if_pos hu]
    rw [e] at hq ⊢
    exact Ev.neg (by simp) hq
  by_cases k1 : o.f0 = 1
  · by_cases hfull : σ.l.length ≥ 300
    · have e : step σ o = (⟨9, 0, []⟩, σ) := by unfold step; rw [if_neg hb, if_neg k4, if_neg hu, if_pos k1, if_pos hfull]
      rw [e] at hq ⊢
      exact Ev.neg (by simp) hq
    · have e : step σ o = (⟨0, ((σ.l.length : Nat) : Int), []⟩, ⟨σ.l ++ [o.f1], σ.s, σ.c, true⟩) := by unfold step; rw [if_neg hb, if_neg k4, if_neg hu, if_pos k1, if_neg hfull]
      rw [e] at hq ⊢
      exact Ev.pos rfl (Ev.pos (by omega) (Ev.pos k1 (Ev.pos rfl (Ev.pos (by omega) hq))))
  by_cases k2 : o.f0 = 2
  · have e : step σ o = (⟨0, 0, []⟩, ⟨σ.l, σ.l.length, tot σ.l, true⟩) := by unfold step; rw [if_neg hb, if_neg k4, if_neg hu, if_neg k1, if_pos k2]
    rw [e] at hq ⊢
    exact Ev.pos rfl (Ev.pos (by omega) (Ev.neg k1 (Ev.pos k2 hq)))
  · have e : step σ o = (⟨0, 0, []⟩, ⟨σ.l, σ.s, σ.c + clamp o.f2 (tot σ.l - σ.c), false⟩) := by unfold step; rw [if_neg hb, if_neg k4, if_neg hu, if_neg k1, if_neg k2]
    rw [e] at hq ⊢
    exact Ev.pos rfl (Ev.pos (by omega) (Ev.neg k1 (Ev.neg k2 (Ev.neg k4 hq))))
theorem rd54m (pre l : List S54) (r : S54) (n : Nat) (h : pre.length = n) : rd_T54 (pre ++ r :: l) (n : Int) = r := by
  subst h
  unfold rd_T54
  rw [Int.toNat_natCast, List.getD_eq_getElem?_getD, List.getElem?_append_right (Nat.le_refl _), Nat.sub_self]
  rfl
theorem law_run (rest : List S56) : ∀ (pre : List S56) (opre : List S54) (σ : St), Inv σ → (pre ++ rest).length ≤ 500 → opre.length = pre.length →
    Ev (fun k => laws_FnDiskSafe.l0 k (pre ++ rest) (opre ++ run σ rest) (opre ++ run σ rest) σ.l (σ.s : Int) ((pre.length : Nat) : Int)) true := by
  induction rest with
  | nil =>
    intro pre opre σ h hl ha
    refine Ev.succ ?_
    simp only [laws_FnDiskSafe.l0]
    exact Ev.neg (by simp only [run, List.append_nil]; omega) (Ev.some' rfl)
  | cons o rest ih =>
    intro pre opre σ h hl ha
    have hl2 := hl
    rw [List.length_append, List.length_cons] at hl2
    refine law_step (pre ++ o :: rest) (opre ++ run σ (o :: rest)) pre.length (by rw [List.length_append, List.length_cons]; omega) hl (by rw [List.length_append, List.length_append, run_len, ha]) σ h ?_ ?_
    · rw [rd56m]
      exact rd54m opre (run (step σ o).2 rest) (step σ o).1 _ ha
    · rw [rd56m]
      have := ih (pre ++ [o]) (opre ++ [(step σ o).1]) (step σ o).2 (h.step o) (by rw [List.append_assoc]; exact hl) (by rw [List.length_append, List.length_append, ha]; rfl)
      rw [List.append_assoc, List.append_assoc, show (pre ++ [o]).length = pre.length + 1 by rw [List.length_append, List.length_singleton]] at this
      exact this
end Go.Proofs.Ytnicllekmkkhlaa.QFnDiskSafeK
