/- Texts as lists of bytes: a number's four bytes, a frame, a frame read back. No condition. -/
import Derived.Test.YtnicllekmkkhlaaCrcFnDiskSafe
import Derived.Test.YtnicllekmkkhlaaUtil
namespace Go.Proofs.Ytnicllekmkkhlaa.QFnDiskSafeB
set_option linter.unusedVariables false
set_option linter.unusedSimpArgs false
open Go.RowKit Go.Proofs.Ytnicllekmkkhlaa.QFnDiskSafe Go.Proofs.YtnicllekmkkhlaaW.PrintWords Go.Proofs.YtnicllekmkkhlaaU
def ba (l : List UInt8) : ByteArray := ⟨l.toArray⟩
theorem ba_size (l : List UInt8) : (ba l).size = l.length := by show l.toArray.size = _; simp
theorem ba_of (s : ByteArray) : ba s.data.toList = s := by cases s; rfl
theorem ba_append (a b : List UInt8) : ba a ++ ba b = ba (a ++ b) := by
  refine ByteArray.ext ?_
  rw [ByteArray.data_append]
  show a.toArray ++ b.toArray = (a ++ b).toArray
  simp
theorem ba_extract (l : List UInt8) (i j : Nat) : (ba l).extract i j = ba ((l.drop i).take (j - i)) := by
  refine ByteArray.ext ?_
  rw [ByteArray.data_extract]
  show l.toArray.extract i j = _
  rw [List.extract_toArray]
  rfl
theorem ba_inj {a b : List UInt8} (h : ba a = ba b) : a = b := by
  have := congrArg (fun s : ByteArray => s.data.toList) h
  simpa [ba] using this
theorem nums_ba (xs : List Int) : strOfNums xs = ba (xs.map fun n => UInt8.ofNat n.toNat) := rfl
theorem bt_ba (l : List UInt8) (i : Nat) (h : i < l.length) : bt (ba l) (i : Int) = (l[i].toNat : Int) := by
  unfold bt
  rw [dif_pos (by rw [ba_size]; simpa using h)]
  rfl
theorem or_add (a b : Nat) (hb : b < 256) : a * 256 ||| b = a * 256 + b := by
  have := Nat.shiftLeft_add_eq_or_of_lt (i := 8) (b := b) (by simpa using hb) a
  rw [Nat.shiftLeft_eq] at this
  simpa using this.symm
theorem i64_or (a b : Nat) (ha : a < 4294967296) (hb : b < 256) : Go.bits .or .i64 (((a * 256 : Nat)) : Int) (b : Int) = ((a * 256 + b : Nat) : Int) := by
  show IntKind.i64.wrap ((BitVec.ofInt 64 ((a * 256 : Nat) : Int) ||| BitVec.ofInt 64 (b : Int)).toNat : Int) = _
  rw [BitVec.toNat_or, BitVec.ofInt_natCast, BitVec.ofInt_natCast, BitVec.toNat_ofNat, BitVec.toNat_ofNat, Nat.mod_eq_of_lt (show a * 256 < 2 ^ 64 by omega), Nat.mod_eq_of_lt (show b < 2 ^ 64 by omega), or_add a b hb]
  exact IntWalk.i64_in _ (by omega)
/-- The number that bytes stand for, the highest first. -/
def val (l : List UInt8) : Nat := l.foldl (fun n b => n * 256 + b.toNat) 0
theorem num_from (l : List UInt8) (hl : l.length = 4) (d : Nat) : ∀ (i : Nat), i ≤ 4 → 4 - i = d → Ev (fun k => impl_numOf.l0 k (ba l) ((val (l.take i) : Nat) : Int) (i : Int)) ((val l : Nat) : Int) := by
  have small : ∀ i, i ≤ 3 → val (l.take i) < 16777216 := by
    match l, hl with
    | [a, b, c, e], _ =>
      intro i hi
      have := a.toNat_lt; have := b.toNat_lt; have := c.toNat_lt
      rcases i with _ | _ | _ | _ | i <;> simp [val] <;> omega
  induction d with
  | zero =>
    intro i h1 hd
    refine Ev.succ ?_
    simp only [impl_numOf.l0]
    refine Ev.neg (by rw [ba_size]; omega) (Ev.some' ?_)
    rw [List.take_of_length_le (by omega)]
  | succ d ih =>
    intro i h1 hd
    refine Ev.succ ?_
    simp only [impl_numOf.l0]
    refine Ev.pos (by rw [ba_size]; omega) (Ev.pos (by omega) ?_)
    have hv := small i (by omega)
    have hlt := (l[i]'(by omega)).toNat_lt
    rw [bt_ba l i (by omega), wrap_in ((val (l.take i) : Int) * 256) (by omega) (by omega), wrap_in ((l[i]'(by omega)).toNat : Int) (by omega) (by omega), wrap_in ((i : Int) + 1) (by omega) (by omega)]
    rw [show ((val (l.take i) : Nat) : Int) * 256 = ((val (l.take i) * 256 : Nat) : Int) by omega, i64_or _ _ (by omega) (by omega)]
    have := ih (i + 1) (by omega) (by omega)
    have e : val (l.take (i + 1)) = val (l.take i) * 256 + (l[i]'(by omega)).toNat := by
      rw [List.take_succ_eq_append_getElem (by omega)]
      unfold val
      rw [List.foldl_append]
      rfl
    rw [e] at this
    exact this
theorem num_of (l : List UInt8) (hl : l.length = 4) : Ev (fun k => impl_numOf.f k (ba l)) ((val l : Nat) : Int) := by
  simp only [impl_numOf.f]
  exact num_from l hl 4 0 (by omega) (by omega)
/-- A number's four bytes. -/
def be (a : Int) : List UInt8 := [a / 256 / 256 / 256 % 256, a / 256 / 256 % 256, a / 256 % 256, a % 256].map fun n => UInt8.ofNat n.toNat
theorem be_len (a : Int) : (be a).length = 4 := rfl
theorem val_be (a : Int) (h0 : 0 ≤ a) (h1 : a < 4294967296) : ((val (be a) : Nat) : Int) = a := by
  obtain ⟨n, rfl⟩ := Int.eq_ofNat_of_zero_le h0
  simp only [val, be, List.map_cons, List.map_nil, List.foldl_cons, List.foldl_nil]
  have e : ∀ x : Int, 0 ≤ x → x < 256 → (UInt8.ofNat x.toNat).toNat = x.toNat := fun x x0 x1 => by rw [UInt8.toNat_ofNat']; omega
  rw [e _ (by omega) (by omega), e _ (by omega) (by omega), e _ (by omega) (by omega), e _ (by omega) (by omega)]
  omega
/-- Four bytes that stand for the same number are the same. -/
theorem val_inj {a b : List UInt8} (ha : a.length = 4) (hb : b.length = 4) (h : val a = val b) : a = b := by
  match a, ha, b, hb with
  | [a0, a1, a2, a3], _, [b0, b1, b2, b3], _ =>
    simp only [val, List.foldl_cons, List.foldl_nil] at h
    have := a0.toNat_lt; have := a1.toNat_lt; have := a2.toNat_lt; have := a3.toNat_lt
    have := b0.toNat_lt; have := b1.toNat_lt; have := b2.toNat_lt; have := b3.toNat_lt
    have e0 : a0 = b0 := UInt8.toNat_inj.mp (by omega)
    have e1 : a1 = b1 := UInt8.toNat_inj.mp (by omega)
    have e2 : a2 = b2 := UInt8.toNat_inj.mp (by omega)
    have e3 : a3 = b3 := UInt8.toNat_inj.mp (by omega)
    rw [e0, e1, e2, e3]
theorem bytes_both (a : Int) (h0 : 0 ≤ a) (h1 : a ≤ 9223372036854775807) : Ev (fun k => spec_l01Bytes.f k a 4) (ba (be a)) ∧ Ev (fun k => impl_bytesOf.f k a 4) (ba (be a)) := by
  have w3 := wrap_in (4 - 1) (by omega) (by omega)
  have w2 := wrap_in (3 - 1) (by omega) (by omega)
  have w1 := wrap_in (2 - 1) (by omega) (by omega)
  have w0 := wrap_in (1 - 1) (by omega) (by omega)
  have wm := wrap_in (0 - 1) (by omega) (by omega)
  constructor
  · have st : ∀ k (x : Int) (xs : List Int) (i : Int), 0 ≤ x → x ≤ 9223372036854775807 → xs.length = 4 → 0 ≤ i → i ≤ 3 → spec_l01Bytes.l0 (k + 1) x xs i = spec_l01Bytes.l0 k (x / 256) (xs.set i.toNat (x % 256)) (i - 1) := by
      intro k x xs i x0 x1 hx i0 i1
      conv => lhs; unfold spec_l01Bytes.l0
      rw [if_pos (by omega), if_pos (by omega), if_pos (by omega), tmod_nn x 256 x0, Int.tdiv_eq_ediv_of_nonneg x0, wrap_in (x / 256) (by omega) (by omega), show x % 256 % 256 = x % 256 by omega, wrap_in (i - 1) (by omega) (by omega)]
    simp only [spec_l01Bytes.f]
    refine Ev.pos (by omega) (Ev.pos (by omega) (Ev.succ (Ev.succ (Ev.succ (Ev.succ (Ev.succ ?_))))))
    rw [w3]
    have e : ∀ k, spec_l01Bytes.l0 (k + 1 + 1 + 1 + 1 + 1) a (List.replicate (4 : Int).toNat 0) (4 - 1) = some (ba (be a)) := by
      intro k
      rw [st _ _ _ _ h0 h1 rfl (by omega) (by omega), st _ _ _ _ (by omega) (by omega) (by rw [List.length_set]; rfl) (by omega) (by omega), st _ _ _ _ (by omega) (by omega) (by rw [List.length_set, List.length_set]; rfl) (by omega) (by omega), st _ _ _ _ (by omega) (by omega) (by rw [List.length_set, List.length_set, List.length_set]; rfl) (by omega) (by omega)]
      unfold spec_l01Bytes.l0
      rw [if_neg (by omega)]
      rfl
    simp only [e]
    exact Ev.some' rfl
  · have st : ∀ k (x : Int) (xs : List Int) (i : Int), xs.length = 4 → 0 ≤ i → i ≤ 3 → impl_bytesOf.l0 (k + 1) x xs i = impl_bytesOf.l0 k (x / 256) (xs.set i.toNat (x % 256)) (i - 1) := by
      intro k x xs i hx i0 i1
      conv => lhs; unfold impl_bytesOf.l0
      rw [if_pos (by omega), if_pos (by omega), if_pos (by omega), wrap_in (i - 1) (by omega) (by omega)]
    simp only [impl_bytesOf.f]
    refine Ev.pos (by omega) (Ev.pos (by omega) (Ev.succ (Ev.succ (Ev.succ (Ev.succ (Ev.succ ?_))))))
    rw [w3]
    have e : ∀ k, impl_bytesOf.l0 (k + 1 + 1 + 1 + 1 + 1) a (List.replicate (4 : Int).toNat 0) (4 - 1) = some (ba (be a)) := by
      intro k
      rw [st _ _ _ _ rfl (by omega) (by omega), st _ _ _ _ (by rw [List.length_set]; rfl) (by omega) (by omega), st _ _ _ _ (by rw [List.length_set, List.length_set]; rfl) (by omega) (by omega), st _ _ _ _ (by rw [List.length_set, List.length_set, List.length_set]; rfl) (by omega) (by omega)]
      unfold impl_bytesOf.l0
      rw [if_neg (by omega)]
      rfl
    simp only [e]
    exact Ev.some' rfl
/-- What stands ahead of a frame's sum. -/
def hd (n K : Int) (s : List UInt8) : List UInt8 := be n ++ (be (s.length : Int) ++ (UInt8.ofNat (K % 256).toNat :: s))
theorem hd_len (n K : Int) (s : List UInt8) : (hd n K s).length = 9 + s.length := by simp only [hd, List.length_append, List.length_cons, be_len]; omega
/-- The bytes of a frame. -/
def Fr (n K : Int) (s l : List UInt8) : Prop := ∃ v : Nat, v < 4294967296 ∧ Ev (fun k => spec_Crc.f k (ba (hd n K s))) (v : Int) ∧ Ev (fun k => impl_Crc.f k (ba (hd n K s))) (v : Int) ∧ l = hd n K s ++ be (v : Int)
theorem Fr.len {n K : Int} {s l : List UInt8} (h : Fr n K s l) : l.length = 13 + s.length := by
  obtain ⟨v, _, _, _, rfl⟩ := h
  rw [List.length_append, hd_len, be_len]
  omega
theorem frame_both (n K : Int) (s : ByteArray) (h0 : 0 ≤ n) (h1 : n ≤ 9223372036854775807) (hs : s.size ≤ 1000000) : ∃ l, Fr n K s.data.toList l ∧ Ev (fun k => spec_l04Frame.f k n K s) (ba l) ∧ Ev (fun k => impl_frame.f k n K s) (ba l) := by
  have hl : s.data.toList.length = s.size := by rw [Array.length_toList]; rfl
  obtain ⟨a1, a2⟩ := bytes_both n h0 h1
  obtain ⟨b1, b2⟩ := bytes_both (s.size : Int) (by omega) (by omega)
  obtain ⟨v, hv, c1, c2⟩ := Go.Proofs.Ytnicllekmkkhlaa.QFnDiskSafeC.crc_alike (ba (hd n K s.data.toList)) (by rw [ba_size, hd_len]; omega)
  obtain ⟨d1, d2⟩ := bytes_both (v : Int) (by omega) (by omega)
  refine ⟨_, ⟨v, hv, c1, c2, rfl⟩, ?_, ?_⟩
  all_goals
    have e1 : ba (be n) ++ ba (be (s.size : Int)) = ba (be n ++ be (s.size : Int)) := ba_append _ _
    have e2 : ba (be n ++ be (s.size : Int)) ++ strOfNums [K % 256] = ba (be n ++ be (s.size : Int) ++ [UInt8.ofNat (K % 256).toNat]) := ba_append _ _
    have e3 : ba (be n ++ be (s.size : Int) ++ [UInt8.ofNat (K % 256).toNat]) ++ s = ba (hd n K s.data.toList) := by
      conv => lhs; rw [← ba_of s]
      rw [ba_append]
      unfold hd
      rw [hl, ba_of s]
      simp
    have e4 : ba (hd n K s.data.toList) ++ ba (be (v : Int)) = ba (hd n K s.data.toList ++ be (v : Int)) := ba_append _ _
    have z1 : (ba (be n)).size = 4 := by rw [ba_size, be_len]
    have z2 : (ba (be (s.size : Int))).size = 4 := by rw [ba_size, be_len]
    have z3 : (ba (be n ++ be (s.size : Int))).size = 8 := by rw [ba_size, List.length_append, be_len, be_len]
    have z4 : (strOfNums [K % 256]).size = 1 := by rw [strOfNums_size]; rfl
    have z5 : (ba (be n ++ be (s.size : Int) ++ [UInt8.ofNat (K % 256).toNat])).size = 9 := by rw [ba_size]; rfl
    have z6 : (ba (hd n K s.data.toList)).size = 9 + s.size := by rw [ba_size, hd_len, hl]
    have z7 : (ba (be (v : Int))).size = 4 := by rw [ba_size, be_len]
  · simp only [spec_l04Frame.f]
    refine Ev.bind a1 (Ev.bind b1 (Ev.pos (by omega) (Ev.bndc rfl ?_)))
    simp only [e1, e2, e3]
    exact Ev.pos (by omega) (Ev.pos (by omega) (Ev.bind c1 (Ev.bind d1 (Ev.pos (by omega) (Ev.some' e4)))))
  · simp only [impl_frame.f]
    refine Ev.bind a2 (Ev.bind b2 (Ev.pos (by omega) (Ev.bndc rfl ?_)))
    simp only [e1, e2, e3]
    exact Ev.pos (by omega) (Ev.pos (by omega) (Ev.bind c2 (Ev.bind d2 (Ev.pos (by omega) (Ev.some' e4)))))
/-! ### records -/
def Rok (r : S45) : Prop := 1 ≤ r.f0 ∧ r.f0 ≤ 255 ∧ r.f1.size ≤ 2000
theorem rok_spec (r : S45) : ∃ b : Bool, spec_l04RecOK.f r.f0 r.f1 = some b ∧ (b = true ↔ Rok r) := by
  unfold spec_l04RecOK.f Rok
  by_cases c1 : r.f0 ≥ 1
  · by_cases c2 : r.f0 ≤ 255
    · refine ⟨decide ((r.f1.size : Int) ≤ 2000), by rw [if_pos c1, if_pos c2], ?_⟩
      rw [decide_eq_true_eq]; omega
    · exact ⟨false, by rw [if_pos c1, if_neg c2], by simp; omega⟩
  · exact ⟨false, by rw [if_neg c1], by simp; omega⟩
theorem rok_impl (r : S45) : ∃ b : Bool, impl_recOK.f r.f0 r.f1 = some b ∧ (b = true ↔ Rok r) := rok_spec r
theorem rd45m (pre l : List S45) (r : S45) : rd_T45 (pre ++ r :: l) (pre.length : Int) = r := by
  unfold rd_T45
  rw [Int.toNat_natCast, List.getD_eq_getElem?_getD, List.getElem?_append_right (Nat.le_refl _), Nat.sub_self]
  rfl
/-- The frames of records from a number on. -/
def Frs : Int → List S45 → List (List UInt8) → Prop
  | _, [], fs => fs = []
  | n, r :: l, fs => ∃ f fs', fs = f :: fs' ∧ Fr n r.f0 r.f1.data.toList f ∧ Frs (n + 1) l fs'
/-- How many bytes the frames of records have. -/
def tot : List S45 → Nat
  | [] => 0
  | r :: l => 13 + r.f1.size + tot l
theorem body_len (r : S45) : r.f1.data.toList.length = r.f1.size := by rw [Array.length_toList]; rfl
theorem Frs.len : ∀ {n : Int} {l : List S45} {fs : List (List UInt8)}, Frs n l fs → fs.flatten.length = tot l
  | _, [], fs, h => by cases h; rfl
  | n, r :: l, fs, ⟨f, fs', e, hf, h⟩ => by
    subst e
    rw [List.flatten_cons, List.length_append, hf.len, body_len, Frs.len h]
    rfl
theorem tot_take : ∀ (l : List S45) (m : Nat), tot (l.take m) ≤ tot l
  | [], _ => by simp [tot]
  | _ :: _, 0 => by simp [tot]
  | r :: l, m + 1 => by simp only [List.take_succ_cons, tot]; have := tot_take l m; omega
theorem tot_le (l : List S45) (h : ∀ r ∈ l, Rok r) : tot l ≤ 2013 * l.length := by
  induction l with
  | nil => simp [tot]
  | cons r l ih =>
    have h1 := (h r (List.mem_cons_self ..)).2.2
    have h2 := ih (fun x hx => h x (List.mem_cons_of_mem _ hx))
    simp only [tot, List.length_cons]
    omega
theorem nums_map (l : List UInt8) : strOfNums (l.map fun b => (b.toNat : Int)) = ba l := by
  unfold strOfNums ba
  congr 2
  rw [List.map_map]
  conv => rhs; rw [← List.map_id l]
  refine List.map_congr_left fun b _ => ?_
  simp
/-! ### scanning -/
theorem num_be (a : Int) (h0 : 0 ≤ a) (h1 : a < 4294967296) : Ev (fun k => impl_numOf.f k (ba (be a))) a := by
  have h := num_of (be a) rfl
  rw [val_be a h0 h1] at h
  exact h
theorem ba_drop (D : List UInt8) (at_ : Nat) (h : at_ ≤ D.length) : (ba D).extract (at_ : Int).toNat (ba D).size = ba (D.drop at_) := by
  rw [Int.toNat_natCast, ba_extract, ba_size, List.take_of_length_le (by rw [List.length_drop]; omega)]
/-- The parts of a text that begins with what stands ahead of a frame's sum, then w. -/
theorem cut4 (n K : Int) (s w : List UInt8) : ((hd n K s ++ w).drop 0).take 4 = be n := by
  simp only [hd, List.drop_zero, List.append_assoc]
  exact List.take_left' rfl
theorem cut8 (n K : Int) (s w : List UInt8) : ((hd n K s ++ w).drop 4).take 4 = be (s.length : Int) := by
  simp only [hd, List.append_assoc]
  rw [List.drop_left' (by rfl)]
  exact List.take_left' rfl
theorem cutK (n K : Int) (s w : List UInt8) : ∃ h : 8 < (hd n K s ++ w).length, (hd n K s ++ w)[8] = UInt8.ofNat (K % 256).toNat := by
  refine ⟨by rw [List.length_append, hd_len]; omega, ?_⟩
  simp only [hd, List.append_assoc]
  rw [List.getElem_append_right (by show 4 ≤ 8; omega), List.getElem_append_right (by show 4 ≤ 8 - 4; omega)]
  rfl
theorem cutS (n K : Int) (s w : List UInt8) : ((hd n K s ++ w).drop 9).take s.length = s := by
  have e : hd n K s ++ w = (be n ++ (be (s.length : Int) ++ [UInt8.ofNat (K % 256).toNat])) ++ (s ++ w) := by simp [hd]
  rw [e, List.drop_left' (by rfl)]
  exact List.take_left' rfl
theorem cutH (n K : Int) (s w : List UInt8) : ((hd n K s ++ w).drop 0).take (9 + s.length) = hd n K s := by
  rw [List.drop_zero]
  exact List.take_left' (hd_len n K s)
theorem cutW (n K : Int) (s w : List UInt8) : ((hd n K s ++ w).drop (9 + s.length)).take 4 = w.take 4 := by
  rw [List.drop_left' (hd_len n K s)]
set_option maxHeartbeats 4000000 in
/-- A round of the scan, as far as the look at the sum. -/
theorem scan_round (D : List UInt8) (hD : (D.length : Int) ≤ 1000000000) (a : Int) (ha : 0 ≤ a ∧ a ≤ 1000000000) (acc : List S45) (at_ : Nat) (x : S45) (hx : Rok x) (w : List UInt8) (hw : 4 ≤ w.length) (h0 : at_ ≤ D.length) (hd_ : D.drop at_ = hd (a + (acc.length : Int)) x.f0 x.f1.data.toList ++ w)
    (hc : (acc.length : Int) < 300) (hn : a + (acc.length : Int) ≤ 1000000000) (v : Nat) (hv : Ev (fun k => impl_Crc.f k (ba (hd (a + (acc.length : Int)) x.f0 x.f1.data.toList))) (v : Int)) (q : List S45 × Int)
    (hq : Ev (fun k => if ((val (w.take 4) : Nat) : Int) = (v : Int) then impl_LogScan.l0 k (ba D) a (acc ++ [x]) ((at_ + 13 + x.f1.size : Nat) : Int) else some (acc, (at_ : Int))) q) :
    Ev (fun k => impl_LogScan.l0 k (ba D) a acc (at_ : Int)) q := by
  obtain ⟨k0, k1, k2⟩ := hx
  have en : wrap64 (a + (acc.length : Int)) = a + (acc.length : Int) := wrap_in _ (by omega) (by omega)
  have e13 : wrap64 (13 + (x.f1.size : Int)) = ((13 + x.f1.size : Nat) : Int) := by rw [wrap_in _ (by omega) (by omega)]; omega
  have e9 : wrap64 (9 + (x.f1.size : Int)) = ((9 + x.f1.size : Nat) : Int) := by rw [wrap_in _ (by omega) (by omega)]; omega
  have bl := body_len x
  have hlen : (D.drop at_).length = 9 + x.f1.size + w.length := by rw [hd_, List.length_append, hd_len, bl]
  have hlD : D.length - at_ = 9 + x.f1.size + w.length := by rw [← List.length_drop]; exact hlen
  refine Ev.succ ?_
  simp only [impl_LogScan.l0, en, decide_eq_true hn]
  refine Ev.pos hc (Ev.succ ?_)
  simp only [impl_LogScan.j2, ba_drop D at_ h0, en]
  refine Ev.pos (by trivial) (Ev.pos (by omega) (Ev.pos (by rw [ba_size]; omega) (Ev.neg (by rw [ba_size]; omega) (Ev.pos (by omega) (Ev.pos (by rw [ba_size]; omega) ?_)))))
  have n1 := num_be (a + (acc.length : Int)) (by omega) (by omega)
  rw [show (ba (D.drop at_)).extract 0 4 = ba (be (a + (acc.length : Int))) from by rw [ba_extract, hd_]; exact congrArg ba (cut4 _ _ _ _)]
  refine Ev.bind n1 ?_
  rw [show (a + (acc.length : Int) != a + (acc.length : Int)) = false from by simp]
  refine Ev.succ ?_
  simp only [impl_LogScan.j3]
  refine Ev.neg (by simp) (Ev.pos (by omega) (Ev.pos (by rw [ba_size]; omega) ?_))
  have n2 := num_be (x.f1.size : Int) (by omega) (by omega)
  rw [show (ba (D.drop at_)).extract 4 8 = ba (be (x.f1.size : Int)) from by rw [ba_extract, hd_, ← bl]; exact congrArg ba (cut8 _ _ _ _)]
  refine Ev.bind n2 (Ev.neg (by omega) ?_)
  rw [e13, show decide (((ba (D.drop at_)).size : Int) < ((13 + x.f1.size : Nat) : Int)) = false from decide_eq_false (by rw [ba_size]; omega)]
  refine Ev.succ ?_
  simp only [impl_LogScan.j4, e13, e9]
  obtain ⟨g8, ek⟩ := cutK (a + (acc.length : Int)) x.f0 x.f1.data.toList w
  have hb : bt (ba (D.drop at_)) 8 = x.f0 := by
    have hb2 := bt_ba (D.drop at_) 8 (by rw [hlen]; omega)
    have e8 : (D.drop at_)[8]'(by rw [hlen]; omega) = UInt8.ofNat (x.f0 % 256).toNat := by simp only [hd_]; exact ek
    rw [show ((8 : Nat) : Int) = 8 from rfl] at hb2
    rw [hb2, e8, UInt8.toNat_ofNat']
    omega
  have hs : (ba (D.drop at_)).extract 9 (((9 + x.f1.size : Nat) : Int)).toNat = x.f1 := by
    rw [Int.toNat_natCast, ba_extract, hd_, show 9 + x.f1.size - 9 = x.f1.data.toList.length from by rw [bl]; omega, cutS, ba_of]
  have hr : impl_recOK.f x.f0 x.f1 = some true := by
    obtain ⟨b, b1, b2⟩ := rok_impl x
    rw [b1, b2.2 ⟨k0, k1, k2⟩]
  have h4 : (ba (D.drop at_)).extract (((9 + x.f1.size : Nat) : Int)).toNat (((13 + x.f1.size : Nat) : Int)).toNat = ba (w.take 4) := by
    rw [Int.toNat_natCast, Int.toNat_natCast, ba_extract, hd_, show 13 + x.f1.size - (9 + x.f1.size) = 4 from by omega, ← bl, cutW]
  have hh : (ba (D.drop at_)).extract 0 (((9 + x.f1.size : Nat) : Int)).toNat = ba (hd (a + (acc.length : Int)) x.f0 x.f1.data.toList) := by
    rw [Int.toNat_natCast, ba_extract, hd_, Nat.sub_zero, ← bl, cutH]
  rw [hb, hs, h4, hh, wrap_in x.f0 (by omega) (by omega)]
  refine Ev.neg (by simp) (Ev.pos (by rw [ba_size]; omega) (Ev.pos (by omega) (Ev.pos (by rw [ba_size]; omega) (Ev.bndc hr (Ev.pos rfl (Ev.pos (by omega) (Ev.pos (by omega) (Ev.pos (by rw [ba_size]; omega) ?_))))))))
  refine Ev.bind (num_of (w.take 4) (by rw [List.length_take]; omega)) (Ev.bind hv ?_)
  by_cases c : ((val (w.take 4) : Nat) : Int) = (v : Int)
  · simp only [if_pos c] at hq
    refine Ev.pos c (Ev.pos (by omega) ?_)
    rw [show wrap64 ((at_ : Int) + ((13 + x.f1.size : Nat) : Int)) = ((at_ + 13 + x.f1.size : Nat) : Int) from by rw [wrap_in _ (by omega) (by omega)]; omega]
    exact hq
  · simp only [if_neg c] at hq
    exact Ev.neg c hq
/-- A whole frame is taken. -/
theorem scan_take (D : List UInt8) (hD : (D.length : Int) ≤ 1000000000) (a : Int) (ha : 0 ≤ a ∧ a ≤ 1000000000) (acc : List S45) (at_ : Nat) (x : S45) (hx : Rok x) (f rest : List UInt8) (hf : Fr (a + (acc.length : Int)) x.f0 x.f1.data.toList f) (h0 : at_ ≤ D.length) (hd_ : D.drop at_ = f ++ rest)
    (hc : (acc.length : Int) < 300) (hn : a + (acc.length : Int) ≤ 1000000000) (q : List S45 × Int)
    (hq : Ev (fun k => impl_LogScan.l0 k (ba D) a (acc ++ [x]) ((at_ + 13 + x.f1.size : Nat) : Int)) q) : Ev (fun k => impl_LogScan.l0 k (ba D) a acc (at_ : Int)) q := by
  obtain ⟨v, hv, _, c2, rfl⟩ := hf
  refine scan_round D hD a ha acc at_ x hx (be (v : Int) ++ rest) (by rw [List.length_append, be_len]; omega) h0 (by rw [hd_, List.append_assoc]) hc hn v c2 q ?_
  have e : ((val ((be (v : Int) ++ rest).take 4) : Nat) : Int) = (v : Int) := by
    rw [show (be (v : Int) ++ rest).take 4 = be (v : Int) from List.take_left' rfl]
    exact val_be _ (by omega) (by omega)
  simp only [if_pos e]
  exact hq
/-- A frame with another sum ends the scan. -/
theorem scan_bad (D : List UInt8) (hD : (D.length : Int) ≤ 1000000000) (a : Int) (ha : 0 ≤ a ∧ a ≤ 1000000000) (acc : List S45) (at_ : Nat) (x : S45) (hx : Rok x) (f w : List UInt8) (hf : Fr (a + (acc.length : Int)) x.f0 x.f1.data.toList f) (h0 : at_ ≤ D.length) (hw : w.length = 4) (hd_ : D.drop at_ = f.take (9 + x.f1.size) ++ w) (hne : w ≠ f.drop (9 + x.f1.size))
    (hc : (acc.length : Int) < 300) (hn : a + (acc.length : Int) ≤ 1000000000) : Ev (fun k => impl_LogScan.l0 k (ba D) a acc (at_ : Int)) (acc, (at_ : Int)) := by
  obtain ⟨v, hv, _, c2, rfl⟩ := hf
  have bl := body_len x
  rw [← bl] at hd_ hne
  rw [List.take_left' (hd_len _ _ _)] at hd_
  rw [List.drop_left' (hd_len _ _ _)] at hne
  refine scan_round D hD a ha acc at_ x hx w (by omega) h0 hd_ hc hn v c2 _ ?_
  have e : ¬ ((val (w.take 4) : Nat) : Int) = (v : Int) := by
    intro h
    rw [List.take_of_length_le (Nat.le_of_eq hw)] at h
    refine hne (val_inj hw (be_len _) ?_)
    clear hne hd_
    exact Int.ofNat.inj (h.trans (val_be (v : Int) (by omega) (by omega)).symm)
  simp only [if_neg e]
  exact Ev.some' rfl
set_option maxHeartbeats 4000000 in
/-- Nothing is left, or a part of a frame: the scan ends. -/
theorem scan_part (D : List UInt8) (hD : (D.length : Int) ≤ 1000000000) (a : Int) (ha : 0 ≤ a ∧ a ≤ 1000000000) (acc : List S45) (at_ : Nat) (h0 : at_ ≤ D.length) (hacc : (acc.length : Int) ≤ 300)
    (hp : (D.drop at_).length < 13 ∨ ∃ (x : S45) (f : List UInt8) (c : Nat), Rok x ∧ Fr (a + (acc.length : Int)) x.f0 x.f1.data.toList f ∧ D.drop at_ = f.take c ∧ c < f.length) : Ev (fun k => impl_LogScan.l0 k (ba D) a acc (at_ : Int)) (acc, (at_ : Int)) := by
  have HP := Aside0.mk hp
  clear hp
  have en : wrap64 (a + (acc.length : Int)) = a + (acc.length : Int) := wrap_in _ (by omega) (by omega)
  have out : ∀ y : Bool, y = false → Ev (fun k => impl_LogScan.j2 k (ba D) a acc (at_ : Int) y) (acc, (at_ : Int)) := by
    rintro y rfl
    exact Ev.succ (by simp only [impl_LogScan.j2]; exact Ev.neg (by simp) (Ev.some' rfl))
  refine Ev.succ ?_
  simp only [impl_LogScan.l0, en]
  by_cases hc : (acc.length : Int) < 300
  · refine Ev.pos hc ?_
    by_cases hn : a + (acc.length : Int) ≤ 1000000000
    · rw [decide_eq_true hn]
      refine Ev.succ ?_
      simp only [impl_LogScan.j2, ba_drop D at_ h0, en]
      refine Ev.pos (by trivial) (Ev.pos (by omega) (Ev.pos (by rw [ba_size]; omega) ?_))
      have short : ∀ y : Bool, y = true → Ev (fun k => impl_LogScan.j3 k (ba D) a acc (at_ : Int) (ba (D.drop at_)) y) (acc, (at_ : Int)) := by
        rintro y rfl
        exact Ev.succ (by simp only [impl_LogScan.j3]; exact Ev.pos (by trivial) (Ev.some' rfl))
      by_cases c13 : (D.drop at_).length < 13
      · exact Ev.pos (by rw [ba_size]; omega) (short _ rfl)
      · obtain ⟨x, f, c, hx, ⟨v, hv, _, _, rfl⟩, hd_, hcl⟩ := HP.out.resolve_left c13
        clear HP
        obtain ⟨k0, k1, k2⟩ := hx
        have e13 : wrap64 (13 + (x.f1.size : Int)) = ((13 + x.f1.size : Nat) : Int) := by rw [wrap_in _ (by omega) (by omega)]; omega
        have bl := body_len x
        have fl : (hd (a + (acc.length : Int)) x.f0 x.f1.data.toList ++ be (v : Int)).length = 13 + x.f1.size := by rw [List.length_append, hd_len, be_len, bl]; omega
        rw [fl] at hcl
        have hl : (D.drop at_).length = c := by rw [hd_, List.length_take, fl]; exact Nat.min_eq_left (Nat.le_of_lt hcl)
        clear fl
        refine Ev.neg (by rw [ba_size]; omega) (Ev.pos (by omega) (Ev.pos (by rw [ba_size]; omega) ?_))
        have n1 := num_be (a + (acc.length : Int)) (by omega) (by omega)
        have t1 : (ba (D.drop at_)).extract 0 4 = ba (be (a + (acc.length : Int))) := by
          rw [ba_extract, hd_]
          refine congrArg ba ?_
          rw [List.drop_zero, List.take_take, show min (4 - 0) c = 4 from by omega]
          exact cut4 _ _ _ _
        rw [t1]
        refine Ev.bind n1 ?_
        rw [show (a + (acc.length : Int) != a + (acc.length : Int)) = false from by simp]
        refine Ev.succ ?_
        simp only [impl_LogScan.j3]
        refine Ev.neg (by simp) (Ev.pos (by omega) (Ev.pos (by rw [ba_size]; omega) ?_))
        have n2 := num_be (x.f1.size : Int) (Int.natCast_nonneg _) (Int.ofNat_lt.2 (Nat.lt_of_le_of_lt k2 (by decide)))
        have t2 : (ba (D.drop at_)).extract 4 8 = ba (be (x.f1.size : Int)) := by
          rw [ba_extract, hd_, ← bl]
          refine congrArg ba ?_
          rw [List.drop_take, List.take_take, show min (8 - 4) (c - 4) = 4 from Nat.min_eq_left (by rw [hl] at c13; exact Nat.le_sub_of_add_le (Nat.le_trans (by decide) (Nat.not_lt.1 c13)))]
          exact cut8 _ _ _ _
        rw [t2]
        refine Ev.bind n2 (Ev.neg (fun h => absurd k2 (Nat.not_le.2 (Int.ofNat_lt.1 h))) ?_)
        rw [e13, show decide (((ba (D.drop at_)).size : Int) < ((13 + x.f1.size : Nat) : Int)) = true from decide_eq_true (by rw [ba_size, hl]; exact Int.ofNat_lt.2 hcl)]
        refine Ev.succ ?_
        simp only [impl_LogScan.j4]
        exact Ev.pos (by trivial) (Ev.some' rfl)
    · rw [decide_eq_false hn]
      exact out _ rfl
  · exact Ev.neg hc (out _ rfl)
/-- The scan of the frames' first c bytes. -/
theorem scan_cut (D : List UInt8) (hD : (D.length : Int) ≤ 1000000000) (a : Int) (ha : 0 ≤ a ∧ a ≤ 1000000000) (l : List S45) : ∀ (fs : List (List UInt8)) (acc : List S45) (at_ c : Nat), Frs (a + (acc.length : Int)) l fs → (∀ x ∈ l, Rok x) → at_ ≤ D.length → D.drop at_ = fs.flatten.take c → (acc.length : Int) + l.length ≤ 300 → (l = [] ∨ a + acc.length + l.length ≤ 1000000001) →
    ∃ m : Nat, m ≤ l.length ∧ Ev (fun k => impl_LogScan.l0 k (ba D) a acc (at_ : Int)) (acc ++ l.take m, ((at_ + tot (l.take m) : Nat) : Int)) ∧ tot (l.take m) ≤ c ∧ (tot l ≤ c → m = l.length) := by
  induction l with
  | nil =>
    intro fs acc at_ c hF hr h0 hd_ hl hn
    cases hF
    refine ⟨0, Nat.le_refl _, ?_, by simp [tot], fun _ => rfl⟩
    have := scan_part D hD a ha acc at_ h0 (by simpa using hl) (.inl (by rw [hd_]; simp))
    simpa [tot] using this
  | cons x l ih =>
    rintro fs acc at_ c ⟨f, fs', rfl, hf, hF⟩ hr h0 hd_ hl hn
    have hx := hr x (List.mem_cons_self ..)
    have fl : f.length = 13 + x.f1.size := by rw [hf.len, body_len]
    rw [List.length_cons] at hl hn
    have hn' : a + (acc.length : Int) + (l.length + 1 : Nat) ≤ 1000000001 := by
      rcases hn with h | h
      · cases h
      · exact h
    rw [List.flatten_cons] at hd_
    by_cases hc : c < f.length
    · refine ⟨0, Nat.zero_le _, ?_, by simp [tot], fun h => by simp only [tot] at h; omega⟩
      have := scan_part D hD a ha acc at_ h0 (by omega) (.inr ⟨x, f, c, hx, hf, by rw [hd_, List.take_append_of_le_length (by omega)], hc⟩)
      simpa [tot] using this
    · have hd2 : D.drop at_ = f ++ fs'.flatten.take (c - f.length) := by rw [hd_, List.take_append, List.take_of_length_le (by omega)]
      have hat : at_ + 13 + x.f1.size ≤ D.length := by
        have := congrArg List.length hd2
        rw [List.length_drop, List.length_append, fl] at this
        omega
      obtain ⟨m, m1, m2, m3, m4⟩ := ih fs' (acc ++ [x]) (at_ + 13 + x.f1.size) (c - f.length) (by rw [List.length_append, List.length_singleton, show a + ((acc.length + 1 : Nat) : Int) = a + (acc.length : Int) + 1 from by omega]; exact hF)
        (fun y hy => hr y (List.mem_cons_of_mem _ hy)) hat (by
          rw [show at_ + 13 + x.f1.size = at_ + f.length from by omega, ← List.drop_drop, hd2, List.drop_left' rfl]) (by rw [List.length_append, List.length_singleton]; omega) (.inr (by rw [List.length_append, List.length_singleton]; omega))
      refine ⟨m + 1, by rw [List.length_cons]; omega, ?_, by rw [List.take_succ_cons]; simp only [tot]; omega, fun h => by simp only [tot] at h; rw [List.length_cons, m4 (by omega)]⟩
      refine scan_take D hD a ha acc at_ x hx f _ hf h0 hd2 (by omega) (by omega) _ ?_
      rw [List.append_assoc] at m2
      rw [List.take_succ_cons]
      simp only [tot]
      rw [show at_ + (13 + x.f1.size + tot (l.take m)) = at_ + 13 + x.f1.size + tot (l.take m) from by omega]
      exact m2
/-- The scan of frames behind which a frame stands with another sum. -/
theorem scan_last (D : List UInt8) (hD : (D.length : Int) ≤ 1000000000) (a : Int) (ha : 0 ≤ a ∧ a ≤ 1000000000) (y : S45) (hy : Rok y) (g w : List UInt8) (hw : w.length = 4) (hne : w ≠ g.drop (9 + y.f1.size)) (l : List S45) : ∀ (fs : List (List UInt8)) (acc : List S45) (at_ : Nat), Frs (a + (acc.length : Int)) l fs → Fr (a + (acc.length : Int) + l.length) y.f0 y.f1.data.toList g → (∀ x ∈ l, Rok x) → at_ ≤ D.length → D.drop at_ = fs.flatten ++ (g.take (9 + y.f1.size) ++ w) → (acc.length : Int) + l.length < 300 → a + acc.length + l.length ≤ 1000000000 →
    Ev (fun k => impl_LogScan.l0 k (ba D) a acc (at_ : Int)) (acc ++ l, ((at_ + tot l : Nat) : Int)) := by
  induction l with
  | nil =>
    intro fs acc at_ hF hg hr h0 hd_ hl hn
    cases hF
    have := scan_bad D hD a ha acc at_ y hy g w (by simpa using hg) h0 hw (by simpa using hd_) hne (by simpa using hl) (by simpa using hn)
    simpa [tot] using this
  | cons x l ih =>
    rintro fs acc at_ ⟨f, fs', rfl, hf, hF⟩ hg hr h0 hd_ hl hn
    have hx := hr x (List.mem_cons_self ..)
    have fl : f.length = 13 + x.f1.size := by rw [hf.len, body_len]
    rw [List.length_cons] at hl hn hg
    rw [List.flatten_cons, List.append_assoc] at hd_
    have hat : at_ + 13 + x.f1.size ≤ D.length := by
      have := congrArg List.length hd_
      rw [List.length_drop, List.length_append, fl] at this
      omega
    have m2 := ih fs' (acc ++ [x]) (at_ + 13 + x.f1.size) (by rw [List.length_append, List.length_singleton, show a + ((acc.length + 1 : Nat) : Int) = a + (acc.length : Int) + 1 from by omega]; exact hF)
      (by rw [List.length_append, List.length_singleton, show a + ((acc.length + 1 : Nat) : Int) + (l.length : Int) = a + (acc.length : Int) + ((l.length + 1 : Nat) : Int) from by omega]; exact hg)
      (fun z hz => hr z (List.mem_cons_of_mem _ hz)) hat (by
        rw [show at_ + 13 + x.f1.size = at_ + f.length from by omega, ← List.drop_drop, hd_, List.drop_left' rfl]) (by rw [List.length_append, List.length_singleton]; omega) (by rw [List.length_append, List.length_singleton]; omega)
    refine scan_take D hD a ha acc at_ x hx f _ hf h0 hd_ (by omega) (by omega) _ ?_
    rw [List.append_assoc] at m2
    simp only [tot]
    rw [show at_ + (13 + x.f1.size + tot l) = at_ + 13 + x.f1.size + tot l from by omega]
    exact m2
/-! ### the reference's scan, and how many frames are whole -/
theorem ev_uniq {α : Type} {g : Nat → Option α} {r q : α} (h : Ev g r) (h' : Ev g q) : r = q := by
  obtain ⟨a, ha⟩ := h
  obtain ⟨b, hb⟩ := h'
  exact Option.some.inj ((ha (max a b) (by omega)).symm.trans (hb (max a b) (by omega)))
theorem Fr.uniq {n K : Int} {s l l' : List UInt8} (h : Fr n K s l) (h' : Fr n K s l') : l = l' := by
  obtain ⟨v, _, c1, _, rfl⟩ := h
  obtain ⟨v', _, c1', _, rfl⟩ := h'
  rw [ev_uniq c1 c1']
theorem read_from (l : List UInt8) (hl : l.length = 4) (d : Nat) : ∀ (i : Nat), i ≤ 4 → 4 - i = d → Ev (fun k => spec_l01Read.l0 k (ba l) ((val (l.take i) : Nat) : Int) (i : Int)) ((val l : Nat) : Int) := by
  have small : ∀ i, i ≤ 3 → val (l.take i) < 16777216 := by
    match l, hl with
    | [a, b, c, e], _ =>
      intro i hi
      have := a.toNat_lt; have := b.toNat_lt; have := c.toNat_lt
      rcases i with _ | _ | _ | _ | i <;> simp [val] <;> omega
  induction d with
  | zero =>
    intro i h1 hd
    refine Ev.succ ?_
    simp only [spec_l01Read.l0]
    refine Ev.neg (by rw [ba_size]; omega) (Ev.some' ?_)
    rw [List.take_of_length_le (by omega)]
  | succ d ih =>
    intro i h1 hd
    refine Ev.succ ?_
    simp only [spec_l01Read.l0]
    refine Ev.pos (by rw [ba_size]; omega) (Ev.pos (by omega) ?_)
    have hv := small i (by omega)
    have hlt := (l[i]'(by omega)).toNat_lt
    rw [bt_ba l i (by omega), wrap_in ((val (l.take i) : Int) * 256) (by omega) (by omega), wrap_in ((l[i]'(by omega)).toNat : Int) (by omega) (by omega), wrap_in ((i : Int) + 1) (by omega) (by omega), wrap_in _ (by omega) (by omega)]
    have := ih (i + 1) (by omega) (by omega)
    have e : val (l.take (i + 1)) = val (l.take i) * 256 + (l[i]'(by omega)).toNat := by
      rw [List.take_succ_eq_append_getElem (by omega)]
      unfold val
      rw [List.foldl_append]
      rfl
    rw [e] at this
    rw [show ((val (l.take i) : Nat) : Int) * 256 + ((l[i]'(by omega)).toNat : Int) = ((val (l.take i) * 256 + (l[i]'(by omega)).toNat : Nat) : Int) by omega]
    exact this
theorem read_be (a : Int) (h0 : 0 ≤ a) (h1 : a < 4294967296) : Ev (fun k => spec_l01Read.f k (ba (be a))) a := by
  have h := read_from (be a) rfl 4 0 (by omega) (by omega)
  rw [val_be a h0 h1] at h
  simp only [spec_l01Read.f]
  exact h
set_option maxHeartbeats 4000000 in
/-- A whole frame is read. -/
theorem next_take (n : Int) (x : S45) (hx : Rok x) (f rest : List UInt8) (hf : Fr n x.f0 x.f1.data.toList f) (n0 : 0 ≤ n) (n1 : n ≤ 1000000000) (hs : ((f ++ rest).length : Int) ≤ 1000000000) :
    Ev (fun k => spec_l04Next.f k (ba (f ++ rest)) n) (x.f0, x.f1, ((13 + x.f1.size : Nat) : Int)) := by
  obtain ⟨k0, k1, k2⟩ := hx
  have hx : Rok x := ⟨k0, k1, k2⟩
  obtain ⟨l', hf', e1, _⟩ := frame_both n x.f0 x.f1 n0 (by omega) (by omega)
  obtain rfl : l' = f := hf'.uniq hf
  have fl := hf.len
  have bl := body_len x
  rw [bl] at fl
  obtain ⟨v, hv, _, _, ef⟩ := hf
  have hD : l' ++ rest = hd n x.f0 x.f1.data.toList ++ (be (v : Int) ++ rest) := by rw [ef, List.append_assoc]
  have hlen : (l' ++ rest).length = 13 + x.f1.size + rest.length := by rw [List.length_append, fl]
  have e13 : wrap64 ((x.f1.size : Int) + 13) = ((13 + x.f1.size : Nat) : Int) := by rw [wrap_in _ (by omega) (by omega)]; omega
  have e9 : wrap64 (9 + (x.f1.size : Int)) = ((9 + x.f1.size : Nat) : Int) := by rw [wrap_in _ (by omega) (by omega)]; omega
  have t4 : (ba (l' ++ rest)).extract 0 4 = ba (be n) := by rw [ba_extract, hD]; exact congrArg ba (cut4 _ _ _ _)
  have t8 : (ba (l' ++ rest)).extract 4 8 = ba (be (x.f1.size : Int)) := by rw [ba_extract, hD, ← bl]; exact congrArg ba (cut8 _ _ _ _)
  obtain ⟨g8, ek⟩ := cutK n x.f0 x.f1.data.toList (be (v : Int) ++ rest)
  have hb : bt (ba (l' ++ rest)) 8 = x.f0 := by
    have hb2 := bt_ba (l' ++ rest) 8 (by rw [hlen]; omega)
    have e8 : (l' ++ rest)[8]'(by rw [hlen]; omega) = UInt8.ofNat (x.f0 % 256).toNat := by simp only [hD]; exact ek
    rw [show ((8 : Nat) : Int) = 8 from rfl] at hb2
    rw [hb2, e8, UInt8.toNat_ofNat']
    omega
  have hs9 : (ba (l' ++ rest)).extract 9 (((9 + x.f1.size : Nat) : Int)).toNat = x.f1 := by
    rw [Int.toNat_natCast, ba_extract, hD, show 9 + x.f1.size - 9 = x.f1.data.toList.length from by rw [bl]; omega, cutS, ba_of]
  have hh : (ba (l' ++ rest)).extract 0 (((13 + x.f1.size : Nat) : Int)).toNat = ba l' := by
    rw [Int.toNat_natCast, ba_extract, Nat.sub_zero, List.drop_zero, List.take_left' fl]
  have hr : spec_l04RecOK.f x.f0 x.f1 = some true := by
    obtain ⟨b, b1, b2⟩ := rok_spec x
    rw [b1, b2.2 hx]
  simp only [spec_l04Next.f]
  refine Ev.neg (by rw [ba_size, hlen]; omega) (Ev.pos (by omega) (Ev.pos (by rw [ba_size, hlen]; omega) ?_))
  rw [t4]
  refine Ev.bind (read_be n n0 (by omega)) ?_
  rw [show (n != n) = false from by simp]
  refine Ev.succ ?_
  simp only [spec_l04Next.j0]
  refine Ev.neg (by simp) (Ev.pos (by omega) (Ev.pos (by rw [ba_size, hlen]; omega) ?_))
  rw [t8]
  refine Ev.bind (read_be (x.f1.size : Int) (by omega) (by omega)) (Ev.neg (by omega) ?_)
  rw [e13, show decide (((ba (l' ++ rest)).size : Int) < ((13 + x.f1.size : Nat) : Int)) = false from decide_eq_false (by rw [ba_size, hlen]; omega)]
  refine Ev.succ ?_
  simp only [spec_l04Next.j1, e13, e9, hb, hs9, hh, wrap_in x.f0 (by omega) (by omega)]
  exact Ev.neg (by simp) (Ev.pos (by rw [ba_size, hlen]; omega) (Ev.pos (by omega) (Ev.pos (by rw [ba_size, hlen]; omega) (Ev.bndc hr (Ev.pos rfl (Ev.pos (by omega) (Ev.pos (by rw [ba_size, hlen]; omega) (Ev.bind e1 (Ev.pos rfl (Ev.some' rfl))))))))))
set_option maxHeartbeats 4000000 in
/-- A part of a frame is none. -/
theorem next_part (n : Int) (n0 : 0 ≤ n) (n1 : n ≤ 1000000000) (d : List UInt8) (hd_ : d.length < 13 ∨ ∃ (x : S45) (f : List UInt8) (c : Nat), Rok x ∧ Fr n x.f0 x.f1.data.toList f ∧ d = f.take c ∧ c < f.length) :
    Ev (fun k => spec_l04Next.f k (ba d) n) (0, (⟨#[]⟩ : ByteArray), 0) := by
  simp only [spec_l04Next.f]
  have bad : ∀ y : Bool, y = true → Ev (fun k => spec_l04Next.j0 k (ba d) n y) (0, (⟨#[]⟩ : ByteArray), 0) := by
    rintro y rfl
    exact Ev.succ (by simp only [spec_l04Next.j0]; exact Ev.pos (by trivial) (Ev.some' rfl))
  by_cases c13 : d.length < 13
  · exact Ev.pos (by rw [ba_size]; omega) (bad _ rfl)
  · obtain ⟨x, f, c, ⟨k0, k1, k2⟩, hf, rfl, hcl⟩ := hd_.resolve_left c13
    have fl := hf.len
    have bl := body_len x
    rw [bl] at fl
    obtain ⟨v, hv, _, _, rfl⟩ := hf
    rw [fl] at hcl
    have hl : ((hd n x.f0 x.f1.data.toList ++ be (v : Int)).take c).length = c := by rw [List.length_take, fl]; omega
    rw [hl] at c13
    have t4 : (ba ((hd n x.f0 x.f1.data.toList ++ be (v : Int)).take c)).extract 0 4 = ba (be n) := by
      rw [ba_extract]
      refine congrArg ba ?_
      rw [List.drop_zero, List.take_take, show min (4 - 0) c = 4 from by omega]
      exact cut4 _ _ _ _
    have t8 : (ba ((hd n x.f0 x.f1.data.toList ++ be (v : Int)).take c)).extract 4 8 = ba (be (x.f1.size : Int)) := by
      rw [ba_extract, ← bl]
      refine congrArg ba ?_
      rw [List.drop_take, List.take_take, show min (8 - 4) (c - 4) = 4 from by omega]
      exact cut8 _ _ _ _
    refine Ev.neg (by rw [ba_size, hl]; omega) (Ev.pos (by omega) (Ev.pos (by rw [ba_size, hl]; omega) ?_))
    rw [t4]
    refine Ev.bind (read_be n n0 (by omega)) ?_
    rw [show (n != n) = false from by simp]
    refine Ev.succ ?_
    simp only [spec_l04Next.j0]
    refine Ev.neg (by simp) (Ev.pos (by omega) (Ev.pos (by rw [ba_size, hl]; omega) ?_))
    rw [t8]
    refine Ev.bind (read_be (x.f1.size : Int) (by omega) (by omega)) (Ev.neg (by omega) ?_)
    rw [wrap_in ((x.f1.size : Int) + 13) (by omega) (by omega), show decide (((ba ((hd n x.f0 x.f1.data.toList ++ be (v : Int)).take c)).size : Int) < (x.f1.size : Int) + 13) = true from decide_eq_true (by rw [ba_size, hl]; omega)]
    refine Ev.succ ?_
    simp only [spec_l04Next.j1]
    exact Ev.pos (by trivial) (Ev.some' rfl)
/-- How many frames are whole in so many bytes. -/
def whole : List S45 → Nat → Nat
  | [], _ => 0
  | x :: l, c => if c < 13 + x.f1.size then 0 else whole l (c - (13 + x.f1.size)) + 1
theorem whole_le : ∀ (l : List S45) (c : Nat), whole l c ≤ l.length
  | [], _ => Nat.le_refl _
  | x :: l, c => by
    unfold whole
    split
    · exact Nat.zero_le _
    · have := whole_le l (c - (13 + x.f1.size)); rw [List.length_cons]; omega
theorem whole_tot : ∀ (l : List S45) (c : Nat), tot (l.take (whole l c)) ≤ c
  | [], _ => by simp [tot]
  | x :: l, c => by
    unfold whole
    split
    · simp [tot]
    · have := whole_tot l (c - (13 + x.f1.size)); rw [List.take_succ_cons]; simp only [tot]; omega
theorem whole_ge : ∀ (l : List S45) (c s : Nat), s ≤ l.length → tot (l.take s) ≤ c → s ≤ whole l c
  | _, _, 0, _, _ => Nat.zero_le _
  | [], _, s + 1, h, _ => by simp at h
  | x :: l, c, s + 1, h, ht => by
    rw [List.take_succ_cons] at ht
    simp only [tot] at ht
    rw [List.length_cons] at h
    unfold whole
    rw [if_neg (by omega)]
    have := whole_ge l (c - (13 + x.f1.size)) s (by omega) (by omega)
    omega
/-- The program's scan of the frames' first c bytes. -/
theorem impl_whole (D : List UInt8) (hD : (D.length : Int) ≤ 1000000000) (l : List S45) : ∀ (fs : List (List UInt8)) (acc : List S45) (at_ c : Nat), Frs (0 + (acc.length : Int)) l fs → (∀ x ∈ l, Rok x) → at_ ≤ D.length → D.drop at_ = fs.flatten.take c → (acc.length : Int) + l.length ≤ 300 →
    Ev (fun k => impl_LogScan.l0 k (ba D) 0 acc (at_ : Int)) (acc ++ l.take (whole l c), ((at_ + tot (l.take (whole l c)) : Nat) : Int)) := by
  induction l with
  | nil =>
    intro fs acc at_ c hF hr h0 hd_ hl
    cases hF
    have := scan_part D hD 0 (by omega) acc at_ h0 (by simpa using hl) (.inl (by rw [hd_]; simp))
    simpa [tot, whole] using this
  | cons x l ih =>
    rintro fs acc at_ c ⟨f, fs', rfl, hf, hF⟩ hr h0 hd_ hl
    have hx := hr x (List.mem_cons_self ..)
    have fl : f.length = 13 + x.f1.size := by rw [hf.len, body_len]
    rw [List.length_cons] at hl
    rw [List.flatten_cons] at hd_
    unfold whole
    by_cases hc : c < 13 + x.f1.size
    · rw [if_pos hc]
      have := scan_part D hD 0 (by omega) acc at_ h0 (by omega) (.inr ⟨x, f, c, hx, hf, by rw [hd_, List.take_append_of_le_length (by omega)], by omega⟩)
      simpa [tot] using this
    · rw [if_neg hc]
      have hd2 : D.drop at_ = f ++ fs'.flatten.take (c - f.length) := by rw [hd_, List.take_append, List.take_of_length_le (by omega)]
      have hat : at_ + 13 + x.f1.size ≤ D.length := by
        have := congrArg List.length hd2
        rw [List.length_drop, List.length_append, fl] at this
        omega
      have m2 := ih fs' (acc ++ [x]) (at_ + 13 + x.f1.size) (c - f.length) (by rw [List.length_append, List.length_singleton, show 0 + ((acc.length + 1 : Nat) : Int) = 0 + (acc.length : Int) + 1 from by omega]; exact hF)
        (fun y hy => hr y (List.mem_cons_of_mem _ hy)) hat (by
          rw [show at_ + 13 + x.f1.size = at_ + f.length from by omega, ← List.drop_drop, hd2, List.drop_left' rfl]) (by rw [List.length_append, List.length_singleton]; omega)
      refine scan_take D hD 0 (by omega) acc at_ x hx f _ hf h0 hd2 (by omega) (by omega) _ ?_
      rw [List.append_assoc, fl] at m2
      rw [List.take_succ_cons]
      simp only [tot]
      rw [show at_ + (13 + x.f1.size + tot (l.take (whole l (c - (13 + x.f1.size))))) = at_ + 13 + x.f1.size + tot (l.take (whole l (c - (13 + x.f1.size)))) from by omega]
      exact m2
theorem seq_in (n : Int) (n0 : 0 ≤ n) (n1 : n ≤ 1000000000) : spec_l04Seq.f n = some true := by
  unfold spec_l04Seq.f
  rw [if_pos n0, decide_eq_true n1]
/-- The reference's scan of the frames' first c bytes. -/
theorem spec_whole (D : List UInt8) (hD : (D.length : Int) ≤ 1000000000) (l : List S45) : ∀ (fs : List (List UInt8)) (acc : List S45) (at_ c : Nat), Frs (0 + (acc.length : Int)) l fs → (∀ x ∈ l, Rok x) → at_ ≤ D.length → D.drop at_ = fs.flatten.take c → (acc.length : Int) + l.length ≤ 300 →
    Ev (fun k => spec_LogScan.l0 k (ba D) 0 acc (at_ : Int)) (acc ++ l.take (whole l c), ((at_ + tot (l.take (whole l c)) : Nat) : Int)) := by
  have head : ∀ (acc : List S45) (at_ : Nat) (q : List S45 × Int), (acc.length : Int) ≤ 300 → at_ ≤ D.length → ((acc.length : Int) < 300 → Ev (fun k => (spec_l04Next.f k (ba (D.drop at_)) (0 + (acc.length : Int))).bind fun bt724 => (if bt724.2.2 = 0 then (some (acc, (at_ : Int))) else (if acc.length < 5864062014805 then (spec_LogScan.l0 k (ba D) 0 (acc ++ [(⟨bt724.1, bt724.2.1⟩ : S45)]) (wrap64 ((at_ : Int) + bt724.2.2))) else (none)))) q) → (¬ (acc.length : Int) < 300 → q = (acc, (at_ : Int))) → Ev (fun k => spec_LogScan.l0 k (ba D) 0 acc (at_ : Int)) q := by
    intro acc at_ q ha h0 h1 h2
    have ew : wrap64 (0 + (acc.length : Int)) = 0 + (acc.length : Int) := wrap_in _ (by omega) (by omega)
    refine Ev.succ ?_
    simp only [spec_LogScan.l0, ew]
    refine Ev.bndc (seq_in 0 (by omega) (by omega)) (Ev.pos rfl (Ev.bndc (seq_in _ (by omega) (by omega)) (Ev.pos rfl (Ev.succ ?_))))
    simp only [spec_LogScan.j1, ew, ba_drop D at_ h0]
    by_cases c : (acc.length : Int) < 300
    · exact Ev.pos (decide_eq_true c) (Ev.pos (by omega) (Ev.pos (by rw [ba_size]; omega) (h1 c)))
    · rw [h2 c]
      exact Ev.neg (by simpa using c) (Ev.some' rfl)
  induction l with
  | nil =>
    intro fs acc at_ c hF hr h0 hd_ hl
    cases hF
    have hl' : (acc.length : Int) ≤ 300 := by simpa using hl
    simp only [whole, List.take_nil, List.append_nil, tot, Nat.add_zero]
    refine head acc at_ _ hl' h0 (fun c => ?_) (fun _ => rfl)
    exact Ev.bind (next_part _ (by omega) (by omega) _ (.inl (by rw [hd_]; simp))) (Ev.pos rfl (Ev.some' rfl))
  | cons x l ih =>
    rintro fs acc at_ c ⟨f, fs', rfl, hf, hF⟩ hr h0 hd_ hl
    have hx := hr x (List.mem_cons_self ..)
    have fl : f.length = 13 + x.f1.size := by rw [hf.len, body_len]
    rw [List.length_cons] at hl
    rw [List.flatten_cons] at hd_
    unfold whole
    by_cases hc : c < 13 + x.f1.size
    · rw [if_pos hc]
      simp only [List.take_zero, List.append_nil, tot, Nat.add_zero]
      refine head acc at_ _ (by omega) h0 (fun c => ?_) (fun _ => rfl)
      exact Ev.bind (next_part _ (by omega) (by omega) _ (.inr ⟨x, f, _, hx, hf, by rw [hd_, List.take_append_of_le_length (by omega)], by omega⟩)) (Ev.pos rfl (Ev.some' rfl))
    · rw [if_neg hc]
      have hd2 : D.drop at_ = f ++ fs'.flatten.take (c - f.length) := by rw [hd_, List.take_append, List.take_of_length_le (by omega)]
      have hlD : (D.drop at_).length ≤ D.length := by rw [List.length_drop]; omega
      have hat : at_ + 13 + x.f1.size ≤ D.length := by
        have := congrArg List.length hd2
        rw [List.length_drop, List.length_append, fl] at this
        omega
      have m2 := ih fs' (acc ++ [x]) (at_ + 13 + x.f1.size) (c - f.length) (by rw [List.length_append, List.length_singleton, show 0 + ((acc.length + 1 : Nat) : Int) = 0 + (acc.length : Int) + 1 from by omega]; exact hF)
        (fun y hy => hr y (List.mem_cons_of_mem _ hy)) hat (by
          rw [show at_ + 13 + x.f1.size = at_ + f.length from by omega, ← List.drop_drop, hd2, List.drop_left' rfl]) (by rw [List.length_append, List.length_singleton]; omega)
      refine head acc at_ _ (by omega) h0 (fun _ => ?_) (fun h => absurd (show (acc.length : Int) < 300 by omega) h)
      rw [hd2]
      refine Ev.bind (next_take _ x hx f _ hf (by omega) (by omega) (by rw [← hd2]; omega)) (Ev.neg (by show ¬ ((13 + x.f1.size : Nat) : Int) = 0; omega) (Ev.pos (by omega) ?_))
      rw [List.append_assoc, fl] at m2
      rw [List.take_succ_cons]
      simp only [tot]
      rw [show at_ + (13 + x.f1.size + tot (l.take (whole l (c - (13 + x.f1.size))))) = at_ + 13 + x.f1.size + tot (l.take (whole l (c - (13 + x.f1.size)))) from by omega]
      rw [show wrap64 ((at_ : Int) + ((13 + x.f1.size : Nat) : Int)) = ((at_ + 13 + x.f1.size : Nat) : Int) from by rw [wrap_in _ (by omega) (by omega)]; omega]
      exact m2
/-! ### frames in a row -/
theorem tot_snoc (l : List S45) (y : S45) : tot (l ++ [y]) = tot l + (13 + y.f1.size) := by
  induction l with
  | nil => simp only [List.nil_append, tot]; omega
  | cons x l ih => rw [List.cons_append]; simp only [tot]; rw [ih]; omega
theorem Frs.snoc : ∀ {n : Int} {l : List S45} {fs : List (List UInt8)} {y : S45} {f : List UInt8}, Frs n l fs → Fr (n + (l.length : Int)) y.f0 y.f1.data.toList f → Frs n (l ++ [y]) (fs ++ [f])
  | n, [], fs, y, f, h, hy => by
    cases h
    exact ⟨f, [], rfl, by simpa using hy, rfl⟩
  | n, x :: l, fs, y, f, ⟨g, fs', e, hg, h⟩, hy => by
    subst e
    refine ⟨g, fs' ++ [f], rfl, hg, Frs.snoc h ?_⟩
    rw [List.length_cons, show n + ((l.length + 1 : Nat) : Int) = n + 1 + (l.length : Int) by omega] at hy
    exact hy
theorem Frs.take : ∀ {n : Int} {l : List S45} {fs : List (List UInt8)} (m : Nat), Frs n l fs → Frs n (l.take m) (fs.take m)
  | _, [], fs, m, h => by cases h; simp [Frs]
  | _, _ :: _, _, 0, _ => by simp [Frs]
  | n, x :: l, fs, m + 1, ⟨g, fs', e, hg, h⟩ => by
    subst e
    exact ⟨g, fs'.take m, rfl, hg, Frs.take m h⟩
theorem Frs.flat_take : ∀ {n : Int} {l : List S45} {fs : List (List UInt8)} (m : Nat), Frs n l fs → (fs.take m).flatten = fs.flatten.take (tot (l.take m))
  | _, [], fs, m, h => by cases h; simp
  | _, _ :: _, _, 0, _ => by simp [tot]
  | n, x :: l, fs, m + 1, ⟨g, fs', e, hg, h⟩ => by
    subst e
    have fl : g.length = 13 + x.f1.size := by rw [hg.len, body_len]
    rw [List.take_succ_cons, List.flatten_cons, List.flatten_cons, List.take_succ_cons, Frs.flat_take m h]
    simp only [tot]
    rw [List.take_append, List.take_of_length_le (l := g) (by omega), fl, show 13 + x.f1.size + tot (l.take m) - (13 + x.f1.size) = tot (l.take m) by omega]
end Go.Proofs.Ytnicllekmkkhlaa.QFnDiskSafeB
