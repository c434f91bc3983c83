/- The program's NodeCompact and the reference's answer alike at every node. No condition. -/
import Derived.Test.YtkfjgloalfpcmaaNodeFnExactNodeOK
import Derived.Test.YtkfjgloalfpcmaaCompL
import Derived.Test.YtkfjgloalfpcmaaCrcS
import Derived.Test.YtkfjgloalfpcmaaNodeMark
namespace Go.Proofs.Ytkfjgloalfpcmaa.Pure
set_option linter.unusedVariables false
set_option linter.unusedSimpArgs false
open Go.RowKit Go.Proofs.Ytkfjgloalfpcmaa.QFnExactNodeOK Go.Proofs.YtkfjgloalfpcmaaW.PrintWords Go.Proofs.YtkfjgloalfpcmaaU Go.Proofs.Ytkfjgloalfpcmaa.QFnExactNodeOKG Go.Proofs.Ytkfjgloalfpcmaa.QFnExactNodeOKM
theorem ints_to_from (l : List Int) (hl : l.length ≤ 1048576) (d : Nat) : ∀ i : Nat, i ≤ l.length → l.length - i = d →
    Ev (fun k => laws_toIntS.l0 k l ((l.take i).map id ++ List.replicate (l.length - i) 0) i) l := by
  induction d with
  | zero =>
    intro i hi hd
    obtain rfl : i = l.length := by omega
    refine Ev.succ ?_
    simp only [laws_toIntS.l0]
    refine Ev.neg (by omega) (Ev.some' ?_)
    rw [fill_all]; simp
  | succ d ih =>
    intro i hi hd
    have hlt : i < l.length := by omega
    refine Ev.succ ?_
    simp only [laws_toIntS.l0]
    rw [fill_len _ _ _ _ hi]
    refine Ev.pos (by omega) (Ev.pos (by omega) (Ev.pos (by omega) ?_))
    rw [wrap_in _ (by omega) (by omega), rd_get l _ (by simpa using hlt)]
    have hs := fill_set (f := id) (0 : Int) l i hlt
    simp only [Int.toNat_natCast]
    rw [show l[i] = id l[i] from rfl, hs]
    exact ih (i + 1) (by omega) (by omega)
theorem ints_to (l : List Int) (hl : l.length ≤ 1048576) : Ev (fun k => laws_toIntS.f k l) l := by
  simp only [laws_toIntS.f]
  refine Ev.pos (by omega) (Ev.pos (by simp only [Int.toNat_natCast]; omega) ?_)
  have h := ints_to_from l hl l.length 0 (by omega) (by omega)
  rw [← fill_zero] at h
  exact h
theorem ints_eq_from (l : List Int) (hl : l.length ≤ 1048576) (d : Nat) : ∀ i : Nat, i ≤ l.length → l.length - i = d → Ev (fun k => laws_eqIntS.l0 k l l i) true := by
  induction d with
  | zero =>
    intro i hi hd
    refine Ev.succ ?_
    simp only [laws_eqIntS.l0]
    exact Ev.neg (by omega) (Ev.some' rfl)
  | succ d ih =>
    intro i hi hd
    refine Ev.succ ?_
    simp only [laws_eqIntS.l0]
    refine Ev.pos (by omega) (Ev.pos (by omega) (Ev.pos (by omega) (Ev.pos (by trivial) ?_)))
    rw [wrap_in _ (by omega) (by omega)]
    exact ih (i + 1) (by omega) (by omega)
theorem ints_eq (l : List Int) (hl : l.length ≤ 1048576) : Ev (fun k => laws_eqIntS.f k l l) true := by
  simp only [laws_eqIntS.f]
  exact Ev.pos (by trivial) (ints_eq_from l hl l.length 0 (by omega) (by omega))

/-! ### the copy of a slice of S88 -/
def cv_Entry (x : S88) : S54 := ⟨x.f0, x.f1, x.f2, x.f3, x.f4⟩
theorem rdto_Entry (l : List S88) (i : Nat) (h : i < l.length) : rd_T88 l (i : Int) = l[i] := by
  unfold rd_T88
  rw [Int.toNat_natCast, List.getD_eq_getElem?_getD, List.getElem?_eq_getElem h]
  rfl
theorem tofrom_Entry (l : List S88) (hl : (l.length : Int) ≤ 1048576) (d : Nat) : ∀ (i : Nat), i ≤ l.length → l.length - i = d →
    Ev (fun k => laws_toEntryS.l0 k l ((l.take i).map cv_Entry ++ List.replicate (l.length - i) z54) (i : Int)) (l.map cv_Entry) := by
  induction d with
  | zero =>
    intro i h1 hd
    have hi : i = l.length := by omega
    refine Ev.succ ?_
    simp only [laws_toEntryS.l0]
    refine Ev.neg (by omega) (Ev.some' ?_)
    subst hi
    rw [fill_all]
  | succ d ih =>
    intro i h1 hd
    refine Ev.succ ?_
    simp only [laws_toEntryS.l0]
    refine Ev.pos (by omega) (Ev.pos (by omega) (Ev.bndc rfl (Ev.pos (by rw [fill_len cv_Entry _ l i h1]; omega) ?_)))
    rw [wrap_in ((i : Int) + 1) (by omega) (by omega), rdto_Entry l _ (by omega)]
    have := ih (i + 1) (by omega) (by omega)
    have e := fill_set cv_Entry z54 l i (by omega)
    simp only [Int.toNat_natCast]
    rw [show (⟨(l[i]).f0, (l[i]).f1, (l[i]).f2, (l[i]).f3, (l[i]).f4⟩ : S54) = cv_Entry l[i] from rfl, e]
    exact this
theorem to_Entry (l : List S88) (hl : (l.length : Int) ≤ 1048576) : Ev (fun k => laws_toEntryS.f k l) (l.map cv_Entry) := by
  simp only [laws_toEntryS.f]
  refine Ev.pos (by omega) (Ev.pos (by omega) ?_)
  have := tofrom_Entry l hl l.length 0 (by omega) (by omega)
  rw [← fill_zero] at this
  simpa using this
/-! ### a slice of S54 is the same as itself -/
theorem eqOne_Entry (x : S54) : laws_eqEntry.f x.f0 x.f1 x.f2 x.f3 x.f4 x.f0 x.f1 x.f2 x.f3 x.f4 = some true := by
  unfold laws_eqEntry.f
  simp
theorem eqfrom_Entry (l : List S54) (hl : (l.length : Int) ≤ 1048576) (d : Nat) : ∀ (i : Int), 0 ≤ i → i ≤ l.length → (l.length : Int) - i = d → Ev (fun k => laws_eqEntryS.l0 k l l i) true := by
  induction d with
  | zero =>
    intro i h0 h1 hd
    exact Ev.succ (by simp only [laws_eqEntryS.l0]; exact Ev.neg (by omega) (Ev.some' rfl))
  | succ d ih =>
    intro i h0 h1 hd
    refine Ev.succ ?_
    simp only [laws_eqEntryS.l0]
    refine Ev.pos (by omega) (Ev.pos h0 (Ev.pos (by omega) (Ev.bndc (b := true) (eqOne_Entry _) (Ev.pos rfl ?_))))
    rw [wrap_in (i + 1) (by omega) (by omega)]
    exact ih (i + 1) (by omega) (by omega) (by omega)
theorem eq_Entry (l : List S54) (hl : (l.length : Int) ≤ 1048576) : Ev (fun k => laws_eqEntryS.f k l l) true := by
  simp only [laws_eqEntryS.f]
  exact Ev.pos (by trivial) (eqfrom_Entry l hl l.length 0 (by omega) (by omega) (by omega))
theorem sz_from (l : List S88) (hl : l.length ≤ 1048576) (hs : ∀ x ∈ l, x.f2.size ≤ 9223372036854775807) (d : Nat) : ∀ (i x : Int), 0 ≤ i → i ≤ l.length → (l.length : Int) - i = d → 0 ≤ x → x ≤ 1048576 → ∃ z, Ev (fun k => laws_szEntryS.l0 k l x i) z ∧ z ≤ 1048576 ∧ (0 ≤ z → ∀ j : Int, i ≤ j → j < l.length → (rd_T88 l j).f2.size ≤ 1048576) := by
  induction d with
  | zero =>
    intro i x h0 h1 hd hx0 hx1
    exact ⟨x, Ev.succ (by simp only [laws_szEntryS.l0]; exact Ev.neg (by omega) (Ev.some' rfl)), hx1, fun _ j h2 h3 => by omega⟩
  | succ d ih =>
    intro i x h0 h1 hd hx0 hx1
    have ew := wrap_in (i + 1) (by omega) (by omega)
    have hm : (rd_T88 l i).f2.size ≤ 9223372036854775807 := by
      have hi : i.toNat < l.length := by omega
      have e : rd_T88 l i = l[i.toNat] := by unfold rd_T88; rw [List.getD_eq_getElem?_getD, List.getElem?_eq_getElem hi]; rfl
      rw [e]
      exact hs _ (List.getElem_mem hi)
    have ez : laws_szEntry.f (rd_T88 l i).f0 (rd_T88 l i).f1 (rd_T88 l i).f2 (rd_T88 l i).f3 (rd_T88 l i).f4 x = some (if x - ((rd_T88 l i).f2.size : Int) < 0 then -1 else x - ((rd_T88 l i).f2.size : Int)) := by
      unfold laws_szEntry.f
      rw [wrap_in (x - ((rd_T88 l i).f2.size : Int)) (by omega) (by omega)]
      split <;> rfl
    by_cases c : x - ((rd_T88 l i).f2.size : Int) < 0
    · rw [if_pos c] at ez
      refine ⟨-1, Ev.succ ?_, by omega, fun h => by omega⟩
      simp only [laws_szEntryS.l0]
      exact Ev.pos (by omega) (Ev.pos h0 (Ev.bndc ez (Ev.pos (by omega) (Ev.some' rfl))))
    · rw [if_neg c] at ez
      obtain ⟨z, hz, hl, hq⟩ := ih (i + 1) (x - ((rd_T88 l i).f2.size : Int)) (by omega) (by omega) (by omega) (by omega) (by omega)
      refine ⟨z, Ev.succ ?_, hl, fun h j h2 h3 => ?_⟩
      rotate_left
      · rcases Int.lt_or_eq_of_le h2 with h4 | h4
        · exact hq h j (by omega) h3
        · subst h4; omega
      simp only [laws_szEntryS.l0, ew]
      exact Ev.pos (by omega) (Ev.pos h0 (Ev.bndc ez (Ev.neg (by omega) hz)))
theorem szI (l : List Int) (x : Int) (hl : l.length ≤ 9223372036854775807) (hx : x ≤ 1048576) (hx0 : 0 ≤ x) : laws_szIntS.f l x = some (if x - (l.length : Int) < 0 then -1 else x - (l.length : Int)) := by
  unfold laws_szIntS.f
  rw [wrap_in (x - (l.length : Int)) (by omega) (by omega)]
  split <;> rfl
section
variable (a0 a1 a2 a3 a4 : Int) (l5 : List S88) (a6 a7 a8 a9 a10 a11 a12 a13 : Int) (l14 l15 : List Int)
theorem sz_node (h5 : l5.length ≤ 9223372036854775807) (hs : ∀ x ∈ l5, x.f2.size ≤ 9223372036854775807) (h14 : l14.length ≤ 9223372036854775807) (h15 : l15.length ≤ 9223372036854775807) :
    ∃ z, Ev (fun k => laws_szNode.f k a0 a1 a2 a3 a4 l5 a6 a7 a8 a9 a10 a11 a12 a13 l14 l15 1048576) z ∧ (0 ≤ z → (l5.length : Int) ≤ 1048576 ∧ (l14.length : Int) ≤ 1048576 ∧ (l15.length : Int) ≤ 1048576 ∧ ∀ j : Int, 0 ≤ j → j < l5.length → (rd_T88 l5 j).f2.size ≤ 1048576) := by
  simp only [laws_szNode.f, laws_szEntryS.f]
  rw [wrap_in (1048576 - (l5.length : Int)) (by omega) (by omega)]
  by_cases c : 1048576 - (l5.length : Int) < 0
  · exact ⟨-1, Ev.bind (Ev.pos c (Ev.some' rfl)) (Ev.pos (by omega) (Ev.some' rfl)), fun h => by omega⟩
  · obtain ⟨z, hz, zl, zq⟩ := sz_from l5 (by omega) hs l5.length 0 (1048576 - (l5.length : Int)) (by omega) (by omega) (by omega) (by omega) (by omega)
    by_cases c1 : z < 0
    · exact ⟨-1, Ev.bind (Ev.neg c hz) (Ev.pos c1 (Ev.some' rfl)), fun h => by omega⟩
    · have e14 := szI l14 z h14 zl (by omega)
      by_cases c2 : z - (l14.length : Int) < 0
      · rw [if_pos c2] at e14
        exact ⟨-1, Ev.bind (Ev.neg c hz) (Ev.neg c1 (Ev.bndc e14 (Ev.pos (by omega) (Ev.some' rfl)))), fun h => by omega⟩
      · rw [if_neg c2] at e14
        have e15 := szI l15 (z - (l14.length : Int)) h15 (by omega) (by omega)
        by_cases c3 : z - (l14.length : Int) - (l15.length : Int) < 0
        · rw [if_pos c3] at e15
          exact ⟨-1, Ev.bind (Ev.neg c hz) (Ev.neg c1 (Ev.bndc e14 (Ev.neg c2 (Ev.bndc e15 (Ev.pos (by omega) (Ev.some' rfl)))))), fun h => by omega⟩
        · rw [if_neg c3] at e15
          exact ⟨_, Ev.bind (Ev.neg c hz) (Ev.neg c1 (Ev.bndc e14 (Ev.neg c2 (Ev.bndc e15 (Ev.neg c3 (Ev.some' rfl)))))), fun h => ⟨by omega, by omega, by omega, zq (by omega)⟩⟩
theorem to_node (h5 : (l5.length : Int) ≤ 1048576) (h14 : (l14.length : Int) ≤ 1048576) (h15 : (l15.length : Int) ≤ 1048576) :
    Ev (fun k => laws_toNode.f k a0 a1 a2 a3 a4 l5 a6 a7 a8 a9 a10 a11 a12 a13 l14 l15) (a0, a1, a2, a3, a4, l5.map cv_Entry, a6, a7, a8, a9, a10, a11, a12, a13, l14, l15) := by
  simp only [laws_toNode.f]
  exact Ev.bind (to_Entry l5 h5) (Ev.bind (ints_to l14 (by omega)) (Ev.bind (ints_to l15 (by omega)) (Ev.some' rfl)))
theorem eq_node (l5 : List S54) (h5 : (l5.length : Int) ≤ 1048576) (h14 : (l14.length : Int) ≤ 1048576) (h15 : (l15.length : Int) ≤ 1048576) :
    Ev (fun k => laws_eqNode.f k a0 a1 a2 a3 a4 l5 a6 a7 a8 a9 a10 a11 a12 a13 l14 l15 a0 a1 a2 a3 a4 l5 a6 a7 a8 a9 a10 a11 a12 a13 l14 l15) true := by
  simp only [laws_eqNode.f]
  exact Ev.pos (by trivial) (Ev.pos (by trivial) (Ev.pos (by trivial) (Ev.pos (by trivial) (Ev.pos (by trivial) (Ev.bind (eq_Entry l5 h5) (Ev.pos (by trivial) (Ev.pos (by trivial) (Ev.pos (by trivial) (Ev.pos (by trivial) (Ev.pos (by trivial) (Ev.pos (by trivial) (Ev.pos (by trivial) (Ev.pos (by trivial) (Ev.pos (by trivial) (Ev.bind (ints_eq l14 (by omega)) (Ev.pos (by trivial) (Ev.bind (ints_eq l15 (by omega)) (Ev.pos (by trivial) (Ev.some' rfl)))))))))))))))))))
end
theorem bytes_from (j : Nat) : ∀ (n : Int) (xs : List Int), 0 ≤ n → n ≤ 9223372036854775807 → j ≤ xs.length → xs.length ≤ 8 →
    ∃ b : ByteArray, b.size = xs.length ∧ Ev (fun k => spec_l01Bytes.l0 k n xs ((j : Int) - 1)) b ∧ Ev (fun k => impl_bytesOf.l0 k n xs ((j : Int) - 1)) b := by
  induction j with
  | zero =>
    intro n xs h0 h1 hj hx
    refine ⟨strOfNums xs, strOfNums_size xs, Ev.succ ?_, Ev.succ ?_⟩
    · simp only [spec_l01Bytes.l0]; exact Ev.neg (by omega) (Ev.some' rfl)
    · simp only [impl_bytesOf.l0]; exact Ev.neg (by omega) (Ev.some' rfl)
  | succ j ih =>
    intro n xs h0 h1 hj hx
    obtain ⟨b, hb, e1, e2⟩ := ih (n / 256) (xs.set j (n % 256)) (by omega) (by omega) (by rw [List.length_set]; omega) (by rw [List.length_set]; omega)
    rw [List.length_set] at hb
    refine ⟨b, hb, Ev.succ ?_, Ev.succ ?_⟩
    · simp only [spec_l01Bytes.l0]
      refine Ev.pos (by omega) (Ev.pos (by omega) (Ev.pos (by omega) ?_))
      rw [Int.tdiv_eq_ediv_of_nonneg h0, tmod_nn _ _ h0, wrap_in (n / 256) (by omega) (by omega), wrap_in (((j + 1 : Nat) : Int) - 1 - 1) (by omega) (by omega), show (((j + 1 : Nat) : Int) - 1).toNat = j by omega, show n % 256 % 256 = n % 256 by omega, show ((j + 1 : Nat) : Int) - 1 - 1 = (j : Int) - 1 by omega]
      exact e1
    · simp only [impl_bytesOf.l0]
      refine Ev.pos (by omega) (Ev.pos (by omega) (Ev.pos (by omega) ?_))
      rw [wrap_in (((j + 1 : Nat) : Int) - 1 - 1) (by omega) (by omega), show (((j + 1 : Nat) : Int) - 1).toNat = j by omega, show ((j + 1 : Nat) : Int) - 1 - 1 = (j : Int) - 1 by omega]
      exact e2
theorem bytes_both (n : Int) (h0 : 0 ≤ n) (h1 : n ≤ 9223372036854775807) :
    ∃ b : ByteArray, b.size = 4 ∧ Ev (fun k => spec_l01Bytes.f k n 4) b ∧ Ev (fun k => impl_bytesOf.f k n 4) b := by
  obtain ⟨b, hb, e1, e2⟩ := bytes_from 4 n (List.replicate 4 0) h0 h1 (by simp) (by simp)
  rw [List.length_replicate] at hb
  refine ⟨b, hb, ?_, ?_⟩
  · simp only [spec_l01Bytes.f]
    refine Ev.pos (by omega) (Ev.pos (by omega) ?_)
    rw [wrap_in _ (by omega) (by omega)]
    exact e1
  · simp only [impl_bytesOf.f]
    refine Ev.pos (by omega) (Ev.pos (by omega) ?_)
    rw [wrap_in _ (by omega) (by omega)]
    exact e2
theorem sum_both (a0 a1 a2 a3 a4 : Int) (l : List S54) (b a7 a8 a9 a10 a11 a12 a13 : Int) (l14 l15 : List Int) (hl : (l.length : Int) ≤ 200) (hz : ∀ j : Int, 0 ≤ j → j < l.length → (rd_T54 l j).f2.size ≤ 1048576) (u : Int) (hb : 0 ≤ b ∧ b ≤ 1000000) (hu : b ≤ u ∧ u ≤ b + l.length) (d : Nat) :
    ∀ (i s : Int), 0 ≤ i → i ≤ u - b → u - b - i = d → 0 ≤ s → s ≤ 4294967295 →
      ∃ r, Ev (fun k => spec_l05SumAt.l0 k u s i a0 a1 a2 a3 a4 l b a7 a8 a9 a10 a11 a12 a13 l14 l15) r ∧ Ev (fun k => impl_NodeSum.l0 k l b u s (b + 1 + i)) r := by
  induction d with
  | zero =>
    intro i s h0 h1 hd s0 s1
    have stop : ∀ x : Bool, x = false → Ev (fun k => spec_l05SumAt.j1 k u s i x a0 a1 a2 a3 a4 l b a7 a8 a9 a10 a11 a12 a13 l14 l15) s := by
      rintro x rfl
      exact Ev.succ (by simp only [spec_l05SumAt.j1]; exact Ev.neg (by simp) (Ev.some' rfl))
    refine ⟨s, Ev.succ ?_, Ev.succ ?_⟩
    · simp only [spec_l05SumAt.l0]
      rw [wrap_in (b + i) (by omega) (by omega)]
      by_cases c : i < (l.length : Int)
      · exact Ev.pos c (stop _ (decide_eq_false (by omega)))
      · exact Ev.neg c (stop _ rfl)
    · simp only [impl_NodeSum.l0]
      exact Ev.neg (by omega) (Ev.some' rfl)
  | succ d ih =>
    intro i s h0 h1 hd s0 s1
    have w1 : wrap64 (i + 1) = i + 1 := wrap_in _ (by omega) (by omega)
    have w2 : wrap64 (b + 1 + i + 1) = b + 1 + (i + 1) := by rw [wrap_in _ (by omega) (by omega)]; omega
    have w3 : wrap64 (wrap64 (b + 1 + i - b) - 1) = i := by rw [wrap_in (b + 1 + i - b) (by omega) (by omega), wrap_in _ (by omega) (by omega)]; omega
    have S : ∀ r, Ev (fun k => if (rd_T54 l i).f1 = 2 then ((spec_l01Bytes.f k s 4).bind fun t => (if t.size + (rd_T54 l i).f2.size ≤ 9223372036854775807 then ((spec_Crc.f k (t ++ (rd_T54 l i).f2)).bind fun c => (spec_l05SumAt.l0 k u c (i + 1) a0 a1 a2 a3 a4 l b a7 a8 a9 a10 a11 a12 a13 l14 l15)) else none)) else (spec_l05SumAt.l0 k u s (i + 1) a0 a1 a2 a3 a4 l b a7 a8 a9 a10 a11 a12 a13 l14 l15)) r → Ev (fun k => spec_l05SumAt.l0 k u s i a0 a1 a2 a3 a4 l b a7 a8 a9 a10 a11 a12 a13 l14 l15) r := by
      intro r h
      refine Ev.succ ?_
      simp only [spec_l05SumAt.l0]
      rw [wrap_in (b + i) (by omega) (by omega), decide_eq_true (show b + i < u by omega)]
      refine Ev.pos (by omega) (Ev.succ ?_)
      simp only [spec_l05SumAt.j1, w1]
      exact Ev.pos (by trivial) (Ev.pos h0 (Ev.pos (by omega) h))
    have I : ∀ r, Ev (fun k => if (rd_T54 l i).f1 = 2 then ((impl_bytesOf.f k s 4).bind fun t => (if t.size + (rd_T54 l i).f2.size ≤ 9223372036854775807 then ((impl_Crc.f k (t ++ (rd_T54 l i).f2)).bind fun c => impl_NodeSum.l0 k l b u c (b + 1 + (i + 1))) else none)) else impl_NodeSum.l0 k l b u s (b + 1 + (i + 1))) r → Ev (fun k => impl_NodeSum.l0 k l b u s (b + 1 + i)) r := by
      intro r h
      refine Ev.succ ?_
      simp only [impl_NodeSum.l0, w2, w3]
      exact Ev.pos (by omega) (Ev.pos h0 (Ev.pos (by omega) h))
    by_cases c : (rd_T54 l i).f1 = 2
    · obtain ⟨t, ht, t1, t2⟩ := bytes_both s s0 (by omega)
      have hq := hz i h0 (by omega)
      obtain ⟨v, hv, v1, v2⟩ := Go.Proofs.Ytkfjgloalfpcmaa.QFnExactNodeOKC.crc_alike (t ++ (rd_T54 l i).f2) (by rw [ByteArray.size_append]; omega)
      obtain ⟨r, r1, r2⟩ := ih (i + 1) (v : Int) (by omega) (by omega) (by omega) (by omega) (by omega)
      exact ⟨r, S r (Ev.pos c (Ev.bind t1 (Ev.pos (by omega) (Ev.bind v1 r1)))), I r (Ev.pos c (Ev.bind t2 (Ev.pos (by omega) (Ev.bind v2 r2))))⟩
    · obtain ⟨r, r1, r2⟩ := ih (i + 1) s (by omega) (by omega) (by omega) s0 s1
      exact ⟨r, S r (Ev.neg c r1), I r (Ev.neg c r2)⟩
theorem rd_map (l : List S88) (j : Int) (h0 : 0 ≤ j) (h1 : j < l.length) : (rd_T54 (l.map cv_Entry) j).f2 = (rd_T88 l j).f2 := by
  have hi : j.toNat < l.length := by omega
  unfold rd_T54 rd_T88
  rw [List.getD_eq_getElem?_getD, List.getD_eq_getElem?_getD, List.getElem?_eq_getElem (by rw [List.length_map]; exact hi), List.getElem?_eq_getElem hi, List.getElem_map]
  rfl
def mem (l : List S54) (b bo bn : Int) : Nat → Int × Int × Int
  | 0 => (bo, bn, b)
  | n + 1 => if (rd_T54 l n).f1 = 3 then ((rd_T54 l n).f3, (rd_T54 l n).f4, b + n + 1) else mem l b bo bn n
theorem mem_impl (l : List S54) (b bo bn : Int) (hl : (l.length : Int) ≤ 200) (hb : 0 ≤ b ∧ b ≤ 1000000) : ∀ n : Nat, n ≤ l.length → Ev (fun k => impl_NodeCompact.m0 k l b bo bn (b + n)) (mem l b bo bn n) := by
  intro n
  induction n with
  | zero =>
    intro _
    refine Ev.succ ?_
    simp only [impl_NodeCompact.m0]
    exact Ev.neg (by omega) (Ev.some' rfl)
  | succ n ih =>
    intro hn
    have w3 : wrap64 (wrap64 (b + ((n + 1 : Nat) : Int) - b) - 1) = (n : Int) := by rw [wrap_in (b + ((n + 1 : Nat) : Int) - b) (by omega) (by omega), wrap_in _ (by omega) (by omega)]; omega
    have w4 : wrap64 (b + ((n + 1 : Nat) : Int) - 1) = b + (n : Int) := by rw [wrap_in _ (by omega) (by omega)]; omega
    refine Ev.succ ?_
    simp only [impl_NodeCompact.m0, w3, w4, mem]
    refine Ev.pos (by omega) (Ev.pos (by omega) (Ev.pos (by omega) ?_))
    by_cases c : (rd_T54 l (n : Int)).f1 = 3
    · rw [if_pos c]
      refine Ev.pos c (Ev.some' ?_)
      rw [show b + ((n + 1 : Nat) : Int) = b + (n : Int) + 1 by omega]
    · rw [if_neg c]
      exact Ev.neg c (ih (by omega))
theorem mem_spec (a0 a1 a2 a3 a4 : Int) (l : List S54) (b a7 a8 a9 a10 a11 a12 a13 : Int) (l14 l15 : List Int) (hl : (l.length : Int) ≤ 200) (hb : 0 ≤ b ∧ b ≤ 1000000) (n : Nat) (hn : n ≤ l.length) (d : Nat) :
    ∀ i : Nat, i + d = n → Ev (fun k => spec_l05Members.l0 k (b + n) (mem l b a8 a9 i).1 (mem l b a8 a9 i).2.1 (mem l b a8 a9 i).2.2 i a0 a1 a2 a3 a4 l b a7 a8 a9 a10 a11 a12 a13 l14 l15) (mem l b a8 a9 n) := by
  induction d with
  | zero =>
    intro i hi
    have e : i = n := by omega
    subst e
    have stop : ∀ x : Bool, x = false → Ev (fun k => spec_l05Members.j1 k (b + i) (mem l b a8 a9 i).1 (mem l b a8 a9 i).2.1 (mem l b a8 a9 i).2.2 i x a0 a1 a2 a3 a4 l b a7 a8 a9 a10 a11 a12 a13 l14 l15) (mem l b a8 a9 i) := by
      rintro x rfl
      exact Ev.succ (by simp only [spec_l05Members.j1]; exact Ev.neg (by simp) (Ev.some' rfl))
    refine Ev.succ ?_
    simp only [spec_l05Members.l0]
    rw [wrap_in (b + i) (by omega) (by omega)]
    by_cases c : (i : Int) < (l.length : Int)
    · exact Ev.pos c (stop _ (decide_eq_false (by omega)))
    · exact Ev.neg c (stop _ rfl)
  | succ d ih =>
    intro i hi
    have w1 : wrap64 ((i : Int) + 1) = ((i + 1 : Nat) : Int) := by rw [wrap_in _ (by omega) (by omega)]; omega
    have w2 : wrap64 (b + (i : Int)) = b + i := wrap_in _ (by omega) (by omega)
    have w3 : wrap64 (b + (i : Int) + 1) = b + i + 1 := wrap_in _ (by omega) (by omega)
    have q := ih (i + 1) (by omega)
    simp only [mem] at q
    refine Ev.succ ?_
    simp only [spec_l05Members.l0, w2]
    rw [decide_eq_true (show b + (i : Int) < b + n by omega)]
    refine Ev.pos (by omega) (Ev.succ ?_)
    simp only [spec_l05Members.j1, w1, w2, w3]
    refine Ev.pos (by trivial) (Ev.pos (by omega) (Ev.pos (by omega) ?_))
    by_cases c : (rd_T54 l (i : Int)).f1 = 3
    · rw [if_pos c] at q
      exact Ev.pos c q
    · rw [if_neg c] at q
      exact Ev.neg c q
theorem term_both (a0 a1 a2 a3 a4 : Int) (l : List S54) (b a7 a8 a9 a10 a11 a12 a13 : Int) (l14 l15 : List Int) (hl : (l.length : Int) ≤ 200) (hb : 0 ≤ b ∧ b ≤ 1000000) (n : Nat) (hn : n ≤ l.length) :
    ∃ t, spec_l05Term.f a0 a1 a2 a3 a4 l b a7 a8 a9 a10 a11 a12 a13 l14 l15 (b + n) = some t ∧ impl_NodeCompact.t l b a7 (b + n) = some t := by
  have w3 : wrap64 (wrap64 (b + (n : Int) - b) - 1) = (n : Int) - 1 := by rw [wrap_in (b + (n : Int) - b) (by omega) (by omega), wrap_in _ (by omega) (by omega)]; omega
  simp only [spec_l05Term.f, impl_NodeCompact.t, w3]
  by_cases c : n = 0
  · exact ⟨a7, by rw [if_pos (by omega)], by rw [if_pos (by omega)]⟩
  · exact ⟨_, by rw [if_neg (by omega), if_pos (by omega), if_pos (by omega)], by rw [if_neg (by omega), if_pos (by omega), if_pos (by omega)]⟩
theorem compact_both (a0 a1 a2 a3 a4 : Int) (l5 : List S54) (a6 a7 a8 a9 a10 a11 a12 a13 : Int) (l14 l15 : List Int) (x : Int) (h5 : (l5.length : Int) ≤ 1048576) (h14 : (l14.length : Int) ≤ 1048576) (h15 : (l15.length : Int) ≤ 1048576) (hz : ∀ j : Int, 0 ≤ j → j < l5.length → (rd_T54 l5 j).f2.size ≤ 1048576) :
    ∃ (r0 r1 r2 r3 r4 : Int) (r5 : List S54) (r6 r7 r8 r9 r10 r11 r12 r13 : Int) (r14 r15 : List Int) (r16 : Int), Ev (fun k => spec_NodeCompact.f k a0 a1 a2 a3 a4 l5 a6 a7 a8 a9 a10 a11 a12 a13 l14 l15 x) (r0, r1, r2, r3, r4, r5, r6, r7, r8, r9, r10, r11, r12, r13, r14, r15, r16) ∧ Ev (fun k => impl_NodeCompact.f k a0 a1 a2 a3 a4 l5 a6 a7 a8 a9 a10 a11 a12 a13 l14 l15 x) (r0, r1, r2, r3, r4, r5, r6, r7, r8, r9, r10, r11, r12, r13, r14, r15, r16) ∧ (r5.length : Int) ≤ 1048576 ∧ (r14.length : Int) ≤ 1048576 ∧ (r15.length : Int) ≤ 1048576 := by
  obtain ⟨v, v1, v2, vh⟩ := nodeok_both a0 a1 a2 a3 a4 l5 a6 a7 a8 a9 a10 a11 a12 a13 l14 l15 h5
  have ec : spec_l05Copy.f a0 a1 a2 a3 a4 l5 a6 a7 a8 a9 a10 a11 a12 a13 l14 l15 = some (a0, a1, a2, a3, a4, l5, a6, a7, a8, a9, a10, a11, a12, a13, l14, l15) := by
    simp only [spec_l05Copy.f, Option.bind_some, List.length_nil, Nat.zero_add, List.nil_append]
    rw [if_pos (by omega), if_pos (by omega), if_pos (by omega)]
  have bad : ∀ b : Bool, b = true → Ev (fun k => spec_NodeCompact.j0 k x b a0 a1 a2 a3 a4 l5 a6 a7 a8 a9 a10 a11 a12 a13 l14 l15) (0, 0, 0, 0, 0, ([] : List S54), 0, 0, 0, 0, 0, 0, 0, 0, ([] : List Int), ([] : List Int), 1) := by
    rintro b rfl
    exact Ev.succ (by simp only [spec_NodeCompact.j0]; exact Ev.pos (by trivial) (Ev.some' rfl))
  simp only [spec_NodeCompact.f, impl_NodeCompact.f]
  cases v with
  | true =>
    by_cases cx : a6 ≤ x ∧ x ≤ a11
    · obtain ⟨q1, q2, q3⟩ := vh rfl
      unfold H1 at q1
      unfold H2 at q2
      unfold H3 at q3
      obtain ⟨n, rfl⟩ : ∃ n : Nat, x = a6 + n := ⟨(x - a6).toNat, by omega⟩
      have hn : n ≤ l5.length := by omega
      have ib : impl_NodeOK.inb (a6 + n) a6 a11 = true := by unfold impl_NodeOK.inb; rw [decide_eq_true cx.1, decide_eq_true cx.2]; rfl
      have w0 : wrap64 (a6 + (n : Int) - a6) = (n : Int) := by rw [wrap_in _ (by omega) (by omega)]; omega
      obtain ⟨s, s1, s2⟩ := sum_both a0 a1 a2 a3 a4 l5 a6 a7 a8 a9 a10 a11 a12 a13 l14 l15 (by omega) hz (a6 + n) (by omega) (by omega) n 0 a10 (by omega) (by omega) (by omega) (by omega) (by omega)
      have s3 : Ev (fun k => spec_l05SumAt.f k a0 a1 a2 a3 a4 l5 a6 a7 a8 a9 a10 a11 a12 a13 l14 l15 (a6 + n)) s := by simp only [spec_l05SumAt.f]; exact s1
      have s4 : Ev (fun k => impl_NodeSum.s k l5 a6 a10 (a6 + n)) s := by
        simp only [impl_NodeSum.s]
        rw [wrap_in (a6 + 1) (by omega) (by omega)]
        simpa using s2
      obtain ⟨t, t1, t2⟩ := term_both a0 a1 a2 a3 a4 l5 a6 a7 a8 a9 a10 a11 a12 a13 l14 l15 (by omega) (by omega) n hn
      have m1 : Ev (fun k => spec_l05Members.f k a0 a1 a2 a3 a4 l5 a6 a7 a8 a9 a10 a11 a12 a13 l14 l15 (a6 + n)) (mem l5 a6 a8 a9 n) := by
        simp only [spec_l05Members.f]
        exact mem_spec a0 a1 a2 a3 a4 l5 a6 a7 a8 a9 a10 a11 a12 a13 l14 l15 (by omega) (by omega) n hn n 0 (by omega)
      have m2 := mem_impl l5 a6 a8 a9 (by omega) (by omega) n hn
      refine ⟨a0, a1, a2, a3, a4, l5.drop n, a6 + n, t, (mem l5 a6 a8 a9 n).1, (mem l5 a6 a8 a9 n).2.1, s, a11, a12, a13, l14, l15, 0, Ev.bind v1 (Ev.pos rfl (Ev.neg (by omega) ?_)), Ev.bind v2 (Ev.pos rfl (Ev.pos ib (Ev.pos (by omega) (Ev.pos (by omega) (Ev.pos (by omega) (Ev.bind m2 (Ev.bndc t2 (Ev.bind s4 ?_)))))))), by rw [List.length_drop]; omega, h14, h15⟩
      · rw [decide_eq_false (show ¬ (a6 + (n : Int) > a11) by omega)]
        refine Ev.succ ?_
        simp only [spec_NodeCompact.j0]
        refine Ev.neg (by simp) (Ev.bndc ec (Ev.bind s3 (Ev.bndc t1 (Ev.bind m1 ?_))))
        simp only [Option.bind_some, List.length_nil, Nat.zero_add, List.nil_append, w0, Int.toNat_natCast, List.length_drop]
        exact Ev.pos (by omega) (Ev.pos (by omega) (Ev.pos (by omega) (Ev.some' rfl)))
      · simp only [w0, Int.toNat_natCast]
        exact Ev.pos (by omega) (Ev.pos (by omega) (Ev.some' rfl))
    · have ib : ¬ impl_NodeOK.inb x a6 a11 = true := by
        unfold impl_NodeOK.inb
        simp only [Bool.and_eq_true, decide_eq_true_eq]
        exact cx
      refine ⟨_, _, _, _, _, _, _, _, _, _, _, _, _, _, _, _, _, Ev.bind v1 (Ev.pos rfl ?_), Ev.bind v2 (Ev.pos rfl (Ev.neg ib (Ev.some' rfl))), by simp, by simp, by simp⟩
      by_cases c : x < a6
      · exact Ev.pos c (bad true rfl)
      · exact Ev.neg c (bad _ (decide_eq_true (by omega)))
  | false =>
    refine ⟨_, _, _, _, _, _, _, _, _, _, _, _, _, _, _, _, _, Ev.bind v1 (Ev.neg (by decide) (bad true rfl)), Ev.bind v2 (Ev.neg (by decide) (Ev.some' rfl)), by simp, by simp, by simp⟩
theorem FnExactNodeCompact (a0 a1 a2 a3 a4 : Int) (l5 : List S88) (a6 a7 a8 a9 a10 a11 a12 a13 : Int) (l14 l15 : List Int) (x : Int)
    (o : (Lit.int .i64 a0).wf = true ∧ (Lit.int .i64 a1).wf = true ∧ (Lit.int .i64 a2).wf = true ∧ (Lit.int .i64 a3).wf = true ∧ (Lit.int .i64 a4).wf = true ∧ (l5.length ≤ 9223372036854775807 ∧ ∀ x ∈ l5, (Lit.int .i64 x.f0).wf = true ∧ (Lit.int .i64 x.f1).wf = true ∧ x.f2.size ≤ 9223372036854775807 ∧ (Lit.int .i64 x.f3).wf = true ∧ (Lit.int .i64 x.f4).wf = true) ∧ (Lit.int .i64 a6).wf = true ∧ (Lit.int .i64 a7).wf = true ∧ (Lit.int .i64 a8).wf = true ∧ (Lit.int .i64 a9).wf = true ∧ (Lit.int .i64 a10).wf = true ∧ (Lit.int .i64 a11).wf = true ∧ (Lit.int .i64 a12).wf = true ∧ (Lit.int .i64 a13).wf = true ∧ (l14.length ≤ 9223372036854775807 ∧ ∀ x ∈ l14, (Lit.int .i64 x).wf = true) ∧ (l15.length ≤ 9223372036854775807 ∧ ∀ x ∈ l15, (Lit.int .i64 x).wf = true))
    (ox : (Lit.int .i64 x).wf = true) :
    ∃ k, laws_FnExactNodeCompact.f k a0 a1 a2 a3 a4 l5 a6 a7 a8 a9 a10 a11 a12 a13 l14 l15 x = some true := by
  obtain ⟨_, _, _, _, _, ⟨h5, hs⟩, _, _, _, _, _, _, _, _, ⟨h14, _⟩, ⟨h15, _⟩⟩ := o
  refine Ev.at ?_
  simp only [laws_FnExactNodeCompact.f]
  obtain ⟨z, hz, hc⟩ := sz_node a0 a1 a2 a3 a4 l5 a6 a7 a8 a9 a10 a11 a12 a13 l14 l15 h5 (fun x hx => (hs x hx).2.2.1) h14 h15
  refine Ev.bind hz ?_
  by_cases c : z < 0
  · exact Ev.pos c (Ev.some' rfl)
  obtain ⟨m5, m14, m15, mq⟩ := hc (by omega)
  have tn := to_node a0 a1 a2 a3 a4 l5 a6 a7 a8 a9 a10 a11 a12 a13 l14 l15 m5 m14 m15
  have hm : ((l5.map cv_Entry).length : Int) ≤ 1048576 := by rw [List.length_map]; exact m5
  have hz2 : ∀ j : Int, 0 ≤ j → j < (l5.map cv_Entry).length → (rd_T54 (l5.map cv_Entry) j).f2.size ≤ 1048576 := by
    intro j h0 h1
    rw [List.length_map] at h1
    rw [rd_map l5 j h0 h1]
    exact mq j h0 h1
  obtain ⟨r0, r1, r2, r3, r4, r5, r6, r7, r8, r9, r10, r11, r12, r13, r14, r15, r16, es, ei, n5, n14, n15⟩ := compact_both a0 a1 a2 a3 a4 (l5.map cv_Entry) a6 a7 a8 a9 a10 a11 a12 a13 l14 l15 x hm m14 m15 hz2
  have ew := eq_node r0 r1 r2 r3 r4 r6 r7 r8 r9 r10 r11 r12 r13 r14 r15 r5 n5 n14 n15
  have ex := eq_node a0 a1 a2 a3 a4 a6 a7 a8 a9 a10 a11 a12 a13 l14 l15 (l5.map cv_Entry) hm m14 m15
  have kx := mark_node a0 a1 a2 a3 a4 a6 a7 a8 a9 a10 a11 a12 a13 (l5.map cv_Entry) l14 l15 hm m14 m15
  have kg := mark_node r0 r1 r2 r3 r4 r6 r7 r8 r9 r10 r11 r12 r13 r5 r14 r15 n5 n14 n15
  have hg := held_node r0 r1 r2 r3 r4 r6 r7 r8 r9 r10 r11 r12 r13 r5.length r14.length r15.length n5 n14 n15
  refine Ev.neg c (Ev.bind tn (Ev.bind es (Ev.bind tn (Ev.bind ei (Ev.bind ew (Ev.pos rfl ?_))))))
  refine Ev.succ ?_
  simp only [laws_FnExactNodeCompact.j0]
  refine Ev.neg (by simp) (Ev.bind tn (Ev.bind ex (Ev.pos rfl (Ev.bind kx (Ev.neg (by omega) (Ev.bind ew (Ev.pos rfl ?_)))))))
  refine Ev.succ ?_
  simp only [laws_FnExactNodeCompact.j1]
  refine Ev.neg (by simp) (Ev.bind kg (Ev.bind hg (Ev.neg (by omega) (Ev.pos rfl (Ev.bind tn (Ev.bind ei (Ev.bind ew (Ev.pos rfl ?_))))))))
  refine Ev.succ ?_
  simp only [laws_FnExactNodeCompact.j2]
  exact Ev.neg (by simp) (Ev.bind hg (Ev.neg (by omega) (Ev.pos rfl (Ev.some' rfl))))

end Go.Proofs.Ytkfjgloalfpcmaa.Pure
