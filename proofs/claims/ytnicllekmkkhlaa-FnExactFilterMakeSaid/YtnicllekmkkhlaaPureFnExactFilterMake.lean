/- The program's FilterMake and the reference's answer alike at every slice of texts. No condition but that a length is an int. -/
import Derived.Test.YtnicllekmkkhlaaQFnExactFilterMakex2
import Derived.Test.YtnicllekmkkhlaaHashFnExactFilterMake
namespace Go.Proofs.Ytnicllekmkkhlaa.Pure
set_option linter.unusedVariables false
set_option linter.unusedSimpArgs false
open Go.RowKit Go.Proofs.Ytnicllekmkkhlaa.QFnExactFilterMake Go.Proofs.YtnicllekmkkhlaaW.PrintWords Go.Proofs.YtnicllekmkkhlaaW.PrintMore Go.Proofs.YtnicllekmkkhlaaU Go.Proofs.Ytnicllekmkkhlaa.QFnExactFilterMakeH
theorem rdOf_get (l : List ByteArray) (i : Int) (h : i.toNat < l.length) : rdOf ByteArray.empty l i = l[i.toNat] := by
  show l.getD i.toNat ByteArray.empty = _
  exact getD_get l _ _ h
theorem sz_from (l : List ByteArray) (hl : (l.length : Int) ≤ 1048576) (hs : ∀ x ∈ l, x.size ≤ 9223372036854775807) (d : Nat) : ∀ (i x : Int), 0 ≤ i → i ≤ l.length → (l.length : Int) - i = d → 0 ≤ x → x ≤ 1048576 →
    ∃ r, Ev (fun k => laws_szStringS.l0 k l x i) r := by
  induction d with
  | zero =>
    intro i x h0 h1 hd x0 x1
    exact ⟨x, Ev.succ (by simp only [laws_szStringS.l0]; exact Ev.neg (by omega) (Ev.some' rfl))⟩
  | succ d ih =>
    intro i x h0 h1 hd x0 x1
    have hb : (rdOf ByteArray.empty l i).size ≤ 9223372036854775807 := by rw [rdOf_get l i (by omega)]; exact hs _ (List.getElem_mem _)
    have e := wrap_in (x - ((rdOf ByteArray.empty l i).size : Int)) (by omega) (by omega)
    by_cases c : x - ((rdOf ByteArray.empty l i).size : Int) < 0
    · refine ⟨-1, Ev.succ ?_⟩
      simp only [laws_szStringS.l0]
      exact Ev.pos (by omega) (Ev.pos h0 (Ev.pos (by rw [e]; exact c) (Ev.some' rfl)))
    · obtain ⟨r, hr⟩ := ih (i + 1) (x - ((rdOf ByteArray.empty l i).size : Int)) (by omega) (by omega) (by omega) (by omega) (by omega)
      refine ⟨r, Ev.succ ?_⟩
      simp only [laws_szStringS.l0]
      refine Ev.pos (by omega) (Ev.pos h0 (Ev.neg (by rw [e]; exact c) ?_))
      rw [e, wrap_in (i + 1) (by omega) (by omega)]
      exact hr
theorem sz_ends (l : List ByteArray) (hl : l.length ≤ 9223372036854775807) (hs : ∀ x ∈ l, x.size ≤ 9223372036854775807) : ∃ r, Ev (fun k => laws_szStringS.f k l 1048576) r ∧ (r < 0 ∨ (l.length : Int) ≤ 1048576) := by
  have e := wrap_in (1048576 - (l.length : Int)) (by omega) (by omega)
  by_cases c : 1048576 - (l.length : Int) < 0
  · exact ⟨-1, by simp only [laws_szStringS.f]; exact Ev.pos (by rw [e]; exact c) (Ev.some' rfl), .inl (by omega)⟩
  · obtain ⟨r, hr⟩ := sz_from l (by omega) hs l.length 0 (1048576 - (l.length : Int)) (by omega) (by omega) (by omega) (by omega) (by omega)
    refine ⟨r, ?_, .inr (by omega)⟩
    simp only [laws_szStringS.f]
    refine Ev.neg (by rw [e]; exact c) ?_
    rw [e]
    exact hr
theorem to_from (l : List ByteArray) (hl : (l.length : Int) ≤ 1048576) (d : Nat) : ∀ (i : Nat), i ≤ l.length → l.length - i = d →
    Ev (fun k => laws_toStringS.l0 k l ((l.take i).map id ++ List.replicate (l.length - i) (⟨#[]⟩ : ByteArray)) (i : Int)) l := by
  induction d with
  | zero =>
    intro i h1 hd
    have hi : i = l.length := by omega
    refine Ev.succ ?_
    simp only [laws_toStringS.l0]
    refine Ev.neg (by omega) (Ev.some' ?_)
    subst hi
    rw [fill_all]; simp
  | succ d ih =>
    intro i h1 hd
    refine Ev.succ ?_
    simp only [laws_toStringS.l0]
    refine Ev.pos (by omega) (Ev.pos (by omega) (Ev.pos (by rw [fill_len id _ l i h1]; omega) ?_))
    rw [wrap_in ((i : Int) + 1) (by omega) (by omega), rdOf_get l _ (by omega)]
    have := ih (i + 1) (by omega) (by omega)
    have e := fill_set id (⟨#[]⟩ : ByteArray) l i (by omega)
    simp only [id_eq] at e
    simp only [Int.toNat_natCast]
    rw [e]
    exact this
theorem to_same (l : List ByteArray) (hl : (l.length : Int) ≤ 1048576) : Ev (fun k => laws_toStringS.f k l) l := by
  simp only [laws_toStringS.f]
  refine Ev.pos (by omega) (Ev.pos (by omega) ?_)
  have := to_from l hl l.length 0 (by omega) (by omega)
  rw [← fill_zero] at this
  simpa using this
theorem eq_from (l : List ByteArray) (hl : (l.length : Int) ≤ 1048576) (d : Nat) : ∀ (i : Int), 0 ≤ i → i ≤ l.length → (l.length : Int) - i = d → Ev (fun k => laws_eqStringS.l0 k l l i) true := by
  induction d with
  | zero =>
    intro i h0 h1 hd
    exact Ev.succ (by simp only [laws_eqStringS.l0]; exact Ev.neg (by omega) (Ev.some' rfl))
  | succ d ih =>
    intro i h0 h1 hd
    refine Ev.succ ?_
    simp only [laws_eqStringS.l0]
    refine Ev.pos (by omega) (Ev.pos h0 (Ev.pos (by omega) (Ev.pos trivial ?_)))
    rw [wrap_in (i + 1) (by omega) (by omega)]
    exact ih (i + 1) (by omega) (by omega) (by omega)
theorem eq_same (l : List ByteArray) (hl : (l.length : Int) ≤ 1048576) : Ev (fun k => laws_eqStringS.f k l l) true := by
  simp only [laws_eqStringS.f]
  exact Ev.pos trivial (eq_from l hl l.length 0 (by omega) (by omega) (by omega))
theorem turn (K : Nat) (l : List ByteArray) (b : List Int) (N : Nat) (hN : 32 ≤ N ∧ N ≤ 8192) (hb : b.length = N) (i A B k : Int) (hA : 0 ≤ A ∧ A < 65536) (hB : 1 ≤ B ∧ B ≤ 65536) (hk : k = 0 ∨ k = 1 ∨ k = 2) :
    spec_FilterMake.l1 (K + 1) l (N : Int) b i A B k = spec_FilterMake.l1 K l (N : Int) (impl_FilterMake.st b ((A + k * B) % (8 * (N : Int)))) i A B (k + 1) := by
  have hkB : 0 ≤ k * B ∧ k * B ≤ 131072 := by rcases hk with rfl | rfl | rfl <;> omega
  have p0 : 0 ≤ (A + k * B) % (8 * (N : Int)) := Int.emod_nonneg _ (by omega)
  have p1 : (A + k * B) % (8 * (N : Int)) < 8 * (N : Int) := Int.emod_lt_of_pos _ (by omega)
  conv => lhs; unfold spec_FilterMake.l1
  rw [if_pos (by omega), wrap_in (8 * (N : Int)) (by omega) (by omega), if_neg (by omega), wrap_in (k * B) (by omega) (by omega), wrap_in (A + k * B) (by omega) (by omega), Int.tmod_eq_emod_of_nonneg (show 0 ≤ A + k * B by omega), wrap_in (k + 1) (by omega) (by omega)]
  generalize (A + k * B) % (8 * (N : Int)) = p at *
  rw [Int.tmod_eq_emod_of_nonneg p0, Int.tdiv_eq_ediv_of_nonneg p0, wrap_in (p / 8) (by omega) (by omega), show IntKind.u64.wrap (p % 8) = p % 8 from (by show (p % 8) % 18446744073709551616 = _; omega), if_pos (by omega), if_pos (by omega), if_pos (by omega)]
  rfl
theorem st_len (b : List Int) (p : Int) : (impl_FilterMake.st b p).length = b.length := by unfold impl_FilterMake.st; rw [List.length_set]
theorem make_from (l : List ByteArray) (hl : (l.length : Int) ≤ 1048576) (hs : ∀ x ∈ l, x.size ≤ 9223372036854775807) (N : Nat) (hN : 32 ≤ N ∧ N ≤ 8192) (d : Nat) : ∀ (b : List Int) (i : Int), b.length = N → 0 ≤ i → i ≤ l.length → (l.length : Int) - i = d →
    ∃ r, Ev (fun k => spec_FilterMake.l0 k l (N : Int) b i) r ∧ Ev (fun k => impl_FilterMake.l0 k l (N : Int) b i) r := by
  induction d with
  | zero =>
    intro b i hb h0 h1 hd
    refine ⟨strOfNums b, Ev.succ ?_, Ev.succ ?_⟩
    · simp only [spec_FilterMake.l0]; exact Ev.neg (by omega) (Ev.some' rfl)
    · simp only [impl_FilterMake.l0]; exact Ev.neg (by omega) (Ev.some' rfl)
  | succ d ih =>
    intro b i hb h0 h1 hd
    have hz : (rdOf ByteArray.empty l i).size ≤ 9223372036854775807 := by rw [rdOf_get l i (by omega)]; exact hs _ (List.getElem_mem _)
    obtain ⟨h, e0, e1, es, ei⟩ := hash_alike (rdOf ByteArray.empty l i) hz
    have hw := wrap_in (i + 1) (by omega) (by omega)
    obtain ⟨r, r1, r2⟩ := ih (impl_FilterMake.st (impl_FilterMake.st (impl_FilterMake.st b (h % 65536 % (8 * (N : Int)))) ((h % 65536 + (h / 65536 + 1)) % (8 * (N : Int)))) ((h % 65536 + 2 * (h / 65536 + 1)) % (8 * (N : Int)))) (i + 1) (by rw [st_len, st_len, st_len]; exact hb) (by omega) (by omega) (by omega)
    refine ⟨r, Ev.succ ?_, Ev.succ ?_⟩
    · simp only [spec_FilterMake.l0]
      refine Ev.pos (by omega) (Ev.pos h0 (Ev.bind es ?_))
      have t0 := fun K => turn K l b N hN hb i (h % 65536) (h / 65536 + 1) 0 (by omega) (by omega) (by omega)
      have t1 := fun K => turn K l (impl_FilterMake.st b (h % 65536 % (8 * (N : Int)))) N hN (by rw [st_len]; exact hb) i (h % 65536) (h / 65536 + 1) 1 (by omega) (by omega) (by omega)
      have t2 := fun K => turn K l (impl_FilterMake.st (impl_FilterMake.st b (h % 65536 % (8 * (N : Int)))) ((h % 65536 + (h / 65536 + 1)) % (8 * (N : Int)))) N hN (by rw [st_len, st_len]; exact hb) i (h % 65536) (h / 65536 + 1) 2 (by omega) (by omega) (by omega)
      simp only [Int.zero_mul, Int.add_zero, Int.one_mul] at t0 t1
      refine Ev.succ (Ev.succ (Ev.succ (Ev.succ ?_)))
      simp only [t0, show (0 : Int) + 1 = 1 from rfl, t1, show (1 : Int) + 1 = 2 from rfl, t2]
      simp only [spec_FilterMake.l1]
      refine Ev.neg (by omega) ?_
      rw [hw]
      exact r1
    · simp only [impl_FilterMake.l0]
      refine Ev.pos (by omega) (Ev.pos h0 (Ev.bind ei (Ev.pos e0 (Ev.pos e1 ?_))))
      rw [hw]
      exact r2
theorem make_alike (l : List ByteArray) (hl : (l.length : Int) ≤ 1048576) (hs : ∀ x ∈ l, x.size ≤ 9223372036854775807) : ∃ r, Ev (fun k => spec_FilterMake.f k l) r ∧ Ev (fun k => impl_FilterMake.f k l) r := by
  have hn : 32 ≤ impl_FilterMake.n l ∧ impl_FilterMake.n l ≤ 8192 := by unfold impl_FilterMake.n; split <;> (try split) <;> omega
  obtain ⟨N, eN⟩ : ∃ N : Nat, impl_FilterMake.n l = (N : Int) := ⟨(impl_FilterMake.n l).toNat, by omega⟩
  obtain ⟨r, r1, r2⟩ := make_from l hl hs N (by omega) l.length (List.replicate N 0) 0 (by simp) (by omega) (by omega) (by omega)
  refine ⟨r, ?_, ?_⟩
  · have j1 : ∀ x, x = (N : Int) → Ev (fun k => spec_FilterMake.j1 k l x) r := by
      rintro x rfl
      refine Ev.succ ?_
      simp only [spec_FilterMake.j1]
      exact Ev.pos (by omega) (Ev.pos (by omega) r1)
    have j0 : ∀ x, (x > 8192 ∧ (N : Int) = 8192 ∨ ¬ x > 8192 ∧ x = (N : Int)) → Ev (fun k => spec_FilterMake.j0 k l x) r := by
      intro x hx
      refine Ev.succ ?_
      simp only [spec_FilterMake.j0]
      rcases hx with ⟨h, e⟩ | ⟨h, e⟩
      · exact Ev.pos h (j1 _ (by omega))
      · exact Ev.neg h (j1 _ e)
    simp only [spec_FilterMake.f]
    rw [wrap_in ((l.length : Int) + 15) (by omega) (by omega), Int.tdiv_eq_ediv_of_nonneg (show 0 ≤ (l.length : Int) + 15 by omega), wrap_in (((l.length : Int) + 15) / 16) (by omega) (by omega), wrap_in (((l.length : Int) + 15) / 16 * 32) (by omega) (by omega)]
    unfold impl_FilterMake.n at eN
    by_cases c : ((l.length : Int) + 15) / 16 * 32 < 32
    · rw [if_pos c] at eN
      exact Ev.pos c (j0 _ (by omega))
    · rw [if_neg c] at eN
      refine Ev.neg c (j0 _ ?_)
      split at eN <;> omega
  · simp only [impl_FilterMake.f]
    rw [eN]
    exact Ev.pos (by omega) (by simpa using r2)
theorem FnExactFilterMake : ∀ (l : List ByteArray), (l.length ≤ 9223372036854775807 ∧ ∀ x ∈ l, x.size ≤ 9223372036854775807) → ∃ k, laws_FnExactFilterMake.f k l = some true := by
  rintro l ⟨hl, hs⟩
  refine Ev.at ?_
  simp only [laws_FnExactFilterMake.f]
  obtain ⟨z, hz, hc⟩ := sz_ends l hl hs
  refine Ev.bind hz ?_
  by_cases c : z < 0
  · exact Ev.pos c (Ev.some' rfl)
  · have hl' : (l.length : Int) ≤ 1048576 := by omega
    obtain ⟨r, r1, r2⟩ := make_alike l hl' hs
    refine Ev.neg c (Ev.bind (to_same l hl') (Ev.bind r1 (Ev.bind (to_same l hl') (Ev.bind r2 (Ev.pos rfl (Ev.bind (to_same l hl') (Ev.bind (eq_same l hl') (Ev.pos rfl (Ev.some' rfl)))))))))
end Go.Proofs.Ytnicllekmkkhlaa.Pure
