/- Small plain lemmas on rounds, lists and numbers that the seat's plain laws share. No condition. -/
import Derived.Test.YtdgleppagokjhaaV
namespace Go.Proofs.YtdgleppagokjhaaU
set_option linter.unusedVariables false
set_option linter.unusedSimpArgs false
open Go.RowKit Go.Proofs.YtdgleppagokjhaaW.PrintWords Go.Proofs.YtdgleppagokjhaaW.PrintLast Go.Proofs.YtdgleppagokjhaaW.PrintMore
theorem wrap_in (x : Int) (h0 : -9223372036854775808 ≤ x) (h1 : x ≤ 9223372036854775807) : wrap64 x = x := by
  unfold wrap64
  omega
theorem wf64 {n : Int} (h : (Lit.int .i64 n).wf = true) : -9223372036854775808 ≤ n ∧ n ≤ 9223372036854775807 := by
  simp only [Lit.wf, Bool.and_eq_true, decide_eq_true_eq] at h
  exact ⟨h.1, h.2⟩
theorem wf8 {n : Int} (h : (Lit.int .u8 n).wf = true) : 0 ≤ n ∧ n ≤ 255 := by
  simp only [Lit.wf, Bool.and_eq_true, decide_eq_true_eq] at h
  exact ⟨h.1, h.2⟩
section
variable {α β : Type} {r : α}
theorem Ev.succ {g : Nat → Option α} (h : Ev (fun k => g (k + 1)) r) : Ev g r := Ev.step (fun _ => rfl) h
theorem Ev.pos {c : Prop} [Decidable c] {f g : Nat → Option α} (h : c) (hf : Ev f r) : Ev (fun k => if c then f k else g k) r := by simpa only [if_pos h] using hf
theorem Ev.neg {c : Prop} [Decidable c] {f g : Nat → Option α} (h : ¬ c) (hf : Ev g r) : Ev (fun k => if c then f k else g k) r := by simpa only [if_neg h] using hf
theorem Ev.some' {x : α} (h : x = r) : Ev (fun _ => some x) r := by subst h; exact Ev.now _
theorem Ev.bndc {o : Option β} {f : Nat → β → Option α} {b : β} (h : o = some b) (k : Ev (fun n => f n b) r) : Ev (fun n => o.bind (f n)) r := by subst h; exact k
theorem Ev.at {g : Nat → Option α} (h : Ev g r) : ∃ k, g k = some r := Ev.rounds h
theorem Ev.both {g : Nat → Option α} {f : Nat → Option β} {q : β} (h : Ev g r) (h' : Ev f q) : ∃ k, g k = some r ∧ f k = some q := by
  obtain ⟨a, ha⟩ := h
  obtain ⟨b, hb⟩ := h'
  exact ⟨max a b, ha _ (by omega), hb _ (by omega)⟩
end
theorem rd_get (xs : List Int) (i : Int) (h : i.toNat < xs.length) : rd xs i = xs[i.toNat] := by
  rw [rd, List.getD_eq_getElem?_getD, List.getElem?_eq_getElem h]; rfl
theorem getD_get {α : Type} (xs : List α) (z : α) (i : Nat) (h : i < xs.length) : xs.getD i z = xs[i] := by
  rw [List.getD_eq_getElem?_getD, List.getElem?_eq_getElem h]; rfl
theorem rd_mem (xs : List Int) (i : Int) (h : i.toNat < xs.length) : rd xs i ∈ xs := by rw [rd_get xs i h]; exact List.getElem_mem h
/-- A row that is filled from the left: what the next store leaves. -/
theorem fill_set {α β : Type} (f : α → β) (z : β) (l : List α) (i : Nat) (h : i < l.length) :
    ((l.take i).map f ++ List.replicate (l.length - i) z).set i (f l[i]) = (l.take (i + 1)).map f ++ List.replicate (l.length - (i + 1)) z := by
  have hl : ((l.take i).map f).length = i := by rw [List.length_map, List.length_take]; omega
  rw [List.set_append_right _ _ (by omega), hl, Nat.sub_self]
  have : l.length - i = (l.length - (i + 1)) + 1 := by omega
  rw [this, List.replicate_succ, List.set_cons_zero, List.take_succ_eq_append_getElem h, List.map_append, List.append_assoc]
  rfl
theorem fill_zero {α β : Type} (f : α → β) (z : β) (l : List α) : List.replicate l.length z = (l.take 0).map f ++ List.replicate (l.length - 0) z := by simp
theorem fill_all {α β : Type} (f : α → β) (z : β) (l : List α) : (l.take l.length).map f ++ List.replicate (l.length - l.length) z = l.map f := by simp
theorem fill_len {α β : Type} (f : α → β) (z : β) (l : List α) (i : Nat) (h : i ≤ l.length) : ((l.take i).map f ++ List.replicate (l.length - i) z).length = l.length := by
  rw [List.length_append, List.length_map, List.length_take, List.length_replicate]; omega
theorem toList_nil (s : ByteArray) : s.toList = ([] : List UInt8) ↔ (s.size : Int) = 0 := by
  rw [ByteArray.toList_eq]
  constructor
  · intro h
    have := congrArg List.length h
    rw [Array.length_toList] at this
    have h2 : s.size = 0 := this
    omega
  · intro h
    apply List.eq_nil_of_length_eq_zero
    rw [Array.length_toList]
    show s.size = 0
    omega
theorem toList_inj {a b : ByteArray} (h : a.toList = b.toList) : a = b := by
  rw [ByteArray.toList_eq, ByteArray.toList_eq] at h
  cases a; cases b
  simpa using h
theorem tmod_nn (a b : Int) (h : 0 ≤ a) : Int.tmod a b = a % b := Int.tmod_eq_emod_of_nonneg h
end Go.Proofs.YtdgleppagokjhaaU
