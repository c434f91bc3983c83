/- A datum of a type of integers, bools, strings, slices and structs that a row reads is a value of the printed kind: the list or the struct is there, its cells lie in memory as the kind says, and its numbers and strings are in range. -/
import Derived.Test.YtdgleppagokjhaaV
import Derived.ChangeShapes
import Derived.ChangeArms
import Derived.ChangeSlices
import Derived.WideShapes
import Derived.DataElems
namespace Go.Proofs.YtdgleppagokjhaaO
open Go.RowKit Go.Proofs.YtdgleppagokjhaaW.PrintWords Go.ChangeShapes Go.WideShapes
/-- Whatever reads as type t is a value of the kind d that is ok. -/
def Opn {α : Type} (P : Program) (d : Kd α) (t : TypeId) (ok : α → Prop) : Prop :=
  P.cellsOf t = d.sz ∧ ∀ {H : Type} {enc : TypeId × Value → H} {w : World} {base : Nat} {spare : Nat → Bool} {held : Bool} {fuel : Nat} {cs : List Value} {x : DataW H × List MemPlace},
    DataW.trod enc P w base spare held fuel t cs = some x → ∃ a, d.K w a cs ∧ ok a
theorem Opn.int {P : Program} {k : IntKind} {t : TypeId} (hu : P.underlying t = some (.int k)) (hc : P.cellsOf t = 1) : Opn P (Kd.int k) t (fun n => (Lit.int k n).wf = true) :=
  ⟨hc, fun h => by
    obtain ⟨n, rfl, _, hw⟩ := DataW.trod_int hu h
    exact ⟨n, rfl, hw⟩⟩
theorem Opn.bool {P : Program} {t : TypeId} (hu : P.underlying t = some .bool) (hc : P.cellsOf t = 1) : Opn P Kd.bool t (fun _ => True) :=
  ⟨hc, fun h => by
    obtain ⟨n, rfl, _⟩ := DataW.trod_bool hu h
    exact ⟨n, rfl, trivial⟩⟩
theorem Opn.string {P : Program} {t : TypeId} (hu : P.underlying t = some .string) (hc : P.cellsOf t = 1) : Opn P Kd.string t (fun s => s.size ≤ 9223372036854775807) :=
  ⟨hc, fun h => by
    obtain ⟨s, rfl, _, hs⟩ := DataW.trod_string hu h
    exact ⟨s, rfl, hs⟩⟩
theorem list_choose {α β : Type} (R : Nat → β → α → Prop) : ∀ (l : List β) (k : Nat), (∀ j b, l[j]? = some b → ∃ a, R (k + j) b a) → ∃ m : List α, m.length = l.length ∧ ∀ j b a, l[j]? = some b → m[j]? = some a → R (k + j) b a
  | [], _, _ => ⟨[], rfl, fun j b a h => by simp at h⟩
  | b :: l, k, h => by
    obtain ⟨a, ha⟩ := h 0 b rfl
    obtain ⟨m, hm, hr⟩ := list_choose R l (k + 1) (fun j b' hb => by
      have := h (j + 1) b' (by simpa using hb)
      rwa [show k + (j + 1) = k + 1 + j by omega] at this)
    refine ⟨a :: m, by simp [hm], fun j b' a' hb' ha' => ?_⟩
    rcases j with _ | j
    · simp only [List.getElem?_cons_zero, Option.some.injEq] at hb' ha'
      subst hb' ha'
      exact ha
    · have := hr j b' a' (by simpa using hb') (by simpa using ha')
      rwa [show k + 1 + j = k + (j + 1) by omega] at this
theorem Opn.slice {α : Type} {P : Program} {d : Kd α} {t e : TypeId} {ok : α → Prop} (hu : P.underlying t = some (.slice e)) (hc : P.cellsOf t = 1) (h : Opn P d e ok) :
    Opn P (Kd.slice e d) t (fun l => l.length ≤ 9223372036854775807 ∧ ∀ x ∈ l, ok x) :=
  ⟨hc, fun {H enc w base spare held fuel cs x} hx => by
    rcases DataW.trod_slice hu hx with ⟨rfl, _⟩ | ⟨a, len, cap, elems, rest, n, _, rfl, _, hb, hl, hm, hlen, hel, _, _⟩
    · exact ⟨[], ⟨none, 0, rfl, Nat.le_refl _, rfl, by simp, fun h => by simp at h⟩, by simp, by simp⟩
    · simp only [maxLen] at hm
      obtain ⟨m, hml, hmr⟩ := list_choose (fun j (_ : DataW H × List MemPlace) (y : α) => ∃ c, c.length = d.sz ∧ d.K w y c ∧ (∀ i u, c[i]? = some u → w.cell? (a.add (j * d.sz + i)) = some u) ∧ ok y) elems 0 (fun j b hj => by
        have hjl : j < len := by rw [← hlen]; exact (List.getElem?_eq_some_iff.1 hj).1
        have := hel j hjl
        rw [hj, Option.bind_eq_some_iff] at this
        obtain ⟨c, hcc, hk⟩ := this
        obtain ⟨y, hy, hok⟩ := h.2 hk
        obtain ⟨_, hcl, hcell⟩ := World.cells?_some hcc
        rw [h.1] at hcl hcell
        refine ⟨y, c, hcl, hy, fun i u hi => ?_, hok⟩
        have hil : i < d.sz := by rw [← hcl]; exact (List.getElem?_eq_some_iff.1 hi).1
        have h2 := hcell i hil
        rw [hi] at h2
        rw [Nat.zero_add, ← h2, Addr.add_add])
      have hml' : m.length = len := hml.trans hlen
      have each : ∀ j y, m[j]? = some y → ∃ c, c.length = d.sz ∧ d.K w y c ∧ (∀ i u, c[i]? = some u → w.cell? (a.add (j * d.sz + i)) = some u) ∧ ok y := by
        intro j y hj
        have hjl : j < elems.length := by rw [← hml]; exact (List.getElem?_eq_some_iff.1 hj).1
        have := hmr j _ y (List.getElem?_eq_getElem hjl) hj
        rwa [Nat.zero_add] at this
      refine ⟨m, ⟨some a, cap, by rw [hml'], by rw [hml']; exact hl, rfl, by omega, fun _ => ⟨a, rfl, fun j p hj => ?_⟩⟩, by omega, fun y hy => ?_⟩
      · obtain ⟨c, h1, h2, h3, _⟩ := each j p hj
        exact ⟨c, h1, h2, h3⟩
      · obtain ⟨j, hj⟩ := List.getElem?_of_mem hy
        obtain ⟨c, _, _, _, h4⟩ := each j y hj
        exact h4⟩
/-- The fields from place i on, whose cells begin at off. -/
def OpnF {α : Type} (P : Program) (d : Kd α) (fs : List Field) (off : Nat) (ok : α → Prop) : Prop :=
  ∀ {H : Type} {enc : TypeId × Value → H} {w : World} {base : Nat} {spare : Nat → Bool} {held : Bool} {cs : List Value}, cs.length = off + d.sz →
    (∀ f ∈ fs, ∃ n y, DataW.trod enc P w base spare held n f.type ((cs.drop f.offset).take (P.cellsOf f.type)) = some y) → ∃ a, d.K w a (cs.drop off) ∧ ok a
theorem OpnF.one {α : Type} {P : Program} {d : Kd α} {f : Field} {ok : α → Prop} (h : Opn P d f.type ok) : OpnF P d [f] f.offset ok := fun {H enc w base spare held cs} hl hf => by
  obtain ⟨n, y, hy⟩ := hf f (by simp)
  rw [h.1, List.take_of_length_le (by rw [List.length_drop]; omega)] at hy
  exact h.2 hy
theorem OpnF.cons {α β : Type} {P : Program} {d : Kd α} {d2 : Kd β} {f : Field} {fs : List Field} {ok : α → Prop} {ok2 : β → Prop} {off : Nat} (h : Opn P d f.type ok) (h2 : OpnF P d2 fs off ok2) (ho : off = f.offset + d.sz) :
    OpnF P (Kd.pair d d2) (f :: fs) f.offset (fun x => ok x.1 ∧ ok2 x.2) := fun {H enc w base spare held cs} hl hf => by
  obtain ⟨n, y, hy⟩ := hf f (by simp)
  rw [h.1] at hy
  obtain ⟨a, ha, hok⟩ := h.2 hy
  have hl' : cs.length = f.offset + (d.sz + d2.sz) := hl
  obtain ⟨b, hb, hok2⟩ := h2 (cs := cs) (by rw [ho]; omega) (fun g hg => hf g (by simp [hg]))
  refine ⟨(a, b), ⟨(cs.drop f.offset).take d.sz, cs.drop off, ?_, ha, hb⟩, hok, hok2⟩
  rw [ho, ← List.drop_drop, List.take_append_drop]
theorem Opn.struct {α β : Type} {P : Program} {d : Kd α} {t : TypeId} {fs : Array Field} {ok : α → Prop} {proj : β → α} (hu : P.underlying t = some (.struct fs)) (hc : P.cellsOf t = d.sz) (h : OpnF P d fs.toList 0 ok) (back : α → β) (hback : ∀ a, proj (back a) = a) :
    Opn P (Kd.iso d proj) t (fun x => ok (proj x)) :=
  ⟨hc, fun {H enc w base spare held fuel cs x} hx => by
    obtain ⟨xs, n, _, _, hl, hlen, hf⟩ := DataW.trod_struct hu hx
    obtain ⟨a, ha, hok⟩ := h (enc := enc) (w := w) (base := base) (spare := spare) (held := held) (cs := cs) (by rw [hl, hc]; omega) (fun f hm => by
      obtain ⟨i, hi⟩ := List.getElem?_of_mem hm
      have hi' : fs[i]? = some f := by simpa using hi
      have := hf i f hi'
      have hil : i < xs.length := by rw [hlen]; exact (Array.getElem?_eq_some_iff.1 hi').1
      rw [List.getElem?_eq_getElem hil] at this
      exact ⟨n, _, this⟩)
    rw [List.drop_zero] at ha
    refine ⟨back a, ?_, ?_⟩
    · show d.K w (proj (back a)) cs
      rw [hback]; exact ha
    · show ok (proj (back a))
      rw [hback]; exact hok⟩
/-- An argument of such a type: what it is. -/
theorem Opn.arg {α : Type} {P : Program} {d : Kd α} {t : TypeId} {ok : α → Prop} (h : Opn P d t ok) {H : Type} {enc : TypeId × Value → H} {w : World} {base : Nat} {spare : Nat → Bool} {held : Bool} {v : Value} {x : DataW H} {ps : List MemPlace}
    (ht : DataW.Trod enc P w base spare held t v x ps) : ∃ a, d.K w a v.cells.toList ∧ ok a := by
  obtain ⟨fuel, hf⟩ := ht
  exact h.2 hf
theorem slice_arg {a A : Option Addr} {n m c k : Nat} (h : (Value.slice a n c).cells.toList = [.slice A m k]) : a = A ∧ n = m ∧ c = k := by
  simpa [Value.cells] using h
theorem agg_arg {cs : Array Value} {l : List Value} (h : (Value.agg cs).cells.toList = l) : cs = l.toArray := by
  subst h
  rfl
end Go.Proofs.YtdgleppagokjhaaO
