/- The program's Logic and the reference's answer alike at every operation and every two values. No condition. -/
import Derived.Test.YtkhkhcgjopnchaaQFnExactLogicx6
import Derived.Test.YtkhkhcgjopnchaaValLogic
namespace Go.Proofs.Ytkhkhcgjopnchaa.Pure
set_option linter.unusedVariables false
set_option linter.unusedSimpArgs false
open Go.RowKit Go.Proofs.Ytkhkhcgjopnchaa.QFnExactLogic Go.Proofs.YtkhkhcgjopnchaaW.PrintWords Go.Proofs.YtkhkhcgjopnchaaU Go.Proofs.Ytkhkhcgjopnchaa.QFnExactLogicV
theorem from8 {α : Type} {g : Nat → Option α} {r : α} (h : ∀ k, g (k + 8) = some r) : Ev g r := ⟨8, fun n hn => by
  obtain ⟨m, rfl⟩ : ∃ m, n = m + 8 := ⟨n - 8, by omega⟩
  exact h m⟩
theorem small_of {K N S : Int} {s : ByteArray} (h : VOK K N S s) (hK : K ≤ 1) : K = 0 ∧ N = 0 ∨ K = 1 ∧ N = 0 ∨ K = 1 ∧ N = 1 := by
  rcases h with h | h | h | h | h | h <;> omega
theorem lgc (op aK aN S : Int) (s : ByteArray) (bK bN T : Int) (t : ByteArray) (hop : op = 1 ∨ op = 2 ∨ op = 3) (ha : aK = 0 ∧ aN = 0 ∨ aK = 1 ∧ aN = 0 ∨ aK = 1 ∧ aN = 1) (hb : bK = 0 ∧ bN = 0 ∨ bK = 1 ∧ bN = 0 ∨ bK = 1 ∧ bN = 1) :
    Ev (fun k => spec_Logic.j0 k op false aK aN S s bK bN T t) (impl_Logic.lg op aK aN bK bN) := by
  rcases hop with rfl | rfl | rfl <;> rcases ha with ⟨rfl, rfl⟩ | ⟨rfl, rfl⟩ | ⟨rfl, rfl⟩ <;> rcases hb with ⟨rfl, rfl⟩ | ⟨rfl, rfl⟩ | ⟨rfl, rfl⟩ <;> exact from8 (fun k => rfl)
theorem bad (op aK aN S : Int) (s : ByteArray) (bK bN T : Int) (t : ByteArray) : Ev (fun k => spec_Logic.j0 k op true aK aN S s bK bN T t) (0, 0, 0, (⟨#[]⟩ : ByteArray), 1) :=
  Ev.succ (by simp only [spec_Logic.j0]; exact Ev.some' rfl)
theorem logic_alike (op aK aN S : Int) (s : ByteArray) (bK bN T : Int) (t : ByteArray) (hs : s.size ≤ 9223372036854775807) (ht : t.size ≤ 9223372036854775807) :
    ∃ r, Ev (fun k => spec_Logic.f k op aK aN S s bK bN T t) r ∧ Ev (fun k => impl_Logic.f k op aK aN S s bK bN T t) r := by
  obtain ⟨p, hp, p1, p2⟩ := val_alike aK aN S s hs
  obtain ⟨q, hq, q1, q2⟩ := val_alike bK bN T t ht
  simp only [spec_Logic.f, impl_Logic.f]
  by_cases c1 : op < 1
  · exact ⟨_, Ev.pos c1 (bad ..), Ev.pos c1 (Ev.some' rfl)⟩
  · by_cases c2 : op > 3
    · exact ⟨_, Ev.neg c1 (Ev.pos c2 (bad ..)), Ev.neg c1 (Ev.pos c2 (Ev.some' rfl))⟩
    · cases p with
      | false => exact ⟨_, Ev.neg c1 (Ev.neg c2 (Ev.bind p1 (Ev.neg (by simp) (bad ..)))), Ev.neg c1 (Ev.neg c2 (Ev.bind p2 (Ev.neg (by simp) (Ev.some' rfl))))⟩
      | true =>
        cases q with
        | false => exact ⟨_, Ev.neg c1 (Ev.neg c2 (Ev.bind p1 (Ev.pos rfl (Ev.bind q1 (bad ..))))), Ev.neg c1 (Ev.neg c2 (Ev.bind p2 (Ev.pos rfl (Ev.bind q2 (Ev.neg (by simp) (Ev.some' rfl))))))⟩
        | true =>
          have va := hp.1 rfl
          have vb := hq.1 rfl
          have neg2 : ∀ r, Ev (fun k => spec_Logic.j0 k op false aK aN S s bK bN T t) r → Ev (fun k => if op < 1 then spec_Logic.j0 k op true aK aN S s bK bN T t else if op > 3 then spec_Logic.j0 k op true aK aN S s bK bN T t else (spec_ValueOK.f k aK aN S s).bind fun t113 => if t113 = true then (spec_ValueOK.f k bK bN T t).bind fun t114 => spec_Logic.j0 k op (!t114) aK aN S s bK bN T t else spec_Logic.j0 k op true aK aN S s bK bN T t) r :=
            fun r hr => Ev.neg c1 (Ev.neg c2 (Ev.bind p1 (Ev.pos rfl (Ev.bind q1 hr))))
          have typ : ∀ b : Bool, b = true → Ev (fun k => spec_Logic.j1 k op b aK aN S s bK bN T t) (0, 0, 0, (⟨#[]⟩ : ByteArray), 2) := fun b hb => Ev.succ (by simp only [spec_Logic.j1]; exact Ev.pos hb (Ev.some' rfl))
          by_cases c3 : aK > 1
          · refine ⟨(0, 0, 0, (⟨#[]⟩ : ByteArray), 2), neg2 _ (Ev.succ ?_), Ev.neg c1 (Ev.neg c2 (Ev.bind p2 (Ev.pos rfl (Ev.bind q2 (Ev.pos rfl (Ev.pos c3 (Ev.some' rfl)))))))⟩
            simp only [spec_Logic.j0]
            exact Ev.neg (by simp) (Ev.neg (by omega) (Ev.neg (by omega) (typ _ rfl)))
          · by_cases c4 : bK > 1
            · refine ⟨(0, 0, 0, (⟨#[]⟩ : ByteArray), 2), neg2 _ (Ev.succ ?_), Ev.neg c1 (Ev.neg c2 (Ev.bind p2 (Ev.pos rfl (Ev.bind q2 (Ev.pos rfl (Ev.neg c3 (Ev.pos c4 (Ev.some' rfl))))))))⟩
              have hb : (bK != 1) = true := by rw [bne_iff_ne]; omega
              simp only [spec_Logic.j0]
              rcases small_of va (by omega) with ⟨rfl, rfl⟩ | ⟨rfl, rfl⟩ | ⟨rfl, rfl⟩
              · exact Ev.neg (by simp) (Ev.pos rfl (Ev.neg (by omega) (typ _ hb)))
              · exact Ev.neg (by simp) (Ev.neg (by omega) (Ev.pos rfl (Ev.neg (by omega) (typ _ hb))))
              · exact Ev.neg (by simp) (Ev.neg (by omega) (Ev.pos rfl (Ev.neg (by omega) (typ _ hb))))
            · exact ⟨_, neg2 _ (lgc op aK aN S s bK bN T t (by omega) (small_of va (by omega)) (small_of vb (by omega))), Ev.neg c1 (Ev.neg c2 (Ev.bind p2 (Ev.pos rfl (Ev.bind q2 (Ev.pos rfl (Ev.neg c3 (Ev.neg c4 (Ev.some' rfl))))))))⟩
theorem FnExactLogic (op : Int) (aK aN S : Int) (s : ByteArray) (bK bN T : Int) (t : ByteArray) (h : (Lit.int .i64 op).wf = true)
    (oa : (Lit.int .i64 aK).wf = true ∧ (Lit.int .i64 aN).wf = true ∧ (Lit.int .i64 S).wf = true ∧ s.size ≤ 9223372036854775807)
    (ob : (Lit.int .i64 bK).wf = true ∧ (Lit.int .i64 bN).wf = true ∧ (Lit.int .i64 T).wf = true ∧ t.size ≤ 9223372036854775807) : ∃ k, laws_FnExactLogic.f k op aK aN S s bK bN T t = some true := by
  obtain ⟨r, h1, h2⟩ := logic_alike op aK aN S s bK bN T t oa.2.2.2 ob.2.2.2
  refine Ev.rounds ?_
  simp only [laws_FnExactLogic.f, laws_toValue.f, Option.bind_some, laws_szValue.f]
  by_cases hc : wrap64 (1048576 - (s.size : Int)) < 0
  · simp only [if_pos hc, Option.bind_some]
    exact Ev.pos (by omega) (Ev.some' rfl)
  · simp only [if_neg hc, Option.bind_some]
    by_cases hd : wrap64 (wrap64 (1048576 - (s.size : Int)) - (t.size : Int)) < 0
    · simp only [if_pos hd, Option.bind_some]
      exact Ev.pos (by omega) (Ev.some' rfl)
    · simp only [if_neg hd, Option.bind_some]
      exact Ev.bind h1 (Ev.bind h2 (Ev.bndc (b := true) (by simp [laws_eqValue.f]) (Ev.pos rfl (Ev.pos (by trivial) (Ev.some' rfl)))))
end Go.Proofs.Ytkhkhcgjopnchaa.Pure
