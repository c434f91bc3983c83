/- A struct variable, read and written as a whole. No condition. -/
import Derived.Test.YtkfjgloalfpcmaaYx0
import Derived.Deep.MidRow
namespace Go.Proofs.Ytkfjgloalfpcmaa.QFnExactNodeOK
open Go.RowKit Go.Proofs.YtkfjgloalfpcmaaW.PrintWords Go.Proofs.YtkfjgloalfpcmaaW.PrintLast Go.Proofs.YtkfjgloalfpcmaaW.PrintMore
/-- A whole variable of many fields, read. -/
theorem ld_ {P : Program} {ops : Array Oper} {rest : List Oper} {o : Oper} {a : Act} {Q : Exit → Act → World → Prop} {W : World} (hgd : o.guard = none) {p : Tmp} {ty : TypeId} (ho : o.op = .load ty (.tmp p)) {g : Nat} {t : TypeId} {cs : Array Value} {d : TypeDesc}
    (hp : a.eval (.tmp p) = .pointer (some ⟨g, 0, none⟩)) (hg : W.heap[g]? = some (.cells cs t (0, 0))) (hu : P.underlying ty = some d) (hd : (match d with | .struct _ | .array _ _ => true | _ => false) = true) (hi : (P.info? ty).map (·.size) = some cs.size)
    (h : wpList P ops Q rest (a.put o.dst (.agg cs)) W) : wpList P ops Q (o :: rest) a W := by
  refine Kd.event_run hgd ?_ h
  unfold execOp
  rw [ho]
  show (do pure (Next.value (← Instr.loadAt ty (a.eval (.tmp p)))) : Sem Next).run P W = _
  rw [hp]
  simp only [Instr.loadAt, Instr.sureAddr, Sem.run_bind, Sem.run_pure, Result.andThen_ok, run_loadVar_row W g t ty cs (0, 0) d hg hu hd hi]
/-- A whole variable of sixteen fields, written. -/
theorem st16_ {P : Program} {ops : Array Oper} {rest : List Oper} {o : Oper} {a : Act} {Q : Exit → Act → World → Prop} {W : World} (hgd : o.guard = none) {p : Tmp} {ty : TypeId} {x : Operand} (ho : o.op = .store ty (.tmp p) x) (hN : o.dst = none) {g : Nat} {t : TypeId}
    {c0 c1 c2 c3 c4 c5 c6 c7 c8 c9 c10 c11 c12 c13 c14 c15 v0 v1 v2 v3 v4 v5 v6 v7 v8 v9 v10 v11 v12 v13 v14 v15 : Value} (hp : a.eval (.tmp p) = .pointer (some ⟨g, 0, none⟩)) (hv : a.eval x = .agg #[v0, v1, v2, v3, v4, v5, v6, v7, v8, v9, v10, v11, v12, v13, v14, v15])
    (hg : W.heap[g]? = some (.cells #[c0, c1, c2, c3, c4, c5, c6, c7, c8, c9, c10, c11, c12, c13, c14, c15] t (0, 0))) (hi : (P.info? ty).map (·.size) = some 16) (h1 : (#[v0, v1, v2, v3, v4, v5, v6, v7, v8, v9, v10, v11, v12, v13, v14, v15] : Array Value).all (·.oneCell') = true)
    (h : wpList P ops Q rest a ((((((((((((((((W.setCell ⟨g, 0, none⟩ v0).setCell ⟨g, 1, none⟩ v1).setCell ⟨g, 2, none⟩ v2).setCell ⟨g, 3, none⟩ v3).setCell ⟨g, 4, none⟩ v4).setCell ⟨g, 5, none⟩ v5).setCell ⟨g, 6, none⟩ v6).setCell ⟨g, 7, none⟩ v7).setCell ⟨g, 8, none⟩ v8).setCell ⟨g, 9, none⟩ v9).setCell ⟨g, 10, none⟩ v10).setCell ⟨g, 11, none⟩ v11).setCell ⟨g, 12, none⟩ v12).setCell ⟨g, 13, none⟩ v13).setCell ⟨g, 14, none⟩ v14).setCell ⟨g, 15, none⟩ v15)) : wpList P ops Q (o :: rest) a W := by
  refine store_event (w1 := W.setCells g 0 [v0, v1, v2, v3, v4, v5, v6, v7, v8, v9, v10, v11, v12, v13, v14, v15]) hgd ho hN ?_ (fun w' e => by subst e; exact h)
  have ht : W.there g 0 16 := by
    intro j hj
    rw [Nat.zero_add]
    refine ⟨?_, blk_frozen hg j⟩
    rw [blk_cell hg j]
    rcases j with _ | _ | _ | _ | _ | _ | _ | _ | _ | _ | _ | _ | _ | _ | _ | _ | j <;> first | rfl | (exfalso; omega)
  unfold execOp
  rw [ho]
  show (do Instr.storeAt ty (a.eval (.tmp p)) (a.eval x); pure Next.skip : Sem Next).run P W = _
  rw [hp, hv]
  simp only [Sem.run_bind, run_storeAt_mid W g 0 ty #[v0, v1, v2, v3, v4, v5, v6, v7, v8, v9, v10, v11, v12, v13, v14, v15] ht hi h1, Result.andThen_ok, Sem.run_pure]
theorem gate_load {P : Program} {ops : Array Oper} {rest : List Oper} {o : Oper} {a : Act} {Q : Exit → Act → World → Prop} {W : World} {t : TypeId} {p : Tmp} (_ho : o.op = .load t (.tmp p)) (h : wpList P ops Q (o :: rest) a W) : wpList P ops Q (o :: rest) a W := h
/-- The first fields of a variable, read as a whole. -/
theorem ldpre_ {P : Program} {ops : Array Oper} {rest : List Oper} {o : Oper} {a : Act} {Q : Exit → Act → World → Prop} {W : World} (hgd : o.guard = none) {p : Tmp} {ty : TypeId} (ho : o.op = .load ty (.tmp p)) {g : Nat} {t : TypeId} {cs ra : Array Value} {d : TypeDesc}
    (hp : a.eval (.tmp p) = .pointer (some ⟨g, 0, none⟩)) (hg : W.heap[g]? = some (.cells cs t (0, 0))) (hra : ra.toList = cs.toList.take ra.size) (hu : P.underlying ty = some d) (hd : d.isRow = true) (hi : (P.info? ty).map (·.size) = some ra.size)
    (h : wpList P ops Q rest (a.put o.dst (.agg ra)) W) : wpList P ops Q (o :: rest) a W := by
  refine Kd.event_run hgd ?_ h
  have hc : W.rangeAt g 0 ra.toList := by
    intro j v hv
    rw [hra, List.getElem?_take] at hv
    split at hv
    · rw [Nat.zero_add, blk_cell hg j, ← Array.getElem?_toList]
      exact hv
    · cases hv
  have e := run_loadAt_mid (P := P) W g 0 ty ra.toList d hc hu hd (by simpa using hi)
  rw [Array.toArray_toList] at e
  unfold execOp
  rw [ho]
  show (do pure (Next.value (← Instr.loadAt ty (a.eval (.tmp p)))) : Sem Next).run P W = _
  rw [hp]
  simp only [Sem.run_bind, e, Sem.run_pure, Result.andThen_ok]
theorem normw_ {P : Program} {ops : Array Oper} {rest : List Oper} {a a' : Act} {Q : Exit → Act → World → Prop} {W : World} (ha : a = a') (h : wpList P ops Q rest a' W) : wpList P ops Q rest a W := by
  rw [ha]
  exact h
theorem cb {w w' : World} {p : Addr} {v : Value} (hb : Aside0 (Below w.heap.size w w')) (h : w.cell? p = some v) : w'.cell? p = some v := (hb.out.cell (World.block_lt_of_cell? w _ h)).trans h
end Go.Proofs.Ytkfjgloalfpcmaa.QFnExactNodeOK
