/- The rules, operation by operation: memory. -/
import Derived.Test.YtjemilhbipaepaaX3
namespace Go.Proofs.Ytjemilhbipaepaa
open Go.RowKit
section
variable {r : Option Nat} {P : Program} {ops : Array Oper} {Q : Exit → Act → World → Prop} {o : Oper} {KK : Act → World → Prop}
variable {n : Nat} {D : List Deferred} {L : List (Nat × Value)} {B : Nat → Prop} {w0 : World} {H : List Ck} {a : Act} {w : World}
variable {T : List (TypeId × TI)} {d : Nat} {K : Ck → List Ck}

theorem cel_block (hH : SH B w0 H w) {b : Nat} {cs : List Value} {e : TypeId} (hf : Foc H (.cel b cs e) K) : w.heap[b]? = some (.cells cs.toArray e) := (hH.ok _ hf.mem).2
theorem cel_cell (hH : SH B w0 H w) {b : Nat} {cs : List Value} {e : TypeId} (hf : Foc H (.cel b cs e) K) (j : Nat) : w.cell? ⟨b, j, none⟩ = cs[j]? := by
  simp [World.cell?, cel_block hH hf]
theorem cel_frozen (hH : SH B w0 H w) {b : Nat} {cs : List Value} {e : TypeId} (hf : Foc H (.cel b cs e) K) (j : Nat) : w.frozen? ⟨b, j, none⟩ = false := by
  simp [World.frozen?, cel_block hH hf]
/-- A known block is written anew. -/
theorem SH.setC (hH : SH B w0 H w) {b : Nat} {cs cs' : List Value} {e : TypeId} (hf : Foc H (.cel b cs e) K) {w' : World}
    (hw : w'.os = w.os ∧ w'.tape = w.tape ∧ w'.output = w.output ∧ w'.heap.size = w.heap.size) (hb : w'.heap[b]? = some (.cells cs'.toArray e)) (ho : ∀ k, k ≠ b → w'.heap[k]? = w.heap[k]?) :
    SH B w0 (K (.cel b cs' e)) w' := by
  have hc := hH.ok _ hf.mem
  refine hH.turn hf ⟨hw.1, hw.2.1, hw.2.2.1, Nat.le_of_eq hw.2.2.2.symm, fun k hk => ho k (fun e' => by subst e'; exact hc.1 hk)⟩ ⟨hc.1, hb⟩ (fun b' e' => .inl e') fun b' _ hne => ho b' (fun e' => hne (by subst e'; rfl))

theorem y_box {x : Operand} {t : TypeId} {v : Value} {cs : List Value} (hX : Sym n D L B w0 H a w) (hop : o.op = .box t x) (ho : o.guard = none ∧ o.dst = some d) (hd : Nat.blt d n = true)
    (hx : ev L x = some v) (hv : v.cells.toList = cs)
    (h : ∀ b a' w', Sym n D ((d, .pointer (some ⟨b, 0, none⟩)) :: L) B w0 (.cel b cs t :: H) a' w' → KK a' w') : XO P ops o KK a w :=
  y_value hX ho hd
    (by subst hv; simp [execOp, hop, hX.ev hx, Instr.box, newVar, newRow, newObj, Sem.run]) (hX.sh.allocC cs t) (h w.heap.size)
theorem y_box_agg {x : Operand} {t : TypeId} {cs : List Value} (hX : Sym n D L B w0 H a w) (hop : o.op = .box t x) (ho : o.guard = none ∧ o.dst = some d) (hd : Nat.blt d n = true)
    (hx : ev L x = some (.agg cs.toArray))
    (h : ∀ b a' w', Sym n D ((d, .pointer (some ⟨b, 0, none⟩)) :: L) B w0 (.cel b cs t :: H) a' w' → KK a' w') : XO P ops o KK a w :=
  y_box hX hop ho hd hx rfl h
theorem y_box_one {x : Operand} {t : TypeId} {v : Value} (hX : Sym n D L B w0 H a w) (hop : o.op = .box t x) (ho : o.guard = none ∧ o.dst = some d) (hd : Nat.blt d n = true)
    (hx : ev L x = some v) (hv : v.oneCell' = true)
    (h : ∀ b a' w', Sym n D ((d, .pointer (some ⟨b, 0, none⟩)) :: L) B w0 (.cel b [v] t :: H) a' w' → KK a' w') : XO P ops o KK a w :=
  y_box hX hop ho hd hx (by cases v <;> first | rfl | (simp [Value.oneCell'] at hv)) h
theorem y_alloc_agg {t : TypeId} {i : TI} {cs : List Value} (hX : Sym n D L B w0 H a w) (hop : o.op = .alloc t) (ho : o.guard = none ∧ o.dst = some d) (hd : Nat.blt d n = true)
    (hT : TabOk P T) (h1 : T.lookup t = some i) (hv : i.zero = .agg cs.toArray)
    (h : ∀ b a' w', Sym n D ((d, .pointer (some ⟨b, 0, none⟩)) :: L) B w0 (.cel b cs t :: H) a' w' → KK a' w') : XO P ops o KK a w :=
  y_value hX ho hd
    (by simp [execOp, hop, Instr.alloc, TI.run_zero (hT _ _ h1), hv, newVar, newRow, newObj, Sem.run, Value.cells]) (hX.sh.allocC cs t) (h w.heap.size)
theorem y_alloc_one {t : TypeId} {i : TI} {v : Value} (hX : Sym n D L B w0 H a w) (hop : o.op = .alloc t) (ho : o.guard = none ∧ o.dst = some d) (hd : Nat.blt d n = true)
    (hT : TabOk P T) (h1 : T.lookup t = some i) (hv : i.zero = v) (hv1 : v.oneCell' = true)
    (h : ∀ b a' w', Sym n D ((d, .pointer (some ⟨b, 0, none⟩)) :: L) B w0 (.cel b [v] t :: H) a' w' → KK a' w') : XO P ops o KK a w :=
  y_value hX ho hd
    (by
      have : v.cells = #[v] := by cases v <;> first | rfl | (simp [Value.oneCell'] at hv1)
      simp [execOp, hop, Instr.alloc, TI.run_zero (hT _ _ h1), hv, newVar, newRow, newObj, Sem.run, this]) (hX.sh.allocC [v] t) (h w.heap.size)
theorem y_alloc {t : TypeId} {i : TI} {cs : List Value} (hX : Sym n D L B w0 H a w) (hop : o.op = .alloc t) (ho : o.guard = none ∧ o.dst = some d) (hd : Nat.blt d n = true)
    (hT : TabOk P T) (h1 : T.lookup t = some i) (hv : i.zero.cells.toList = cs)
    (h : ∀ b a' w', Sym n D ((d, .pointer (some ⟨b, 0, none⟩)) :: L) B w0 (.cel b cs t :: H) a' w' → KK a' w') : XO P ops o KK a w :=
  y_value hX ho hd
    (by subst hv; simp [execOp, hop, Instr.alloc, TI.run_zero (hT _ _ h1), newVar, newRow, newObj, Sem.run]) (hX.sh.allocC cs t) (h w.heap.size)

theorem v_load {x : Operand} {t e : TypeId} {i : TI} {b p : Nat} {cs : List Value} {v : Value} (hS : St n D L a) (hop : o.op = .load t x)
    (hT : TabOk P T) (h1 : T.lookup t = some i) (h2 : isAggD i.desc = false) (hx : ev L x = some (.pointer (some ⟨b, p, none⟩))) (hf : Foc H (.cel b cs e) K) (hv : cs[p]? = some v) (w : World) (hH : SH B w0 H w) :
    (execOp a.eval o).run P w = .ok (.value v) w := by
  have hc := cel_cell hH hf p
  rw [hv] at hc
  simp [execOp, hop, hS.ev hx, Instr.loadAt, Instr.sureAddr, loadVar, TI.run_isAgg (hT _ _ h1), h2, hc]
theorem v_load_old {x : Operand} {t : TypeId} {i : TI} {b p : Nat} {v : Value} (hS : St n D L a) (hop : o.op = .load t x)
    (hT : TabOk P T) (h1 : T.lookup t = some i) (h2 : isAggD i.desc = false) (hx : ev L x = some (.pointer (some ⟨b, p, none⟩))) (hb : B b) (hv : w0.cell? ⟨b, p, none⟩ = some v) (w : World) (hH : SH B w0 H w) :
    (execOp a.eval o).run P w = .ok (.value v) w := by
  have hc := hH.below.cell (p := ⟨b, p, none⟩) hb
  rw [hv] at hc
  simp [execOp, hop, hS.ev hx, Instr.loadAt, Instr.sureAddr, loadVar, TI.run_isAgg (hT _ _ h1), h2, hc]
theorem run_load_agg {t : TypeId} {i : TI} (hi : TI.ok P t i) (h2 : isAggD i.desc = true) {b p : Nat} {vs : List Value} (hl : vs.length = i.size) (hc : ∀ j v, vs[j]? = some v → w.cell? ⟨b, p + j, none⟩ = some v) :
    (loadVar t ⟨b, p, none⟩).run P w = .ok (.agg vs.toArray) w := by
  have := run_loadCells_list (P := P) w ⟨b, p, none⟩ vs (fun j v hj => by rw [Addr.add_lit]; exact hc j v hj)
  rw [hl] at this
  simp [loadVar, TI.run_isAgg hi, h2, TI.run_sizeOf hi, this]
theorem v_load_agg {x : Operand} {t e : TypeId} {i : TI} {b p : Nat} {cs vs : List Value} (hS : St n D L a) (hop : o.op = .load t x)
    (hT : TabOk P T) (h1 : T.lookup t = some i) (h2 : isAggD i.desc = true) (hx : ev L x = some (.pointer (some ⟨b, p, none⟩))) (hf : Foc H (.cel b cs e) K) (hl : vs.length = i.size) (hv : ∃ X Y, cs = X ++ vs ++ Y ∧ X.length = p) (w : World) (hH : SH B w0 H w) :
    (execOp a.eval o).run P w = .ok (.value (.agg vs.toArray)) w := by
  obtain ⟨X, Y, rfl, rfl⟩ := hv
  have := run_load_agg (w := w) (hT _ _ h1) h2 (b := b) (p := X.length) hl (fun j v hj => by
    rw [cel_cell hH hf]
    have hlt : j < vs.length := (List.getElem?_eq_some_iff.1 hj).1
    rw [List.append_assoc, List.getElem?_append_right (by omega), Nat.add_sub_cancel_left, List.getElem?_append_left hlt]
    exact hj)
  simp [execOp, hop, hS.ev hx, Instr.loadAt, Instr.sureAddr, this]
/-- The whole of a block. -/
theorem v_load_whole {x : Operand} {t e : TypeId} {i : TI} {b : Nat} {cs : List Value} (hS : St n D L a) (hop : o.op = .load t x)
    (hT : TabOk P T) (h1 : T.lookup t = some i) (h2 : isAggD i.desc = true) (hx : ev L x = some (.pointer (some ⟨b, 0, none⟩))) (hf : Foc H (.cel b cs e) K) (hl : cs.length = i.size) (w : World) (hH : SH B w0 H w) :
    (execOp a.eval o).run P w = .ok (.value (.agg cs.toArray)) w :=
  v_load_agg hS hop hT h1 h2 hx hf hl ⟨[], [], by simp, rfl⟩ w hH
/-- A part of two cells. -/
theorem v_load_two {x : Operand} {t e : TypeId} {i : TI} {b p : Nat} {cs : List Value} {u v : Value} (hS : St n D L a) (hop : o.op = .load t x)
    (hT : TabOk P T) (h1 : T.lookup t = some i) (h2 : isAggD i.desc = true) (hx : ev L x = some (.pointer (some ⟨b, p, none⟩))) (hf : Foc H (.cel b cs e) K) (hl : i.size = 2) (hu : cs[p]? = some u) (hv : cs[p + 1]? = some v) (w : World) (hH : SH B w0 H w) :
    (execOp a.eval o).run P w = .ok (.value (.agg #[u, v])) w := by
  have := run_load_agg (w := w) (hT _ _ h1) h2 (b := b) (p := p) (vs := [u, v]) (by simp [hl]) (fun j y hj => by
    rw [cel_cell hH hf]
    match j, hj with
    | 0, hj => simp at hj; subst hj; exact hu
    | 1, hj => simp at hj; subst hj; exact hv)
  simp [execOp, hop, hS.ev hx, Instr.loadAt, Instr.sureAddr, this]
theorem v_load_old_agg {x : Operand} {t : TypeId} {i : TI} {b p : Nat} {vs : List Value} (hS : St n D L a) (hop : o.op = .load t x)
    (hT : TabOk P T) (h1 : T.lookup t = some i) (h2 : isAggD i.desc = true) (hx : ev L x = some (.pointer (some ⟨b, p, none⟩))) (hb : B b) (hl : vs.length = i.size) (hv : ∀ j v, vs[j]? = some v → w0.cell? ⟨b, p + j, none⟩ = some v) (w : World) (hH : SH B w0 H w) :
    (execOp a.eval o).run P w = .ok (.value (.agg vs.toArray)) w := by
  have := run_load_agg (w := w) (hT _ _ h1) h2 (b := b) (p := p) hl (fun j v hj => (hH.below.cell (p := ⟨b, p + j, none⟩) hb).trans (hv j v hj))
  simp [execOp, hop, hS.ev hx, Instr.loadAt, Instr.sureAddr, this]
theorem y_read {v : Value} (hX : Sym n D L B w0 H a w) (ho : o.guard = none ∧ o.dst = some d) (hd : Nat.blt d n = true) (hp : ∀ w, SH B w0 H w → (execOp a.eval o).run P w = .ok (.value v) w)
    (h : ∀ a' w', Sym n D ((d, v) :: L) B w0 H a' w' → KK a' w') : XO P ops o KK a w :=
  y_value hX ho hd (hp w hX.sh) hX.sh h

theorem run_storeVar_at {t : TypeId} {i : TI} (hi : TI.ok P t i) {b p : Nat} {v : Value} {cs : List Value} {e : TypeId} (hb : w.heap[b]? = some (.cells cs.toArray e)) (hs : v.cells.size = i.size)
    (h1 : ∀ u ∈ v.cells.toList, u.oneCell' = true) (hp : p + v.cells.size ≤ cs.length) :
    (storeVar t ⟨b, p, none⟩ v).run P w = .ok () (w.setRow b (cs.take p ++ v.cells.toList ++ cs.drop (p + v.cells.size)).toArray) := by
  have h2 := run_storeCells_at P b p e v.cells.toList 0 cs.toArray w hb (by simpa using hp) h1
  simp only [Nat.add_zero] at h2
  unfold storeVar
  simp [TI.run_sizeOf hi, hs, h2]
theorem y_store {x y : Operand} {t e : TypeId} {i : TI} {b p : Nat} {cs cs' : List Value} {v : Value} (hX : Sym n D L B w0 H a w) (hop : o.op = .store t x y) (ho : o.guard = none ∧ o.dst = none)
    (hT : TabOk P T) (h1 : T.lookup t = some i) (hi : i.size = 1) (hx : ev L x = some (.pointer (some ⟨b, p, none⟩))) (hy : ev L y = some v) (h2 : v.oneCell' = true) (hf : Foc H (.cel b cs e) K) (hs : SetAt cs p v cs')
    (h : ∀ a' w', Sym n D L B w0 (K (.cel b cs' e)) a' w' → KK a' w') : XO P ops o KK a w := by
  obtain ⟨rfl, hlt⟩ := hs.eq
  have hvc : v.cells = #[v] := by cases v <;> first | rfl | (simp [Value.oneCell'] at h2)
  have hrun := run_storeVar_at (w := w) (v := v) (p := p) (hT _ _ h1) (cel_block hX.sh hf) (by rw [hvc, hi]; rfl) (by rw [hvc]; simpa using h2) (by rw [hvc]; simp; omega)
  refine y_skip hX ho (w' := _) (by simp [execOp, hop, hX.ev hx, hX.ev hy, Instr.storeAt, Instr.sureAddr, hrun]; rfl) (H' := K (.cel b (cs.set p v) e)) ?_ h
  refine hX.sh.setC hf ⟨rfl, rfl, rfl, by simp⟩ ?_ fun k hk => setRow_other w b k _ hk
  rw [setRow_heap w b cs.toArray _ e _ (cel_block hX.sh hf)]
  simp [hvc, List.set_eq_take_append_cons_drop, hlt]
theorem y_store_whole {x y : Operand} {t e : TypeId} {i : TI} {b : Nat} {cs vs : List Value} {v : Value} (hX : Sym n D L B w0 H a w) (hop : o.op = .store t x y) (ho : o.guard = none ∧ o.dst = none)
    (hT : TabOk P T) (h1 : T.lookup t = some i) (hx : ev L x = some (.pointer (some ⟨b, 0, none⟩))) (hy : ev L y = some v) (hv : v.cells.toList = vs) (h2 : vs.all (·.oneCell') = true) (hf : Foc H (.cel b cs e) K) (hl : cs.length = i.size) (hl' : vs.length = i.size)
    (h : ∀ a' w', Sym n D L B w0 (K (.cel b vs e)) a' w' → KK a' w') : XO P ops o KK a w := by
  have hsz : v.cells.size = i.size := by rw [← hl', ← hv]; simp
  have hrun := run_storeVar_at (w := w) (v := v) (p := 0) (hT _ _ h1) (cel_block hX.sh hf) hsz (by rw [hv]; simpa using h2) (by omega)
  refine y_skip hX ho (w' := _) (by simp [execOp, hop, hX.ev hx, hX.ev hy, Instr.storeAt, Instr.sureAddr, hrun]; rfl) (H' := K (.cel b vs e)) ?_ h
  refine hX.sh.setC hf ⟨rfl, rfl, rfl, by simp⟩ ?_ fun k hk => setRow_other w b k _ hk
  rw [setRow_heap w b cs.toArray _ e _ (cel_block hX.sh hf)]
  simp [hv, List.drop_of_length_le (show cs.length ≤ v.cells.size by omega)]
end
end Go.Proofs.Ytjemilhbipaepaa
