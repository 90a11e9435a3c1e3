/- The rules: calls that make pieces, results that lie in memory. -/
import Derived.Test.YtjemilhbipaepaaX13
namespace Go.Proofs.Ytjemilhbipaepaa
open Go.RowKit
section
variable {P : Program} {ops : Array Oper} {o : Oper} {KK : Act → World → Prop} {n : Nat} {D : List Deferred} {L : List (Nat × Value)} {B : Nat → Prop} {w0 : World} {H : List Ck} {a : Act} {w : World} {d : Nat} {T : List (TypeId × TI)}
/-- A call that makes pieces of memory. -/
theorem y_callL {α : Type} {V : α → Value} {C : α → List Ck} {φ : α → Prop} {f : FuncId} {fn : Func} {xs : List Operand} {ts : Array TypeId} {vs : List Value} (hX : Sym n D L B w0 H a w)
    (hop : o.op = .call { callee := .value (.func f), args := xs.toArray, argTypes := ts }) (ho : o.guard = none ∧ o.dst = some d) (hd : Nat.blt d n = true)
    (hfn : P.funcs[f]? = some fn) (hn : (fn.name == "runtime.NumGoroutine") = false) (hb : fn.body.isNone = false) (hv : evs L xs = some vs) (hC : Ret P f vs.toArray w fun u w' => ∃ x, u = V x ∧ φ x ∧ SF w (C x) w')
    (h : ∀ x a' w', φ x → Sym n D ((d, V x) :: L) B w0 (C x ++ H) a' w' → KK a' w') : XO P ops o KK a w :=
  y_call hX hop ho hd hfn hn hb hv hC fun u a' w' ⟨x, hu, hφ, hw⟩ hS => h x a' w' hφ ⟨by rw [← hu]; exact hS, hX.sh.join hw⟩
/-- A call of a function value. -/
theorem run_callV {f : FuncId} {fn : Func} {s : Nat} {lb : List Value} {xs : List Operand} {ts : Array TypeId} {vs : List Value} (hX : Sym n D L B w0 H a w) (hop : o.op = .call { callee := .value (.tmp s), args := xs.toArray, argTypes := ts })
    (hs : L.lookup s = some (.func (.func f) #[] lb.toArray)) (hfn : P.funcs[f]? = some fn)
    (hn : (fn.name == "runtime.NumGoroutine") = false) (hb : fn.body.isNone = false) (hv : evs L xs = some vs) : (execOp a.eval o).run P w = .ok (.enter f (vs ++ lb).toArray) w := by
  have e : a.eval (.tmp s) = .func (.func f) #[] lb.toArray := hX.ev (x := .tmp s) hs
  have hn' : fn.name ≠ "runtime.NumGoroutine" := by simpa using hn
  have hb' : fn.body ≠ none := by intro h; rw [h] at hb; cases hb
  simp [execOp, hop, resolve, e, Deferred.ofValue, invoke, callFunc, program, Sem.run, hfn, hn', hb', hX.st.evs hv]
theorem y_callV {f : FuncId} {fn : Func} {s : Nat} {lb : List Value} {xs : List Operand} {ts : Array TypeId} {vs : List Value} {R : Value → World → Prop} (hX : Sym n D L B w0 H a w)
    (hop : o.op = .call { callee := .value (.tmp s), args := xs.toArray, argTypes := ts }) (ho : o.guard = none ∧ o.dst = some d) (hd : Nat.blt d n = true) (hs : L.lookup s = some (.func (.func f) #[] lb.toArray))
    (hfn : P.funcs[f]? = some fn) (hn : (fn.name == "runtime.NumGoroutine") = false) (hb : fn.body.isNone = false) (hv : evs L xs = some vs) (hC : Ret P f (vs ++ lb).toArray w R)
    (h : ∀ v a' w', R v w' → St n D ((d, v) :: L) a' → KK a' w') : XO P ops o KK a w := by
  refine .inl ⟨by simp [Region.wanted, ho.1], .inr (.inr ⟨f, (vs ++ lb).toArray, w, run_callV hX hop hs hfn hn hb hv, ?_⟩)⟩
  refine Calls.mono hC ?_
  rintro e w' ⟨v, rfl, hR⟩
  exact ⟨v, rfl, h v _ w' hR (by rw [ho.2]; exact hX.st.put d v (lt_of_blt hd))⟩
/-- A result in memory, and one in a slot. -/
theorem f_retCT {fn : Func} {R : Value → World → Prop} {s s' b : Nat} {t e : TypeId} {i : TI} {cs : List Value} {v' : Value} {K : Ck → List Ck} (hX : Sym n [] L B w0 H a w) (hr : fn.results = #[.cell s t, .tmp s'])
    (hT : TabOk P T) (h1 : T.lookup t = some i) (h2 : isAggD i.desc = true) (hs : L.lookup s = some (.pointer (some ⟨b, 0, none⟩))) (hf : Foc H (.cel b cs e) K) (hl : cs.length = i.size) (hs' : L.lookup s' = some v') (h : R (.tuple #[.agg cs.toArray, v']) w) :
    bodyPost P fn (fun e w' => ∃ v, e = .returned v ∧ R v w') .ret a w := by
  have g1 : a.tmps.getD s undef = .pointer (some ⟨b, 0, none⟩) := hX.ev (x := .tmp s) hs
  have g2 : a.tmps.getD s' undef = v' := hX.ev (x := .tmp s') hs'
  have g3 := run_load_agg (w := w) (hT _ _ h1) h2 (b := b) (p := 0) hl (fun j v hj => by
    rw [cel_cell hX.sh hf, Nat.zero_add]; exact hj)
  exact ⟨hX.st.defs, .tuple #[.agg cs.toArray, v'], by
    have g1' : a.tmps[s]?.getD undef = .pointer (some ⟨b, 0, none⟩) := by rw [← Array.getD_eq_getD_getElem?]; exact g1
    simp [results, hr, ← g2, g1', asAddr, g3], _, rfl, h⟩
theorem f_retC {fn : Func} {R : Value → World → Prop} {s b : Nat} {t e : TypeId} {i : TI} {cs : List Value} {K : Ck → List Ck} (hX : Sym n [] L B w0 H a w) (hr : fn.results = #[.cell s t])
    (hT : TabOk P T) (h1 : T.lookup t = some i) (h2 : isAggD i.desc = true) (hs : L.lookup s = some (.pointer (some ⟨b, 0, none⟩))) (hf : Foc H (.cel b cs e) K) (hl : cs.length = i.size) (h : R (.agg cs.toArray) w) :
    bodyPost P fn (fun e w' => ∃ v, e = .returned v ∧ R v w') .ret a w := by
  have g1 : a.tmps.getD s undef = .pointer (some ⟨b, 0, none⟩) := hX.ev (x := .tmp s) hs
  have g3 := run_load_agg (w := w) (hT _ _ h1) h2 (b := b) (p := 0) hl (fun j v hj => by
    rw [cel_cell hX.sh hf, Nat.zero_add]; exact hj)
  exact ⟨hX.st.defs, .agg cs.toArray, by
    have g1' : a.tmps[s]?.getD undef = .pointer (some ⟨b, 0, none⟩) := by rw [← Array.getD_eq_getD_getElem?]; exact g1
    simp [results, hr, g1', asAddr, g3], _, rfl, h⟩
/-- Bytes of a literal: the block is marked behind its end. -/
theorem y_convSS {u : Operand} {t e : TypeId} {i i' : TI} {b m : Nat} {cs : List Value} {K : Ck → List Ck} (hX : Sym n D L B w0 H a w) (hop : o.op = .convert t t u) (ho : o.guard = none ∧ o.dst = some d) (hd : Nat.blt d n = true)
    (hT : TabOk P T) (h1 : T.lookup t = some i) (h2 : i.desc = .slice e) (h3 : T.lookup e = some i') (h4 : i'.desc = .int .u8) (hu : ev L u = some (.slice (some ⟨b, 0, none⟩) m m)) (hf : Foc H (.cel b cs e) K) (hm : cs.length = m) (hm' : m ≤ 140737488355328)
    (h : ∀ a' w', Sym n D ((d, .slice (some ⟨b, 0, none⟩) m m) :: L) B w0 (K (.row (some ⟨b, 0, none⟩) m e 1 m cs)) a' w' → KK a' w') : XO P ops o KK a w := by
  have e1 := (hT _ _ h1).1
  rw [h2] at e1
  have e3 := (hT _ _ h3).1
  rw [h4] at e3
  have hb := cel_block hX.sh hf
  have hsh : w.shape? b = some (e, cs.length) := by simp [World.shape?, hb]
  have hfr : (w.freeze ⟨b, cs.length, none⟩ 1).heap[b]? = some (.cells cs.toArray e (cs.length, cs.length + 1)) := by
    simp [World.freeze, Array.getElem?_modify, hb]
  have hother : ∀ k, k ≠ b → (w.freeze ⟨b, cs.length, none⟩ 1).heap[k]? = w.heap[k]? := fun k hk => by
    simp [World.freeze, Array.getElem?_modify, Ne.symm hk]
  have hc := hX.sh.ok _ hf.mem
  refine y_value hX ho hd (v := .slice (some ⟨b, 0, none⟩) m m) (w' := w.freeze ⟨b, cs.length, none⟩ 1) (by simp [execOp, hop, hX.ev hu, convert, run_underlying e1, run_underlying e3, markStringish, hsh]) ?_ h
  refine hX.sh.turn hf ⟨by simp [World.freeze], by simp [World.freeze], by simp [World.freeze], by simp [World.freeze], fun q hq => hother q (fun e' => by subst e'; exact hc.1 hq)⟩ (c' := .row (some ⟨b, 0, none⟩) m e 1 m cs) ?_ (fun q hq => .inl hq) fun q _ hq => hother q (fun e' => hq (by subst e'; rfl))
  exact ⟨by omega, .inr ⟨b, _, _, rfl, hc.1, hfr, .inr (by simp), Nat.le_refl _, by unfold maxLen; omega, by simp [hm], by subst hm; simp⟩⟩
/-- A known block of cells that starts a row. -/
theorem SH.toRow {b : Nat} {cs : List Value} {e : TypeId} {size m : Nat} (hH : SH B w0 (.cel b cs e :: H) w) (hl : cs.length = m * size) (hm : m ≤ 140737488355328) : SH B w0 (.row (some ⟨b, 0, none⟩) m e size m cs :: H) w := by
  refine ⟨hH.below, hH.base, fun c hc => ?_, ?_⟩
  · rcases List.mem_cons.1 hc with rfl | hc
    · have := hH.ok _ (List.mem_cons_self)
      exact ⟨hl, .inr ⟨b, cs.toArray, (0, 0), rfl, this.1, this.2, .inl rfl, Nat.le_refl _, by unfold maxLen; omega, by simpa using hl, by simp [← hl]⟩⟩
    · exact hH.ok c (List.mem_cons_of_mem _ hc)
  · have := List.pairwise_cons.1 hH.apart
    exact List.Pairwise.cons (fun c hc b e' => this.1 c hc b (by simpa [Ck.at] using e')) this.2
/-- Values are put into a list from a place on. -/
inductive PutAt : List Value → Nat → List Value → List Value → Prop where
  | nil {l : List Value} : PutAt l 0 [] l
  | cons {c v : Value} {l l' vs : List Value} (h : PutAt l 0 vs l') : PutAt (c :: l) 0 (v :: vs) (v :: l')
  | skip {c : Value} {l l' vs : List Value} {k : Nat} (h : PutAt l k vs l') : PutAt (c :: l) (k + 1) vs (c :: l')
theorem PutAt.eq {l l' vs : List Value} {k : Nat} (h : PutAt l k vs l') : l' = l.take k ++ vs ++ l.drop (k + vs.length) ∧ k + vs.length ≤ l.length := by
  induction h with
  | nil => simp
  | cons _ ih => exact ⟨by simp only [Nat.zero_add, List.take_zero, List.nil_append] at ih; rw [ih.1]; simp, by simp only [List.length_cons] at *; omega⟩
  | skip _ ih => exact ⟨by rw [ih.1, show ∀ a b : Nat, a + 1 + b = (a + b) + 1 by omega]; simp, by simp only [List.length_cons] at *; omega⟩
theorem put_fold : ∀ (vs : List Value) (l : List Value) (k j : Nat), k + j + vs.length ≤ l.length →
    ((vs.zipIdx j).foldl (fun (cs : Array Value) (p : Value × Nat) => cs.setIfInBounds (k + p.2) p.1) l.toArray) = (l.take (k + j) ++ vs ++ l.drop (k + j + vs.length)).toArray
  | [], l, k, j, h => by simp
  | v :: vs, l, k, j, h => by
    simp only [List.length_cons] at h
    simp only [List.zipIdx_cons, List.foldl_cons]
    rw [show l.toArray.setIfInBounds (k + j) v = (l.set (k + j) v).toArray by simp]
    rw [put_fold vs _ k (j + 1) (by simp; omega)]
    congr 1
    rw [show k + (j + 1) = k + j + 1 by omega, List.take_succ_eq_append_getElem (by simp; omega)]
    simp only [List.getElem_set_self, List.append_assoc, List.length_cons]
    rw [List.take_set_of_le (by omega), List.drop_set_of_lt (by omega)]
    simp [Nat.add_comm, Nat.add_left_comm]
inductive FillR (pl : List (Nat × Nat)) : List Value → List (Nat × Value) → List Value → Prop where
  | nil {z : List Value} : FillR pl z [] z
  | one {z z' z'' : List Value} {i off : Nat} {v : Value} {rest : List (Nat × Value)} (hp : pl[i]? = some (off, 1)) (hv : v.oneCell' = true) (h : PutAt z off [v] z') (hr : FillR pl z' rest z'') : FillR pl z ((i, v) :: rest) z''
  | agg {z z' z'' : List Value} {i off size : Nat} {vs : List Value} {rest : List (Nat × Value)} (hp : pl[i]? = some (off, size)) (hl : vs.length = size) (h : PutAt z off vs z') (hr : FillR pl z' rest z'') : FillR pl z ((i, .agg vs.toArray) :: rest) z''
theorem fill_step {pl : List (Nat × Nat)} {z z' : List Value} {i off size : Nat} {v : Value} {rest : List (Nat × Value)} (hp : pl[i]? = some (off, size)) (hl : v.cells.size = size) (h : PutAt z off v.cells.toList z') :
    Instr.fill (fun k => pl[k]?) z.toArray ((i, v) :: rest) = Instr.fill (fun k => pl[k]?) z'.toArray rest := by
  obtain ⟨h1, h2⟩ := h.eq
  rw [Instr.fill]
  simp only [hp]
  simp only [Array.length_toList] at h2 h1
  rw [if_neg (by simp [hl]; simp [hl] at h2; omega)]
  congr 1
  have := put_fold v.cells.toList z off 0 (by simp only [Array.length_toList]; omega)
  rw [h1, ← Array.foldl_toList]
  simp only [Nat.add_zero, Array.toList_zipIdx, Array.length_toList] at this ⊢
  exact this
theorem FillR.eq {pl : List (Nat × Nat)} {z z' : List Value} {vs : List (Nat × Value)} (h : FillR pl z vs z') : Instr.fill (fun k => pl[k]?) z.toArray vs = some z'.toArray := by
  induction h with
  | nil => rfl
  | one hp hv h _ ih =>
    rename_i v _ _
    have hvc : v.cells = #[v] := by cases v <;> first | rfl | (simp [Value.oneCell'] at hv)
    rw [fill_step hp (by rw [hvc]; rfl) (by rw [hvc]; exact h)]
    exact ih
  | agg hp hl h _ ih =>
    rw [fill_step hp (by simpa [Value.cells] using hl) (by simpa [Value.cells] using h)]
    exact ih
theorem p_buildR {t : TypeId} {i : TI} {fs : List Field} {pl : List (Nat × Nat)} {z z' : List Value} {ps : List (Nat × Operand)} {vs : List (Nat × Value)} (hS : St n D L a) (hop : o.op = .build t ps.toArray)
    (hT : TabOk P T) (h1 : T.lookup t = some i) (h2 : i.desc = .struct fs.toArray) (h3 : places T fs = some pl) (hz : i.zero = .agg z.toArray) (hv : evp L ps = some vs)
    (hc : FillR pl z vs z') : PV P o a (.agg z'.toArray) := p_build hS hop hT h1 h2 h3 hz hv hc.eq
theorem y_store_agg {x y : Operand} {t e : TypeId} {i : TI} {b : Nat} {cs vs : List Value} {K : Ck → List Ck} (hX : Sym n D L B w0 H a w) (hop : o.op = .store t x y) (ho : o.guard = none ∧ o.dst = none)
    (hT : TabOk P T) (h1 : T.lookup t = some i) (hx : ev L x = some (.pointer (some ⟨b, 0, none⟩))) (hy : ev L y = some (.agg vs.toArray)) (h2 : vs.all (·.oneCell') = true) (hf : Foc H (.cel b cs e) K) (hl : cs.length = i.size) (hl' : vs.length = i.size)
    (h : ∀ a' w', Sym n D L B w0 (K (.cel b vs e)) a' w' → KK a' w') : XO P ops o KK a w := y_store_whole hX hop ho hT h1 hx hy rfl h2 hf hl hl' h
end
end Go.Proofs.Ytjemilhbipaepaa
