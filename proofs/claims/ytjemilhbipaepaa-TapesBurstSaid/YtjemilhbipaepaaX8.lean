/- The rules: maps that are known entry by entry. -/
import Derived.Test.YtjemilhbipaepaaX7
import Derived.MapKept
namespace Go.Proofs.Ytjemilhbipaepaa
open Go.RowKit
theorem run_checkKey_int {P : Program} {t : TypeId} {k : IntKind} (h : P.underlying t = some (.int k)) (b : Bool) (n : Nat) (x : Int) (w : World) :
    (Instr.checkKey b (n + 1) t (.int k x)).run P w = .ok () w := by
  simp [Instr.checkKey, run_underlying h]
section
variable {P : Program} {ops : Array Oper} {o : Oper} {KK : Act → World → Prop}
variable {n : Nat} {D : List Deferred} {L : List (Nat × Value)} {B : Nat → Prop} {w0 : World} {H : List Ck} {a : Act} {w : World}
variable {T : List (TypeId × TI)} {d : Nat} {K : Ck → List Ck}
theorem y_makeMap {t : TypeId} (hX : Sym n D L B w0 H a w) (hop : o.op = .makeMap t none) (ho : o.guard = none ∧ o.dst = some d) (hd : Nat.blt d n = true)
    (h : ∀ b a' w', Sym n D ((d, .map (some b)) :: L) B w0 (.obj b (.map #[] 0) :: H) a' w' → KK a' w') : XO P ops o KK a w :=
  y_value hX ho hd (by simp [execOp, hop, Instr.makeMap, newObj, Sem.run]) (hX.sh.alloc (.map #[] 0)) (h w.heap.size)
theorem SH.setO (hH : SH B w0 H w) {b : Nat} {x x' : Obj} (hf : Foc H (.obj b x) K) :
    SH B w0 (K (.obj b x')) { w with heap := w.heap.setIfInBounds b x' } := by
  have hc := hH.ok _ hf.mem
  have hlt := (Array.getElem?_eq_some_iff.1 hc.2).1
  have ho : ∀ k, k ≠ b → (w.heap.setIfInBounds b x')[k]? = w.heap[k]? := fun k hk => Array.getElem?_setIfInBounds_ne (Ne.symm hk)
  refine hH.turn hf ⟨rfl, rfl, rfl, by simp, fun k hk => ho k (fun e' => by subst e'; exact hc.1 hk)⟩ ⟨hc.1, by simp [hlt]⟩ (fun b' e' => .inl e') fun b' _ hne => ho b' (fun e' => hne (by subst e'; rfl))
/-- A new key, an integer, is put into a map that is known. -/
theorem y_insert {t kt et : TypeId} {i i' : TI} {u x y : Operand} {b : Nat} {es : List MapEntry} {c : Nat} {k : IntKind} {z : Int} {v : Value} (hX : Sym n D L B w0 H a w) (hop : o.op = .insert t u x y) (ho : o.guard = none ∧ o.dst = none)
    (hT : TabOk P T) (h1 : T.lookup t = some i) (h2 : i.desc = .map kt et) (h3 : T.lookup kt = some i') (h4 : i'.desc = .int k) (hu : ev L u = some (.map (some b))) (hx : ev L x = some (.int k z)) (hy : ev L y = some v)
    (hf : Foc H (.obj b (.map es.toArray c)) K) (hn : Instr.findNow (.int k) (.int k z) es 0 = some none)
    (h : ∀ a' w', Sym n D L B w0 (K (.obj b (.map (es ++ [MapEntry.mk (.int k z) v c]).toArray (c + 1)))) a' w' → KK a' w') : XO P ops o KK a w := by
  have e1 := (hT _ _ h1).1
  rw [h2] at e1
  have e3 := (hT _ _ h3).1
  rw [h4] at e3
  have hb := (hX.sh.ok _ hf.mem).2
  refine y_skip hX ho (w' := { w with heap := w.heap.setIfInBounds b (.map (es ++ [MapEntry.mk (.int k z) v c]).toArray (c + 1)) }) ?_ (hX.sh.setO hf) h
  have : (Instr.mapUpdate t (.map (some b)) (.int k z) v).run P w = .ok () { w with heap := w.heap.setIfInBounds b (.map (es ++ [MapEntry.mk (.int k z) v c]).toArray (c + 1)) } := by
    unfold Instr.mapUpdate
    rw [show (10000 : Nat) = 9999 + 1 from rfl]
    simp only [Sem.run_bind, run_underlying e1, Result.andThen_ok, MapKept.run_getObj_map hb, run_checkKey_int e3]
    simp only [Instr.findKey, Sem.run_bind, run_underlying e3, Result.andThen_ok, hn, Sem.run_pure, MapKept.run_setObj_map _ hb]
    simp
  simp [execOp, hop, hX.ev hu, hX.ev hx, hX.ev hy, this]
/-- A key is looked up in a map that is known. -/
theorem v_lookup {t kt et : TypeId} {i i' i'' : TI} {u x : Operand} {b : Nat} {es : List MapEntry} {c : Nat} {k : IntKind} {z : Int} {res : Option (Nat × Value)} (hS : St n D L a) (hop : o.op = .lookup t u x true)
    (hT : TabOk P T) (h1 : T.lookup t = some i) (h2 : i.desc = .map kt et) (h3 : T.lookup kt = some i') (h4 : i'.desc = .int k) (h5 : T.lookup et = some i'') (hu : ev L u = some (.map (some b))) (hx : ev L x = some (.int k z))
    (hf : Foc H (.obj b (.map es.toArray c)) K) (hn : Instr.findNow (.int k) (.int k z) es 0 = some res) (w : World) (hH : SH B w0 H w) :
    (execOp a.eval o).run P w = .ok (.value (.tuple #[(res.map (·.2)).getD i''.zero, .bool res.isSome])) w := by
  have e1 := (hT _ _ h1).1
  rw [h2] at e1
  have e3 := (hT _ _ h3).1
  rw [h4] at e3
  have e5 := TI.run_zero (hT _ _ h5) w
  have hb := (hH.ok _ hf.mem).2
  have : (Instr.lookup t (.map (some b)) (.int k z) true).run P w = .ok (.tuple #[(res.map (·.2)).getD i''.zero, .bool res.isSome]) w := by
    unfold Instr.lookup
    rw [show (10000 : Nat) = 9999 + 1 from rfl]
    simp only [Sem.run_bind, run_underlying e1, Result.andThen_ok, MapKept.run_getObj_map hb, run_checkKey_int e3, Sem.run_pure]
    simp only [Instr.findKey, Sem.run_bind, run_underlying e3, Result.andThen_ok, hn, Sem.run_pure]
    cases res with
    | none => simp [e5]
    | some p => simp
  simp [execOp, hop, hS.ev hu, hS.ev hx, this]
/-- Structs are put together. -/
def places (T : List (TypeId × TI)) : List Field → Option (List (Nat × Nat))
  | [] => some []
  | f :: fs => match T.lookup f.type, places T fs with
    | some i, some l => some ((f.offset, i.size) :: l)
    | _, _ => none
theorem places_run {P : Program} {T : List (TypeId × TI)} (hT : TabOk P T) (w : World) : ∀ (fs : List Field) (l : List (Nat × Nat)), places T fs = some l →
    (fs.mapM fun f => Prod.mk f.offset <$> sizeOf f.type : Sem (List (Nat × Nat))).run P w = .ok l w := by
  intro fs
  induction fs with
  | nil => intro l h; cases h; simp
  | cons f fs ih =>
    intro l h
    unfold places at h
    cases h1 : T.lookup f.type with
    | none => rw [h1] at h; cases h
    | some i =>
      cases h2 : places T fs with
      | none => rw [h1, h2] at h; cases h
      | some l' =>
        rw [h1, h2] at h
        cases h
        have := ih l' h2
        simp [TI.run_sizeOf (hT _ _ h1), this]
theorem p_build {t : TypeId} {i : TI} {fs : List Field} {pl : List (Nat × Nat)} {z : List Value} {ps : List (Nat × Operand)} {vs : List (Nat × Value)} {cs : Array Value} (hS : St n D L a) (hop : o.op = .build t ps.toArray)
    (hT : TabOk P T) (h1 : T.lookup t = some i) (h2 : i.desc = .struct fs.toArray) (h3 : places T fs = some pl) (hz : i.zero = .agg z.toArray) (hv : evp L ps = some vs)
    (hc : Instr.fill (fun k => pl[k]?) z.toArray vs = some cs) : PV P o a (.agg cs) := fun w => by
  have e1 := (hT _ _ h1).1
  rw [h2] at e1
  have e2 := TI.run_zero (hT _ _ h1) w
  rw [hz] at e2
  have e3 := places_run hT w fs pl h3
  have e4 := hS.evp hv
  have : (Instr.build t (vs.toArray)).run P w = .ok (.agg cs) w := by
    unfold Instr.build
    simp [e2, run_underlying e1, e3, Value.cells, hc]
  simp [execOp, hop, Function.comp_def, e4, this]
end
end Go.Proofs.Ytjemilhbipaepaa
