/- The rules: elements of rows. -/
import Derived.Test.YtjemilhbipaepaaX15
namespace Go.Proofs.Ytjemilhbipaepaa
open Go.RowKit
section
variable {P : Program} {ops : Array Oper} {Q : Exit → Act → World → Prop} {o : Oper} {KK : Act → World → Prop} {n : Nat} {D : List Deferred} {L : List (Nat × Value)} {B : Nat → Prop} {w0 : World} {H : List Ck} {a : Act} {w : World} {d : Nat} {T : List (TypeId × TI)} {K : Ck → List Ck}
theorem SH.rowAt (hH : SH B w0 H w) {A : Option Addr} {c : Nat} {e : TypeId} {size m : Nat} {xs : List Value} (hf : Foc H (.row A c e size m xs) K) (hm : 0 < m) : ∃ g, A = some ⟨g, 0, none⟩ := by
  rcases (hH.ok _ hf.mem).2 with ⟨_, h, _⟩ | ⟨g, _, _, h, _⟩
  · omega
  · exact ⟨g, h⟩
theorem SH.rowLe (hH : SH B w0 H w) {A : Option Addr} {c : Nat} {e : TypeId} {size m : Nat} {xs : List Value} (hf : Foc H (.row A c e size m xs) K) : m ≤ c ∧ c ≤ maxLen := Owns.le (hH.ok _ hf.mem)
theorem p_index0 {u x : Operand} {t e : TypeId} {i i' : TI} {b m c j : Nat} {k : IntKind} {z : Int} (hS : St n D L a) (hop : o.op = .indexAddr t u x)
    (hT : TabOk P T) (h1 : T.lookup t = some i) (h2 : i.desc = .slice e) (h4 : T.lookup e = some i') (h5 : i'.size = 1) (hu : ev L u = some (.slice (some ⟨b, 0, none⟩) m c)) (hx : ev L x = some (.int k z)) (hz : z = (j : Int)) (hj : j < m) : PV P o a (.pointer (some ⟨b, j, none⟩)) := by
  have := p_index1 (P := P) hS hop hT h1 h2 h4 h5 hu hx hz hj
  rw [Nat.zero_add] at this
  exact this
theorem v_load_row {x : Operand} {t e : TypeId} {i : TI} {g j c m size : Nat} {xs : List Value} {v : Value} (hS : St n D L a) (hop : o.op = .load t x)
    (hT : TabOk P T) (h1 : T.lookup t = some i) (h2 : isAggD i.desc = false) (hx : ev L x = some (.pointer (some ⟨g, j, none⟩))) (hf : Foc H (.row (some ⟨g, 0, none⟩) c e size m xs) K) (hv : xs[j]? = some v) (w : World) (hH : SH B w0 H w) :
    (execOp a.eval o).run P w = .ok (.value v) w := by
  have hown : Owns w B e size (some ⟨g, 0, none⟩) c m xs := hH.ok _ hf.mem
  have hj : j < m * size := by rw [← hown.1]; exact (List.getElem?_eq_some_iff.1 hv).1
  have hc := hown.cells rfl j hj
  rw [hv] at hc
  simp [execOp, hop, hS.ev hx, Instr.loadAt, Instr.sureAddr, loadVar, TI.run_isAgg (hT _ _ h1), h2, hc]
/-- A struct among the elements of a row. -/
theorem v_load_row_agg {x : Operand} {t e : TypeId} {i : TI} {g j c m size : Nat} {xs vs : List Value} (hS : St n D L a) (hop : o.op = .load t x)
    (hT : TabOk P T) (h1 : T.lookup t = some i) (h2 : isAggD i.desc = true) (hx : ev L x = some (.pointer (some ⟨g, j, none⟩))) (hf : Foc H (.row (some ⟨g, 0, none⟩) c e size m xs) K) (hl : vs.length = i.size) (hv : ∀ q v, vs[q]? = some v → xs[j + q]? = some v) (w : World) (hH : SH B w0 H w) :
    (execOp a.eval o).run P w = .ok (.value (.agg vs.toArray)) w := by
  have hown : Owns w B e size (some ⟨g, 0, none⟩) c m xs := hH.ok _ hf.mem
  have := run_load_agg (w := w) (hT _ _ h1) h2 (b := g) (p := j) hl (fun q v hq => by
    have h3 := hv q v hq
    have hj : j + q < m * size := by rw [← hown.1]; exact (List.getElem?_eq_some_iff.1 h3).1
    rw [hown.cells rfl _ hj]; exact h3)
  simp [execOp, hop, hS.ev hx, Instr.loadAt, Instr.sureAddr, this]
theorem y_store_row {x y : Operand} {t e : TypeId} {i : TI} {g j c m size : Nat} {xs : List Value} {v : Value} (hX : Sym n D L B w0 H a w) (hop : o.op = .store t x y) (ho : o.guard = none ∧ o.dst = none)
    (hT : TabOk P T) (h1 : T.lookup t = some i) (hi : i.size = 1) (hx : ev L x = some (.pointer (some ⟨g, j, none⟩))) (hy : ev L y = some v) (h2 : v.oneCell' = true) (hf : Foc H (.row (some ⟨g, 0, none⟩) c e size m xs) K) (hj : j < m * size)
    (h : ∀ a' w', Sym n D L B w0 (K (.row (some ⟨g, 0, none⟩) c e size m (xs.set j v))) a' w' → KK a' w') : XO P ops o KK a w := by
  have hown : Owns w B e size (some ⟨g, 0, none⟩) c m xs := hX.sh.ok _ hf.mem
  have hxl := hown.1
  rcases hown.2 with ⟨h0, _⟩ | ⟨g', cur, fr, hA, hbg, hg, hfr, hnc, hcm, hcs, htake⟩
  · cases h0
  · have : g = g' := by injection hA with hA; injection hA
    subst this
    have hjc : j < cur.size := by rw [hcs]; exact Nat.lt_of_lt_of_le hj (Nat.mul_le_mul_right _ hnc)
    have hvc : v.cells = #[v] := by cases v <;> first | rfl | (simp [Value.oneCell'] at h2)
    have hst := run_storeCells_cells (P := P) g j [v] 0 w (fun q hq => by
        simp only [World.cell?, hg]
        simp at hq
        subst hq
        simp [hjc]) (fun q hq => by
        simp only [World.frozen?, hg]
        simp at hq
        subst hq
        rcases hfr with h | h
        · simp; omega
        · simp; omega) (by simpa using h2)
    simp only [Nat.add_zero] at hst
    have hsc := setCells_row g e fr [v] j w cur hg (by simp; omega)
    simp only [List.length_cons, List.length_nil, Nat.zero_add] at hsc
    rw [hsc] at hst
    have hrun : (storeVar t ⟨g, j, none⟩ v).run P w = .ok () (w.setRow g (cur.toList.take j ++ [v] ++ cur.toList.drop (j + 1)).toArray) := by
      unfold storeVar
      simp [TI.run_sizeOf (hT _ _ h1), hvc, hi]
      simpa using hst
    refine y_skip hX ho (w' := w.setRow g (cur.toList.take j ++ [v] ++ cur.toList.drop (j + 1)).toArray) (by simp only [execOp, hop, hX.ev hx, hX.ev hy, Instr.storeAt, Instr.sureAddr, Sem.run_bind, Sem.run_pure, Result.andThen_ok, hrun]) ?_ h
    refine hX.sh.turn hf ⟨rfl, rfl, rfl, by simp, fun q hq => setRow_other w g q _ (fun e' => by subst e'; exact hbg hq)⟩ (c' := .row (some ⟨g, 0, none⟩) c e size m (xs.set j v)) ?_ (fun q hq => .inl hq) fun q _ hq => setRow_other w g q _ (fun e' => hq (by subst e'; rfl))
    have hset : cur.toList.take j ++ [v] ++ cur.toList.drop (j + 1) = cur.toList.set j v := by
      rw [List.set_eq_take_append_cons_drop, if_pos (by simpa using hjc)]; simp
    refine ⟨by simpa using hxl, .inr ⟨g, _, fr, rfl, hbg, setRow_heap w g cur _ e _ hg, ?_, hnc, hcm, ?_, ?_⟩⟩
    · rcases hfr with h | h
      · exact .inl h
      · exact .inr (by rw [hset]; simpa using h)
    · rw [hset]; simpa using hcs
    · rw [hset]
      show (cur.toList.set j v).take (m * size) = _
      rw [← htake, List.take_set]
theorem p_shrZ {k k' : IntKind} {u v : Operand} {t t' : TypeId} {x z zy : Int} {y : Nat} (hS : St n D L a) (hop : o.op = .binOp .shr t u v t')
    (hu : ev L u = some (.int k x)) (hv : ev L v = some (.int k' zy)) (hy : zy = (y : Int)) (hz : x.fdiv (2 ^ (min y k.bits)) = z) : PV P o a (.int k z) := by
  subst hy; exact p_shr hS hop hu hv hz
theorem p_shlZ {k k' : IntKind} {u v : Operand} {t t' : TypeId} {x z zy : Int} {y : Nat} (hS : St n D L a) (hop : o.op = .binOp .shl t u v t')
    (hu : ev L u = some (.int k x)) (hv : ev L v = some (.int k' zy)) (hy : zy = (y : Int)) (hz : k.wrap (x * 2 ^ (min y k.bits)) = z) : PV P o a (.int k z) := by
  subst hy; exact p_shl hS hop hu hv hz
end
end Go.Proofs.Ytjemilhbipaepaa
