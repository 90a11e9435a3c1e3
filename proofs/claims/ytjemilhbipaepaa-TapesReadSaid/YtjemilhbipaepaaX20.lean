/- The rules: structs stored among the elements of a row. -/
import Derived.Test.YtjemilhbipaepaaX18
namespace Go.Proofs.Ytjemilhbipaepaa
open Go.RowKit
section
variable {P : Program} {ops : Array Oper} {Q : Exit → Act → World → Prop} {o : Oper} {KK : Act → World → Prop} {n : Nat} {D : List Deferred} {L : List (Nat × Value)} {B : Nat → Prop} {w0 : World} {H : List Ck} {a : Act} {w : World} {d : Nat} {T : List (TypeId × TI)} {K : Ck → List Ck}
theorem y_store_row_agg {x y : Operand} {t e : TypeId} {i : TI} {g j c m size : Nat} {xs vs : List Value} (hX : Sym n D L B w0 H a w) (hop : o.op = .store t x y) (ho : o.guard = none ∧ o.dst = none)
    (hT : TabOk P T) (h1 : T.lookup t = some i) (hi : vs.length = i.size) (hx : ev L x = some (.pointer (some ⟨g, j, none⟩))) (hy : ev L y = some (.agg vs.toArray)) (h2 : vs.all (·.oneCell') = true) (hf : Foc H (.row (some ⟨g, 0, none⟩) c e size m xs) K) (hj : j + vs.length ≤ m * size)
    (h : ∀ a' w', Sym n D L B w0 (K (.row (some ⟨g, 0, none⟩) c e size m (xs.take j ++ vs ++ xs.drop (j + vs.length)))) a' w' → KK a' w') : XO P ops o KK a w := by
  have hown : Owns w B e size (some ⟨g, 0, none⟩) c m xs := hX.sh.ok _ hf.mem
  have hxl := hown.1
  have h2' : ∀ v ∈ vs, v.oneCell' = true := by simpa using h2
  rcases hown.2 with ⟨h0, _⟩ | ⟨g', cur, fr, hA, hbg, hg, hfr, hnc, hcm, hcs, htake⟩
  · cases h0
  · have : g = g' := by injection hA with hA; injection hA
    subst this
    have hms : m * size ≤ cur.size := by rw [hcs]; exact Nat.mul_le_mul_right _ hnc
    have hjc : j + vs.length ≤ cur.size := Nat.le_trans hj hms
    have hst := run_storeCells_cells (P := P) g j vs 0 w (fun q hq => by
        simp only [World.cell?, hg]
        simp; omega) (fun q hq => by
        simp only [World.frozen?, hg]
        rcases hfr with h | h
        · simp; omega
        · simp; omega) h2'
    simp only [Nat.add_zero] at hst
    rw [setCells_row g e fr vs j w cur hg hjc] at hst
    have hvc : (Value.agg vs.toArray).cells = vs.toArray := rfl
    have hrun : (storeVar t ⟨g, j, none⟩ (.agg vs.toArray)).run P w = .ok () (w.setRow g (cur.toList.take j ++ vs ++ cur.toList.drop (j + vs.length)).toArray) := by
      unfold storeVar
      simp [TI.run_sizeOf (hT _ _ h1), hvc, hi]
      simpa [hi] using hst
    refine y_skip hX ho (w' := w.setRow g (cur.toList.take j ++ vs ++ cur.toList.drop (j + vs.length)).toArray) (by simp only [execOp, hop, hX.ev hx, hX.ev hy, Instr.storeAt, Instr.sureAddr, Sem.run_bind, Sem.run_pure, Result.andThen_ok, hrun]) ?_ h
    refine hX.sh.turn hf ⟨rfl, rfl, rfl, by simp, fun q hq => setRow_other w g q _ (fun e' => by subst e'; exact hbg hq)⟩ (c' := .row (some ⟨g, 0, none⟩) c e size m (xs.take j ++ vs ++ xs.drop (j + vs.length))) ?_ (fun q hq => .inl hq) fun q _ hq => setRow_other w g q _ (fun e' => hq (by subst e'; rfl))
    have hlen : (cur.toList.take j ++ vs ++ cur.toList.drop (j + vs.length)).length = cur.size := by simp; omega
    refine ⟨by simp; omega, .inr ⟨g, _, fr, rfl, hbg, setRow_heap w g cur _ e _ hg, ?_, hnc, hcm, ?_, ?_⟩⟩
    · rcases hfr with h | h
      · exact .inl h
      · exact .inr (by rw [List.size_toArray, hlen]; exact h)
    · rw [List.size_toArray, hlen]; exact hcs
    · show (cur.toList.take j ++ vs ++ cur.toList.drop (j + vs.length)).take (m * size) = _
      rw [← htake, List.take_take, Nat.min_eq_left (by omega), List.take_append, List.take_of_length_le (by simp; omega), List.drop_take]
      congr 2
      simp; omega
theorem p_slice3n {u y v : Operand} {t e : TypeId} {i i' : TI} {A : Option Addr} {m c h q : Nat} {k' k'' : IntKind} {z' z'' : Int} (hS : St n D L a) (hop : o.op = .slice t u none (some y) (some v))
    (hT : TabOk P T) (h1 : T.lookup t = some i) (h2 : i.desc = .slice e) (h3 : T.lookup e = some i') (hu : ev L u = some (.slice A m c)) (hy : ev L y = some (.int k' z')) (hv : ev L v = some (.int k'' z'')) (hz' : z' = (h : Int)) (hz'' : z'' = (q : Int)) (hh : h ≤ q) (hq : q ≤ c) :
    PV P o a (.slice A h q) := fun w => by
  subst hz'; subst hz''
  have e1 := (hT _ _ h1).1
  rw [h2] at e1
  simp [execOp, hop, hS.ev hu, hS.ev hy, hS.ev hv, Instr.sliceAt, Instr.slice, Instr.sliceBounds, Instr.sliceBound, asIntOf, run_underlying e1, TI.run_sizeOf (hT _ _ h3), hh, hq]
  by_cases hc : q = 0
  · simp [hc]
  · cases A with
    | none => simp
    | some ad => simp [Addr.add]
/-- append where there is no room: a new row. -/
theorem y_append_new {s x : Operand} {t e : TypeId} {i i' : TI} {b p b2 p2 c k m cc : Nat} {xs news : List Value} (hX : Sym n D L B w0 H a w)
    (hop : o.op = .call { callee := .builtin .append, args := #[s, x], argTypes := #[t, t] }) (ho : o.guard = none ∧ o.dst = some d) (hd : Nat.blt d n = true)
    (hT : TabOk P T) (h1 : T.lookup t = some i) (h2 : i.desc = .slice e) (h3 : T.lookup e = some i') (h4 : Nat.blt 0 i'.size = true) (h5 : i'.zero.cells.size = i'.size) (hs : ev L s = some (.slice (some ⟨b, p, none⟩) k c)) (hx : ev L x = some (.slice (some ⟨b2, p2, none⟩) m cc))
    (hk : 0 < k) (hm : 0 < m) (hr1 : Reads w (some ⟨b, p, none⟩) k i'.size xs) (hr : Reads w (some ⟨b2, p2, none⟩) m i'.size news) (hgrow : c < k + m) (hb1 : (k + m) * i'.bytes ≤ 140737488355328) (hb2 : k + m ≤ 140737488355328)
    (h : ∀ g c' a' w', Sym n D ((d, .slice (some ⟨g, 0, none⟩) (k + m) c') :: L) B w0 (.row (some ⟨g, 0, none⟩) c' e i'.size (k + m) (xs ++ news) :: H) a' w' → KK a' w') : XO P ops o KK a w := by
  have e1 := (hT _ _ h1).1
  rw [h2] at e1
  have e3 := hT _ _ h3
  obtain ⟨inf, hinf, hs1, hs2, hs3⟩ := TI.info e3
  obtain ⟨b', p', e', hc1⟩ := hr1.2 hk
  cases e'
  obtain ⟨b', p', e', hc2⟩ := hr.2 hm
  cases e'
  have hlen : (xs ++ news).length = (k + m) * i'.size := by rw [List.length_append, hr1.1, hr.1, Nat.add_mul]
  have hrun := run_append_grow (P := P) w t o.type e inf i'.zero e1 hinf hs3 ⟨b, p, none⟩ k c xs (by rw [hr1.1, hs1]) (fun j u hu => by rw [Addr.add_lit]; exact hc1 j u hu) ⟨b2, p2, none⟩ m cc news (by rw [hr.1, hs1]) (fun j u hu => by rw [Addr.add_lit]; exact hc2 j u hu) (by omega) (by omega) (growslice_fits (by omega) (by rw [hs2]; exact hb1))
  have hge := grownCap_ge w (k + m) c e
  have hcm : grownCap w (k + m) c e ≤ maxLen := grownCap_le_maxLen w (k + m) c e (by simp only [maxLen]; omega)
  refine y_value hX ho hd (v := .slice (some ⟨w.heap.size, 0, none⟩) (k + m) (grownCap w (k + m) c e)) (w' := w.drew.alloc (.cells (xs.toArray ++ news.toArray ++ Builtin.zeroCells i'.zero.cells (grownCap w (k + m) c e - (k + m))) e)) (by simp [execOp, hop, resolve, invoke, builtin, hX.ev hs, hX.ev hx, hrun]) ?_ (h w.heap.size (grownCap w (k + m) c e))
  have hd1 := hX.sh.drew
  have ha := hd1.alloc (.cells (xs.toArray ++ news.toArray ++ Builtin.zeroCells i'.zero.cells (grownCap w (k + m) c e - (k + m))) e)
  have hp := List.pairwise_cons.1 ha.apart
  refine ⟨ha.below, ha.base, fun ck hck => ?_, List.Pairwise.cons (fun ck hck q e' => hp.1 ck hck q (by simpa [Ck.at] using e')) hp.2⟩
  rcases List.mem_cons.1 hck with rfl | hck
  · refine ⟨hlen, .inr ⟨w.heap.size, _, (0, 0), rfl, hX.sh.fresh, heap_alloc_new w.drew _, .inl rfl, hge, hcm, ?_, ?_⟩⟩
    · simp only [Array.size_append, List.size_toArray, size_zeroCells, h5, hr1.1, hr.1, ← Nat.add_mul]
      congr 1
      omega
    · simp only [Array.toList_append, List.append_assoc]
      rw [← List.append_assoc, ← hlen]
      exact List.take_left
  · exact ha.ok ck (List.mem_cons_of_mem _ hck)
end
end Go.Proofs.Ytjemilhbipaepaa
