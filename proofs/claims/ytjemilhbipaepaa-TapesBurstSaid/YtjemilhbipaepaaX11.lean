/- The rules: slices: cutting, making, copying. -/
import Derived.Test.YtjemilhbipaepaaX10
import Derived.Laws.MakeOwn
namespace Go.Proofs.Ytjemilhbipaepaa
open Go.RowKit
section
variable {P : Program} {ops : Array Oper} {o : Oper} {KK : Act → World → Prop}
variable {n : Nat} {D : List Deferred} {L : List (Nat × Value)} {B : Nat → Prop} {w0 : World} {H : List Ck} {a : Act} {w : World}
variable {T : List (TypeId × TI)} {d : Nat} {K : Ck → List Ck}
theorem p_sliceFrom {u x : Operand} {t e : TypeId} {i i' : TI} {A : Option Addr} {m c l : Nat} {k : IntKind} {z : Int} (hS : St n D L a) (hop : o.op = .slice t u (some x) none none)
    (hT : TabOk P T) (h1 : T.lookup t = some i) (h2 : i.desc = .slice e) (h3 : T.lookup e = some i') (hu : ev L u = some (.slice A m c)) (hx : ev L x = some (.int k z)) (hz : z = (l : Int)) (hl : l ≤ m) :
    PV P o a (.slice (cutA A l i'.size c) (m - l) (c - l)) := fun w => by
  subst hz
  have e1 := (hT _ _ h1).1
  rw [h2] at e1
  have hlz : (l : Int) ≤ (m : Int) := by omega
  simp [execOp, hop, hS.ev hu, hS.ev hx, Instr.sliceAt, Instr.slice, Instr.sliceBounds, Instr.sliceBound, asIntOf, run_underlying e1, TI.run_sizeOf (hT _ _ h3), hl, cutA]
theorem p_sliceTo {u x : Operand} {t e : TypeId} {i i' : TI} {A : Option Addr} {m c h : Nat} {k : IntKind} {z : Int} (hS : St n D L a) (hop : o.op = .slice t u none (some x) none)
    (hT : TabOk P T) (h1 : T.lookup t = some i) (h2 : i.desc = .slice e) (h3 : T.lookup e = some i') (hu : ev L u = some (.slice A m c)) (hx : ev L x = some (.int k z)) (hz : z = (h : Int)) (hl : h ≤ c) :
    PV P o a (.slice A h c) := fun w => by
  subst hz
  have e1 := (hT _ _ h1).1
  rw [h2] at e1
  simp [execOp, hop, hS.ev hu, hS.ev hx, Instr.sliceAt, Instr.slice, Instr.sliceBounds, Instr.sliceBound, asIntOf, run_underlying e1, TI.run_sizeOf (hT _ _ h3), hl]
  by_cases hc : c = 0
  · simp [hc]
  · cases A with
    | none => simp
    | some ad => simp [Addr.add]
theorem p_sliceMid {u x y : Operand} {t e : TypeId} {i i' : TI} {A : Option Addr} {m c l h : Nat} {k k' : IntKind} {z z' : Int} (hS : St n D L a) (hop : o.op = .slice t u (some x) (some y) none)
    (hT : TabOk P T) (h1 : T.lookup t = some i) (h2 : i.desc = .slice e) (h3 : T.lookup e = some i') (hu : ev L u = some (.slice A m c)) (hx : ev L x = some (.int k z)) (hy : ev L y = some (.int k' z')) (hz : z = (l : Int)) (hz' : z' = (h : Int)) (hl : l ≤ h) (hh : h ≤ c) :
    PV P o a (.slice (cutA A l i'.size c) (h - l) (c - l)) := fun w => by
  subst hz; subst hz'
  have e1 := (hT _ _ h1).1
  rw [h2] at e1
  simp [execOp, hop, hS.ev hu, hS.ev hx, hS.ev hy, Instr.sliceAt, Instr.slice, Instr.sliceBounds, Instr.sliceBound, asIntOf, run_underlying e1, TI.run_sizeOf (hT _ _ h3), hl, hh, cutA]
theorem p_slice3 {u x y v : Operand} {t e : TypeId} {i i' : TI} {A : Option Addr} {m c l h q : Nat} {k k' k'' : IntKind} {z z' z'' : Int} (hS : St n D L a) (hop : o.op = .slice t u (some x) (some y) (some v))
    (hT : TabOk P T) (h1 : T.lookup t = some i) (h2 : i.desc = .slice e) (h3 : T.lookup e = some i') (hu : ev L u = some (.slice A m c)) (hx : ev L x = some (.int k z)) (hy : ev L y = some (.int k' z')) (hv : ev L v = some (.int k'' z'')) (hz : z = (l : Int)) (hz' : z' = (h : Int)) (hz'' : z'' = (q : Int)) (hl : l ≤ h) (hh : h ≤ q) (hq : q ≤ c) :
    PV P o a (.slice (cutA A l i'.size q) (h - l) (q - l)) := fun w => by
  subst hz; subst hz'; subst hz''
  have e1 := (hT _ _ h1).1
  rw [h2] at e1
  simp [execOp, hop, hS.ev hu, hS.ev hx, hS.ev hy, hS.ev hv, Instr.sliceAt, Instr.slice, Instr.sliceBounds, Instr.sliceBound, asIntOf, run_underlying e1, TI.run_sizeOf (hT _ _ h3), hl, hh, hq, cutA]

/-- The cells of so many elements that are zero. -/
def zeros (z : List Value) (k : Nat) : List Value := (List.replicate k z).flatten
theorem zeros_length (z : List Value) (k : Nat) : (zeros z k).length = k * z.length := by simp [zeros]
theorem range_mod (z : List Value) (hz : 0 < z.length) : ∀ k : Nat, (Array.range (k * z.length)).map (fun j => z.toArray[j % z.toArray.size]!) = (zeros z k).toArray := by
  intro k
  apply Array.ext
  · simp [zeros]
  · intro j h1 h2
    simp only [Array.size_map, Array.size_range] at h1
    simp only [Array.getElem_map, Array.getElem_range, List.size_toArray]
    have hm := Nat.mod_lt j hz
    have hlen : j < (zeros z k).length := by rw [zeros_length]; exact h1
    have key : ∀ (k j : Nat), j < k * z.length → (zeros z k)[j]? = z[j % z.length]? := by
      intro k
      induction k with
      | zero => intro j hj; simp at hj
      | succ k ih =>
        intro j hj
        have : zeros z (k + 1) = z ++ zeros z k := by simp [zeros, List.replicate_succ]
        rw [this]
        by_cases hlt : j < z.length
        · rw [List.getElem?_append_left hlt, Nat.mod_eq_of_lt hlt]
        · rw [List.getElem?_append_right (by omega), ih (j - z.length) (by rw [Nat.add_mul] at hj; omega)]
          congr 1
          exact (Nat.mod_eq_sub_mod (by omega)).symm
    have h3 := key k j h1
    have h4 : (zeros z k)[j]? = some (zeros z k)[j] := List.getElem?_eq_getElem hlen
    rw [h4, List.getElem?_eq_getElem hm] at h3
    have h5 : (zeros z k).toArray[j] = (zeros z k)[j] := by simp
    rw [h5, Option.some.inj h3]
    simp [hm]
theorem y_makeSlice {x y : Operand} {t e : TypeId} {i i' : TI} {z : List Value} {m c : Nat} {k k' : IntKind} {zx zy : Int} (hX : Sym n D L B w0 H a w) (hop : o.op = .makeSlice t x y) (ho : o.guard = none ∧ o.dst = some d) (hd : Nat.blt d n = true)
    (hT : TabOk P T) (h1 : T.lookup t = some i) (h2 : i.desc = .slice e) (h3 : T.lookup e = some i') (h4 : i'.zero.cells = z.toArray) (h5 : z.length = i'.size) (h6 : Nat.blt 0 i'.size = true) (hx : ev L x = some (.int k zx)) (hy : ev L y = some (.int k' zy)) (hzx : zx = (m : Int)) (hzy : zy = (c : Int))
    (hmc : m ≤ c) (hb : i'.bytes * c ≤ 140737488355328) (hc : c ≤ 140737488355328)
    (h : ∀ b a' w', Sym n D ((d, .slice (some ⟨b, 0, none⟩) m c) :: L) B w0 (.row (some ⟨b, 0, none⟩) c e i'.size m (zeros z m) :: H) a' w' → KK a' w') : XO P ops o KK a w := by
  subst hzx; subst hzy
  have e1 := (hT _ _ h1).1
  rw [h2] at e1
  have e3 := hT _ _ h3
  obtain ⟨inf, hinf, hs1, hs2, hs3⟩ := TI.info e3
  have hsz := lt_of_blt h6
  have hb' : (inf.bytes : Int) * (c : Int) ≤ 281474976710656 := by
    have : ((inf.bytes * c : Nat) : Int) ≤ 140737488355328 := by rw [hs2]; omega
    rw [Int.natCast_mul] at this
    omega
  have hrun : (Instr.makeSlice t (.int k (m : Int)) (.int k' (c : Int))).run P w = .ok (.slice (some ⟨w.heap.size, 0, none⟩) m c) (w.alloc (.cells (zeros z c).toArray e)) := by
    have hr := run_make (P := P) w t e inf i'.zero e1 hinf hs3 k k' m c (by omega) (by omega) hb' (by omega)
    simp only [Int.toNat_natCast] at hr
    rw [hr]
    have hz : madeCells i'.zero.cells (c * inf.size) = (zeros z c).toArray := by
      rw [hs1, h4, ← h5]
      unfold madeCells
      exact range_mod z (by omega) c
    rw [hz]
  refine y_value hX ho hd (v := .slice (some ⟨w.heap.size, 0, none⟩) m c) (w' := w.alloc (.cells (zeros z c).toArray e)) (by simp [execOp, hop, hX.ev hx, hX.ev hy, hrun]) ?_ (h w.heap.size)
  have ha := hX.sh.alloc (.cells (zeros z c).toArray e)
  have hp := List.pairwise_cons.1 ha.apart
  refine ⟨ha.below, ha.base, fun ck hck => ?_, List.Pairwise.cons (fun ck hck b e' => hp.1 ck hck b (by simpa [Ck.at] using e')) hp.2⟩
  rcases List.mem_cons.1 hck with rfl | hck
  · refine ⟨by rw [zeros_length, h5], .inr ⟨w.heap.size, _, (0, 0), rfl, hX.sh.fresh, heap_alloc_new w _, .inl rfl, hmc, by unfold maxLen; omega, by simp [zeros_length, h5], ?_⟩⟩
    have : zeros z c = zeros z m ++ zeros z (c - m) := by
      unfold zeros
      rw [← List.flatten_append, List.replicate_append_replicate]
      congr 2
      omega
    show (zeros z c).take _ = _
    rw [this, List.take_left' (by rw [zeros_length, h5])]
  · exact ha.ok ck (List.mem_cons_of_mem _ hck)
/-- copy of a slice onto another of the same length, a row of the call's own. -/
theorem y_copy {s x : Operand} {t e : TypeId} {i i' : TI} {A A2 : Option Addr} {c k cc : Nat} {xs news : List Value} (hX : Sym n D L B w0 H a w)
    (hop : o.op = .call { callee := .builtin .copy, args := #[s, x], argTypes := #[t, t] }) (ho : o.guard = none ∧ o.dst = some d) (hd : Nat.blt d n = true)
    (hT : TabOk P T) (h1 : T.lookup t = some i) (h2 : i.desc = .slice e) (h3 : T.lookup e = some i') (hs : ev L s = some (.slice A k c)) (hx : ev L x = some (.slice A2 k cc))
    (hf : Foc H (.row A c e i'.size k xs) K) (hr : Reads w A2 k i'.size news) (hone : ∀ u ∈ news, u.oneCell' = true)
    (h : ∀ a' w', Sym n D ((d, .int .i64 (k : Int)) :: L) B w0 (K (.row A c e i'.size k news)) a' w' → KK a' w') : XO P ops o KK a w := by
  have e1 := (hT _ _ h1).1
  rw [h2] at e1
  have e3 := hT _ _ h3
  have hown : Owns w B e i'.size A c k xs := hX.sh.ok _ hf.mem
  by_cases hk : k = 0
  · subst hk
    have hn : news = [] := List.eq_nil_of_length_eq_zero (by simpa using hr.1)
    have hn' : xs = [] := List.eq_nil_of_length_eq_zero (by simpa using hown.1)
    subst hn; subst hn'
    have hrun' : (Builtin.copy_ #[t, t] o.type #[.slice A 0 c, .slice A2 0 cc]).run P w = .ok (.int .i64 0) w := by
      have hfc : (Builtin.firstCells i'.size 0 (.slice A2 0 cc)).run P w = .ok #[] w := by
        cases A2 <;> simp [Builtin.firstCells, loadCells, loadCellsFrom]
      cases A <;> simp [Builtin.copy_, run_underlying e1, Builtin.lenOf, TI.run_sizeOf e3, hfc, storeCells, goInt]
    refine y_value hX ho hd (w' := w) (v := .int .i64 ((0 : Nat) : Int)) (by simp [execOp, hop, resolve, invoke, builtin, hX.ev hs, hX.ev hx, hrun']) ?_ h
    have := hX.sh
    obtain ⟨X, Y, rfl, rfl⟩ := hf
    exact this
  · obtain ⟨b, p, rfl, hc⟩ := hr.2 (by omega)
    rcases hown.2 with ⟨_, h0, _⟩ | ⟨g, cur, fr, rfl, hbg, hg, hfr, hnc, hcm, hcs, htake⟩
    · omega
    · have hfit : 0 + news.length ≤ cur.size := by rw [hr.1, hcs, Nat.zero_add]; exact Nat.mul_le_mul_right _ hnc
      have hf' := run_firstCells_some (P := P) w i'.size k ⟨b, p, none⟩ k cc news hr.1 (fun j v hj => by rw [Addr.add_lit]; exact hc j v hj)
      have hst := run_storeCells_cells (P := P) g 0 news 0 w (fun j hj => by
          simp only [World.cell?, hg]
          simp; omega) (fun j hj => by
          simp only [World.frozen?, hg]
          rcases hfr with h | h
          · simp; omega
          · simp; omega) hone
      rw [Nat.add_zero, setCells_row g e fr news _ w cur hg hfit] at hst
      have hrun' : (Builtin.copy_ #[t, t] o.type #[.slice (some ⟨g, 0, none⟩) k c, .slice (some ⟨b, p, none⟩) k cc]).run P w = .ok (.int .i64 (k : Int)) (w.setRow g (cur.toList.take 0 ++ news ++ cur.toList.drop (0 + news.length)).toArray) := by
        have hmin : Nat.min k k = k := Nat.min_self k
        simp only [Builtin.copy_, Sem.run_bind]
        simp [run_underlying e1, Builtin.lenOf, TI.run_sizeOf e3, hmin, hf', hst, goInt]
      refine y_value hX ho hd (w' := w.setRow g (cur.toList.take 0 ++ news ++ cur.toList.drop (0 + news.length)).toArray) (v := .int .i64 (k : Int)) (by simp only [execOp, hop, resolve, invoke, builtin, Sem.run_bind, Sem.run_pure, Result.andThen_ok, List.map_toArray, List.map_cons, List.map_nil, hX.ev hs, hX.ev hx, hrun']) ?_ h
      refine hX.sh.turn hf ⟨rfl, rfl, rfl, by simp, fun q hq => setRow_other w g q _ (fun e' => by subst e'; exact hbg hq)⟩ (c' := .row (some ⟨g, 0, none⟩) c e i'.size k news) ?_ (fun q hq => .inl hq) fun q _ hq => setRow_other w g q _ (fun e' => hq (by subst e'; rfl))
      refine ⟨hr.1, .inr ⟨g, _, fr, rfl, hbg, setRow_heap w g cur _ e _ hg, ?_, hnc, hcm, ?_, ?_⟩⟩
      · rcases hfr with h | h
        · exact .inl h
        · exact .inr (by simp; omega)
      · simp only [List.size_toArray, List.length_append, List.length_take, List.length_drop, Array.length_toList]
        omega
      · simp only [List.take_zero, List.nil_append, ← hr.1]
        exact List.take_left
end
end Go.Proofs.Ytjemilhbipaepaa

namespace Go.Proofs.Ytjemilhbipaepaa
theorem SH.row_eq {B : Nat → Prop} {w0 w : World} {A : Option Addr} {c : Nat} {e : TypeId} {size n n' : Nat} {xs xs' : List Value} {H : List Ck} (h : SH B w0 (.row A c e size n xs :: H) w) (hn : n = n') (hx : xs = xs') : SH B w0 (.row A c e size n' xs' :: H) w := by
  subst hn; subst hx; exact h
end Go.Proofs.Ytjemilhbipaepaa
