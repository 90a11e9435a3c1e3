/- The rules: strings out of bytes, slices of structs, loops with marks, results in memory. -/
import Derived.Test.YtjemilhbipaepaaX14
import Derived.Laws.IdiomStrings
namespace Go.Proofs.Ytjemilhbipaepaa
open Go.RowKit
theorem bytes_toList_loop (bs : ByteArray) : ∀ (k i : Nat) (r : List UInt8), bs.size - i = k → ByteArray.toList.loop bs i r = r.reverse ++ bs.data.toList.drop i := by
  intro k
  induction k with
  | zero =>
    intro i r h
    unfold ByteArray.toList.loop
    rw [if_neg (by omega), List.drop_of_length_le (by simp; show bs.size ≤ i; omega), List.append_nil]
  | succ k ih =>
    intro i r h
    have hi : i < bs.size := by omega
    unfold ByteArray.toList.loop
    rw [if_pos hi, ih (i + 1) _ (by omega)]
    have hi' : i < bs.data.toList.length := by simpa using hi
    rw [List.drop_eq_getElem_cons hi']
    have : bs.get! i = bs.data.toList[i] := by
      simp only [ByteArray.get!, Array.getElem_toList]
      exact getElem!_pos bs.data i (by simpa using hi)
    simp [this]
theorem bytes_toList (l : List UInt8) : (ByteArray.mk l.toArray).toList = l := by
  unfold ByteArray.toList
  rw [bytes_toList_loop _ _ 0 [] rfl]
  simp
def strV (l : List UInt8) : Value := .string ⟨l.toArray⟩
section
variable {P : Program} {ops : Array Oper} {Q : Exit → Act → World → Prop} {o : Oper} {KK : Act → World → Prop} {n : Nat} {D : List Deferred} {L : List (Nat × Value)} {B : Nat → Prop} {w0 : World} {H : List Ck} {a : Act} {w : World} {d : Nat} {T : List (TypeId × TI)} {r : Option Nat} {c : Code}
theorem p_eql_S {u v : Operand} {t t' : TypeId} {x y : List UInt8} (hS : St n D L a) (hop : o.op = .binOp .eql t u v t') (hu : ev L u = some (strV x)) (hv : ev L v = some (strV y)) : PV P o a (.bool (x == y)) := by
  have := p_eql_s (P := P) hS hop hu hv
  rw [bytes_toList, bytes_toList] at this
  exact this
theorem p_neq_S {u v : Operand} {t t' : TypeId} {x y : List UInt8} (hS : St n D L a) (hop : o.op = .binOp .neq t u v t') (hu : ev L u = some (strV x)) (hv : ev L v = some (strV y)) : PV P o a (.bool (!(x == y))) := by
  have := p_neq_s (P := P) hS hop hu hv
  rw [bytes_toList, bytes_toList] at this
  exact this
/-- Bytes as a string. -/
theorem v_str {u : Operand} {t t' e : TypeId} {i i' i'' : TI} {A : Option Addr} {m c : Nat} {l : List UInt8} (hS : St n D L a) (hop : o.op = .convert t t' u) (hT : TabOk P T) (h1 : T.lookup t = some i) (h2 : T.lookup t' = some i') (h3 : i.desc = .slice e) (h4 : i'.desc = .string)
    (h5 : T.lookup e = some i'') (h6 : i''.desc = .int .u8) (hu : ev L u = some (.slice A m c)) (w : World) (hr : Reads w A m 1 (l.map fun c => Value.int .u8 c.toNat)) :
    (execOp a.eval o).run P w = .ok (.value (strV l)) w := by
  have e1 := (hT _ _ h1).1
  rw [h3] at e1
  have e2 := (hT _ _ h2).1
  rw [h4] at e2
  have e5 := (hT _ _ h5).1
  rw [h6] at e5
  have hm : l.length = m := by simpa using hr.1
  subst hm
  have : (convert t t' (.slice A l.length c)).run P w = .ok (strV l) w := by
    by_cases h0 : l.length = 0
    · have hl : l = [] := List.eq_nil_of_length_eq_zero h0
      subst hl
      cases A with
      | none => simp [convert, run_underlying e1, run_underlying e2, run_underlying e5, Conv.bytesToString, strV]; rfl
      | some ad => exact run_convert_bytes_back w t t' e ad c [] e1 e5 e2 (fun j hj => by simp at hj)
    · obtain ⟨b, p, rfl, hc⟩ := hr.2 (by omega)
      exact run_convert_bytes_back w t t' e ⟨b, p, none⟩ c l e1 e5 e2 (fun j hj => by rw [Addr.add_lit]; exact hc j _ (by simp [hj]))
  simp [execOp, hop, hS.ev hu, this]
/-- Slices put together out of structs. -/
theorem fill_aggs (size : Nat) : ∀ (vs : List (List Value)) (k : Nat) (done zs : List Value), (∀ v ∈ vs, v.length = size) → done.length = k * size → zs.length = vs.length * size →
    Instr.fill (fun i => some (i * size, size)) (done ++ zs).toArray ((vs.zipIdx k).map fun p => (p.2, .agg p.1.toArray)) = some (done ++ vs.flatten).toArray
  | [], k, done, zs, _, _, hl => by
    have : zs = [] := List.eq_nil_of_length_eq_zero (by simpa using hl)
    subst this; simp [Instr.fill]
  | v :: vs, k, done, zs, hv, hd, hl => by
    have hvl := hv v (by simp)
    have hz : size ≤ zs.length := by rw [hl, List.length_cons, Nat.add_mul]; omega
    have ih := fill_aggs size vs (k + 1) (done ++ v) (zs.drop size) (fun u hu => hv u (List.mem_cons_of_mem _ hu)) (by rw [List.length_append, hd, hvl, Nat.add_mul]; omega) (by rw [List.length_drop, hl, List.length_cons, Nat.add_mul]; omega)
    have hp := put_fold v (done ++ zs) (k * size) 0 (by rw [List.length_append, hd, hvl]; omega)
    simp only [List.zipIdx_cons, List.map_cons, Instr.fill]
    rw [if_neg (by simp [Value.cells, hvl, hd]; omega)]
    have e : (Value.agg v.toArray).cells = v.toArray := rfl
    rw [e, ← Array.foldl_toList]
    simp only [Array.toList_zipIdx]
    simp only [Nat.add_zero] at hp
    rw [hp, ← hd, List.take_left, hvl]
    have e2 : (done ++ zs).drop (done.length + size) = zs.drop size := by rw [List.drop_append]; simp
    rw [e2]
    simpa using ih
theorem y_buildSliceA {t e : TypeId} {i i' : TI} {xs : List Operand} {vs : List (List Value)} {z : List Value} {N : Nat} {ps : List (Nat × Operand)} (hX : Sym n D L B w0 H a w) (hop : o.op = .buildSlice t N ps.toArray) (ho : o.guard = none ∧ o.dst = some d) (hd : Nat.blt d n = true)
    (hT : TabOk P T) (h1 : T.lookup t = some i) (h2 : i.desc = .slice e) (h3 : T.lookup e = some i') (h4 : i'.zero = .agg z.toArray) (hz : z.length = i'.size) (hps : ps = xs.zipIdx.map fun p => (p.2, p.1)) (hv : evs L xs = some (vs.map fun v => .agg v.toArray)) (hN : vs.length = N) (hN' : Nat.ble (N * i'.size) 16777216 = true) (h0 : Nat.blt 0 N = true) (hs0 : Nat.blt 0 i'.size = true) (hone : vs.all (fun v => v.length == i'.size) = true)
    (h : ∀ b a' w', Sym n D ((d, .slice (some ⟨b, 0, none⟩) N N) :: L) B w0 (.cel b vs.flatten e :: H) a' w' → KK a' w') : XO P ops o KK a w := by
  have e1 := (hT _ _ h1).1
  rw [h2] at e1
  have e3 := hT _ _ h3
  have hvs := hX.st.evs hv
  have hone' : ∀ v ∈ vs, v.length = i'.size := by simpa using hone
  have h00 := lt_of_blt h0
  have hs00 := lt_of_blt hs0
  have hle : N * i'.size ≤ 16777216 := Nat.le_of_ble_eq_true hN'
  have hpv : (ps.map fun p => (p.1, a.eval p.2)) = (vs.zipIdx).map fun p => (p.2, .agg p.1.toArray) := by
    subst hps
    have e : ∀ (xs : List Operand) (k : Nat), ((xs.zipIdx k).map fun p => (p.2, p.1)).map (fun p => (p.1, a.eval p.2)) = ((xs.map a.eval).zipIdx k).map fun p => (p.2, p.1) := by
      intro xs
      induction xs with
      | nil => intro k; rfl
      | cons x xs ih => intro k; simp only [List.zipIdx_cons, List.map_cons, ih]
    rw [e, hvs]
    have e2 : ∀ (vs : List (List Value)) (k : Nat), ((vs.map fun v => Value.agg v.toArray).zipIdx k).map (fun p => (p.2, p.1)) = (vs.zipIdx k).map fun p => (p.2, Value.agg p.1.toArray) := by
      intro vs
      induction vs with
      | nil => intro k; rfl
      | cons x vs ih => intro k; simp only [List.zipIdx_cons, List.map_cons, ih]
    exact e2 vs 0
  have hrun : (Instr.buildSlice t N (ps.toArray.map fun p => (p.1, a.eval p.2))).run P w = .ok (.slice (some ⟨w.heap.size, 0, none⟩) N N) (w.alloc (.cells vs.flatten.toArray e)) := by
    unfold Instr.buildSlice
    have hfill := fill_aggs i'.size vs 0 [] (zeros z N) hone' (by simp) (by rw [zeros_length, hz, hN])
    simp only [List.nil_append] at hfill
    have hz1 := range_mod z (by omega) N
    rw [hz] at hz1
    simp only [Sem.run_bind, run_underlying e1, Result.andThen_ok, TI.run_sizeOf e3]
    rw [if_neg (by omega)]
    have hm : (List.map (fun p => (p.1, a.eval p.2)) ps) = (vs.zipIdx).map fun p => (p.2, .agg p.1.toArray) := hpv
    have hne : N * i'.size ≠ 0 := by have := Nat.mul_pos h00 hs00; omega
    simp only [hne, if_false, Sem.run_bind, TI.run_zero e3, Result.andThen_ok, Sem.run_pure, h4, Value.cells, List.map_toArray, hm]
    rw [hz1]
    simp [hfill, newRow, newObj, Sem.run]
  refine y_value hX ho hd (v := .slice (some ⟨w.heap.size, 0, none⟩) N N) (w' := w.alloc (.cells vs.flatten.toArray e)) ?_ (hX.sh.allocC vs.flatten e) (h w.heap.size)
  simp only [execOp, hop, Sem.run_bind, hrun, Result.andThen_ok, Sem.run_pure]

/-- Structs one behind another. -/
inductive FlatA (size : Nat) : List Value → List (List Value) → List Value → Prop where
  | nil : FlatA size [] [] []
  | cons {us : List Value} {l fs : List Value} {vs : List (List Value)} (hl : l.length = size) (h : FlatA size us vs fs) : FlatA size (.agg l.toArray :: us) (l :: vs) (l ++ fs)
theorem FlatA.eq {size : Nat} {us : List Value} {vs : List (List Value)} {fs : List Value} (h : FlatA size us vs fs) : us = vs.map (fun v => .agg v.toArray) ∧ fs = vs.flatten ∧ ∀ v ∈ vs, v.length = size := by
  induction h with
  | nil => simp
  | cons hl _ ih =>
    obtain ⟨h1, h2, h3⟩ := ih
    refine ⟨by rw [h1]; rfl, by rw [h2]; rfl, fun v hv => ?_⟩
    rcases List.mem_cons.1 hv with rfl | hv
    · exact hl
    · exact h3 v hv
theorem y_buildSliceF {t e : TypeId} {i i' : TI} {xs : List Operand} {us : List Value} {vs : List (List Value)} {fs z : List Value} {N : Nat} {ps : List (Nat × Operand)} (hX : Sym n D L B w0 H a w) (hop : o.op = .buildSlice t N ps.toArray) (ho : o.guard = none ∧ o.dst = some d) (hd : Nat.blt d n = true)
    (hT : TabOk P T) (h1 : T.lookup t = some i) (h2 : i.desc = .slice e) (h3 : T.lookup e = some i') (h4 : i'.zero = .agg z.toArray) (hz : z.length = i'.size) (hps : ps = xs.zipIdx.map fun p => (p.2, p.1)) (hv : evs L xs = some us) (hf : FlatA i'.size us vs fs) (hN : vs.length = N) (hN' : Nat.ble (N * i'.size) 16777216 = true) (h0 : Nat.blt 0 N = true) (hs0 : Nat.blt 0 i'.size = true)
    (h : ∀ b a' w', Sym n D ((d, .slice (some ⟨b, 0, none⟩) N N) :: L) B w0 (.cel b fs e :: H) a' w' → KK a' w') : XO P ops o KK a w := by
  obtain ⟨e1, e2, e3⟩ := hf.eq
  subst e2
  exact y_buildSliceA hX hop ho hd hT h1 h2 h3 h4 hz hps (by rw [hv, e1]) hN hN' h0 hs0 (by simpa using e3) h
theorem y_buildSlice1 {t e : TypeId} {i i' : TI} {x : Operand} {l z : List Value} (hX : Sym n D L B w0 H a w) (hop : o.op = .buildSlice t 1 #[(0, x)]) (ho : o.guard = none ∧ o.dst = some d) (hd : Nat.blt d n = true)
    (hT : TabOk P T) (h1 : T.lookup t = some i) (h2 : i.desc = .slice e) (h3 : T.lookup e = some i') (h4 : i'.zero = .agg z.toArray) (hz : z.length = i'.size) (hv : ev L x = some (.agg l.toArray)) (hl : l.length = i'.size) (hN' : Nat.ble (1 * i'.size) 16777216 = true) (hs0 : Nat.blt 0 i'.size = true)
    (h : ∀ b a' w', Sym n D ((d, .slice (some ⟨b, 0, none⟩) 1 1) :: L) B w0 (.cel b l e :: H) a' w' → KK a' w') : XO P ops o KK a w := by
  have h' := y_buildSliceA (ops := ops) (KK := KK) (xs := [x]) (vs := [l]) (N := 1) (ps := [(0, x)]) hX hop ho hd hT h1 h2 h3 h4 hz rfl (by simp [evs, hv]) rfl hN' rfl hs0 (by simp [hl])
  simp only [List.flatten_cons, List.flatten_nil, List.append_nil] at h'
  exact h' h
/-- A loop in which marks of ranges over functions gather. -/
theorem c_loopD {α : Type} (Dx : α → List Deferred) (Lx : α → List (Nat × Value)) (Hx : α → List Ck) (φ : α → Prop) (m : α → Nat) (x0 : α) (hφ : φ x0) (h0 : Sym n (Dx x0) (Lx x0) B w0 (Hx x0) a w)
    (hr : ∀ x a w, φ x → Sym n (Dx x) (Lx x) B w0 (Hx x) a w → XC r P c (Exit.then (fun a' w' => ∃ y, φ y ∧ m y < m x ∧ Sym n (Dx y) (Lx y) B w0 (Hx y) a' w') Q) a w) : XC r P (.loop c) Q a w :=
  c_loop (fun x a w => φ x ∧ Sym n (Dx x) (Lx x) B w0 (Hx x) a w) m x0 ⟨hφ, h0⟩ fun x a w hM => wpIn_mono (hr x a w hM.1 hM.2) fun e a' w' hq => by
    cases e with
    | normal =>
      obtain ⟨y, h1, h2, h3⟩ := hq
      exact ⟨y, ⟨h1, h3⟩, h2⟩
    | _ => exact hq
theorem run_load_one {t : TypeId} {i : TI} {b : Nat} {v : Value} {e : TypeId} {K : Ck → List Ck} (hi : TI.ok P t i) (h2 : isAggD i.desc = false) (hH : SH B w0 H w) (hf : Foc H (.cel b [v] e) K) : (loadVar t ⟨b, 0, none⟩).run P w = .ok v w := by
  have hc := cel_cell hH hf 0
  simp [loadVar, TI.run_isAgg hi, h2, hc]
/-- Three results that lie in memory. -/
theorem res_cell3 {fn : Func} {s1 s2 s3 b1 b2 b3 : Nat} {t1 t2 t3 e1 e2 e3 : TypeId} {i1 i2 i3 : TI} {v1 v2 v3 : Value} {K1 K2 K3 : Ck → List Ck} (hS : St n D L a) (hr : fn.results = #[.cell s1 t1, .cell s2 t2, .cell s3 t3]) (hT : TabOk P T)
    (h1 : T.lookup t1 = some i1) (h2 : T.lookup t2 = some i2) (h3 : T.lookup t3 = some i3) (g1 : isAggD i1.desc = false) (g2 : isAggD i2.desc = false) (g3 : isAggD i3.desc = false)
    (hs1 : L.lookup s1 = some (.pointer (some ⟨b1, 0, none⟩))) (hs2 : L.lookup s2 = some (.pointer (some ⟨b2, 0, none⟩))) (hs3 : L.lookup s3 = some (.pointer (some ⟨b3, 0, none⟩)))
    (f1 : Foc H (.cel b1 [v1] e1) K1) (f2 : Foc H (.cel b2 [v2] e2) K2) (f3 : Foc H (.cel b3 [v3] e3) K3) (w : World) (hH : SH B w0 H w) : (results fn a.tmps).run P w = .ok (.tuple #[v1, v2, v3]) w := by
  have k : ∀ s b, L.lookup s = some (.pointer (some ⟨b, 0, none⟩)) → a.tmps[s]?.getD undef = .pointer (some ⟨b, 0, none⟩) := fun s b h => by
    rw [← Array.getD_eq_getD_getElem?]; exact hS.ev (x := .tmp s) h
  simp [results, hr, k _ _ hs1, k _ _ hs2, k _ _ hs3, asAddr, run_load_one (hT _ _ h1) g1 hH f1, run_load_one (hT _ _ h2) g2 hH f2, run_load_one (hT _ _ h3) g3 hH f3]
end
end Go.Proofs.Ytjemilhbipaepaa
namespace Go.Proofs.Ytjemilhbipaepaa
theorem tk8 {c d0 d1 d2 d3 d4 d5 d6 d7 : Ck} {H : List Ck} : Take (d0 :: d1 :: d2 :: d3 :: d4 :: d5 :: d6 :: d7 :: c :: H) c (d0 :: d1 :: d2 :: d3 :: d4 :: d5 :: d6 :: d7 :: H) := .there tk7
theorem foc8 {c d0 d1 d2 d3 d4 d5 d6 d7 : Ck} {H : List Ck} : Foc (d0 :: d1 :: d2 :: d3 :: d4 :: d5 :: d6 :: d7 :: c :: H) c (fun c => d0 :: d1 :: d2 :: d3 :: d4 :: d5 :: d6 :: d7 :: c :: H) := ⟨[d0, d1, d2, d3, d4, d5, d6, d7], H, rfl, rfl⟩
theorem tk9 {c d0 d1 d2 d3 d4 d5 d6 d7 d8 : Ck} {H : List Ck} : Take (d0 :: d1 :: d2 :: d3 :: d4 :: d5 :: d6 :: d7 :: d8 :: c :: H) c (d0 :: d1 :: d2 :: d3 :: d4 :: d5 :: d6 :: d7 :: d8 :: H) := .there tk8
theorem foc9 {c d0 d1 d2 d3 d4 d5 d6 d7 d8 : Ck} {H : List Ck} : Foc (d0 :: d1 :: d2 :: d3 :: d4 :: d5 :: d6 :: d7 :: d8 :: c :: H) c (fun c => d0 :: d1 :: d2 :: d3 :: d4 :: d5 :: d6 :: d7 :: d8 :: c :: H) := ⟨[d0, d1, d2, d3, d4, d5, d6, d7, d8], H, rfl, rfl⟩
theorem tk10 {c d0 d1 d2 d3 d4 d5 d6 d7 d8 d9 : Ck} {H : List Ck} : Take (d0 :: d1 :: d2 :: d3 :: d4 :: d5 :: d6 :: d7 :: d8 :: d9 :: c :: H) c (d0 :: d1 :: d2 :: d3 :: d4 :: d5 :: d6 :: d7 :: d8 :: d9 :: H) := .there tk9
theorem foc10 {c d0 d1 d2 d3 d4 d5 d6 d7 d8 d9 : Ck} {H : List Ck} : Foc (d0 :: d1 :: d2 :: d3 :: d4 :: d5 :: d6 :: d7 :: d8 :: d9 :: c :: H) c (fun c => d0 :: d1 :: d2 :: d3 :: d4 :: d5 :: d6 :: d7 :: d8 :: d9 :: c :: H) := ⟨[d0, d1, d2, d3, d4, d5, d6, d7, d8, d9], H, rfl, rfl⟩
theorem tk11 {c d0 d1 d2 d3 d4 d5 d6 d7 d8 d9 d10 : Ck} {H : List Ck} : Take (d0 :: d1 :: d2 :: d3 :: d4 :: d5 :: d6 :: d7 :: d8 :: d9 :: d10 :: c :: H) c (d0 :: d1 :: d2 :: d3 :: d4 :: d5 :: d6 :: d7 :: d8 :: d9 :: d10 :: H) := .there tk10
theorem foc11 {c d0 d1 d2 d3 d4 d5 d6 d7 d8 d9 d10 : Ck} {H : List Ck} : Foc (d0 :: d1 :: d2 :: d3 :: d4 :: d5 :: d6 :: d7 :: d8 :: d9 :: d10 :: c :: H) c (fun c => d0 :: d1 :: d2 :: d3 :: d4 :: d5 :: d6 :: d7 :: d8 :: d9 :: d10 :: c :: H) := ⟨[d0, d1, d2, d3, d4, d5, d6, d7, d8, d9, d10], H, rfl, rfl⟩
theorem tk12 {c d0 d1 d2 d3 d4 d5 d6 d7 d8 d9 d10 d11 : Ck} {H : List Ck} : Take (d0 :: d1 :: d2 :: d3 :: d4 :: d5 :: d6 :: d7 :: d8 :: d9 :: d10 :: d11 :: c :: H) c (d0 :: d1 :: d2 :: d3 :: d4 :: d5 :: d6 :: d7 :: d8 :: d9 :: d10 :: d11 :: H) := .there tk11
theorem foc12 {c d0 d1 d2 d3 d4 d5 d6 d7 d8 d9 d10 d11 : Ck} {H : List Ck} : Foc (d0 :: d1 :: d2 :: d3 :: d4 :: d5 :: d6 :: d7 :: d8 :: d9 :: d10 :: d11 :: c :: H) c (fun c => d0 :: d1 :: d2 :: d3 :: d4 :: d5 :: d6 :: d7 :: d8 :: d9 :: d10 :: d11 :: c :: H) := ⟨[d0, d1, d2, d3, d4, d5, d6, d7, d8, d9, d10, d11], H, rfl, rfl⟩
end Go.Proofs.Ytjemilhbipaepaa
