/- The rules: slices: building, appending, making, copying, cutting. -/
import Derived.Test.YtjemilhbipaepaaX9
import Derived.Laws.IdiomCopy
namespace Go.Proofs.Ytjemilhbipaepaa
open Go.RowKit

/-! ### The memory behind a row -/
section
variable {w : World} {B : Nat → Prop} {e : TypeId} {size n c : Nat} {A : Option Addr} {xs : List Value}
theorem setCells_row (g : Nat) (e : TypeId) (fr : Nat × Nat) : ∀ (vs : List Value) (o : Nat) (w : World) (cur : Array Value), w.heap[g]? = some (.cells cur e fr) → o + vs.length ≤ cur.size →
    w.setCells g o vs = w.setRow g (cur.toList.take o ++ vs ++ cur.toList.drop (o + vs.length)).toArray
  | [], o, w, cur, hg, _ => by
    simp only [World.setCells, List.append_nil, List.length_nil, Nat.add_zero, List.take_append_drop, Array.toArray_toList]
    exact (setRow_self w g cur e fr hg).symm
  | v :: vs, o, w, cur, hg, hl => by
    simp only [List.length_cons] at hl
    have h1 : w.setCell ⟨g, o, none⟩ v = w.setRow g (cur.setIfInBounds o v) := by
      unfold World.setCell World.setRow
      congr 1
      apply Array.ext
      · simp
      · intro i h1 h2
        simp only [Array.getElem_modify]
        split
        · rename_i hi
          subst hi
          rw [(Array.getElem?_eq_some_iff.1 hg).2]
          simp
        · rfl
    have h2 := setRow_heap w g cur (cur.setIfInBounds o v) e fr hg
    rw [World.setCells, h1, setCells_row g e fr vs (o + 1) _ _ h2 (by simp; omega), setRow_setRow]
    congr 1
    apply congrArg List.toArray
    rw [Array.toList_setIfInBounds, List.take_succ_eq_append_getElem (by simp; omega)]
    simp only [List.getElem_set_self, List.append_assoc, List.length_cons]
    rw [List.take_set_of_le (by omega), List.drop_set_of_lt (by omega)]
    simp [Nat.add_comm, Nat.add_left_comm]
theorem Owns.cells (h : Owns w B e size A c n xs) {g : Nat} (hA : A = some ⟨g, 0, none⟩) (j : Nat) (hj : j < n * size) : w.cell? ⟨g, j, none⟩ = xs[j]? := by
  rcases h.2 with ⟨h1, _⟩ | ⟨g', cur, fr, h1, _, hh, _, _, _, _, ht⟩
  · rw [hA] at h1; cases h1
  · rw [hA] at h1
    have : g = g' := by injection h1 with h1; injection h1
    subst this
    rw [← ht, List.getElem?_take, if_pos hj]
    simp [World.cell?, hh]
theorem Owns.le (h : Owns w B e size A c n xs) : n ≤ c ∧ c ≤ maxLen := by
  rcases h.2 with ⟨_, h1, h2⟩ | ⟨g', cur, fr, h1, _, hh, _, h1, h2, _, ht⟩
  · subst h1; subst h2; exact ⟨Nat.le_refl _, Nat.zero_le _⟩
  · exact ⟨h1, h2⟩
end

section
variable {P : Program} {w : World}
/-- append onto a row of the call's own. -/
theorem run_append_row {B : Nat → Prop} {t ty e : TypeId} {i : TI} (ht : P.underlying t = some (.slice e)) (hi : TI.ok P e i) (hsz : 0 < i.size) (hzs : i.zero.cells.size = i.size)
    {A : Option Addr} {c n : Nat} {xs : List Value} (hown : Owns w B e i.size A c n xs)
    {b : Nat} {p m cc : Nat} {news : List Value} (hl : news.length = m * i.size) (hnews : ∀ j u, news[j]? = some u → w.cell? ⟨b, p + j, none⟩ = some u) (h1 : ∀ u ∈ news, u.oneCell' = true)
    (hbytes : (n + m) * i.bytes ≤ 140737488355328) (hm : n + m ≤ 140737488355328) (hbase : ¬ B w.heap.size) :
    ∃ A' c' w', (Builtin.append_ #[t, t] ty #[.slice A n c, .slice (some ⟨b, p, none⟩) m cc]).run P w = .ok (.slice A' (n + m) c') w' ∧ Owns w' B e i.size A' c' (n + m) (xs ++ news) ∧
      w'.os = w.os ∧ w'.tape = w.tape ∧ w'.output = w.output ∧ w.heap.size ≤ w'.heap.size ∧
      (∀ k, k < w.heap.size → A.map (·.block) ≠ some k → w'.heap[k]? = w.heap[k]?) ∧ (∀ k, A'.map (·.block) = some k → A.map (·.block) = some k ∨ w.heap.size ≤ k) := by
  obtain ⟨inf, hinf, hs1, hs2, hs3⟩ := TI.info hi
  have hlen : (xs ++ news).length = (n + m) * i.size := by rw [List.length_append, hown.1, hl, Nat.add_mul]
  have hnews' : ∀ j v, news[j]? = some v → w.cell? ((⟨b, p, none⟩ : Addr).add j) = some v := fun j v hj => by rw [Addr.add_lit]; exact hnews j v hj
  have h63 : n + m ≤ maxLen := by simp only [maxLen]; omega
  have grown : ∀ (old : Nat), old < n + m →
      Owns (w.drew.alloc (.cells (xs.toArray ++ news.toArray ++ Builtin.zeroCells i.zero.cells (grownCap w (n + m) old e - (n + m))) e)) B e i.size (some ⟨w.heap.size, 0, none⟩) (grownCap w (n + m) old e) (n + m) (xs ++ news) := by
    intro old _
    have hge := grownCap_ge w (n + m) old e
    have hcm : grownCap w (n + m) old e ≤ maxLen := grownCap_le_maxLen w (n + m) old e h63
    refine ⟨hlen, .inr ⟨w.heap.size, _, (0, 0), rfl, hbase, heap_alloc_new w.drew _, .inl rfl, hge, hcm, ?_, ?_⟩⟩
    · simp only [Array.size_append, List.size_toArray, size_zeroCells, hzs, hown.1, hl, ← Nat.add_mul]
      congr 1
      omega
    · simp only [Array.toList_append, List.append_assoc]
      rw [← List.append_assoc, ← hlen]
      exact List.take_left
  have blk : ∀ o k, k < w.heap.size → (w.drew.alloc o).heap[k]? = w.heap[k]? := fun o k hk => Below.heap_alloc w.drew o k hk
  rcases hown.2 with ⟨rfl, rfl, rfl⟩ | ⟨g, cur, fr, rfl, hbg, hg, hfr, hnc, hcm, hcs, htake⟩
  · have hx : xs = [] := List.eq_nil_of_length_eq_zero (by simpa using hown.1)
    subst hx
    by_cases hm0 : m = 0
    · subst hm0
      have hn : news = [] := List.eq_nil_of_length_eq_zero (by simpa using hl)
      subst hn
      refine ⟨none, 0, w, ?_, by simpa using hown, rfl, rfl, rfl, Nat.le_refl _, fun _ _ _ => rfl, fun k h => by cases h⟩
      simp [Builtin.append_, run_underlying ht, sizeOf, typeInfo, hinf, Builtin.lenOf, Builtin.firstCells, loadCells, loadCellsFrom]
    · have hr := run_append_nil (P := P) w t ty e inf i.zero ht hinf hs3 ⟨b, p, none⟩ m cc news (by rw [hl, hs1]) hnews' (by omega) (by omega) (by rw [hs2]; have := hbytes; simp only [Nat.zero_add] at this; omega)
      have hgr := grown 0 (by omega)
      simp only [Nat.zero_add, List.nil_append, Array.empty_append] at hgr ⊢
      exact ⟨_, _, _, hr, hgr, rfl, rfl, rfl, by simp, fun k hk _ => blk _ k hk, fun k hk => .inr (by simp at hk; omega)⟩
  · have holds : ∀ j u, xs[j]? = some u → w.cell? ((⟨g, 0, none⟩ : Addr).add j) = some u := fun j u hu => by
      rw [Addr.add_lit, Nat.zero_add]
      have hj : j < n * i.size := by have := (List.getElem?_eq_some_iff.1 hu).1; rw [hown.1] at this; exact this
      rw [hown.cells rfl j hj]
      exact hu
    by_cases hroom : n + m ≤ c
    · have hfit : n * i.size + news.length ≤ cur.size := by rw [hl, hcs, ← Nat.add_mul]; exact Nat.mul_le_mul_right _ hroom
      have hf := run_firstCells_some (P := P) w i.size m ⟨b, p, none⟩ m cc news hl hnews'
      have hst := run_storeCells_cells (P := P) g (n * i.size) news 0 w (fun j hj => by
          simp only [World.cell?, hg]
          simp; omega) (fun j hj => by
          simp only [World.frozen?, hg]
          rcases hfr with h | h
          · simp; omega
          · simp; omega) h1
      rw [Nat.add_zero, setCells_row g e fr news _ w cur hg hfit] at hst
      have hrun : (Builtin.append_ #[t, t] ty #[.slice (some ⟨g, 0, none⟩) n c, .slice (some ⟨b, p, none⟩) m cc]).run P w =
          .ok (.slice (some ⟨g, 0, none⟩) (n + m) c) (w.setRow g (cur.toList.take (n * i.size) ++ news ++ cur.toList.drop (n * i.size + news.length)).toArray) := by
        simp [Builtin.append_, run_underlying ht, sizeOf, typeInfo, hinf, hs1, Builtin.lenOf, hroom, hf, Addr.add_lit, hst]
      refine ⟨some ⟨g, 0, none⟩, c, _, hrun, ⟨hlen, .inr ⟨g, _, fr, rfl, hbg, setRow_heap w g cur _ e _ hg, ?_, hroom, hcm, ?_, ?_⟩⟩, rfl, rfl, rfl, by simp, fun k _ hk => setRow_other w g k _ (fun e' => hk (by simp [e'])), fun k hk => .inl hk⟩
      · rcases hfr with h | h
        · exact .inl h
        · exact .inr (by simp; omega)
      · simp only [List.size_toArray, List.length_append, List.length_take, List.length_drop, Array.length_toList]
        omega
      · rw [htake, ← hlen]
        exact List.take_left
    · have hr := run_append_grow (P := P) w t ty e inf i.zero ht hinf hs3 ⟨g, 0, none⟩ n c xs (by rw [hown.1, hs1]) holds ⟨b, p, none⟩ m cc news (by rw [hl, hs1]) hnews' (by omega) (by omega) (growslice_fits (by omega) (by rw [hs2]; exact hbytes))
      exact ⟨_, _, _, hr, grown c (by omega), rfl, rfl, rfl, by simp, fun k hk _ => blk _ k hk, fun k hk => .inr (by simp at hk; omega)⟩
end
end Go.Proofs.Ytjemilhbipaepaa

namespace Go.Proofs.Ytjemilhbipaepaa
open Go.RowKit
/-- A slice reads as these cells; nil is let in. -/
def Reads (w : World) (A : Option Addr) (m size : Nat) (news : List Value) : Prop :=
  news.length = m * size ∧ (0 < m → ∃ b p, A = some ⟨b, p, none⟩ ∧ ∀ j u, news[j]? = some u → w.cell? ⟨b, p + j, none⟩ = some u)
/-- The address of a slice that is cut at its beginning. -/
def cutA (A : Option Addr) (l size m : Nat) : Option Addr := if m = l then A else A.map (·.add (l * size))
theorem Reads.nil (w : World) (A : Option Addr) (size : Nat) : Reads w A 0 size [] := ⟨by simp, fun h => absurd h (by omega)⟩
theorem Reads.keep {w w' : World} {A : Option Addr} {m size : Nat} {news : List Value} (h : Reads w A m size news) (hk : ∀ b p v, w.cell? ⟨b, p, none⟩ = some v → w'.cell? ⟨b, p, none⟩ = some v) : Reads w' A m size news :=
  ⟨h.1, fun hm => by obtain ⟨b, p, e, hc⟩ := h.2 hm; exact ⟨b, p, e, fun j u hu => hk _ _ _ (hc j u hu)⟩⟩
theorem Reads.below {w w' : World} {A : Option Addr} {m size : Nat} {news : List Value} (h : Reads w A m size news) (hb : Below w.heap.size w w') : Reads w' A m size news :=
  h.keep fun b p v hv => (hb.cell (p := ⟨b, p, none⟩) (World.block_lt_of_cell? w _ hv)).trans hv
theorem Reads.cut {w : World} {A : Option Addr} {m size l h c : Nat} {news : List Value} (hr : Reads w A m size news) (hl : l ≤ h) (hh : h ≤ m) (hc : h ≤ c) :
    Reads w (cutA A l size c) (h - l) size ((news.drop (l * size)).take ((h - l) * size)) := by
  have hsz : h * size ≤ m * size := Nat.mul_le_mul_right _ hh
  have hsl : l * size ≤ h * size := Nat.mul_le_mul_right _ hl
  refine ⟨by rw [List.length_take, List.length_drop, hr.1, Nat.sub_mul]; omega, fun hp => ?_⟩
  obtain ⟨b, p, rfl, hcell⟩ := hr.2 (by omega)
  refine ⟨b, p + l * size, ?_, fun j u hu => ?_⟩
  · unfold cutA
    rw [if_neg (by omega)]
    simp [Addr.add_lit]
  · rw [List.getElem?_take] at hu
    split at hu
    · rw [List.getElem?_drop] at hu
      have := hcell _ u hu
      rw [Nat.add_assoc]
      exact this
    · cases hu
section
variable {w w0 : World} {B : Nat → Prop} {H : List Ck} {K : Ck → List Ck}
theorem Reads.row (hH : SH B w0 H w) {A : Option Addr} {c : Nat} {e : TypeId} {size n : Nat} {xs : List Value} (hf : Foc H (.row A c e size n xs) K) : Reads w A n size xs := by
  have ho : Owns w B e size A c n xs := hH.ok _ hf.mem
  refine ⟨ho.1, fun hn => ?_⟩
  rcases ho.2 with ⟨_, h1, _⟩ | ⟨g, cur, fr, h1, _⟩
  · omega
  · refine ⟨g, 0, h1, fun j u hu => ?_⟩
    rw [Nat.zero_add, ho.cells h1 j (by have := (List.getElem?_eq_some_iff.1 hu).1; rw [ho.1] at this; exact this)]
    exact hu
theorem Reads.cel (hH : SH B w0 H w) {b : Nat} {e : TypeId} {cs : List Value} (hf : Foc H (.cel b cs e) K) (m size : Nat) (hl : cs.length = m * size) : Reads w (some ⟨b, 0, none⟩) m size cs :=
  ⟨hl, fun _ => ⟨b, 0, rfl, fun j u hu => by rw [Nat.zero_add, cel_cell hH hf]; exact hu⟩⟩
theorem Reads.old {w0 w : World} {H : List Ck} (hH : SF w0 H w) {A : Option Addr} {m size : Nat} {xs : List Value} (hr : Reads w0 A m size xs) : Reads w A m size xs := hr.below hH.below.to_below
/-- What is read in memory that is held fast. -/
theorem Reads.held {B : Nat → Prop} {w0 w : World} {H : List Ck} (hH : SH B w0 H w) {b p m size : Nat} {xs : List Value} (hr : Reads w0 (some ⟨b, p, none⟩) m size xs) (hB : B b) : Reads w (some ⟨b, p, none⟩) m size xs :=
  ⟨hr.1, fun hm => by
    obtain ⟨b', p', e, hc⟩ := hr.2 hm
    have : b = b' ∧ p = p' := by injection e with e; injection e with e1 e2; exact ⟨e1, e2⟩
    obtain ⟨rfl, rfl⟩ := this
    exact ⟨b, p, rfl, fun j u hu => (hH.below.cell (p := ⟨b, p + j, none⟩) hB).trans (hc j u hu)⟩⟩
/-- A nil slice is a row to which can be appended. -/
theorem SH.nilRow (hH : SH B w0 H w) (e : TypeId) (size : Nat) : SH B w0 (.row none 0 e size 0 [] :: H) w :=
  ⟨hH.below, hH.base, fun c hc => by
    rcases List.mem_cons.1 hc with rfl | hc
    · exact ⟨by simp, .inl ⟨rfl, rfl, rfl⟩⟩
    · exact hH.ok c hc, List.Pairwise.cons (fun c hc b e => by cases e) hH.apart⟩
end
section
variable {P : Program} {ops : Array Oper} {o : Oper} {KK : Act → World → Prop}
variable {n : Nat} {D : List Deferred} {L : List (Nat × Value)} {B : Nat → Prop} {w0 : World} {H : List Ck} {a : Act} {w : World}
variable {T : List (TypeId × TI)} {d : Nat} {K : Ck → List Ck}
theorem y_append {s x : Operand} {t e : TypeId} {i i' : TI} {A A2 : Option Addr} {c k m cc : Nat} {xs news : List Value} (hX : Sym n D L B w0 H a w)
    (hop : o.op = .call { callee := .builtin .append, args := #[s, x], argTypes := #[t, t] }) (ho : o.guard = none ∧ o.dst = some d) (hd : Nat.blt d n = true)
    (hT : TabOk P T) (h1 : T.lookup t = some i) (h2 : i.desc = .slice e) (h3 : T.lookup e = some i') (h4 : Nat.blt 0 i'.size = true) (h5 : i'.zero.cells.size = i'.size) (hs : ev L s = some (.slice A k c)) (hx : ev L x = some (.slice A2 m cc))
    (hf : Foc H (.row A c e i'.size k xs) K) (hr : Reads w A2 m i'.size news) (hone : ∀ u ∈ news, u.oneCell' = true) (hb1 : (k + m) * i'.bytes ≤ 140737488355328) (hb2 : k + m ≤ 140737488355328)
    (h : ∀ A' c' a' w', Sym n D ((d, .slice A' (k + m) c') :: L) B w0 (K (.row A' c' e i'.size (k + m) (xs ++ news))) a' w' → KK a' w') : XO P ops o KK a w := by
  have e1 := (hT _ _ h1).1
  rw [h2] at e1
  have e3 := hT _ _ h3
  have hown : Owns w B e i'.size A c k xs := hX.sh.ok _ hf.mem
  by_cases hm : m = 0
  · subst hm
    have hn : news = [] := List.eq_nil_of_length_eq_zero (by simpa using hr.1)
    subst hn
    have hrun : (execOp a.eval o).run P w = .ok (.value (.slice A (k + 0) c)) w := by
      have hle := hown.le.1
      have hrun' : (Builtin.append_ #[t, t] o.type #[.slice A k c, .slice A2 0 cc]).run P w = .ok (.slice A k c) w := by
        have e4 := TI.run_sizeOf e3 w
        have hfc : (Builtin.firstCells i'.size 0 (.slice A2 0 cc)).run P w = .ok #[] w := by
          cases A2 <;> simp [Builtin.firstCells, loadCells, loadCellsFrom]
        simp only [Builtin.append_, Sem.run_bind, run_underlying e1, Result.andThen_ok, e4]
        simp [run_underlying e1, Builtin.lenOf, hle, hfc]
        cases A <;> simp [storeCells, e4, hfc]
      simp [execOp, hop, resolve, invoke, builtin, hX.ev hs, hX.ev hx, hrun']
    refine y_value hX ho hd hrun ?_ (h A c)
    have := hX.sh
    obtain ⟨X, Y, rfl, rfl⟩ := hf
    simpa using this
  · obtain ⟨b, p, rfl, hc⟩ := hr.2 (by omega)
    obtain ⟨A', c', w', hrun, hown', ho1, ho2, ho3, hsz, hkeep, hat⟩ := run_append_row (P := P) (ty := o.type) e1 e3 (lt_of_blt h4) h5 hown (cc := cc) hr.1 hc hone hb1 hb2 hX.sh.fresh
    refine y_value hX ho hd (w' := w') (v := .slice A' (k + m) c') (by simp [execOp, hop, resolve, invoke, builtin, hX.ev hs, hX.ev hx, hrun]) ?_ (h A' c')
    exact hX.sh.turn hf ⟨ho1, ho2, ho3, hsz, fun q hq => hkeep q (hX.sh.base q hq) (fun e' => (Ck.ok.lt (c := .row A c e i'.size k xs) hown e').1 hq)⟩ hown' hat hkeep
/-- append of a few values that were put together for it. -/
theorem y_append_cel {s x : Operand} {t e e' : TypeId} {i i' : TI} {A : Option Addr} {c k m cc b : Nat} {xs news : List Value} {K' : Ck → List Ck} (hX : Sym n D L B w0 H a w)
    (hop : o.op = .call { callee := .builtin .append, args := #[s, x], argTypes := #[t, t] }) (ho : o.guard = none ∧ o.dst = some d) (hd : Nat.blt d n = true)
    (hT : TabOk P T) (h1 : T.lookup t = some i) (h2 : i.desc = .slice e) (h3 : T.lookup e = some i') (h4 : Nat.blt 0 i'.size = true) (h5 : i'.zero.cells.size = i'.size) (hs : ev L s = some (.slice A k c)) (hx : ev L x = some (.slice (some ⟨b, 0, none⟩) m cc))
    (hf : Foc H (.row A c e i'.size k xs) K) (hf' : Foc H (.cel b news e') K') (hl : news.length = m * i'.size) (hone : news.all (·.oneCell') = true) (hb1 : (k + m) * i'.bytes ≤ 140737488355328) (hb2 : k + m ≤ 140737488355328)
    (h : ∀ A' c' a' w', Sym n D ((d, .slice A' (k + m) c') :: L) B w0 (K (.row A' c' e i'.size (k + m) (xs ++ news))) a' w' → KK a' w') : XO P ops o KK a w :=
  y_append hX hop ho hd hT h1 h2 h3 h4 h5 hs hx hf (Reads.cel hX.sh hf' m i'.size hl) (by simpa using hone) hb1 hb2 h

/-! ### Slices put together out of values -/
theorem fill_ones : ∀ (vs : List Value) (done : List Value) (zs : List Value), (∀ v ∈ vs, v.oneCell' = true) → zs.length = vs.length →
    Instr.fill (fun i => some (i * 1, 1)) (done ++ zs).toArray ((vs.zipIdx done.length).map fun p => (p.2, p.1)) = some (done ++ vs).toArray
  | [], done, zs, _, hl => by
    have : zs = [] := List.eq_nil_of_length_eq_zero hl
    subst this; simp [Instr.fill]
  | v :: vs, done, zs, hv, hl => by
    match zs, hl with
    | z :: zs, hl =>
      have hvc : v.cells = #[v] := by
        have := hv v (by simp)
        cases v <;> first | rfl | (simp [Value.oneCell'] at this)
      have ih := fill_ones vs (done ++ [v]) zs (fun u hu => hv u (List.mem_cons_of_mem _ hu)) (by simpa using hl)
      simp only [List.zipIdx_cons, List.map_cons, Instr.fill]
      rw [hvc]
      simp only [List.length_append, List.length_cons, List.length_nil, Nat.zero_add] at ih
      simp
      have e : (done ++ z :: zs).set done.length v = done ++ v :: zs := by simp
      simpa [e] using ih
theorem y_buildSlice {t e : TypeId} {i i' : TI} {xs : List Operand} {vs : List Value} {N : Nat} {ps : List (Nat × Operand)} (hX : Sym n D L B w0 H a w) (hop : o.op = .buildSlice t N ps.toArray) (ho : o.guard = none ∧ o.dst = some d) (hd : Nat.blt d n = true)
    (hT : TabOk P T) (h1 : T.lookup t = some i) (h2 : i.desc = .slice e) (h3 : T.lookup e = some i') (h4 : i'.size = 1) (h5 : i'.zero.oneCell' = true) (hps : ps = xs.zipIdx.map fun p => (p.2, p.1)) (hv : evs L xs = some vs) (hN : vs.length = N) (hN' : Nat.ble N 16777216 = true) (hone : vs.all (·.oneCell') = true)
    (h : ∀ b a' w', Sym n D ((d, .slice (some ⟨b, 0, none⟩) N N) :: L) B w0 (.cel b vs e :: H) a' w' → KK a' w') : XO P ops o KK a w := by
  have e1 := (hT _ _ h1).1
  rw [h2] at e1
  have e3 := hT _ _ h3
  have hzc : i'.zero.cells = #[i'.zero] := by cases hz : i'.zero <;> first | rfl | (rw [hz] at h5; simp [Value.oneCell'] at h5)
  have hvs := hX.st.evs hv
  have hone' : ∀ v ∈ vs, v.oneCell' = true := by simpa using hone
  have hpv : (ps.map fun p => (p.1, a.eval p.2)) = (vs.zipIdx).map fun p => (p.2, p.1) := by
    subst hps
    rw [← hvs]
    have : ∀ (xs : List Operand) (k : Nat), ((xs.zipIdx k).map fun p => (p.2, p.1)).map (fun p => (p.1, a.eval p.2)) = ((xs.map a.eval).zipIdx k).map fun p => (p.2, p.1) := by
      intro xs
      induction xs with
      | nil => intro k; rfl
      | cons x xs ih => intro k; simp only [List.zipIdx_cons, List.map_cons, List.map_cons, ih]
    exact this xs 0
  have hle : N ≤ 16777216 := Nat.le_of_ble_eq_true hN'
  have hrun : (Instr.buildSlice t N (ps.toArray.map fun p => (p.1, a.eval p.2))).run P w = .ok (.slice (some ⟨w.heap.size, 0, none⟩) N N) (w.alloc (.cells vs.toArray e)) := by
    unfold Instr.buildSlice
    have hfill : Instr.fill (fun i => some (i * 1, 1)) (List.replicate N i'.zero).toArray (vs.zipIdx.map fun p => (p.2, p.1)) = some vs.toArray := by
      have := fill_ones vs [] (List.replicate N i'.zero) hone' (by simp [hN])
      simpa using this
    have hz1 : (Array.range N).map (fun j => [i'.zero][j % 1]?.getD default) = (List.replicate N i'.zero).toArray := by
      apply Array.ext
      · simp
      · intro j h1 h2
        simp [Nat.mod_one]
    simp only [Sem.run_bind, run_underlying e1, Result.andThen_ok, TI.run_sizeOf e3, h4]
    rw [if_neg (by omega)]
    by_cases h0 : N = 0
    · subst h0
      have : vs = [] := List.eq_nil_of_length_eq_zero hN
      subst this
      have hps0 : ps = [] := by
        have := congrArg List.length hpv
        simp at this
        exact this
      subst hps0
      simp [Instr.fill, newRow, newObj, Sem.run]
      rw [show Array.range 0 = #[] from rfl]
      simp
    · have hm : (List.map (fun p => (p.1, a.eval p.2)) ps) = (vs.zipIdx).map fun p => (p.2, p.1) := hpv
      simp only [Nat.mul_one, h0, if_false, Sem.run_bind, TI.run_zero e3, Result.andThen_ok, Sem.run_pure, hzc, List.map_toArray, hm]
      simp only [Nat.mul_one, List.toArray_replicate] at hfill
      simp [hz1, hfill, newRow, newObj, Sem.run]
  refine y_value hX ho hd (v := .slice (some ⟨w.heap.size, 0, none⟩) N N) (w' := w.alloc (.cells vs.toArray e)) ?_ (hX.sh.allocC vs e) (h w.heap.size)
  simp only [execOp, hop, Sem.run_bind, hrun, Result.andThen_ok, Sem.run_pure]
end
end Go.Proofs.Ytjemilhbipaepaa
