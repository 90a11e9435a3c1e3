/- The rules: parts of structs, elements of slices. -/
import Derived.Test.YtjemilhbipaepaaX16
namespace Go.Proofs.Ytjemilhbipaepaa
open Go.RowKit
section
variable {P : Program} {ops : Array Oper} {Q : Exit → Act → World → Prop} {o : Oper} {KK : Act → World → Prop} {n : Nat} {D : List Deferred} {L : List (Nat × Value)} {B : Nat → Prop} {w0 : World} {H : List Ck} {a : Act} {w : World} {d : Nat} {T : List (TypeId × TI)} {K : Ck → List Ck}
theorem y_store_put {x y : Operand} {t e : TypeId} {i : TI} {b p : Nat} {cs cs' vs : List Value} (hX : Sym n D L B w0 H a w) (hop : o.op = .store t x y) (ho : o.guard = none ∧ o.dst = none)
    (hT : TabOk P T) (h1 : T.lookup t = some i) (hx : ev L x = some (.pointer (some ⟨b, p, none⟩))) (hy : ev L y = some (.agg vs.toArray)) (h2 : vs.all (·.oneCell') = true) (hf : Foc H (.cel b cs e) K) (hl : vs.length = i.size) (hp : PutAt cs p vs cs')
    (h : ∀ a' w', Sym n D L B w0 (K (.cel b cs' e)) a' w' → KK a' w') : XO P ops o KK a w := by
  obtain ⟨rfl, hle⟩ := hp.eq
  have hvc : (Value.agg vs.toArray).cells = vs.toArray := rfl
  have hrun := run_storeVar_at (w := w) (v := .agg vs.toArray) (p := p) (hT _ _ h1) (cel_block hX.sh hf) (by rw [hvc]; simpa using hl) (by rw [hvc]; simpa using h2) (by rw [hvc]; simpa using hle)
  refine y_skip hX ho (w' := _) (by simp [execOp, hop, hX.ev hx, hX.ev hy, Instr.storeAt, Instr.sureAddr, hrun]; rfl) (H' := K (.cel b (cs.take p ++ vs ++ cs.drop (p + vs.length)) e)) ?_ h
  refine hX.sh.setC hf ⟨rfl, rfl, rfl, by simp⟩ ?_ fun k hk => setRow_other w b k _ hk
  rw [setRow_heap w b cs.toArray _ e _ (cel_block hX.sh hf)]
  simp [hvc]
end
theorem flat_length {α : Type} (f : α → List Value) (s : Nat) (hf : ∀ x, (f x).length = s) (l : List α) : (l.flatMap f).length = l.length * s := by
  induction l with
  | nil => simp
  | cons x l ih => rw [List.flatMap_cons, List.length_append, ih, hf, List.length_cons, Nat.add_mul]; omega
theorem flat_get {α : Type} (f : α → List Value) (s : Nat) (hf : ∀ x, (f x).length = s) (l : List α) (k j : Nat) (hk : k < l.length) (v : Value) (hv : (f l[k])[j]? = some v) : (l.flatMap f)[k * s + j]? = some v := by
  induction l generalizing k with
  | nil => simp at hk
  | cons x l ih =>
    have hx := hf x
    cases k with
    | zero =>
      have hj := (List.getElem?_eq_some_iff.1 hv).1
      rw [List.flatMap_cons, List.getElem?_append_left (by simp only [List.getElem_cons_zero] at hj; omega)]
      simpa using hv
    | succ k =>
      have := ih k (by simpa using hk) (by simpa using hv)
      rw [List.flatMap_cons, List.getElem?_append_right (by rw [hx, Nat.add_mul]; omega), hx, show (k + 1) * s + j - s = k * s + j by rw [Nat.add_mul]; omega]
      exact this
theorem Reads.elem {α : Type} {f : α → List Value} {s : Nat} (hf : ∀ x, (f x).length = s) (hs : 0 < s) {w : World} {A : Option Addr} {l : List α} (h : Reads w A l.length s (l.flatMap f)) {k : Nat} (hk : k < l.length) :
    ∃ b p, A = some ⟨b, p, none⟩ ∧ b < w.heap.size ∧ ∀ j v, (f l[k])[j]? = some v → w.cell? ⟨b, p + k * s + j, none⟩ = some v := by
  obtain ⟨b, p, e, hc⟩ := h.2 (by omega)
  have hh : ∀ j v, (f l[k])[j]? = some v → w.cell? ⟨b, p + k * s + j, none⟩ = some v := fun j v hv => by
    have := hc _ v (flat_get f s hf l k j hk v hv)
    rwa [← Nat.add_assoc] at this
  have h0 : 0 < (f l[k]).length := by rw [hf]; exact hs
  exact ⟨b, p, e, World.block_lt_of_cell? w _ (hh 0 _ (List.getElem?_eq_getElem h0)), hh⟩
/-- A piece among many. -/
theorem Reads.rowM {B : Nat → Prop} {w0 w : World} {H : List Ck} (hH : SH B w0 H w) {A : Option Addr} {c : Nat} {e : TypeId} {size n : Nat} {xs : List Value} (hm : Ck.row A c e size n xs ∈ H) : Reads w A n size xs := by
  obtain ⟨X, Y, rfl⟩ := List.append_of_mem hm
  exact Reads.row hH (K := fun c => X ++ c :: Y) ⟨X, Y, rfl, rfl⟩
end Go.Proofs.Ytjemilhbipaepaa
