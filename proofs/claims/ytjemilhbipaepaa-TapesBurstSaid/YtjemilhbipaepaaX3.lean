/- The rules, operation by operation. -/
import Derived.Test.YtjemilhbipaepaaX2
import Derived.Laws.BitsAllLaws
namespace Go.Proofs.Ytjemilhbipaepaa
open Go.RowKit

structure Sym (n : Nat) (D : List Deferred) (L : List (Nat × Value)) (B : Nat → Prop) (w0 : World) (H : List Ck) (a : Act) (w : World) : Prop where
  st : St n D L a
  sh : SH B w0 H w

theorem lt_of_blt {a b : Nat} (h : Nat.blt a b = true) : a < b := Nat.le_of_ble_eq_true h

/-- A list with one place set anew. -/
inductive SetAt : List Value → Nat → Value → List Value → Prop where
  | zero {c v : Value} {r : List Value} : SetAt (c :: r) 0 v (v :: r)
  | succ {c v : Value} {r r' : List Value} {k : Nat} (h : SetAt r k v r') : SetAt (c :: r) (k + 1) v (c :: r')
theorem SetAt.eq {l l' : List Value} {k : Nat} {v : Value} (h : SetAt l k v l') : l' = l.set k v ∧ k < l.length := by
  induction h with
  | zero => exact ⟨rfl, by simp⟩
  | succ _ ih => exact ⟨by simp [ih.1], by simp; exact ih.2⟩

section
variable {r : Option Nat} {P : Program} {ops : Array Oper} {Q : Exit → Act → World → Prop} {o : Oper} {KK : Act → World → Prop}
variable {n : Nat} {D : List Deferred} {L : List (Nat × Value)} {B : Nat → Prop} {w0 : World} {H : List Ck} {a : Act} {w : World}
variable {T : List (TypeId × TI)} {d : Nat}

/-- It gives this value, whatever the world, and leaves it as it is. -/
def PV (P : Program) (o : Oper) (a : Act) (v : Value) : Prop := ∀ w, (execOp a.eval o).run P w = .ok (.value v) w

theorem Sym.ev (hX : Sym n D L B w0 H a w) {x : Operand} {v : Value} (hx : ev L x = some v) : a.eval x = v := hX.st.ev hx

theorem y_value {v : Value} {w' : World} {H' : List Ck} (hX : Sym n D L B w0 H a w) (ho : o.guard = none ∧ o.dst = some d) (hd : Nat.blt d n = true)
    (hrun : (execOp a.eval o).run P w = .ok (.value v) w') (hH : SH B w0 H' w') (h : ∀ a' w', Sym n D ((d, v) :: L) B w0 H' a' w' → KK a' w') : XO P ops o KK a w :=
  x_value hX.st ho.1 ho.2 (lt_of_blt hd) hrun fun a' hS => h a' w' ⟨hS, hH⟩
theorem y_skip {w' : World} {H' : List Ck} (hX : Sym n D L B w0 H a w) (ho : o.guard = none ∧ o.dst = none)
    (hrun : (execOp a.eval o).run P w = .ok .skip w') (hH : SH B w0 H' w') (h : ∀ a' w', Sym n D L B w0 H' a' w' → KK a' w') : XO P ops o KK a w :=
  x_skip hX.st ho.1 ho.2 hrun fun a' hS => h a' w' ⟨hS, hH⟩

theorem p_move {x : Operand} {v : Value} (hS : St n D L a) (hop : o.op = .move x)
    (hx : ev L x = some v) : PV P o a (v) := fun w => by simp only [execOp, hop, Sem.run_pure, hS.ev hx]
theorem p_assign {x : Operand} {v : Value} (hS : St n D L a) (hop : o.op = .assign x)
    (hx : ev L x = some v) : PV P o a (v) := fun w => by simp only [execOp, hop, Sem.run_pure, hS.ev hx]
theorem p_pick1 {c x y : Operand} {g : Bool} {v : Value} (hS : St n D L a) (hop : o.op = .pick c x y)
    (hc : ev L c = some (.bool g)) (hg : g = true) (hx : ev L x = some v) : PV P o a (v) := fun w => by subst hg; simp [execOp, hop, hS.ev hc, hS.ev hx, asBool]
theorem p_pick0 {c x y : Operand} {g : Bool} {v : Value} (hS : St n D L a) (hop : o.op = .pick c x y)
    (hc : ev L c = some (.bool g)) (hg : g = false) (hx : ev L y = some v) : PV P o a (v) := fun w => by subst hg; simp [execOp, hop, hS.ev hc, hS.ev hx, asBool]
theorem p_not {x : Operand} {t : TypeId} {g : Bool} (hS : St n D L a) (hop : o.op = .unOp .not t x)
    (hx : ev L x = some (.bool g)) : PV P o a (.bool (!g)) := fun w => by simp [execOp, hop, hS.ev hx, Op.unary]
theorem p_extract {x : Operand} {k : Nat} {vs : List Value} {v : Value} (hS : St n D L a) (hop : o.op = .extract x k)
    (hx : ev L x = some (.tuple vs.toArray)) (hv : vs[k]? = some v) : PV P o a (v) := fun w => by simp [execOp, hop, hS.ev hx, Instr.extract, hv]
theorem p_makeFunc {fn : Fn} {xs : List Operand} {vs : List Value} (hS : St n D L a) (hop : o.op = .makeFunc fn #[] xs.toArray) (hv : evs L xs = some vs) : PV P o a (.func fn #[] vs.toArray) := fun w => by
  simp [execOp, hop, Instr.makeFunc, hS.evs hv]
theorem p_add {k : IntKind} {u v : Operand} {t t' : TypeId} {x y z : Int} (hS : St n D L a) (hop : o.op = .binOp .add t u v t')
    (hu : ev L u = some (.int k x)) (hv : ev L v = some (.int k y)) (hz : k.wrap (x + y) = z) : PV P o a (.int k z) := fun w => by simp [execOp, hop, hS.ev hu, hS.ev hv, eqGuard, binOp, Op.intArith, hz]
theorem p_sub {k : IntKind} {u v : Operand} {t t' : TypeId} {x y z : Int} (hS : St n D L a) (hop : o.op = .binOp .sub t u v t')
    (hu : ev L u = some (.int k x)) (hv : ev L v = some (.int k y)) (hz : k.wrap (x - y) = z) : PV P o a (.int k z) := fun w => by simp [execOp, hop, hS.ev hu, hS.ev hv, eqGuard, binOp, Op.intArith, hz]
theorem p_mul {k : IntKind} {u v : Operand} {t t' : TypeId} {x y z : Int} (hS : St n D L a) (hop : o.op = .binOp .mul t u v t')
    (hu : ev L u = some (.int k x)) (hv : ev L v = some (.int k y)) (hz : k.wrap (x * y) = z) : PV P o a (.int k z) := fun w => by simp [execOp, hop, hS.ev hu, hS.ev hv, eqGuard, binOp, Op.intArith, hz]
theorem p_quo {k : IntKind} {u v : Operand} {t t' : TypeId} {x y z : Int} (hS : St n D L a) (hop : o.op = .binOp .quo t u v t')
    (hu : ev L u = some (.int k x)) (hv : ev L v = some (.int k y)) (h0 : y ≠ 0) (hz : k.wrap (x.tdiv y) = z) : PV P o a (.int k z) := fun w => by simp [execOp, hop, hS.ev hu, hS.ev hv, eqGuard, binOp, Op.intDiv, h0, hz]
theorem p_rem {k : IntKind} {u v : Operand} {t t' : TypeId} {x y z : Int} (hS : St n D L a) (hop : o.op = .binOp .rem t u v t')
    (hu : ev L u = some (.int k x)) (hv : ev L v = some (.int k y)) (h0 : y ≠ 0) (hz : x.tmod y = z) : PV P o a (.int k z) := fun w => by simp [execOp, hop, hS.ev hu, hS.ev hv, eqGuard, binOp, Op.intDiv, h0, hz]
theorem p_lss {k : IntKind} {u v : Operand} {t t' : TypeId} {x y : Int} (hS : St n D L a) (hop : o.op = .binOp .lss t u v t')
    (hu : ev L u = some (.int k x)) (hv : ev L v = some (.int k y)) : PV P o a (.bool (decide (x < y))) := fun w => by simp [execOp, hop, hS.ev hu, hS.ev hv, eqGuard, binOp, Op.intCmp]
theorem p_leq {k : IntKind} {u v : Operand} {t t' : TypeId} {x y : Int} (hS : St n D L a) (hop : o.op = .binOp .leq t u v t')
    (hu : ev L u = some (.int k x)) (hv : ev L v = some (.int k y)) : PV P o a (.bool (decide (x ≤ y))) := fun w => by simp [execOp, hop, hS.ev hu, hS.ev hv, eqGuard, binOp, Op.intCmp]
theorem p_gtr {k : IntKind} {u v : Operand} {t t' : TypeId} {x y : Int} (hS : St n D L a) (hop : o.op = .binOp .gtr t u v t')
    (hu : ev L u = some (.int k x)) (hv : ev L v = some (.int k y)) : PV P o a (.bool (decide (x > y))) := fun w => by simp [execOp, hop, hS.ev hu, hS.ev hv, eqGuard, binOp, Op.intCmp]
theorem p_geq {k : IntKind} {u v : Operand} {t t' : TypeId} {x y : Int} (hS : St n D L a) (hop : o.op = .binOp .geq t u v t')
    (hu : ev L u = some (.int k x)) (hv : ev L v = some (.int k y)) : PV P o a (.bool (decide (x ≥ y))) := fun w => by simp [execOp, hop, hS.ev hu, hS.ev hv, eqGuard, binOp, Op.intCmp]
theorem p_eql {k : IntKind} {u v : Operand} {t t' : TypeId} {x y : Int} (hS : St n D L a) (hop : o.op = .binOp .eql t u v t')
    (hu : ev L u = some (.int k x)) (hv : ev L v = some (.int k y)) : PV P o a (.bool (x == y)) := fun w => by simp [execOp, hop, hS.ev hu, hS.ev hv, eqGuard, binOp, Op.intCmp]
theorem p_neq {k : IntKind} {u v : Operand} {t t' : TypeId} {x y : Int} (hS : St n D L a) (hop : o.op = .binOp .neq t u v t')
    (hu : ev L u = some (.int k x)) (hv : ev L v = some (.int k y)) : PV P o a (.bool (x != y)) := fun w => by simp [execOp, hop, hS.ev hu, hS.ev hv, eqGuard, binOp, Op.intCmp]
theorem p_and {k : IntKind} {u v : Operand} {t t' : TypeId} {x y z : Int} (hS : St n D L a) (hop : o.op = .binOp .and t u v t')
    (hu : ev L u = some (.int k x)) (hv : ev L v = some (.int k y)) (hz : bits .and k x y = z) : PV P o a (.int k z) := fun w => by simp only [← hz]; simp [execOp, hop, hS.ev hu, hS.ev hv, eqGuard, binOp, Op.intBits, bits]
theorem p_or {k : IntKind} {u v : Operand} {t t' : TypeId} {x y z : Int} (hS : St n D L a) (hop : o.op = .binOp .or t u v t')
    (hu : ev L u = some (.int k x)) (hv : ev L v = some (.int k y)) (hz : bits .or k x y = z) : PV P o a (.int k z) := fun w => by simp only [← hz]; simp [execOp, hop, hS.ev hu, hS.ev hv, eqGuard, binOp, Op.intBits, bits]
theorem p_xor {k : IntKind} {u v : Operand} {t t' : TypeId} {x y z : Int} (hS : St n D L a) (hop : o.op = .binOp .xor t u v t')
    (hu : ev L u = some (.int k x)) (hv : ev L v = some (.int k y)) (hz : bits .xor k x y = z) : PV P o a (.int k z) := fun w => by simp only [← hz]; simp [execOp, hop, hS.ev hu, hS.ev hv, eqGuard, binOp, Op.intBits, bits]
theorem p_shl {k k' : IntKind} {u v : Operand} {t t' : TypeId} {x z : Int} {y : Nat} (hS : St n D L a) (hop : o.op = .binOp .shl t u v t')
    (hu : ev L u = some (.int k x)) (hv : ev L v = some (.int k' (y : Int))) (hz : k.wrap (x * 2 ^ (min y k.bits)) = z) : PV P o a (.int k z) := fun w => by simp only [← hz]; simp [execOp, hop, hS.ev hu, hS.ev hv, eqGuard, binOp, Op.shift]; omega
theorem p_shr {k k' : IntKind} {u v : Operand} {t t' : TypeId} {x z : Int} {y : Nat} (hS : St n D L a) (hop : o.op = .binOp .shr t u v t')
    (hu : ev L u = some (.int k x)) (hv : ev L v = some (.int k' (y : Int))) (hz : x.fdiv (2 ^ (min y k.bits)) = z) : PV P o a (.int k z) := fun w => by simp only [← hz]; simp [execOp, hop, hS.ev hu, hS.ev hv, eqGuard, binOp, Op.shift]; omega
theorem p_conv {k k' : IntKind} {u : Operand} {t t' : TypeId} {i i' : TI} {x z : Int} (hS : St n D L a) (hop : o.op = .convert t t' u)
    (hT : TabOk P T) (h1 : T.lookup t = some i) (h2 : T.lookup t' = some i') (h3 : i'.desc = .int k') (hu : ev L u = some (.int k x)) (hz : k'.wrap x = z) : PV P o a (.int k' z) := fun w => by have e1 := (hT _ _ h1).1; have e2 := (hT _ _ h2).1; rw [h3] at e2; simp [execOp, hop, hS.ev hu, convert, run_underlying e1, run_underlying e2, Conv.intToInt, hz]
theorem p_len {u : Operand} {t : TypeId} {i : TI} {e : TypeId} {A : Option Addr} {m c : Nat} (hS : St n D L a) (hop : o.op = .call { callee := .builtin .len, args := #[u], argTypes := #[t] })
    (hT : TabOk P T) (h1 : T.lookup t = some i) (h2 : i.desc = .slice e) (hu : ev L u = some (.slice A m c)) : PV P o a (.int .i64 (m : Int)) := fun w => by have e1 := (hT _ _ h1).1; rw [h2] at e1; simp [execOp, hop, resolve, invoke, builtin, Builtin.len_, hS.ev hu, run_underlying e1, goInt]
theorem p_cap {u : Operand} {t : TypeId} {i : TI} {e : TypeId} {A : Option Addr} {m c : Nat} (hS : St n D L a) (hop : o.op = .call { callee := .builtin .cap, args := #[u], argTypes := #[t] })
    (hT : TabOk P T) (h1 : T.lookup t = some i) (h2 : i.desc = .slice e) (hu : ev L u = some (.slice A m c)) : PV P o a (.int .i64 (c : Int)) := fun w => by have e1 := (hT _ _ h1).1; rw [h2] at e1; simp [execOp, hop, resolve, invoke, builtin, Builtin.cap_, hS.ev hu, run_underlying e1, goInt]
theorem p_field {u : Operand} {t : TypeId} {k : Nat} {i i' : TI} {fs : Array Field} {nm tg pk : String} {ty : TypeId} {off bo : Nat} {em : Bool} {b p : Nat} (hS : St n D L a) (hop : o.op = .fieldAddr t u k)
    (hT : TabOk P T) (h1 : T.lookup t = some i) (h2 : i.desc = .struct fs) (h3 : fs[k]? = some ⟨nm, ty, off, em, tg, pk, bo⟩) (h4 : T.lookup ty = some i') (h5 : Nat.blt 0 i'.size = true) (hu : ev L u = some (.pointer (some ⟨b, p, none⟩))) :
    PV P o a (.pointer (some ⟨b, p + off, none⟩)) := fun w => by
  have e1 := (hT _ _ h1).1
  rw [h2] at e1
  have e2 := TI.run_sizeOf (hT _ _ h4)
  have e3 : i'.size ≠ 0 := (Nat.pos_iff_ne_zero.1 (lt_of_blt h5))
  simp [execOp, hop, hS.ev hu, Instr.fieldAt, run_underlying e1, h3, Instr.sureAddr, fieldPlace, e2, e3, Addr.add_lit]
theorem p_field0 {u : Operand} {t : TypeId} {k : Nat} {i i' : TI} {fs : Array Field} {nm tg pk : String} {ty : TypeId} {off bo : Nat} {em : Bool} {b : Nat} (hS : St n D L a) (hop : o.op = .fieldAddr t u k)
    (hT : TabOk P T) (h1 : T.lookup t = some i) (h2 : i.desc = .struct fs) (h3 : fs[k]? = some ⟨nm, ty, off, em, tg, pk, bo⟩) (h4 : T.lookup ty = some i') (h5 : Nat.blt 0 i'.size = true) (hu : ev L u = some (.pointer (some ⟨b, 0, none⟩))) :
    PV P o a (.pointer (some ⟨b, off, none⟩)) := by
  have := p_field hS hop hT h1 h2 h3 h4 h5 hu
  rw [Nat.zero_add] at this
  exact this
theorem p_index {u x : Operand} {t e : TypeId} {i i' : TI} {b p m c j : Nat} {k : IntKind} {z : Int} (hS : St n D L a) (hop : o.op = .indexAddr t u x)
    (hT : TabOk P T) (h1 : T.lookup t = some i) (h2 : i.desc = .slice e) (h4 : T.lookup e = some i') (hu : ev L u = some (.slice (some ⟨b, p, none⟩) m c)) (hx : ev L x = some (.int k z)) (hz : z = (j : Int)) (hj : j < m) : PV P o a (.pointer (some ⟨b, p + j * i'.size, none⟩)) := fun w => by subst hz; have e1 := (hT _ _ h1).1; rw [h2] at e1; have e2 := TI.run_sizeOf (hT _ _ h4); simp [execOp, hop, hS.ev hu, hS.ev hx, Instr.indexAt, asIntOf, run_underlying e1, e2, Addr.add_lit, hj]
theorem p_index1 {u x : Operand} {t e : TypeId} {i i' : TI} {b p m c j : Nat} {k : IntKind} {z : Int} (hS : St n D L a) (hop : o.op = .indexAddr t u x)
    (hT : TabOk P T) (h1 : T.lookup t = some i) (h2 : i.desc = .slice e) (h4 : T.lookup e = some i') (h5 : i'.size = 1) (hu : ev L u = some (.slice (some ⟨b, p, none⟩) m c)) (hx : ev L x = some (.int k z)) (hz : z = (j : Int)) (hj : j < m) : PV P o a (.pointer (some ⟨b, p + j, none⟩)) := fun w => by subst hz; have e1 := (hT _ _ h1).1; rw [h2] at e1; have e2 := TI.run_sizeOf (hT _ _ h4); simp [execOp, hop, hS.ev hu, hS.ev hx, Instr.indexAt, asIntOf, run_underlying e1, e2, h5, Addr.add_lit, hj]
theorem y_pure {v : Value} (hX : Sym n D L B w0 H a w) (ho : o.guard = none ∧ o.dst = some d) (hd : Nat.blt d n = true) (hp : PV P o a v)
    (h : ∀ a' w', Sym n D ((d, v) :: L) B w0 H a' w' → KK a' w') : XO P ops o KK a w :=
  y_value hX ho hd (hp w) hX.sh h
end
end Go.Proofs.Ytjemilhbipaepaa
