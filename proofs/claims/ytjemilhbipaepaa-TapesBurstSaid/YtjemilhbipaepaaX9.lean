/- The rules: equality of bools, strings and structs. -/
import Derived.Test.YtjemilhbipaepaaX8
import Derived.Laws.StructEq
namespace Go.Proofs.Ytjemilhbipaepaa
open Go.RowKit
section
variable {P : Program} {o : Oper} {n : Nat} {D : List Deferred} {L : List (Nat × Value)} {a : Act} {T : List (TypeId × TI)}
theorem p_eql_b {u v : Operand} {t t' : TypeId} {i : TI} {x y : Bool} (hS : St n D L a) (hop : o.op = .binOp .eql t u v t') (hT : TabOk P T) (h1 : T.lookup t = some i) (h2 : i.desc = .bool) (hu : ev L u = some (.bool x)) (hv : ev L v = some (.bool y)) : PV P o a (.bool (x == y)) := fun w => by
  have e1 := (hT _ _ h1).1
  rw [h2] at e1
  have : (Op.equal t (.bool x) (.bool y)).run P w = .ok (x == y) w := run_equalIn_bool w 9999 t x y e1
  simp [execOp, hop, hS.ev hu, hS.ev hv, eqGuard, binOp, this]
theorem p_neq_b {u v : Operand} {t t' : TypeId} {i : TI} {x y : Bool} (hS : St n D L a) (hop : o.op = .binOp .neq t u v t') (hT : TabOk P T) (h1 : T.lookup t = some i) (h2 : i.desc = .bool) (hu : ev L u = some (.bool x)) (hv : ev L v = some (.bool y)) : PV P o a (.bool (x != y)) := fun w => by
  have e1 := (hT _ _ h1).1
  rw [h2] at e1
  have : (Op.equal t (.bool x) (.bool y)).run P w = .ok (x == y) w := run_equalIn_bool w 9999 t x y e1
  simp [execOp, hop, hS.ev hu, hS.ev hv, eqGuard, binOp, this, bne]
theorem p_eql_s {u v : Operand} {t t' : TypeId} {x y : ByteArray} (hS : St n D L a) (hop : o.op = .binOp .eql t u v t') (hu : ev L u = some (.string x)) (hv : ev L v = some (.string y)) : PV P o a (.bool (x.toList == y.toList)) := fun w => by
  simp [execOp, hop, hS.ev hu, hS.ev hv, eqGuard, binOp, Op.stringOp]
theorem p_neq_s {u v : Operand} {t t' : TypeId} {x y : ByteArray} (hS : St n D L a) (hop : o.op = .binOp .neq t u v t') (hu : ev L u = some (.string x)) (hv : ev L v = some (.string y)) : PV P o a (.bool (!(x.toList == y.toList))) := fun w => by
  simp [execOp, hop, hS.ev hu, hS.ev hv, eqGuard, binOp, Op.stringOp]
theorem p_eql_a {u v : Operand} {t t' : TypeId} {x y : Array Value} {r : Bool} (hS : St n D L a) (hop : o.op = .binOp .eql t u v t') (hu : ev L u = some (.agg x)) (hv : ev L v = some (.agg y)) (hm : P.eqGuardType P.depth t = false)
    (he : ∀ w, (Op.equalIn 10000 t (.agg x) (.agg y)).run P w = .ok r w) : PV P o a (.bool r) := fun w => by
  simp [execOp, hop, hS.ev hu, hS.ev hv, run_eqGuard_agg w .eql t u v x y hm, run_eql_struct, he w]
theorem p_neq_a {u v : Operand} {t t' : TypeId} {x y : Array Value} {r : Bool} (hS : St n D L a) (hop : o.op = .binOp .neq t u v t') (hu : ev L u = some (.agg x)) (hv : ev L v = some (.agg y)) (hm : P.eqGuardType P.depth t = false)
    (he : ∀ w, (Op.equalIn 10000 t (.agg x) (.agg y)).run P w = .ok r w) : PV P o a (.bool (!r)) := fun w => by
  simp [execOp, hop, hS.ev hu, hS.ev hv, run_eqGuard_agg w .neq t u v x y hm, run_neq_struct, he w]
end
end Go.Proofs.Ytjemilhbipaepaa
namespace Go.Proofs.Ytjemilhbipaepaa
theorem eq_struct {P : Program} (w : World) (d : Nat) (t : TypeId) (xs ys : Array Value) {fs : List Field} (h : P.underlying t = some (.struct fs.toArray)) (hp : P.stoodInHeld t = false) :
    (Op.equalIn (d + 1) t (.agg xs) (.agg ys)).run P w = (Op.eqFields d xs ys fs).run P w := by
  have hf : P.fieldsOf t = fs.toArray := by simp [Program.fieldsOf, h]
  rw [run_equalIn_struct w d t xs ys (by rw [hf]; exact h) hp, hf]
end Go.Proofs.Ytjemilhbipaepaa
