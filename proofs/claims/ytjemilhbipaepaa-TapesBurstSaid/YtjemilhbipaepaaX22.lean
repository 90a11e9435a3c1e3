/- The address of an element of an array in a box. -/
import Derived.Test.YtjemilhbipaepaaX16
namespace Go.Proofs.Ytjemilhbipaepaa
section
variable {P : Program} {T : List (TypeId × TI)} {n : Nat} {D : List Deferred} {L : List (Nat × Value)} {a : Act} {o : Oper}
theorem p_indexA {u x : Operand} {t e : TypeId} {i i' : TI} {b m j p q : Nat} {k : IntKind} {z : Int} (hS : St n D L a) (hop : o.op = .indexAddr t u x)
    (hT : TabOk P T) (h1 : T.lookup t = some i) (h2 : i.desc = .array m e) (h4 : T.lookup e = some i') (hu : ev L u = some (.pointer (some ⟨b, p, none⟩))) (hx : ev L x = some (.int k z)) (hz : z = (j : Int)) (hj : j < m) (hq : p + j * i'.size = q) : PV P o a (.pointer (some ⟨b, q, none⟩)) := fun w => by subst hz; subst hq; have e1 := (hT _ _ h1).1; rw [h2] at e1; have e2 := TI.run_sizeOf (hT _ _ h4); simp [execOp, hop, hS.ev hu, hS.ev hx, Instr.indexAt, Instr.sureAddr, asIntOf, run_underlying e1, e2, Addr.add_lit, hj]
end
end Go.Proofs.Ytjemilhbipaepaa
