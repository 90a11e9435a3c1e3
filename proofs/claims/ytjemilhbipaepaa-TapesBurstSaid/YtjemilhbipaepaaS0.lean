/- Equality of the structs of the program. -/
import Derived.Test.YtjemilhbipaepaaX16
import Derived.Test.YtjemilhbipaepaaTab
namespace Go.Proofs.Ytjemilhbipaepaa
open Go.RowKit
theorem eq51 (b p b' p' : Int) (w : World) : (Op.equalIn 10000 51 (.agg #[.int .u8 b, .int .i64 p]) (.agg #[.int .u8 b', .int .i64 p'])).run Try.prog w = .ok ((b == b') && (p == p')) w := by
  rw [show (10000 : Nat) = 9998 + 1 + 1 from rfl, eq_struct w _ 51 _ _ Try.underlying51 (by kernel_rfl)]
  simp only [Op.eqFields, part, Sem.run_bind, TI.run_isAgg ti49_ok, TI.run_isAgg ti3_ok, isAggD, ti49, ti3, Result.andThen_ok, Sem.run_pure, run_equalIn_int w _ 49 _ _ _ _ Try.underlying49, run_equalIn_int w _ 3 _ _ _ _ Try.underlying3]
  cases h1 : (b == b') <;> cases h2 : (p == p') <;> simp [Sem.run, run_equalIn_int w _ 49 _ _ _ _ Try.underlying49, run_equalIn_int w _ 3 _ _ _ _ Try.underlying3, h1, h2, TI.run_isAgg ti3_ok, TI.run_isAgg ti49_ok, isAggD, ti3, ti49]

end Go.Proofs.Ytjemilhbipaepaa
