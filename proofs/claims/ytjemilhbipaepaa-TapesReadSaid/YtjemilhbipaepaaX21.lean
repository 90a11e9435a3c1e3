/- The rules: where ways meet again. -/
import Derived.Test.YtjemilhbipaepaaX20
namespace Go.Proofs.Ytjemilhbipaepaa
open Go.RowKit
theorem c_join {r : Option Nat} {P : Program} {Q : Exit → Act → World → Prop} {a : Act} {w : World} {c1 c2 : Code} (M : Act → World → Prop) (h1 : XC r P c1 (Exit.then M Q) a w) (h2 : ∀ a w, M a w → XC r P c2 Q a w) : XC r P (.seq c1 c2) Q a w :=
  wpIn_seq (wpIn_mono h1 fun e a' w' hq => by
    cases e with
    | normal => exact h2 a' w' hq
    | _ => exact hq)
end Go.Proofs.Ytjemilhbipaepaa
