/- Which operations are valid: operations.uses, plain, Check; tapes.check. -/
import Derived.Test.YtjemilhbipaepaaX8
import Derived.Test.YtjemilhbipaepaaS1
namespace Go.Proofs.Ytjemilhbipaepaa
open Go.RowKit

structure Op where
  kind : Nat
  dir : Nat
  bed : Nat
  place : Int
  yarn : Nat
  rack : Int
  deriving DecidableEq
def fld (d n y r : Bool) : Value := .agg #[.bool d, .bool n, .bool y, .bool r]
def usesEs : List MapEntry := [⟨.int .u8 1, fld true false true false, 0⟩, ⟨.int .u8 2, fld false false true false, 1⟩, ⟨.int .u8 3, fld false false false true, 2⟩, ⟨.int .u8 4, fld true true true false, 3⟩,
  ⟨.int .u8 5, fld true true true false, 4⟩, ⟨.int .u8 6, fld true true true false, 5⟩, ⟨.int .u8 7, fld false true false false, 6⟩, ⟨.int .u8 8, fld false true false false, 7⟩]

theorem uses_any (W : World) : Ret Try.prog 38 #[] W fun v w' => ∃ b : Nat, v = .map (some b) ∧ True ∧ SF W [.obj b (.map usesEs.toArray 8)] w' := by
  refine f_start (vs := []) [] Try.func38 rfl Try.ntmps38 rfl rfl ?_
  intro a hX
  refine wpIn_seq ?_
  refine c_region ?_
  refine xl_cons ?_; ((refine y_pure (d := 0) hX ⟨rfl, rfl⟩ rfl (p_assign hX.st rfl rfl) ?_; clear hX; intro a w hX))
  refine x_end ?_
  refine q_then ?_
  refine wpIn_seq ?_
  refine c_region ?_
  refine xl_cons ?_; (refine y_makeMap (d := 1) hX rfl ⟨rfl, rfl⟩ rfl ?_; clear hX; intro b a w hX)
  refine xl_cons ?_; ((refine y_pure (d := 2) hX ⟨rfl, rfl⟩ rfl (p_buildR hX.st rfl tab_ok rfl rfl rfl rfl rfl (by repeat (first | exact FillR.nil | apply FillR.one rfl rfl (by (try dsimp only); repeat (first | exact PutAt.nil | apply PutAt.cons | apply PutAt.skip)) | apply FillR.agg rfl rfl (by (try dsimp only); repeat (first | exact PutAt.nil | apply PutAt.cons | apply PutAt.skip))))) ?_; clear hX; intro a w hX))
  refine xl_cons ?_; (refine y_insert hX rfl ⟨rfl, rfl⟩ tab_ok rfl rfl rfl rfl rfl rfl rfl (es := []) foc0 rfl ?_; clear hX; intro a w hX)
  refine xl_cons ?_; ((refine y_pure (d := 3) hX ⟨rfl, rfl⟩ rfl (p_buildR hX.st rfl tab_ok rfl rfl rfl rfl rfl (by repeat (first | exact FillR.nil | apply FillR.one rfl rfl (by (try dsimp only); repeat (first | exact PutAt.nil | apply PutAt.cons | apply PutAt.skip)) | apply FillR.agg rfl rfl (by (try dsimp only); repeat (first | exact PutAt.nil | apply PutAt.cons | apply PutAt.skip))))) ?_; clear hX; intro a w hX))
  refine xl_cons ?_; (refine y_insert hX rfl ⟨rfl, rfl⟩ tab_ok rfl rfl rfl rfl rfl rfl rfl foc0 rfl ?_; clear hX; intro a w hX)
  refine xl_cons ?_; ((refine y_pure (d := 4) hX ⟨rfl, rfl⟩ rfl (p_buildR hX.st rfl tab_ok rfl rfl rfl rfl rfl (by repeat (first | exact FillR.nil | apply FillR.one rfl rfl (by (try dsimp only); repeat (first | exact PutAt.nil | apply PutAt.cons | apply PutAt.skip)) | apply FillR.agg rfl rfl (by (try dsimp only); repeat (first | exact PutAt.nil | apply PutAt.cons | apply PutAt.skip))))) ?_; clear hX; intro a w hX))
  refine xl_cons ?_; (refine y_insert hX rfl ⟨rfl, rfl⟩ tab_ok rfl rfl rfl rfl rfl rfl rfl foc0 rfl ?_; clear hX; intro a w hX)
  refine xl_cons ?_; ((refine y_pure (d := 5) hX ⟨rfl, rfl⟩ rfl (p_buildR hX.st rfl tab_ok rfl rfl rfl rfl rfl (by repeat (first | exact FillR.nil | apply FillR.one rfl rfl (by (try dsimp only); repeat (first | exact PutAt.nil | apply PutAt.cons | apply PutAt.skip)) | apply FillR.agg rfl rfl (by (try dsimp only); repeat (first | exact PutAt.nil | apply PutAt.cons | apply PutAt.skip))))) ?_; clear hX; intro a w hX))
  refine xl_cons ?_; (refine y_insert hX rfl ⟨rfl, rfl⟩ tab_ok rfl rfl rfl rfl rfl rfl rfl foc0 rfl ?_; clear hX; intro a w hX)
  refine xl_cons ?_; ((refine y_pure (d := 6) hX ⟨rfl, rfl⟩ rfl (p_buildR hX.st rfl tab_ok rfl rfl rfl rfl rfl (by repeat (first | exact FillR.nil | apply FillR.one rfl rfl (by (try dsimp only); repeat (first | exact PutAt.nil | apply PutAt.cons | apply PutAt.skip)) | apply FillR.agg rfl rfl (by (try dsimp only); repeat (first | exact PutAt.nil | apply PutAt.cons | apply PutAt.skip))))) ?_; clear hX; intro a w hX))
  refine xl_cons ?_; (refine y_insert hX rfl ⟨rfl, rfl⟩ tab_ok rfl rfl rfl rfl rfl rfl rfl foc0 rfl ?_; clear hX; intro a w hX)
  refine xl_cons ?_; ((refine y_pure (d := 7) hX ⟨rfl, rfl⟩ rfl (p_buildR hX.st rfl tab_ok rfl rfl rfl rfl rfl (by repeat (first | exact FillR.nil | apply FillR.one rfl rfl (by (try dsimp only); repeat (first | exact PutAt.nil | apply PutAt.cons | apply PutAt.skip)) | apply FillR.agg rfl rfl (by (try dsimp only); repeat (first | exact PutAt.nil | apply PutAt.cons | apply PutAt.skip))))) ?_; clear hX; intro a w hX))
  refine xl_cons ?_; (refine y_insert hX rfl ⟨rfl, rfl⟩ tab_ok rfl rfl rfl rfl rfl rfl rfl foc0 rfl ?_; clear hX; intro a w hX)
  refine xl_cons ?_; ((refine y_pure (d := 8) hX ⟨rfl, rfl⟩ rfl (p_buildR hX.st rfl tab_ok rfl rfl rfl rfl rfl (by repeat (first | exact FillR.nil | apply FillR.one rfl rfl (by (try dsimp only); repeat (first | exact PutAt.nil | apply PutAt.cons | apply PutAt.skip)) | apply FillR.agg rfl rfl (by (try dsimp only); repeat (first | exact PutAt.nil | apply PutAt.cons | apply PutAt.skip))))) ?_; clear hX; intro a w hX))
  refine xl_cons ?_; (refine y_insert hX rfl ⟨rfl, rfl⟩ tab_ok rfl rfl rfl rfl rfl rfl rfl foc0 rfl ?_; clear hX; intro a w hX)
  refine xl_cons ?_; ((refine y_pure (d := 9) hX ⟨rfl, rfl⟩ rfl (p_buildR hX.st rfl tab_ok rfl rfl rfl rfl rfl (by repeat (first | exact FillR.nil | apply FillR.one rfl rfl (by (try dsimp only); repeat (first | exact PutAt.nil | apply PutAt.cons | apply PutAt.skip)) | apply FillR.agg rfl rfl (by (try dsimp only); repeat (first | exact PutAt.nil | apply PutAt.cons | apply PutAt.skip))))) ?_; clear hX; intro a w hX))
  refine xl_cons ?_; (refine y_insert hX rfl ⟨rfl, rfl⟩ tab_ok rfl rfl rfl rfl rfl rfl rfl foc0 rfl ?_; clear hX; intro a w hX)
  refine xl_cons ?_; ((refine y_pure (d := 10) hX ⟨rfl, rfl⟩ rfl (p_move hX.st rfl rfl) ?_; clear hX; intro a w hX))
  refine xl_cons ?_; ((refine y_pure (d := 0) hX ⟨rfl, rfl⟩ rfl (p_assign hX.st rfl rfl) ?_; clear hX; intro a w hX))
  refine x_end ?_
  refine q_then ?_
  refine c_ret ?_
  exact f_ret1 hX Try.results38 rfl ⟨b, rfl, trivial, hX.sh⟩
end Go.Proofs.Ytjemilhbipaepaa
