/- Part 4 of 6 of the proof. -/
import Derived.Test.YtcjpcmofajcadaaDoorEp3
import Derived.Shelf.Strconv.Itoa3
import Derived.Room.Shelf.Join48
import Derived.Test.YtcjpcmofajcadaaDoorProg
set_option linter.unusedSimpArgs false
set_option linter.unusedVariables false
/- Which operations are valid: operations.plain, Check. -/
namespace Go.Proofs.YtcjpcmofajcadaaDoor
open Go.RowKit

def there (k : Nat) : Bool := decide (1 ≤ k) && decide (k ≤ 8)
def usesDir (k : Nat) : Bool := k == 1 || k == 4 || k == 5 || k == 6
def usesNeedle (k : Nat) : Bool := k == 4 || k == 5 || k == 6 || k == 7 || k == 8
def usesYarn (k : Nat) : Bool := k == 1 || k == 2 || k == 4 || k == 5 || k == 6
def usesRack (k : Nat) : Bool := k == 3
def opC (o : OpP) : List Value := [.int .u8 o.kind, .int .u8 o.dir, .int .u8 o.bed, .int .i64 o.place, .int .u8 o.yarn, .int .i64 o.rack]
def fldOf (k : Nat) : List Value := [.bool (there k && usesDir k), .bool (there k && usesNeedle k), .bool (there k && usesYarn k), .bool (there k && usesRack k)]

theorem find_uses (k : Nat) : Instr.findNow (.int .u8) (.int .u8 (k : Int)) usesEs 0 =
    some (if there k then some (k - 1, fld (usesDir k) (usesNeedle k) (usesYarn k) (usesRack k)) else none) := by
  by_cases h : 1 ≤ k ∧ k ≤ 8
  · obtain ⟨h1, h2⟩ := h
    rcases (show k = 1 ∨ k = 2 ∨ k = 3 ∨ k = 4 ∨ k = 5 ∨ k = 6 ∨ k = 7 ∨ k = 8 by omega) with h | h | h | h | h | h | h | h <;> subst h <;> rfl
  · have e : ∀ n : Int, 1 ≤ n → n ≤ 8 → (((k : Int)) == n) = false := fun n h1 h2 => beq_eq_false_iff_ne.2 (by omega)
    have ht : there k = false := by simp [there]; omega
    simp [usesEs, Instr.findNow, Instr.sameNow, e, ht]

def dirBad (k d : Nat) : Bool := if usesDir k then decide (1 < d) else decide (0 < d)
def needleBad (k b : Nat) (p : Int) : Bool := if usesNeedle k then !needleOk b p else !(decide (b = 0) && decide (p = 0))
def yarnBad (k y : Nat) : Bool := if usesYarn k then decide (y < 1) || decide (6 < y) else decide (0 < y)
def opPlain (o : OpP) : Bool := there o.kind && !dirBad o.kind o.dir && !needleBad o.kind o.bed o.place && !yarnBad o.kind o.yarn && (usesRack o.kind || decide (o.rack = 0))

theorem res_uses (k : Nat) : (((if there k then some (k - 1, fld (usesDir k) (usesNeedle k) (usesYarn k) (usesRack k)) else none : Option (Nat × Value)).map (·.2)).getD ti121.zero) = .agg (fldOf k).toArray := by
  cases h : there k <;> simp [fldOf, h, fld, ti121]
theorem some_uses (k : Nat) : ((if there k then some (k - 1, fld (usesDir k) (usesNeedle k) (usesYarn k) (usesRack k)) else none : Option (Nat × Value)).isSome) = there k := by
  cases h : there k <;> simp

theorem v_uses {x : Oper} {n : Nat} {D : List Deferred} {L : List (Nat × Value)} {B : Nat → Prop} {w0 : World} {H : List Ck} {a : Act} {K : Ck → List Ck} {u y : Operand} {b k : Nat}
    (hS : St n D L a) (hop : x.op = .lookup 123 u y true) (hu : ev L u = some (.map (some b))) (hy : ev L y = some (.int .u8 (k : Int))) (hf : Foc H (.obj b (.map usesEs.toArray 8)) K) (w : World) (hH : SH B w0 H w) :
    (execOp a.eval x).run Tryd.prog w = .ok (.value (.tuple #[.agg (fldOf k).toArray, .bool (there k)])) w := by
  have e := v_lookup hS hop tab_ok rfl rfl rfl rfl rfl hu hy hf (find_uses k) w hH
  rw [res_uses, some_uses] at e
  exact e
abbrev plainL (o : OpP) (b g : Nat) : List (Nat × Value) := [(1, .pointer (some ⟨b, 0, none⟩)), (2, .bool false), (3, .pointer (some ⟨g, 0, none⟩)), (4, .bool (there o.kind))]
abbrev plainH (o : OpP) (b g : Nat) : List Ck := [.cel g (fldOf o.kind) 121, .cel b (opC o) 55]

theorem plain_any (o : OpP) (W : World) :
    Ret Tryd.prog 52 #[.agg (opC o).toArray] W fun v w' => v = .bool (opPlain o) ∧ SF W [] w' := by
  refine f_start (vs := [.agg (opC o).toArray]) [(0, .agg (opC o).toArray)] Tryd.func52 rfl Tryd.ntmps52 rfl rfl ?_
  intro a hX
  refine wpIn_seq ?_
  refine c_region ?_
  refine xl_cons ?_; (first | (refine y_box_agg (d := 1) hX rfl ⟨rfl, rfl⟩ rfl rfl ?_; clear hX; intro b a w hX) | (refine y_box_one (d := 1) hX rfl ⟨rfl, rfl⟩ rfl rfl rfl ?_; clear hX; intro b a w hX))
  refine xl_cons ?_; ((refine y_pure (d := 2) hX ⟨rfl, rfl⟩ rfl (p_assign hX.st rfl rfl) ?_; clear hX; intro a w hX))
  refine x_end ?_
  refine q_then ?_
  refine wpIn_seq ?_
  refine c_cut (fun a w => ∃ g, Sym 84 [] (plainL o b g) (fun k => k < W.heap.size) W (plainH o b g) a w) ?_ ?_
  ·
    refine d_begin hX (by kernel_rfl) rfl (Sel.refl _) ?_
    clear hX; intro w hX
    ((refine d_take (i := 1) (fuel := 9) (d := 7) (listed' := #[false, true, false, false, false, false, false, false, false, false]) hX rfl (by kernel_rfl) (by kernel_rfl) (by kernel_rfl) (fun _ _ _ h => (by cases h.1)) ⟨rfl, rfl⟩ rfl rfl (Sel.refl _) (fun w _ => (p_field0 hX.st rfl tab_ok rfl rfl rfl rfl rfl rfl) w) ?_; clear hX; intro a hX))
    ((refine d_take (i := 2) (fuel := 8) (d := 8) (listed' := #[false, true, true, false, false, false, false, false, false, false]) hX rfl (by kernel_rfl) (by kernel_rfl) (by kernel_rfl) (fun _ _ _ h => (by cases h.1)) ⟨rfl, rfl⟩ rfl rfl (Sel.refl _) (v_load hX.st rfl tab_ok rfl rfl rfl foc0 rfl) ?_; clear hX; intro a hX))
    refine d_ready (fuel := 7) (by kernel_rfl) (d_cons (i := 0) (listed' := #[true, true, true, false, false, false, false, false, false, false]) rfl rfl ?_ (d_cons (i := 7) (listed' := #[false, true, true, false, false, false, false, true, false, false]) rfl rfl ?_ d_nil))
    ·
      (refine y_callC (d := 6) hX rfl ⟨rfl, rfl⟩ rfl Tryd.func61 rfl rfl rfl (uses_any _) ?_; clear hX; rintro m a w _ hX)
      refine ⟨hX.sh.sel selD1, ?_⟩
      refine d_ready (fuel := 6) (by kernel_rfl) (d_cons (i := 3) (listed' := #[true, true, true, true, false, false, false, false, false, false]) rfl rfl ?_ (d_cons (i := 7) (listed' := #[true, true, true, false, false, false, false, true, false, false]) rfl rfl ?_ d_nil))
      ·
        (first | (refine y_read (d := 9) hX ⟨rfl, rfl⟩ rfl (v_uses hX.st rfl rfl rfl foc0) ?_; clear hX; intro a w hX) | (refine y_read (d := 9) hX ⟨rfl, rfl⟩ rfl (v_uses hX.st rfl rfl rfl foc1) ?_; clear hX; intro a w hX))
        refine ⟨hX.sh.sel selD1, ?_⟩
        ((refine d_take (i := 4) (fuel := 5) (d := 5) (listed' := #[true, true, true, true, true, false, false, false, false, false]) hX rfl (by kernel_rfl) (by kernel_rfl) (by kernel_rfl) (fun _ _ _ h => (by cases h.1)) ⟨rfl, rfl⟩ rfl rfl selD1 (fun w _ => (p_move hX.st rfl rfl) w) ?_; clear hX; intro a hX))
        ((refine d_take (i := 5) (fuel := 4) (d := 10) (listed' := #[true, true, true, true, true, true, false, false, false, false]) hX rfl (by kernel_rfl) (by kernel_rfl) (by kernel_rfl) (fun _ _ _ h => (by cases h.1)) ⟨rfl, rfl⟩ rfl rfl selD1 (fun w _ => (p_extract hX.st rfl rfl rfl) w) ?_; clear hX; intro a hX))
        ((refine d_take (i := 6) (fuel := 3) (d := 11) (listed' := #[true, true, true, true, true, true, true, false, false, false]) hX rfl (by kernel_rfl) (by kernel_rfl) (by kernel_rfl) (fun _ _ _ h => (by cases h.1)) ⟨rfl, rfl⟩ rfl rfl selD1 (fun w _ => (p_extract hX.st rfl rfl rfl) w) ?_; clear hX; intro a hX))
        refine d_ready (fuel := 2) (by kernel_rfl) (d_cons (i := 7) (listed' := #[true, true, true, true, true, true, true, true, false, false]) rfl rfl ?_ d_nil)
        (first | (refine y_alloc_agg (d := 3) hX rfl ⟨rfl, rfl⟩ rfl tab_ok rfl rfl ?_; clear hX; intro b a w hX) | (refine y_alloc_one (d := 3) hX rfl ⟨rfl, rfl⟩ rfl tab_ok rfl rfl rfl ?_; clear hX; intro b a w hX))
        refine ⟨hX.sh.sel selD2, ?_⟩
        refine d_ready (fuel := 1) (by kernel_rfl) (d_cons (i := 8) (listed' := #[true, true, true, true, true, true, true, true, true, false]) rfl rfl ?_ d_nil)
        (first | (refine y_store_agg hX rfl ⟨rfl, rfl⟩ tab_ok rfl rfl rfl rfl foc0 rfl rfl ?_; clear hX; intro a w hX) | (refine y_store_put hX rfl ⟨rfl, rfl⟩ tab_ok rfl rfl rfl rfl foc0 rfl (by (try dsimp only); repeat (first | exact PutAt.nil | apply PutAt.cons | apply PutAt.skip)) ?_; clear hX; intro a w hX))
        refine ⟨hX.sh.sel selD2, ?_⟩
        ((refine d_take (i := 9) (fuel := 0) (d := 4) (listed' := #[true, true, true, true, true, true, true, true, true, true]) hX rfl (by kernel_rfl) (by kernel_rfl) (by kernel_rfl) (fun _ _ _ h => (by cases h.1)) ⟨rfl, rfl⟩ rfl rfl selD2 (fun w _ => (p_assign hX.st rfl rfl) w) ?_; clear hX; intro a hX))
        refine d_done (by kernel_rfl) ?_
        refine ⟨rfl, ?_⟩
        exact ⟨_, hX.to (by repeat (first | exact Sub.nil | refine Sub.cons rfl ?_)) (by with_reducible (repeat (first | exact Sel.refl _ | exact Sel.nil | refine Sel.cons tk0 ?_ | refine Sel.cons tk1 ?_ | refine Sel.cons tk2 ?_ | refine Sel.cons tk3 ?_ | refine Sel.cons tk4 ?_ | refine Sel.cons tk5 ?_ | refine Sel.cons tk6 ?_ | refine Sel.cons tk7 ?_ | refine Sel.cons tk8 ?_ | refine Sel.cons tk9 ?_ | refine Sel.cons tk10 ?_ | refine Sel.cons tk11 ?_ | refine Sel.cons tk12 ?_)))⟩
      ·
        (first | (refine y_alloc_agg (d := 3) hX rfl ⟨rfl, rfl⟩ rfl tab_ok rfl rfl ?_; clear hX; intro b a w hX) | (refine y_alloc_one (d := 3) hX rfl ⟨rfl, rfl⟩ rfl tab_ok rfl rfl rfl ?_; clear hX; intro b a w hX))
        refine ⟨hX.sh.sel selD2, ?_⟩
        refine d_ready (fuel := 5) (by kernel_rfl) (d_cons (i := 3) (listed' := #[true, true, true, true, false, false, false, true, false, false]) rfl rfl ?_ d_nil)
        (first | (refine y_read (d := 9) hX ⟨rfl, rfl⟩ rfl (v_uses hX.st rfl rfl rfl foc0) ?_; clear hX; intro a w hX) | (refine y_read (d := 9) hX ⟨rfl, rfl⟩ rfl (v_uses hX.st rfl rfl rfl foc1) ?_; clear hX; intro a w hX))
        refine ⟨hX.sh.sel selD2, ?_⟩
        ((refine d_take (i := 4) (fuel := 4) (d := 5) (listed' := #[true, true, true, true, true, false, false, true, false, false]) hX rfl (by kernel_rfl) (by kernel_rfl) (by kernel_rfl) (fun _ _ _ h => (by cases h.1)) ⟨rfl, rfl⟩ rfl rfl selD2 (fun w _ => (p_move hX.st rfl rfl) w) ?_; clear hX; intro a hX))
        ((refine d_take (i := 5) (fuel := 3) (d := 10) (listed' := #[true, true, true, true, true, true, false, true, false, false]) hX rfl (by kernel_rfl) (by kernel_rfl) (by kernel_rfl) (fun _ _ _ h => (by cases h.1)) ⟨rfl, rfl⟩ rfl rfl selD2 (fun w _ => (p_extract hX.st rfl rfl rfl) w) ?_; clear hX; intro a hX))
        ((refine d_take (i := 6) (fuel := 2) (d := 11) (listed' := #[true, true, true, true, true, true, true, true, false, false]) hX rfl (by kernel_rfl) (by kernel_rfl) (by kernel_rfl) (fun _ _ _ h => (by cases h.1)) ⟨rfl, rfl⟩ rfl rfl selD2 (fun w _ => (p_extract hX.st rfl rfl rfl) w) ?_; clear hX; intro a hX))
        refine d_ready (fuel := 1) (by kernel_rfl) (d_cons (i := 8) (listed' := #[true, true, true, true, true, true, true, true, true, false]) rfl rfl ?_ d_nil)
        (first | (refine y_store_agg hX rfl ⟨rfl, rfl⟩ tab_ok rfl rfl rfl rfl foc0 rfl rfl ?_; clear hX; intro a w hX) | (refine y_store_put hX rfl ⟨rfl, rfl⟩ tab_ok rfl rfl rfl rfl foc0 rfl (by (try dsimp only); repeat (first | exact PutAt.nil | apply PutAt.cons | apply PutAt.skip)) ?_; clear hX; intro a w hX))
        refine ⟨hX.sh.sel selD2, ?_⟩
        ((refine d_take (i := 9) (fuel := 0) (d := 4) (listed' := #[true, true, true, true, true, true, true, true, true, true]) hX rfl (by kernel_rfl) (by kernel_rfl) (by kernel_rfl) (fun _ _ _ h => (by cases h.1)) ⟨rfl, rfl⟩ rfl rfl selD2 (fun w _ => (p_assign hX.st rfl rfl) w) ?_; clear hX; intro a hX))
        refine d_done (by kernel_rfl) ?_
        refine ⟨rfl, ?_⟩
        exact ⟨_, hX.to (by repeat (first | exact Sub.nil | refine Sub.cons rfl ?_)) (by with_reducible (repeat (first | exact Sel.refl _ | exact Sel.nil | refine Sel.cons tk0 ?_ | refine Sel.cons tk1 ?_ | refine Sel.cons tk2 ?_ | refine Sel.cons tk3 ?_ | refine Sel.cons tk4 ?_ | refine Sel.cons tk5 ?_ | refine Sel.cons tk6 ?_ | refine Sel.cons tk7 ?_ | refine Sel.cons tk8 ?_ | refine Sel.cons tk9 ?_ | refine Sel.cons tk10 ?_ | refine Sel.cons tk11 ?_ | refine Sel.cons tk12 ?_)))⟩
    ·
      (first | (refine y_alloc_agg (d := 3) hX rfl ⟨rfl, rfl⟩ rfl tab_ok rfl rfl ?_; clear hX; intro b a w hX) | (refine y_alloc_one (d := 3) hX rfl ⟨rfl, rfl⟩ rfl tab_ok rfl rfl rfl ?_; clear hX; intro b a w hX))
      refine ⟨hX.sh.sel selD1, ?_⟩
      refine d_ready (fuel := 6) (by kernel_rfl) (d_cons (i := 0) (listed' := #[true, true, true, false, false, false, false, true, false, false]) rfl rfl ?_ d_nil)
      (refine y_callC (d := 6) hX rfl ⟨rfl, rfl⟩ rfl Tryd.func61 rfl rfl rfl (uses_any _) ?_; clear hX; rintro m a w _ hX)
      refine ⟨hX.sh.sel selD2, ?_⟩
      refine d_ready (fuel := 5) (by kernel_rfl) (d_cons (i := 3) (listed' := #[true, true, true, true, false, false, false, true, false, false]) rfl rfl ?_ d_nil)
      (first | (refine y_read (d := 9) hX ⟨rfl, rfl⟩ rfl (v_uses hX.st rfl rfl rfl foc0) ?_; clear hX; intro a w hX) | (refine y_read (d := 9) hX ⟨rfl, rfl⟩ rfl (v_uses hX.st rfl rfl rfl foc1) ?_; clear hX; intro a w hX))
      refine ⟨hX.sh.sel selD2, ?_⟩
      ((refine d_take (i := 4) (fuel := 4) (d := 5) (listed' := #[true, true, true, true, true, false, false, true, false, false]) hX rfl (by kernel_rfl) (by kernel_rfl) (by kernel_rfl) (fun _ _ _ h => (by cases h.1)) ⟨rfl, rfl⟩ rfl rfl selD2 (fun w _ => (p_move hX.st rfl rfl) w) ?_; clear hX; intro a hX))
      ((refine d_take (i := 5) (fuel := 3) (d := 10) (listed' := #[true, true, true, true, true, true, false, true, false, false]) hX rfl (by kernel_rfl) (by kernel_rfl) (by kernel_rfl) (fun _ _ _ h => (by cases h.1)) ⟨rfl, rfl⟩ rfl rfl selD2 (fun w _ => (p_extract hX.st rfl rfl rfl) w) ?_; clear hX; intro a hX))
      ((refine d_take (i := 6) (fuel := 2) (d := 11) (listed' := #[true, true, true, true, true, true, true, true, false, false]) hX rfl (by kernel_rfl) (by kernel_rfl) (by kernel_rfl) (fun _ _ _ h => (by cases h.1)) ⟨rfl, rfl⟩ rfl rfl selD2 (fun w _ => (p_extract hX.st rfl rfl rfl) w) ?_; clear hX; intro a hX))
      refine d_ready (fuel := 1) (by kernel_rfl) (d_cons (i := 8) (listed' := #[true, true, true, true, true, true, true, true, true, false]) rfl rfl ?_ d_nil)
      (first | (refine y_store_agg hX rfl ⟨rfl, rfl⟩ tab_ok rfl rfl rfl rfl foc1 rfl rfl ?_; clear hX; intro a w hX) | (refine y_store_put hX rfl ⟨rfl, rfl⟩ tab_ok rfl rfl rfl rfl foc1 rfl (by (try dsimp only); repeat (first | exact PutAt.nil | apply PutAt.cons | apply PutAt.skip)) ?_; clear hX; intro a w hX))
      refine ⟨hX.sh.sel selD2, ?_⟩
      ((refine d_take (i := 9) (fuel := 0) (d := 4) (listed' := #[true, true, true, true, true, true, true, true, true, true]) hX rfl (by kernel_rfl) (by kernel_rfl) (by kernel_rfl) (fun _ _ _ h => (by cases h.1)) ⟨rfl, rfl⟩ rfl rfl selD2 (fun w _ => (p_assign hX.st rfl rfl) w) ?_; clear hX; intro a hX))
      refine d_done (by kernel_rfl) ?_
      refine ⟨rfl, ?_⟩
      exact ⟨_, hX.to (by repeat (first | exact Sub.nil | refine Sub.cons rfl ?_)) (by with_reducible (repeat (first | exact Sel.refl _ | exact Sel.nil | refine Sel.cons tk0 ?_ | refine Sel.cons tk1 ?_ | refine Sel.cons tk2 ?_ | refine Sel.cons tk3 ?_ | refine Sel.cons tk4 ?_ | refine Sel.cons tk5 ?_ | refine Sel.cons tk6 ?_ | refine Sel.cons tk7 ?_ | refine Sel.cons tk8 ?_ | refine Sel.cons tk9 ?_ | refine Sel.cons tk10 ?_ | refine Sel.cons tk11 ?_ | refine Sel.cons tk12 ?_)))⟩
  ·
    intro a w HM
    obtain ⟨g, hX⟩ := HM
    refine q_then ?_
    refine wpIn_seq ?_
    refine wpIn_seq ?_
    refine c_region ?_
    refine xl_cons ?_; ((refine y_pure (d := 12) hX ⟨rfl, rfl⟩ rfl (p_move hX.st rfl rfl) ?_; clear hX; intro a w hX))
    refine xl_cons ?_; ((refine y_pure (d := 13) hX ⟨rfl, rfl⟩ rfl (p_not hX.st rfl rfl) ?_; clear hX; intro a w hX))
    refine x_end ?_
    refine q_then ?_
    refine c_cond hX rfl (fun hc => ?_) (fun hc => ?_)
    ·
      try (first | cases hc | exact (contra_tf hc (by with_reducible assumption)).elim | exact (contra_tf (by with_reducible assumption) hc).elim | exact absurd hc (by decide))
      all_goals
        refine wpIn_seq ?_
        refine c_region ?_
        refine xl_cons ?_; ((refine y_pure (d := 2) hX ⟨rfl, rfl⟩ rfl (p_assign hX.st rfl rfl) ?_; clear hX; intro a w hX))
        refine x_end ?_
        refine q_then ?_
        refine c_ret ?_
        refine q_then_ret ?_
        refine f_ret1 hX Tryd.results52 rfl ⟨congrArg Value.bool ?_, hX.sh.sel Sel.nil⟩
        clear hX a w
        simp only [bne_iff_ne, ne_eq, bne_eq_false_iff_eq, beq_iff_eq, beq_eq_false_iff_ne, decide_eq_true_eq, decide_eq_false_iff_not, Bool.not_eq_true', Bool.not_eq_false'] at *
        simp_all [opPlain] <;> first | omega | (rw [Bool.eq_iff_iff]; simp; omega) | (rw [Bool.eq_iff_iff]; simp; done)
    ·
      try (first | cases hc | exact (contra_tf hc (by with_reducible assumption)).elim | exact (contra_tf (by with_reducible assumption) hc).elim | exact absurd hc (by decide))
      all_goals
        refine c_skip ?_
        refine q_then ?_
        refine wpIn_seq ?_
        refine wpIn_seq ?_
        refine c_cut (fun a w => Sym 84 [] ((35, .bool (dirBad o.kind o.dir)) :: plainL o b g) (fun k => k < W.heap.size) W (plainH o b g) a w) ?_ ?_
        ·
          refine c_region ?_
          refine xl_cons ?_; (first | (refine y_pure (d := 14) hX ⟨rfl, rfl⟩ rfl (p_field0 hX.st rfl tab_ok rfl rfl rfl rfl rfl rfl) ?_; clear hX; intro a w hX) | (refine y_pure (d := 14) hX ⟨rfl, rfl⟩ rfl (p_field hX.st rfl tab_ok rfl rfl rfl rfl rfl rfl) ?_; clear hX; intro a w hX))
          refine xl_cons ?_; (first | (refine y_read (d := 15) hX ⟨rfl, rfl⟩ rfl (v_load hX.st rfl tab_ok rfl rfl rfl foc0 rfl) ?_; clear hX; intro a w hX) | (refine y_read (d := 15) hX ⟨rfl, rfl⟩ rfl (v_load hX.st rfl tab_ok rfl rfl rfl foc1 rfl) ?_; clear hX; intro a w hX) | (refine y_read (d := 15) hX ⟨rfl, rfl⟩ rfl (v_load hX.st rfl tab_ok rfl rfl rfl foc2 rfl) ?_; clear hX; intro a w hX) | (refine y_read (d := 15) hX ⟨rfl, rfl⟩ rfl (v_load hX.st rfl tab_ok rfl rfl rfl foc3 rfl) ?_; clear hX; intro a w hX) | (refine y_read (d := 15) hX ⟨rfl, rfl⟩ rfl (v_load hX.st rfl tab_ok rfl rfl rfl foc4 rfl) ?_; clear hX; intro a w hX) | (refine y_read (d := 15) hX ⟨rfl, rfl⟩ rfl (v_load hX.st rfl tab_ok rfl rfl rfl foc5 rfl) ?_; clear hX; intro a w hX) | (refine y_read (d := 15) hX ⟨rfl, rfl⟩ rfl (v_load hX.st rfl tab_ok rfl rfl rfl foc6 rfl) ?_; clear hX; intro a w hX) | (refine y_read (d := 15) hX ⟨rfl, rfl⟩ rfl (v_load hX.st rfl tab_ok rfl rfl rfl foc7 rfl) ?_; clear hX; intro a w hX) | (refine y_read (d := 15) hX ⟨rfl, rfl⟩ rfl (v_load hX.st rfl tab_ok rfl rfl rfl foc8 rfl) ?_; clear hX; intro a w hX) | (refine y_read (d := 15) hX ⟨rfl, rfl⟩ rfl (v_load hX.st rfl tab_ok rfl rfl rfl foc9 rfl) ?_; clear hX; intro a w hX) | (refine y_read (d := 15) hX ⟨rfl, rfl⟩ rfl (v_load hX.st rfl tab_ok rfl rfl rfl foc10 rfl) ?_; clear hX; intro a w hX) | (refine y_read (d := 15) hX ⟨rfl, rfl⟩ rfl (v_load hX.st rfl tab_ok rfl rfl rfl foc11 rfl) ?_; clear hX; intro a w hX) | (refine y_read (d := 15) hX ⟨rfl, rfl⟩ rfl (v_load hX.st rfl tab_ok rfl rfl rfl foc12 rfl) ?_; clear hX; intro a w hX) | (refine y_read (d := 15) hX ⟨rfl, rfl⟩ rfl (v_load_old hX.st rfl tab_ok rfl rfl rfl (by assumption) (by assumption)) ?_; clear hX; intro a w hX))
          refine xl_cons ?_; ((refine y_pure (d := 16) hX ⟨rfl, rfl⟩ rfl (p_move hX.st rfl rfl) ?_; clear hX; intro a w hX))
          all_goals (refine xl_cons ?_; (first | (refine y_guard0 hX rfl rfl rfl (by first | with_reducible rfl | with_reducible assumption | exact beq_self_eq_true _ | exact bne_self_eq_false _ | (show _ = true; with_reducible first | rfl | assumption) | (show _ = false; with_reducible first | rfl | assumption) | decide) rfl rfl ?_; clear hX; intro a w hX) | ((refine y_guard1 hX rfl rfl rfl (by first | with_reducible rfl | with_reducible assumption | exact beq_self_eq_true _ | exact bne_self_eq_false _ | (show _ = true; with_reducible first | rfl | assumption) | (show _ = false; with_reducible first | rfl | assumption) | decide) ?_); (first | (refine y_pure (d := 17) hX ⟨rfl, rfl⟩ rfl (p_field0 hX.st rfl tab_ok rfl rfl rfl rfl rfl rfl) ?_; clear hX; intro a w hX) | (refine y_pure (d := 17) hX ⟨rfl, rfl⟩ rfl (p_field hX.st rfl tab_ok rfl rfl rfl rfl rfl rfl) ?_; clear hX; intro a w hX))) | (refine y_guardU hX rfl rfl rfl rfl rfl ?_; clear hX; intro a w hX) | ((refine y_gsplit hX rfl rfl rfl ?_ ?_) <;> intro hg <;> first | (refine y_guard0 hX rfl rfl rfl (by first | with_reducible rfl | with_reducible assumption | exact beq_self_eq_true _ | exact bne_self_eq_false _ | (show _ = true; with_reducible first | rfl | assumption) | (show _ = false; with_reducible first | rfl | assumption) | decide) rfl rfl ?_; clear hX; intro a w hX) | ((refine y_guard1 hX rfl rfl rfl (by first | with_reducible rfl | with_reducible assumption | exact beq_self_eq_true _ | exact bne_self_eq_false _ | (show _ = true; with_reducible first | rfl | assumption) | (show _ = false; with_reducible first | rfl | assumption) | decide) ?_); (first | (refine y_pure (d := 17) hX ⟨rfl, rfl⟩ rfl (p_field0 hX.st rfl tab_ok rfl rfl rfl rfl rfl rfl) ?_; clear hX; intro a w hX) | (refine y_pure (d := 17) hX ⟨rfl, rfl⟩ rfl (p_field hX.st rfl tab_ok rfl rfl rfl rfl rfl rfl) ?_; clear hX; intro a w hX))))))
          all_goals (refine xl_cons ?_; (first | (refine y_guard0 hX rfl rfl rfl (by first | with_reducible rfl | with_reducible assumption | exact beq_self_eq_true _ | exact bne_self_eq_false _ | (show _ = true; with_reducible first | rfl | assumption) | (show _ = false; with_reducible first | rfl | assumption) | decide) rfl rfl ?_; clear hX; intro a w hX) | ((refine y_guard1 hX rfl rfl rfl (by first | with_reducible rfl | with_reducible assumption | exact beq_self_eq_true _ | exact bne_self_eq_false _ | (show _ = true; with_reducible first | rfl | assumption) | (show _ = false; with_reducible first | rfl | assumption) | decide) ?_); (first | (refine y_read (d := 18) hX ⟨rfl, rfl⟩ rfl (v_load hX.st rfl tab_ok rfl rfl rfl foc0 rfl) ?_; clear hX; intro a w hX) | (refine y_read (d := 18) hX ⟨rfl, rfl⟩ rfl (v_load hX.st rfl tab_ok rfl rfl rfl foc1 rfl) ?_; clear hX; intro a w hX) | (refine y_read (d := 18) hX ⟨rfl, rfl⟩ rfl (v_load hX.st rfl tab_ok rfl rfl rfl foc2 rfl) ?_; clear hX; intro a w hX) | (refine y_read (d := 18) hX ⟨rfl, rfl⟩ rfl (v_load hX.st rfl tab_ok rfl rfl rfl foc3 rfl) ?_; clear hX; intro a w hX) | (refine y_read (d := 18) hX ⟨rfl, rfl⟩ rfl (v_load hX.st rfl tab_ok rfl rfl rfl foc4 rfl) ?_; clear hX; intro a w hX) | (refine y_read (d := 18) hX ⟨rfl, rfl⟩ rfl (v_load hX.st rfl tab_ok rfl rfl rfl foc5 rfl) ?_; clear hX; intro a w hX) | (refine y_read (d := 18) hX ⟨rfl, rfl⟩ rfl (v_load hX.st rfl tab_ok rfl rfl rfl foc6 rfl) ?_; clear hX; intro a w hX) | (refine y_read (d := 18) hX ⟨rfl, rfl⟩ rfl (v_load hX.st rfl tab_ok rfl rfl rfl foc7 rfl) ?_; clear hX; intro a w hX) | (refine y_read (d := 18) hX ⟨rfl, rfl⟩ rfl (v_load hX.st rfl tab_ok rfl rfl rfl foc8 rfl) ?_; clear hX; intro a w hX) | (refine y_read (d := 18) hX ⟨rfl, rfl⟩ rfl (v_load hX.st rfl tab_ok rfl rfl rfl foc9 rfl) ?_; clear hX; intro a w hX) | (refine y_read (d := 18) hX ⟨rfl, rfl⟩ rfl (v_load hX.st rfl tab_ok rfl rfl rfl foc10 rfl) ?_; clear hX; intro a w hX) | (refine y_read (d := 18) hX ⟨rfl, rfl⟩ rfl (v_load hX.st rfl tab_ok rfl rfl rfl foc11 rfl) ?_; clear hX; intro a w hX) | (refine y_read (d := 18) hX ⟨rfl, rfl⟩ rfl (v_load hX.st rfl tab_ok rfl rfl rfl foc12 rfl) ?_; clear hX; intro a w hX) | (refine y_read (d := 18) hX ⟨rfl, rfl⟩ rfl (v_load_old hX.st rfl tab_ok rfl rfl rfl (by assumption) (by assumption)) ?_; clear hX; intro a w hX))) | (refine y_guardU hX rfl rfl rfl rfl rfl ?_; clear hX; intro a w hX) | ((refine y_gsplit hX rfl rfl rfl ?_ ?_) <;> intro hg <;> first | (refine y_guard0 hX rfl rfl rfl (by first | with_reducible rfl | with_reducible assumption | exact beq_self_eq_true _ | exact bne_self_eq_false _ | (show _ = true; with_reducible first | rfl | assumption) | (show _ = false; with_reducible first | rfl | assumption) | decide) rfl rfl ?_; clear hX; intro a w hX) | ((refine y_guard1 hX rfl rfl rfl (by first | with_reducible rfl | with_reducible assumption | exact beq_self_eq_true _ | exact bne_self_eq_false _ | (show _ = true; with_reducible first | rfl | assumption) | (show _ = false; with_reducible first | rfl | assumption) | decide) ?_); (first | (refine y_read (d := 18) hX ⟨rfl, rfl⟩ rfl (v_load hX.st rfl tab_ok rfl rfl rfl foc0 rfl) ?_; clear hX; intro a w hX) | (refine y_read (d := 18) hX ⟨rfl, rfl⟩ rfl (v_load hX.st rfl tab_ok rfl rfl rfl foc1 rfl) ?_; clear hX; intro a w hX) | (refine y_read (d := 18) hX ⟨rfl, rfl⟩ rfl (v_load hX.st rfl tab_ok rfl rfl rfl foc2 rfl) ?_; clear hX; intro a w hX) | (refine y_read (d := 18) hX ⟨rfl, rfl⟩ rfl (v_load hX.st rfl tab_ok rfl rfl rfl foc3 rfl) ?_; clear hX; intro a w hX) | (refine y_read (d := 18) hX ⟨rfl, rfl⟩ rfl (v_load hX.st rfl tab_ok rfl rfl rfl foc4 rfl) ?_; clear hX; intro a w hX) | (refine y_read (d := 18) hX ⟨rfl, rfl⟩ rfl (v_load hX.st rfl tab_ok rfl rfl rfl foc5 rfl) ?_; clear hX; intro a w hX) | (refine y_read (d := 18) hX ⟨rfl, rfl⟩ rfl (v_load hX.st rfl tab_ok rfl rfl rfl foc6 rfl) ?_; clear hX; intro a w hX) | (refine y_read (d := 18) hX ⟨rfl, rfl⟩ rfl (v_load hX.st rfl tab_ok rfl rfl rfl foc7 rfl) ?_; clear hX; intro a w hX) | (refine y_read (d := 18) hX ⟨rfl, rfl⟩ rfl (v_load hX.st rfl tab_ok rfl rfl rfl foc8 rfl) ?_; clear hX; intro a w hX) | (refine y_read (d := 18) hX ⟨rfl, rfl⟩ rfl (v_load hX.st rfl tab_ok rfl rfl rfl foc9 rfl) ?_; clear hX; intro a w hX) | (refine y_read (d := 18) hX ⟨rfl, rfl⟩ rfl (v_load hX.st rfl tab_ok rfl rfl rfl foc10 rfl) ?_; clear hX; intro a w hX) | (refine y_read (d := 18) hX ⟨rfl, rfl⟩ rfl (v_load hX.st rfl tab_ok rfl rfl rfl foc11 rfl) ?_; clear hX; intro a w hX) | (refine y_read (d := 18) hX ⟨rfl, rfl⟩ rfl (v_load hX.st rfl tab_ok rfl rfl rfl foc12 rfl) ?_; clear hX; intro a w hX) | (refine y_read (d := 18) hX ⟨rfl, rfl⟩ rfl (v_load_old hX.st rfl tab_ok rfl rfl rfl (by assumption) (by assumption)) ?_; clear hX; intro a w hX))))))
          all_goals (refine xl_cons ?_; (first | (refine y_guard0 hX rfl rfl rfl (by first | with_reducible rfl | with_reducible assumption | exact beq_self_eq_true _ | exact bne_self_eq_false _ | (show _ = true; with_reducible first | rfl | assumption) | (show _ = false; with_reducible first | rfl | assumption) | decide) rfl rfl ?_; clear hX; intro a w hX) | ((refine y_guard1 hX rfl rfl rfl (by first | with_reducible rfl | with_reducible assumption | exact beq_self_eq_true _ | exact bne_self_eq_false _ | (show _ = true; with_reducible first | rfl | assumption) | (show _ = false; with_reducible first | rfl | assumption) | decide) ?_); ((refine y_pure (d := 19) hX ⟨rfl, rfl⟩ rfl (p_neq hX.st rfl rfl rfl) ?_; clear hX; intro a w hX))) | (refine y_guardU hX rfl rfl rfl rfl rfl ?_; clear hX; intro a w hX) | ((refine y_gsplit hX rfl rfl rfl ?_ ?_) <;> intro hg <;> first | (refine y_guard0 hX rfl rfl rfl (by first | with_reducible rfl | with_reducible assumption | exact beq_self_eq_true _ | exact bne_self_eq_false _ | (show _ = true; with_reducible first | rfl | assumption) | (show _ = false; with_reducible first | rfl | assumption) | decide) rfl rfl ?_; clear hX; intro a w hX) | ((refine y_guard1 hX rfl rfl rfl (by first | with_reducible rfl | with_reducible assumption | exact beq_self_eq_true _ | exact bne_self_eq_false _ | (show _ = true; with_reducible first | rfl | assumption) | (show _ = false; with_reducible first | rfl | assumption) | decide) ?_); ((refine y_pure (d := 19) hX ⟨rfl, rfl⟩ rfl (p_neq hX.st rfl rfl rfl) ?_; clear hX; intro a w hX))))))
          all_goals (refine xl_cons ?_; (first | (refine y_pure (d := 20) hX ⟨rfl, rfl⟩ rfl (p_pick1 hX.st rfl rfl (by first | with_reducible rfl | with_reducible assumption | exact beq_self_eq_true _ | exact bne_self_eq_false _ | (show _ = true; with_reducible first | rfl | assumption) | (show _ = false; with_reducible first | rfl | assumption) | decide) rfl) ?_; clear hX; intro a w hX) | (refine y_pure (d := 20) hX ⟨rfl, rfl⟩ rfl (p_pick0 hX.st rfl rfl (by first | with_reducible rfl | with_reducible assumption | exact beq_self_eq_true _ | exact bne_self_eq_false _ | (show _ = true; with_reducible first | rfl | assumption) | (show _ = false; with_reducible first | rfl | assumption) | decide) rfl) ?_; clear hX; intro a w hX)))
          all_goals (refine xl_cons ?_; ((refine y_pure (d := 21) hX ⟨rfl, rfl⟩ rfl (p_move hX.st rfl rfl) ?_; clear hX; intro a w hX)))
          all_goals (refine xl_cons ?_; (first | (refine y_guard0 hX rfl rfl rfl (by first | with_reducible rfl | with_reducible assumption | exact beq_self_eq_true _ | exact bne_self_eq_false _ | (show _ = true; with_reducible first | rfl | assumption) | (show _ = false; with_reducible first | rfl | assumption) | decide) rfl rfl ?_; clear hX; intro a w hX) | ((refine y_guard1 hX rfl rfl rfl (by first | with_reducible rfl | with_reducible assumption | exact beq_self_eq_true _ | exact bne_self_eq_false _ | (show _ = true; with_reducible first | rfl | assumption) | (show _ = false; with_reducible first | rfl | assumption) | decide) ?_); (first | (refine y_pure (d := 22) hX ⟨rfl, rfl⟩ rfl (p_field0 hX.st rfl tab_ok rfl rfl rfl rfl rfl rfl) ?_; clear hX; intro a w hX) | (refine y_pure (d := 22) hX ⟨rfl, rfl⟩ rfl (p_field hX.st rfl tab_ok rfl rfl rfl rfl rfl rfl) ?_; clear hX; intro a w hX))) | (refine y_guardU hX rfl rfl rfl rfl rfl ?_; clear hX; intro a w hX) | ((refine y_gsplit hX rfl rfl rfl ?_ ?_) <;> intro hg <;> first | (refine y_guard0 hX rfl rfl rfl (by first | with_reducible rfl | with_reducible assumption | exact beq_self_eq_true _ | exact bne_self_eq_false _ | (show _ = true; with_reducible first | rfl | assumption) | (show _ = false; with_reducible first | rfl | assumption) | decide) rfl rfl ?_; clear hX; intro a w hX) | ((refine y_guard1 hX rfl rfl rfl (by first | with_reducible rfl | with_reducible assumption | exact beq_self_eq_true _ | exact bne_self_eq_false _ | (show _ = true; with_reducible first | rfl | assumption) | (show _ = false; with_reducible first | rfl | assumption) | decide) ?_); (first | (refine y_pure (d := 22) hX ⟨rfl, rfl⟩ rfl (p_field0 hX.st rfl tab_ok rfl rfl rfl rfl rfl rfl) ?_; clear hX; intro a w hX) | (refine y_pure (d := 22) hX ⟨rfl, rfl⟩ rfl (p_field hX.st rfl tab_ok rfl rfl rfl rfl rfl rfl) ?_; clear hX; intro a w hX))))))
          all_goals (refine xl_cons ?_; (first | (refine y_guard0 hX rfl rfl rfl (by first | with_reducible rfl | with_reducible assumption | exact beq_self_eq_true _ | exact bne_self_eq_false _ | (show _ = true; with_reducible first | rfl | assumption) | (show _ = false; with_reducible first | rfl | assumption) | decide) rfl rfl ?_; clear hX; intro a w hX) | ((refine y_guard1 hX rfl rfl rfl (by first | with_reducible rfl | with_reducible assumption | exact beq_self_eq_true _ | exact bne_self_eq_false _ | (show _ = true; with_reducible first | rfl | assumption) | (show _ = false; with_reducible first | rfl | assumption) | decide) ?_); (first | (refine y_read (d := 23) hX ⟨rfl, rfl⟩ rfl (v_load hX.st rfl tab_ok rfl rfl rfl foc0 rfl) ?_; clear hX; intro a w hX) | (refine y_read (d := 23) hX ⟨rfl, rfl⟩ rfl (v_load hX.st rfl tab_ok rfl rfl rfl foc1 rfl) ?_; clear hX; intro a w hX) | (refine y_read (d := 23) hX ⟨rfl, rfl⟩ rfl (v_load hX.st rfl tab_ok rfl rfl rfl foc2 rfl) ?_; clear hX; intro a w hX) | (refine y_read (d := 23) hX ⟨rfl, rfl⟩ rfl (v_load hX.st rfl tab_ok rfl rfl rfl foc3 rfl) ?_; clear hX; intro a w hX) | (refine y_read (d := 23) hX ⟨rfl, rfl⟩ rfl (v_load hX.st rfl tab_ok rfl rfl rfl foc4 rfl) ?_; clear hX; intro a w hX) | (refine y_read (d := 23) hX ⟨rfl, rfl⟩ rfl (v_load hX.st rfl tab_ok rfl rfl rfl foc5 rfl) ?_; clear hX; intro a w hX) | (refine y_read (d := 23) hX ⟨rfl, rfl⟩ rfl (v_load hX.st rfl tab_ok rfl rfl rfl foc6 rfl) ?_; clear hX; intro a w hX) | (refine y_read (d := 23) hX ⟨rfl, rfl⟩ rfl (v_load hX.st rfl tab_ok rfl rfl rfl foc7 rfl) ?_; clear hX; intro a w hX) | (refine y_read (d := 23) hX ⟨rfl, rfl⟩ rfl (v_load hX.st rfl tab_ok rfl rfl rfl foc8 rfl) ?_; clear hX; intro a w hX) | (refine y_read (d := 23) hX ⟨rfl, rfl⟩ rfl (v_load hX.st rfl tab_ok rfl rfl rfl foc9 rfl) ?_; clear hX; intro a w hX) | (refine y_read (d := 23) hX ⟨rfl, rfl⟩ rfl (v_load hX.st rfl tab_ok rfl rfl rfl foc10 rfl) ?_; clear hX; intro a w hX) | (refine y_read (d := 23) hX ⟨rfl, rfl⟩ rfl (v_load hX.st rfl tab_ok rfl rfl rfl foc11 rfl) ?_; clear hX; intro a w hX) | (refine y_read (d := 23) hX ⟨rfl, rfl⟩ rfl (v_load hX.st rfl tab_ok rfl rfl rfl foc12 rfl) ?_; clear hX; intro a w hX) | (refine y_read (d := 23) hX ⟨rfl, rfl⟩ rfl (v_load_old hX.st rfl tab_ok rfl rfl rfl (by assumption) (by assumption)) ?_; clear hX; intro a w hX))) | (refine y_guardU hX rfl rfl rfl rfl rfl ?_; clear hX; intro a w hX) | ((refine y_gsplit hX rfl rfl rfl ?_ ?_) <;> intro hg <;> first | (refine y_guard0 hX rfl rfl rfl (by first | with_reducible rfl | with_reducible assumption | exact beq_self_eq_true _ | exact bne_self_eq_false _ | (show _ = true; with_reducible first | rfl | assumption) | (show _ = false; with_reducible first | rfl | assumption) | decide) rfl rfl ?_; clear hX; intro a w hX) | ((refine y_guard1 hX rfl rfl rfl (by first | with_reducible rfl | with_reducible assumption | exact beq_self_eq_true _ | exact bne_self_eq_false _ | (show _ = true; with_reducible first | rfl | assumption) | (show _ = false; with_reducible first | rfl | assumption) | decide) ?_); (first | (refine y_read (d := 23) hX ⟨rfl, rfl⟩ rfl (v_load hX.st rfl tab_ok rfl rfl rfl foc0 rfl) ?_; clear hX; intro a w hX) | (refine y_read (d := 23) hX ⟨rfl, rfl⟩ rfl (v_load hX.st rfl tab_ok rfl rfl rfl foc1 rfl) ?_; clear hX; intro a w hX) | (refine y_read (d := 23) hX ⟨rfl, rfl⟩ rfl (v_load hX.st rfl tab_ok rfl rfl rfl foc2 rfl) ?_; clear hX; intro a w hX) | (refine y_read (d := 23) hX ⟨rfl, rfl⟩ rfl (v_load hX.st rfl tab_ok rfl rfl rfl foc3 rfl) ?_; clear hX; intro a w hX) | (refine y_read (d := 23) hX ⟨rfl, rfl⟩ rfl (v_load hX.st rfl tab_ok rfl rfl rfl foc4 rfl) ?_; clear hX; intro a w hX) | (refine y_read (d := 23) hX ⟨rfl, rfl⟩ rfl (v_load hX.st rfl tab_ok rfl rfl rfl foc5 rfl) ?_; clear hX; intro a w hX) | (refine y_read (d := 23) hX ⟨rfl, rfl⟩ rfl (v_load hX.st rfl tab_ok rfl rfl rfl foc6 rfl) ?_; clear hX; intro a w hX) | (refine y_read (d := 23) hX ⟨rfl, rfl⟩ rfl (v_load hX.st rfl tab_ok rfl rfl rfl foc7 rfl) ?_; clear hX; intro a w hX) | (refine y_read (d := 23) hX ⟨rfl, rfl⟩ rfl (v_load hX.st rfl tab_ok rfl rfl rfl foc8 rfl) ?_; clear hX; intro a w hX) | (refine y_read (d := 23) hX ⟨rfl, rfl⟩ rfl (v_load hX.st rfl tab_ok rfl rfl rfl foc9 rfl) ?_; clear hX; intro a w hX) | (refine y_read (d := 23) hX ⟨rfl, rfl⟩ rfl (v_load hX.st rfl tab_ok rfl rfl rfl foc10 rfl) ?_; clear hX; intro a w hX) | (refine y_read (d := 23) hX ⟨rfl, rfl⟩ rfl (v_load hX.st rfl tab_ok rfl rfl rfl foc11 rfl) ?_; clear hX; intro a w hX) | (refine y_read (d := 23) hX ⟨rfl, rfl⟩ rfl (v_load hX.st rfl tab_ok rfl rfl rfl foc12 rfl) ?_; clear hX; intro a w hX) | (refine y_read (d := 23) hX ⟨rfl, rfl⟩ rfl (v_load_old hX.st rfl tab_ok rfl rfl rfl (by assumption) (by assumption)) ?_; clear hX; intro a w hX))))))
          all_goals (refine xl_cons ?_; (first | (refine y_guard0 hX rfl rfl rfl (by first | with_reducible rfl | with_reducible assumption | exact beq_self_eq_true _ | exact bne_self_eq_false _ | (show _ = true; with_reducible first | rfl | assumption) | (show _ = false; with_reducible first | rfl | assumption) | decide) rfl rfl ?_; clear hX; intro a w hX) | ((refine y_guard1 hX rfl rfl rfl (by first | with_reducible rfl | with_reducible assumption | exact beq_self_eq_true _ | exact bne_self_eq_false _ | (show _ = true; with_reducible first | rfl | assumption) | (show _ = false; with_reducible first | rfl | assumption) | decide) ?_); ((refine y_pure (d := 24) hX ⟨rfl, rfl⟩ rfl (p_neq hX.st rfl rfl rfl) ?_; clear hX; intro a w hX))) | (refine y_guardU hX rfl rfl rfl rfl rfl ?_; clear hX; intro a w hX) | ((refine y_gsplit hX rfl rfl rfl ?_ ?_) <;> intro hg <;> first | (refine y_guard0 hX rfl rfl rfl (by first | with_reducible rfl | with_reducible assumption | exact beq_self_eq_true _ | exact bne_self_eq_false _ | (show _ = true; with_reducible first | rfl | assumption) | (show _ = false; with_reducible first | rfl | assumption) | decide) rfl rfl ?_; clear hX; intro a w hX) | ((refine y_guard1 hX rfl rfl rfl (by first | with_reducible rfl | with_reducible assumption | exact beq_self_eq_true _ | exact bne_self_eq_false _ | (show _ = true; with_reducible first | rfl | assumption) | (show _ = false; with_reducible first | rfl | assumption) | decide) ?_); ((refine y_pure (d := 24) hX ⟨rfl, rfl⟩ rfl (p_neq hX.st rfl rfl rfl) ?_; clear hX; intro a w hX))))))
          all_goals (refine xl_cons ?_; (first | (refine y_pure (d := 25) hX ⟨rfl, rfl⟩ rfl (p_pick1 hX.st rfl rfl (by first | with_reducible rfl | with_reducible assumption | exact beq_self_eq_true _ | exact bne_self_eq_false _ | (show _ = true; with_reducible first | rfl | assumption) | (show _ = false; with_reducible first | rfl | assumption) | decide) rfl) ?_; clear hX; intro a w hX) | (refine y_pure (d := 25) hX ⟨rfl, rfl⟩ rfl (p_pick0 hX.st rfl rfl (by first | with_reducible rfl | with_reducible assumption | exact beq_self_eq_true _ | exact bne_self_eq_false _ | (show _ = true; with_reducible first | rfl | assumption) | (show _ = false; with_reducible first | rfl | assumption) | decide) rfl) ?_; clear hX; intro a w hX)))
          all_goals (refine xl_cons ?_; ((refine y_pure (d := 26) hX ⟨rfl, rfl⟩ rfl (p_move hX.st rfl rfl) ?_; clear hX; intro a w hX)))
          all_goals (refine xl_cons ?_; (first | (refine y_guard0 hX rfl rfl rfl (by first | with_reducible rfl | with_reducible assumption | exact beq_self_eq_true _ | exact bne_self_eq_false _ | (show _ = true; with_reducible first | rfl | assumption) | (show _ = false; with_reducible first | rfl | assumption) | decide) rfl rfl ?_; clear hX; intro a w hX) | ((refine y_guard1 hX rfl rfl rfl (by first | with_reducible rfl | with_reducible assumption | exact beq_self_eq_true _ | exact bne_self_eq_false _ | (show _ = true; with_reducible first | rfl | assumption) | (show _ = false; with_reducible first | rfl | assumption) | decide) ?_); (first | (refine y_pure (d := 27) hX ⟨rfl, rfl⟩ rfl (p_field0 hX.st rfl tab_ok rfl rfl rfl rfl rfl rfl) ?_; clear hX; intro a w hX) | (refine y_pure (d := 27) hX ⟨rfl, rfl⟩ rfl (p_field hX.st rfl tab_ok rfl rfl rfl rfl rfl rfl) ?_; clear hX; intro a w hX))) | (refine y_guardU hX rfl rfl rfl rfl rfl ?_; clear hX; intro a w hX) | ((refine y_gsplit hX rfl rfl rfl ?_ ?_) <;> intro hg <;> first | (refine y_guard0 hX rfl rfl rfl (by first | with_reducible rfl | with_reducible assumption | exact beq_self_eq_true _ | exact bne_self_eq_false _ | (show _ = true; with_reducible first | rfl | assumption) | (show _ = false; with_reducible first | rfl | assumption) | decide) rfl rfl ?_; clear hX; intro a w hX) | ((refine y_guard1 hX rfl rfl rfl (by first | with_reducible rfl | with_reducible assumption | exact beq_self_eq_true _ | exact bne_self_eq_false _ | (show _ = true; with_reducible first | rfl | assumption) | (show _ = false; with_reducible first | rfl | assumption) | decide) ?_); (first | (refine y_pure (d := 27) hX ⟨rfl, rfl⟩ rfl (p_field0 hX.st rfl tab_ok rfl rfl rfl rfl rfl rfl) ?_; clear hX; intro a w hX) | (refine y_pure (d := 27) hX ⟨rfl, rfl⟩ rfl (p_field hX.st rfl tab_ok rfl rfl rfl rfl rfl rfl) ?_; clear hX; intro a w hX))))))
          all_goals (refine xl_cons ?_; (first | (refine y_guard0 hX rfl rfl rfl (by first | with_reducible rfl | with_reducible assumption | exact beq_self_eq_true _ | exact bne_self_eq_false _ | (show _ = true; with_reducible first | rfl | assumption) | (show _ = false; with_reducible first | rfl | assumption) | decide) rfl rfl ?_; clear hX; intro a w hX) | ((refine y_guard1 hX rfl rfl rfl (by first | with_reducible rfl | with_reducible assumption | exact beq_self_eq_true _ | exact bne_self_eq_false _ | (show _ = true; with_reducible first | rfl | assumption) | (show _ = false; with_reducible first | rfl | assumption) | decide) ?_); (first | (refine y_read (d := 28) hX ⟨rfl, rfl⟩ rfl (v_load hX.st rfl tab_ok rfl rfl rfl foc0 rfl) ?_; clear hX; intro a w hX) | (refine y_read (d := 28) hX ⟨rfl, rfl⟩ rfl (v_load hX.st rfl tab_ok rfl rfl rfl foc1 rfl) ?_; clear hX; intro a w hX) | (refine y_read (d := 28) hX ⟨rfl, rfl⟩ rfl (v_load hX.st rfl tab_ok rfl rfl rfl foc2 rfl) ?_; clear hX; intro a w hX) | (refine y_read (d := 28) hX ⟨rfl, rfl⟩ rfl (v_load hX.st rfl tab_ok rfl rfl rfl foc3 rfl) ?_; clear hX; intro a w hX) | (refine y_read (d := 28) hX ⟨rfl, rfl⟩ rfl (v_load hX.st rfl tab_ok rfl rfl rfl foc4 rfl) ?_; clear hX; intro a w hX) | (refine y_read (d := 28) hX ⟨rfl, rfl⟩ rfl (v_load hX.st rfl tab_ok rfl rfl rfl foc5 rfl) ?_; clear hX; intro a w hX) | (refine y_read (d := 28) hX ⟨rfl, rfl⟩ rfl (v_load hX.st rfl tab_ok rfl rfl rfl foc6 rfl) ?_; clear hX; intro a w hX) | (refine y_read (d := 28) hX ⟨rfl, rfl⟩ rfl (v_load hX.st rfl tab_ok rfl rfl rfl foc7 rfl) ?_; clear hX; intro a w hX) | (refine y_read (d := 28) hX ⟨rfl, rfl⟩ rfl (v_load hX.st rfl tab_ok rfl rfl rfl foc8 rfl) ?_; clear hX; intro a w hX) | (refine y_read (d := 28) hX ⟨rfl, rfl⟩ rfl (v_load hX.st rfl tab_ok rfl rfl rfl foc9 rfl) ?_; clear hX; intro a w hX) | (refine y_read (d := 28) hX ⟨rfl, rfl⟩ rfl (v_load hX.st rfl tab_ok rfl rfl rfl foc10 rfl) ?_; clear hX; intro a w hX) | (refine y_read (d := 28) hX ⟨rfl, rfl⟩ rfl (v_load hX.st rfl tab_ok rfl rfl rfl foc11 rfl) ?_; clear hX; intro a w hX) | (refine y_read (d := 28) hX ⟨rfl, rfl⟩ rfl (v_load hX.st rfl tab_ok rfl rfl rfl foc12 rfl) ?_; clear hX; intro a w hX) | (refine y_read (d := 28) hX ⟨rfl, rfl⟩ rfl (v_load_old hX.st rfl tab_ok rfl rfl rfl (by assumption) (by assumption)) ?_; clear hX; intro a w hX))) | (refine y_guardU hX rfl rfl rfl rfl rfl ?_; clear hX; intro a w hX) | ((refine y_gsplit hX rfl rfl rfl ?_ ?_) <;> intro hg <;> first | (refine y_guard0 hX rfl rfl rfl (by first | with_reducible rfl | with_reducible assumption | exact beq_self_eq_true _ | exact bne_self_eq_false _ | (show _ = true; with_reducible first | rfl | assumption) | (show _ = false; with_reducible first | rfl | assumption) | decide) rfl rfl ?_; clear hX; intro a w hX) | ((refine y_guard1 hX rfl rfl rfl (by first | with_reducible rfl | with_reducible assumption | exact beq_self_eq_true _ | exact bne_self_eq_false _ | (show _ = true; with_reducible first | rfl | assumption) | (show _ = false; with_reducible first | rfl | assumption) | decide) ?_); (first | (refine y_read (d := 28) hX ⟨rfl, rfl⟩ rfl (v_load hX.st rfl tab_ok rfl rfl rfl foc0 rfl) ?_; clear hX; intro a w hX) | (refine y_read (d := 28) hX ⟨rfl, rfl⟩ rfl (v_load hX.st rfl tab_ok rfl rfl rfl foc1 rfl) ?_; clear hX; intro a w hX) | (refine y_read (d := 28) hX ⟨rfl, rfl⟩ rfl (v_load hX.st rfl tab_ok rfl rfl rfl foc2 rfl) ?_; clear hX; intro a w hX) | (refine y_read (d := 28) hX ⟨rfl, rfl⟩ rfl (v_load hX.st rfl tab_ok rfl rfl rfl foc3 rfl) ?_; clear hX; intro a w hX) | (refine y_read (d := 28) hX ⟨rfl, rfl⟩ rfl (v_load hX.st rfl tab_ok rfl rfl rfl foc4 rfl) ?_; clear hX; intro a w hX) | (refine y_read (d := 28) hX ⟨rfl, rfl⟩ rfl (v_load hX.st rfl tab_ok rfl rfl rfl foc5 rfl) ?_; clear hX; intro a w hX) | (refine y_read (d := 28) hX ⟨rfl, rfl⟩ rfl (v_load hX.st rfl tab_ok rfl rfl rfl foc6 rfl) ?_; clear hX; intro a w hX) | (refine y_read (d := 28) hX ⟨rfl, rfl⟩ rfl (v_load hX.st rfl tab_ok rfl rfl rfl foc7 rfl) ?_; clear hX; intro a w hX) | (refine y_read (d := 28) hX ⟨rfl, rfl⟩ rfl (v_load hX.st rfl tab_ok rfl rfl rfl foc8 rfl) ?_; clear hX; intro a w hX) | (refine y_read (d := 28) hX ⟨rfl, rfl⟩ rfl (v_load hX.st rfl tab_ok rfl rfl rfl foc9 rfl) ?_; clear hX; intro a w hX) | (refine y_read (d := 28) hX ⟨rfl, rfl⟩ rfl (v_load hX.st rfl tab_ok rfl rfl rfl foc10 rfl) ?_; clear hX; intro a w hX) | (refine y_read (d := 28) hX ⟨rfl, rfl⟩ rfl (v_load hX.st rfl tab_ok rfl rfl rfl foc11 rfl) ?_; clear hX; intro a w hX) | (refine y_read (d := 28) hX ⟨rfl, rfl⟩ rfl (v_load hX.st rfl tab_ok rfl rfl rfl foc12 rfl) ?_; clear hX; intro a w hX) | (refine y_read (d := 28) hX ⟨rfl, rfl⟩ rfl (v_load_old hX.st rfl tab_ok rfl rfl rfl (by assumption) (by assumption)) ?_; clear hX; intro a w hX))))))
          all_goals (refine xl_cons ?_; (first | (refine y_guard0 hX rfl rfl rfl (by first | with_reducible rfl | with_reducible assumption | exact beq_self_eq_true _ | exact bne_self_eq_false _ | (show _ = true; with_reducible first | rfl | assumption) | (show _ = false; with_reducible first | rfl | assumption) | decide) rfl rfl ?_; clear hX; intro a w hX) | ((refine y_guard1 hX rfl rfl rfl (by first | with_reducible rfl | with_reducible assumption | exact beq_self_eq_true _ | exact bne_self_eq_false _ | (show _ = true; with_reducible first | rfl | assumption) | (show _ = false; with_reducible first | rfl | assumption) | decide) ?_); ((refine y_pure (d := 29) hX ⟨rfl, rfl⟩ rfl (p_not hX.st rfl rfl) ?_; clear hX; intro a w hX))) | (refine y_guardU hX rfl rfl rfl rfl rfl ?_; clear hX; intro a w hX) | ((refine y_gsplit hX rfl rfl rfl ?_ ?_) <;> intro hg <;> first | (refine y_guard0 hX rfl rfl rfl (by first | with_reducible rfl | with_reducible assumption | exact beq_self_eq_true _ | exact bne_self_eq_false _ | (show _ = true; with_reducible first | rfl | assumption) | (show _ = false; with_reducible first | rfl | assumption) | decide) rfl rfl ?_; clear hX; intro a w hX) | ((refine y_guard1 hX rfl rfl rfl (by first | with_reducible rfl | with_reducible assumption | exact beq_self_eq_true _ | exact bne_self_eq_false _ | (show _ = true; with_reducible first | rfl | assumption) | (show _ = false; with_reducible first | rfl | assumption) | decide) ?_); ((refine y_pure (d := 29) hX ⟨rfl, rfl⟩ rfl (p_not hX.st rfl rfl) ?_; clear hX; intro a w hX))))))
          all_goals (refine xl_cons ?_; (first | (refine y_guard0 hX rfl rfl rfl (by first | with_reducible rfl | with_reducible assumption | exact beq_self_eq_true _ | exact bne_self_eq_false _ | (show _ = true; with_reducible first | rfl | assumption) | (show _ = false; with_reducible first | rfl | assumption) | decide) rfl rfl ?_; clear hX; intro a w hX) | ((refine y_guard1 hX rfl rfl rfl (by first | with_reducible rfl | with_reducible assumption | exact beq_self_eq_true _ | exact bne_self_eq_false _ | (show _ = true; with_reducible first | rfl | assumption) | (show _ = false; with_reducible first | rfl | assumption) | decide) ?_); ((refine y_pure (d := 30) hX ⟨rfl, rfl⟩ rfl (p_move hX.st rfl rfl) ?_; clear hX; intro a w hX))) | (refine y_guardU hX rfl rfl rfl rfl rfl ?_; clear hX; intro a w hX) | ((refine y_gsplit hX rfl rfl rfl ?_ ?_) <;> intro hg <;> first | (refine y_guard0 hX rfl rfl rfl (by first | with_reducible rfl | with_reducible assumption | exact beq_self_eq_true _ | exact bne_self_eq_false _ | (show _ = true; with_reducible first | rfl | assumption) | (show _ = false; with_reducible first | rfl | assumption) | decide) rfl rfl ?_; clear hX; intro a w hX) | ((refine y_guard1 hX rfl rfl rfl (by first | with_reducible rfl | with_reducible assumption | exact beq_self_eq_true _ | exact bne_self_eq_false _ | (show _ = true; with_reducible first | rfl | assumption) | (show _ = false; with_reducible first | rfl | assumption) | decide) ?_); ((refine y_pure (d := 30) hX ⟨rfl, rfl⟩ rfl (p_move hX.st rfl rfl) ?_; clear hX; intro a w hX))))))
          all_goals (refine xl_cons ?_; (first | (refine y_guard0 hX rfl rfl rfl (by first | with_reducible rfl | with_reducible assumption | exact beq_self_eq_true _ | exact bne_self_eq_false _ | (show _ = true; with_reducible first | rfl | assumption) | (show _ = false; with_reducible first | rfl | assumption) | decide) rfl rfl ?_; clear hX; intro a w hX) | ((refine y_guard1 hX rfl rfl rfl (by first | with_reducible rfl | with_reducible assumption | exact beq_self_eq_true _ | exact bne_self_eq_false _ | (show _ = true; with_reducible first | rfl | assumption) | (show _ = false; with_reducible first | rfl | assumption) | decide) ?_); (first | (refine y_pure (d := 31) hX ⟨rfl, rfl⟩ rfl (p_field0 hX.st rfl tab_ok rfl rfl rfl rfl rfl rfl) ?_; clear hX; intro a w hX) | (refine y_pure (d := 31) hX ⟨rfl, rfl⟩ rfl (p_field hX.st rfl tab_ok rfl rfl rfl rfl rfl rfl) ?_; clear hX; intro a w hX))) | (refine y_guardU hX rfl rfl rfl rfl rfl ?_; clear hX; intro a w hX) | ((refine y_gsplit hX rfl rfl rfl ?_ ?_) <;> intro hg <;> first | (refine y_guard0 hX rfl rfl rfl (by first | with_reducible rfl | with_reducible assumption | exact beq_self_eq_true _ | exact bne_self_eq_false _ | (show _ = true; with_reducible first | rfl | assumption) | (show _ = false; with_reducible first | rfl | assumption) | decide) rfl rfl ?_; clear hX; intro a w hX) | ((refine y_guard1 hX rfl rfl rfl (by first | with_reducible rfl | with_reducible assumption | exact beq_self_eq_true _ | exact bne_self_eq_false _ | (show _ = true; with_reducible first | rfl | assumption) | (show _ = false; with_reducible first | rfl | assumption) | decide) ?_); (first | (refine y_pure (d := 31) hX ⟨rfl, rfl⟩ rfl (p_field0 hX.st rfl tab_ok rfl rfl rfl rfl rfl rfl) ?_; clear hX; intro a w hX) | (refine y_pure (d := 31) hX ⟨rfl, rfl⟩ rfl (p_field hX.st rfl tab_ok rfl rfl rfl rfl rfl rfl) ?_; clear hX; intro a w hX))))))
          all_goals (refine xl_cons ?_; (first | (refine y_guard0 hX rfl rfl rfl (by first | with_reducible rfl | with_reducible assumption | exact beq_self_eq_true _ | exact bne_self_eq_false _ | (show _ = true; with_reducible first | rfl | assumption) | (show _ = false; with_reducible first | rfl | assumption) | decide) rfl rfl ?_; clear hX; intro a w hX) | ((refine y_guard1 hX rfl rfl rfl (by first | with_reducible rfl | with_reducible assumption | exact beq_self_eq_true _ | exact bne_self_eq_false _ | (show _ = true; with_reducible first | rfl | assumption) | (show _ = false; with_reducible first | rfl | assumption) | decide) ?_); (first | (refine y_read (d := 32) hX ⟨rfl, rfl⟩ rfl (v_load hX.st rfl tab_ok rfl rfl rfl foc0 rfl) ?_; clear hX; intro a w hX) | (refine y_read (d := 32) hX ⟨rfl, rfl⟩ rfl (v_load hX.st rfl tab_ok rfl rfl rfl foc1 rfl) ?_; clear hX; intro a w hX) | (refine y_read (d := 32) hX ⟨rfl, rfl⟩ rfl (v_load hX.st rfl tab_ok rfl rfl rfl foc2 rfl) ?_; clear hX; intro a w hX) | (refine y_read (d := 32) hX ⟨rfl, rfl⟩ rfl (v_load hX.st rfl tab_ok rfl rfl rfl foc3 rfl) ?_; clear hX; intro a w hX) | (refine y_read (d := 32) hX ⟨rfl, rfl⟩ rfl (v_load hX.st rfl tab_ok rfl rfl rfl foc4 rfl) ?_; clear hX; intro a w hX) | (refine y_read (d := 32) hX ⟨rfl, rfl⟩ rfl (v_load hX.st rfl tab_ok rfl rfl rfl foc5 rfl) ?_; clear hX; intro a w hX) | (refine y_read (d := 32) hX ⟨rfl, rfl⟩ rfl (v_load hX.st rfl tab_ok rfl rfl rfl foc6 rfl) ?_; clear hX; intro a w hX) | (refine y_read (d := 32) hX ⟨rfl, rfl⟩ rfl (v_load hX.st rfl tab_ok rfl rfl rfl foc7 rfl) ?_; clear hX; intro a w hX) | (refine y_read (d := 32) hX ⟨rfl, rfl⟩ rfl (v_load hX.st rfl tab_ok rfl rfl rfl foc8 rfl) ?_; clear hX; intro a w hX) | (refine y_read (d := 32) hX ⟨rfl, rfl⟩ rfl (v_load hX.st rfl tab_ok rfl rfl rfl foc9 rfl) ?_; clear hX; intro a w hX) | (refine y_read (d := 32) hX ⟨rfl, rfl⟩ rfl (v_load hX.st rfl tab_ok rfl rfl rfl foc10 rfl) ?_; clear hX; intro a w hX) | (refine y_read (d := 32) hX ⟨rfl, rfl⟩ rfl (v_load hX.st rfl tab_ok rfl rfl rfl foc11 rfl) ?_; clear hX; intro a w hX) | (refine y_read (d := 32) hX ⟨rfl, rfl⟩ rfl (v_load hX.st rfl tab_ok rfl rfl rfl foc12 rfl) ?_; clear hX; intro a w hX) | (refine y_read (d := 32) hX ⟨rfl, rfl⟩ rfl (v_load_old hX.st rfl tab_ok rfl rfl rfl (by assumption) (by assumption)) ?_; clear hX; intro a w hX))) | (refine y_guardU hX rfl rfl rfl rfl rfl ?_; clear hX; intro a w hX) | ((refine y_gsplit hX rfl rfl rfl ?_ ?_) <;> intro hg <;> first | (refine y_guard0 hX rfl rfl rfl (by first | with_reducible rfl | with_reducible assumption | exact beq_self_eq_true _ | exact bne_self_eq_false _ | (show _ = true; with_reducible first | rfl | assumption) | (show _ = false; with_reducible first | rfl | assumption) | decide) rfl rfl ?_; clear hX; intro a w hX) | ((refine y_guard1 hX rfl rfl rfl (by first | with_reducible rfl | with_reducible assumption | exact beq_self_eq_true _ | exact bne_self_eq_false _ | (show _ = true; with_reducible first | rfl | assumption) | (show _ = false; with_reducible first | rfl | assumption) | decide) ?_); (first | (refine y_read (d := 32) hX ⟨rfl, rfl⟩ rfl (v_load hX.st rfl tab_ok rfl rfl rfl foc0 rfl) ?_; clear hX; intro a w hX) | (refine y_read (d := 32) hX ⟨rfl, rfl⟩ rfl (v_load hX.st rfl tab_ok rfl rfl rfl foc1 rfl) ?_; clear hX; intro a w hX) | (refine y_read (d := 32) hX ⟨rfl, rfl⟩ rfl (v_load hX.st rfl tab_ok rfl rfl rfl foc2 rfl) ?_; clear hX; intro a w hX) | (refine y_read (d := 32) hX ⟨rfl, rfl⟩ rfl (v_load hX.st rfl tab_ok rfl rfl rfl foc3 rfl) ?_; clear hX; intro a w hX) | (refine y_read (d := 32) hX ⟨rfl, rfl⟩ rfl (v_load hX.st rfl tab_ok rfl rfl rfl foc4 rfl) ?_; clear hX; intro a w hX) | (refine y_read (d := 32) hX ⟨rfl, rfl⟩ rfl (v_load hX.st rfl tab_ok rfl rfl rfl foc5 rfl) ?_; clear hX; intro a w hX) | (refine y_read (d := 32) hX ⟨rfl, rfl⟩ rfl (v_load hX.st rfl tab_ok rfl rfl rfl foc6 rfl) ?_; clear hX; intro a w hX) | (refine y_read (d := 32) hX ⟨rfl, rfl⟩ rfl (v_load hX.st rfl tab_ok rfl rfl rfl foc7 rfl) ?_; clear hX; intro a w hX) | (refine y_read (d := 32) hX ⟨rfl, rfl⟩ rfl (v_load hX.st rfl tab_ok rfl rfl rfl foc8 rfl) ?_; clear hX; intro a w hX) | (refine y_read (d := 32) hX ⟨rfl, rfl⟩ rfl (v_load hX.st rfl tab_ok rfl rfl rfl foc9 rfl) ?_; clear hX; intro a w hX) | (refine y_read (d := 32) hX ⟨rfl, rfl⟩ rfl (v_load hX.st rfl tab_ok rfl rfl rfl foc10 rfl) ?_; clear hX; intro a w hX) | (refine y_read (d := 32) hX ⟨rfl, rfl⟩ rfl (v_load hX.st rfl tab_ok rfl rfl rfl foc11 rfl) ?_; clear hX; intro a w hX) | (refine y_read (d := 32) hX ⟨rfl, rfl⟩ rfl (v_load hX.st rfl tab_ok rfl rfl rfl foc12 rfl) ?_; clear hX; intro a w hX) | (refine y_read (d := 32) hX ⟨rfl, rfl⟩ rfl (v_load_old hX.st rfl tab_ok rfl rfl rfl (by assumption) (by assumption)) ?_; clear hX; intro a w hX))))))
          all_goals (refine xl_cons ?_; (first | (refine y_guard0 hX rfl rfl rfl (by first | with_reducible rfl | with_reducible assumption | exact beq_self_eq_true _ | exact bne_self_eq_false _ | (show _ = true; with_reducible first | rfl | assumption) | (show _ = false; with_reducible first | rfl | assumption) | decide) rfl rfl ?_; clear hX; intro a w hX) | ((refine y_guard1 hX rfl rfl rfl (by first | with_reducible rfl | with_reducible assumption | exact beq_self_eq_true _ | exact bne_self_eq_false _ | (show _ = true; with_reducible first | rfl | assumption) | (show _ = false; with_reducible first | rfl | assumption) | decide) ?_); ((refine y_pure (d := 33) hX ⟨rfl, rfl⟩ rfl (p_neq hX.st rfl rfl rfl) ?_; clear hX; intro a w hX))) | (refine y_guardU hX rfl rfl rfl rfl rfl ?_; clear hX; intro a w hX) | ((refine y_gsplit hX rfl rfl rfl ?_ ?_) <;> intro hg <;> first | (refine y_guard0 hX rfl rfl rfl (by first | with_reducible rfl | with_reducible assumption | exact beq_self_eq_true _ | exact bne_self_eq_false _ | (show _ = true; with_reducible first | rfl | assumption) | (show _ = false; with_reducible first | rfl | assumption) | decide) rfl rfl ?_; clear hX; intro a w hX) | ((refine y_guard1 hX rfl rfl rfl (by first | with_reducible rfl | with_reducible assumption | exact beq_self_eq_true _ | exact bne_self_eq_false _ | (show _ = true; with_reducible first | rfl | assumption) | (show _ = false; with_reducible first | rfl | assumption) | decide) ?_); ((refine y_pure (d := 33) hX ⟨rfl, rfl⟩ rfl (p_neq hX.st rfl rfl rfl) ?_; clear hX; intro a w hX))))))
          all_goals (refine xl_cons ?_; (first | (refine y_guard0 hX rfl rfl rfl (by first | with_reducible rfl | with_reducible assumption | exact beq_self_eq_true _ | exact bne_self_eq_false _ | (show _ = true; with_reducible first | rfl | assumption) | (show _ = false; with_reducible first | rfl | assumption) | decide) rfl rfl ?_; clear hX; intro a w hX) | ((refine y_guard1 hX rfl rfl rfl (by first | with_reducible rfl | with_reducible assumption | exact beq_self_eq_true _ | exact bne_self_eq_false _ | (show _ = true; with_reducible first | rfl | assumption) | (show _ = false; with_reducible first | rfl | assumption) | decide) ?_); (first | (refine y_pure (d := 34) hX ⟨rfl, rfl⟩ rfl (p_pick1 hX.st rfl rfl (by first | with_reducible rfl | with_reducible assumption | exact beq_self_eq_true _ | exact bne_self_eq_false _ | (show _ = true; with_reducible first | rfl | assumption) | (show _ = false; with_reducible first | rfl | assumption) | decide) rfl) ?_; clear hX; intro a w hX) | (refine y_pure (d := 34) hX ⟨rfl, rfl⟩ rfl (p_pick0 hX.st rfl rfl (by first | with_reducible rfl | with_reducible assumption | exact beq_self_eq_true _ | exact bne_self_eq_false _ | (show _ = true; with_reducible first | rfl | assumption) | (show _ = false; with_reducible first | rfl | assumption) | decide) rfl) ?_; clear hX; intro a w hX))) | (refine y_guardU hX rfl rfl rfl rfl rfl ?_; clear hX; intro a w hX) | ((refine y_gsplit hX rfl rfl rfl ?_ ?_) <;> intro hg <;> first | (refine y_guard0 hX rfl rfl rfl (by first | with_reducible rfl | with_reducible assumption | exact beq_self_eq_true _ | exact bne_self_eq_false _ | (show _ = true; with_reducible first | rfl | assumption) | (show _ = false; with_reducible first | rfl | assumption) | decide) rfl rfl ?_; clear hX; intro a w hX) | ((refine y_guard1 hX rfl rfl rfl (by first | with_reducible rfl | with_reducible assumption | exact beq_self_eq_true _ | exact bne_self_eq_false _ | (show _ = true; with_reducible first | rfl | assumption) | (show _ = false; with_reducible first | rfl | assumption) | decide) ?_); (first | (refine y_pure (d := 34) hX ⟨rfl, rfl⟩ rfl (p_pick1 hX.st rfl rfl (by first | with_reducible rfl | with_reducible assumption | exact beq_self_eq_true _ | exact bne_self_eq_false _ | (show _ = true; with_reducible first | rfl | assumption) | (show _ = false; with_reducible first | rfl | assumption) | decide) rfl) ?_; clear hX; intro a w hX) | (refine y_pure (d := 34) hX ⟨rfl, rfl⟩ rfl (p_pick0 hX.st rfl rfl (by first | with_reducible rfl | with_reducible assumption | exact beq_self_eq_true _ | exact bne_self_eq_false _ | (show _ = true; with_reducible first | rfl | assumption) | (show _ = false; with_reducible first | rfl | assumption) | decide) rfl) ?_; clear hX; intro a w hX))))))
          all_goals (refine xl_cons ?_; (first | (refine y_pure (d := 35) hX ⟨rfl, rfl⟩ rfl (p_pick1 hX.st rfl rfl (by first | with_reducible rfl | with_reducible assumption | exact beq_self_eq_true _ | exact bne_self_eq_false _ | (show _ = true; with_reducible first | rfl | assumption) | (show _ = false; with_reducible first | rfl | assumption) | decide) rfl) ?_; clear hX; intro a w hX) | (refine y_pure (d := 35) hX ⟨rfl, rfl⟩ rfl (p_pick0 hX.st rfl rfl (by first | with_reducible rfl | with_reducible assumption | exact beq_self_eq_true _ | exact bne_self_eq_false _ | (show _ = true; with_reducible first | rfl | assumption) | (show _ = false; with_reducible first | rfl | assumption) | decide) rfl) ?_; clear hX; intro a w hX)))
          all_goals
            refine x_end ?_
            refine ⟨rfl, ?_⟩
            refine hX.to (Sub.cons (look_bool rfl ?_) (by repeat (first | exact Sub.nil | refine Sub.cons rfl ?_))) (Sel.refl _)
            clear hX
            clear a w
            simp only [bne_iff_ne, ne_eq, bne_eq_false_iff_eq, beq_iff_eq, beq_eq_false_iff_ne, decide_eq_true_eq, decide_eq_false_iff_not, Bool.not_eq_true', Bool.not_eq_false'] at *
            simp_all [dirBad] <;> first | omega | (rw [Bool.eq_iff_iff]; simp; omega) | (rw [Bool.eq_iff_iff]; simp; done)
        ·
          intro a w HM
          have hX := HM
          refine q_then ?_
          refine c_cond hX rfl (fun hc => ?_) (fun hc => ?_)
          ·
            try (first | cases hc | exact (contra_tf hc (by with_reducible assumption)).elim | exact (contra_tf (by with_reducible assumption) hc).elim | exact absurd hc (by decide))
            all_goals
              refine wpIn_seq ?_
              refine c_region ?_
              refine xl_cons ?_; ((refine y_pure (d := 2) hX ⟨rfl, rfl⟩ rfl (p_assign hX.st rfl rfl) ?_; clear hX; intro a w hX))
              refine x_end ?_
              refine q_then ?_
              refine c_ret ?_
              refine q_then_ret ?_
              refine f_ret1 hX Tryd.results52 rfl ⟨congrArg Value.bool ?_, hX.sh.sel Sel.nil⟩
              clear hX a w
              simp only [bne_iff_ne, ne_eq, bne_eq_false_iff_eq, beq_iff_eq, beq_eq_false_iff_ne, decide_eq_true_eq, decide_eq_false_iff_not, Bool.not_eq_true', Bool.not_eq_false'] at *
              simp_all [opPlain] <;> first | omega | (rw [Bool.eq_iff_iff]; simp; omega) | (rw [Bool.eq_iff_iff]; simp; done)
          ·
            try (first | cases hc | exact (contra_tf hc (by with_reducible assumption)).elim | exact (contra_tf (by with_reducible assumption) hc).elim | exact absurd hc (by decide))
            all_goals
              refine c_skip ?_
              refine q_then ?_
              refine wpIn_seq ?_
              refine wpIn_seq ?_
              refine c_cut (fun a w => Sym 84 [] ((54, .bool (needleBad o.kind o.bed o.place)) :: plainL o b g) (fun k => k < W.heap.size) W (plainH o b g) a w) ?_ ?_
              ·
                refine c_region ?_
                refine xl_cons ?_; (first | (refine y_pure (d := 36) hX ⟨rfl, rfl⟩ rfl (p_field0 hX.st rfl tab_ok rfl rfl rfl rfl rfl rfl) ?_; clear hX; intro a w hX) | (refine y_pure (d := 36) hX ⟨rfl, rfl⟩ rfl (p_field hX.st rfl tab_ok rfl rfl rfl rfl rfl rfl) ?_; clear hX; intro a w hX))
                refine xl_cons ?_; (first | (refine y_read (d := 37) hX ⟨rfl, rfl⟩ rfl (v_load hX.st rfl tab_ok rfl rfl rfl foc0 rfl) ?_; clear hX; intro a w hX) | (refine y_read (d := 37) hX ⟨rfl, rfl⟩ rfl (v_load hX.st rfl tab_ok rfl rfl rfl foc1 rfl) ?_; clear hX; intro a w hX) | (refine y_read (d := 37) hX ⟨rfl, rfl⟩ rfl (v_load hX.st rfl tab_ok rfl rfl rfl foc2 rfl) ?_; clear hX; intro a w hX) | (refine y_read (d := 37) hX ⟨rfl, rfl⟩ rfl (v_load hX.st rfl tab_ok rfl rfl rfl foc3 rfl) ?_; clear hX; intro a w hX) | (refine y_read (d := 37) hX ⟨rfl, rfl⟩ rfl (v_load hX.st rfl tab_ok rfl rfl rfl foc4 rfl) ?_; clear hX; intro a w hX) | (refine y_read (d := 37) hX ⟨rfl, rfl⟩ rfl (v_load hX.st rfl tab_ok rfl rfl rfl foc5 rfl) ?_; clear hX; intro a w hX) | (refine y_read (d := 37) hX ⟨rfl, rfl⟩ rfl (v_load hX.st rfl tab_ok rfl rfl rfl foc6 rfl) ?_; clear hX; intro a w hX) | (refine y_read (d := 37) hX ⟨rfl, rfl⟩ rfl (v_load hX.st rfl tab_ok rfl rfl rfl foc7 rfl) ?_; clear hX; intro a w hX) | (refine y_read (d := 37) hX ⟨rfl, rfl⟩ rfl (v_load hX.st rfl tab_ok rfl rfl rfl foc8 rfl) ?_; clear hX; intro a w hX) | (refine y_read (d := 37) hX ⟨rfl, rfl⟩ rfl (v_load hX.st rfl tab_ok rfl rfl rfl foc9 rfl) ?_; clear hX; intro a w hX) | (refine y_read (d := 37) hX ⟨rfl, rfl⟩ rfl (v_load hX.st rfl tab_ok rfl rfl rfl foc10 rfl) ?_; clear hX; intro a w hX) | (refine y_read (d := 37) hX ⟨rfl, rfl⟩ rfl (v_load hX.st rfl tab_ok rfl rfl rfl foc11 rfl) ?_; clear hX; intro a w hX) | (refine y_read (d := 37) hX ⟨rfl, rfl⟩ rfl (v_load hX.st rfl tab_ok rfl rfl rfl foc12 rfl) ?_; clear hX; intro a w hX) | (refine y_read (d := 37) hX ⟨rfl, rfl⟩ rfl (v_load_old hX.st rfl tab_ok rfl rfl rfl (by assumption) (by assumption)) ?_; clear hX; intro a w hX))
                refine xl_cons ?_; ((refine y_pure (d := 38) hX ⟨rfl, rfl⟩ rfl (p_move hX.st rfl rfl) ?_; clear hX; intro a w hX))
                all_goals (refine xl_cons ?_; (first | (refine y_guard0 hX rfl rfl rfl (by first | with_reducible rfl | with_reducible assumption | exact beq_self_eq_true _ | exact bne_self_eq_false _ | (show _ = true; with_reducible first | rfl | assumption) | (show _ = false; with_reducible first | rfl | assumption) | decide) rfl rfl ?_; clear hX; intro a w hX) | ((refine y_guard1 hX rfl rfl rfl (by first | with_reducible rfl | with_reducible assumption | exact beq_self_eq_true _ | exact bne_self_eq_false _ | (show _ = true; with_reducible first | rfl | assumption) | (show _ = false; with_reducible first | rfl | assumption) | decide) ?_); (first | (refine y_pure (d := 39) hX ⟨rfl, rfl⟩ rfl (p_field0 hX.st rfl tab_ok rfl rfl rfl rfl rfl rfl) ?_; clear hX; intro a w hX) | (refine y_pure (d := 39) hX ⟨rfl, rfl⟩ rfl (p_field hX.st rfl tab_ok rfl rfl rfl rfl rfl rfl) ?_; clear hX; intro a w hX))) | (refine y_guardU hX rfl rfl rfl rfl rfl ?_; clear hX; intro a w hX) | ((refine y_gsplit hX rfl rfl rfl ?_ ?_) <;> intro hg <;> first | (refine y_guard0 hX rfl rfl rfl (by first | with_reducible rfl | with_reducible assumption | exact beq_self_eq_true _ | exact bne_self_eq_false _ | (show _ = true; with_reducible first | rfl | assumption) | (show _ = false; with_reducible first | rfl | assumption) | decide) rfl rfl ?_; clear hX; intro a w hX) | ((refine y_guard1 hX rfl rfl rfl (by first | with_reducible rfl | with_reducible assumption | exact beq_self_eq_true _ | exact bne_self_eq_false _ | (show _ = true; with_reducible first | rfl | assumption) | (show _ = false; with_reducible first | rfl | assumption) | decide) ?_); (first | (refine y_pure (d := 39) hX ⟨rfl, rfl⟩ rfl (p_field0 hX.st rfl tab_ok rfl rfl rfl rfl rfl rfl) ?_; clear hX; intro a w hX) | (refine y_pure (d := 39) hX ⟨rfl, rfl⟩ rfl (p_field hX.st rfl tab_ok rfl rfl rfl rfl rfl rfl) ?_; clear hX; intro a w hX))))))
                all_goals (refine xl_cons ?_; (first | (refine y_guard0 hX rfl rfl rfl (by first | with_reducible rfl | with_reducible assumption | exact beq_self_eq_true _ | exact bne_self_eq_false _ | (show _ = true; with_reducible first | rfl | assumption) | (show _ = false; with_reducible first | rfl | assumption) | decide) rfl rfl ?_; clear hX; intro a w hX) | ((refine y_guard1 hX rfl rfl rfl (by first | with_reducible rfl | with_reducible assumption | exact beq_self_eq_true _ | exact bne_self_eq_false _ | (show _ = true; with_reducible first | rfl | assumption) | (show _ = false; with_reducible first | rfl | assumption) | decide) ?_); (first | (refine y_read (d := 40) hX ⟨rfl, rfl⟩ rfl (v_load_whole hX.st rfl tab_ok rfl rfl rfl foc0 rfl) ?_; clear hX; intro a w hX) | (refine y_read (d := 40) hX ⟨rfl, rfl⟩ rfl (v_load_whole hX.st rfl tab_ok rfl rfl rfl foc1 rfl) ?_; clear hX; intro a w hX) | (refine y_read (d := 40) hX ⟨rfl, rfl⟩ rfl (v_load_whole hX.st rfl tab_ok rfl rfl rfl foc2 rfl) ?_; clear hX; intro a w hX) | (refine y_read (d := 40) hX ⟨rfl, rfl⟩ rfl (v_load_whole hX.st rfl tab_ok rfl rfl rfl foc3 rfl) ?_; clear hX; intro a w hX) | (refine y_read (d := 40) hX ⟨rfl, rfl⟩ rfl (v_load_whole hX.st rfl tab_ok rfl rfl rfl foc4 rfl) ?_; clear hX; intro a w hX) | (refine y_read (d := 40) hX ⟨rfl, rfl⟩ rfl (v_load_whole hX.st rfl tab_ok rfl rfl rfl foc5 rfl) ?_; clear hX; intro a w hX) | (refine y_read (d := 40) hX ⟨rfl, rfl⟩ rfl (v_load_whole hX.st rfl tab_ok rfl rfl rfl foc6 rfl) ?_; clear hX; intro a w hX) | (refine y_read (d := 40) hX ⟨rfl, rfl⟩ rfl (v_load_whole hX.st rfl tab_ok rfl rfl rfl foc7 rfl) ?_; clear hX; intro a w hX) | (refine y_read (d := 40) hX ⟨rfl, rfl⟩ rfl (v_load_whole hX.st rfl tab_ok rfl rfl rfl foc8 rfl) ?_; clear hX; intro a w hX) | (refine y_read (d := 40) hX ⟨rfl, rfl⟩ rfl (v_load_whole hX.st rfl tab_ok rfl rfl rfl foc9 rfl) ?_; clear hX; intro a w hX) | (refine y_read (d := 40) hX ⟨rfl, rfl⟩ rfl (v_load_whole hX.st rfl tab_ok rfl rfl rfl foc10 rfl) ?_; clear hX; intro a w hX) | (refine y_read (d := 40) hX ⟨rfl, rfl⟩ rfl (v_load_whole hX.st rfl tab_ok rfl rfl rfl foc11 rfl) ?_; clear hX; intro a w hX) | (refine y_read (d := 40) hX ⟨rfl, rfl⟩ rfl (v_load_whole hX.st rfl tab_ok rfl rfl rfl foc12 rfl) ?_; clear hX; intro a w hX) | (refine y_read (d := 40) hX ⟨rfl, rfl⟩ rfl (v_load_two hX.st rfl tab_ok rfl rfl rfl foc0 rfl rfl rfl) ?_; clear hX; intro a w hX) | (refine y_read (d := 40) hX ⟨rfl, rfl⟩ rfl (v_load_two hX.st rfl tab_ok rfl rfl rfl foc1 rfl rfl rfl) ?_; clear hX; intro a w hX) | (refine y_read (d := 40) hX ⟨rfl, rfl⟩ rfl (v_load_two hX.st rfl tab_ok rfl rfl rfl foc2 rfl rfl rfl) ?_; clear hX; intro a w hX) | (refine y_read (d := 40) hX ⟨rfl, rfl⟩ rfl (v_load_two hX.st rfl tab_ok rfl rfl rfl foc3 rfl rfl rfl) ?_; clear hX; intro a w hX) | (refine y_read (d := 40) hX ⟨rfl, rfl⟩ rfl (v_load_two hX.st rfl tab_ok rfl rfl rfl foc4 rfl rfl rfl) ?_; clear hX; intro a w hX) | (refine y_read (d := 40) hX ⟨rfl, rfl⟩ rfl (v_load_two hX.st rfl tab_ok rfl rfl rfl foc5 rfl rfl rfl) ?_; clear hX; intro a w hX) | (refine y_read (d := 40) hX ⟨rfl, rfl⟩ rfl (v_load_two hX.st rfl tab_ok rfl rfl rfl foc6 rfl rfl rfl) ?_; clear hX; intro a w hX) | (refine y_read (d := 40) hX ⟨rfl, rfl⟩ rfl (v_load_two hX.st rfl tab_ok rfl rfl rfl foc7 rfl rfl rfl) ?_; clear hX; intro a w hX) | (refine y_read (d := 40) hX ⟨rfl, rfl⟩ rfl (v_load_two hX.st rfl tab_ok rfl rfl rfl foc8 rfl rfl rfl) ?_; clear hX; intro a w hX) | (refine y_read (d := 40) hX ⟨rfl, rfl⟩ rfl (v_load_two hX.st rfl tab_ok rfl rfl rfl foc9 rfl rfl rfl) ?_; clear hX; intro a w hX) | (refine y_read (d := 40) hX ⟨rfl, rfl⟩ rfl (v_load_two hX.st rfl tab_ok rfl rfl rfl foc10 rfl rfl rfl) ?_; clear hX; intro a w hX) | (refine y_read (d := 40) hX ⟨rfl, rfl⟩ rfl (v_load_two hX.st rfl tab_ok rfl rfl rfl foc11 rfl rfl rfl) ?_; clear hX; intro a w hX) | (refine y_read (d := 40) hX ⟨rfl, rfl⟩ rfl (v_load_two hX.st rfl tab_ok rfl rfl rfl foc12 rfl rfl rfl) ?_; clear hX; intro a w hX))) | (refine y_guardU hX rfl rfl rfl rfl rfl ?_; clear hX; intro a w hX) | ((refine y_gsplit hX rfl rfl rfl ?_ ?_) <;> intro hg <;> first | (refine y_guard0 hX rfl rfl rfl (by first | with_reducible rfl | with_reducible assumption | exact beq_self_eq_true _ | exact bne_self_eq_false _ | (show _ = true; with_reducible first | rfl | assumption) | (show _ = false; with_reducible first | rfl | assumption) | decide) rfl rfl ?_; clear hX; intro a w hX) | ((refine y_guard1 hX rfl rfl rfl (by first | with_reducible rfl | with_reducible assumption | exact beq_self_eq_true _ | exact bne_self_eq_false _ | (show _ = true; with_reducible first | rfl | assumption) | (show _ = false; with_reducible first | rfl | assumption) | decide) ?_); (first | (refine y_read (d := 40) hX ⟨rfl, rfl⟩ rfl (v_load_whole hX.st rfl tab_ok rfl rfl rfl foc0 rfl) ?_; clear hX; intro a w hX) | (refine y_read (d := 40) hX ⟨rfl, rfl⟩ rfl (v_load_whole hX.st rfl tab_ok rfl rfl rfl foc1 rfl) ?_; clear hX; intro a w hX) | (refine y_read (d := 40) hX ⟨rfl, rfl⟩ rfl (v_load_whole hX.st rfl tab_ok rfl rfl rfl foc2 rfl) ?_; clear hX; intro a w hX) | (refine y_read (d := 40) hX ⟨rfl, rfl⟩ rfl (v_load_whole hX.st rfl tab_ok rfl rfl rfl foc3 rfl) ?_; clear hX; intro a w hX) | (refine y_read (d := 40) hX ⟨rfl, rfl⟩ rfl (v_load_whole hX.st rfl tab_ok rfl rfl rfl foc4 rfl) ?_; clear hX; intro a w hX) | (refine y_read (d := 40) hX ⟨rfl, rfl⟩ rfl (v_load_whole hX.st rfl tab_ok rfl rfl rfl foc5 rfl) ?_; clear hX; intro a w hX) | (refine y_read (d := 40) hX ⟨rfl, rfl⟩ rfl (v_load_whole hX.st rfl tab_ok rfl rfl rfl foc6 rfl) ?_; clear hX; intro a w hX) | (refine y_read (d := 40) hX ⟨rfl, rfl⟩ rfl (v_load_whole hX.st rfl tab_ok rfl rfl rfl foc7 rfl) ?_; clear hX; intro a w hX) | (refine y_read (d := 40) hX ⟨rfl, rfl⟩ rfl (v_load_whole hX.st rfl tab_ok rfl rfl rfl foc8 rfl) ?_; clear hX; intro a w hX) | (refine y_read (d := 40) hX ⟨rfl, rfl⟩ rfl (v_load_whole hX.st rfl tab_ok rfl rfl rfl foc9 rfl) ?_; clear hX; intro a w hX) | (refine y_read (d := 40) hX ⟨rfl, rfl⟩ rfl (v_load_whole hX.st rfl tab_ok rfl rfl rfl foc10 rfl) ?_; clear hX; intro a w hX) | (refine y_read (d := 40) hX ⟨rfl, rfl⟩ rfl (v_load_whole hX.st rfl tab_ok rfl rfl rfl foc11 rfl) ?_; clear hX; intro a w hX) | (refine y_read (d := 40) hX ⟨rfl, rfl⟩ rfl (v_load_whole hX.st rfl tab_ok rfl rfl rfl foc12 rfl) ?_; clear hX; intro a w hX) | (refine y_read (d := 40) hX ⟨rfl, rfl⟩ rfl (v_load_two hX.st rfl tab_ok rfl rfl rfl foc0 rfl rfl rfl) ?_; clear hX; intro a w hX) | (refine y_read (d := 40) hX ⟨rfl, rfl⟩ rfl (v_load_two hX.st rfl tab_ok rfl rfl rfl foc1 rfl rfl rfl) ?_; clear hX; intro a w hX) | (refine y_read (d := 40) hX ⟨rfl, rfl⟩ rfl (v_load_two hX.st rfl tab_ok rfl rfl rfl foc2 rfl rfl rfl) ?_; clear hX; intro a w hX) | (refine y_read (d := 40) hX ⟨rfl, rfl⟩ rfl (v_load_two hX.st rfl tab_ok rfl rfl rfl foc3 rfl rfl rfl) ?_; clear hX; intro a w hX) | (refine y_read (d := 40) hX ⟨rfl, rfl⟩ rfl (v_load_two hX.st rfl tab_ok rfl rfl rfl foc4 rfl rfl rfl) ?_; clear hX; intro a w hX) | (refine y_read (d := 40) hX ⟨rfl, rfl⟩ rfl (v_load_two hX.st rfl tab_ok rfl rfl rfl foc5 rfl rfl rfl) ?_; clear hX; intro a w hX) | (refine y_read (d := 40) hX ⟨rfl, rfl⟩ rfl (v_load_two hX.st rfl tab_ok rfl rfl rfl foc6 rfl rfl rfl) ?_; clear hX; intro a w hX) | (refine y_read (d := 40) hX ⟨rfl, rfl⟩ rfl (v_load_two hX.st rfl tab_ok rfl rfl rfl foc7 rfl rfl rfl) ?_; clear hX; intro a w hX) | (refine y_read (d := 40) hX ⟨rfl, rfl⟩ rfl (v_load_two hX.st rfl tab_ok rfl rfl rfl foc8 rfl rfl rfl) ?_; clear hX; intro a w hX) | (refine y_read (d := 40) hX ⟨rfl, rfl⟩ rfl (v_load_two hX.st rfl tab_ok rfl rfl rfl foc9 rfl rfl rfl) ?_; clear hX; intro a w hX) | (refine y_read (d := 40) hX ⟨rfl, rfl⟩ rfl (v_load_two hX.st rfl tab_ok rfl rfl rfl foc10 rfl rfl rfl) ?_; clear hX; intro a w hX) | (refine y_read (d := 40) hX ⟨rfl, rfl⟩ rfl (v_load_two hX.st rfl tab_ok rfl rfl rfl foc11 rfl rfl rfl) ?_; clear hX; intro a w hX) | (refine y_read (d := 40) hX ⟨rfl, rfl⟩ rfl (v_load_two hX.st rfl tab_ok rfl rfl rfl foc12 rfl rfl rfl) ?_; clear hX; intro a w hX))))))
                all_goals (refine xl_cons ?_; (first | (refine y_guard0 hX rfl rfl rfl (by first | with_reducible rfl | with_reducible assumption | exact beq_self_eq_true _ | exact bne_self_eq_false _ | (show _ = true; with_reducible first | rfl | assumption) | (show _ = false; with_reducible first | rfl | assumption) | decide) rfl rfl ?_; clear hX; intro a w hX) | ((refine y_guard1 hX rfl rfl rfl (by first | with_reducible rfl | with_reducible assumption | exact beq_self_eq_true _ | exact bne_self_eq_false _ | (show _ = true; with_reducible first | rfl | assumption) | (show _ = false; with_reducible first | rfl | assumption) | decide) ?_); (refine y_callP (d := 41) hX rfl ⟨rfl, rfl⟩ rfl Tryd.func54 rfl rfl rfl (needles_check _ _ _) ?_; clear hX; intro a w hX)) | (refine y_guardU hX rfl rfl rfl rfl rfl ?_; clear hX; intro a w hX) | ((refine y_gsplit hX rfl rfl rfl ?_ ?_) <;> intro hg <;> first | (refine y_guard0 hX rfl rfl rfl (by first | with_reducible rfl | with_reducible assumption | exact beq_self_eq_true _ | exact bne_self_eq_false _ | (show _ = true; with_reducible first | rfl | assumption) | (show _ = false; with_reducible first | rfl | assumption) | decide) rfl rfl ?_; clear hX; intro a w hX) | ((refine y_guard1 hX rfl rfl rfl (by first | with_reducible rfl | with_reducible assumption | exact beq_self_eq_true _ | exact bne_self_eq_false _ | (show _ = true; with_reducible first | rfl | assumption) | (show _ = false; with_reducible first | rfl | assumption) | decide) ?_); (refine y_callP (d := 41) hX rfl ⟨rfl, rfl⟩ rfl Tryd.func54 rfl rfl rfl (needles_check _ _ _) ?_; clear hX; intro a w hX)))))
                all_goals (refine xl_cons ?_; (first | (refine y_guard0 hX rfl rfl rfl (by first | with_reducible rfl | with_reducible assumption | exact beq_self_eq_true _ | exact bne_self_eq_false _ | (show _ = true; with_reducible first | rfl | assumption) | (show _ = false; with_reducible first | rfl | assumption) | decide) rfl rfl ?_; clear hX; intro a w hX) | ((refine y_guard1 hX rfl rfl rfl (by first | with_reducible rfl | with_reducible assumption | exact beq_self_eq_true _ | exact bne_self_eq_false _ | (show _ = true; with_reducible first | rfl | assumption) | (show _ = false; with_reducible first | rfl | assumption) | decide) ?_); ((refine y_pure (d := 42) hX ⟨rfl, rfl⟩ rfl (p_neq hX.st rfl rfl rfl) ?_; clear hX; intro a w hX))) | (refine y_guardU hX rfl rfl rfl rfl rfl ?_; clear hX; intro a w hX) | ((refine y_gsplit hX rfl rfl rfl ?_ ?_) <;> intro hg <;> first | (refine y_guard0 hX rfl rfl rfl (by first | with_reducible rfl | with_reducible assumption | exact beq_self_eq_true _ | exact bne_self_eq_false _ | (show _ = true; with_reducible first | rfl | assumption) | (show _ = false; with_reducible first | rfl | assumption) | decide) rfl rfl ?_; clear hX; intro a w hX) | ((refine y_guard1 hX rfl rfl rfl (by first | with_reducible rfl | with_reducible assumption | exact beq_self_eq_true _ | exact bne_self_eq_false _ | (show _ = true; with_reducible first | rfl | assumption) | (show _ = false; with_reducible first | rfl | assumption) | decide) ?_); ((refine y_pure (d := 42) hX ⟨rfl, rfl⟩ rfl (p_neq hX.st rfl rfl rfl) ?_; clear hX; intro a w hX))))))
                all_goals (refine xl_cons ?_; (first | (refine y_pure (d := 43) hX ⟨rfl, rfl⟩ rfl (p_pick1 hX.st rfl rfl (by first | with_reducible rfl | with_reducible assumption | exact beq_self_eq_true _ | exact bne_self_eq_false _ | (show _ = true; with_reducible first | rfl | assumption) | (show _ = false; with_reducible first | rfl | assumption) | decide) rfl) ?_; clear hX; intro a w hX) | (refine y_pure (d := 43) hX ⟨rfl, rfl⟩ rfl (p_pick0 hX.st rfl rfl (by first | with_reducible rfl | with_reducible assumption | exact beq_self_eq_true _ | exact bne_self_eq_false _ | (show _ = true; with_reducible first | rfl | assumption) | (show _ = false; with_reducible first | rfl | assumption) | decide) rfl) ?_; clear hX; intro a w hX)))
                all_goals (refine xl_cons ?_; ((refine y_pure (d := 44) hX ⟨rfl, rfl⟩ rfl (p_move hX.st rfl rfl) ?_; clear hX; intro a w hX)))
                all_goals (refine xl_cons ?_; (first | (refine y_guard0 hX rfl rfl rfl (by first | with_reducible rfl | with_reducible assumption | exact beq_self_eq_true _ | exact bne_self_eq_false _ | (show _ = true; with_reducible first | rfl | assumption) | (show _ = false; with_reducible first | rfl | assumption) | decide) rfl rfl ?_; clear hX; intro a w hX) | ((refine y_guard1 hX rfl rfl rfl (by first | with_reducible rfl | with_reducible assumption | exact beq_self_eq_true _ | exact bne_self_eq_false _ | (show _ = true; with_reducible first | rfl | assumption) | (show _ = false; with_reducible first | rfl | assumption) | decide) ?_); (first | (refine y_pure (d := 45) hX ⟨rfl, rfl⟩ rfl (p_field0 hX.st rfl tab_ok rfl rfl rfl rfl rfl rfl) ?_; clear hX; intro a w hX) | (refine y_pure (d := 45) hX ⟨rfl, rfl⟩ rfl (p_field hX.st rfl tab_ok rfl rfl rfl rfl rfl rfl) ?_; clear hX; intro a w hX))) | (refine y_guardU hX rfl rfl rfl rfl rfl ?_; clear hX; intro a w hX) | ((refine y_gsplit hX rfl rfl rfl ?_ ?_) <;> intro hg <;> first | (refine y_guard0 hX rfl rfl rfl (by first | with_reducible rfl | with_reducible assumption | exact beq_self_eq_true _ | exact bne_self_eq_false _ | (show _ = true; with_reducible first | rfl | assumption) | (show _ = false; with_reducible first | rfl | assumption) | decide) rfl rfl ?_; clear hX; intro a w hX) | ((refine y_guard1 hX rfl rfl rfl (by first | with_reducible rfl | with_reducible assumption | exact beq_self_eq_true _ | exact bne_self_eq_false _ | (show _ = true; with_reducible first | rfl | assumption) | (show _ = false; with_reducible first | rfl | assumption) | decide) ?_); (first | (refine y_pure (d := 45) hX ⟨rfl, rfl⟩ rfl (p_field0 hX.st rfl tab_ok rfl rfl rfl rfl rfl rfl) ?_; clear hX; intro a w hX) | (refine y_pure (d := 45) hX ⟨rfl, rfl⟩ rfl (p_field hX.st rfl tab_ok rfl rfl rfl rfl rfl rfl) ?_; clear hX; intro a w hX))))))
                all_goals (refine xl_cons ?_; (first | (refine y_guard0 hX rfl rfl rfl (by first | with_reducible rfl | with_reducible assumption | exact beq_self_eq_true _ | exact bne_self_eq_false _ | (show _ = true; with_reducible first | rfl | assumption) | (show _ = false; with_reducible first | rfl | assumption) | decide) rfl rfl ?_; clear hX; intro a w hX) | ((refine y_guard1 hX rfl rfl rfl (by first | with_reducible rfl | with_reducible assumption | exact beq_self_eq_true _ | exact bne_self_eq_false _ | (show _ = true; with_reducible first | rfl | assumption) | (show _ = false; with_reducible first | rfl | assumption) | decide) ?_); (first | (refine y_read (d := 46) hX ⟨rfl, rfl⟩ rfl (v_load hX.st rfl tab_ok rfl rfl rfl foc0 rfl) ?_; clear hX; intro a w hX) | (refine y_read (d := 46) hX ⟨rfl, rfl⟩ rfl (v_load hX.st rfl tab_ok rfl rfl rfl foc1 rfl) ?_; clear hX; intro a w hX) | (refine y_read (d := 46) hX ⟨rfl, rfl⟩ rfl (v_load hX.st rfl tab_ok rfl rfl rfl foc2 rfl) ?_; clear hX; intro a w hX) | (refine y_read (d := 46) hX ⟨rfl, rfl⟩ rfl (v_load hX.st rfl tab_ok rfl rfl rfl foc3 rfl) ?_; clear hX; intro a w hX) | (refine y_read (d := 46) hX ⟨rfl, rfl⟩ rfl (v_load hX.st rfl tab_ok rfl rfl rfl foc4 rfl) ?_; clear hX; intro a w hX) | (refine y_read (d := 46) hX ⟨rfl, rfl⟩ rfl (v_load hX.st rfl tab_ok rfl rfl rfl foc5 rfl) ?_; clear hX; intro a w hX) | (refine y_read (d := 46) hX ⟨rfl, rfl⟩ rfl (v_load hX.st rfl tab_ok rfl rfl rfl foc6 rfl) ?_; clear hX; intro a w hX) | (refine y_read (d := 46) hX ⟨rfl, rfl⟩ rfl (v_load hX.st rfl tab_ok rfl rfl rfl foc7 rfl) ?_; clear hX; intro a w hX) | (refine y_read (d := 46) hX ⟨rfl, rfl⟩ rfl (v_load hX.st rfl tab_ok rfl rfl rfl foc8 rfl) ?_; clear hX; intro a w hX) | (refine y_read (d := 46) hX ⟨rfl, rfl⟩ rfl (v_load hX.st rfl tab_ok rfl rfl rfl foc9 rfl) ?_; clear hX; intro a w hX) | (refine y_read (d := 46) hX ⟨rfl, rfl⟩ rfl (v_load hX.st rfl tab_ok rfl rfl rfl foc10 rfl) ?_; clear hX; intro a w hX) | (refine y_read (d := 46) hX ⟨rfl, rfl⟩ rfl (v_load hX.st rfl tab_ok rfl rfl rfl foc11 rfl) ?_; clear hX; intro a w hX) | (refine y_read (d := 46) hX ⟨rfl, rfl⟩ rfl (v_load hX.st rfl tab_ok rfl rfl rfl foc12 rfl) ?_; clear hX; intro a w hX) | (refine y_read (d := 46) hX ⟨rfl, rfl⟩ rfl (v_load_old hX.st rfl tab_ok rfl rfl rfl (by assumption) (by assumption)) ?_; clear hX; intro a w hX))) | (refine y_guardU hX rfl rfl rfl rfl rfl ?_; clear hX; intro a w hX) | ((refine y_gsplit hX rfl rfl rfl ?_ ?_) <;> intro hg <;> first | (refine y_guard0 hX rfl rfl rfl (by first | with_reducible rfl | with_reducible assumption | exact beq_self_eq_true _ | exact bne_self_eq_false _ | (show _ = true; with_reducible first | rfl | assumption) | (show _ = false; with_reducible first | rfl | assumption) | decide) rfl rfl ?_; clear hX; intro a w hX) | ((refine y_guard1 hX rfl rfl rfl (by first | with_reducible rfl | with_reducible assumption | exact beq_self_eq_true _ | exact bne_self_eq_false _ | (show _ = true; with_reducible first | rfl | assumption) | (show _ = false; with_reducible first | rfl | assumption) | decide) ?_); (first | (refine y_read (d := 46) hX ⟨rfl, rfl⟩ rfl (v_load hX.st rfl tab_ok rfl rfl rfl foc0 rfl) ?_; clear hX; intro a w hX) | (refine y_read (d := 46) hX ⟨rfl, rfl⟩ rfl (v_load hX.st rfl tab_ok rfl rfl rfl foc1 rfl) ?_; clear hX; intro a w hX) | (refine y_read (d := 46) hX ⟨rfl, rfl⟩ rfl (v_load hX.st rfl tab_ok rfl rfl rfl foc2 rfl) ?_; clear hX; intro a w hX) | (refine y_read (d := 46) hX ⟨rfl, rfl⟩ rfl (v_load hX.st rfl tab_ok rfl rfl rfl foc3 rfl) ?_; clear hX; intro a w hX) | (refine y_read (d := 46) hX ⟨rfl, rfl⟩ rfl (v_load hX.st rfl tab_ok rfl rfl rfl foc4 rfl) ?_; clear hX; intro a w hX) | (refine y_read (d := 46) hX ⟨rfl, rfl⟩ rfl (v_load hX.st rfl tab_ok rfl rfl rfl foc5 rfl) ?_; clear hX; intro a w hX) | (refine y_read (d := 46) hX ⟨rfl, rfl⟩ rfl (v_load hX.st rfl tab_ok rfl rfl rfl foc6 rfl) ?_; clear hX; intro a w hX) | (refine y_read (d := 46) hX ⟨rfl, rfl⟩ rfl (v_load hX.st rfl tab_ok rfl rfl rfl foc7 rfl) ?_; clear hX; intro a w hX) | (refine y_read (d := 46) hX ⟨rfl, rfl⟩ rfl (v_load hX.st rfl tab_ok rfl rfl rfl foc8 rfl) ?_; clear hX; intro a w hX) | (refine y_read (d := 46) hX ⟨rfl, rfl⟩ rfl (v_load hX.st rfl tab_ok rfl rfl rfl foc9 rfl) ?_; clear hX; intro a w hX) | (refine y_read (d := 46) hX ⟨rfl, rfl⟩ rfl (v_load hX.st rfl tab_ok rfl rfl rfl foc10 rfl) ?_; clear hX; intro a w hX) | (refine y_read (d := 46) hX ⟨rfl, rfl⟩ rfl (v_load hX.st rfl tab_ok rfl rfl rfl foc11 rfl) ?_; clear hX; intro a w hX) | (refine y_read (d := 46) hX ⟨rfl, rfl⟩ rfl (v_load hX.st rfl tab_ok rfl rfl rfl foc12 rfl) ?_; clear hX; intro a w hX) | (refine y_read (d := 46) hX ⟨rfl, rfl⟩ rfl (v_load_old hX.st rfl tab_ok rfl rfl rfl (by assumption) (by assumption)) ?_; clear hX; intro a w hX))))))
                all_goals (refine xl_cons ?_; (first | (refine y_guard0 hX rfl rfl rfl (by first | with_reducible rfl | with_reducible assumption | exact beq_self_eq_true _ | exact bne_self_eq_false _ | (show _ = true; with_reducible first | rfl | assumption) | (show _ = false; with_reducible first | rfl | assumption) | decide) rfl rfl ?_; clear hX; intro a w hX) | ((refine y_guard1 hX rfl rfl rfl (by first | with_reducible rfl | with_reducible assumption | exact beq_self_eq_true _ | exact bne_self_eq_false _ | (show _ = true; with_reducible first | rfl | assumption) | (show _ = false; with_reducible first | rfl | assumption) | decide) ?_); ((refine y_pure (d := 47) hX ⟨rfl, rfl⟩ rfl (p_not hX.st rfl rfl) ?_; clear hX; intro a w hX))) | (refine y_guardU hX rfl rfl rfl rfl rfl ?_; clear hX; intro a w hX) | ((refine y_gsplit hX rfl rfl rfl ?_ ?_) <;> intro hg <;> first | (refine y_guard0 hX rfl rfl rfl (by first | with_reducible rfl | with_reducible assumption | exact beq_self_eq_true _ | exact bne_self_eq_false _ | (show _ = true; with_reducible first | rfl | assumption) | (show _ = false; with_reducible first | rfl | assumption) | decide) rfl rfl ?_; clear hX; intro a w hX) | ((refine y_guard1 hX rfl rfl rfl (by first | with_reducible rfl | with_reducible assumption | exact beq_self_eq_true _ | exact bne_self_eq_false _ | (show _ = true; with_reducible first | rfl | assumption) | (show _ = false; with_reducible first | rfl | assumption) | decide) ?_); ((refine y_pure (d := 47) hX ⟨rfl, rfl⟩ rfl (p_not hX.st rfl rfl) ?_; clear hX; intro a w hX))))))
                all_goals (refine xl_cons ?_; (first | (refine y_guard0 hX rfl rfl rfl (by first | with_reducible rfl | with_reducible assumption | exact beq_self_eq_true _ | exact bne_self_eq_false _ | (show _ = true; with_reducible first | rfl | assumption) | (show _ = false; with_reducible first | rfl | assumption) | decide) rfl rfl ?_; clear hX; intro a w hX) | ((refine y_guard1 hX rfl rfl rfl (by first | with_reducible rfl | with_reducible assumption | exact beq_self_eq_true _ | exact bne_self_eq_false _ | (show _ = true; with_reducible first | rfl | assumption) | (show _ = false; with_reducible first | rfl | assumption) | decide) ?_); ((refine y_pure (d := 48) hX ⟨rfl, rfl⟩ rfl (p_move hX.st rfl rfl) ?_; clear hX; intro a w hX))) | (refine y_guardU hX rfl rfl rfl rfl rfl ?_; clear hX; intro a w hX) | ((refine y_gsplit hX rfl rfl rfl ?_ ?_) <;> intro hg <;> first | (refine y_guard0 hX rfl rfl rfl (by first | with_reducible rfl | with_reducible assumption | exact beq_self_eq_true _ | exact bne_self_eq_false _ | (show _ = true; with_reducible first | rfl | assumption) | (show _ = false; with_reducible first | rfl | assumption) | decide) rfl rfl ?_; clear hX; intro a w hX) | ((refine y_guard1 hX rfl rfl rfl (by first | with_reducible rfl | with_reducible assumption | exact beq_self_eq_true _ | exact bne_self_eq_false _ | (show _ = true; with_reducible first | rfl | assumption) | (show _ = false; with_reducible first | rfl | assumption) | decide) ?_); ((refine y_pure (d := 48) hX ⟨rfl, rfl⟩ rfl (p_move hX.st rfl rfl) ?_; clear hX; intro a w hX))))))
                all_goals (refine xl_cons ?_; (first | (refine y_guard0 hX rfl rfl rfl (by first | with_reducible rfl | with_reducible assumption | exact beq_self_eq_true _ | exact bne_self_eq_false _ | (show _ = true; with_reducible first | rfl | assumption) | (show _ = false; with_reducible first | rfl | assumption) | decide) rfl rfl ?_; clear hX; intro a w hX) | ((refine y_guard1 hX rfl rfl rfl (by first | with_reducible rfl | with_reducible assumption | exact beq_self_eq_true _ | exact bne_self_eq_false _ | (show _ = true; with_reducible first | rfl | assumption) | (show _ = false; with_reducible first | rfl | assumption) | decide) ?_); (first | (refine y_pure (d := 49) hX ⟨rfl, rfl⟩ rfl (p_field0 hX.st rfl tab_ok rfl rfl rfl rfl rfl rfl) ?_; clear hX; intro a w hX) | (refine y_pure (d := 49) hX ⟨rfl, rfl⟩ rfl (p_field hX.st rfl tab_ok rfl rfl rfl rfl rfl rfl) ?_; clear hX; intro a w hX))) | (refine y_guardU hX rfl rfl rfl rfl rfl ?_; clear hX; intro a w hX) | ((refine y_gsplit hX rfl rfl rfl ?_ ?_) <;> intro hg <;> first | (refine y_guard0 hX rfl rfl rfl (by first | with_reducible rfl | with_reducible assumption | exact beq_self_eq_true _ | exact bne_self_eq_false _ | (show _ = true; with_reducible first | rfl | assumption) | (show _ = false; with_reducible first | rfl | assumption) | decide) rfl rfl ?_; clear hX; intro a w hX) | ((refine y_guard1 hX rfl rfl rfl (by first | with_reducible rfl | with_reducible assumption | exact beq_self_eq_true _ | exact bne_self_eq_false _ | (show _ = true; with_reducible first | rfl | assumption) | (show _ = false; with_reducible first | rfl | assumption) | decide) ?_); (first | (refine y_pure (d := 49) hX ⟨rfl, rfl⟩ rfl (p_field0 hX.st rfl tab_ok rfl rfl rfl rfl rfl rfl) ?_; clear hX; intro a w hX) | (refine y_pure (d := 49) hX ⟨rfl, rfl⟩ rfl (p_field hX.st rfl tab_ok rfl rfl rfl rfl rfl rfl) ?_; clear hX; intro a w hX))))))
                all_goals (refine xl_cons ?_; (first | (refine y_guard0 hX rfl rfl rfl (by first | with_reducible rfl | with_reducible assumption | exact beq_self_eq_true _ | exact bne_self_eq_false _ | (show _ = true; with_reducible first | rfl | assumption) | (show _ = false; with_reducible first | rfl | assumption) | decide) rfl rfl ?_; clear hX; intro a w hX) | ((refine y_guard1 hX rfl rfl rfl (by first | with_reducible rfl | with_reducible assumption | exact beq_self_eq_true _ | exact bne_self_eq_false _ | (show _ = true; with_reducible first | rfl | assumption) | (show _ = false; with_reducible first | rfl | assumption) | decide) ?_); (first | (refine y_read (d := 50) hX ⟨rfl, rfl⟩ rfl (v_load_whole hX.st rfl tab_ok rfl rfl rfl foc0 rfl) ?_; clear hX; intro a w hX) | (refine y_read (d := 50) hX ⟨rfl, rfl⟩ rfl (v_load_whole hX.st rfl tab_ok rfl rfl rfl foc1 rfl) ?_; clear hX; intro a w hX) | (refine y_read (d := 50) hX ⟨rfl, rfl⟩ rfl (v_load_whole hX.st rfl tab_ok rfl rfl rfl foc2 rfl) ?_; clear hX; intro a w hX) | (refine y_read (d := 50) hX ⟨rfl, rfl⟩ rfl (v_load_whole hX.st rfl tab_ok rfl rfl rfl foc3 rfl) ?_; clear hX; intro a w hX) | (refine y_read (d := 50) hX ⟨rfl, rfl⟩ rfl (v_load_whole hX.st rfl tab_ok rfl rfl rfl foc4 rfl) ?_; clear hX; intro a w hX) | (refine y_read (d := 50) hX ⟨rfl, rfl⟩ rfl (v_load_whole hX.st rfl tab_ok rfl rfl rfl foc5 rfl) ?_; clear hX; intro a w hX) | (refine y_read (d := 50) hX ⟨rfl, rfl⟩ rfl (v_load_whole hX.st rfl tab_ok rfl rfl rfl foc6 rfl) ?_; clear hX; intro a w hX) | (refine y_read (d := 50) hX ⟨rfl, rfl⟩ rfl (v_load_whole hX.st rfl tab_ok rfl rfl rfl foc7 rfl) ?_; clear hX; intro a w hX) | (refine y_read (d := 50) hX ⟨rfl, rfl⟩ rfl (v_load_whole hX.st rfl tab_ok rfl rfl rfl foc8 rfl) ?_; clear hX; intro a w hX) | (refine y_read (d := 50) hX ⟨rfl, rfl⟩ rfl (v_load_whole hX.st rfl tab_ok rfl rfl rfl foc9 rfl) ?_; clear hX; intro a w hX) | (refine y_read (d := 50) hX ⟨rfl, rfl⟩ rfl (v_load_whole hX.st rfl tab_ok rfl rfl rfl foc10 rfl) ?_; clear hX; intro a w hX) | (refine y_read (d := 50) hX ⟨rfl, rfl⟩ rfl (v_load_whole hX.st rfl tab_ok rfl rfl rfl foc11 rfl) ?_; clear hX; intro a w hX) | (refine y_read (d := 50) hX ⟨rfl, rfl⟩ rfl (v_load_whole hX.st rfl tab_ok rfl rfl rfl foc12 rfl) ?_; clear hX; intro a w hX) | (refine y_read (d := 50) hX ⟨rfl, rfl⟩ rfl (v_load_two hX.st rfl tab_ok rfl rfl rfl foc0 rfl rfl rfl) ?_; clear hX; intro a w hX) | (refine y_read (d := 50) hX ⟨rfl, rfl⟩ rfl (v_load_two hX.st rfl tab_ok rfl rfl rfl foc1 rfl rfl rfl) ?_; clear hX; intro a w hX) | (refine y_read (d := 50) hX ⟨rfl, rfl⟩ rfl (v_load_two hX.st rfl tab_ok rfl rfl rfl foc2 rfl rfl rfl) ?_; clear hX; intro a w hX) | (refine y_read (d := 50) hX ⟨rfl, rfl⟩ rfl (v_load_two hX.st rfl tab_ok rfl rfl rfl foc3 rfl rfl rfl) ?_; clear hX; intro a w hX) | (refine y_read (d := 50) hX ⟨rfl, rfl⟩ rfl (v_load_two hX.st rfl tab_ok rfl rfl rfl foc4 rfl rfl rfl) ?_; clear hX; intro a w hX) | (refine y_read (d := 50) hX ⟨rfl, rfl⟩ rfl (v_load_two hX.st rfl tab_ok rfl rfl rfl foc5 rfl rfl rfl) ?_; clear hX; intro a w hX) | (refine y_read (d := 50) hX ⟨rfl, rfl⟩ rfl (v_load_two hX.st rfl tab_ok rfl rfl rfl foc6 rfl rfl rfl) ?_; clear hX; intro a w hX) | (refine y_read (d := 50) hX ⟨rfl, rfl⟩ rfl (v_load_two hX.st rfl tab_ok rfl rfl rfl foc7 rfl rfl rfl) ?_; clear hX; intro a w hX) | (refine y_read (d := 50) hX ⟨rfl, rfl⟩ rfl (v_load_two hX.st rfl tab_ok rfl rfl rfl foc8 rfl rfl rfl) ?_; clear hX; intro a w hX) | (refine y_read (d := 50) hX ⟨rfl, rfl⟩ rfl (v_load_two hX.st rfl tab_ok rfl rfl rfl foc9 rfl rfl rfl) ?_; clear hX; intro a w hX) | (refine y_read (d := 50) hX ⟨rfl, rfl⟩ rfl (v_load_two hX.st rfl tab_ok rfl rfl rfl foc10 rfl rfl rfl) ?_; clear hX; intro a w hX) | (refine y_read (d := 50) hX ⟨rfl, rfl⟩ rfl (v_load_two hX.st rfl tab_ok rfl rfl rfl foc11 rfl rfl rfl) ?_; clear hX; intro a w hX) | (refine y_read (d := 50) hX ⟨rfl, rfl⟩ rfl (v_load_two hX.st rfl tab_ok rfl rfl rfl foc12 rfl rfl rfl) ?_; clear hX; intro a w hX))) | (refine y_guardU hX rfl rfl rfl rfl rfl ?_; clear hX; intro a w hX) | ((refine y_gsplit hX rfl rfl rfl ?_ ?_) <;> intro hg <;> first | (refine y_guard0 hX rfl rfl rfl (by first | with_reducible rfl | with_reducible assumption | exact beq_self_eq_true _ | exact bne_self_eq_false _ | (show _ = true; with_reducible first | rfl | assumption) | (show _ = false; with_reducible first | rfl | assumption) | decide) rfl rfl ?_; clear hX; intro a w hX) | ((refine y_guard1 hX rfl rfl rfl (by first | with_reducible rfl | with_reducible assumption | exact beq_self_eq_true _ | exact bne_self_eq_false _ | (show _ = true; with_reducible first | rfl | assumption) | (show _ = false; with_reducible first | rfl | assumption) | decide) ?_); (first | (refine y_read (d := 50) hX ⟨rfl, rfl⟩ rfl (v_load_whole hX.st rfl tab_ok rfl rfl rfl foc0 rfl) ?_; clear hX; intro a w hX) | (refine y_read (d := 50) hX ⟨rfl, rfl⟩ rfl (v_load_whole hX.st rfl tab_ok rfl rfl rfl foc1 rfl) ?_; clear hX; intro a w hX) | (refine y_read (d := 50) hX ⟨rfl, rfl⟩ rfl (v_load_whole hX.st rfl tab_ok rfl rfl rfl foc2 rfl) ?_; clear hX; intro a w hX) | (refine y_read (d := 50) hX ⟨rfl, rfl⟩ rfl (v_load_whole hX.st rfl tab_ok rfl rfl rfl foc3 rfl) ?_; clear hX; intro a w hX) | (refine y_read (d := 50) hX ⟨rfl, rfl⟩ rfl (v_load_whole hX.st rfl tab_ok rfl rfl rfl foc4 rfl) ?_; clear hX; intro a w hX) | (refine y_read (d := 50) hX ⟨rfl, rfl⟩ rfl (v_load_whole hX.st rfl tab_ok rfl rfl rfl foc5 rfl) ?_; clear hX; intro a w hX) | (refine y_read (d := 50) hX ⟨rfl, rfl⟩ rfl (v_load_whole hX.st rfl tab_ok rfl rfl rfl foc6 rfl) ?_; clear hX; intro a w hX) | (refine y_read (d := 50) hX ⟨rfl, rfl⟩ rfl (v_load_whole hX.st rfl tab_ok rfl rfl rfl foc7 rfl) ?_; clear hX; intro a w hX) | (refine y_read (d := 50) hX ⟨rfl, rfl⟩ rfl (v_load_whole hX.st rfl tab_ok rfl rfl rfl foc8 rfl) ?_; clear hX; intro a w hX) | (refine y_read (d := 50) hX ⟨rfl, rfl⟩ rfl (v_load_whole hX.st rfl tab_ok rfl rfl rfl foc9 rfl) ?_; clear hX; intro a w hX) | (refine y_read (d := 50) hX ⟨rfl, rfl⟩ rfl (v_load_whole hX.st rfl tab_ok rfl rfl rfl foc10 rfl) ?_; clear hX; intro a w hX) | (refine y_read (d := 50) hX ⟨rfl, rfl⟩ rfl (v_load_whole hX.st rfl tab_ok rfl rfl rfl foc11 rfl) ?_; clear hX; intro a w hX) | (refine y_read (d := 50) hX ⟨rfl, rfl⟩ rfl (v_load_whole hX.st rfl tab_ok rfl rfl rfl foc12 rfl) ?_; clear hX; intro a w hX) | (refine y_read (d := 50) hX ⟨rfl, rfl⟩ rfl (v_load_two hX.st rfl tab_ok rfl rfl rfl foc0 rfl rfl rfl) ?_; clear hX; intro a w hX) | (refine y_read (d := 50) hX ⟨rfl, rfl⟩ rfl (v_load_two hX.st rfl tab_ok rfl rfl rfl foc1 rfl rfl rfl) ?_; clear hX; intro a w hX) | (refine y_read (d := 50) hX ⟨rfl, rfl⟩ rfl (v_load_two hX.st rfl tab_ok rfl rfl rfl foc2 rfl rfl rfl) ?_; clear hX; intro a w hX) | (refine y_read (d := 50) hX ⟨rfl, rfl⟩ rfl (v_load_two hX.st rfl tab_ok rfl rfl rfl foc3 rfl rfl rfl) ?_; clear hX; intro a w hX) | (refine y_read (d := 50) hX ⟨rfl, rfl⟩ rfl (v_load_two hX.st rfl tab_ok rfl rfl rfl foc4 rfl rfl rfl) ?_; clear hX; intro a w hX) | (refine y_read (d := 50) hX ⟨rfl, rfl⟩ rfl (v_load_two hX.st rfl tab_ok rfl rfl rfl foc5 rfl rfl rfl) ?_; clear hX; intro a w hX) | (refine y_read (d := 50) hX ⟨rfl, rfl⟩ rfl (v_load_two hX.st rfl tab_ok rfl rfl rfl foc6 rfl rfl rfl) ?_; clear hX; intro a w hX) | (refine y_read (d := 50) hX ⟨rfl, rfl⟩ rfl (v_load_two hX.st rfl tab_ok rfl rfl rfl foc7 rfl rfl rfl) ?_; clear hX; intro a w hX) | (refine y_read (d := 50) hX ⟨rfl, rfl⟩ rfl (v_load_two hX.st rfl tab_ok rfl rfl rfl foc8 rfl rfl rfl) ?_; clear hX; intro a w hX) | (refine y_read (d := 50) hX ⟨rfl, rfl⟩ rfl (v_load_two hX.st rfl tab_ok rfl rfl rfl foc9 rfl rfl rfl) ?_; clear hX; intro a w hX) | (refine y_read (d := 50) hX ⟨rfl, rfl⟩ rfl (v_load_two hX.st rfl tab_ok rfl rfl rfl foc10 rfl rfl rfl) ?_; clear hX; intro a w hX) | (refine y_read (d := 50) hX ⟨rfl, rfl⟩ rfl (v_load_two hX.st rfl tab_ok rfl rfl rfl foc11 rfl rfl rfl) ?_; clear hX; intro a w hX) | (refine y_read (d := 50) hX ⟨rfl, rfl⟩ rfl (v_load_two hX.st rfl tab_ok rfl rfl rfl foc12 rfl rfl rfl) ?_; clear hX; intro a w hX))))))
                all_goals (refine xl_cons ?_; (first | (refine y_guard0 hX rfl rfl rfl (by first | with_reducible rfl | with_reducible assumption | exact beq_self_eq_true _ | exact bne_self_eq_false _ | (show _ = true; with_reducible first | rfl | assumption) | (show _ = false; with_reducible first | rfl | assumption) | decide) rfl rfl ?_; clear hX; intro a w hX) | ((refine y_guard1 hX rfl rfl rfl (by first | with_reducible rfl | with_reducible assumption | exact beq_self_eq_true _ | exact bne_self_eq_false _ | (show _ = true; with_reducible first | rfl | assumption) | (show _ = false; with_reducible first | rfl | assumption) | decide) ?_); ((refine y_pure (d := 51) hX ⟨rfl, rfl⟩ rfl (p_buildR hX.st rfl tab_ok rfl rfl rfl rfl rfl (by repeat (first | exact FillR.nil | apply FillR.one rfl rfl (by (try dsimp only); repeat (first | exact PutAt.nil | apply PutAt.cons | apply PutAt.skip)) | apply FillR.agg rfl rfl (by (try dsimp only); repeat (first | exact PutAt.nil | apply PutAt.cons | apply PutAt.skip))))) ?_; clear hX; intro a w hX))) | (refine y_guardU hX rfl rfl rfl rfl rfl ?_; clear hX; intro a w hX) | ((refine y_gsplit hX rfl rfl rfl ?_ ?_) <;> intro hg <;> first | (refine y_guard0 hX rfl rfl rfl (by first | with_reducible rfl | with_reducible assumption | exact beq_self_eq_true _ | exact bne_self_eq_false _ | (show _ = true; with_reducible first | rfl | assumption) | (show _ = false; with_reducible first | rfl | assumption) | decide) rfl rfl ?_; clear hX; intro a w hX) | ((refine y_guard1 hX rfl rfl rfl (by first | with_reducible rfl | with_reducible assumption | exact beq_self_eq_true _ | exact bne_self_eq_false _ | (show _ = true; with_reducible first | rfl | assumption) | (show _ = false; with_reducible first | rfl | assumption) | decide) ?_); ((refine y_pure (d := 51) hX ⟨rfl, rfl⟩ rfl (p_buildR hX.st rfl tab_ok rfl rfl rfl rfl rfl (by repeat (first | exact FillR.nil | apply FillR.one rfl rfl (by (try dsimp only); repeat (first | exact PutAt.nil | apply PutAt.cons | apply PutAt.skip)) | apply FillR.agg rfl rfl (by (try dsimp only); repeat (first | exact PutAt.nil | apply PutAt.cons | apply PutAt.skip))))) ?_; clear hX; intro a w hX))))))
                all_goals (refine xl_cons ?_; (first | (refine y_guard0 hX rfl rfl rfl (by first | with_reducible rfl | with_reducible assumption | exact beq_self_eq_true _ | exact bne_self_eq_false _ | (show _ = true; with_reducible first | rfl | assumption) | (show _ = false; with_reducible first | rfl | assumption) | decide) rfl rfl ?_; clear hX; intro a w hX) | ((refine y_guard1 hX rfl rfl rfl (by first | with_reducible rfl | with_reducible assumption | exact beq_self_eq_true _ | exact bne_self_eq_false _ | (show _ = true; with_reducible first | rfl | assumption) | (show _ = false; with_reducible first | rfl | assumption) | decide) ?_); ((refine y_pure (d := 52) hX ⟨rfl, rfl⟩ rfl (p_neq_a hX.st rfl rfl rfl (by kernel_rfl) (fun w => by exact eq46 ..)) ?_; clear hX; intro a w hX))) | (refine y_guardU hX rfl rfl rfl rfl rfl ?_; clear hX; intro a w hX) | ((refine y_gsplit hX rfl rfl rfl ?_ ?_) <;> intro hg <;> first | (refine y_guard0 hX rfl rfl rfl (by first | with_reducible rfl | with_reducible assumption | exact beq_self_eq_true _ | exact bne_self_eq_false _ | (show _ = true; with_reducible first | rfl | assumption) | (show _ = false; with_reducible first | rfl | assumption) | decide) rfl rfl ?_; clear hX; intro a w hX) | ((refine y_guard1 hX rfl rfl rfl (by first | with_reducible rfl | with_reducible assumption | exact beq_self_eq_true _ | exact bne_self_eq_false _ | (show _ = true; with_reducible first | rfl | assumption) | (show _ = false; with_reducible first | rfl | assumption) | decide) ?_); ((refine y_pure (d := 52) hX ⟨rfl, rfl⟩ rfl (p_neq_a hX.st rfl rfl rfl (by kernel_rfl) (fun w => by exact eq46 ..)) ?_; clear hX; intro a w hX))))))
                all_goals (refine xl_cons ?_; (first | (refine y_guard0 hX rfl rfl rfl (by first | with_reducible rfl | with_reducible assumption | exact beq_self_eq_true _ | exact bne_self_eq_false _ | (show _ = true; with_reducible first | rfl | assumption) | (show _ = false; with_reducible first | rfl | assumption) | decide) rfl rfl ?_; clear hX; intro a w hX) | ((refine y_guard1 hX rfl rfl rfl (by first | with_reducible rfl | with_reducible assumption | exact beq_self_eq_true _ | exact bne_self_eq_false _ | (show _ = true; with_reducible first | rfl | assumption) | (show _ = false; with_reducible first | rfl | assumption) | decide) ?_); (first | (refine y_pure (d := 53) hX ⟨rfl, rfl⟩ rfl (p_pick1 hX.st rfl rfl (by first | with_reducible rfl | with_reducible assumption | exact beq_self_eq_true _ | exact bne_self_eq_false _ | (show _ = true; with_reducible first | rfl | assumption) | (show _ = false; with_reducible first | rfl | assumption) | decide) rfl) ?_; clear hX; intro a w hX) | (refine y_pure (d := 53) hX ⟨rfl, rfl⟩ rfl (p_pick0 hX.st rfl rfl (by first | with_reducible rfl | with_reducible assumption | exact beq_self_eq_true _ | exact bne_self_eq_false _ | (show _ = true; with_reducible first | rfl | assumption) | (show _ = false; with_reducible first | rfl | assumption) | decide) rfl) ?_; clear hX; intro a w hX))) | (refine y_guardU hX rfl rfl rfl rfl rfl ?_; clear hX; intro a w hX) | ((refine y_gsplit hX rfl rfl rfl ?_ ?_) <;> intro hg <;> first | (refine y_guard0 hX rfl rfl rfl (by first | with_reducible rfl | with_reducible assumption | exact beq_self_eq_true _ | exact bne_self_eq_false _ | (show _ = true; with_reducible first | rfl | assumption) | (show _ = false; with_reducible first | rfl | assumption) | decide) rfl rfl ?_; clear hX; intro a w hX) | ((refine y_guard1 hX rfl rfl rfl (by first | with_reducible rfl | with_reducible assumption | exact beq_self_eq_true _ | exact bne_self_eq_false _ | (show _ = true; with_reducible first | rfl | assumption) | (show _ = false; with_reducible first | rfl | assumption) | decide) ?_); (first | (refine y_pure (d := 53) hX ⟨rfl, rfl⟩ rfl (p_pick1 hX.st rfl rfl (by first | with_reducible rfl | with_reducible assumption | exact beq_self_eq_true _ | exact bne_self_eq_false _ | (show _ = true; with_reducible first | rfl | assumption) | (show _ = false; with_reducible first | rfl | assumption) | decide) rfl) ?_; clear hX; intro a w hX) | (refine y_pure (d := 53) hX ⟨rfl, rfl⟩ rfl (p_pick0 hX.st rfl rfl (by first | with_reducible rfl | with_reducible assumption | exact beq_self_eq_true _ | exact bne_self_eq_false _ | (show _ = true; with_reducible first | rfl | assumption) | (show _ = false; with_reducible first | rfl | assumption) | decide) rfl) ?_; clear hX; intro a w hX))))))
                all_goals (refine xl_cons ?_; (first | (refine y_pure (d := 54) hX ⟨rfl, rfl⟩ rfl (p_pick1 hX.st rfl rfl (by first | with_reducible rfl | with_reducible assumption | exact beq_self_eq_true _ | exact bne_self_eq_false _ | (show _ = true; with_reducible first | rfl | assumption) | (show _ = false; with_reducible first | rfl | assumption) | decide) rfl) ?_; clear hX; intro a w hX) | (refine y_pure (d := 54) hX ⟨rfl, rfl⟩ rfl (p_pick0 hX.st rfl rfl (by first | with_reducible rfl | with_reducible assumption | exact beq_self_eq_true _ | exact bne_self_eq_false _ | (show _ = true; with_reducible first | rfl | assumption) | (show _ = false; with_reducible first | rfl | assumption) | decide) rfl) ?_; clear hX; intro a w hX)))
                all_goals
                  refine x_end ?_
                  refine ⟨rfl, ?_⟩
                  refine hX.to (Sub.cons (look_bool rfl ?_) (by repeat (first | exact Sub.nil | refine Sub.cons rfl ?_))) (by with_reducible (repeat (first | exact Sel.refl _ | exact Sel.nil | refine Sel.cons tk0 ?_ | refine Sel.cons tk1 ?_ | refine Sel.cons tk2 ?_ | refine Sel.cons tk3 ?_ | refine Sel.cons tk4 ?_ | refine Sel.cons tk5 ?_ | refine Sel.cons tk6 ?_ | refine Sel.cons tk7 ?_ | refine Sel.cons tk8 ?_ | refine Sel.cons tk9 ?_ | refine Sel.cons tk10 ?_ | refine Sel.cons tk11 ?_ | refine Sel.cons tk12 ?_)))
                  clear hX a w
                  simp only [bne_iff_ne, ne_eq, bne_eq_false_iff_eq, beq_iff_eq, beq_eq_false_iff_ne, decide_eq_true_eq, decide_eq_false_iff_not, Bool.not_eq_true', Bool.not_eq_false'] at *
                  simp_all [needleBad, needleErr] <;> first | omega | (rw [Bool.eq_iff_iff]; simp; omega) | (rw [Bool.eq_iff_iff]; simp; done)
              ·
                intro a w HM
                have hX := HM
                refine q_then ?_
                refine c_cond hX rfl (fun hc => ?_) (fun hc => ?_)
                ·
                  try (first | cases hc | exact (contra_tf hc (by with_reducible assumption)).elim | exact (contra_tf (by with_reducible assumption) hc).elim | exact absurd hc (by decide))
                  all_goals
                    refine wpIn_seq ?_
                    refine c_region ?_
                    refine xl_cons ?_; ((refine y_pure (d := 2) hX ⟨rfl, rfl⟩ rfl (p_assign hX.st rfl rfl) ?_; clear hX; intro a w hX))
                    refine x_end ?_
                    refine q_then ?_
                    refine c_ret ?_
                    refine q_then_ret ?_
                    refine f_ret1 hX Tryd.results52 rfl ⟨congrArg Value.bool ?_, hX.sh.sel Sel.nil⟩
                    clear hX a w
                    simp only [bne_iff_ne, ne_eq, bne_eq_false_iff_eq, beq_iff_eq, beq_eq_false_iff_ne, decide_eq_true_eq, decide_eq_false_iff_not, Bool.not_eq_true', Bool.not_eq_false'] at *
                    simp_all [opPlain] <;> first | omega | (rw [Bool.eq_iff_iff]; simp; omega) | (rw [Bool.eq_iff_iff]; simp; done)
                ·
                  try (first | cases hc | exact (contra_tf hc (by with_reducible assumption)).elim | exact (contra_tf (by with_reducible assumption) hc).elim | exact absurd hc (by decide))
                  all_goals
                    refine c_skip ?_
                    refine q_then ?_
                    refine wpIn_seq ?_
                    refine wpIn_seq ?_
                    refine c_cut (fun a w => Sym 84 [] ((76, .bool (yarnBad o.kind o.yarn)) :: plainL o b g) (fun k => k < W.heap.size) W (plainH o b g) a w) ?_ ?_
                    ·
                      refine c_region ?_
                      refine xl_cons ?_; (first | (refine y_pure (d := 55) hX ⟨rfl, rfl⟩ rfl (p_field0 hX.st rfl tab_ok rfl rfl rfl rfl rfl rfl) ?_; clear hX; intro a w hX) | (refine y_pure (d := 55) hX ⟨rfl, rfl⟩ rfl (p_field hX.st rfl tab_ok rfl rfl rfl rfl rfl rfl) ?_; clear hX; intro a w hX))
                      refine xl_cons ?_; (first | (refine y_read (d := 56) hX ⟨rfl, rfl⟩ rfl (v_load hX.st rfl tab_ok rfl rfl rfl foc0 rfl) ?_; clear hX; intro a w hX) | (refine y_read (d := 56) hX ⟨rfl, rfl⟩ rfl (v_load hX.st rfl tab_ok rfl rfl rfl foc1 rfl) ?_; clear hX; intro a w hX) | (refine y_read (d := 56) hX ⟨rfl, rfl⟩ rfl (v_load hX.st rfl tab_ok rfl rfl rfl foc2 rfl) ?_; clear hX; intro a w hX) | (refine y_read (d := 56) hX ⟨rfl, rfl⟩ rfl (v_load hX.st rfl tab_ok rfl rfl rfl foc3 rfl) ?_; clear hX; intro a w hX) | (refine y_read (d := 56) hX ⟨rfl, rfl⟩ rfl (v_load hX.st rfl tab_ok rfl rfl rfl foc4 rfl) ?_; clear hX; intro a w hX) | (refine y_read (d := 56) hX ⟨rfl, rfl⟩ rfl (v_load hX.st rfl tab_ok rfl rfl rfl foc5 rfl) ?_; clear hX; intro a w hX) | (refine y_read (d := 56) hX ⟨rfl, rfl⟩ rfl (v_load hX.st rfl tab_ok rfl rfl rfl foc6 rfl) ?_; clear hX; intro a w hX) | (refine y_read (d := 56) hX ⟨rfl, rfl⟩ rfl (v_load hX.st rfl tab_ok rfl rfl rfl foc7 rfl) ?_; clear hX; intro a w hX) | (refine y_read (d := 56) hX ⟨rfl, rfl⟩ rfl (v_load hX.st rfl tab_ok rfl rfl rfl foc8 rfl) ?_; clear hX; intro a w hX) | (refine y_read (d := 56) hX ⟨rfl, rfl⟩ rfl (v_load hX.st rfl tab_ok rfl rfl rfl foc9 rfl) ?_; clear hX; intro a w hX) | (refine y_read (d := 56) hX ⟨rfl, rfl⟩ rfl (v_load hX.st rfl tab_ok rfl rfl rfl foc10 rfl) ?_; clear hX; intro a w hX) | (refine y_read (d := 56) hX ⟨rfl, rfl⟩ rfl (v_load hX.st rfl tab_ok rfl rfl rfl foc11 rfl) ?_; clear hX; intro a w hX) | (refine y_read (d := 56) hX ⟨rfl, rfl⟩ rfl (v_load hX.st rfl tab_ok rfl rfl rfl foc12 rfl) ?_; clear hX; intro a w hX) | (refine y_read (d := 56) hX ⟨rfl, rfl⟩ rfl (v_load_old hX.st rfl tab_ok rfl rfl rfl (by assumption) (by assumption)) ?_; clear hX; intro a w hX))
                      refine xl_cons ?_; ((refine y_pure (d := 57) hX ⟨rfl, rfl⟩ rfl (p_move hX.st rfl rfl) ?_; clear hX; intro a w hX))
                      all_goals (refine xl_cons ?_; (first | (refine y_guard0 hX rfl rfl rfl (by first | with_reducible rfl | with_reducible assumption | exact beq_self_eq_true _ | exact bne_self_eq_false _ | (show _ = true; with_reducible first | rfl | assumption) | (show _ = false; with_reducible first | rfl | assumption) | decide) rfl rfl ?_; clear hX; intro a w hX) | ((refine y_guard1 hX rfl rfl rfl (by first | with_reducible rfl | with_reducible assumption | exact beq_self_eq_true _ | exact bne_self_eq_false _ | (show _ = true; with_reducible first | rfl | assumption) | (show _ = false; with_reducible first | rfl | assumption) | decide) ?_); (first | (refine y_pure (d := 58) hX ⟨rfl, rfl⟩ rfl (p_field0 hX.st rfl tab_ok rfl rfl rfl rfl rfl rfl) ?_; clear hX; intro a w hX) | (refine y_pure (d := 58) hX ⟨rfl, rfl⟩ rfl (p_field hX.st rfl tab_ok rfl rfl rfl rfl rfl rfl) ?_; clear hX; intro a w hX))) | (refine y_guardU hX rfl rfl rfl rfl rfl ?_; clear hX; intro a w hX) | ((refine y_gsplit hX rfl rfl rfl ?_ ?_) <;> intro hg <;> first | (refine y_guard0 hX rfl rfl rfl (by first | with_reducible rfl | with_reducible assumption | exact beq_self_eq_true _ | exact bne_self_eq_false _ | (show _ = true; with_reducible first | rfl | assumption) | (show _ = false; with_reducible first | rfl | assumption) | decide) rfl rfl ?_; clear hX; intro a w hX) | ((refine y_guard1 hX rfl rfl rfl (by first | with_reducible rfl | with_reducible assumption | exact beq_self_eq_true _ | exact bne_self_eq_false _ | (show _ = true; with_reducible first | rfl | assumption) | (show _ = false; with_reducible first | rfl | assumption) | decide) ?_); (first | (refine y_pure (d := 58) hX ⟨rfl, rfl⟩ rfl (p_field0 hX.st rfl tab_ok rfl rfl rfl rfl rfl rfl) ?_; clear hX; intro a w hX) | (refine y_pure (d := 58) hX ⟨rfl, rfl⟩ rfl (p_field hX.st rfl tab_ok rfl rfl rfl rfl rfl rfl) ?_; clear hX; intro a w hX))))))
                      all_goals (refine xl_cons ?_; (first | (refine y_guard0 hX rfl rfl rfl (by first | with_reducible rfl | with_reducible assumption | exact beq_self_eq_true _ | exact bne_self_eq_false _ | (show _ = true; with_reducible first | rfl | assumption) | (show _ = false; with_reducible first | rfl | assumption) | decide) rfl rfl ?_; clear hX; intro a w hX) | ((refine y_guard1 hX rfl rfl rfl (by first | with_reducible rfl | with_reducible assumption | exact beq_self_eq_true _ | exact bne_self_eq_false _ | (show _ = true; with_reducible first | rfl | assumption) | (show _ = false; with_reducible first | rfl | assumption) | decide) ?_); (first | (refine y_read (d := 59) hX ⟨rfl, rfl⟩ rfl (v_load hX.st rfl tab_ok rfl rfl rfl foc0 rfl) ?_; clear hX; intro a w hX) | (refine y_read (d := 59) hX ⟨rfl, rfl⟩ rfl (v_load hX.st rfl tab_ok rfl rfl rfl foc1 rfl) ?_; clear hX; intro a w hX) | (refine y_read (d := 59) hX ⟨rfl, rfl⟩ rfl (v_load hX.st rfl tab_ok rfl rfl rfl foc2 rfl) ?_; clear hX; intro a w hX) | (refine y_read (d := 59) hX ⟨rfl, rfl⟩ rfl (v_load hX.st rfl tab_ok rfl rfl rfl foc3 rfl) ?_; clear hX; intro a w hX) | (refine y_read (d := 59) hX ⟨rfl, rfl⟩ rfl (v_load hX.st rfl tab_ok rfl rfl rfl foc4 rfl) ?_; clear hX; intro a w hX) | (refine y_read (d := 59) hX ⟨rfl, rfl⟩ rfl (v_load hX.st rfl tab_ok rfl rfl rfl foc5 rfl) ?_; clear hX; intro a w hX) | (refine y_read (d := 59) hX ⟨rfl, rfl⟩ rfl (v_load hX.st rfl tab_ok rfl rfl rfl foc6 rfl) ?_; clear hX; intro a w hX) | (refine y_read (d := 59) hX ⟨rfl, rfl⟩ rfl (v_load hX.st rfl tab_ok rfl rfl rfl foc7 rfl) ?_; clear hX; intro a w hX) | (refine y_read (d := 59) hX ⟨rfl, rfl⟩ rfl (v_load hX.st rfl tab_ok rfl rfl rfl foc8 rfl) ?_; clear hX; intro a w hX) | (refine y_read (d := 59) hX ⟨rfl, rfl⟩ rfl (v_load hX.st rfl tab_ok rfl rfl rfl foc9 rfl) ?_; clear hX; intro a w hX) | (refine y_read (d := 59) hX ⟨rfl, rfl⟩ rfl (v_load hX.st rfl tab_ok rfl rfl rfl foc10 rfl) ?_; clear hX; intro a w hX) | (refine y_read (d := 59) hX ⟨rfl, rfl⟩ rfl (v_load hX.st rfl tab_ok rfl rfl rfl foc11 rfl) ?_; clear hX; intro a w hX) | (refine y_read (d := 59) hX ⟨rfl, rfl⟩ rfl (v_load hX.st rfl tab_ok rfl rfl rfl foc12 rfl) ?_; clear hX; intro a w hX) | (refine y_read (d := 59) hX ⟨rfl, rfl⟩ rfl (v_load_old hX.st rfl tab_ok rfl rfl rfl (by assumption) (by assumption)) ?_; clear hX; intro a w hX))) | (refine y_guardU hX rfl rfl rfl rfl rfl ?_; clear hX; intro a w hX) | ((refine y_gsplit hX rfl rfl rfl ?_ ?_) <;> intro hg <;> first | (refine y_guard0 hX rfl rfl rfl (by first | with_reducible rfl | with_reducible assumption | exact beq_self_eq_true _ | exact bne_self_eq_false _ | (show _ = true; with_reducible first | rfl | assumption) | (show _ = false; with_reducible first | rfl | assumption) | decide) rfl rfl ?_; clear hX; intro a w hX) | ((refine y_guard1 hX rfl rfl rfl (by first | with_reducible rfl | with_reducible assumption | exact beq_self_eq_true _ | exact bne_self_eq_false _ | (show _ = true; with_reducible first | rfl | assumption) | (show _ = false; with_reducible first | rfl | assumption) | decide) ?_); (first | (refine y_read (d := 59) hX ⟨rfl, rfl⟩ rfl (v_load hX.st rfl tab_ok rfl rfl rfl foc0 rfl) ?_; clear hX; intro a w hX) | (refine y_read (d := 59) hX ⟨rfl, rfl⟩ rfl (v_load hX.st rfl tab_ok rfl rfl rfl foc1 rfl) ?_; clear hX; intro a w hX) | (refine y_read (d := 59) hX ⟨rfl, rfl⟩ rfl (v_load hX.st rfl tab_ok rfl rfl rfl foc2 rfl) ?_; clear hX; intro a w hX) | (refine y_read (d := 59) hX ⟨rfl, rfl⟩ rfl (v_load hX.st rfl tab_ok rfl rfl rfl foc3 rfl) ?_; clear hX; intro a w hX) | (refine y_read (d := 59) hX ⟨rfl, rfl⟩ rfl (v_load hX.st rfl tab_ok rfl rfl rfl foc4 rfl) ?_; clear hX; intro a w hX) | (refine y_read (d := 59) hX ⟨rfl, rfl⟩ rfl (v_load hX.st rfl tab_ok rfl rfl rfl foc5 rfl) ?_; clear hX; intro a w hX) | (refine y_read (d := 59) hX ⟨rfl, rfl⟩ rfl (v_load hX.st rfl tab_ok rfl rfl rfl foc6 rfl) ?_; clear hX; intro a w hX) | (refine y_read (d := 59) hX ⟨rfl, rfl⟩ rfl (v_load hX.st rfl tab_ok rfl rfl rfl foc7 rfl) ?_; clear hX; intro a w hX) | (refine y_read (d := 59) hX ⟨rfl, rfl⟩ rfl (v_load hX.st rfl tab_ok rfl rfl rfl foc8 rfl) ?_; clear hX; intro a w hX) | (refine y_read (d := 59) hX ⟨rfl, rfl⟩ rfl (v_load hX.st rfl tab_ok rfl rfl rfl foc9 rfl) ?_; clear hX; intro a w hX) | (refine y_read (d := 59) hX ⟨rfl, rfl⟩ rfl (v_load hX.st rfl tab_ok rfl rfl rfl foc10 rfl) ?_; clear hX; intro a w hX) | (refine y_read (d := 59) hX ⟨rfl, rfl⟩ rfl (v_load hX.st rfl tab_ok rfl rfl rfl foc11 rfl) ?_; clear hX; intro a w hX) | (refine y_read (d := 59) hX ⟨rfl, rfl⟩ rfl (v_load hX.st rfl tab_ok rfl rfl rfl foc12 rfl) ?_; clear hX; intro a w hX) | (refine y_read (d := 59) hX ⟨rfl, rfl⟩ rfl (v_load_old hX.st rfl tab_ok rfl rfl rfl (by assumption) (by assumption)) ?_; clear hX; intro a w hX))))))
                      all_goals (refine xl_cons ?_; (first | (refine y_guard0 hX rfl rfl rfl (by first | with_reducible rfl | with_reducible assumption | exact beq_self_eq_true _ | exact bne_self_eq_false _ | (show _ = true; with_reducible first | rfl | assumption) | (show _ = false; with_reducible first | rfl | assumption) | decide) rfl rfl ?_; clear hX; intro a w hX) | ((refine y_guard1 hX rfl rfl rfl (by first | with_reducible rfl | with_reducible assumption | exact beq_self_eq_true _ | exact bne_self_eq_false _ | (show _ = true; with_reducible first | rfl | assumption) | (show _ = false; with_reducible first | rfl | assumption) | decide) ?_); ((refine y_pure (d := 60) hX ⟨rfl, rfl⟩ rfl (p_lss hX.st rfl rfl rfl) ?_; clear hX; intro a w hX))) | (refine y_guardU hX rfl rfl rfl rfl rfl ?_; clear hX; intro a w hX) | ((refine y_gsplit hX rfl rfl rfl ?_ ?_) <;> intro hg <;> first | (refine y_guard0 hX rfl rfl rfl (by first | with_reducible rfl | with_reducible assumption | exact beq_self_eq_true _ | exact bne_self_eq_false _ | (show _ = true; with_reducible first | rfl | assumption) | (show _ = false; with_reducible first | rfl | assumption) | decide) rfl rfl ?_; clear hX; intro a w hX) | ((refine y_guard1 hX rfl rfl rfl (by first | with_reducible rfl | with_reducible assumption | exact beq_self_eq_true _ | exact bne_self_eq_false _ | (show _ = true; with_reducible first | rfl | assumption) | (show _ = false; with_reducible first | rfl | assumption) | decide) ?_); ((refine y_pure (d := 60) hX ⟨rfl, rfl⟩ rfl (p_lss hX.st rfl rfl rfl) ?_; clear hX; intro a w hX))))))
                      all_goals (refine xl_cons ?_; (first | (refine y_guard0 hX rfl rfl rfl (by first | with_reducible rfl | with_reducible assumption | exact beq_self_eq_true _ | exact bne_self_eq_false _ | (show _ = true; with_reducible first | rfl | assumption) | (show _ = false; with_reducible first | rfl | assumption) | decide) rfl rfl ?_; clear hX; intro a w hX) | ((refine y_guard1 hX rfl rfl rfl (by first | with_reducible rfl | with_reducible assumption | exact beq_self_eq_true _ | exact bne_self_eq_false _ | (show _ = true; with_reducible first | rfl | assumption) | (show _ = false; with_reducible first | rfl | assumption) | decide) ?_); ((refine y_pure (d := 61) hX ⟨rfl, rfl⟩ rfl (p_move hX.st rfl rfl) ?_; clear hX; intro a w hX))) | (refine y_guardU hX rfl rfl rfl rfl rfl ?_; clear hX; intro a w hX) | ((refine y_gsplit hX rfl rfl rfl ?_ ?_) <;> intro hg <;> first | (refine y_guard0 hX rfl rfl rfl (by first | with_reducible rfl | with_reducible assumption | exact beq_self_eq_true _ | exact bne_self_eq_false _ | (show _ = true; with_reducible first | rfl | assumption) | (show _ = false; with_reducible first | rfl | assumption) | decide) rfl rfl ?_; clear hX; intro a w hX) | ((refine y_guard1 hX rfl rfl rfl (by first | with_reducible rfl | with_reducible assumption | exact beq_self_eq_true _ | exact bne_self_eq_false _ | (show _ = true; with_reducible first | rfl | assumption) | (show _ = false; with_reducible first | rfl | assumption) | decide) ?_); ((refine y_pure (d := 61) hX ⟨rfl, rfl⟩ rfl (p_move hX.st rfl rfl) ?_; clear hX; intro a w hX))))))
                      all_goals (refine xl_cons ?_; (first | (refine y_guard0 hX rfl rfl rfl (by first | with_reducible rfl | with_reducible assumption | exact beq_self_eq_true _ | exact bne_self_eq_false _ | (show _ = true; with_reducible first | rfl | assumption) | (show _ = false; with_reducible first | rfl | assumption) | decide) rfl rfl ?_; clear hX; intro a w hX) | ((refine y_guard1 hX rfl rfl rfl (by first | with_reducible rfl | with_reducible assumption | exact beq_self_eq_true _ | exact bne_self_eq_false _ | (show _ = true; with_reducible first | rfl | assumption) | (show _ = false; with_reducible first | rfl | assumption) | decide) ?_); (first | (refine y_pure (d := 62) hX ⟨rfl, rfl⟩ rfl (p_field0 hX.st rfl tab_ok rfl rfl rfl rfl rfl rfl) ?_; clear hX; intro a w hX) | (refine y_pure (d := 62) hX ⟨rfl, rfl⟩ rfl (p_field hX.st rfl tab_ok rfl rfl rfl rfl rfl rfl) ?_; clear hX; intro a w hX))) | (refine y_guardU hX rfl rfl rfl rfl rfl ?_; clear hX; intro a w hX) | ((refine y_gsplit hX rfl rfl rfl ?_ ?_) <;> intro hg <;> first | (refine y_guard0 hX rfl rfl rfl (by first | with_reducible rfl | with_reducible assumption | exact beq_self_eq_true _ | exact bne_self_eq_false _ | (show _ = true; with_reducible first | rfl | assumption) | (show _ = false; with_reducible first | rfl | assumption) | decide) rfl rfl ?_; clear hX; intro a w hX) | ((refine y_guard1 hX rfl rfl rfl (by first | with_reducible rfl | with_reducible assumption | exact beq_self_eq_true _ | exact bne_self_eq_false _ | (show _ = true; with_reducible first | rfl | assumption) | (show _ = false; with_reducible first | rfl | assumption) | decide) ?_); (first | (refine y_pure (d := 62) hX ⟨rfl, rfl⟩ rfl (p_field0 hX.st rfl tab_ok rfl rfl rfl rfl rfl rfl) ?_; clear hX; intro a w hX) | (refine y_pure (d := 62) hX ⟨rfl, rfl⟩ rfl (p_field hX.st rfl tab_ok rfl rfl rfl rfl rfl rfl) ?_; clear hX; intro a w hX))))))
                      all_goals (refine xl_cons ?_; (first | (refine y_guard0 hX rfl rfl rfl (by first | with_reducible rfl | with_reducible assumption | exact beq_self_eq_true _ | exact bne_self_eq_false _ | (show _ = true; with_reducible first | rfl | assumption) | (show _ = false; with_reducible first | rfl | assumption) | decide) rfl rfl ?_; clear hX; intro a w hX) | ((refine y_guard1 hX rfl rfl rfl (by first | with_reducible rfl | with_reducible assumption | exact beq_self_eq_true _ | exact bne_self_eq_false _ | (show _ = true; with_reducible first | rfl | assumption) | (show _ = false; with_reducible first | rfl | assumption) | decide) ?_); (first | (refine y_read (d := 63) hX ⟨rfl, rfl⟩ rfl (v_load hX.st rfl tab_ok rfl rfl rfl foc0 rfl) ?_; clear hX; intro a w hX) | (refine y_read (d := 63) hX ⟨rfl, rfl⟩ rfl (v_load hX.st rfl tab_ok rfl rfl rfl foc1 rfl) ?_; clear hX; intro a w hX) | (refine y_read (d := 63) hX ⟨rfl, rfl⟩ rfl (v_load hX.st rfl tab_ok rfl rfl rfl foc2 rfl) ?_; clear hX; intro a w hX) | (refine y_read (d := 63) hX ⟨rfl, rfl⟩ rfl (v_load hX.st rfl tab_ok rfl rfl rfl foc3 rfl) ?_; clear hX; intro a w hX) | (refine y_read (d := 63) hX ⟨rfl, rfl⟩ rfl (v_load hX.st rfl tab_ok rfl rfl rfl foc4 rfl) ?_; clear hX; intro a w hX) | (refine y_read (d := 63) hX ⟨rfl, rfl⟩ rfl (v_load hX.st rfl tab_ok rfl rfl rfl foc5 rfl) ?_; clear hX; intro a w hX) | (refine y_read (d := 63) hX ⟨rfl, rfl⟩ rfl (v_load hX.st rfl tab_ok rfl rfl rfl foc6 rfl) ?_; clear hX; intro a w hX) | (refine y_read (d := 63) hX ⟨rfl, rfl⟩ rfl (v_load hX.st rfl tab_ok rfl rfl rfl foc7 rfl) ?_; clear hX; intro a w hX) | (refine y_read (d := 63) hX ⟨rfl, rfl⟩ rfl (v_load hX.st rfl tab_ok rfl rfl rfl foc8 rfl) ?_; clear hX; intro a w hX) | (refine y_read (d := 63) hX ⟨rfl, rfl⟩ rfl (v_load hX.st rfl tab_ok rfl rfl rfl foc9 rfl) ?_; clear hX; intro a w hX) | (refine y_read (d := 63) hX ⟨rfl, rfl⟩ rfl (v_load hX.st rfl tab_ok rfl rfl rfl foc10 rfl) ?_; clear hX; intro a w hX) | (refine y_read (d := 63) hX ⟨rfl, rfl⟩ rfl (v_load hX.st rfl tab_ok rfl rfl rfl foc11 rfl) ?_; clear hX; intro a w hX) | (refine y_read (d := 63) hX ⟨rfl, rfl⟩ rfl (v_load hX.st rfl tab_ok rfl rfl rfl foc12 rfl) ?_; clear hX; intro a w hX) | (refine y_read (d := 63) hX ⟨rfl, rfl⟩ rfl (v_load_old hX.st rfl tab_ok rfl rfl rfl (by assumption) (by assumption)) ?_; clear hX; intro a w hX))) | (refine y_guardU hX rfl rfl rfl rfl rfl ?_; clear hX; intro a w hX) | ((refine y_gsplit hX rfl rfl rfl ?_ ?_) <;> intro hg <;> first | (refine y_guard0 hX rfl rfl rfl (by first | with_reducible rfl | with_reducible assumption | exact beq_self_eq_true _ | exact bne_self_eq_false _ | (show _ = true; with_reducible first | rfl | assumption) | (show _ = false; with_reducible first | rfl | assumption) | decide) rfl rfl ?_; clear hX; intro a w hX) | ((refine y_guard1 hX rfl rfl rfl (by first | with_reducible rfl | with_reducible assumption | exact beq_self_eq_true _ | exact bne_self_eq_false _ | (show _ = true; with_reducible first | rfl | assumption) | (show _ = false; with_reducible first | rfl | assumption) | decide) ?_); (first | (refine y_read (d := 63) hX ⟨rfl, rfl⟩ rfl (v_load hX.st rfl tab_ok rfl rfl rfl foc0 rfl) ?_; clear hX; intro a w hX) | (refine y_read (d := 63) hX ⟨rfl, rfl⟩ rfl (v_load hX.st rfl tab_ok rfl rfl rfl foc1 rfl) ?_; clear hX; intro a w hX) | (refine y_read (d := 63) hX ⟨rfl, rfl⟩ rfl (v_load hX.st rfl tab_ok rfl rfl rfl foc2 rfl) ?_; clear hX; intro a w hX) | (refine y_read (d := 63) hX ⟨rfl, rfl⟩ rfl (v_load hX.st rfl tab_ok rfl rfl rfl foc3 rfl) ?_; clear hX; intro a w hX) | (refine y_read (d := 63) hX ⟨rfl, rfl⟩ rfl (v_load hX.st rfl tab_ok rfl rfl rfl foc4 rfl) ?_; clear hX; intro a w hX) | (refine y_read (d := 63) hX ⟨rfl, rfl⟩ rfl (v_load hX.st rfl tab_ok rfl rfl rfl foc5 rfl) ?_; clear hX; intro a w hX) | (refine y_read (d := 63) hX ⟨rfl, rfl⟩ rfl (v_load hX.st rfl tab_ok rfl rfl rfl foc6 rfl) ?_; clear hX; intro a w hX) | (refine y_read (d := 63) hX ⟨rfl, rfl⟩ rfl (v_load hX.st rfl tab_ok rfl rfl rfl foc7 rfl) ?_; clear hX; intro a w hX) | (refine y_read (d := 63) hX ⟨rfl, rfl⟩ rfl (v_load hX.st rfl tab_ok rfl rfl rfl foc8 rfl) ?_; clear hX; intro a w hX) | (refine y_read (d := 63) hX ⟨rfl, rfl⟩ rfl (v_load hX.st rfl tab_ok rfl rfl rfl foc9 rfl) ?_; clear hX; intro a w hX) | (refine y_read (d := 63) hX ⟨rfl, rfl⟩ rfl (v_load hX.st rfl tab_ok rfl rfl rfl foc10 rfl) ?_; clear hX; intro a w hX) | (refine y_read (d := 63) hX ⟨rfl, rfl⟩ rfl (v_load hX.st rfl tab_ok rfl rfl rfl foc11 rfl) ?_; clear hX; intro a w hX) | (refine y_read (d := 63) hX ⟨rfl, rfl⟩ rfl (v_load hX.st rfl tab_ok rfl rfl rfl foc12 rfl) ?_; clear hX; intro a w hX) | (refine y_read (d := 63) hX ⟨rfl, rfl⟩ rfl (v_load_old hX.st rfl tab_ok rfl rfl rfl (by assumption) (by assumption)) ?_; clear hX; intro a w hX))))))
                      all_goals (refine xl_cons ?_; (first | (refine y_guard0 hX rfl rfl rfl (by first | with_reducible rfl | with_reducible assumption | exact beq_self_eq_true _ | exact bne_self_eq_false _ | (show _ = true; with_reducible first | rfl | assumption) | (show _ = false; with_reducible first | rfl | assumption) | decide) rfl rfl ?_; clear hX; intro a w hX) | ((refine y_guard1 hX rfl rfl rfl (by first | with_reducible rfl | with_reducible assumption | exact beq_self_eq_true _ | exact bne_self_eq_false _ | (show _ = true; with_reducible first | rfl | assumption) | (show _ = false; with_reducible first | rfl | assumption) | decide) ?_); ((refine y_pure (d := 64) hX ⟨rfl, rfl⟩ rfl (p_gtr hX.st rfl rfl rfl) ?_; clear hX; intro a w hX))) | (refine y_guardU hX rfl rfl rfl rfl rfl ?_; clear hX; intro a w hX) | ((refine y_gsplit hX rfl rfl rfl ?_ ?_) <;> intro hg <;> first | (refine y_guard0 hX rfl rfl rfl (by first | with_reducible rfl | with_reducible assumption | exact beq_self_eq_true _ | exact bne_self_eq_false _ | (show _ = true; with_reducible first | rfl | assumption) | (show _ = false; with_reducible first | rfl | assumption) | decide) rfl rfl ?_; clear hX; intro a w hX) | ((refine y_guard1 hX rfl rfl rfl (by first | with_reducible rfl | with_reducible assumption | exact beq_self_eq_true _ | exact bne_self_eq_false _ | (show _ = true; with_reducible first | rfl | assumption) | (show _ = false; with_reducible first | rfl | assumption) | decide) ?_); ((refine y_pure (d := 64) hX ⟨rfl, rfl⟩ rfl (p_gtr hX.st rfl rfl rfl) ?_; clear hX; intro a w hX))))))
                      all_goals (refine xl_cons ?_; (first | (refine y_guard0 hX rfl rfl rfl (by first | with_reducible rfl | with_reducible assumption | exact beq_self_eq_true _ | exact bne_self_eq_false _ | (show _ = true; with_reducible first | rfl | assumption) | (show _ = false; with_reducible first | rfl | assumption) | decide) rfl rfl ?_; clear hX; intro a w hX) | ((refine y_guard1 hX rfl rfl rfl (by first | with_reducible rfl | with_reducible assumption | exact beq_self_eq_true _ | exact bne_self_eq_false _ | (show _ = true; with_reducible first | rfl | assumption) | (show _ = false; with_reducible first | rfl | assumption) | decide) ?_); (first | (refine y_pure (d := 65) hX ⟨rfl, rfl⟩ rfl (p_pick1 hX.st rfl rfl (by first | with_reducible rfl | with_reducible assumption | exact beq_self_eq_true _ | exact bne_self_eq_false _ | (show _ = true; with_reducible first | rfl | assumption) | (show _ = false; with_reducible first | rfl | assumption) | decide) rfl) ?_; clear hX; intro a w hX) | (refine y_pure (d := 65) hX ⟨rfl, rfl⟩ rfl (p_pick0 hX.st rfl rfl (by first | with_reducible rfl | with_reducible assumption | exact beq_self_eq_true _ | exact bne_self_eq_false _ | (show _ = true; with_reducible first | rfl | assumption) | (show _ = false; with_reducible first | rfl | assumption) | decide) rfl) ?_; clear hX; intro a w hX))) | (refine y_guardU hX rfl rfl rfl rfl rfl ?_; clear hX; intro a w hX) | ((refine y_gsplit hX rfl rfl rfl ?_ ?_) <;> intro hg <;> first | (refine y_guard0 hX rfl rfl rfl (by first | with_reducible rfl | with_reducible assumption | exact beq_self_eq_true _ | exact bne_self_eq_false _ | (show _ = true; with_reducible first | rfl | assumption) | (show _ = false; with_reducible first | rfl | assumption) | decide) rfl rfl ?_; clear hX; intro a w hX) | ((refine y_guard1 hX rfl rfl rfl (by first | with_reducible rfl | with_reducible assumption | exact beq_self_eq_true _ | exact bne_self_eq_false _ | (show _ = true; with_reducible first | rfl | assumption) | (show _ = false; with_reducible first | rfl | assumption) | decide) ?_); (first | (refine y_pure (d := 65) hX ⟨rfl, rfl⟩ rfl (p_pick1 hX.st rfl rfl (by first | with_reducible rfl | with_reducible assumption | exact beq_self_eq_true _ | exact bne_self_eq_false _ | (show _ = true; with_reducible first | rfl | assumption) | (show _ = false; with_reducible first | rfl | assumption) | decide) rfl) ?_; clear hX; intro a w hX) | (refine y_pure (d := 65) hX ⟨rfl, rfl⟩ rfl (p_pick0 hX.st rfl rfl (by first | with_reducible rfl | with_reducible assumption | exact beq_self_eq_true _ | exact bne_self_eq_false _ | (show _ = true; with_reducible first | rfl | assumption) | (show _ = false; with_reducible first | rfl | assumption) | decide) rfl) ?_; clear hX; intro a w hX))))))
                      all_goals (refine xl_cons ?_; (first | (refine y_pure (d := 66) hX ⟨rfl, rfl⟩ rfl (p_pick1 hX.st rfl rfl (by first | with_reducible rfl | with_reducible assumption | exact beq_self_eq_true _ | exact bne_self_eq_false _ | (show _ = true; with_reducible first | rfl | assumption) | (show _ = false; with_reducible first | rfl | assumption) | decide) rfl) ?_; clear hX; intro a w hX) | (refine y_pure (d := 66) hX ⟨rfl, rfl⟩ rfl (p_pick0 hX.st rfl rfl (by first | with_reducible rfl | with_reducible assumption | exact beq_self_eq_true _ | exact bne_self_eq_false _ | (show _ = true; with_reducible first | rfl | assumption) | (show _ = false; with_reducible first | rfl | assumption) | decide) rfl) ?_; clear hX; intro a w hX)))
                      all_goals (refine xl_cons ?_; ((refine y_pure (d := 67) hX ⟨rfl, rfl⟩ rfl (p_move hX.st rfl rfl) ?_; clear hX; intro a w hX)))
                      all_goals (refine xl_cons ?_; (first | (refine y_guard0 hX rfl rfl rfl (by first | with_reducible rfl | with_reducible assumption | exact beq_self_eq_true _ | exact bne_self_eq_false _ | (show _ = true; with_reducible first | rfl | assumption) | (show _ = false; with_reducible first | rfl | assumption) | decide) rfl rfl ?_; clear hX; intro a w hX) | ((refine y_guard1 hX rfl rfl rfl (by first | with_reducible rfl | with_reducible assumption | exact beq_self_eq_true _ | exact bne_self_eq_false _ | (show _ = true; with_reducible first | rfl | assumption) | (show _ = false; with_reducible first | rfl | assumption) | decide) ?_); (first | (refine y_pure (d := 68) hX ⟨rfl, rfl⟩ rfl (p_field0 hX.st rfl tab_ok rfl rfl rfl rfl rfl rfl) ?_; clear hX; intro a w hX) | (refine y_pure (d := 68) hX ⟨rfl, rfl⟩ rfl (p_field hX.st rfl tab_ok rfl rfl rfl rfl rfl rfl) ?_; clear hX; intro a w hX))) | (refine y_guardU hX rfl rfl rfl rfl rfl ?_; clear hX; intro a w hX) | ((refine y_gsplit hX rfl rfl rfl ?_ ?_) <;> intro hg <;> first | (refine y_guard0 hX rfl rfl rfl (by first | with_reducible rfl | with_reducible assumption | exact beq_self_eq_true _ | exact bne_self_eq_false _ | (show _ = true; with_reducible first | rfl | assumption) | (show _ = false; with_reducible first | rfl | assumption) | decide) rfl rfl ?_; clear hX; intro a w hX) | ((refine y_guard1 hX rfl rfl rfl (by first | with_reducible rfl | with_reducible assumption | exact beq_self_eq_true _ | exact bne_self_eq_false _ | (show _ = true; with_reducible first | rfl | assumption) | (show _ = false; with_reducible first | rfl | assumption) | decide) ?_); (first | (refine y_pure (d := 68) hX ⟨rfl, rfl⟩ rfl (p_field0 hX.st rfl tab_ok rfl rfl rfl rfl rfl rfl) ?_; clear hX; intro a w hX) | (refine y_pure (d := 68) hX ⟨rfl, rfl⟩ rfl (p_field hX.st rfl tab_ok rfl rfl rfl rfl rfl rfl) ?_; clear hX; intro a w hX))))))
                      all_goals (refine xl_cons ?_; (first | (refine y_guard0 hX rfl rfl rfl (by first | with_reducible rfl | with_reducible assumption | exact beq_self_eq_true _ | exact bne_self_eq_false _ | (show _ = true; with_reducible first | rfl | assumption) | (show _ = false; with_reducible first | rfl | assumption) | decide) rfl rfl ?_; clear hX; intro a w hX) | ((refine y_guard1 hX rfl rfl rfl (by first | with_reducible rfl | with_reducible assumption | exact beq_self_eq_true _ | exact bne_self_eq_false _ | (show _ = true; with_reducible first | rfl | assumption) | (show _ = false; with_reducible first | rfl | assumption) | decide) ?_); (first | (refine y_read (d := 69) hX ⟨rfl, rfl⟩ rfl (v_load hX.st rfl tab_ok rfl rfl rfl foc0 rfl) ?_; clear hX; intro a w hX) | (refine y_read (d := 69) hX ⟨rfl, rfl⟩ rfl (v_load hX.st rfl tab_ok rfl rfl rfl foc1 rfl) ?_; clear hX; intro a w hX) | (refine y_read (d := 69) hX ⟨rfl, rfl⟩ rfl (v_load hX.st rfl tab_ok rfl rfl rfl foc2 rfl) ?_; clear hX; intro a w hX) | (refine y_read (d := 69) hX ⟨rfl, rfl⟩ rfl (v_load hX.st rfl tab_ok rfl rfl rfl foc3 rfl) ?_; clear hX; intro a w hX) | (refine y_read (d := 69) hX ⟨rfl, rfl⟩ rfl (v_load hX.st rfl tab_ok rfl rfl rfl foc4 rfl) ?_; clear hX; intro a w hX) | (refine y_read (d := 69) hX ⟨rfl, rfl⟩ rfl (v_load hX.st rfl tab_ok rfl rfl rfl foc5 rfl) ?_; clear hX; intro a w hX) | (refine y_read (d := 69) hX ⟨rfl, rfl⟩ rfl (v_load hX.st rfl tab_ok rfl rfl rfl foc6 rfl) ?_; clear hX; intro a w hX) | (refine y_read (d := 69) hX ⟨rfl, rfl⟩ rfl (v_load hX.st rfl tab_ok rfl rfl rfl foc7 rfl) ?_; clear hX; intro a w hX) | (refine y_read (d := 69) hX ⟨rfl, rfl⟩ rfl (v_load hX.st rfl tab_ok rfl rfl rfl foc8 rfl) ?_; clear hX; intro a w hX) | (refine y_read (d := 69) hX ⟨rfl, rfl⟩ rfl (v_load hX.st rfl tab_ok rfl rfl rfl foc9 rfl) ?_; clear hX; intro a w hX) | (refine y_read (d := 69) hX ⟨rfl, rfl⟩ rfl (v_load hX.st rfl tab_ok rfl rfl rfl foc10 rfl) ?_; clear hX; intro a w hX) | (refine y_read (d := 69) hX ⟨rfl, rfl⟩ rfl (v_load hX.st rfl tab_ok rfl rfl rfl foc11 rfl) ?_; clear hX; intro a w hX) | (refine y_read (d := 69) hX ⟨rfl, rfl⟩ rfl (v_load hX.st rfl tab_ok rfl rfl rfl foc12 rfl) ?_; clear hX; intro a w hX) | (refine y_read (d := 69) hX ⟨rfl, rfl⟩ rfl (v_load_old hX.st rfl tab_ok rfl rfl rfl (by assumption) (by assumption)) ?_; clear hX; intro a w hX))) | (refine y_guardU hX rfl rfl rfl rfl rfl ?_; clear hX; intro a w hX) | ((refine y_gsplit hX rfl rfl rfl ?_ ?_) <;> intro hg <;> first | (refine y_guard0 hX rfl rfl rfl (by first | with_reducible rfl | with_reducible assumption | exact beq_self_eq_true _ | exact bne_self_eq_false _ | (show _ = true; with_reducible first | rfl | assumption) | (show _ = false; with_reducible first | rfl | assumption) | decide) rfl rfl ?_; clear hX; intro a w hX) | ((refine y_guard1 hX rfl rfl rfl (by first | with_reducible rfl | with_reducible assumption | exact beq_self_eq_true _ | exact bne_self_eq_false _ | (show _ = true; with_reducible first | rfl | assumption) | (show _ = false; with_reducible first | rfl | assumption) | decide) ?_); (first | (refine y_read (d := 69) hX ⟨rfl, rfl⟩ rfl (v_load hX.st rfl tab_ok rfl rfl rfl foc0 rfl) ?_; clear hX; intro a w hX) | (refine y_read (d := 69) hX ⟨rfl, rfl⟩ rfl (v_load hX.st rfl tab_ok rfl rfl rfl foc1 rfl) ?_; clear hX; intro a w hX) | (refine y_read (d := 69) hX ⟨rfl, rfl⟩ rfl (v_load hX.st rfl tab_ok rfl rfl rfl foc2 rfl) ?_; clear hX; intro a w hX) | (refine y_read (d := 69) hX ⟨rfl, rfl⟩ rfl (v_load hX.st rfl tab_ok rfl rfl rfl foc3 rfl) ?_; clear hX; intro a w hX) | (refine y_read (d := 69) hX ⟨rfl, rfl⟩ rfl (v_load hX.st rfl tab_ok rfl rfl rfl foc4 rfl) ?_; clear hX; intro a w hX) | (refine y_read (d := 69) hX ⟨rfl, rfl⟩ rfl (v_load hX.st rfl tab_ok rfl rfl rfl foc5 rfl) ?_; clear hX; intro a w hX) | (refine y_read (d := 69) hX ⟨rfl, rfl⟩ rfl (v_load hX.st rfl tab_ok rfl rfl rfl foc6 rfl) ?_; clear hX; intro a w hX) | (refine y_read (d := 69) hX ⟨rfl, rfl⟩ rfl (v_load hX.st rfl tab_ok rfl rfl rfl foc7 rfl) ?_; clear hX; intro a w hX) | (refine y_read (d := 69) hX ⟨rfl, rfl⟩ rfl (v_load hX.st rfl tab_ok rfl rfl rfl foc8 rfl) ?_; clear hX; intro a w hX) | (refine y_read (d := 69) hX ⟨rfl, rfl⟩ rfl (v_load hX.st rfl tab_ok rfl rfl rfl foc9 rfl) ?_; clear hX; intro a w hX) | (refine y_read (d := 69) hX ⟨rfl, rfl⟩ rfl (v_load hX.st rfl tab_ok rfl rfl rfl foc10 rfl) ?_; clear hX; intro a w hX) | (refine y_read (d := 69) hX ⟨rfl, rfl⟩ rfl (v_load hX.st rfl tab_ok rfl rfl rfl foc11 rfl) ?_; clear hX; intro a w hX) | (refine y_read (d := 69) hX ⟨rfl, rfl⟩ rfl (v_load hX.st rfl tab_ok rfl rfl rfl foc12 rfl) ?_; clear hX; intro a w hX) | (refine y_read (d := 69) hX ⟨rfl, rfl⟩ rfl (v_load_old hX.st rfl tab_ok rfl rfl rfl (by assumption) (by assumption)) ?_; clear hX; intro a w hX))))))
                      all_goals (refine xl_cons ?_; (first | (refine y_guard0 hX rfl rfl rfl (by first | with_reducible rfl | with_reducible assumption | exact beq_self_eq_true _ | exact bne_self_eq_false _ | (show _ = true; with_reducible first | rfl | assumption) | (show _ = false; with_reducible first | rfl | assumption) | decide) rfl rfl ?_; clear hX; intro a w hX) | ((refine y_guard1 hX rfl rfl rfl (by first | with_reducible rfl | with_reducible assumption | exact beq_self_eq_true _ | exact bne_self_eq_false _ | (show _ = true; with_reducible first | rfl | assumption) | (show _ = false; with_reducible first | rfl | assumption) | decide) ?_); ((refine y_pure (d := 70) hX ⟨rfl, rfl⟩ rfl (p_not hX.st rfl rfl) ?_; clear hX; intro a w hX))) | (refine y_guardU hX rfl rfl rfl rfl rfl ?_; clear hX; intro a w hX) | ((refine y_gsplit hX rfl rfl rfl ?_ ?_) <;> intro hg <;> first | (refine y_guard0 hX rfl rfl rfl (by first | with_reducible rfl | with_reducible assumption | exact beq_self_eq_true _ | exact bne_self_eq_false _ | (show _ = true; with_reducible first | rfl | assumption) | (show _ = false; with_reducible first | rfl | assumption) | decide) rfl rfl ?_; clear hX; intro a w hX) | ((refine y_guard1 hX rfl rfl rfl (by first | with_reducible rfl | with_reducible assumption | exact beq_self_eq_true _ | exact bne_self_eq_false _ | (show _ = true; with_reducible first | rfl | assumption) | (show _ = false; with_reducible first | rfl | assumption) | decide) ?_); ((refine y_pure (d := 70) hX ⟨rfl, rfl⟩ rfl (p_not hX.st rfl rfl) ?_; clear hX; intro a w hX))))))
                      all_goals (refine xl_cons ?_; (first | (refine y_guard0 hX rfl rfl rfl (by first | with_reducible rfl | with_reducible assumption | exact beq_self_eq_true _ | exact bne_self_eq_false _ | (show _ = true; with_reducible first | rfl | assumption) | (show _ = false; with_reducible first | rfl | assumption) | decide) rfl rfl ?_; clear hX; intro a w hX) | ((refine y_guard1 hX rfl rfl rfl (by first | with_reducible rfl | with_reducible assumption | exact beq_self_eq_true _ | exact bne_self_eq_false _ | (show _ = true; with_reducible first | rfl | assumption) | (show _ = false; with_reducible first | rfl | assumption) | decide) ?_); ((refine y_pure (d := 71) hX ⟨rfl, rfl⟩ rfl (p_move hX.st rfl rfl) ?_; clear hX; intro a w hX))) | (refine y_guardU hX rfl rfl rfl rfl rfl ?_; clear hX; intro a w hX) | ((refine y_gsplit hX rfl rfl rfl ?_ ?_) <;> intro hg <;> first | (refine y_guard0 hX rfl rfl rfl (by first | with_reducible rfl | with_reducible assumption | exact beq_self_eq_true _ | exact bne_self_eq_false _ | (show _ = true; with_reducible first | rfl | assumption) | (show _ = false; with_reducible first | rfl | assumption) | decide) rfl rfl ?_; clear hX; intro a w hX) | ((refine y_guard1 hX rfl rfl rfl (by first | with_reducible rfl | with_reducible assumption | exact beq_self_eq_true _ | exact bne_self_eq_false _ | (show _ = true; with_reducible first | rfl | assumption) | (show _ = false; with_reducible first | rfl | assumption) | decide) ?_); ((refine y_pure (d := 71) hX ⟨rfl, rfl⟩ rfl (p_move hX.st rfl rfl) ?_; clear hX; intro a w hX))))))
                      all_goals (refine xl_cons ?_; (first | (refine y_guard0 hX rfl rfl rfl (by first | with_reducible rfl | with_reducible assumption | exact beq_self_eq_true _ | exact bne_self_eq_false _ | (show _ = true; with_reducible first | rfl | assumption) | (show _ = false; with_reducible first | rfl | assumption) | decide) rfl rfl ?_; clear hX; intro a w hX) | ((refine y_guard1 hX rfl rfl rfl (by first | with_reducible rfl | with_reducible assumption | exact beq_self_eq_true _ | exact bne_self_eq_false _ | (show _ = true; with_reducible first | rfl | assumption) | (show _ = false; with_reducible first | rfl | assumption) | decide) ?_); (first | (refine y_pure (d := 72) hX ⟨rfl, rfl⟩ rfl (p_field0 hX.st rfl tab_ok rfl rfl rfl rfl rfl rfl) ?_; clear hX; intro a w hX) | (refine y_pure (d := 72) hX ⟨rfl, rfl⟩ rfl (p_field hX.st rfl tab_ok rfl rfl rfl rfl rfl rfl) ?_; clear hX; intro a w hX))) | (refine y_guardU hX rfl rfl rfl rfl rfl ?_; clear hX; intro a w hX) | ((refine y_gsplit hX rfl rfl rfl ?_ ?_) <;> intro hg <;> first | (refine y_guard0 hX rfl rfl rfl (by first | with_reducible rfl | with_reducible assumption | exact beq_self_eq_true _ | exact bne_self_eq_false _ | (show _ = true; with_reducible first | rfl | assumption) | (show _ = false; with_reducible first | rfl | assumption) | decide) rfl rfl ?_; clear hX; intro a w hX) | ((refine y_guard1 hX rfl rfl rfl (by first | with_reducible rfl | with_reducible assumption | exact beq_self_eq_true _ | exact bne_self_eq_false _ | (show _ = true; with_reducible first | rfl | assumption) | (show _ = false; with_reducible first | rfl | assumption) | decide) ?_); (first | (refine y_pure (d := 72) hX ⟨rfl, rfl⟩ rfl (p_field0 hX.st rfl tab_ok rfl rfl rfl rfl rfl rfl) ?_; clear hX; intro a w hX) | (refine y_pure (d := 72) hX ⟨rfl, rfl⟩ rfl (p_field hX.st rfl tab_ok rfl rfl rfl rfl rfl rfl) ?_; clear hX; intro a w hX))))))
                      all_goals (refine xl_cons ?_; (first | (refine y_guard0 hX rfl rfl rfl (by first | with_reducible rfl | with_reducible assumption | exact beq_self_eq_true _ | exact bne_self_eq_false _ | (show _ = true; with_reducible first | rfl | assumption) | (show _ = false; with_reducible first | rfl | assumption) | decide) rfl rfl ?_; clear hX; intro a w hX) | ((refine y_guard1 hX rfl rfl rfl (by first | with_reducible rfl | with_reducible assumption | exact beq_self_eq_true _ | exact bne_self_eq_false _ | (show _ = true; with_reducible first | rfl | assumption) | (show _ = false; with_reducible first | rfl | assumption) | decide) ?_); (first | (refine y_read (d := 73) hX ⟨rfl, rfl⟩ rfl (v_load hX.st rfl tab_ok rfl rfl rfl foc0 rfl) ?_; clear hX; intro a w hX) | (refine y_read (d := 73) hX ⟨rfl, rfl⟩ rfl (v_load hX.st rfl tab_ok rfl rfl rfl foc1 rfl) ?_; clear hX; intro a w hX) | (refine y_read (d := 73) hX ⟨rfl, rfl⟩ rfl (v_load hX.st rfl tab_ok rfl rfl rfl foc2 rfl) ?_; clear hX; intro a w hX) | (refine y_read (d := 73) hX ⟨rfl, rfl⟩ rfl (v_load hX.st rfl tab_ok rfl rfl rfl foc3 rfl) ?_; clear hX; intro a w hX) | (refine y_read (d := 73) hX ⟨rfl, rfl⟩ rfl (v_load hX.st rfl tab_ok rfl rfl rfl foc4 rfl) ?_; clear hX; intro a w hX) | (refine y_read (d := 73) hX ⟨rfl, rfl⟩ rfl (v_load hX.st rfl tab_ok rfl rfl rfl foc5 rfl) ?_; clear hX; intro a w hX) | (refine y_read (d := 73) hX ⟨rfl, rfl⟩ rfl (v_load hX.st rfl tab_ok rfl rfl rfl foc6 rfl) ?_; clear hX; intro a w hX) | (refine y_read (d := 73) hX ⟨rfl, rfl⟩ rfl (v_load hX.st rfl tab_ok rfl rfl rfl foc7 rfl) ?_; clear hX; intro a w hX) | (refine y_read (d := 73) hX ⟨rfl, rfl⟩ rfl (v_load hX.st rfl tab_ok rfl rfl rfl foc8 rfl) ?_; clear hX; intro a w hX) | (refine y_read (d := 73) hX ⟨rfl, rfl⟩ rfl (v_load hX.st rfl tab_ok rfl rfl rfl foc9 rfl) ?_; clear hX; intro a w hX) | (refine y_read (d := 73) hX ⟨rfl, rfl⟩ rfl (v_load hX.st rfl tab_ok rfl rfl rfl foc10 rfl) ?_; clear hX; intro a w hX) | (refine y_read (d := 73) hX ⟨rfl, rfl⟩ rfl (v_load hX.st rfl tab_ok rfl rfl rfl foc11 rfl) ?_; clear hX; intro a w hX) | (refine y_read (d := 73) hX ⟨rfl, rfl⟩ rfl (v_load hX.st rfl tab_ok rfl rfl rfl foc12 rfl) ?_; clear hX; intro a w hX) | (refine y_read (d := 73) hX ⟨rfl, rfl⟩ rfl (v_load_old hX.st rfl tab_ok rfl rfl rfl (by assumption) (by assumption)) ?_; clear hX; intro a w hX))) | (refine y_guardU hX rfl rfl rfl rfl rfl ?_; clear hX; intro a w hX) | ((refine y_gsplit hX rfl rfl rfl ?_ ?_) <;> intro hg <;> first | (refine y_guard0 hX rfl rfl rfl (by first | with_reducible rfl | with_reducible assumption | exact beq_self_eq_true _ | exact bne_self_eq_false _ | (show _ = true; with_reducible first | rfl | assumption) | (show _ = false; with_reducible first | rfl | assumption) | decide) rfl rfl ?_; clear hX; intro a w hX) | ((refine y_guard1 hX rfl rfl rfl (by first | with_reducible rfl | with_reducible assumption | exact beq_self_eq_true _ | exact bne_self_eq_false _ | (show _ = true; with_reducible first | rfl | assumption) | (show _ = false; with_reducible first | rfl | assumption) | decide) ?_); (first | (refine y_read (d := 73) hX ⟨rfl, rfl⟩ rfl (v_load hX.st rfl tab_ok rfl rfl rfl foc0 rfl) ?_; clear hX; intro a w hX) | (refine y_read (d := 73) hX ⟨rfl, rfl⟩ rfl (v_load hX.st rfl tab_ok rfl rfl rfl foc1 rfl) ?_; clear hX; intro a w hX) | (refine y_read (d := 73) hX ⟨rfl, rfl⟩ rfl (v_load hX.st rfl tab_ok rfl rfl rfl foc2 rfl) ?_; clear hX; intro a w hX) | (refine y_read (d := 73) hX ⟨rfl, rfl⟩ rfl (v_load hX.st rfl tab_ok rfl rfl rfl foc3 rfl) ?_; clear hX; intro a w hX) | (refine y_read (d := 73) hX ⟨rfl, rfl⟩ rfl (v_load hX.st rfl tab_ok rfl rfl rfl foc4 rfl) ?_; clear hX; intro a w hX) | (refine y_read (d := 73) hX ⟨rfl, rfl⟩ rfl (v_load hX.st rfl tab_ok rfl rfl rfl foc5 rfl) ?_; clear hX; intro a w hX) | (refine y_read (d := 73) hX ⟨rfl, rfl⟩ rfl (v_load hX.st rfl tab_ok rfl rfl rfl foc6 rfl) ?_; clear hX; intro a w hX) | (refine y_read (d := 73) hX ⟨rfl, rfl⟩ rfl (v_load hX.st rfl tab_ok rfl rfl rfl foc7 rfl) ?_; clear hX; intro a w hX) | (refine y_read (d := 73) hX ⟨rfl, rfl⟩ rfl (v_load hX.st rfl tab_ok rfl rfl rfl foc8 rfl) ?_; clear hX; intro a w hX) | (refine y_read (d := 73) hX ⟨rfl, rfl⟩ rfl (v_load hX.st rfl tab_ok rfl rfl rfl foc9 rfl) ?_; clear hX; intro a w hX) | (refine y_read (d := 73) hX ⟨rfl, rfl⟩ rfl (v_load hX.st rfl tab_ok rfl rfl rfl foc10 rfl) ?_; clear hX; intro a w hX) | (refine y_read (d := 73) hX ⟨rfl, rfl⟩ rfl (v_load hX.st rfl tab_ok rfl rfl rfl foc11 rfl) ?_; clear hX; intro a w hX) | (refine y_read (d := 73) hX ⟨rfl, rfl⟩ rfl (v_load hX.st rfl tab_ok rfl rfl rfl foc12 rfl) ?_; clear hX; intro a w hX) | (refine y_read (d := 73) hX ⟨rfl, rfl⟩ rfl (v_load_old hX.st rfl tab_ok rfl rfl rfl (by assumption) (by assumption)) ?_; clear hX; intro a w hX))))))
                      all_goals (refine xl_cons ?_; (first | (refine y_guard0 hX rfl rfl rfl (by first | with_reducible rfl | with_reducible assumption | exact beq_self_eq_true _ | exact bne_self_eq_false _ | (show _ = true; with_reducible first | rfl | assumption) | (show _ = false; with_reducible first | rfl | assumption) | decide) rfl rfl ?_; clear hX; intro a w hX) | ((refine y_guard1 hX rfl rfl rfl (by first | with_reducible rfl | with_reducible assumption | exact beq_self_eq_true _ | exact bne_self_eq_false _ | (show _ = true; with_reducible first | rfl | assumption) | (show _ = false; with_reducible first | rfl | assumption) | decide) ?_); ((refine y_pure (d := 74) hX ⟨rfl, rfl⟩ rfl (p_neq hX.st rfl rfl rfl) ?_; clear hX; intro a w hX))) | (refine y_guardU hX rfl rfl rfl rfl rfl ?_; clear hX; intro a w hX) | ((refine y_gsplit hX rfl rfl rfl ?_ ?_) <;> intro hg <;> first | (refine y_guard0 hX rfl rfl rfl (by first | with_reducible rfl | with_reducible assumption | exact beq_self_eq_true _ | exact bne_self_eq_false _ | (show _ = true; with_reducible first | rfl | assumption) | (show _ = false; with_reducible first | rfl | assumption) | decide) rfl rfl ?_; clear hX; intro a w hX) | ((refine y_guard1 hX rfl rfl rfl (by first | with_reducible rfl | with_reducible assumption | exact beq_self_eq_true _ | exact bne_self_eq_false _ | (show _ = true; with_reducible first | rfl | assumption) | (show _ = false; with_reducible first | rfl | assumption) | decide) ?_); ((refine y_pure (d := 74) hX ⟨rfl, rfl⟩ rfl (p_neq hX.st rfl rfl rfl) ?_; clear hX; intro a w hX))))))
                      all_goals (refine xl_cons ?_; (first | (refine y_guard0 hX rfl rfl rfl (by first | with_reducible rfl | with_reducible assumption | exact beq_self_eq_true _ | exact bne_self_eq_false _ | (show _ = true; with_reducible first | rfl | assumption) | (show _ = false; with_reducible first | rfl | assumption) | decide) rfl rfl ?_; clear hX; intro a w hX) | ((refine y_guard1 hX rfl rfl rfl (by first | with_reducible rfl | with_reducible assumption | exact beq_self_eq_true _ | exact bne_self_eq_false _ | (show _ = true; with_reducible first | rfl | assumption) | (show _ = false; with_reducible first | rfl | assumption) | decide) ?_); (first | (refine y_pure (d := 75) hX ⟨rfl, rfl⟩ rfl (p_pick1 hX.st rfl rfl (by first | with_reducible rfl | with_reducible assumption | exact beq_self_eq_true _ | exact bne_self_eq_false _ | (show _ = true; with_reducible first | rfl | assumption) | (show _ = false; with_reducible first | rfl | assumption) | decide) rfl) ?_; clear hX; intro a w hX) | (refine y_pure (d := 75) hX ⟨rfl, rfl⟩ rfl (p_pick0 hX.st rfl rfl (by first | with_reducible rfl | with_reducible assumption | exact beq_self_eq_true _ | exact bne_self_eq_false _ | (show _ = true; with_reducible first | rfl | assumption) | (show _ = false; with_reducible first | rfl | assumption) | decide) rfl) ?_; clear hX; intro a w hX))) | (refine y_guardU hX rfl rfl rfl rfl rfl ?_; clear hX; intro a w hX) | ((refine y_gsplit hX rfl rfl rfl ?_ ?_) <;> intro hg <;> first | (refine y_guard0 hX rfl rfl rfl (by first | with_reducible rfl | with_reducible assumption | exact beq_self_eq_true _ | exact bne_self_eq_false _ | (show _ = true; with_reducible first | rfl | assumption) | (show _ = false; with_reducible first | rfl | assumption) | decide) rfl rfl ?_; clear hX; intro a w hX) | ((refine y_guard1 hX rfl rfl rfl (by first | with_reducible rfl | with_reducible assumption | exact beq_self_eq_true _ | exact bne_self_eq_false _ | (show _ = true; with_reducible first | rfl | assumption) | (show _ = false; with_reducible first | rfl | assumption) | decide) ?_); (first | (refine y_pure (d := 75) hX ⟨rfl, rfl⟩ rfl (p_pick1 hX.st rfl rfl (by first | with_reducible rfl | with_reducible assumption | exact beq_self_eq_true _ | exact bne_self_eq_false _ | (show _ = true; with_reducible first | rfl | assumption) | (show _ = false; with_reducible first | rfl | assumption) | decide) rfl) ?_; clear hX; intro a w hX) | (refine y_pure (d := 75) hX ⟨rfl, rfl⟩ rfl (p_pick0 hX.st rfl rfl (by first | with_reducible rfl | with_reducible assumption | exact beq_self_eq_true _ | exact bne_self_eq_false _ | (show _ = true; with_reducible first | rfl | assumption) | (show _ = false; with_reducible first | rfl | assumption) | decide) rfl) ?_; clear hX; intro a w hX))))))
                      all_goals (refine xl_cons ?_; (first | (refine y_pure (d := 76) hX ⟨rfl, rfl⟩ rfl (p_pick1 hX.st rfl rfl (by first | with_reducible rfl | with_reducible assumption | exact beq_self_eq_true _ | exact bne_self_eq_false _ | (show _ = true; with_reducible first | rfl | assumption) | (show _ = false; with_reducible first | rfl | assumption) | decide) rfl) ?_; clear hX; intro a w hX) | (refine y_pure (d := 76) hX ⟨rfl, rfl⟩ rfl (p_pick0 hX.st rfl rfl (by first | with_reducible rfl | with_reducible assumption | exact beq_self_eq_true _ | exact bne_self_eq_false _ | (show _ = true; with_reducible first | rfl | assumption) | (show _ = false; with_reducible first | rfl | assumption) | decide) rfl) ?_; clear hX; intro a w hX)))
                      all_goals
                        refine x_end ?_
                        refine ⟨rfl, ?_⟩
                        refine hX.to (Sub.cons (look_bool rfl ?_) (by repeat (first | exact Sub.nil | refine Sub.cons rfl ?_))) (Sel.refl _)
                        clear hX a w
                        simp only [bne_iff_ne, ne_eq, bne_eq_false_iff_eq, beq_iff_eq, beq_eq_false_iff_ne, decide_eq_true_eq, decide_eq_false_iff_not, Bool.not_eq_true', Bool.not_eq_false'] at *
                        simp_all [yarnBad] <;> first | omega | (rw [Bool.eq_iff_iff]; simp; omega) | (rw [Bool.eq_iff_iff]; simp; done)
                    ·
                      intro a w HM
                      have hX := HM
                      refine q_then ?_
                      refine c_cond hX rfl (fun hc => ?_) (fun hc => ?_)
                      ·
                        try (first | cases hc | exact (contra_tf hc (by with_reducible assumption)).elim | exact (contra_tf (by with_reducible assumption) hc).elim | exact absurd hc (by decide))
                        all_goals
                          refine wpIn_seq ?_
                          refine c_region ?_
                          refine xl_cons ?_; ((refine y_pure (d := 2) hX ⟨rfl, rfl⟩ rfl (p_assign hX.st rfl rfl) ?_; clear hX; intro a w hX))
                          refine x_end ?_
                          refine q_then ?_
                          refine c_ret ?_
                          refine q_then_ret ?_
                          refine f_ret1 hX Tryd.results52 rfl ⟨congrArg Value.bool ?_, hX.sh.sel Sel.nil⟩
                          clear hX a w
                          simp only [bne_iff_ne, ne_eq, bne_eq_false_iff_eq, beq_iff_eq, beq_eq_false_iff_ne, decide_eq_true_eq, decide_eq_false_iff_not, Bool.not_eq_true', Bool.not_eq_false'] at *
                          simp_all [opPlain] <;> first | omega | (rw [Bool.eq_iff_iff]; simp; omega) | (rw [Bool.eq_iff_iff]; simp; done)
                      ·
                        try (first | cases hc | exact (contra_tf hc (by with_reducible assumption)).elim | exact (contra_tf (by with_reducible assumption) hc).elim | exact absurd hc (by decide))
                        all_goals
                          refine c_skip ?_
                          refine q_then ?_
                          refine wpIn_seq ?_
                          refine c_region ?_
                          refine xl_cons ?_; (first | (refine y_pure (d := 77) hX ⟨rfl, rfl⟩ rfl (p_field0 hX.st rfl tab_ok rfl rfl rfl rfl rfl rfl) ?_; clear hX; intro a w hX) | (refine y_pure (d := 77) hX ⟨rfl, rfl⟩ rfl (p_field hX.st rfl tab_ok rfl rfl rfl rfl rfl rfl) ?_; clear hX; intro a w hX))
                          refine xl_cons ?_; (first | (refine y_read (d := 78) hX ⟨rfl, rfl⟩ rfl (v_load hX.st rfl tab_ok rfl rfl rfl foc0 rfl) ?_; clear hX; intro a w hX) | (refine y_read (d := 78) hX ⟨rfl, rfl⟩ rfl (v_load hX.st rfl tab_ok rfl rfl rfl foc1 rfl) ?_; clear hX; intro a w hX) | (refine y_read (d := 78) hX ⟨rfl, rfl⟩ rfl (v_load hX.st rfl tab_ok rfl rfl rfl foc2 rfl) ?_; clear hX; intro a w hX) | (refine y_read (d := 78) hX ⟨rfl, rfl⟩ rfl (v_load hX.st rfl tab_ok rfl rfl rfl foc3 rfl) ?_; clear hX; intro a w hX) | (refine y_read (d := 78) hX ⟨rfl, rfl⟩ rfl (v_load hX.st rfl tab_ok rfl rfl rfl foc4 rfl) ?_; clear hX; intro a w hX) | (refine y_read (d := 78) hX ⟨rfl, rfl⟩ rfl (v_load hX.st rfl tab_ok rfl rfl rfl foc5 rfl) ?_; clear hX; intro a w hX) | (refine y_read (d := 78) hX ⟨rfl, rfl⟩ rfl (v_load hX.st rfl tab_ok rfl rfl rfl foc6 rfl) ?_; clear hX; intro a w hX) | (refine y_read (d := 78) hX ⟨rfl, rfl⟩ rfl (v_load hX.st rfl tab_ok rfl rfl rfl foc7 rfl) ?_; clear hX; intro a w hX) | (refine y_read (d := 78) hX ⟨rfl, rfl⟩ rfl (v_load hX.st rfl tab_ok rfl rfl rfl foc8 rfl) ?_; clear hX; intro a w hX) | (refine y_read (d := 78) hX ⟨rfl, rfl⟩ rfl (v_load hX.st rfl tab_ok rfl rfl rfl foc9 rfl) ?_; clear hX; intro a w hX) | (refine y_read (d := 78) hX ⟨rfl, rfl⟩ rfl (v_load hX.st rfl tab_ok rfl rfl rfl foc10 rfl) ?_; clear hX; intro a w hX) | (refine y_read (d := 78) hX ⟨rfl, rfl⟩ rfl (v_load hX.st rfl tab_ok rfl rfl rfl foc11 rfl) ?_; clear hX; intro a w hX) | (refine y_read (d := 78) hX ⟨rfl, rfl⟩ rfl (v_load hX.st rfl tab_ok rfl rfl rfl foc12 rfl) ?_; clear hX; intro a w hX) | (refine y_read (d := 78) hX ⟨rfl, rfl⟩ rfl (v_load_old hX.st rfl tab_ok rfl rfl rfl (by assumption) (by assumption)) ?_; clear hX; intro a w hX))
                          refine xl_cons ?_; ((refine y_pure (d := 79) hX ⟨rfl, rfl⟩ rfl (p_move hX.st rfl rfl) ?_; clear hX; intro a w hX))
                          all_goals (refine xl_cons ?_; (first | (refine y_guard0 hX rfl rfl rfl (by first | with_reducible rfl | with_reducible assumption | exact beq_self_eq_true _ | exact bne_self_eq_false _ | (show _ = true; with_reducible first | rfl | assumption) | (show _ = false; with_reducible first | rfl | assumption) | decide) rfl rfl ?_; clear hX; intro a w hX) | ((refine y_guard1 hX rfl rfl rfl (by first | with_reducible rfl | with_reducible assumption | exact beq_self_eq_true _ | exact bne_self_eq_false _ | (show _ = true; with_reducible first | rfl | assumption) | (show _ = false; with_reducible first | rfl | assumption) | decide) ?_); (first | (refine y_pure (d := 80) hX ⟨rfl, rfl⟩ rfl (p_field0 hX.st rfl tab_ok rfl rfl rfl rfl rfl rfl) ?_; clear hX; intro a w hX) | (refine y_pure (d := 80) hX ⟨rfl, rfl⟩ rfl (p_field hX.st rfl tab_ok rfl rfl rfl rfl rfl rfl) ?_; clear hX; intro a w hX))) | (refine y_guardU hX rfl rfl rfl rfl rfl ?_; clear hX; intro a w hX) | ((refine y_gsplit hX rfl rfl rfl ?_ ?_) <;> intro hg <;> first | (refine y_guard0 hX rfl rfl rfl (by first | with_reducible rfl | with_reducible assumption | exact beq_self_eq_true _ | exact bne_self_eq_false _ | (show _ = true; with_reducible first | rfl | assumption) | (show _ = false; with_reducible first | rfl | assumption) | decide) rfl rfl ?_; clear hX; intro a w hX) | ((refine y_guard1 hX rfl rfl rfl (by first | with_reducible rfl | with_reducible assumption | exact beq_self_eq_true _ | exact bne_self_eq_false _ | (show _ = true; with_reducible first | rfl | assumption) | (show _ = false; with_reducible first | rfl | assumption) | decide) ?_); (first | (refine y_pure (d := 80) hX ⟨rfl, rfl⟩ rfl (p_field0 hX.st rfl tab_ok rfl rfl rfl rfl rfl rfl) ?_; clear hX; intro a w hX) | (refine y_pure (d := 80) hX ⟨rfl, rfl⟩ rfl (p_field hX.st rfl tab_ok rfl rfl rfl rfl rfl rfl) ?_; clear hX; intro a w hX))))))
                          all_goals (refine xl_cons ?_; (first | (refine y_guard0 hX rfl rfl rfl (by first | with_reducible rfl | with_reducible assumption | exact beq_self_eq_true _ | exact bne_self_eq_false _ | (show _ = true; with_reducible first | rfl | assumption) | (show _ = false; with_reducible first | rfl | assumption) | decide) rfl rfl ?_; clear hX; intro a w hX) | ((refine y_guard1 hX rfl rfl rfl (by first | with_reducible rfl | with_reducible assumption | exact beq_self_eq_true _ | exact bne_self_eq_false _ | (show _ = true; with_reducible first | rfl | assumption) | (show _ = false; with_reducible first | rfl | assumption) | decide) ?_); (first | (refine y_read (d := 81) hX ⟨rfl, rfl⟩ rfl (v_load hX.st rfl tab_ok rfl rfl rfl foc0 rfl) ?_; clear hX; intro a w hX) | (refine y_read (d := 81) hX ⟨rfl, rfl⟩ rfl (v_load hX.st rfl tab_ok rfl rfl rfl foc1 rfl) ?_; clear hX; intro a w hX) | (refine y_read (d := 81) hX ⟨rfl, rfl⟩ rfl (v_load hX.st rfl tab_ok rfl rfl rfl foc2 rfl) ?_; clear hX; intro a w hX) | (refine y_read (d := 81) hX ⟨rfl, rfl⟩ rfl (v_load hX.st rfl tab_ok rfl rfl rfl foc3 rfl) ?_; clear hX; intro a w hX) | (refine y_read (d := 81) hX ⟨rfl, rfl⟩ rfl (v_load hX.st rfl tab_ok rfl rfl rfl foc4 rfl) ?_; clear hX; intro a w hX) | (refine y_read (d := 81) hX ⟨rfl, rfl⟩ rfl (v_load hX.st rfl tab_ok rfl rfl rfl foc5 rfl) ?_; clear hX; intro a w hX) | (refine y_read (d := 81) hX ⟨rfl, rfl⟩ rfl (v_load hX.st rfl tab_ok rfl rfl rfl foc6 rfl) ?_; clear hX; intro a w hX) | (refine y_read (d := 81) hX ⟨rfl, rfl⟩ rfl (v_load hX.st rfl tab_ok rfl rfl rfl foc7 rfl) ?_; clear hX; intro a w hX) | (refine y_read (d := 81) hX ⟨rfl, rfl⟩ rfl (v_load hX.st rfl tab_ok rfl rfl rfl foc8 rfl) ?_; clear hX; intro a w hX) | (refine y_read (d := 81) hX ⟨rfl, rfl⟩ rfl (v_load hX.st rfl tab_ok rfl rfl rfl foc9 rfl) ?_; clear hX; intro a w hX) | (refine y_read (d := 81) hX ⟨rfl, rfl⟩ rfl (v_load hX.st rfl tab_ok rfl rfl rfl foc10 rfl) ?_; clear hX; intro a w hX) | (refine y_read (d := 81) hX ⟨rfl, rfl⟩ rfl (v_load hX.st rfl tab_ok rfl rfl rfl foc11 rfl) ?_; clear hX; intro a w hX) | (refine y_read (d := 81) hX ⟨rfl, rfl⟩ rfl (v_load hX.st rfl tab_ok rfl rfl rfl foc12 rfl) ?_; clear hX; intro a w hX) | (refine y_read (d := 81) hX ⟨rfl, rfl⟩ rfl (v_load_old hX.st rfl tab_ok rfl rfl rfl (by assumption) (by assumption)) ?_; clear hX; intro a w hX))) | (refine y_guardU hX rfl rfl rfl rfl rfl ?_; clear hX; intro a w hX) | ((refine y_gsplit hX rfl rfl rfl ?_ ?_) <;> intro hg <;> first | (refine y_guard0 hX rfl rfl rfl (by first | with_reducible rfl | with_reducible assumption | exact beq_self_eq_true _ | exact bne_self_eq_false _ | (show _ = true; with_reducible first | rfl | assumption) | (show _ = false; with_reducible first | rfl | assumption) | decide) rfl rfl ?_; clear hX; intro a w hX) | ((refine y_guard1 hX rfl rfl rfl (by first | with_reducible rfl | with_reducible assumption | exact beq_self_eq_true _ | exact bne_self_eq_false _ | (show _ = true; with_reducible first | rfl | assumption) | (show _ = false; with_reducible first | rfl | assumption) | decide) ?_); (first | (refine y_read (d := 81) hX ⟨rfl, rfl⟩ rfl (v_load hX.st rfl tab_ok rfl rfl rfl foc0 rfl) ?_; clear hX; intro a w hX) | (refine y_read (d := 81) hX ⟨rfl, rfl⟩ rfl (v_load hX.st rfl tab_ok rfl rfl rfl foc1 rfl) ?_; clear hX; intro a w hX) | (refine y_read (d := 81) hX ⟨rfl, rfl⟩ rfl (v_load hX.st rfl tab_ok rfl rfl rfl foc2 rfl) ?_; clear hX; intro a w hX) | (refine y_read (d := 81) hX ⟨rfl, rfl⟩ rfl (v_load hX.st rfl tab_ok rfl rfl rfl foc3 rfl) ?_; clear hX; intro a w hX) | (refine y_read (d := 81) hX ⟨rfl, rfl⟩ rfl (v_load hX.st rfl tab_ok rfl rfl rfl foc4 rfl) ?_; clear hX; intro a w hX) | (refine y_read (d := 81) hX ⟨rfl, rfl⟩ rfl (v_load hX.st rfl tab_ok rfl rfl rfl foc5 rfl) ?_; clear hX; intro a w hX) | (refine y_read (d := 81) hX ⟨rfl, rfl⟩ rfl (v_load hX.st rfl tab_ok rfl rfl rfl foc6 rfl) ?_; clear hX; intro a w hX) | (refine y_read (d := 81) hX ⟨rfl, rfl⟩ rfl (v_load hX.st rfl tab_ok rfl rfl rfl foc7 rfl) ?_; clear hX; intro a w hX) | (refine y_read (d := 81) hX ⟨rfl, rfl⟩ rfl (v_load hX.st rfl tab_ok rfl rfl rfl foc8 rfl) ?_; clear hX; intro a w hX) | (refine y_read (d := 81) hX ⟨rfl, rfl⟩ rfl (v_load hX.st rfl tab_ok rfl rfl rfl foc9 rfl) ?_; clear hX; intro a w hX) | (refine y_read (d := 81) hX ⟨rfl, rfl⟩ rfl (v_load hX.st rfl tab_ok rfl rfl rfl foc10 rfl) ?_; clear hX; intro a w hX) | (refine y_read (d := 81) hX ⟨rfl, rfl⟩ rfl (v_load hX.st rfl tab_ok rfl rfl rfl foc11 rfl) ?_; clear hX; intro a w hX) | (refine y_read (d := 81) hX ⟨rfl, rfl⟩ rfl (v_load hX.st rfl tab_ok rfl rfl rfl foc12 rfl) ?_; clear hX; intro a w hX) | (refine y_read (d := 81) hX ⟨rfl, rfl⟩ rfl (v_load_old hX.st rfl tab_ok rfl rfl rfl (by assumption) (by assumption)) ?_; clear hX; intro a w hX))))))
                          all_goals (refine xl_cons ?_; (first | (refine y_guard0 hX rfl rfl rfl (by first | with_reducible rfl | with_reducible assumption | exact beq_self_eq_true _ | exact bne_self_eq_false _ | (show _ = true; with_reducible first | rfl | assumption) | (show _ = false; with_reducible first | rfl | assumption) | decide) rfl rfl ?_; clear hX; intro a w hX) | ((refine y_guard1 hX rfl rfl rfl (by first | with_reducible rfl | with_reducible assumption | exact beq_self_eq_true _ | exact bne_self_eq_false _ | (show _ = true; with_reducible first | rfl | assumption) | (show _ = false; with_reducible first | rfl | assumption) | decide) ?_); ((refine y_pure (d := 82) hX ⟨rfl, rfl⟩ rfl (p_eql hX.st rfl rfl rfl) ?_; clear hX; intro a w hX))) | (refine y_guardU hX rfl rfl rfl rfl rfl ?_; clear hX; intro a w hX) | ((refine y_gsplit hX rfl rfl rfl ?_ ?_) <;> intro hg <;> first | (refine y_guard0 hX rfl rfl rfl (by first | with_reducible rfl | with_reducible assumption | exact beq_self_eq_true _ | exact bne_self_eq_false _ | (show _ = true; with_reducible first | rfl | assumption) | (show _ = false; with_reducible first | rfl | assumption) | decide) rfl rfl ?_; clear hX; intro a w hX) | ((refine y_guard1 hX rfl rfl rfl (by first | with_reducible rfl | with_reducible assumption | exact beq_self_eq_true _ | exact bne_self_eq_false _ | (show _ = true; with_reducible first | rfl | assumption) | (show _ = false; with_reducible first | rfl | assumption) | decide) ?_); ((refine y_pure (d := 82) hX ⟨rfl, rfl⟩ rfl (p_eql hX.st rfl rfl rfl) ?_; clear hX; intro a w hX))))))
                          all_goals (refine xl_cons ?_; (first | (refine y_pure (d := 83) hX ⟨rfl, rfl⟩ rfl (p_pick1 hX.st rfl rfl (by first | with_reducible rfl | with_reducible assumption | exact beq_self_eq_true _ | exact bne_self_eq_false _ | (show _ = true; with_reducible first | rfl | assumption) | (show _ = false; with_reducible first | rfl | assumption) | decide) rfl) ?_; clear hX; intro a w hX) | (refine y_pure (d := 83) hX ⟨rfl, rfl⟩ rfl (p_pick0 hX.st rfl rfl (by first | with_reducible rfl | with_reducible assumption | exact beq_self_eq_true _ | exact bne_self_eq_false _ | (show _ = true; with_reducible first | rfl | assumption) | (show _ = false; with_reducible first | rfl | assumption) | decide) rfl) ?_; clear hX; intro a w hX)))
                          all_goals (refine xl_cons ?_; ((refine y_pure (d := 2) hX ⟨rfl, rfl⟩ rfl (p_assign hX.st rfl rfl) ?_; clear hX; intro a w hX)))
                          all_goals
                            refine x_end ?_
                            refine q_then ?_
                            refine c_ret ?_
                            refine f_ret1 hX Tryd.results52 rfl ⟨congrArg Value.bool ?_, hX.sh.sel Sel.nil⟩
                            clear hX a w
                            simp only [bne_iff_ne, ne_eq, bne_eq_false_iff_eq, beq_iff_eq, beq_eq_false_iff_ne, decide_eq_true_eq, decide_eq_false_iff_not, Bool.not_eq_true', Bool.not_eq_false'] at *
                            simp_all [opPlain] <;> first | omega | (rw [Bool.eq_iff_iff]; simp; omega) | (rw [Bool.eq_iff_iff]; simp; done)


def opErr (o : OpP) : Int := if opPlain o then (if o.rack < -4 ∨ 4 < o.rack then 11 else 0) else 1

theorem op_check (o : OpP) (W : World) :
    Ret Tryd.prog 44 #[.agg (opC o).toArray] W fun v w' => v = .int .i64 (opErr o) ∧ SF W [] w' := by
  refine f_start (vs := [.agg (opC o).toArray]) [(0, .agg (opC o).toArray)] Tryd.func44 rfl Tryd.ntmps44 rfl rfl ?_
  intro a hX
  refine wpIn_seq ?_
  refine c_region ?_
  refine xl_cons ?_; (first | (refine y_box_agg (d := 1) hX rfl ⟨rfl, rfl⟩ rfl rfl ?_; clear hX; intro b a w hX) | (refine y_box_one (d := 1) hX rfl ⟨rfl, rfl⟩ rfl rfl rfl ?_; clear hX; intro b a w hX))
  refine xl_cons ?_; ((refine y_pure (d := 2) hX ⟨rfl, rfl⟩ rfl (p_assign hX.st rfl rfl) ?_; clear hX; intro a w hX))
  refine x_end ?_
  refine q_then ?_
  refine wpIn_seq ?_
  refine wpIn_seq ?_
  refine c_region ?_
  refine xl_cons ?_; ((refine y_read (d := 3) hX ⟨rfl, rfl⟩ rfl (v_load_whole hX.st rfl tab_ok rfl rfl rfl foc0 rfl) ?_; clear hX; intro a w hX))
  refine xl_cons ?_; (refine y_callP (d := 4) hX rfl ⟨rfl, rfl⟩ rfl Tryd.func52 rfl rfl rfl (plain_any o _) ?_; clear hX; intro a w hX)
  refine xl_cons ?_; ((refine y_pure (d := 5) hX ⟨rfl, rfl⟩ rfl (p_not hX.st rfl rfl) ?_; clear hX; intro a w hX))
  refine x_end ?_
  refine q_then ?_
  refine c_cond hX rfl (fun hc => ?_) (fun hc => ?_)
  ·
    try (first | cases hc | exact (contra_tf hc (by with_reducible assumption)).elim | exact (contra_tf (by with_reducible assumption) hc).elim | exact absurd hc (by decide))
    all_goals
      refine wpIn_seq ?_
      refine c_region ?_
      refine xl_cons ?_; ((refine y_pure (d := 2) hX ⟨rfl, rfl⟩ rfl (p_assign hX.st rfl rfl) ?_; clear hX; intro a w hX))
      refine x_end ?_
      refine q_then ?_
      refine c_ret ?_
      refine q_then_ret ?_
      refine f_ret1 hX Tryd.results44 rfl ⟨congrArg (Value.int .i64) ?_, hX.sh.sel Sel.nil⟩
      clear hX a w
      simp only [decide_eq_true_eq, decide_eq_false_iff_not, Bool.not_eq_true', Bool.not_eq_false'] at *
      simp only [opErr, *]
      simp
      try omega
  ·
    try (first | cases hc | exact (contra_tf hc (by with_reducible assumption)).elim | exact (contra_tf (by with_reducible assumption) hc).elim | exact absurd hc (by decide))
    all_goals
      refine c_skip ?_
      refine q_then ?_
      refine wpIn_seq ?_
      refine wpIn_seq ?_
      refine c_region ?_
      refine xl_cons ?_; ((refine y_pure (d := 6) hX ⟨rfl, rfl⟩ rfl (p_field0 hX.st rfl tab_ok rfl rfl rfl rfl rfl rfl) ?_; clear hX; intro a w hX))
      refine xl_cons ?_; ((refine y_read (d := 7) hX ⟨rfl, rfl⟩ rfl (v_load hX.st rfl tab_ok rfl rfl rfl foc0 rfl) ?_; clear hX; intro a w hX))
      refine xl_cons ?_; ((refine y_pure (d := 8) hX ⟨rfl, rfl⟩ rfl (p_lss hX.st rfl rfl rfl) ?_; clear hX; intro a w hX))
      refine xl_cons ?_; ((refine y_pure (d := 9) hX ⟨rfl, rfl⟩ rfl (p_move hX.st rfl rfl) ?_; clear hX; intro a w hX))
      all_goals (refine xl_cons ?_; (first | (refine y_guard0 hX rfl rfl rfl (by first | with_reducible rfl | with_reducible assumption | exact beq_self_eq_true _ | exact bne_self_eq_false _ | (show _ = true; with_reducible first | rfl | assumption) | (show _ = false; with_reducible first | rfl | assumption) | decide) rfl rfl ?_; clear hX; intro a w hX) | ((refine y_guard1 hX rfl rfl rfl (by first | with_reducible rfl | with_reducible assumption | exact beq_self_eq_true _ | exact bne_self_eq_false _ | (show _ = true; with_reducible first | rfl | assumption) | (show _ = false; with_reducible first | rfl | assumption) | decide) ?_); ((refine y_pure (d := 10) hX ⟨rfl, rfl⟩ rfl (p_field0 hX.st rfl tab_ok rfl rfl rfl rfl rfl rfl) ?_; clear hX; intro a w hX))) | (refine y_guardU hX rfl rfl rfl rfl rfl ?_; clear hX; intro a w hX) | ((refine y_gsplit hX rfl rfl rfl ?_ ?_) <;> intro hg <;> first | (refine y_guard0 hX rfl rfl rfl (by first | with_reducible rfl | with_reducible assumption | exact beq_self_eq_true _ | exact bne_self_eq_false _ | (show _ = true; with_reducible first | rfl | assumption) | (show _ = false; with_reducible first | rfl | assumption) | decide) rfl rfl ?_; clear hX; intro a w hX) | ((refine y_guard1 hX rfl rfl rfl (by first | with_reducible rfl | with_reducible assumption | exact beq_self_eq_true _ | exact bne_self_eq_false _ | (show _ = true; with_reducible first | rfl | assumption) | (show _ = false; with_reducible first | rfl | assumption) | decide) ?_); ((refine y_pure (d := 10) hX ⟨rfl, rfl⟩ rfl (p_field0 hX.st rfl tab_ok rfl rfl rfl rfl rfl rfl) ?_; clear hX; intro a w hX))))))
      all_goals (refine xl_cons ?_; (first | (refine y_guard0 hX rfl rfl rfl (by first | with_reducible rfl | with_reducible assumption | exact beq_self_eq_true _ | exact bne_self_eq_false _ | (show _ = true; with_reducible first | rfl | assumption) | (show _ = false; with_reducible first | rfl | assumption) | decide) rfl rfl ?_; clear hX; intro a w hX) | ((refine y_guard1 hX rfl rfl rfl (by first | with_reducible rfl | with_reducible assumption | exact beq_self_eq_true _ | exact bne_self_eq_false _ | (show _ = true; with_reducible first | rfl | assumption) | (show _ = false; with_reducible first | rfl | assumption) | decide) ?_); ((refine y_read (d := 11) hX ⟨rfl, rfl⟩ rfl (v_load hX.st rfl tab_ok rfl rfl rfl foc0 rfl) ?_; clear hX; intro a w hX))) | (refine y_guardU hX rfl rfl rfl rfl rfl ?_; clear hX; intro a w hX) | ((refine y_gsplit hX rfl rfl rfl ?_ ?_) <;> intro hg <;> first | (refine y_guard0 hX rfl rfl rfl (by first | with_reducible rfl | with_reducible assumption | exact beq_self_eq_true _ | exact bne_self_eq_false _ | (show _ = true; with_reducible first | rfl | assumption) | (show _ = false; with_reducible first | rfl | assumption) | decide) rfl rfl ?_; clear hX; intro a w hX) | ((refine y_guard1 hX rfl rfl rfl (by first | with_reducible rfl | with_reducible assumption | exact beq_self_eq_true _ | exact bne_self_eq_false _ | (show _ = true; with_reducible first | rfl | assumption) | (show _ = false; with_reducible first | rfl | assumption) | decide) ?_); ((refine y_read (d := 11) hX ⟨rfl, rfl⟩ rfl (v_load hX.st rfl tab_ok rfl rfl rfl foc0 rfl) ?_; clear hX; intro a w hX))))))
      all_goals (refine xl_cons ?_; (first | (refine y_guard0 hX rfl rfl rfl (by first | with_reducible rfl | with_reducible assumption | exact beq_self_eq_true _ | exact bne_self_eq_false _ | (show _ = true; with_reducible first | rfl | assumption) | (show _ = false; with_reducible first | rfl | assumption) | decide) rfl rfl ?_; clear hX; intro a w hX) | ((refine y_guard1 hX rfl rfl rfl (by first | with_reducible rfl | with_reducible assumption | exact beq_self_eq_true _ | exact bne_self_eq_false _ | (show _ = true; with_reducible first | rfl | assumption) | (show _ = false; with_reducible first | rfl | assumption) | decide) ?_); ((refine y_pure (d := 12) hX ⟨rfl, rfl⟩ rfl (p_gtr hX.st rfl rfl rfl) ?_; clear hX; intro a w hX))) | (refine y_guardU hX rfl rfl rfl rfl rfl ?_; clear hX; intro a w hX) | ((refine y_gsplit hX rfl rfl rfl ?_ ?_) <;> intro hg <;> first | (refine y_guard0 hX rfl rfl rfl (by first | with_reducible rfl | with_reducible assumption | exact beq_self_eq_true _ | exact bne_self_eq_false _ | (show _ = true; with_reducible first | rfl | assumption) | (show _ = false; with_reducible first | rfl | assumption) | decide) rfl rfl ?_; clear hX; intro a w hX) | ((refine y_guard1 hX rfl rfl rfl (by first | with_reducible rfl | with_reducible assumption | exact beq_self_eq_true _ | exact bne_self_eq_false _ | (show _ = true; with_reducible first | rfl | assumption) | (show _ = false; with_reducible first | rfl | assumption) | decide) ?_); ((refine y_pure (d := 12) hX ⟨rfl, rfl⟩ rfl (p_gtr hX.st rfl rfl rfl) ?_; clear hX; intro a w hX))))))
      all_goals (refine xl_cons ?_; (first | (refine y_pure (d := 13) hX ⟨rfl, rfl⟩ rfl (p_pick1 hX.st rfl rfl (by first | with_reducible rfl | with_reducible assumption | exact beq_self_eq_true _ | exact bne_self_eq_false _ | (show _ = true; with_reducible first | rfl | assumption) | (show _ = false; with_reducible first | rfl | assumption) | decide) rfl) ?_; clear hX; intro a w hX) | (refine y_pure (d := 13) hX ⟨rfl, rfl⟩ rfl (p_pick0 hX.st rfl rfl (by first | with_reducible rfl | with_reducible assumption | exact beq_self_eq_true _ | exact bne_self_eq_false _ | (show _ = true; with_reducible first | rfl | assumption) | (show _ = false; with_reducible first | rfl | assumption) | decide) rfl) ?_; clear hX; intro a w hX)))
      all_goals
        refine x_end ?_
        refine q_then ?_
        refine c_cond hX rfl (fun hc => ?_) (fun hc => ?_)
        ·
          try (first | cases hc | exact (contra_tf hc (by with_reducible assumption)).elim | exact (contra_tf (by with_reducible assumption) hc).elim | exact absurd hc (by decide))
          all_goals
            refine wpIn_seq ?_
            refine c_region ?_
            refine xl_cons ?_; ((refine y_pure (d := 2) hX ⟨rfl, rfl⟩ rfl (p_assign hX.st rfl rfl) ?_; clear hX; intro a w hX))
            refine x_end ?_
            refine q_then ?_
            refine c_ret ?_
            refine q_then_ret ?_
            refine f_ret1 hX Tryd.results44 rfl ⟨congrArg (Value.int .i64) ?_, hX.sh.sel Sel.nil⟩
            clear hX a w
            simp only [decide_eq_true_eq, decide_eq_false_iff_not, Bool.not_eq_true', Bool.not_eq_false'] at *
            simp only [opErr, *]
            simp
            try omega
        ·
          try (first | cases hc | exact (contra_tf hc (by with_reducible assumption)).elim | exact (contra_tf (by with_reducible assumption) hc).elim | exact absurd hc (by decide))
          all_goals
            refine c_skip ?_
            refine q_then ?_
            refine wpIn_seq ?_
            refine c_region ?_
            refine xl_cons ?_; ((refine y_pure (d := 2) hX ⟨rfl, rfl⟩ rfl (p_assign hX.st rfl rfl) ?_; clear hX; intro a w hX))
            refine x_end ?_
            refine q_then ?_
            refine c_ret ?_
            refine f_ret1 hX Tryd.results44 rfl ⟨congrArg (Value.int .i64) ?_, hX.sh.sel Sel.nil⟩
            clear hX a w
            simp only [decide_eq_true_eq, decide_eq_false_iff_not, Bool.not_eq_true', Bool.not_eq_false'] at *
            simp only [opErr, *]
            simp
            try omega

end Go.Proofs.YtcjpcmofajcadaaDoor

/- Contracts of Go's library, laid at this program (printed by the kit's lay-plain.mjs). -/
namespace Go.Proofs
open Go.Shelf
def Tryd.laysItoa_ren : Go.Shelf.Ren := ⟨fun | 171 => 45 | 243 => 53 | 246 => 62 | 283 => 67 | 284 => 68 | 285 => 69 | 286 => 70 | 129 => 83 | 317 => 84 | 318 => 85 | 319 => 86 | 320 => 87 | 337 => 94 | 338 => 95 | n => n, fun | 3 => 3 | 9 => 9 | 2 => 2 | 4 => 4 | 171 => 130 | 0 => 0 | 53 => 131 | 37 => 42 | 5 => 5 | 173 => 134 | 212 => 151 | 51 => 149 | 20 => 20 | 213 => 152 | 46 => 129 | 232 => 164 | 233 => 165 | n => n, fun | 17 => 2 | 18 => 4 | 19 => 5 | n => n⟩
theorem Tryd.laysItoa : Go.Proofs.LaysM.n171 Tryd.prog Tryd.laysItoa_ren := {
  mixed := by kernel_rfl
  f129 := Tryd.func83.trans (congrArg some (by kernel_rfl))
  f171 := Tryd.func45.trans (congrArg some (by kernel_rfl))
  f243 := Tryd.func53.trans (congrArg some (by kernel_rfl))
  f246 := Tryd.func62.trans (congrArg some (by kernel_rfl))
  f283 := Tryd.func67.trans (congrArg some (by kernel_rfl))
  f284 := Tryd.func68.trans (congrArg some (by kernel_rfl))
  f285 := Tryd.func69.trans (congrArg some (by kernel_rfl))
  f286 := Tryd.func70.trans (congrArg some (by kernel_rfl))
  f317 := Tryd.func84.trans (congrArg some (by kernel_rfl))
  f318 := Tryd.func85.trans (congrArg some (by kernel_rfl))
  f319 := Tryd.func86.trans (congrArg some (by kernel_rfl))
  f320 := Tryd.func87.trans (congrArg some (by kernel_rfl))
  f337 := Tryd.func94.trans (congrArg some (by kernel_rfl))
  f338 := Tryd.func95.trans (congrArg some (by kernel_rfl))
  t0 := Tryd.underlying0
  a0 := Tryd.isAgg0
  z0 := Tryd.sizeOf0
  v0 := Tryd.zeroValue0
  t2 := Tryd.underlying2
  a2 := Tryd.isAgg2
  z2 := Tryd.sizeOf2
  v2 := Tryd.zeroValue2
  t3 := Tryd.underlying3
  a3 := Tryd.isAgg3
  z3 := Tryd.sizeOf3
  v3 := Tryd.zeroValue3
  t4 := Tryd.underlying4
  a4 := Tryd.isAgg4
  z4 := Tryd.sizeOf4
  v4 := Tryd.zeroValue4
  t5 := Tryd.underlying5
  a5 := Tryd.isAgg5
  z5 := Tryd.sizeOf5
  v5 := Tryd.zeroValue5
  t9 := Tryd.underlying9
  a9 := Tryd.isAgg9
  z9 := Tryd.sizeOf9
  v9 := Tryd.zeroValue9
  t20 := Tryd.underlying20
  a20 := Tryd.isAgg20
  z20 := Tryd.sizeOf20
  v20 := Tryd.zeroValue20
  t37 := Tryd.underlying42
  a37 := Tryd.isAgg42
  z37 := Tryd.sizeOf42
  v37 := Tryd.zeroValue42
  t46 := Tryd.underlying129
  a46 := Tryd.isAgg129
  z46 := Tryd.sizeOf129
  v46 := Tryd.zeroValue129
  t51 := Tryd.underlying149
  a51 := Tryd.isAgg149
  z51 := Tryd.sizeOf149
  v51 := Tryd.zeroValue149
  t53 := Tryd.underlying131
  a53 := Tryd.isAgg131
  z53 := Tryd.sizeOf131
  v53 := Tryd.zeroValue131
  t171 := Tryd.underlying130
  a171 := Tryd.isAgg130
  z171 := Tryd.sizeOf130
  v171 := Tryd.zeroValue130
  t173 := Tryd.underlying134
  a173 := Tryd.isAgg134
  z173 := Tryd.sizeOf134
  v173 := Tryd.zeroValue134
  t212 := Tryd.underlying151
  a212 := Tryd.isAgg151
  z212 := Tryd.sizeOf151
  v212 := Tryd.zeroValue151
  t213 := Tryd.underlying152
  a213 := Tryd.isAgg152
  z213 := Tryd.sizeOf152
  t232 := Tryd.underlying164
  a232 := Tryd.isAgg164
  z232 := Tryd.sizeOf164
  v232 := Tryd.zeroValue164
  t233 := Tryd.underlying165
  a233 := Tryd.isAgg165
  z233 := Tryd.sizeOf165
  v233 := Tryd.zeroValue165
  g17 := by kernel_rfl
  g18 := by kernel_rfl
  g19 := by kernel_rfl
  i0 := by kernel_rfl
  i2 := by kernel_rfl
  i3 := by kernel_rfl
  i4 := by kernel_rfl
  i5 := by kernel_rfl
  i9 := by kernel_rfl
  i20 := by kernel_rfl
  i37 := by kernel_rfl
  i46 := by kernel_rfl
  i51 := by kernel_rfl
  i53 := by kernel_rfl
  i171 := by kernel_rfl
  i173 := by kernel_rfl
  i212 := by kernel_rfl
  i232 := by kernel_rfl
  i233 := by kernel_rfl
  m17 := by kernel_rfl
  m18 := by kernel_rfl
  m19 := by kernel_rfl }
def Tryd.laysJoin_ren : Go.Shelf.Ren := ⟨fun | 156 => 47 | 165 => 55 | 166 => 56 | 169 => 57 | 240 => 63 | 241 => 64 | 276 => 71 | 277 => 72 | n => n, fun | 31 => 83 | 9 => 9 | 3 => 3 | 4 => 4 | 0 => 0 | 20 => 20 | 72 => 110 | 76 => 113 | 70 => 108 | 37 => 42 | 75 => 112 | 127 => 126 | 164 => 136 | 5 => 5 | 80 => 115 | n => n, fun | n => n⟩
theorem Tryd.laysJoin : Go.Proofs.Lays.n156 Tryd.prog Tryd.laysJoin_ren := {
  mixed := by kernel_rfl
  f156 := Tryd.func47.trans (congrArg some (by kernel_rfl))
  f165 := Tryd.func55.trans (congrArg some (by kernel_rfl))
  f166 := Tryd.func56.trans (congrArg some (by kernel_rfl))
  f169 := Tryd.func57.trans (congrArg some (by kernel_rfl))
  f240 := Tryd.func63.trans (congrArg some (by kernel_rfl))
  f241 := Tryd.func64.trans (congrArg some (by kernel_rfl))
  f276 := Tryd.func71.trans (congrArg some (by kernel_rfl))
  f277 := Tryd.func72.trans (congrArg some (by kernel_rfl))
  t0 := Tryd.underlying0
  a0 := Tryd.isAgg0
  z0 := Tryd.sizeOf0
  v0 := Tryd.zeroValue0
  t3 := Tryd.underlying3
  a3 := Tryd.isAgg3
  z3 := Tryd.sizeOf3
  v3 := Tryd.zeroValue3
  t4 := Tryd.underlying4
  a4 := Tryd.isAgg4
  z4 := Tryd.sizeOf4
  v4 := Tryd.zeroValue4
  t9 := Tryd.underlying9
  a9 := Tryd.isAgg9
  z9 := Tryd.sizeOf9
  v9 := Tryd.zeroValue9
  t20 := Tryd.underlying20
  a20 := Tryd.isAgg20
  z20 := Tryd.sizeOf20
  v20 := Tryd.zeroValue20
  t31 := Tryd.underlying83
  a31 := Tryd.isAgg83
  z31 := Tryd.sizeOf83
  v31 := Tryd.zeroValue83
  t37 := Tryd.underlying42
  a37 := Tryd.isAgg42
  z37 := Tryd.sizeOf42
  v37 := Tryd.zeroValue42
  t70 := Tryd.underlying108
  a70 := Tryd.isAgg108
  z70 := Tryd.sizeOf108
  v70 := Tryd.zeroValue108
  t72 := Tryd.underlying110
  a72 := Tryd.isAgg110
  z72 := Tryd.sizeOf110
  v72 := Tryd.zeroValue110
  t75 := Tryd.underlying112
  a75 := Tryd.isAgg112
  z75 := Tryd.sizeOf112
  v75 := Tryd.zeroValue112
  t76 := Tryd.underlying113
  a76 := Tryd.isAgg113
  z76 := Tryd.sizeOf113
  v76 := Tryd.zeroValue113
  t127 := Tryd.underlying126
  a127 := Tryd.isAgg126
  z127 := Tryd.sizeOf126
  v127 := Tryd.zeroValue126
  t164 := Tryd.underlying136
  a164 := Tryd.isAgg136
  z164 := Tryd.sizeOf136
  v164 := Tryd.zeroValue136 }
theorem Tryd.bldExtra : Builder.Extra Tryd.prog Tryd.laysJoin_ren := {
  sizeBuilder := by kernel_rfl
  liesBuilder := by kernel_rfl
  t5 := Tryd.underlying5
  a5 := Tryd.isAgg5
  z5 := Tryd.sizeOf5
  v5 := Tryd.zeroValue5
  infoByte := by kernel_rfl
  cellsByte := by kernel_rfl
  sizeByte := by kernel_rfl
  neB5 := by decide }
end Go.Proofs

/- Texts: strconv.Itoa, strings.Join; operations.Check. -/
namespace Go.Proofs.YtcjpcmofajcadaaDoor
open Go.RowKit
theorem strV_mk (l : List UInt8) : strV l = .string ⟨l.toArray⟩ := rfl
theorem drewN_heap (w : World) : ∀ k, (w.drewN k).heap = w.heap ∧ (w.drewN k).os = w.os ∧ (w.drewN k).tape = w.tape ∧ (w.drewN k).output = w.output := fun k => ⟨rfl, rfl, rfl, rfl⟩
theorem below_grew (w : World) (k : Nat) (os : Array Obj) : Below w.heap.size w (Sort.grow (w.drewN k) os) := by
  obtain ⟨h1, h2, h3, h4⟩ := drewN_heap w k
  refine ⟨h2, h3, h4, ?_, fun j hj => ?_⟩
  · show w.heap.size ≤ ((w.drewN k).heap ++ os).size
    rw [h1, Array.size_append]; omega
  · show ((w.drewN k).heap ++ os)[j]? = _
    rw [h1, Array.getElem?_append_left hj]
theorem itoa_ok (n : Int) (h0 : -9223372036854775808 ≤ n) (h1 : n ≤ 9223372036854775807) : AC cx 45 [.c (.val (.int .i64 n))] [] (fun sv h => sv = .c (.str (Lib.itoa n)) ∧ h = []) := by
  refine AC.ofRet (v0 := strV (Lib.itoa n)) (fun _ _ _ => rfl) ?_
  rintro env B w0 _ W hg ⟨v, r, rfl, hv, hr⟩ hB
  have e1 : v = _ := hv
  have e2 : r = [] := hr
  subst e1 e2
  refine Calls.mono (Any.strconv_Itoa Tryd.laysItoa n h0 h1 W ((hg 2 _ rfl).tab (by kernel_rfl))) ?_
  rintro e w' ⟨rfl, k, os, rfl⟩
  exact ⟨_, rfl, rfl, below_grew _ _ _⟩
theorem join_ok (l : List (List UInt8)) (cap : Option Nat) (sep : List UInt8) (h0 : 0 < l.length) (h1 : l.length ≤ 1000000) (h2 : (Lib.join l sep).length ≤ 1000000000) : AC cx 47 [.c (.lst .str l cap), .c (.str sep)] [] (fun sv h => sv = .c (.str (Lib.join l sep)) ∧ h = []) := by
  refine AC.ofRet (v0 := strV (Lib.join l sep)) (fun _ _ _ => rfl) ?_
  rintro env B w0 _ W hg ⟨v, r, rfl, ⟨A, c, xs, rfl, hc1, hc2, _, hf, hrd, hrb⟩, v2, r2, rfl, hv2, hr2⟩ hB
  have e1 : v2 = strV sep := hv2
  have e2 : r2 = [] := hr2
  subst e1 e2
  obtain ⟨b, p, e, hcell⟩ := hrd.2 h0
  subst e
  have hxs := flat_strs hf
  have hmap : (l.map fun x => (⟨x.toArray⟩ : ByteArray)).map (·.data.toList) = l := by
    rw [List.map_map]
    exact (List.map_congr_left (fun x _ => rfl)).trans (List.map_id' l)
  have hJ := Any.strings_Join_48 Tryd.laysJoin Tryd.bldExtra b p c (l.map fun x => ⟨x.toArray⟩) ⟨sep.toArray⟩ W (fun j x hx => by
    refine hcell j _ ?_
    rw [hxs]
    rw [List.getElem?_map] at hx ⊢
    cases hl : l[j]? with
    | none => rw [hl] at hx; cases hx
    | some y => rw [hl] at hx; cases hx; rfl) (hB b (hrb b p h0 rfl)) (by rw [List.length_map]; omega) (by rw [List.length_map]; exact hc1) (by rw [hmap]; show (Lib.join l sep).length ≤ _; omega)
  rw [hmap, List.length_map] at hJ
  refine Calls.mono hJ ?_
  rintro e w' ⟨rfl, hb⟩
  exact ⟨_, rfl, rfl, hb⟩
/-- Small numbers. -/
def digS (u : Nat) : List UInt8 := if u < 10 then [UInt8.ofNat (48 + u)] else [UInt8.ofNat (48 + u / 10), UInt8.ofNat (48 + u % 10)]
def itS (n : Int) : List UInt8 := if n < 0 then 45 :: digS n.natAbs else digS n.toNat
theorem digS_eq (u : Nat) (h : u < 100) : Lib.decDigits u = digS u := by
  unfold digS
  split
  · rename_i h1
    rw [Lib.decDigits]
    simp [h1]
  · rename_i h1
    rw [Lib.decDigits]
    simp [h1]
    rw [Lib.decDigits]
    have : u / 10 < 10 := by omega
    simp [this]
theorem itS_eq (n : Int) (h0 : -100 < n) (h1 : n < 100) : Lib.itoa n = itS n := by
  unfold Lib.itoa itS
  rw [digS_eq _ (by omega), digS_eq _ (by omega)]
theorem itS_len (n : Int) : (itS n).length ≤ 3 := by
  unfold itS digS
  repeat' split
  all_goals simp
theorem itoaS_ok (n : Int) (h0 : -100 < n) (h1 : n < 100) : AC cx 45 [.c (.val (.int .i64 n))] [] (fun sv h => sv = .c (.str (itS n)) ∧ h = []) := by
  have := itoa_ok n (by omega) (by omega)
  rw [itS_eq n h0 h1] at this
  exact this
/-- The cells of an operation. -/
abbrev opArg (o : OpT) : SA := .agg [.val (.int .u8 o.1), .val (.int .u8 o.2.1), .val (.int .u8 o.2.2.1.1), .val (.int .i64 o.2.2.1.2), .val (.int .u8 o.2.2.2.1), .val (.int .i64 o.2.2.2.2)]
def toP (o : OpT) : OpP := ⟨o.1.toNat, o.2.1.toNat, o.2.2.1.1.toNat, o.2.2.1.2, o.2.2.2.1.toNat, o.2.2.2.2⟩
/-- Numbers of kind uint8 are not negative. -/
def OpN (o : OpT) : Prop := 0 ≤ o.1 ∧ 0 ≤ o.2.1 ∧ 0 ≤ o.2.2.1.1 ∧ 0 ≤ o.2.2.2.1
theorem sf_below {W w' : World} (h : SF W [] w') : Below W.heap.size W w' := ⟨h.below.os, h.below.tape, h.below.output, h.below.size, h.below.block⟩
theorem ncheck_ok (b p : Int) (hb : 0 ≤ b) : AC cx 54 [.agg [.val (.int .u8 b), .val (.int .i64 p)]] [] (fun sv h => sv = .c (.val (.int .i64 (needleErr b.toNat p))) ∧ h = []) := by
  refine AC.ofRet (v0 := .int .i64 (needleErr b.toNat p)) (fun _ _ _ => rfl) ?_
  rintro env B w0 _ W hg ⟨v, r, rfl, ⟨cs, rfl, v1, r1, rfl, h1, v2, r2, rfl, h2, h3⟩, hr⟩ hB
  have e1 : v1 = _ := h1
  have e2 : v2 = _ := h2
  have e3 : r2 = [] := h3
  have e4 : r = [] := hr
  subst e1 e2 e3 e4
  have hn := needles_check b.toNat p W
  rw [Int.toNat_of_nonneg hb] at hn
  exact hn.mono fun v w' ⟨e, h⟩ => ⟨e, sf_below h⟩
theorem opcheck_ok (o : OpT) (h : OpN o) : AC cx 44 [opArg o] [] (fun sv h => sv = .c (.val (.int .i64 (opErr (toP o)))) ∧ h = []) := by
  refine AC.ofRet (v0 := .int .i64 (opErr (toP o))) (fun _ _ _ => rfl) ?_
  rintro env B w0 _ W hg ⟨v, r, rfl, ⟨cs, rfl, v1, r1, rfl, h1, v2, r2, rfl, h2, v3, r3, rfl, h3, v4, r4, rfl, h4, v5, r5, rfl, h5, v6, r6, rfl, h6, h7⟩, hr⟩ hB
  have e1 : v1 = _ := h1
  have e2 : v2 = _ := h2
  have e3 : v3 = _ := h3
  have e4 : v4 = _ := h4
  have e5 : v5 = _ := h5
  have e6 : v6 = _ := h6
  have e7 : r6 = [] := h7
  have e8 : r = [] := hr
  subst e1 e2 e3 e4 e5 e6 e7 e8
  have hn := op_check (toP o) W
  obtain ⟨g1, g2, g3, g4⟩ := h
  simp only [opC, toP, Int.toNat_of_nonneg g1, Int.toNat_of_nonneg g2, Int.toNat_of_nonneg g3, Int.toNat_of_nonneg g4] at hn
  exact hn.mono fun v w' ⟨e, h⟩ => ⟨e, sf_below h⟩
def needleT (b p : Int) : List UInt8 := if needleOk b.toNat p then (if b = 0 then 102 :: itS p else 98 :: itS p) else []
theorem needle_bounds {b : Nat} {p : Int} (h : needleOk b p = true) : b ≤ 1 ∧ 1 ≤ p ∧ p ≤ 40 := by
  simp [needleOk] at h
  omega
theorem needleT_len (b p : Int) : (needleT b p).length ≤ 4 := by
  unfold needleT
  split
  · rename_i h
    have := needle_bounds h
    have := itS_len p
    split <;> simp <;> omega
  · simp
theorem ntext_ok (b p : Int) (hb : 0 ≤ b) : AC cx 46 [.agg [.val (.int .u8 b), .val (.int .i64 p)]] [] (fun sv h => sv = .c (.str (needleT b p)) ∧ h = []) := by
  refine ac_body tt_ok Tryd.func46 rfl Tryd.ntmps46 rfl rfl (res := [.tmp 2]) rfl ?_
  refine ax_seq ?_
  refine ax_region ?_
  refine al_run tt_ok rfl (by first | rfl | (simp only [inB, inI64, fitB, GTy.zero, Bool.and_eq_true, Bool.or_eq_true, Bool.not_eq_true', Bool.and_true, Bool.true_and, Bool.or_true, Bool.true_or, decide_eq_true_eq, decide_eq_false_iff_not, true_and, and_true]; omega) | (simp [inB, inI64, fitB, GTy.zero]; omega) | (simp [inB, inI64, fitB, GTy.zero])) ?_
  refine ax_seq ?_
  refine ax_seq ?_
  refine ax_region ?_
  refine al_upto tt_ok rfl (by first | rfl | (simp only [inB, inI64, fitB, GTy.zero, Bool.and_eq_true, Bool.or_eq_true, Bool.not_eq_true', Bool.and_true, Bool.true_and, Bool.or_true, Bool.true_or, decide_eq_true_eq, decide_eq_false_iff_not, true_and, and_true]; omega) | (simp [inB, inI64, fitB, GTy.zero]; omega) | (simp [inB, inI64, fitB, GTy.zero])) ?_
  refine al_callP (ncheck_ok b p hb) rfl ⟨rfl, rfl⟩ rfl Tryd.func54 rfl rfl rfl rfl rfl rfl ?_
  refine al_run tt_ok rfl (by first | rfl | (simp only [inB, inI64, fitB, GTy.zero, Bool.and_eq_true, Bool.or_eq_true, Bool.not_eq_true', Bool.and_true, Bool.true_and, Bool.or_true, Bool.true_or, decide_eq_true_eq, decide_eq_false_iff_not, true_and, and_true]; omega) | (simp [inB, inI64, fitB, GTy.zero]; omega) | (simp [inB, inI64, fitB, GTy.zero])) ?_
  refine ax_cond rfl rfl (fun hc1 => ?_) (fun hc1 => ?_)
  ·
    refine ax_seq ?_
    refine ax_region ?_
    refine al_run tt_ok rfl (by first | rfl | (simp only [inB, inI64, fitB, GTy.zero, Bool.and_eq_true, Bool.or_eq_true, Bool.not_eq_true', Bool.and_true, Bool.true_and, Bool.or_true, Bool.true_or, decide_eq_true_eq, decide_eq_false_iff_not, true_and, and_true]; omega) | (simp [inB, inI64, fitB, GTy.zero]; omega) | (simp [inB, inI64, fitB, GTy.zero])) ?_
    refine ax_ret ?_
    refine ⟨_, Wk.sub (st' := ⟨[(2, _)], []⟩) (SubL.cons rfl SubL.nil) SubH.nil, _, _, rfl, rfl, ?_⟩
    have hf : needleOk b.toNat p = false := by
      cases h : needleOk b.toNat p with
      | false => rfl
      | true => rw [needleErr, h] at hc1; simp at hc1
    rw [needleT, hf]
    exact ⟨rfl, rfl⟩
  ·
    refine ax_skip ?_
    refine ax_seq ?_
    refine ax_seq ?_
    have hf : needleOk b.toNat p = true := by
      cases h : needleOk b.toNat p with
      | true => rfl
      | false => rw [needleErr, h] at hc1; simp at hc1
    have hnb := needle_bounds hf
    have hil := itS_len p
    refine ax_region ?_
    refine al_run tt_ok rfl (by first | rfl | (simp only [inB, inI64, fitB, GTy.zero, Bool.and_eq_true, Bool.or_eq_true, Bool.not_eq_true', Bool.and_true, Bool.true_and, Bool.or_true, Bool.true_or, decide_eq_true_eq, decide_eq_false_iff_not, true_and, and_true]; omega) | (simp [inB, inI64, fitB, GTy.zero]; omega) | (simp [inB, inI64, fitB, GTy.zero])) ?_
    refine ax_cond rfl rfl (fun hc3 => ?_) (fun hc3 => ?_)
    ·
      refine ax_seq ?_
      refine ax_region ?_
      refine al_upto tt_ok rfl rfl ?_
      refine al_callP (itoaS_ok p (by omega) (by omega)) rfl ⟨rfl, rfl⟩ rfl Tryd.func45 rfl rfl rfl rfl rfl rfl ?_
      refine al_run tt_ok rfl (by simp <;> omega) ?_
      refine ax_ret ?_
      refine ⟨_, Wk.sub (st' := ⟨[(2, _)], []⟩) (SubL.cons rfl SubL.nil) SubH.nil, _, _, rfl, rfl, ?_⟩
      rw [needleT, hf, if_pos rfl, if_pos (by simpa using hc3)]
      exact ⟨rfl, rfl⟩
    ·
      refine ax_skip ?_
      refine ax_seq ?_
      refine ax_region ?_
      refine al_upto tt_ok rfl rfl ?_
      refine al_callP (itoaS_ok p (by omega) (by omega)) rfl ⟨rfl, rfl⟩ rfl Tryd.func45 rfl rfl rfl rfl rfl rfl ?_
      refine al_run tt_ok rfl (by simp <;> omega) ?_
      refine ax_ret ?_
      refine ⟨_, Wk.sub (st' := ⟨[(2, _)], []⟩) (SubL.cons rfl SubL.nil) SubH.nil, _, _, rfl, rfl, ?_⟩
      rw [needleT, hf, if_pos rfl, if_neg (by simpa using hc3)]
      exact ⟨rfl, rfl⟩
end Go.Proofs.YtcjpcmofajcadaaDoor

/- operations.Text. -/
namespace Go.Proofs.YtcjpcmofajcadaaDoor
open Go.RowKit
def partsT (o : OpT) : List (List UInt8) :=
  wordsL.getD o.1.toNat [] ::
    (if o.1 = 1 then [itS o.2.2.2.1, dirsL.getD o.2.1.toNat []]
    else if o.1 = 2 then [itS o.2.2.2.1]
    else if o.1 = 3 then [itS o.2.2.2.2]
    else if o.1 = 4 ∨ o.1 = 5 ∨ o.1 = 6 then [dirsL.getD o.2.1.toNat [], needleT o.2.2.1.1 o.2.2.1.2, itS o.2.2.2.1]
    else [needleT o.2.2.1.1 o.2.2.1.2])
def textT (o : OpT) : List UInt8 := if opErr (toP o) = 0 then Lib.join (partsT o) [32] else []
theorem opErr_ok (o : OpT) (hn : OpN o) (h : opErr (toP o) = 0) : 1 ≤ o.1 ∧ o.1 ≤ 8 ∧ o.2.1 ≤ 1 ∧ o.2.2.2.1 ≤ 6 ∧ -4 ≤ o.2.2.2.2 ∧ o.2.2.2.2 ≤ 4 := by
  obtain ⟨g1, g2, g3, g4⟩ := hn
  unfold opErr at h
  split at h
  · rename_i hp
    split at h
    · simp at h
    · rename_i hr
      simp only [opPlain, Bool.and_eq_true, Bool.not_eq_true'] at hp
      obtain ⟨⟨⟨⟨p1, p2⟩, p3⟩, p4⟩, p5⟩ := hp
      simp only [there, Bool.and_eq_true, decide_eq_true_eq] at p1
      have q2 : (toP o).dir ≤ 1 := by
        unfold dirBad at p2
        split at p2 <;> simp at p2 <;> omega
      have q4 : (toP o).yarn ≤ 6 := by
        unfold yarnBad at p4
        split at p4 <;> simp at p4 <;> omega
      simp only [toP] at p1 q2 q4 hr
      refine ⟨by omega, by omega, by omega, by omega, by omega, by omega⟩
  · simp at h
theorem word_len (k : Nat) : (wordsL.getD k []).length ≤ 4 := getD_len k
where
  getD_len : ∀ k, (wordsL.getD k []).length ≤ 4
    | 0 | 1 | 2 | 3 | 4 | 5 | 6 | 7 | 8 => by decide
    | _ + 9 => by simp [wordsL]
theorem dir_len (k : Nat) : (dirsL.getD k []).length ≤ 5 := getD_len k
where
  getD_len : ∀ k, (dirsL.getD k []).length ≤ 5
    | 0 | 1 => by decide
    | _ + 2 => by simp [dirsL]
theorem textT_len (o : OpT) : (textT o).length ≤ 40 := by
  unfold textT
  split
  · have h1 := word_len o.1.toNat
    have h2 := dir_len o.2.1.toNat
    have h3 := itS_len o.2.2.2.1
    have h4 := itS_len o.2.2.2.2
    have h5 := needleT_len o.2.2.1.1 o.2.2.1.2
    unfold partsT
    repeat' split
    all_goals simp only [Lib.join, List.intercalate, List.intersperse, List.flatten_cons, List.flatten_nil, List.length_append, List.length_cons, List.length_nil, List.append_nil]
    all_goals omega
  · simp
theorem optext_ok (o : OpT) (hn : OpN o) : AC cx 22 [opArg o] [] (fun sv h => sv = .c (.str (textT o)) ∧ h = []) := by
  refine ac_body tt_ok Tryd.func22 rfl Tryd.ntmps22 rfl rfl (res := [.tmp 2]) rfl ?_
  have hn' := hn
  obtain ⟨g1, g2, g3, g4⟩ := hn'
  refine ax_seq ?_
  refine ax_region ?_
  refine al_run tt_ok rfl (by first | rfl | (simp only [inB, inI64, fitB, GTy.zero, Bool.and_eq_true, Bool.or_eq_true, Bool.not_eq_true', Bool.and_true, Bool.true_and, Bool.or_true, Bool.true_or, decide_eq_true_eq, decide_eq_false_iff_not, true_and, and_true]; omega) | (simp [inB, inI64, fitB, GTy.zero]; omega) | (simp [inB, inI64, fitB, GTy.zero])) ?_
  refine ax_seq ?_
  refine ax_seq ?_
  refine ax_region ?_
  refine al_upto tt_ok rfl (by first | rfl | (simp only [inB, inI64, fitB, GTy.zero, Bool.and_eq_true, Bool.or_eq_true, Bool.not_eq_true', Bool.and_true, Bool.true_and, Bool.or_true, Bool.true_or, decide_eq_true_eq, decide_eq_false_iff_not, true_and, and_true]; omega) | (simp [inB, inI64, fitB, GTy.zero]; omega) | (simp [inB, inI64, fitB, GTy.zero])) ?_
  refine al_callP (opcheck_ok o hn) rfl ⟨rfl, rfl⟩ rfl Tryd.func44 rfl rfl rfl rfl rfl rfl ?_
  refine al_run tt_ok rfl (by first | rfl | (simp only [inB, inI64, fitB, GTy.zero, Bool.and_eq_true, Bool.or_eq_true, Bool.not_eq_true', Bool.and_true, Bool.true_and, Bool.or_true, Bool.true_or, decide_eq_true_eq, decide_eq_false_iff_not, true_and, and_true]; omega) | (simp [inB, inI64, fitB, GTy.zero]; omega) | (simp [inB, inI64, fitB, GTy.zero])) ?_
  refine ax_cond rfl rfl (fun hc1 => ?_) (fun hc1 => ?_)
  ·
    refine ax_seq ?_
    refine ax_region ?_
    refine al_run tt_ok rfl (by first | rfl | (simp only [inB, inI64, fitB, GTy.zero, Bool.and_eq_true, Bool.or_eq_true, Bool.not_eq_true', Bool.and_true, Bool.true_and, Bool.or_true, Bool.true_or, decide_eq_true_eq, decide_eq_false_iff_not, true_and, and_true]; omega) | (simp [inB, inI64, fitB, GTy.zero]; omega) | (simp [inB, inI64, fitB, GTy.zero])) ?_
    refine ax_ret ?_
    refine ⟨_, Wk.sub (st' := ⟨[(2, _)], []⟩) (SubL.cons rfl SubL.nil) SubH.nil, _, _, rfl, rfl, ?_⟩
    have hf : opErr (toP o) ≠ 0 := by simpa using hc1
    rw [textT, if_neg hf]
    exact ⟨rfl, rfl⟩
  ·
    refine ax_skip ?_
    refine ax_seq ?_
    have hf : opErr (toP o) = 0 := by simpa using hc1
    obtain ⟨b1, b2, b3, b4, b5, b6⟩ := opErr_ok o hn hf
    have h1 := word_len o.1.toNat
    have h2 := dir_len o.2.1.toNat
    have h3 := itS_len o.2.2.2.1
    have h4 := itS_len o.2.2.2.2
    have h5 := needleT_len o.2.2.1.1 o.2.2.1.2
    have hwl : wordsL.length = 9 := rfl
    have hdl : dirsL.length = 2 := rfl
    refine ax_region ?_
    refine al_upto tt_ok rfl (by first | rfl | (simp only [inB, inI64, fitB, GTy.zero, Bool.and_eq_true, Bool.or_eq_true, Bool.not_eq_true', Bool.and_true, Bool.true_and, Bool.or_true, Bool.true_or, decide_eq_true_eq, decide_eq_false_iff_not, true_and, and_true]; omega) | (simp [inB, inI64, fitB, GTy.zero]; omega) | (simp [inB, inI64, fitB, GTy.zero])) ?_
    refine al_callP (itoaS_ok o.2.2.2.1 (by omega) (by omega)) rfl ⟨rfl, rfl⟩ rfl Tryd.func45 rfl rfl rfl rfl rfl rfl ?_
    refine al_run tt_ok rfl (by first | rfl | (simp only [inB, inI64, fitB, GTy.zero, Bool.and_eq_true, Bool.or_eq_true, Bool.not_eq_true', Bool.and_true, Bool.true_and, Bool.or_true, Bool.true_or, decide_eq_true_eq, decide_eq_false_iff_not, true_and, and_true]; omega) | (simp [inB, inI64, fitB, GTy.zero]; omega) | (simp [inB, inI64, fitB, GTy.zero])) ?_
    refine ax_seq ?_
    refine ax_region ?_
    refine al_run tt_ok rfl (by first | rfl | (simp only [inB, inI64, fitB, GTy.zero, Bool.and_eq_true, Bool.or_eq_true, Bool.not_eq_true', Bool.and_true, Bool.true_and, Bool.or_true, Bool.true_or, decide_eq_true_eq, decide_eq_false_iff_not, true_and, and_true]; omega) | (simp [inB, inI64, fitB, GTy.zero]; omega) | (simp [inB, inI64, fitB, GTy.zero])) ?_
    refine ax_seq ?_
    refine ax_seq ?_
    refine ax_region ?_
    refine al_run tt_ok rfl (by first | rfl | (simp only [inB, inI64, fitB, GTy.zero, Bool.and_eq_true, Bool.or_eq_true, Bool.not_eq_true', Bool.and_true, Bool.true_and, Bool.or_true, Bool.true_or, decide_eq_true_eq, decide_eq_false_iff_not, true_and, and_true]; omega) | (simp [inB, inI64, fitB, GTy.zero]; omega) | (simp [inB, inI64, fitB, GTy.zero])) ?_
    refine ax_block ?_
    refine ax_seq ?_
    refine ax_region ?_
    refine al_run tt_ok rfl (by first | rfl | (simp only [inB, inI64, fitB, GTy.zero, Bool.and_eq_true, Bool.or_eq_true, Bool.not_eq_true', Bool.and_true, Bool.true_and, Bool.or_true, Bool.true_or, decide_eq_true_eq, decide_eq_false_iff_not, true_and, and_true]; omega) | (simp [inB, inI64, fitB, GTy.zero]; omega) | (simp [inB, inI64, fitB, GTy.zero])) ?_
    refine ax_cond rfl rfl (fun hc6 => ?_) (fun hc6 => ?_)
    ·
      refine ax_region ?_
      refine al_run tt_ok rfl (by first | rfl | (simp only [inB, inI64, fitB, GTy.zero, Bool.and_eq_true, Bool.or_eq_true, Bool.not_eq_true', Bool.and_true, Bool.true_and, Bool.or_true, Bool.true_or, decide_eq_true_eq, decide_eq_false_iff_not, true_and, and_true]; omega) | (simp [inB, inI64, fitB, GTy.zero]; omega) | (simp [inB, inI64, fitB, GTy.zero])) ?_
      refine ax_seq ?_
      first | (exfalso; (simp only [decide_eq_true_eq, decide_eq_false_iff_not] at *; omega); done) | skip
      all_goals
        refine ax_weak (Wk.frz (id := 16) rfl) ?_
        refine ax_region ?_
        refine al_upto tt_ok rfl (by first | rfl | (simp only [inB, inI64, fitB, GTy.zero, Bool.and_eq_true, Bool.or_eq_true, Bool.not_eq_true', Bool.and_true, Bool.true_and, Bool.or_true, Bool.true_or, decide_eq_true_eq, decide_eq_false_iff_not, true_and, and_true]; omega) | (simp [inB, inI64, fitB, GTy.zero]; omega) | (simp [inB, inI64, fitB, GTy.zero])) ?_
        refine al_callP (join_ok _ none [32] (by simp) (by simp) (by simp only [GTy.zero, Lib.join, List.intercalate, List.intersperse, List.flatten_cons, List.flatten_nil, List.cons_append, List.nil_append, List.length_append, List.length_cons, List.length_nil, List.append_nil]; omega)) rfl ⟨rfl, rfl⟩ rfl Tryd.func47 rfl rfl rfl rfl rfl rfl ?_
        refine al_run tt_ok rfl (by first | rfl | (simp only [inB, inI64, fitB, GTy.zero, Bool.and_eq_true, Bool.or_eq_true, Bool.not_eq_true', Bool.and_true, Bool.true_and, Bool.or_true, Bool.true_or, decide_eq_true_eq, decide_eq_false_iff_not, true_and, and_true]; omega) | (simp [inB, inI64, fitB, GTy.zero]; omega) | (simp [inB, inI64, fitB, GTy.zero])) ?_
        refine ax_ret ?_
        refine ⟨_, Wk.sub (st' := ⟨[(2, _)], []⟩) (SubL.cons rfl SubL.nil) SubH.nil, _, _, rfl, rfl, ?_⟩
        refine ⟨?_, rfl⟩
        clear h1 h2 h3 h4 h5 hwl hdl
        simp only [decide_eq_true_eq, decide_eq_false_iff_not] at *
        simp [textT, hf, partsT, *]
        done
    ·
      refine ax_seq ?_
      refine ax_region ?_
      refine al_run tt_ok rfl (by first | rfl | (simp only [inB, inI64, fitB, GTy.zero, Bool.and_eq_true, Bool.or_eq_true, Bool.not_eq_true', Bool.and_true, Bool.true_and, Bool.or_true, Bool.true_or, decide_eq_true_eq, decide_eq_false_iff_not, true_and, and_true]; omega) | (simp [inB, inI64, fitB, GTy.zero]; omega) | (simp [inB, inI64, fitB, GTy.zero])) ?_
      refine ax_cond rfl rfl (fun hc8 => ?_) (fun hc8 => ?_)
      ·
        refine ax_region ?_
        refine al_run tt_ok rfl (by first | rfl | (simp only [inB, inI64, fitB, GTy.zero, Bool.and_eq_true, Bool.or_eq_true, Bool.not_eq_true', Bool.and_true, Bool.true_and, Bool.or_true, Bool.true_or, decide_eq_true_eq, decide_eq_false_iff_not, true_and, and_true]; omega) | (simp [inB, inI64, fitB, GTy.zero]; omega) | (simp [inB, inI64, fitB, GTy.zero])) ?_
        refine ax_seq ?_
        first | (exfalso; (simp only [decide_eq_true_eq, decide_eq_false_iff_not] at *; omega); done) | skip
        all_goals
          refine ax_weak (Wk.frz (id := 16) rfl) ?_
          refine ax_region ?_
          refine al_upto tt_ok rfl (by first | rfl | (simp only [inB, inI64, fitB, GTy.zero, Bool.and_eq_true, Bool.or_eq_true, Bool.not_eq_true', Bool.and_true, Bool.true_and, Bool.or_true, Bool.true_or, decide_eq_true_eq, decide_eq_false_iff_not, true_and, and_true]; omega) | (simp [inB, inI64, fitB, GTy.zero]; omega) | (simp [inB, inI64, fitB, GTy.zero])) ?_
          refine al_callP (join_ok _ none [32] (by simp) (by simp) (by simp only [GTy.zero, Lib.join, List.intercalate, List.intersperse, List.flatten_cons, List.flatten_nil, List.cons_append, List.nil_append, List.length_append, List.length_cons, List.length_nil, List.append_nil]; omega)) rfl ⟨rfl, rfl⟩ rfl Tryd.func47 rfl rfl rfl rfl rfl rfl ?_
          refine al_run tt_ok rfl (by first | rfl | (simp only [inB, inI64, fitB, GTy.zero, Bool.and_eq_true, Bool.or_eq_true, Bool.not_eq_true', Bool.and_true, Bool.true_and, Bool.or_true, Bool.true_or, decide_eq_true_eq, decide_eq_false_iff_not, true_and, and_true]; omega) | (simp [inB, inI64, fitB, GTy.zero]; omega) | (simp [inB, inI64, fitB, GTy.zero])) ?_
          refine ax_ret ?_
          refine ⟨_, Wk.sub (st' := ⟨[(2, _)], []⟩) (SubL.cons rfl SubL.nil) SubH.nil, _, _, rfl, rfl, ?_⟩
          refine ⟨?_, rfl⟩
          clear h1 h2 h3 h4 h5 hwl hdl
          simp only [decide_eq_true_eq, decide_eq_false_iff_not] at *
          simp [textT, hf, partsT, *]
          done
      ·
        refine ax_seq ?_
        refine ax_region ?_
        refine al_run tt_ok rfl (by first | rfl | (simp only [inB, inI64, fitB, GTy.zero, Bool.and_eq_true, Bool.or_eq_true, Bool.not_eq_true', Bool.and_true, Bool.true_and, Bool.or_true, Bool.true_or, decide_eq_true_eq, decide_eq_false_iff_not, true_and, and_true]; omega) | (simp [inB, inI64, fitB, GTy.zero]; omega) | (simp [inB, inI64, fitB, GTy.zero])) ?_
        refine ax_cond rfl rfl (fun hc10 => ?_) (fun hc10 => ?_)
        ·
          refine ax_region ?_
          refine al_upto tt_ok rfl (by first | rfl | (simp only [inB, inI64, fitB, GTy.zero, Bool.and_eq_true, Bool.or_eq_true, Bool.not_eq_true', Bool.and_true, Bool.true_and, Bool.or_true, Bool.true_or, decide_eq_true_eq, decide_eq_false_iff_not, true_and, and_true]; omega) | (simp [inB, inI64, fitB, GTy.zero]; omega) | (simp [inB, inI64, fitB, GTy.zero])) ?_
          refine al_callP (itoaS_ok o.2.2.2.2 (by omega) (by omega)) rfl ⟨rfl, rfl⟩ rfl Tryd.func45 rfl rfl rfl rfl rfl rfl ?_
          refine al_run tt_ok rfl (by first | rfl | (simp only [inB, inI64, fitB, GTy.zero, Bool.and_eq_true, Bool.or_eq_true, Bool.not_eq_true', Bool.and_true, Bool.true_and, Bool.or_true, Bool.true_or, decide_eq_true_eq, decide_eq_false_iff_not, true_and, and_true]; omega) | (simp [inB, inI64, fitB, GTy.zero]; omega) | (simp [inB, inI64, fitB, GTy.zero])) ?_
          refine ax_seq ?_
          first | (exfalso; (simp only [decide_eq_true_eq, decide_eq_false_iff_not] at *; omega); done) | skip
          all_goals
            refine ax_weak (Wk.frz (id := 16) rfl) ?_
            refine ax_region ?_
            refine al_upto tt_ok rfl (by first | rfl | (simp only [inB, inI64, fitB, GTy.zero, Bool.and_eq_true, Bool.or_eq_true, Bool.not_eq_true', Bool.and_true, Bool.true_and, Bool.or_true, Bool.true_or, decide_eq_true_eq, decide_eq_false_iff_not, true_and, and_true]; omega) | (simp [inB, inI64, fitB, GTy.zero]; omega) | (simp [inB, inI64, fitB, GTy.zero])) ?_
            refine al_callP (join_ok _ none [32] (by simp) (by simp) (by simp only [GTy.zero, Lib.join, List.intercalate, List.intersperse, List.flatten_cons, List.flatten_nil, List.cons_append, List.nil_append, List.length_append, List.length_cons, List.length_nil, List.append_nil]; omega)) rfl ⟨rfl, rfl⟩ rfl Tryd.func47 rfl rfl rfl rfl rfl rfl ?_
            refine al_run tt_ok rfl (by first | rfl | (simp only [inB, inI64, fitB, GTy.zero, Bool.and_eq_true, Bool.or_eq_true, Bool.not_eq_true', Bool.and_true, Bool.true_and, Bool.or_true, Bool.true_or, decide_eq_true_eq, decide_eq_false_iff_not, true_and, and_true]; omega) | (simp [inB, inI64, fitB, GTy.zero]; omega) | (simp [inB, inI64, fitB, GTy.zero])) ?_
            refine ax_ret ?_
            refine ⟨_, Wk.sub (st' := ⟨[(2, _)], []⟩) (SubL.cons rfl SubL.nil) SubH.nil, _, _, rfl, rfl, ?_⟩
            refine ⟨?_, rfl⟩
            clear h1 h2 h3 h4 h5 hwl hdl
            simp only [decide_eq_true_eq, decide_eq_false_iff_not] at *
            simp [textT, hf, partsT, *]
            done
        ·
          refine ax_seq ?_
          refine ax_seq ?_
          refine ax_region ?_
          refine al_run tt_ok rfl (by first | rfl | (simp only [inB, inI64, fitB, GTy.zero, Bool.and_eq_true, Bool.or_eq_true, Bool.not_eq_true', Bool.and_true, Bool.true_and, Bool.or_true, Bool.true_or, decide_eq_true_eq, decide_eq_false_iff_not, true_and, and_true]; omega) | (simp [inB, inI64, fitB, GTy.zero]; omega) | (simp [inB, inI64, fitB, GTy.zero])) ?_
          refine ax_cond rfl rfl (fun hc12 => ?_) (fun hc12 => ?_)
          ·
            refine ax_skip ?_
            refine ax_cond rfl rfl (fun hc12 => ?_) (fun hc12 => ?_)
            ·
              first | (exfalso; (simp only [decide_eq_true_eq, decide_eq_false_iff_not] at *; omega); done) | skip
              all_goals
                refine ax_draw [5, 6, 7, 8] (by kernel_rfl) rfl (N := 12) ?_
                refine ad_run (fuel := 4) (ds' := ⟨#[true, true, true, true, true, true, true, false, true, false, false, false], true, true, true⟩) tt_ok [(0, 0), (1, 0), (2, 3), (3, 0), (4, 1), (5, 0), (6, 3), (8, 0)] (by kernel_rfl) rfl (by first | rfl | (simp only [inB, inI64, fitB, GTy.zero, Bool.and_eq_true, Bool.or_eq_true, Bool.not_eq_true', Bool.and_true, Bool.true_and, Bool.or_true, Bool.true_or, decide_eq_true_eq, decide_eq_false_iff_not, true_and, and_true]; omega) | (simp [inB, inI64, fitB, GTy.zero]; omega) | (simp [inB, inI64, fitB, GTy.zero])) ?_
                refine ad_ready (by kernel_rfl) (ads_cons (i := 7) ?_ ads_nil)
                refine ado_of rfl ?_
                refine adx_call (i := 7) (listed' := #[true, true, true, true, true, true, true, true, true, false, false, false]) (pre' := true) [] (ntext_ok o.2.2.1.1 o.2.2.1.2 g3) rfl rfl rfl rfl ⟨rfl, rfl⟩ rfl Tryd.func46 rfl rfl rfl rfl rfl rfl PassH.nil ?_
                rintro _ _ ⟨rfl, rfl⟩
                refine ⟨_, _, rfl, rfl, ?_⟩
                refine ad_run (fuel := 0) (ds' := ⟨#[true, true, true, true, true, true, true, true, true, true, true, true], false, false, false⟩) tt_ok [(9, 2), (10, 2), (11, 0)] (by kernel_rfl) rfl (by first | rfl | (simp only [inB, inI64, fitB, GTy.zero, Bool.and_eq_true, Bool.or_eq_true, Bool.not_eq_true', Bool.and_true, Bool.true_and, Bool.or_true, Bool.true_or, decide_eq_true_eq, decide_eq_false_iff_not, true_and, and_true]; omega) | (simp [inB, inI64, fitB, GTy.zero]; omega) | (simp [inB, inI64, fitB, GTy.zero])) ?_
                refine ad_done (by kernel_rfl) ?_
                refine ax_seq ?_
                first | (exfalso; (simp only [decide_eq_true_eq, decide_eq_false_iff_not] at *; omega); done) | skip
                all_goals
                  refine ax_weak (Wk.frz (id := 16) rfl) ?_
                  refine ax_region ?_
                  refine al_upto tt_ok rfl (by first | rfl | (simp only [inB, inI64, fitB, GTy.zero, Bool.and_eq_true, Bool.or_eq_true, Bool.not_eq_true', Bool.and_true, Bool.true_and, Bool.or_true, Bool.true_or, decide_eq_true_eq, decide_eq_false_iff_not, true_and, and_true]; omega) | (simp [inB, inI64, fitB, GTy.zero]; omega) | (simp [inB, inI64, fitB, GTy.zero])) ?_
                  refine al_callP (join_ok _ none [32] (by simp) (by simp) (by simp only [GTy.zero, Lib.join, List.intercalate, List.intersperse, List.flatten_cons, List.flatten_nil, List.cons_append, List.nil_append, List.length_append, List.length_cons, List.length_nil, List.append_nil]; omega)) rfl ⟨rfl, rfl⟩ rfl Tryd.func47 rfl rfl rfl rfl rfl rfl ?_
                  refine al_run tt_ok rfl (by first | rfl | (simp only [inB, inI64, fitB, GTy.zero, Bool.and_eq_true, Bool.or_eq_true, Bool.not_eq_true', Bool.and_true, Bool.true_and, Bool.or_true, Bool.true_or, decide_eq_true_eq, decide_eq_false_iff_not, true_and, and_true]; omega) | (simp [inB, inI64, fitB, GTy.zero]; omega) | (simp [inB, inI64, fitB, GTy.zero])) ?_
                  refine ax_ret ?_
                  refine ⟨_, Wk.sub (st' := ⟨[(2, _)], []⟩) (SubL.cons rfl SubL.nil) SubH.nil, _, _, rfl, rfl, ?_⟩
                  refine ⟨?_, rfl⟩
                  clear h1 h2 h3 h4 h5 hwl hdl
                  simp only [decide_eq_true_eq, decide_eq_false_iff_not] at *
                  simp [textT, hf, partsT, *]
                  done
            ·
              refine ax_seq ?_
              refine ax_seq ?_
              first | (exfalso; (simp only [decide_eq_true_eq, decide_eq_false_iff_not] at *; omega); done) | skip
              all_goals
                refine ax_region ?_
                refine al_run tt_ok rfl (by first | rfl | (simp only [inB, inI64, fitB, GTy.zero, Bool.and_eq_true, Bool.or_eq_true, Bool.not_eq_true', Bool.and_true, Bool.true_and, Bool.or_true, Bool.true_or, decide_eq_true_eq, decide_eq_false_iff_not, true_and, and_true]; omega) | (simp [inB, inI64, fitB, GTy.zero]; omega) | (simp [inB, inI64, fitB, GTy.zero])) ?_
                refine ax_cond rfl rfl (fun hc16 => ?_) (fun hc16 => ?_)
                ·
                  refine ax_skip ?_
                  refine ax_cond rfl rfl (fun hc16 => ?_) (fun hc16 => ?_)
                  ·
                    first | (exfalso; (simp only [decide_eq_true_eq, decide_eq_false_iff_not] at *; omega); done) | skip
                    all_goals
                      refine ax_region ?_
                      refine al_upto tt_ok rfl (by first | rfl | (simp only [inB, inI64, fitB, GTy.zero, Bool.and_eq_true, Bool.or_eq_true, Bool.not_eq_true', Bool.and_true, Bool.true_and, Bool.or_true, Bool.true_or, decide_eq_true_eq, decide_eq_false_iff_not, true_and, and_true]; omega) | (simp [inB, inI64, fitB, GTy.zero]; omega) | (simp [inB, inI64, fitB, GTy.zero])) ?_
                      refine al_callP (ntext_ok o.2.2.1.1 o.2.2.1.2 g3) rfl ⟨rfl, rfl⟩ rfl Tryd.func46 rfl rfl rfl rfl rfl rfl ?_
                      refine al_run tt_ok rfl (by first | rfl | (simp only [inB, inI64, fitB, GTy.zero, Bool.and_eq_true, Bool.or_eq_true, Bool.not_eq_true', Bool.and_true, Bool.true_and, Bool.or_true, Bool.true_or, decide_eq_true_eq, decide_eq_false_iff_not, true_and, and_true]; omega) | (simp [inB, inI64, fitB, GTy.zero]; omega) | (simp [inB, inI64, fitB, GTy.zero])) ?_
                      refine ax_seq ?_
                      first | (exfalso; (simp only [decide_eq_true_eq, decide_eq_false_iff_not] at *; omega); done) | skip
                      all_goals
                        refine ax_weak (Wk.frz (id := 16) rfl) ?_
                        refine ax_region ?_
                        refine al_upto tt_ok rfl (by first | rfl | (simp only [inB, inI64, fitB, GTy.zero, Bool.and_eq_true, Bool.or_eq_true, Bool.not_eq_true', Bool.and_true, Bool.true_and, Bool.or_true, Bool.true_or, decide_eq_true_eq, decide_eq_false_iff_not, true_and, and_true]; omega) | (simp [inB, inI64, fitB, GTy.zero]; omega) | (simp [inB, inI64, fitB, GTy.zero])) ?_
                        refine al_callP (join_ok _ none [32] (by simp) (by simp) (by simp only [GTy.zero, Lib.join, List.intercalate, List.intersperse, List.flatten_cons, List.flatten_nil, List.cons_append, List.nil_append, List.length_append, List.length_cons, List.length_nil, List.append_nil]; omega)) rfl ⟨rfl, rfl⟩ rfl Tryd.func47 rfl rfl rfl rfl rfl rfl ?_
                        refine al_run tt_ok rfl (by first | rfl | (simp only [inB, inI64, fitB, GTy.zero, Bool.and_eq_true, Bool.or_eq_true, Bool.not_eq_true', Bool.and_true, Bool.true_and, Bool.or_true, Bool.true_or, decide_eq_true_eq, decide_eq_false_iff_not, true_and, and_true]; omega) | (simp [inB, inI64, fitB, GTy.zero]; omega) | (simp [inB, inI64, fitB, GTy.zero])) ?_
                        refine ax_ret ?_
                        refine ⟨_, Wk.sub (st' := ⟨[(2, _)], []⟩) (SubL.cons rfl SubL.nil) SubH.nil, _, _, rfl, rfl, ?_⟩
                        refine ⟨?_, rfl⟩
                        clear h1 h2 h3 h4 h5 hwl hdl
                        simp only [decide_eq_true_eq, decide_eq_false_iff_not] at *
                        simp [textT, hf, partsT, *]
                        done
                  ·
                    refine ax_skip ?_
                    refine ax_seq ?_
                    first | (exfalso; (simp only [decide_eq_true_eq, decide_eq_false_iff_not] at *; omega); done) | skip
                    all_goals
                      refine ax_weak (Wk.frz (id := 16) rfl) ?_
                      refine ax_region ?_
                      refine al_upto tt_ok rfl (by first | rfl | (simp only [inB, inI64, fitB, GTy.zero, Bool.and_eq_true, Bool.or_eq_true, Bool.not_eq_true', Bool.and_true, Bool.true_and, Bool.or_true, Bool.true_or, decide_eq_true_eq, decide_eq_false_iff_not, true_and, and_true]; omega) | (simp [inB, inI64, fitB, GTy.zero]; omega) | (simp [inB, inI64, fitB, GTy.zero])) ?_
                      refine al_callP (join_ok _ none [32] (by simp) (by simp) (by simp only [GTy.zero, Lib.join, List.intercalate, List.intersperse, List.flatten_cons, List.flatten_nil, List.cons_append, List.nil_append, List.length_append, List.length_cons, List.length_nil, List.append_nil]; omega)) rfl ⟨rfl, rfl⟩ rfl Tryd.func47 rfl rfl rfl rfl rfl rfl ?_
                      refine al_run tt_ok rfl (by first | rfl | (simp only [inB, inI64, fitB, GTy.zero, Bool.and_eq_true, Bool.or_eq_true, Bool.not_eq_true', Bool.and_true, Bool.true_and, Bool.or_true, Bool.true_or, decide_eq_true_eq, decide_eq_false_iff_not, true_and, and_true]; omega) | (simp [inB, inI64, fitB, GTy.zero]; omega) | (simp [inB, inI64, fitB, GTy.zero])) ?_
                      refine ax_ret ?_
                      refine ⟨_, Wk.sub (st' := ⟨[(2, _)], []⟩) (SubL.cons rfl SubL.nil) SubH.nil, _, _, rfl, rfl, ?_⟩
                      refine ⟨?_, rfl⟩
                      clear h1 h2 h3 h4 h5 hwl hdl
                      simp only [decide_eq_true_eq, decide_eq_false_iff_not] at *
                      simp [textT, hf, partsT, *]
                      done
                ·
                  refine ax_region ?_
                  refine al_run tt_ok rfl (by first | rfl | (simp only [inB, inI64, fitB, GTy.zero, Bool.and_eq_true, Bool.or_eq_true, Bool.not_eq_true', Bool.and_true, Bool.true_and, Bool.or_true, Bool.true_or, decide_eq_true_eq, decide_eq_false_iff_not, true_and, and_true]; omega) | (simp [inB, inI64, fitB, GTy.zero]; omega) | (simp [inB, inI64, fitB, GTy.zero])) ?_
                  refine ax_cond rfl rfl (fun hc17 => ?_) (fun hc17 => ?_)
                  ·
                    first | (exfalso; (simp only [decide_eq_true_eq, decide_eq_false_iff_not] at *; omega); done) | skip
                    all_goals
                      refine ax_region ?_
                      refine al_upto tt_ok rfl (by first | rfl | (simp only [inB, inI64, fitB, GTy.zero, Bool.and_eq_true, Bool.or_eq_true, Bool.not_eq_true', Bool.and_true, Bool.true_and, Bool.or_true, Bool.true_or, decide_eq_true_eq, decide_eq_false_iff_not, true_and, and_true]; omega) | (simp [inB, inI64, fitB, GTy.zero]; omega) | (simp [inB, inI64, fitB, GTy.zero])) ?_
                      refine al_callP (ntext_ok o.2.2.1.1 o.2.2.1.2 g3) rfl ⟨rfl, rfl⟩ rfl Tryd.func46 rfl rfl rfl rfl rfl rfl ?_
                      refine al_run tt_ok rfl (by first | rfl | (simp only [inB, inI64, fitB, GTy.zero, Bool.and_eq_true, Bool.or_eq_true, Bool.not_eq_true', Bool.and_true, Bool.true_and, Bool.or_true, Bool.true_or, decide_eq_true_eq, decide_eq_false_iff_not, true_and, and_true]; omega) | (simp [inB, inI64, fitB, GTy.zero]; omega) | (simp [inB, inI64, fitB, GTy.zero])) ?_
                      refine ax_seq ?_
                      first | (exfalso; (simp only [decide_eq_true_eq, decide_eq_false_iff_not] at *; omega); done) | skip
                      all_goals
                        refine ax_weak (Wk.frz (id := 16) rfl) ?_
                        refine ax_region ?_
                        refine al_upto tt_ok rfl (by first | rfl | (simp only [inB, inI64, fitB, GTy.zero, Bool.and_eq_true, Bool.or_eq_true, Bool.not_eq_true', Bool.and_true, Bool.true_and, Bool.or_true, Bool.true_or, decide_eq_true_eq, decide_eq_false_iff_not, true_and, and_true]; omega) | (simp [inB, inI64, fitB, GTy.zero]; omega) | (simp [inB, inI64, fitB, GTy.zero])) ?_
                        refine al_callP (join_ok _ none [32] (by simp) (by simp) (by simp only [GTy.zero, Lib.join, List.intercalate, List.intersperse, List.flatten_cons, List.flatten_nil, List.cons_append, List.nil_append, List.length_append, List.length_cons, List.length_nil, List.append_nil]; omega)) rfl ⟨rfl, rfl⟩ rfl Tryd.func47 rfl rfl rfl rfl rfl rfl ?_
                        refine al_run tt_ok rfl (by first | rfl | (simp only [inB, inI64, fitB, GTy.zero, Bool.and_eq_true, Bool.or_eq_true, Bool.not_eq_true', Bool.and_true, Bool.true_and, Bool.or_true, Bool.true_or, decide_eq_true_eq, decide_eq_false_iff_not, true_and, and_true]; omega) | (simp [inB, inI64, fitB, GTy.zero]; omega) | (simp [inB, inI64, fitB, GTy.zero])) ?_
                        refine ax_ret ?_
                        refine ⟨_, Wk.sub (st' := ⟨[(2, _)], []⟩) (SubL.cons rfl SubL.nil) SubH.nil, _, _, rfl, rfl, ?_⟩
                        refine ⟨?_, rfl⟩
                        clear h1 h2 h3 h4 h5 hwl hdl
                        simp only [decide_eq_true_eq, decide_eq_false_iff_not] at *
                        simp [textT, hf, partsT, *]
                        done
                  ·
                    refine ax_skip ?_
                    refine ax_seq ?_
                    first | (exfalso; (simp only [decide_eq_true_eq, decide_eq_false_iff_not] at *; omega); done) | skip
                    all_goals
                      refine ax_weak (Wk.frz (id := 16) rfl) ?_
                      refine ax_region ?_
                      refine al_upto tt_ok rfl (by first | rfl | (simp only [inB, inI64, fitB, GTy.zero, Bool.and_eq_true, Bool.or_eq_true, Bool.not_eq_true', Bool.and_true, Bool.true_and, Bool.or_true, Bool.true_or, decide_eq_true_eq, decide_eq_false_iff_not, true_and, and_true]; omega) | (simp [inB, inI64, fitB, GTy.zero]; omega) | (simp [inB, inI64, fitB, GTy.zero])) ?_
                      refine al_callP (join_ok _ none [32] (by simp) (by simp) (by simp only [GTy.zero, Lib.join, List.intercalate, List.intersperse, List.flatten_cons, List.flatten_nil, List.cons_append, List.nil_append, List.length_append, List.length_cons, List.length_nil, List.append_nil]; omega)) rfl ⟨rfl, rfl⟩ rfl Tryd.func47 rfl rfl rfl rfl rfl rfl ?_
                      refine al_run tt_ok rfl (by first | rfl | (simp only [inB, inI64, fitB, GTy.zero, Bool.and_eq_true, Bool.or_eq_true, Bool.not_eq_true', Bool.and_true, Bool.true_and, Bool.or_true, Bool.true_or, decide_eq_true_eq, decide_eq_false_iff_not, true_and, and_true]; omega) | (simp [inB, inI64, fitB, GTy.zero]; omega) | (simp [inB, inI64, fitB, GTy.zero])) ?_
                      refine ax_ret ?_
                      refine ⟨_, Wk.sub (st' := ⟨[(2, _)], []⟩) (SubL.cons rfl SubL.nil) SubH.nil, _, _, rfl, rfl, ?_⟩
                      refine ⟨?_, rfl⟩
                      clear h1 h2 h3 h4 h5 hwl hdl
                      simp only [decide_eq_true_eq, decide_eq_false_iff_not] at *
                      simp [textT, hf, partsT, *]
                      done
          ·
            refine ax_seq ?_
            refine ax_region ?_
            refine al_run tt_ok rfl (by first | rfl | (simp only [inB, inI64, fitB, GTy.zero, Bool.and_eq_true, Bool.or_eq_true, Bool.not_eq_true', Bool.and_true, Bool.true_and, Bool.or_true, Bool.true_or, decide_eq_true_eq, decide_eq_false_iff_not, true_and, and_true]; omega) | (simp [inB, inI64, fitB, GTy.zero]; omega) | (simp [inB, inI64, fitB, GTy.zero])) ?_
            refine ax_cond rfl rfl (fun hc13 => ?_) (fun hc13 => ?_)
            ·
              refine ax_skip ?_
              refine ax_cond rfl rfl (fun hc13 => ?_) (fun hc13 => ?_)
              ·
                first | (exfalso; (simp only [decide_eq_true_eq, decide_eq_false_iff_not] at *; omega); done) | skip
                all_goals
                  refine ax_draw [5, 6, 7, 8] (by kernel_rfl) rfl (N := 12) ?_
                  refine ad_run (fuel := 4) (ds' := ⟨#[true, true, true, true, true, true, true, false, true, false, false, false], true, true, true⟩) tt_ok [(0, 0), (1, 0), (2, 3), (3, 0), (4, 1), (5, 0), (6, 3), (8, 0)] (by kernel_rfl) rfl (by first | rfl | (simp only [inB, inI64, fitB, GTy.zero, Bool.and_eq_true, Bool.or_eq_true, Bool.not_eq_true', Bool.and_true, Bool.true_and, Bool.or_true, Bool.true_or, decide_eq_true_eq, decide_eq_false_iff_not, true_and, and_true]; omega) | (simp [inB, inI64, fitB, GTy.zero]; omega) | (simp [inB, inI64, fitB, GTy.zero])) ?_
                  refine ad_ready (by kernel_rfl) (ads_cons (i := 7) ?_ ads_nil)
                  refine ado_of rfl ?_
                  refine adx_call (i := 7) (listed' := #[true, true, true, true, true, true, true, true, true, false, false, false]) (pre' := true) [] (ntext_ok o.2.2.1.1 o.2.2.1.2 g3) rfl rfl rfl rfl ⟨rfl, rfl⟩ rfl Tryd.func46 rfl rfl rfl rfl rfl rfl PassH.nil ?_
                  rintro _ _ ⟨rfl, rfl⟩
                  refine ⟨_, _, rfl, rfl, ?_⟩
                  refine ad_run (fuel := 0) (ds' := ⟨#[true, true, true, true, true, true, true, true, true, true, true, true], false, false, false⟩) tt_ok [(9, 2), (10, 2), (11, 0)] (by kernel_rfl) rfl (by first | rfl | (simp only [inB, inI64, fitB, GTy.zero, Bool.and_eq_true, Bool.or_eq_true, Bool.not_eq_true', Bool.and_true, Bool.true_and, Bool.or_true, Bool.true_or, decide_eq_true_eq, decide_eq_false_iff_not, true_and, and_true]; omega) | (simp [inB, inI64, fitB, GTy.zero]; omega) | (simp [inB, inI64, fitB, GTy.zero])) ?_
                  refine ad_done (by kernel_rfl) ?_
                  refine ax_seq ?_
                  first | (exfalso; (simp only [decide_eq_true_eq, decide_eq_false_iff_not] at *; omega); done) | skip
                  all_goals
                    refine ax_weak (Wk.frz (id := 16) rfl) ?_
                    refine ax_region ?_
                    refine al_upto tt_ok rfl (by first | rfl | (simp only [inB, inI64, fitB, GTy.zero, Bool.and_eq_true, Bool.or_eq_true, Bool.not_eq_true', Bool.and_true, Bool.true_and, Bool.or_true, Bool.true_or, decide_eq_true_eq, decide_eq_false_iff_not, true_and, and_true]; omega) | (simp [inB, inI64, fitB, GTy.zero]; omega) | (simp [inB, inI64, fitB, GTy.zero])) ?_
                    refine al_callP (join_ok _ none [32] (by simp) (by simp) (by simp only [GTy.zero, Lib.join, List.intercalate, List.intersperse, List.flatten_cons, List.flatten_nil, List.cons_append, List.nil_append, List.length_append, List.length_cons, List.length_nil, List.append_nil]; omega)) rfl ⟨rfl, rfl⟩ rfl Tryd.func47 rfl rfl rfl rfl rfl rfl ?_
                    refine al_run tt_ok rfl (by first | rfl | (simp only [inB, inI64, fitB, GTy.zero, Bool.and_eq_true, Bool.or_eq_true, Bool.not_eq_true', Bool.and_true, Bool.true_and, Bool.or_true, Bool.true_or, decide_eq_true_eq, decide_eq_false_iff_not, true_and, and_true]; omega) | (simp [inB, inI64, fitB, GTy.zero]; omega) | (simp [inB, inI64, fitB, GTy.zero])) ?_
                    refine ax_ret ?_
                    refine ⟨_, Wk.sub (st' := ⟨[(2, _)], []⟩) (SubL.cons rfl SubL.nil) SubH.nil, _, _, rfl, rfl, ?_⟩
                    refine ⟨?_, rfl⟩
                    clear h1 h2 h3 h4 h5 hwl hdl
                    simp only [decide_eq_true_eq, decide_eq_false_iff_not] at *
                    simp [textT, hf, partsT, *]
                    done
              ·
                refine ax_seq ?_
                refine ax_seq ?_
                first | (exfalso; (simp only [decide_eq_true_eq, decide_eq_false_iff_not] at *; omega); done) | skip
                all_goals
                  refine ax_region ?_
                  refine al_run tt_ok rfl (by first | rfl | (simp only [inB, inI64, fitB, GTy.zero, Bool.and_eq_true, Bool.or_eq_true, Bool.not_eq_true', Bool.and_true, Bool.true_and, Bool.or_true, Bool.true_or, decide_eq_true_eq, decide_eq_false_iff_not, true_and, and_true]; omega) | (simp [inB, inI64, fitB, GTy.zero]; omega) | (simp [inB, inI64, fitB, GTy.zero])) ?_
                  refine ax_cond rfl rfl (fun hc16 => ?_) (fun hc16 => ?_)
                  ·
                    refine ax_skip ?_
                    refine ax_cond rfl rfl (fun hc16 => ?_) (fun hc16 => ?_)
                    ·
                      first | (exfalso; (simp only [decide_eq_true_eq, decide_eq_false_iff_not] at *; omega); done) | skip
                      all_goals
                        refine ax_region ?_
                        refine al_upto tt_ok rfl (by first | rfl | (simp only [inB, inI64, fitB, GTy.zero, Bool.and_eq_true, Bool.or_eq_true, Bool.not_eq_true', Bool.and_true, Bool.true_and, Bool.or_true, Bool.true_or, decide_eq_true_eq, decide_eq_false_iff_not, true_and, and_true]; omega) | (simp [inB, inI64, fitB, GTy.zero]; omega) | (simp [inB, inI64, fitB, GTy.zero])) ?_
                        refine al_callP (ntext_ok o.2.2.1.1 o.2.2.1.2 g3) rfl ⟨rfl, rfl⟩ rfl Tryd.func46 rfl rfl rfl rfl rfl rfl ?_
                        refine al_run tt_ok rfl (by first | rfl | (simp only [inB, inI64, fitB, GTy.zero, Bool.and_eq_true, Bool.or_eq_true, Bool.not_eq_true', Bool.and_true, Bool.true_and, Bool.or_true, Bool.true_or, decide_eq_true_eq, decide_eq_false_iff_not, true_and, and_true]; omega) | (simp [inB, inI64, fitB, GTy.zero]; omega) | (simp [inB, inI64, fitB, GTy.zero])) ?_
                        refine ax_seq ?_
                        first | (exfalso; (simp only [decide_eq_true_eq, decide_eq_false_iff_not] at *; omega); done) | skip
                        all_goals
                          refine ax_weak (Wk.frz (id := 16) rfl) ?_
                          refine ax_region ?_
                          refine al_upto tt_ok rfl (by first | rfl | (simp only [inB, inI64, fitB, GTy.zero, Bool.and_eq_true, Bool.or_eq_true, Bool.not_eq_true', Bool.and_true, Bool.true_and, Bool.or_true, Bool.true_or, decide_eq_true_eq, decide_eq_false_iff_not, true_and, and_true]; omega) | (simp [inB, inI64, fitB, GTy.zero]; omega) | (simp [inB, inI64, fitB, GTy.zero])) ?_
                          refine al_callP (join_ok _ none [32] (by simp) (by simp) (by simp only [GTy.zero, Lib.join, List.intercalate, List.intersperse, List.flatten_cons, List.flatten_nil, List.cons_append, List.nil_append, List.length_append, List.length_cons, List.length_nil, List.append_nil]; omega)) rfl ⟨rfl, rfl⟩ rfl Tryd.func47 rfl rfl rfl rfl rfl rfl ?_
                          refine al_run tt_ok rfl (by first | rfl | (simp only [inB, inI64, fitB, GTy.zero, Bool.and_eq_true, Bool.or_eq_true, Bool.not_eq_true', Bool.and_true, Bool.true_and, Bool.or_true, Bool.true_or, decide_eq_true_eq, decide_eq_false_iff_not, true_and, and_true]; omega) | (simp [inB, inI64, fitB, GTy.zero]; omega) | (simp [inB, inI64, fitB, GTy.zero])) ?_
                          refine ax_ret ?_
                          refine ⟨_, Wk.sub (st' := ⟨[(2, _)], []⟩) (SubL.cons rfl SubL.nil) SubH.nil, _, _, rfl, rfl, ?_⟩
                          refine ⟨?_, rfl⟩
                          clear h1 h2 h3 h4 h5 hwl hdl
                          simp only [decide_eq_true_eq, decide_eq_false_iff_not] at *
                          simp [textT, hf, partsT, *]
                          done
                    ·
                      refine ax_skip ?_
                      refine ax_seq ?_
                      first | (exfalso; (simp only [decide_eq_true_eq, decide_eq_false_iff_not] at *; omega); done) | skip
                      all_goals
                        refine ax_weak (Wk.frz (id := 16) rfl) ?_
                        refine ax_region ?_
                        refine al_upto tt_ok rfl (by first | rfl | (simp only [inB, inI64, fitB, GTy.zero, Bool.and_eq_true, Bool.or_eq_true, Bool.not_eq_true', Bool.and_true, Bool.true_and, Bool.or_true, Bool.true_or, decide_eq_true_eq, decide_eq_false_iff_not, true_and, and_true]; omega) | (simp [inB, inI64, fitB, GTy.zero]; omega) | (simp [inB, inI64, fitB, GTy.zero])) ?_
                        refine al_callP (join_ok _ none [32] (by simp) (by simp) (by simp only [GTy.zero, Lib.join, List.intercalate, List.intersperse, List.flatten_cons, List.flatten_nil, List.cons_append, List.nil_append, List.length_append, List.length_cons, List.length_nil, List.append_nil]; omega)) rfl ⟨rfl, rfl⟩ rfl Tryd.func47 rfl rfl rfl rfl rfl rfl ?_
                        refine al_run tt_ok rfl (by first | rfl | (simp only [inB, inI64, fitB, GTy.zero, Bool.and_eq_true, Bool.or_eq_true, Bool.not_eq_true', Bool.and_true, Bool.true_and, Bool.or_true, Bool.true_or, decide_eq_true_eq, decide_eq_false_iff_not, true_and, and_true]; omega) | (simp [inB, inI64, fitB, GTy.zero]; omega) | (simp [inB, inI64, fitB, GTy.zero])) ?_
                        refine ax_ret ?_
                        refine ⟨_, Wk.sub (st' := ⟨[(2, _)], []⟩) (SubL.cons rfl SubL.nil) SubH.nil, _, _, rfl, rfl, ?_⟩
                        refine ⟨?_, rfl⟩
                        clear h1 h2 h3 h4 h5 hwl hdl
                        simp only [decide_eq_true_eq, decide_eq_false_iff_not] at *
                        simp [textT, hf, partsT, *]
                        done
                  ·
                    refine ax_region ?_
                    refine al_run tt_ok rfl (by first | rfl | (simp only [inB, inI64, fitB, GTy.zero, Bool.and_eq_true, Bool.or_eq_true, Bool.not_eq_true', Bool.and_true, Bool.true_and, Bool.or_true, Bool.true_or, decide_eq_true_eq, decide_eq_false_iff_not, true_and, and_true]; omega) | (simp [inB, inI64, fitB, GTy.zero]; omega) | (simp [inB, inI64, fitB, GTy.zero])) ?_
                    refine ax_cond rfl rfl (fun hc17 => ?_) (fun hc17 => ?_)
                    ·
                      first | (exfalso; (simp only [decide_eq_true_eq, decide_eq_false_iff_not] at *; omega); done) | skip
                      all_goals
                        refine ax_region ?_
                        refine al_upto tt_ok rfl (by first | rfl | (simp only [inB, inI64, fitB, GTy.zero, Bool.and_eq_true, Bool.or_eq_true, Bool.not_eq_true', Bool.and_true, Bool.true_and, Bool.or_true, Bool.true_or, decide_eq_true_eq, decide_eq_false_iff_not, true_and, and_true]; omega) | (simp [inB, inI64, fitB, GTy.zero]; omega) | (simp [inB, inI64, fitB, GTy.zero])) ?_
                        refine al_callP (ntext_ok o.2.2.1.1 o.2.2.1.2 g3) rfl ⟨rfl, rfl⟩ rfl Tryd.func46 rfl rfl rfl rfl rfl rfl ?_
                        refine al_run tt_ok rfl (by first | rfl | (simp only [inB, inI64, fitB, GTy.zero, Bool.and_eq_true, Bool.or_eq_true, Bool.not_eq_true', Bool.and_true, Bool.true_and, Bool.or_true, Bool.true_or, decide_eq_true_eq, decide_eq_false_iff_not, true_and, and_true]; omega) | (simp [inB, inI64, fitB, GTy.zero]; omega) | (simp [inB, inI64, fitB, GTy.zero])) ?_
                        refine ax_seq ?_
                        first | (exfalso; (simp only [decide_eq_true_eq, decide_eq_false_iff_not] at *; omega); done) | skip
                        all_goals
                          refine ax_weak (Wk.frz (id := 16) rfl) ?_
                          refine ax_region ?_
                          refine al_upto tt_ok rfl (by first | rfl | (simp only [inB, inI64, fitB, GTy.zero, Bool.and_eq_true, Bool.or_eq_true, Bool.not_eq_true', Bool.and_true, Bool.true_and, Bool.or_true, Bool.true_or, decide_eq_true_eq, decide_eq_false_iff_not, true_and, and_true]; omega) | (simp [inB, inI64, fitB, GTy.zero]; omega) | (simp [inB, inI64, fitB, GTy.zero])) ?_
                          refine al_callP (join_ok _ none [32] (by simp) (by simp) (by simp only [GTy.zero, Lib.join, List.intercalate, List.intersperse, List.flatten_cons, List.flatten_nil, List.cons_append, List.nil_append, List.length_append, List.length_cons, List.length_nil, List.append_nil]; omega)) rfl ⟨rfl, rfl⟩ rfl Tryd.func47 rfl rfl rfl rfl rfl rfl ?_
                          refine al_run tt_ok rfl (by first | rfl | (simp only [inB, inI64, fitB, GTy.zero, Bool.and_eq_true, Bool.or_eq_true, Bool.not_eq_true', Bool.and_true, Bool.true_and, Bool.or_true, Bool.true_or, decide_eq_true_eq, decide_eq_false_iff_not, true_and, and_true]; omega) | (simp [inB, inI64, fitB, GTy.zero]; omega) | (simp [inB, inI64, fitB, GTy.zero])) ?_
                          refine ax_ret ?_
                          refine ⟨_, Wk.sub (st' := ⟨[(2, _)], []⟩) (SubL.cons rfl SubL.nil) SubH.nil, _, _, rfl, rfl, ?_⟩
                          refine ⟨?_, rfl⟩
                          clear h1 h2 h3 h4 h5 hwl hdl
                          simp only [decide_eq_true_eq, decide_eq_false_iff_not] at *
                          simp [textT, hf, partsT, *]
                          done
                    ·
                      refine ax_skip ?_
                      refine ax_seq ?_
                      first | (exfalso; (simp only [decide_eq_true_eq, decide_eq_false_iff_not] at *; omega); done) | skip
                      all_goals
                        refine ax_weak (Wk.frz (id := 16) rfl) ?_
                        refine ax_region ?_
                        refine al_upto tt_ok rfl (by first | rfl | (simp only [inB, inI64, fitB, GTy.zero, Bool.and_eq_true, Bool.or_eq_true, Bool.not_eq_true', Bool.and_true, Bool.true_and, Bool.or_true, Bool.true_or, decide_eq_true_eq, decide_eq_false_iff_not, true_and, and_true]; omega) | (simp [inB, inI64, fitB, GTy.zero]; omega) | (simp [inB, inI64, fitB, GTy.zero])) ?_
                        refine al_callP (join_ok _ none [32] (by simp) (by simp) (by simp only [GTy.zero, Lib.join, List.intercalate, List.intersperse, List.flatten_cons, List.flatten_nil, List.cons_append, List.nil_append, List.length_append, List.length_cons, List.length_nil, List.append_nil]; omega)) rfl ⟨rfl, rfl⟩ rfl Tryd.func47 rfl rfl rfl rfl rfl rfl ?_
                        refine al_run tt_ok rfl (by first | rfl | (simp only [inB, inI64, fitB, GTy.zero, Bool.and_eq_true, Bool.or_eq_true, Bool.not_eq_true', Bool.and_true, Bool.true_and, Bool.or_true, Bool.true_or, decide_eq_true_eq, decide_eq_false_iff_not, true_and, and_true]; omega) | (simp [inB, inI64, fitB, GTy.zero]; omega) | (simp [inB, inI64, fitB, GTy.zero])) ?_
                        refine ax_ret ?_
                        refine ⟨_, Wk.sub (st' := ⟨[(2, _)], []⟩) (SubL.cons rfl SubL.nil) SubH.nil, _, _, rfl, rfl, ?_⟩
                        refine ⟨?_, rfl⟩
                        clear h1 h2 h3 h4 h5 hwl hdl
                        simp only [decide_eq_true_eq, decide_eq_false_iff_not] at *
                        simp [textT, hf, partsT, *]
                        done
            ·
              refine ax_region ?_
              refine al_run tt_ok rfl (by first | rfl | (simp only [inB, inI64, fitB, GTy.zero, Bool.and_eq_true, Bool.or_eq_true, Bool.not_eq_true', Bool.and_true, Bool.true_and, Bool.or_true, Bool.true_or, decide_eq_true_eq, decide_eq_false_iff_not, true_and, and_true]; omega) | (simp [inB, inI64, fitB, GTy.zero]; omega) | (simp [inB, inI64, fitB, GTy.zero])) ?_
              refine ax_cond rfl rfl (fun hc14 => ?_) (fun hc14 => ?_)
              ·
                first | (exfalso; (simp only [decide_eq_true_eq, decide_eq_false_iff_not] at *; omega); done) | skip
                all_goals
                  refine ax_draw [5, 6, 7, 8] (by kernel_rfl) rfl (N := 12) ?_
                  refine ad_run (fuel := 4) (ds' := ⟨#[true, true, true, true, true, true, true, false, true, false, false, false], true, true, true⟩) tt_ok [(0, 0), (1, 0), (2, 3), (3, 0), (4, 1), (5, 0), (6, 3), (8, 0)] (by kernel_rfl) rfl (by first | rfl | (simp only [inB, inI64, fitB, GTy.zero, Bool.and_eq_true, Bool.or_eq_true, Bool.not_eq_true', Bool.and_true, Bool.true_and, Bool.or_true, Bool.true_or, decide_eq_true_eq, decide_eq_false_iff_not, true_and, and_true]; omega) | (simp [inB, inI64, fitB, GTy.zero]; omega) | (simp [inB, inI64, fitB, GTy.zero])) ?_
                  refine ad_ready (by kernel_rfl) (ads_cons (i := 7) ?_ ads_nil)
                  refine ado_of rfl ?_
                  refine adx_call (i := 7) (listed' := #[true, true, true, true, true, true, true, true, true, false, false, false]) (pre' := true) [] (ntext_ok o.2.2.1.1 o.2.2.1.2 g3) rfl rfl rfl rfl ⟨rfl, rfl⟩ rfl Tryd.func46 rfl rfl rfl rfl rfl rfl PassH.nil ?_
                  rintro _ _ ⟨rfl, rfl⟩
                  refine ⟨_, _, rfl, rfl, ?_⟩
                  refine ad_run (fuel := 0) (ds' := ⟨#[true, true, true, true, true, true, true, true, true, true, true, true], false, false, false⟩) tt_ok [(9, 2), (10, 2), (11, 0)] (by kernel_rfl) rfl (by first | rfl | (simp only [inB, inI64, fitB, GTy.zero, Bool.and_eq_true, Bool.or_eq_true, Bool.not_eq_true', Bool.and_true, Bool.true_and, Bool.or_true, Bool.true_or, decide_eq_true_eq, decide_eq_false_iff_not, true_and, and_true]; omega) | (simp [inB, inI64, fitB, GTy.zero]; omega) | (simp [inB, inI64, fitB, GTy.zero])) ?_
                  refine ad_done (by kernel_rfl) ?_
                  refine ax_seq ?_
                  first | (exfalso; (simp only [decide_eq_true_eq, decide_eq_false_iff_not] at *; omega); done) | skip
                  all_goals
                    refine ax_weak (Wk.frz (id := 16) rfl) ?_
                    refine ax_region ?_
                    refine al_upto tt_ok rfl (by first | rfl | (simp only [inB, inI64, fitB, GTy.zero, Bool.and_eq_true, Bool.or_eq_true, Bool.not_eq_true', Bool.and_true, Bool.true_and, Bool.or_true, Bool.true_or, decide_eq_true_eq, decide_eq_false_iff_not, true_and, and_true]; omega) | (simp [inB, inI64, fitB, GTy.zero]; omega) | (simp [inB, inI64, fitB, GTy.zero])) ?_
                    refine al_callP (join_ok _ none [32] (by simp) (by simp) (by simp only [GTy.zero, Lib.join, List.intercalate, List.intersperse, List.flatten_cons, List.flatten_nil, List.cons_append, List.nil_append, List.length_append, List.length_cons, List.length_nil, List.append_nil]; omega)) rfl ⟨rfl, rfl⟩ rfl Tryd.func47 rfl rfl rfl rfl rfl rfl ?_
                    refine al_run tt_ok rfl (by first | rfl | (simp only [inB, inI64, fitB, GTy.zero, Bool.and_eq_true, Bool.or_eq_true, Bool.not_eq_true', Bool.and_true, Bool.true_and, Bool.or_true, Bool.true_or, decide_eq_true_eq, decide_eq_false_iff_not, true_and, and_true]; omega) | (simp [inB, inI64, fitB, GTy.zero]; omega) | (simp [inB, inI64, fitB, GTy.zero])) ?_
                    refine ax_ret ?_
                    refine ⟨_, Wk.sub (st' := ⟨[(2, _)], []⟩) (SubL.cons rfl SubL.nil) SubH.nil, _, _, rfl, rfl, ?_⟩
                    refine ⟨?_, rfl⟩
                    clear h1 h2 h3 h4 h5 hwl hdl
                    simp only [decide_eq_true_eq, decide_eq_false_iff_not] at *
                    simp [textT, hf, partsT, *]
                    done
              ·
                refine ax_seq ?_
                refine ax_seq ?_
                first | (exfalso; (simp only [decide_eq_true_eq, decide_eq_false_iff_not] at *; omega); done) | skip
                all_goals
                  refine ax_region ?_
                  refine al_run tt_ok rfl (by first | rfl | (simp only [inB, inI64, fitB, GTy.zero, Bool.and_eq_true, Bool.or_eq_true, Bool.not_eq_true', Bool.and_true, Bool.true_and, Bool.or_true, Bool.true_or, decide_eq_true_eq, decide_eq_false_iff_not, true_and, and_true]; omega) | (simp [inB, inI64, fitB, GTy.zero]; omega) | (simp [inB, inI64, fitB, GTy.zero])) ?_
                  refine ax_cond rfl rfl (fun hc16 => ?_) (fun hc16 => ?_)
                  ·
                    refine ax_skip ?_
                    refine ax_cond rfl rfl (fun hc16 => ?_) (fun hc16 => ?_)
                    ·
                      first | (exfalso; (simp only [decide_eq_true_eq, decide_eq_false_iff_not] at *; omega); done) | skip
                      all_goals
                        refine ax_region ?_
                        refine al_upto tt_ok rfl (by first | rfl | (simp only [inB, inI64, fitB, GTy.zero, Bool.and_eq_true, Bool.or_eq_true, Bool.not_eq_true', Bool.and_true, Bool.true_and, Bool.or_true, Bool.true_or, decide_eq_true_eq, decide_eq_false_iff_not, true_and, and_true]; omega) | (simp [inB, inI64, fitB, GTy.zero]; omega) | (simp [inB, inI64, fitB, GTy.zero])) ?_
                        refine al_callP (ntext_ok o.2.2.1.1 o.2.2.1.2 g3) rfl ⟨rfl, rfl⟩ rfl Tryd.func46 rfl rfl rfl rfl rfl rfl ?_
                        refine al_run tt_ok rfl (by first | rfl | (simp only [inB, inI64, fitB, GTy.zero, Bool.and_eq_true, Bool.or_eq_true, Bool.not_eq_true', Bool.and_true, Bool.true_and, Bool.or_true, Bool.true_or, decide_eq_true_eq, decide_eq_false_iff_not, true_and, and_true]; omega) | (simp [inB, inI64, fitB, GTy.zero]; omega) | (simp [inB, inI64, fitB, GTy.zero])) ?_
                        refine ax_seq ?_
                        first | (exfalso; (simp only [decide_eq_true_eq, decide_eq_false_iff_not] at *; omega); done) | skip
                        all_goals
                          refine ax_weak (Wk.frz (id := 16) rfl) ?_
                          refine ax_region ?_
                          refine al_upto tt_ok rfl (by first | rfl | (simp only [inB, inI64, fitB, GTy.zero, Bool.and_eq_true, Bool.or_eq_true, Bool.not_eq_true', Bool.and_true, Bool.true_and, Bool.or_true, Bool.true_or, decide_eq_true_eq, decide_eq_false_iff_not, true_and, and_true]; omega) | (simp [inB, inI64, fitB, GTy.zero]; omega) | (simp [inB, inI64, fitB, GTy.zero])) ?_
                          refine al_callP (join_ok _ none [32] (by simp) (by simp) (by simp only [GTy.zero, Lib.join, List.intercalate, List.intersperse, List.flatten_cons, List.flatten_nil, List.cons_append, List.nil_append, List.length_append, List.length_cons, List.length_nil, List.append_nil]; omega)) rfl ⟨rfl, rfl⟩ rfl Tryd.func47 rfl rfl rfl rfl rfl rfl ?_
                          refine al_run tt_ok rfl (by first | rfl | (simp only [inB, inI64, fitB, GTy.zero, Bool.and_eq_true, Bool.or_eq_true, Bool.not_eq_true', Bool.and_true, Bool.true_and, Bool.or_true, Bool.true_or, decide_eq_true_eq, decide_eq_false_iff_not, true_and, and_true]; omega) | (simp [inB, inI64, fitB, GTy.zero]; omega) | (simp [inB, inI64, fitB, GTy.zero])) ?_
                          refine ax_ret ?_
                          refine ⟨_, Wk.sub (st' := ⟨[(2, _)], []⟩) (SubL.cons rfl SubL.nil) SubH.nil, _, _, rfl, rfl, ?_⟩
                          refine ⟨?_, rfl⟩
                          clear h1 h2 h3 h4 h5 hwl hdl
                          simp only [decide_eq_true_eq, decide_eq_false_iff_not] at *
                          simp [textT, hf, partsT, *]
                          done
                    ·
                      refine ax_skip ?_
                      refine ax_seq ?_
                      first | (exfalso; (simp only [decide_eq_true_eq, decide_eq_false_iff_not] at *; omega); done) | skip
                      all_goals
                        refine ax_weak (Wk.frz (id := 16) rfl) ?_
                        refine ax_region ?_
                        refine al_upto tt_ok rfl (by first | rfl | (simp only [inB, inI64, fitB, GTy.zero, Bool.and_eq_true, Bool.or_eq_true, Bool.not_eq_true', Bool.and_true, Bool.true_and, Bool.or_true, Bool.true_or, decide_eq_true_eq, decide_eq_false_iff_not, true_and, and_true]; omega) | (simp [inB, inI64, fitB, GTy.zero]; omega) | (simp [inB, inI64, fitB, GTy.zero])) ?_
                        refine al_callP (join_ok _ none [32] (by simp) (by simp) (by simp only [GTy.zero, Lib.join, List.intercalate, List.intersperse, List.flatten_cons, List.flatten_nil, List.cons_append, List.nil_append, List.length_append, List.length_cons, List.length_nil, List.append_nil]; omega)) rfl ⟨rfl, rfl⟩ rfl Tryd.func47 rfl rfl rfl rfl rfl rfl ?_
                        refine al_run tt_ok rfl (by first | rfl | (simp only [inB, inI64, fitB, GTy.zero, Bool.and_eq_true, Bool.or_eq_true, Bool.not_eq_true', Bool.and_true, Bool.true_and, Bool.or_true, Bool.true_or, decide_eq_true_eq, decide_eq_false_iff_not, true_and, and_true]; omega) | (simp [inB, inI64, fitB, GTy.zero]; omega) | (simp [inB, inI64, fitB, GTy.zero])) ?_
                        refine ax_ret ?_
                        refine ⟨_, Wk.sub (st' := ⟨[(2, _)], []⟩) (SubL.cons rfl SubL.nil) SubH.nil, _, _, rfl, rfl, ?_⟩
                        refine ⟨?_, rfl⟩
                        clear h1 h2 h3 h4 h5 hwl hdl
                        simp only [decide_eq_true_eq, decide_eq_false_iff_not] at *
                        simp [textT, hf, partsT, *]
                        done
                  ·
                    refine ax_region ?_
                    refine al_run tt_ok rfl (by first | rfl | (simp only [inB, inI64, fitB, GTy.zero, Bool.and_eq_true, Bool.or_eq_true, Bool.not_eq_true', Bool.and_true, Bool.true_and, Bool.or_true, Bool.true_or, decide_eq_true_eq, decide_eq_false_iff_not, true_and, and_true]; omega) | (simp [inB, inI64, fitB, GTy.zero]; omega) | (simp [inB, inI64, fitB, GTy.zero])) ?_
                    refine ax_cond rfl rfl (fun hc17 => ?_) (fun hc17 => ?_)
                    ·
                      first | (exfalso; (simp only [decide_eq_true_eq, decide_eq_false_iff_not] at *; omega); done) | skip
                      all_goals
                        refine ax_region ?_
                        refine al_upto tt_ok rfl (by first | rfl | (simp only [inB, inI64, fitB, GTy.zero, Bool.and_eq_true, Bool.or_eq_true, Bool.not_eq_true', Bool.and_true, Bool.true_and, Bool.or_true, Bool.true_or, decide_eq_true_eq, decide_eq_false_iff_not, true_and, and_true]; omega) | (simp [inB, inI64, fitB, GTy.zero]; omega) | (simp [inB, inI64, fitB, GTy.zero])) ?_
                        refine al_callP (ntext_ok o.2.2.1.1 o.2.2.1.2 g3) rfl ⟨rfl, rfl⟩ rfl Tryd.func46 rfl rfl rfl rfl rfl rfl ?_
                        refine al_run tt_ok rfl (by first | rfl | (simp only [inB, inI64, fitB, GTy.zero, Bool.and_eq_true, Bool.or_eq_true, Bool.not_eq_true', Bool.and_true, Bool.true_and, Bool.or_true, Bool.true_or, decide_eq_true_eq, decide_eq_false_iff_not, true_and, and_true]; omega) | (simp [inB, inI64, fitB, GTy.zero]; omega) | (simp [inB, inI64, fitB, GTy.zero])) ?_
                        refine ax_seq ?_
                        first | (exfalso; (simp only [decide_eq_true_eq, decide_eq_false_iff_not] at *; omega); done) | skip
                        all_goals
                          refine ax_weak (Wk.frz (id := 16) rfl) ?_
                          refine ax_region ?_
                          refine al_upto tt_ok rfl (by first | rfl | (simp only [inB, inI64, fitB, GTy.zero, Bool.and_eq_true, Bool.or_eq_true, Bool.not_eq_true', Bool.and_true, Bool.true_and, Bool.or_true, Bool.true_or, decide_eq_true_eq, decide_eq_false_iff_not, true_and, and_true]; omega) | (simp [inB, inI64, fitB, GTy.zero]; omega) | (simp [inB, inI64, fitB, GTy.zero])) ?_
                          refine al_callP (join_ok _ none [32] (by simp) (by simp) (by simp only [GTy.zero, Lib.join, List.intercalate, List.intersperse, List.flatten_cons, List.flatten_nil, List.cons_append, List.nil_append, List.length_append, List.length_cons, List.length_nil, List.append_nil]; omega)) rfl ⟨rfl, rfl⟩ rfl Tryd.func47 rfl rfl rfl rfl rfl rfl ?_
                          refine al_run tt_ok rfl (by first | rfl | (simp only [inB, inI64, fitB, GTy.zero, Bool.and_eq_true, Bool.or_eq_true, Bool.not_eq_true', Bool.and_true, Bool.true_and, Bool.or_true, Bool.true_or, decide_eq_true_eq, decide_eq_false_iff_not, true_and, and_true]; omega) | (simp [inB, inI64, fitB, GTy.zero]; omega) | (simp [inB, inI64, fitB, GTy.zero])) ?_
                          refine ax_ret ?_
                          refine ⟨_, Wk.sub (st' := ⟨[(2, _)], []⟩) (SubL.cons rfl SubL.nil) SubH.nil, _, _, rfl, rfl, ?_⟩
                          refine ⟨?_, rfl⟩
                          clear h1 h2 h3 h4 h5 hwl hdl
                          simp only [decide_eq_true_eq, decide_eq_false_iff_not] at *
                          simp [textT, hf, partsT, *]
                          done
                    ·
                      refine ax_skip ?_
                      refine ax_seq ?_
                      first | (exfalso; (simp only [decide_eq_true_eq, decide_eq_false_iff_not] at *; omega); done) | skip
                      all_goals
                        refine ax_weak (Wk.frz (id := 16) rfl) ?_
                        refine ax_region ?_
                        refine al_upto tt_ok rfl (by first | rfl | (simp only [inB, inI64, fitB, GTy.zero, Bool.and_eq_true, Bool.or_eq_true, Bool.not_eq_true', Bool.and_true, Bool.true_and, Bool.or_true, Bool.true_or, decide_eq_true_eq, decide_eq_false_iff_not, true_and, and_true]; omega) | (simp [inB, inI64, fitB, GTy.zero]; omega) | (simp [inB, inI64, fitB, GTy.zero])) ?_
                        refine al_callP (join_ok _ none [32] (by simp) (by simp) (by simp only [GTy.zero, Lib.join, List.intercalate, List.intersperse, List.flatten_cons, List.flatten_nil, List.cons_append, List.nil_append, List.length_append, List.length_cons, List.length_nil, List.append_nil]; omega)) rfl ⟨rfl, rfl⟩ rfl Tryd.func47 rfl rfl rfl rfl rfl rfl ?_
                        refine al_run tt_ok rfl (by first | rfl | (simp only [inB, inI64, fitB, GTy.zero, Bool.and_eq_true, Bool.or_eq_true, Bool.not_eq_true', Bool.and_true, Bool.true_and, Bool.or_true, Bool.true_or, decide_eq_true_eq, decide_eq_false_iff_not, true_and, and_true]; omega) | (simp [inB, inI64, fitB, GTy.zero]; omega) | (simp [inB, inI64, fitB, GTy.zero])) ?_
                        refine ax_ret ?_
                        refine ⟨_, Wk.sub (st' := ⟨[(2, _)], []⟩) (SubL.cons rfl SubL.nil) SubH.nil, _, _, rfl, rfl, ?_⟩
                        refine ⟨?_, rfl⟩
                        clear h1 h2 h3 h4 h5 hwl hdl
                        simp only [decide_eq_true_eq, decide_eq_false_iff_not] at *
                        simp [textT, hf, partsT, *]
                        done
end Go.Proofs.YtcjpcmofajcadaaDoor
