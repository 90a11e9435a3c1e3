/- blocks of the law; same. -/
import Derived.Test.YtjemilhbipaepaaS20
namespace Go.Proofs.Ytjemilhbipaepaa
open Go.RowKit

structure BR where
  A : Option Addr
  c : Nat
  l : List UInt8
def brV (r : BR) : Value := .slice r.A r.l.length r.c
def brP (r : BR) : Ck := .row r.A r.c 5 1 r.l.length (r.l.map byteV)
def nBlocks (ops : List Op) : Nat := (ops.length + 31) / 32
def blockList (ops : List Op) : List (List UInt8) := (List.range (nBlocks ops)).map fun j => encBlock (blk ops j)
structure BS where
  i : Nat
  A : Option Addr
  c : Nat
  rs : List BR
theorem blk_cut (ops : List Op) (i h : Nat) (hh : h = i * 32 + 32 ∧ h ≤ ops.length ∨ h = ops.length ∧ ops.length < i * 32 + 32) : (ops.drop (i * 32)).take (h - i * 32) = blk ops i := by
  unfold blk
  rcases hh with ⟨h1, _⟩ | ⟨h1, h2⟩
  · rw [h1, Nat.add_sub_cancel_left]
  · rw [h1, List.take_of_length_le (by simp), List.take_of_length_le (by simp; omega)]
theorem blk_mem {ops : List Op} {i : Nat} {o : Op} (h : o ∈ blk ops i) : o ∈ ops := List.mem_of_mem_drop (List.mem_of_mem_take h)
set_option maxHeartbeats 1000000 in
theorem blocks_any (A : Option Addr) (c n : Nat) (ops : List Op) (hn : ops.length = n) (hl : n ≤ 100000) (hcc : n ≤ c) (good : ∀ o ∈ ops, Good o) (W : World) (hR : Reads W A n 6 (opsC ops)) :
    Ret Try.prog 13 #[.slice A n c] W fun v w' => ∃ y : BS, v = .slice y.A (nBlocks ops) y.c ∧ y.rs.reverse.map (·.l) = blockList ops ∧ SF W (.row y.A y.c 22 1 (nBlocks ops) (y.rs.reverse.map brV) :: y.rs.map brP) w' := by
  subst hn
  refine f_start (vs := [.slice A ops.length c]) [(0, .slice A ops.length c)] Try.func13 rfl Try.ntmps13 rfl rfl ?_
  intro a hX
  refine wpIn_seq ?_
  refine c_region ?_
  refine xl_cons ?_; ((refine y_pure (d := 2) hX ⟨rfl, rfl⟩ rfl (p_assign hX.st rfl rfl) ?_; clear hX; intro a w hX))
  refine x_end ?_
  refine q_then ?_
  refine wpIn_seq ?_
  refine c_region ?_
  refine xl_cons ?_; ((refine y_pure (d := 3) hX ⟨rfl, rfl⟩ rfl (p_assign hX.st rfl rfl) ?_; clear hX; intro a w hX))
  refine x_end ?_
  refine q_then ?_
  refine wpIn_seq ?_
  refine wpIn_seq ?_
  refine c_region ?_
  refine xl_cons ?_; ((refine y_pure (d := 4) hX ⟨rfl, rfl⟩ rfl (p_assign hX.st rfl rfl) ?_; clear hX; intro a w hX))
  refine x_end ?_
  refine q_then ?_
  refine c_block ?_
  refine c_loopX (α := BS) (fun x => [(0, .slice A ops.length c), (3, .slice x.A x.i x.c), (4, .int .i64 ((x.i * 32 : Nat) : Int))]) (fun x => .row x.A x.c 22 1 x.i (x.rs.reverse.map brV) :: x.rs.map brP) (fun x => x.i ≤ nBlocks ops ∧ x.rs.reverse.map (·.l) = (List.range x.i).map fun j => encBlock (blk ops j)) (fun x => nBlocks ops - x.i) ⟨0, none, 0, []⟩ ⟨Nat.zero_le _, rfl⟩ ⟨(hX.toL (by repeat (first | exact Sub.nil | refine Sub.cons rfl ?_))).st, hX.sh.nilRow 22 1⟩ ?_
  clear hX
  rintro ⟨i, A3, c3, rs⟩ a w ⟨hi, hrs⟩ hX
  dsimp only at hi hrs hX
  unfold nBlocks at hi
  refine wpIn_seq ?_
  refine wpIn_seq ?_
  refine c_region ?_
  refine xl_cons ?_; ((refine y_pure (d := 6) hX ⟨rfl, rfl⟩ rfl (p_move hX.st rfl rfl) ?_; clear hX; intro a w hX))
  refine xl_cons ?_; ((refine y_pure (d := 7) hX ⟨rfl, rfl⟩ rfl (p_move hX.st rfl rfl) ?_; clear hX; intro a w hX))
  refine xl_cons ?_; ((refine y_pure (d := 8) hX ⟨rfl, rfl⟩ rfl (p_len hX.st rfl tab_ok rfl rfl rfl) ?_; clear hX; intro a w hX))
  refine xl_cons ?_; ((refine y_pure (d := 9) hX ⟨rfl, rfl⟩ rfl (p_lss hX.st rfl rfl rfl) ?_; clear hX; intro a w hX))
  refine x_end ?_
  refine q_then ?_
  refine c_cond hX rfl (fun hc => ?_) (fun hc => ?_)
  ·
    try (first | cases hc | exact (contra_tf hc (by with_reducible assumption)).elim | exact (contra_tf (by with_reducible assumption) hc).elim | exact absurd hc (by decide))
    all_goals
      refine c_skip ?_
      refine q_then ?_
      refine wpIn_seq ?_
      refine c_block ?_
      refine wpIn_seq ?_
      have hlt : i * 32 < ops.length := by have h5 := hc; simp only [decide_eq_true_eq] at h5; omega
      refine c_region ?_
      refine xl_cons ?_; ((refine y_pure (d := 12) hX ⟨rfl, rfl⟩ rfl (p_move hX.st rfl rfl) ?_; clear hX; intro a w hX))
      refine xl_cons ?_; (first | (refine y_pure (d := 13) hX ⟨rfl, rfl⟩ rfl (p_add hX.st rfl rfl rfl (in_i64 (by omega) (by omega))) ?_; clear hX; intro a w hX) | (refine y_pure (d := 13) hX ⟨rfl, rfl⟩ rfl (p_add hX.st rfl rfl rfl rfl) ?_; clear hX; intro a w hX))
      refine xl_cons ?_; ((refine y_pure (d := 5) hX ⟨rfl, rfl⟩ rfl (p_assign hX.st rfl rfl) ?_; clear hX; intro a w hX))
      refine x_end ?_
      refine q_then ?_
      refine wpIn_seq ?_
      refine wpIn_seq ?_
      refine c_region ?_
      refine xl_cons ?_; ((refine y_pure (d := 14) hX ⟨rfl, rfl⟩ rfl (p_move hX.st rfl rfl) ?_; clear hX; intro a w hX))
      refine xl_cons ?_; ((refine y_pure (d := 15) hX ⟨rfl, rfl⟩ rfl (p_move hX.st rfl rfl) ?_; clear hX; intro a w hX))
      refine xl_cons ?_; ((refine y_pure (d := 16) hX ⟨rfl, rfl⟩ rfl (p_len hX.st rfl tab_ok rfl rfl rfl) ?_; clear hX; intro a w hX))
      refine xl_cons ?_; ((refine y_pure (d := 17) hX ⟨rfl, rfl⟩ rfl (p_gtr hX.st rfl rfl rfl) ?_; clear hX; intro a w hX))
      refine x_end ?_
      refine q_then ?_
      refine c_cond hX rfl (fun hc => ?_) (fun hc => ?_)
      ·
        try (first | cases hc | exact (contra_tf hc (by with_reducible assumption)).elim | exact (contra_tf (by with_reducible assumption) hc).elim | exact absurd hc (by decide))
        all_goals
          refine c_region ?_
          refine xl_cons ?_; ((refine y_pure (d := 18) hX ⟨rfl, rfl⟩ rfl (p_move hX.st rfl rfl) ?_; clear hX; intro a w hX))
          refine xl_cons ?_; ((refine y_pure (d := 19) hX ⟨rfl, rfl⟩ rfl (p_len hX.st rfl tab_ok rfl rfl rfl) ?_; clear hX; intro a w hX))
          refine xl_cons ?_; ((refine y_pure (d := 5) hX ⟨rfl, rfl⟩ rfl (p_assign hX.st rfl rfl) ?_; clear hX; intro a w hX))
          refine x_end ?_
          refine q_then ?_
          obtain ⟨h, hh, hz⟩ : ∃ h : Nat, (h = i * 32 + 32 ∧ h ≤ ops.length ∨ h = ops.length ∧ ops.length < i * 32 + 32) ∧ [(5, Value.int .i64 (h : Int))].lookup 5 = some (Value.int .i64 (h : Int)) := by
            have h5 := hc
            first
              | (simp only [decide_eq_true_eq] at h5; exact ⟨ops.length, .inr ⟨rfl, by omega⟩, rfl⟩)
              | (simp only [decide_eq_false_iff_not] at h5; exact ⟨i * 32 + 32, .inl ⟨rfl, by omega⟩, rfl⟩)
          have hX := hX.toL (L' := [(0, .slice A ops.length c), (3, .slice A3 i c3), (4, .int .i64 ((i * 32 : Nat) : Int)), (5, .int .i64 (h : Int))]) (Sub.cons rfl (Sub.cons rfl (Sub.cons rfl (Sub.cons (look_int rfl (by have h5 := hc; first | (simp only [decide_eq_true_eq] at h5; omega) | (simp only [decide_eq_false_iff_not] at h5; omega))) Sub.nil))))
          refine c_region ?_
          refine xl_cons ?_; ((refine y_pure (d := 20) hX ⟨rfl, rfl⟩ rfl (p_move hX.st rfl rfl) ?_; clear hX; intro a w hX))
          refine xl_cons ?_; ((refine y_pure (d := 21) hX ⟨rfl, rfl⟩ rfl (p_move hX.st rfl rfl) ?_; clear hX; intro a w hX))
          refine xl_cons ?_; ((refine y_pure (d := 22) hX ⟨rfl, rfl⟩ rfl (p_move hX.st rfl rfl) ?_; clear hX; intro a w hX))
          refine xl_cons ?_; ((refine y_pure (d := 23) hX ⟨rfl, rfl⟩ rfl (p_move hX.st rfl rfl) ?_; clear hX; intro a w hX))
          refine xl_cons ?_; (refine y_pure (d := 24) hX ⟨rfl, rfl⟩ rfl (p_sliceMid (l := i * 32) (h := h) hX.st rfl tab_ok rfl rfl rfl rfl rfl rfl rfl rfl (by omega) (by omega)) ?_; clear hX; intro a w hX)
          refine xl_cons ?_; (refine y_callC (d := 25) hX rfl ⟨rfl, rfl⟩ rfl Try.func19 rfl rfl rfl (block_any _ _ _ (blk ops i) (by rw [blk_length]; omega) (by omega) (fun o ho => good o (blk_mem ho)) _ (by have h1 := (Reads.old hX.sh hR).cut (l := i * 32) (h := h) (c := c) (by omega) (by omega) (by omega); rw [opsC_cut, blk_cut ops i h hh] at h1; exact h1)) ?_; clear hX; rintro x a w _ hX)
          refine xl_cons ?_; (refine y_buildSlice (d := 26) hX rfl ⟨rfl, rfl⟩ rfl tab_ok rfl rfl rfl rfl rfl (xs := [.tmp 25]) rfl rfl rfl rfl rfl ?_; clear hX; intro b a w hX)
          refine xl_cons ?_; (refine y_append_cel (d := 27) hX rfl ⟨rfl, rfl⟩ rfl tab_ok rfl rfl rfl rfl rfl rfl rfl foc2 foc0 rfl rfl (by simp only [ti22]; omega) (by omega) ?_; clear hX; intro A5 c5 a w hX)
          refine xl_cons ?_; ((refine y_pure (d := 3) hX ⟨rfl, rfl⟩ rfl (p_assign hX.st rfl rfl) ?_; clear hX; intro a w hX))
          refine x_end ?_
          refine q_block ?_
          refine q_then ?_
          refine c_region ?_
          refine xl_cons ?_; ((refine y_pure (d := 10) hX ⟨rfl, rfl⟩ rfl (p_move hX.st rfl rfl) ?_; clear hX; intro a w hX))
          refine xl_cons ?_; (first | (refine y_pure (d := 11) hX ⟨rfl, rfl⟩ rfl (p_add hX.st rfl rfl rfl (in_i64 (by omega) (by omega))) ?_; clear hX; intro a w hX) | (refine y_pure (d := 11) hX ⟨rfl, rfl⟩ rfl (p_add hX.st rfl rfl rfl rfl) ?_; clear hX; intro a w hX))
          refine xl_cons ?_; ((refine y_pure (d := 4) hX ⟨rfl, rfl⟩ rfl (p_assign hX.st rfl rfl) ?_; clear hX; intro a w hX))
          refine x_end ?_
          refine q_then ?_
          exact ⟨⟨i + 1, A5, c5, ⟨x.1, x.2, encBlock (blk ops i)⟩ :: rs⟩, ⟨by unfold nBlocks; dsimp only; omega, by dsimp only; rw [List.range_succ, List.map_append, ← hrs]; simp⟩, by unfold nBlocks; dsimp only; omega, hX.to (Sub.cons rfl (Sub.cons rfl (Sub.cons (look_int rfl (by dsimp only; omega)) (by repeat (first | exact Sub.nil | refine Sub.cons rfl ?_))))) (Sel.consE tk2 (row_eq rfl (by simp [brV])) (Sel.cons tk1 (by with_reducible (repeat (first | exact Sel.refl _ | refine Sel.skip ?_)))))⟩
      ·
        try (first | cases hc | exact (contra_tf hc (by with_reducible assumption)).elim | exact (contra_tf (by with_reducible assumption) hc).elim | exact absurd hc (by decide))
        all_goals
          refine c_skip ?_
          refine q_then ?_
          obtain ⟨h, hh, hz⟩ : ∃ h : Nat, (h = i * 32 + 32 ∧ h ≤ ops.length ∨ h = ops.length ∧ ops.length < i * 32 + 32) ∧ [(5, Value.int .i64 (h : Int))].lookup 5 = some (Value.int .i64 (h : Int)) := by
            have h5 := hc
            first
              | (simp only [decide_eq_true_eq] at h5; exact ⟨ops.length, .inr ⟨rfl, by omega⟩, rfl⟩)
              | (simp only [decide_eq_false_iff_not] at h5; exact ⟨i * 32 + 32, .inl ⟨rfl, by omega⟩, rfl⟩)
          have hX := hX.toL (L' := [(0, .slice A ops.length c), (3, .slice A3 i c3), (4, .int .i64 ((i * 32 : Nat) : Int)), (5, .int .i64 (h : Int))]) (Sub.cons rfl (Sub.cons rfl (Sub.cons rfl (Sub.cons (look_int rfl (by have h5 := hc; first | (simp only [decide_eq_true_eq] at h5; omega) | (simp only [decide_eq_false_iff_not] at h5; omega))) Sub.nil))))
          refine c_region ?_
          refine xl_cons ?_; ((refine y_pure (d := 20) hX ⟨rfl, rfl⟩ rfl (p_move hX.st rfl rfl) ?_; clear hX; intro a w hX))
          refine xl_cons ?_; ((refine y_pure (d := 21) hX ⟨rfl, rfl⟩ rfl (p_move hX.st rfl rfl) ?_; clear hX; intro a w hX))
          refine xl_cons ?_; ((refine y_pure (d := 22) hX ⟨rfl, rfl⟩ rfl (p_move hX.st rfl rfl) ?_; clear hX; intro a w hX))
          refine xl_cons ?_; ((refine y_pure (d := 23) hX ⟨rfl, rfl⟩ rfl (p_move hX.st rfl rfl) ?_; clear hX; intro a w hX))
          refine xl_cons ?_; (refine y_pure (d := 24) hX ⟨rfl, rfl⟩ rfl (p_sliceMid (l := i * 32) (h := h) hX.st rfl tab_ok rfl rfl rfl rfl rfl rfl rfl rfl (by omega) (by omega)) ?_; clear hX; intro a w hX)
          refine xl_cons ?_; (refine y_callC (d := 25) hX rfl ⟨rfl, rfl⟩ rfl Try.func19 rfl rfl rfl (block_any _ _ _ (blk ops i) (by rw [blk_length]; omega) (by omega) (fun o ho => good o (blk_mem ho)) _ (by have h1 := (Reads.old hX.sh hR).cut (l := i * 32) (h := h) (c := c) (by omega) (by omega) (by omega); rw [opsC_cut, blk_cut ops i h hh] at h1; exact h1)) ?_; clear hX; rintro x a w _ hX)
          refine xl_cons ?_; (refine y_buildSlice (d := 26) hX rfl ⟨rfl, rfl⟩ rfl tab_ok rfl rfl rfl rfl rfl (xs := [.tmp 25]) rfl rfl rfl rfl rfl ?_; clear hX; intro b a w hX)
          refine xl_cons ?_; (refine y_append_cel (d := 27) hX rfl ⟨rfl, rfl⟩ rfl tab_ok rfl rfl rfl rfl rfl rfl rfl foc2 foc0 rfl rfl (by simp only [ti22]; omega) (by omega) ?_; clear hX; intro A5 c5 a w hX)
          refine xl_cons ?_; ((refine y_pure (d := 3) hX ⟨rfl, rfl⟩ rfl (p_assign hX.st rfl rfl) ?_; clear hX; intro a w hX))
          refine x_end ?_
          refine q_block ?_
          refine q_then ?_
          refine c_region ?_
          refine xl_cons ?_; ((refine y_pure (d := 10) hX ⟨rfl, rfl⟩ rfl (p_move hX.st rfl rfl) ?_; clear hX; intro a w hX))
          refine xl_cons ?_; (first | (refine y_pure (d := 11) hX ⟨rfl, rfl⟩ rfl (p_add hX.st rfl rfl rfl (in_i64 (by omega) (by omega))) ?_; clear hX; intro a w hX) | (refine y_pure (d := 11) hX ⟨rfl, rfl⟩ rfl (p_add hX.st rfl rfl rfl rfl) ?_; clear hX; intro a w hX))
          refine xl_cons ?_; ((refine y_pure (d := 4) hX ⟨rfl, rfl⟩ rfl (p_assign hX.st rfl rfl) ?_; clear hX; intro a w hX))
          refine x_end ?_
          refine q_then ?_
          exact ⟨⟨i + 1, A5, c5, ⟨x.1, x.2, encBlock (blk ops i)⟩ :: rs⟩, ⟨by unfold nBlocks; dsimp only; omega, by dsimp only; rw [List.range_succ, List.map_append, ← hrs]; simp⟩, by unfold nBlocks; dsimp only; omega, hX.to (Sub.cons rfl (Sub.cons rfl (Sub.cons (look_int rfl (by dsimp only; omega)) (by repeat (first | exact Sub.nil | refine Sub.cons rfl ?_))))) (Sel.consE tk2 (row_eq rfl (by simp [brV])) (Sel.cons tk1 (by with_reducible (repeat (first | exact Sel.refl _ | refine Sel.skip ?_)))))⟩
  ·
    try (first | cases hc | exact (contra_tf hc (by with_reducible assumption)).elim | exact (contra_tf (by with_reducible assumption) hc).elim | exact absurd hc (by decide))
    all_goals
      refine c_exit ?_
      refine q_then_exit ?_
      refine q_then_exit ?_
      refine q_block_exit ?_
      refine q_then ?_
      refine wpIn_seq ?_
      refine c_region ?_
      refine xl_cons ?_; ((refine y_pure (d := 28) hX ⟨rfl, rfl⟩ rfl (p_move hX.st rfl rfl) ?_; clear hX; intro a w hX))
      refine xl_cons ?_; ((refine y_pure (d := 2) hX ⟨rfl, rfl⟩ rfl (p_assign hX.st rfl rfl) ?_; clear hX; intro a w hX))
      refine x_end ?_
      refine q_then ?_
      refine c_ret ?_
      have hie : i = nBlocks ops := by have h5 := hc; simp only [decide_eq_false_iff_not] at h5; unfold nBlocks; omega
      subst hie
      exact f_ret1 hX Try.results13 rfl ⟨⟨nBlocks ops, A3, c3, rs⟩, rfl, hrs, hX.sh⟩
theorem eqF_step {P : Program} {w : World} {d : Nat} {xs ys : Array Value} {f : Field} {fs : List Field} {a b : Value} {r : Bool} (hn : f.name ≠ "_") (h1 : (part f.type xs f.offset).run P w = .ok a w) (h2 : (part f.type ys f.offset).run P w = .ok b w)
    (h3 : (Op.equalIn d f.type a b).run P w = .ok r w) : (Op.eqFields d xs ys (f :: fs)).run P w = if r then (Op.eqFields d xs ys fs).run P w else .ok false w := by
  rw [Op.eqFields, if_pos hn]
  simp only [Sem.run_bind, h1, h2, h3, Result.andThen_ok]
  cases r <;> simp
theorem part_one {P : Program} {w : World} {t : TypeId} {i : TI} (hi : TI.ok P t i) (h : isAggD i.desc = false) {xs : List Value} {k : Nat} {v : Value} (hv : xs[k]? = some v) : (part t xs.toArray k).run P w = .ok v w := by
  simp [part, TI.run_isAgg hi, h, hv]
theorem part_two {P : Program} {w : World} {t : TypeId} {i : TI} (hi : TI.ok P t i) (h : isAggD i.desc = true) (hs : i.size = 2) {xs : List Value} {k : Nat} {u v : Value} (hu : xs[k]? = some u) (hv : xs[k + 1]? = some v) : (part t xs.toArray k).run P w = .ok (.agg #[u, v]) w := by
  have hk := (List.getElem?_eq_some_iff.1 hu).1
  have hk1 := (List.getElem?_eq_some_iff.1 hv).1
  simp [part, TI.run_isAgg hi, h, TI.run_sizeOf hi, hs]
  rw [List.drop_eq_getElem_cons hk, List.drop_eq_getElem_cons hk1]
  have e1 := (List.getElem?_eq_some_iff.1 hu).2
  have e2 := (List.getElem?_eq_some_iff.1 hv).2
  simp [e1, e2]
theorem eq51d (d : Nat) (b p b' p' : Int) (w : World) : (Op.equalIn (d + 2) 51 (.agg #[.int .u8 b, .int .i64 p]) (.agg #[.int .u8 b', .int .i64 p'])).run Try.prog w = .ok ((b == b') && (p == p')) w := by
  rw [eq_struct w (d + 1) 51 _ _ Try.underlying51 (by kernel_rfl),
    eqF_step (xs := #[.int .u8 b, .int .i64 p]) (ys := #[.int .u8 b', .int .i64 p']) (by decide) (part_one ti49_ok rfl rfl) (part_one ti49_ok rfl rfl) (run_equalIn_int w d 49 _ _ _ _ Try.underlying49),
    eqF_step (xs := #[.int .u8 b, .int .i64 p]) (ys := #[.int .u8 b', .int .i64 p']) (by decide) (part_one ti3_ok rfl rfl) (part_one ti3_ok rfl rfl) (run_equalIn_int w d 3 _ _ _ _ Try.underlying3)]
  cases (b == b') <;> cases (p == p') <;> simp [Op.eqFields]
set_option maxHeartbeats 4000000 in
theorem eq53 (o p : Op) (w : World) : (Op.equalIn 10000 53 (.agg (opC o).toArray) (.agg (opC p).toArray)).run Try.prog w = .ok (decide (o = p)) w := by
  rw [show (10000 : Nat) = 9999 + 1 from rfl, eq_struct w _ 53 _ _ Try.underlying53 (by kernel_rfl),
    eqF_step (by decide) (part_one ti47_ok rfl rfl) (part_one ti47_ok rfl rfl) (run_equalIn_int w 9998 47 _ _ _ _ Try.underlying47),
    eqF_step (by decide) (part_one ti48_ok rfl rfl) (part_one ti48_ok rfl rfl) (run_equalIn_int w 9998 48 _ _ _ _ Try.underlying48),
    eqF_step (by decide) (part_two ti51_ok rfl rfl rfl rfl) (part_two ti51_ok rfl rfl rfl rfl) (eq51d 9997 _ _ _ _ w),
    eqF_step (by decide) (part_one ti5_ok rfl rfl) (part_one ti5_ok rfl rfl) (run_equalIn_int w 9998 5 _ _ _ _ Try.underlying5),
    eqF_step (by decide) (part_one ti3_ok rfl rfl) (part_one ti3_ok rfl rfl) (run_equalIn_int w 9998 3 _ _ _ _ Try.underlying3)]
  obtain ⟨k, d, b, q, y, r⟩ := o
  obtain ⟨k', d', b', q', y', r'⟩ := p
  simp only [Op.eqFields, Sem.run_pure, Op.mk.injEq]
  have e : ∀ x z : Nat, ((x : Int) == (z : Int)) = decide (x = z) := fun x z => by rw [Bool.eq_iff_iff]; simp; omega
  have e' : ∀ x z : Int, (x == z) = decide (x = z) := fun x z => by rw [Bool.eq_iff_iff]; simp
  rw [e, e, e, e, e', e']
  by_cases h1 : k = k' <;> by_cases h2 : d = d' <;> by_cases h3 : b = b' <;> by_cases h4 : q = q' <;> by_cases h5 : y = y' <;> by_cases h6 : r = r' <;> simp [h1, h2, h3, h4, h5, h6]
def sameV (a b : List Op) (ca : Nat) : Int := if a = b ∧ ca = a.length then 1 else 0
set_option maxHeartbeats 1000000 in
theorem same_any (A1 A2 : Option Addr) (n1 n2 c1 c2 : Nat) (u v : List Op) (hn1 : u.length = n1) (hn2 : v.length = n2) (hl : n1 ≤ 1000000) (hc1 : c1 ≤ 9223372036854775807) (W : World) (hR1 : Reads W A1 n1 6 (opsC u)) (hR2 : Reads W A2 n2 6 (opsC v)) :
    Ret Try.prog 17 #[.slice A1 n1 c1, .slice A2 n2 c2] W fun r w' => r = .int .i64 (sameV u v c1) ∧ SF W [] w' := by
  subst hn1; subst hn2
  refine f_start (vs := [.slice A1 u.length c1, .slice A2 v.length c2]) [(0, .slice A1 u.length c1), (1, .slice A2 v.length c2)] Try.func17 rfl Try.ntmps17 rfl rfl ?_
  intro a hX
  refine wpIn_seq ?_
  refine c_region ?_
  refine xl_cons ?_; ((refine y_pure (d := 4) hX ⟨rfl, rfl⟩ rfl (p_assign hX.st rfl rfl) ?_; clear hX; intro a w hX))
  refine x_end ?_
  refine q_then ?_
  refine wpIn_seq ?_
  refine wpIn_seq ?_
  refine c_region ?_
  refine xl_cons ?_; ((refine y_pure (d := 6) hX ⟨rfl, rfl⟩ rfl (p_move hX.st rfl rfl) ?_; clear hX; intro a w hX))
  refine xl_cons ?_; ((refine y_pure (d := 7) hX ⟨rfl, rfl⟩ rfl (p_len hX.st rfl tab_ok rfl rfl rfl) ?_; clear hX; intro a w hX))
  refine xl_cons ?_; ((refine y_pure (d := 8) hX ⟨rfl, rfl⟩ rfl (p_move hX.st rfl rfl) ?_; clear hX; intro a w hX))
  refine xl_cons ?_; ((refine y_pure (d := 9) hX ⟨rfl, rfl⟩ rfl (p_len hX.st rfl tab_ok rfl rfl rfl) ?_; clear hX; intro a w hX))
  refine xl_cons ?_; ((refine y_pure (d := 10) hX ⟨rfl, rfl⟩ rfl (p_neq hX.st rfl rfl rfl) ?_; clear hX; intro a w hX))
  refine xl_cons ?_; ((refine y_pure (d := 11) hX ⟨rfl, rfl⟩ rfl (p_move hX.st rfl rfl) ?_; clear hX; intro a w hX))
  all_goals (refine xl_cons ?_; (first | (refine y_guard0 hX rfl rfl rfl (by first | with_reducible rfl | with_reducible assumption | exact beq_self_eq_true _ | exact bne_self_eq_false _ | (show _ = true; with_reducible first | rfl | assumption) | (show _ = false; with_reducible first | rfl | assumption) | decide) rfl rfl ?_; clear hX; intro a w hX) | ((refine y_guard1 hX rfl rfl rfl (by first | with_reducible rfl | with_reducible assumption | exact beq_self_eq_true _ | exact bne_self_eq_false _ | (show _ = true; with_reducible first | rfl | assumption) | (show _ = false; with_reducible first | rfl | assumption) | decide) ?_); ((refine y_pure (d := 12) hX ⟨rfl, rfl⟩ rfl (p_move hX.st rfl rfl) ?_; clear hX; intro a w hX))) | (refine y_guardU hX rfl rfl rfl rfl rfl ?_; clear hX; intro a w hX) | ((refine y_gsplit hX rfl rfl rfl ?_ ?_) <;> intro hg <;> first | (refine y_guard0 hX rfl rfl rfl (by first | with_reducible rfl | with_reducible assumption | exact beq_self_eq_true _ | exact bne_self_eq_false _ | (show _ = true; with_reducible first | rfl | assumption) | (show _ = false; with_reducible first | rfl | assumption) | decide) rfl rfl ?_; clear hX; intro a w hX) | ((refine y_guard1 hX rfl rfl rfl (by first | with_reducible rfl | with_reducible assumption | exact beq_self_eq_true _ | exact bne_self_eq_false _ | (show _ = true; with_reducible first | rfl | assumption) | (show _ = false; with_reducible first | rfl | assumption) | decide) ?_); ((refine y_pure (d := 12) hX ⟨rfl, rfl⟩ rfl (p_move hX.st rfl rfl) ?_; clear hX; intro a w hX))))))
  all_goals (refine xl_cons ?_; (first | (refine y_guard0 hX rfl rfl rfl (by first | with_reducible rfl | with_reducible assumption | exact beq_self_eq_true _ | exact bne_self_eq_false _ | (show _ = true; with_reducible first | rfl | assumption) | (show _ = false; with_reducible first | rfl | assumption) | decide) rfl rfl ?_; clear hX; intro a w hX) | ((refine y_guard1 hX rfl rfl rfl (by first | with_reducible rfl | with_reducible assumption | exact beq_self_eq_true _ | exact bne_self_eq_false _ | (show _ = true; with_reducible first | rfl | assumption) | (show _ = false; with_reducible first | rfl | assumption) | decide) ?_); ((refine y_pure (d := 13) hX ⟨rfl, rfl⟩ rfl (p_cap hX.st rfl tab_ok rfl rfl rfl) ?_; clear hX; intro a w hX))) | (refine y_guardU hX rfl rfl rfl rfl rfl ?_; clear hX; intro a w hX) | ((refine y_gsplit hX rfl rfl rfl ?_ ?_) <;> intro hg <;> first | (refine y_guard0 hX rfl rfl rfl (by first | with_reducible rfl | with_reducible assumption | exact beq_self_eq_true _ | exact bne_self_eq_false _ | (show _ = true; with_reducible first | rfl | assumption) | (show _ = false; with_reducible first | rfl | assumption) | decide) rfl rfl ?_; clear hX; intro a w hX) | ((refine y_guard1 hX rfl rfl rfl (by first | with_reducible rfl | with_reducible assumption | exact beq_self_eq_true _ | exact bne_self_eq_false _ | (show _ = true; with_reducible first | rfl | assumption) | (show _ = false; with_reducible first | rfl | assumption) | decide) ?_); ((refine y_pure (d := 13) hX ⟨rfl, rfl⟩ rfl (p_cap hX.st rfl tab_ok rfl rfl rfl) ?_; clear hX; intro a w hX))))))
  all_goals (refine xl_cons ?_; (first | (refine y_guard0 hX rfl rfl rfl (by first | with_reducible rfl | with_reducible assumption | exact beq_self_eq_true _ | exact bne_self_eq_false _ | (show _ = true; with_reducible first | rfl | assumption) | (show _ = false; with_reducible first | rfl | assumption) | decide) rfl rfl ?_; clear hX; intro a w hX) | ((refine y_guard1 hX rfl rfl rfl (by first | with_reducible rfl | with_reducible assumption | exact beq_self_eq_true _ | exact bne_self_eq_false _ | (show _ = true; with_reducible first | rfl | assumption) | (show _ = false; with_reducible first | rfl | assumption) | decide) ?_); ((refine y_pure (d := 14) hX ⟨rfl, rfl⟩ rfl (p_move hX.st rfl rfl) ?_; clear hX; intro a w hX))) | (refine y_guardU hX rfl rfl rfl rfl rfl ?_; clear hX; intro a w hX) | ((refine y_gsplit hX rfl rfl rfl ?_ ?_) <;> intro hg <;> first | (refine y_guard0 hX rfl rfl rfl (by first | with_reducible rfl | with_reducible assumption | exact beq_self_eq_true _ | exact bne_self_eq_false _ | (show _ = true; with_reducible first | rfl | assumption) | (show _ = false; with_reducible first | rfl | assumption) | decide) rfl rfl ?_; clear hX; intro a w hX) | ((refine y_guard1 hX rfl rfl rfl (by first | with_reducible rfl | with_reducible assumption | exact beq_self_eq_true _ | exact bne_self_eq_false _ | (show _ = true; with_reducible first | rfl | assumption) | (show _ = false; with_reducible first | rfl | assumption) | decide) ?_); ((refine y_pure (d := 14) hX ⟨rfl, rfl⟩ rfl (p_move hX.st rfl rfl) ?_; clear hX; intro a w hX))))))
  all_goals (refine xl_cons ?_; (first | (refine y_guard0 hX rfl rfl rfl (by first | with_reducible rfl | with_reducible assumption | exact beq_self_eq_true _ | exact bne_self_eq_false _ | (show _ = true; with_reducible first | rfl | assumption) | (show _ = false; with_reducible first | rfl | assumption) | decide) rfl rfl ?_; clear hX; intro a w hX) | ((refine y_guard1 hX rfl rfl rfl (by first | with_reducible rfl | with_reducible assumption | exact beq_self_eq_true _ | exact bne_self_eq_false _ | (show _ = true; with_reducible first | rfl | assumption) | (show _ = false; with_reducible first | rfl | assumption) | decide) ?_); ((refine y_pure (d := 15) hX ⟨rfl, rfl⟩ rfl (p_len hX.st rfl tab_ok rfl rfl rfl) ?_; clear hX; intro a w hX))) | (refine y_guardU hX rfl rfl rfl rfl rfl ?_; clear hX; intro a w hX) | ((refine y_gsplit hX rfl rfl rfl ?_ ?_) <;> intro hg <;> first | (refine y_guard0 hX rfl rfl rfl (by first | with_reducible rfl | with_reducible assumption | exact beq_self_eq_true _ | exact bne_self_eq_false _ | (show _ = true; with_reducible first | rfl | assumption) | (show _ = false; with_reducible first | rfl | assumption) | decide) rfl rfl ?_; clear hX; intro a w hX) | ((refine y_guard1 hX rfl rfl rfl (by first | with_reducible rfl | with_reducible assumption | exact beq_self_eq_true _ | exact bne_self_eq_false _ | (show _ = true; with_reducible first | rfl | assumption) | (show _ = false; with_reducible first | rfl | assumption) | decide) ?_); ((refine y_pure (d := 15) hX ⟨rfl, rfl⟩ rfl (p_len hX.st rfl tab_ok rfl rfl rfl) ?_; clear hX; intro a w hX))))))
  all_goals (refine xl_cons ?_; (first | (refine y_guard0 hX rfl rfl rfl (by first | with_reducible rfl | with_reducible assumption | exact beq_self_eq_true _ | exact bne_self_eq_false _ | (show _ = true; with_reducible first | rfl | assumption) | (show _ = false; with_reducible first | rfl | assumption) | decide) rfl rfl ?_; clear hX; intro a w hX) | ((refine y_guard1 hX rfl rfl rfl (by first | with_reducible rfl | with_reducible assumption | exact beq_self_eq_true _ | exact bne_self_eq_false _ | (show _ = true; with_reducible first | rfl | assumption) | (show _ = false; with_reducible first | rfl | assumption) | decide) ?_); ((refine y_pure (d := 16) hX ⟨rfl, rfl⟩ rfl (p_neq hX.st rfl rfl rfl) ?_; clear hX; intro a w hX))) | (refine y_guardU hX rfl rfl rfl rfl rfl ?_; clear hX; intro a w hX) | ((refine y_gsplit hX rfl rfl rfl ?_ ?_) <;> intro hg <;> first | (refine y_guard0 hX rfl rfl rfl (by first | with_reducible rfl | with_reducible assumption | exact beq_self_eq_true _ | exact bne_self_eq_false _ | (show _ = true; with_reducible first | rfl | assumption) | (show _ = false; with_reducible first | rfl | assumption) | decide) rfl rfl ?_; clear hX; intro a w hX) | ((refine y_guard1 hX rfl rfl rfl (by first | with_reducible rfl | with_reducible assumption | exact beq_self_eq_true _ | exact bne_self_eq_false _ | (show _ = true; with_reducible first | rfl | assumption) | (show _ = false; with_reducible first | rfl | assumption) | decide) ?_); ((refine y_pure (d := 16) hX ⟨rfl, rfl⟩ rfl (p_neq hX.st rfl rfl rfl) ?_; clear hX; intro a w hX))))))
  all_goals (refine xl_cons ?_; (first | (refine y_pure (d := 17) hX ⟨rfl, rfl⟩ rfl (p_pick1 hX.st rfl rfl (by first | with_reducible rfl | with_reducible assumption | exact beq_self_eq_true _ | exact bne_self_eq_false _ | (show _ = true; with_reducible first | rfl | assumption) | (show _ = false; with_reducible first | rfl | assumption) | decide) rfl) ?_; clear hX; intro a w hX) | (refine y_pure (d := 17) hX ⟨rfl, rfl⟩ rfl (p_pick0 hX.st rfl rfl (by first | with_reducible rfl | with_reducible assumption | exact beq_self_eq_true _ | exact bne_self_eq_false _ | (show _ = true; with_reducible first | rfl | assumption) | (show _ = false; with_reducible first | rfl | assumption) | decide) rfl) ?_; clear hX; intro a w hX)))
  all_goals
    refine x_end ?_
    refine q_then ?_
    refine c_cond hX rfl (fun hc => ?_) (fun hc => ?_)
    ·
      try (first | cases hc | exact (contra_tf hc (by with_reducible assumption)).elim | exact (contra_tf (by with_reducible assumption) hc).elim | exact absurd hc (by decide))
      all_goals
        refine wpIn_seq ?_
        refine c_region ?_
        refine xl_cons ?_; ((refine y_pure (d := 4) hX ⟨rfl, rfl⟩ rfl (p_assign hX.st rfl rfl) ?_; clear hX; intro a w hX))
        refine x_end ?_
        refine q_then ?_
        refine c_ret ?_
        refine q_then_ret ?_
        refine f_ret1 hX Try.results17 rfl ⟨congrArg (Value.int .i64) ?_, hX.sh⟩
        rw [sameV, if_neg]
        rintro ⟨he, h2⟩
        subst he
        simp only [bne_self_eq_false, bne_iff_ne, ne_eq] at *
        first | (cases hg; done) | (exact hc (by rw [h2])) | omega
    ·
      try (first | cases hc | exact (contra_tf hc (by with_reducible assumption)).elim | exact (contra_tf (by with_reducible assumption) hc).elim | exact absurd hc (by decide))
      all_goals
        refine c_skip ?_
        refine q_then ?_
        refine wpIn_seq ?_
        refine wpIn_seq ?_
        refine c_region ?_
        refine xl_cons ?_; ((refine y_pure (d := 5) hX ⟨rfl, rfl⟩ rfl (p_assign hX.st rfl rfl) ?_; clear hX; intro a w hX))
        refine x_end ?_
        refine q_then ?_
        refine c_block ?_
        have hle : u.length = v.length := by have h5 := hg; simp only [bne_eq_false_iff_eq] at h5; omega
        have hce : c1 = u.length := by have h5 := hc; simp only [bne_eq_false_iff_eq] at h5; omega
        refine c_loopX (α := Nat) (fun i => [(0, .slice A1 u.length c1), (1, .slice A2 v.length c2), (5, .int .i64 (i : Nat))]) (fun _ => []) (fun i => i ≤ u.length ∧ u.take i = v.take i) (fun i => u.length - i) 0 ⟨Nat.zero_le _, rfl⟩ (hX.to (by repeat (first | exact Sub.nil | refine Sub.cons rfl ?_)) (Sel.refl _)) ?_
        clear hX
        rintro i a w ⟨hi, hpre⟩ hX
        refine wpIn_seq ?_
        refine wpIn_seq ?_
        refine c_region ?_
        refine xl_cons ?_; ((refine y_pure (d := 18) hX ⟨rfl, rfl⟩ rfl (p_move hX.st rfl rfl) ?_; clear hX; intro a w hX))
        refine xl_cons ?_; ((refine y_pure (d := 19) hX ⟨rfl, rfl⟩ rfl (p_move hX.st rfl rfl) ?_; clear hX; intro a w hX))
        refine xl_cons ?_; ((refine y_pure (d := 20) hX ⟨rfl, rfl⟩ rfl (p_len hX.st rfl tab_ok rfl rfl rfl) ?_; clear hX; intro a w hX))
        refine xl_cons ?_; ((refine y_pure (d := 21) hX ⟨rfl, rfl⟩ rfl (p_lss hX.st rfl rfl rfl) ?_; clear hX; intro a w hX))
        refine x_end ?_
        refine q_then ?_
        refine c_cond hX rfl (fun hc => ?_) (fun hc => ?_)
        ·
          try (first | cases hc | exact (contra_tf hc (by with_reducible assumption)).elim | exact (contra_tf (by with_reducible assumption) hc).elim | exact absurd hc (by decide))
          all_goals
            refine c_skip ?_
            refine q_then ?_
            refine wpIn_seq ?_
            refine c_block ?_
            refine wpIn_seq ?_
            have hlt : i < u.length := by have h5 := hc; simp only [decide_eq_true_eq] at h5; omega
            obtain ⟨b1, p1, rfl, hb1, hcell1⟩ := hR1.op hlt
            obtain ⟨b2, p2, rfl, hb2, hcell2⟩ := hR2.op (show i < v.length by omega)
            refine c_nopanic ?_
            refine d_begin hX (by kernel_rfl) rfl (Sel.refl _) ?_
            clear hX; intro w hX
            ((refine d_take (i := 0) (fuel := 8) (d := 24) (listed' := #[true, false, false, false, false, false, false, false, false]) hX rfl (by kernel_rfl) (by kernel_rfl) (by kernel_rfl) (fun _ _ _ h => (by cases h.1)) ⟨rfl, rfl⟩ rfl rfl (by with_reducible (repeat (first | exact Sel.refl _ | exact Sel.nil | refine Sel.cons tk0 ?_ | refine Sel.cons tk1 ?_ | refine Sel.cons tk2 ?_ | refine Sel.cons tk3 ?_ | refine Sel.cons tk4 ?_ | refine Sel.cons tk5 ?_ | refine Sel.cons tk6 ?_ | refine Sel.cons tk7 ?_ | refine Sel.cons tk8 ?_ | refine Sel.cons tk9 ?_ | refine Sel.cons tk10 ?_ | refine Sel.cons tk11 ?_ | refine Sel.cons tk12 ?_))) (fun w _ => (p_move hX.st rfl rfl) w) ?_; clear hX; intro a hX))
            ((refine d_take (i := 1) (fuel := 7) (d := 25) (listed' := #[true, true, false, false, false, false, false, false, false]) hX rfl (by kernel_rfl) (by kernel_rfl) (by kernel_rfl) (fun _ _ _ h => (by cases h.1)) ⟨rfl, rfl⟩ rfl rfl (by with_reducible (repeat (first | exact Sel.refl _ | exact Sel.nil | refine Sel.cons tk0 ?_ | refine Sel.cons tk1 ?_ | refine Sel.cons tk2 ?_ | refine Sel.cons tk3 ?_ | refine Sel.cons tk4 ?_ | refine Sel.cons tk5 ?_ | refine Sel.cons tk6 ?_ | refine Sel.cons tk7 ?_ | refine Sel.cons tk8 ?_ | refine Sel.cons tk9 ?_ | refine Sel.cons tk10 ?_ | refine Sel.cons tk11 ?_ | refine Sel.cons tk12 ?_))) (fun w _ => (p_move hX.st rfl rfl) w) ?_; clear hX; intro a hX))
            ((refine d_take (i := 2) (fuel := 6) (d := 26) (listed' := #[true, true, true, false, false, false, false, false, false]) hX rfl (by kernel_rfl) (by kernel_rfl) (by kernel_rfl) (fun _ _ _ h => (by cases h.1)) ⟨rfl, rfl⟩ rfl rfl (by with_reducible (repeat (first | exact Sel.refl _ | exact Sel.nil | refine Sel.cons tk0 ?_ | refine Sel.cons tk1 ?_ | refine Sel.cons tk2 ?_ | refine Sel.cons tk3 ?_ | refine Sel.cons tk4 ?_ | refine Sel.cons tk5 ?_ | refine Sel.cons tk6 ?_ | refine Sel.cons tk7 ?_ | refine Sel.cons tk8 ?_ | refine Sel.cons tk9 ?_ | refine Sel.cons tk10 ?_ | refine Sel.cons tk11 ?_ | refine Sel.cons tk12 ?_))) (fun w _ => (p_index hX.st rfl tab_ok rfl rfl rfl rfl rfl (by first | rfl | omega) (by first | decide | omega)) w) ?_; clear hX; intro a hX))
            ((refine d_take (i := 3) (fuel := 5) (d := 27) (listed' := #[true, true, true, true, false, false, false, false, false]) hX rfl (by kernel_rfl) (by kernel_rfl) (by kernel_rfl) (fun _ _ _ h => (by cases h.1)) ⟨rfl, rfl⟩ rfl rfl (by with_reducible (repeat (first | exact Sel.refl _ | exact Sel.nil | refine Sel.cons tk0 ?_ | refine Sel.cons tk1 ?_ | refine Sel.cons tk2 ?_ | refine Sel.cons tk3 ?_ | refine Sel.cons tk4 ?_ | refine Sel.cons tk5 ?_ | refine Sel.cons tk6 ?_ | refine Sel.cons tk7 ?_ | refine Sel.cons tk8 ?_ | refine Sel.cons tk9 ?_ | refine Sel.cons tk10 ?_ | refine Sel.cons tk11 ?_ | refine Sel.cons tk12 ?_))) (v_load_old_agg hX.st rfl tab_ok rfl rfl rfl hb1 (vs := opC u[i]) rfl hcell1) ?_; clear hX; intro a hX))
            ((refine d_take (i := 4) (fuel := 4) (d := 28) (listed' := #[true, true, true, true, true, false, false, false, false]) hX rfl (by kernel_rfl) (by kernel_rfl) (by kernel_rfl) (fun _ _ _ h => (by cases h.1)) ⟨rfl, rfl⟩ rfl rfl (by with_reducible (repeat (first | exact Sel.refl _ | exact Sel.nil | refine Sel.cons tk0 ?_ | refine Sel.cons tk1 ?_ | refine Sel.cons tk2 ?_ | refine Sel.cons tk3 ?_ | refine Sel.cons tk4 ?_ | refine Sel.cons tk5 ?_ | refine Sel.cons tk6 ?_ | refine Sel.cons tk7 ?_ | refine Sel.cons tk8 ?_ | refine Sel.cons tk9 ?_ | refine Sel.cons tk10 ?_ | refine Sel.cons tk11 ?_ | refine Sel.cons tk12 ?_))) (fun w _ => (p_move hX.st rfl rfl) w) ?_; clear hX; intro a hX))
            ((refine d_take (i := 5) (fuel := 3) (d := 29) (listed' := #[true, true, true, true, true, true, false, false, false]) hX rfl (by kernel_rfl) (by kernel_rfl) (by kernel_rfl) (fun _ _ _ h => (by cases h.1)) ⟨rfl, rfl⟩ rfl rfl (by with_reducible (repeat (first | exact Sel.refl _ | exact Sel.nil | refine Sel.cons tk0 ?_ | refine Sel.cons tk1 ?_ | refine Sel.cons tk2 ?_ | refine Sel.cons tk3 ?_ | refine Sel.cons tk4 ?_ | refine Sel.cons tk5 ?_ | refine Sel.cons tk6 ?_ | refine Sel.cons tk7 ?_ | refine Sel.cons tk8 ?_ | refine Sel.cons tk9 ?_ | refine Sel.cons tk10 ?_ | refine Sel.cons tk11 ?_ | refine Sel.cons tk12 ?_))) (fun w _ => (p_move hX.st rfl rfl) w) ?_; clear hX; intro a hX))
            ((refine d_take (i := 6) (fuel := 2) (d := 30) (listed' := #[true, true, true, true, true, true, true, false, false]) hX rfl (by kernel_rfl) (by kernel_rfl) (by kernel_rfl) (fun _ _ _ h => (by cases h.1)) ⟨rfl, rfl⟩ rfl rfl (by with_reducible (repeat (first | exact Sel.refl _ | exact Sel.nil | refine Sel.cons tk0 ?_ | refine Sel.cons tk1 ?_ | refine Sel.cons tk2 ?_ | refine Sel.cons tk3 ?_ | refine Sel.cons tk4 ?_ | refine Sel.cons tk5 ?_ | refine Sel.cons tk6 ?_ | refine Sel.cons tk7 ?_ | refine Sel.cons tk8 ?_ | refine Sel.cons tk9 ?_ | refine Sel.cons tk10 ?_ | refine Sel.cons tk11 ?_ | refine Sel.cons tk12 ?_))) (fun w _ => (p_index hX.st rfl tab_ok rfl rfl rfl rfl rfl (by first | rfl | omega) (by first | decide | omega)) w) ?_; clear hX; intro a hX))
            ((refine d_take (i := 7) (fuel := 1) (d := 31) (listed' := #[true, true, true, true, true, true, true, true, false]) hX rfl (by kernel_rfl) (by kernel_rfl) (by kernel_rfl) (fun _ _ _ h => (by cases h.1)) ⟨rfl, rfl⟩ rfl rfl (by with_reducible (repeat (first | exact Sel.refl _ | exact Sel.nil | refine Sel.cons tk0 ?_ | refine Sel.cons tk1 ?_ | refine Sel.cons tk2 ?_ | refine Sel.cons tk3 ?_ | refine Sel.cons tk4 ?_ | refine Sel.cons tk5 ?_ | refine Sel.cons tk6 ?_ | refine Sel.cons tk7 ?_ | refine Sel.cons tk8 ?_ | refine Sel.cons tk9 ?_ | refine Sel.cons tk10 ?_ | refine Sel.cons tk11 ?_ | refine Sel.cons tk12 ?_))) (v_load_old_agg hX.st rfl tab_ok rfl rfl rfl hb2 (vs := opC v[i]) rfl hcell2) ?_; clear hX; intro a hX))
            ((refine d_take (i := 8) (fuel := 0) (d := 32) (listed' := #[true, true, true, true, true, true, true, true, true]) hX rfl (by kernel_rfl) (by kernel_rfl) (by kernel_rfl) (fun _ _ _ h => (by cases h.1)) ⟨rfl, rfl⟩ rfl rfl (by with_reducible (repeat (first | exact Sel.refl _ | exact Sel.nil | refine Sel.cons tk0 ?_ | refine Sel.cons tk1 ?_ | refine Sel.cons tk2 ?_ | refine Sel.cons tk3 ?_ | refine Sel.cons tk4 ?_ | refine Sel.cons tk5 ?_ | refine Sel.cons tk6 ?_ | refine Sel.cons tk7 ?_ | refine Sel.cons tk8 ?_ | refine Sel.cons tk9 ?_ | refine Sel.cons tk10 ?_ | refine Sel.cons tk11 ?_ | refine Sel.cons tk12 ?_))) (fun w _ => (p_neq_a hX.st rfl rfl rfl (by kernel_rfl) (fun w => by exact eq53 ..)) w) ?_; clear hX; intro a hX))
            refine d_done (by kernel_rfl) ?_
            refine ⟨rfl, ?_⟩
            refine q_then ?_
            refine c_cond hX rfl (fun hc => ?_) (fun hc => ?_)
            ·
              try (first | cases hc | exact (contra_tf hc (by with_reducible assumption)).elim | exact (contra_tf (by with_reducible assumption) hc).elim | exact absurd hc (by decide))
              all_goals
                refine wpIn_seq ?_
                refine c_region ?_
                refine xl_cons ?_; ((refine y_pure (d := 4) hX ⟨rfl, rfl⟩ rfl (p_assign hX.st rfl rfl) ?_; clear hX; intro a w hX))
                refine x_end ?_
                refine q_then ?_
                refine c_ret ?_
                refine q_block_ret ?_
                refine q_then_ret ?_
                refine q_then_ret ?_
                refine q_block_ret ?_
                refine q_then_ret ?_
                have hne : ¬ u[i] = v[i] := by simpa using hc
                refine f_ret1 hX Try.results17 rfl ⟨congrArg (Value.int .i64) ?_, hX.sh⟩
                rw [sameV, if_neg]
                rintro ⟨he, _⟩
                subst he
                exact hne rfl
            ·
              try (first | cases hc | exact (contra_tf hc (by with_reducible assumption)).elim | exact (contra_tf (by with_reducible assumption) hc).elim | exact absurd hc (by decide))
              all_goals
                refine c_skip ?_
                refine q_block ?_
                refine q_then ?_
                refine c_region ?_
                refine xl_cons ?_; ((refine y_pure (d := 22) hX ⟨rfl, rfl⟩ rfl (p_move hX.st rfl rfl) ?_; clear hX; intro a w hX))
                refine xl_cons ?_; (first | (refine y_pure (d := 23) hX ⟨rfl, rfl⟩ rfl (p_add hX.st rfl rfl rfl (in_i64 (by omega) (by omega))) ?_; clear hX; intro a w hX) | (refine y_pure (d := 23) hX ⟨rfl, rfl⟩ rfl (p_add hX.st rfl rfl rfl rfl) ?_; clear hX; intro a w hX))
                refine xl_cons ?_; ((refine y_pure (d := 5) hX ⟨rfl, rfl⟩ rfl (p_assign hX.st rfl rfl) ?_; clear hX; intro a w hX))
                refine x_end ?_
                refine q_then ?_
                have he : u[i] = v[i] := by simpa using hc
                exact ⟨i + 1, ⟨by omega, by rw [List.take_succ_eq_append_getElem hlt, List.take_succ_eq_append_getElem (show i < v.length by omega), hpre, he]⟩, by omega, hX.to (Sub.cons rfl (Sub.cons rfl (Sub.cons (look_int rfl (by omega)) (by repeat (first | exact Sub.nil | refine Sub.cons rfl ?_))))) (Sel.refl _)⟩
        ·
          try (first | cases hc | exact (contra_tf hc (by with_reducible assumption)).elim | exact (contra_tf (by with_reducible assumption) hc).elim | exact absurd hc (by decide))
          all_goals
            refine c_exit ?_
            refine q_then_exit ?_
            refine q_then_exit ?_
            refine q_block_exit ?_
            refine q_then ?_
            refine wpIn_seq ?_
            refine c_region ?_
            refine xl_cons ?_; ((refine y_pure (d := 4) hX ⟨rfl, rfl⟩ rfl (p_assign hX.st rfl rfl) ?_; clear hX; intro a w hX))
            refine x_end ?_
            refine q_then ?_
            refine c_ret ?_
            have hie : i = u.length := by have h5 := hc; simp only [decide_eq_false_iff_not] at h5; omega
            subst hie
            rw [List.take_length, hle, List.take_length] at hpre
            refine f_ret1 hX Try.results17 rfl ⟨congrArg (Value.int .i64) ?_, hX.sh⟩
            rw [sameV, if_pos ⟨hpre, hce⟩]
end Go.Proofs.Ytjemilhbipaepaa
