/- tapes.putEnd, check; a copy of operations. -/
import Derived.Test.YtjemilhbipaepaaS7
namespace Go.Proofs.Ytjemilhbipaepaa
open Go.RowKit

def opsC (l : List Op) : List Value := l.flatMap opC
theorem opsC_length (l : List Op) : (opsC l).length = l.length * 6 := by
  induction l with
  | nil => rfl
  | cons o l ih => simp only [opsC, List.flatMap_cons, List.length_append, List.length_cons] at *; rw [ih]; simp [opC]; omega
theorem opsC_get (l : List Op) (k j : Nat) (hk : k < l.length) (v : Value) (hv : (opC l[k])[j]? = some v) : (opsC l)[k * 6 + j]? = some v := by
  induction l generalizing k with
  | nil => simp at hk
  | cons o l ih =>
    have h6 : (opC o).length = 6 := rfl
    cases k with
    | zero =>
      have hj := (List.getElem?_eq_some_iff.1 hv).1
      simp only [opsC, List.flatMap_cons]
      rw [List.getElem?_append_left (by simp at hj; omega)]
      simpa using hv
    | succ k =>
      have := ih k (by simpa using hk) (by simpa using hv)
      simp only [opsC, List.flatMap_cons]
      rw [List.getElem?_append_right (by omega), h6, show (k + 1) * 6 + j - 6 = k * 6 + j by omega]
      exact this
theorem Reads.op {w : World} {A : Option Addr} {l : List Op} (h : Reads w A l.length 6 (opsC l)) {k : Nat} (hk : k < l.length) :
    ∃ b p, A = some ⟨b, p, none⟩ ∧ b < w.heap.size ∧ ∀ j v, (opC l[k])[j]? = some v → w.cell? ⟨b, p + k * 6 + j, none⟩ = some v := by
  obtain ⟨b, p, e, hc⟩ := h.2 (by omega)
  have hh : ∀ j v, (opC l[k])[j]? = some v → w.cell? ⟨b, p + k * 6 + j, none⟩ = some v := fun j v hv => by
    have := hc _ v (opsC_get l k j hk v hv)
    rwa [← Nat.add_assoc] at this
  exact ⟨b, p, e, World.block_lt_of_cell? w _ (hh 0 _ rfl), hh⟩
theorem opsC_one (l : List Op) : ∀ u ∈ opsC l, u.oneCell' = true := by
  intro u hu
  obtain ⟨o, _, h⟩ := List.mem_flatMap.1 hu
  simp only [opC, List.mem_cons, List.not_mem_nil, or_false] at h
  rcases h with rfl | rfl | rfl | rfl | rfl | rfl <;> rfl

def opsErr : List Op → Int
  | [] => 0
  | o :: l => if opErr o = 0 then opsErr l else opErr o
theorem opsErr_drop (l : List Op) (k : Nat) (hk : k < l.length) : opsErr (l.drop k) = if opErr l[k] = 0 then opsErr (l.drop (k + 1)) else opErr l[k] := by
  rw [List.drop_eq_getElem_cons hk]; rfl

theorem tapes_check (A : Option Addr) (c : Nat) (l : List Op) (hl : l.length ≤ 1000000) (W : World) (hR : Reads W A l.length 6 (opsC l)) :
    Ret Try.prog 23 #[.slice A l.length c] W fun v w' => v = .int .i64 (opsErr l) ∧ SF W [] w' := by
  refine f_start (vs := [.slice A l.length c]) [(0, .slice A l.length c)] Try.func23 rfl Try.ntmps23 rfl rfl ?_
  intro a hX
  refine wpIn_seq ?_
  refine c_region ?_
  refine xl_cons ?_; ((refine y_pure (d := 2) hX ⟨rfl, rfl⟩ rfl (p_assign hX.st rfl rfl) ?_; clear hX; intro a w hX))
  refine x_end ?_
  refine q_then ?_
  refine wpIn_seq ?_
  refine wpIn_seq ?_
  refine c_region ?_
  refine xl_cons ?_; ((refine y_pure (d := 6) hX ⟨rfl, rfl⟩ rfl (p_move hX.st rfl rfl) ?_; clear hX; intro a w hX))
  refine xl_cons ?_; ((refine y_pure (d := 7) hX ⟨rfl, rfl⟩ rfl (p_len hX.st rfl tab_ok rfl rfl rfl) ?_; clear hX; intro a w hX))
  refine xl_cons ?_; ((refine y_pure (d := 8) hX ⟨rfl, rfl⟩ rfl (p_move hX.st rfl rfl) ?_; clear hX; intro a w hX))
  refine x_end ?_
  refine q_then ?_
  refine c_block ?_
  refine c_loopX (α := Nat) (fun k => [(8, .int .i64 k), (6, .slice A l.length c), (7, .int .i64 l.length)]) (fun _ => []) (fun k => k ≤ l.length ∧ opsErr l = opsErr (l.drop k)) (fun k => l.length - k) 0 ⟨Nat.zero_le _, rfl⟩ (hX.to (by repeat (first | exact Sub.nil | refine Sub.cons rfl ?_)) Sel.nil) ?_
  clear hX
  rintro k a w ⟨hk, hpre⟩ hX
  refine wpIn_seq ?_
  refine c_region ?_
  refine xl_cons ?_; ((refine y_pure (d := 9) hX ⟨rfl, rfl⟩ rfl (p_lss hX.st rfl rfl rfl) ?_; clear hX; intro a w hX))
  refine x_end ?_
  refine q_then ?_
  refine wpIn_seq ?_
  refine c_cond hX rfl (fun hc => ?_) (fun hc => ?_)
  ·
    try (first | cases hc | exact (contra_tf hc (by with_reducible assumption)).elim | exact (contra_tf (by with_reducible assumption) hc).elim | exact absurd hc (by decide))
    all_goals
      refine c_skip ?_
      refine q_then ?_
      refine wpIn_seq ?_
      refine c_block ?_
      refine wpIn_seq ?_
      have hlt : k < l.length := by simpa using hc
      have hnext := opsErr_drop l k hlt
      obtain ⟨b, p, rfl, hb, hcell⟩ := hR.op hlt
      refine c_region ?_
      refine xl_cons ?_; ((refine y_pure (d := 10) hX ⟨rfl, rfl⟩ rfl (p_index hX.st rfl tab_ok rfl rfl rfl rfl rfl (by first | rfl | omega) (by first | decide | omega)) ?_; clear hX; intro a w hX))
      refine xl_cons ?_; (refine y_read (d := 11) hX ⟨rfl, rfl⟩ rfl (v_load_old_agg hX.st rfl tab_ok rfl rfl rfl hb (vs := opC l[k]) rfl hcell) ?_; clear hX; intro a w hX)
      refine xl_cons ?_; (first | (refine y_alloc_agg (d := 4) hX rfl ⟨rfl, rfl⟩ rfl tab_ok rfl rfl ?_; clear hX; intro b a w hX) | (refine y_alloc_one (d := 4) hX rfl ⟨rfl, rfl⟩ rfl tab_ok rfl rfl rfl ?_; clear hX; intro b a w hX))
      refine xl_cons ?_; (first | (refine y_store hX rfl ⟨rfl, rfl⟩ tab_ok rfl rfl rfl rfl rfl foc0 (by repeat (first | exact SetAt.zero | apply SetAt.succ)) ?_; clear hX; intro a w hX) | (refine y_store hX rfl ⟨rfl, rfl⟩ tab_ok rfl rfl rfl rfl rfl foc1 (by repeat (first | exact SetAt.zero | apply SetAt.succ)) ?_; clear hX; intro a w hX) | (refine y_store hX rfl ⟨rfl, rfl⟩ tab_ok rfl rfl rfl rfl rfl foc2 (by repeat (first | exact SetAt.zero | apply SetAt.succ)) ?_; clear hX; intro a w hX) | (refine y_store hX rfl ⟨rfl, rfl⟩ tab_ok rfl rfl rfl rfl rfl foc3 (by repeat (first | exact SetAt.zero | apply SetAt.succ)) ?_; clear hX; intro a w hX) | (refine y_store hX rfl ⟨rfl, rfl⟩ tab_ok rfl rfl rfl rfl rfl foc4 (by repeat (first | exact SetAt.zero | apply SetAt.succ)) ?_; clear hX; intro a w hX) | (refine y_store hX rfl ⟨rfl, rfl⟩ tab_ok rfl rfl rfl rfl rfl foc5 (by repeat (first | exact SetAt.zero | apply SetAt.succ)) ?_; clear hX; intro a w hX) | (refine y_store hX rfl ⟨rfl, rfl⟩ tab_ok rfl rfl rfl rfl rfl foc6 (by repeat (first | exact SetAt.zero | apply SetAt.succ)) ?_; clear hX; intro a w hX) | (refine y_store hX rfl ⟨rfl, rfl⟩ tab_ok rfl rfl rfl rfl rfl foc7 (by repeat (first | exact SetAt.zero | apply SetAt.succ)) ?_; clear hX; intro a w hX) | (refine y_store hX rfl ⟨rfl, rfl⟩ tab_ok rfl rfl rfl rfl rfl foc8 (by repeat (first | exact SetAt.zero | apply SetAt.succ)) ?_; clear hX; intro a w hX) | (refine y_store hX rfl ⟨rfl, rfl⟩ tab_ok rfl rfl rfl rfl rfl foc9 (by repeat (first | exact SetAt.zero | apply SetAt.succ)) ?_; clear hX; intro a w hX) | (refine y_store hX rfl ⟨rfl, rfl⟩ tab_ok rfl rfl rfl rfl rfl foc10 (by repeat (first | exact SetAt.zero | apply SetAt.succ)) ?_; clear hX; intro a w hX) | (refine y_store hX rfl ⟨rfl, rfl⟩ tab_ok rfl rfl rfl rfl rfl foc11 (by repeat (first | exact SetAt.zero | apply SetAt.succ)) ?_; clear hX; intro a w hX) | (refine y_store hX rfl ⟨rfl, rfl⟩ tab_ok rfl rfl rfl rfl rfl foc12 (by repeat (first | exact SetAt.zero | apply SetAt.succ)) ?_; clear hX; intro a w hX) | (refine y_store_agg hX rfl ⟨rfl, rfl⟩ tab_ok rfl rfl rfl rfl foc0 rfl rfl ?_; clear hX; intro a w hX) | (refine y_store_agg hX rfl ⟨rfl, rfl⟩ tab_ok rfl rfl rfl rfl foc1 rfl rfl ?_; clear hX; intro a w hX) | (refine y_store_agg hX rfl ⟨rfl, rfl⟩ tab_ok rfl rfl rfl rfl foc2 rfl rfl ?_; clear hX; intro a w hX) | (refine y_store_agg hX rfl ⟨rfl, rfl⟩ tab_ok rfl rfl rfl rfl foc3 rfl rfl ?_; clear hX; intro a w hX) | (refine y_store_agg hX rfl ⟨rfl, rfl⟩ tab_ok rfl rfl rfl rfl foc4 rfl rfl ?_; clear hX; intro a w hX) | (refine y_store_agg hX rfl ⟨rfl, rfl⟩ tab_ok rfl rfl rfl rfl foc5 rfl rfl ?_; clear hX; intro a w hX) | (refine y_store_agg hX rfl ⟨rfl, rfl⟩ tab_ok rfl rfl rfl rfl foc6 rfl rfl ?_; clear hX; intro a w hX) | (refine y_store_agg hX rfl ⟨rfl, rfl⟩ tab_ok rfl rfl rfl rfl foc7 rfl rfl ?_; clear hX; intro a w hX) | (refine y_store_agg hX rfl ⟨rfl, rfl⟩ tab_ok rfl rfl rfl rfl foc8 rfl rfl ?_; clear hX; intro a w hX) | (refine y_store_agg hX rfl ⟨rfl, rfl⟩ tab_ok rfl rfl rfl rfl foc9 rfl rfl ?_; clear hX; intro a w hX) | (refine y_store_agg hX rfl ⟨rfl, rfl⟩ tab_ok rfl rfl rfl rfl foc10 rfl rfl ?_; clear hX; intro a w hX) | (refine y_store_agg hX rfl ⟨rfl, rfl⟩ tab_ok rfl rfl rfl rfl foc11 rfl rfl ?_; clear hX; intro a w hX) | (refine y_store_agg hX rfl ⟨rfl, rfl⟩ tab_ok rfl rfl rfl rfl foc12 rfl rfl ?_; clear hX; intro a w hX))
      refine x_end ?_
      refine q_then ?_
      refine wpIn_seq ?_
      refine c_region ?_
      refine xl_cons ?_; (first | (refine y_read (d := 12) hX ⟨rfl, rfl⟩ rfl (v_load_whole hX.st rfl tab_ok rfl rfl rfl foc0 rfl) ?_; clear hX; intro a w hX) | (refine y_read (d := 12) hX ⟨rfl, rfl⟩ rfl (v_load_whole hX.st rfl tab_ok rfl rfl rfl foc1 rfl) ?_; clear hX; intro a w hX) | (refine y_read (d := 12) hX ⟨rfl, rfl⟩ rfl (v_load_whole hX.st rfl tab_ok rfl rfl rfl foc2 rfl) ?_; clear hX; intro a w hX) | (refine y_read (d := 12) hX ⟨rfl, rfl⟩ rfl (v_load_whole hX.st rfl tab_ok rfl rfl rfl foc3 rfl) ?_; clear hX; intro a w hX) | (refine y_read (d := 12) hX ⟨rfl, rfl⟩ rfl (v_load_whole hX.st rfl tab_ok rfl rfl rfl foc4 rfl) ?_; clear hX; intro a w hX) | (refine y_read (d := 12) hX ⟨rfl, rfl⟩ rfl (v_load_whole hX.st rfl tab_ok rfl rfl rfl foc5 rfl) ?_; clear hX; intro a w hX) | (refine y_read (d := 12) hX ⟨rfl, rfl⟩ rfl (v_load_whole hX.st rfl tab_ok rfl rfl rfl foc6 rfl) ?_; clear hX; intro a w hX) | (refine y_read (d := 12) hX ⟨rfl, rfl⟩ rfl (v_load_whole hX.st rfl tab_ok rfl rfl rfl foc7 rfl) ?_; clear hX; intro a w hX) | (refine y_read (d := 12) hX ⟨rfl, rfl⟩ rfl (v_load_whole hX.st rfl tab_ok rfl rfl rfl foc8 rfl) ?_; clear hX; intro a w hX) | (refine y_read (d := 12) hX ⟨rfl, rfl⟩ rfl (v_load_whole hX.st rfl tab_ok rfl rfl rfl foc9 rfl) ?_; clear hX; intro a w hX) | (refine y_read (d := 12) hX ⟨rfl, rfl⟩ rfl (v_load_whole hX.st rfl tab_ok rfl rfl rfl foc10 rfl) ?_; clear hX; intro a w hX) | (refine y_read (d := 12) hX ⟨rfl, rfl⟩ rfl (v_load_whole hX.st rfl tab_ok rfl rfl rfl foc11 rfl) ?_; clear hX; intro a w hX) | (refine y_read (d := 12) hX ⟨rfl, rfl⟩ rfl (v_load_whole hX.st rfl tab_ok rfl rfl rfl foc12 rfl) ?_; clear hX; intro a w hX))
      refine xl_cons ?_; (refine y_callP (d := 13) hX rfl ⟨rfl, rfl⟩ rfl Try.func18 rfl rfl rfl (op_check l[k] _) ?_; clear hX; intro a w hX)
      refine xl_cons ?_; ((refine y_pure (d := 5) hX ⟨rfl, rfl⟩ rfl (p_assign hX.st rfl rfl) ?_; clear hX; intro a w hX))
      refine x_end ?_
      refine q_then ?_
      refine wpIn_seq ?_
      refine c_region ?_
      refine xl_cons ?_; ((refine y_pure (d := 14) hX ⟨rfl, rfl⟩ rfl (p_move hX.st rfl rfl) ?_; clear hX; intro a w hX))
      refine xl_cons ?_; ((refine y_pure (d := 15) hX ⟨rfl, rfl⟩ rfl (p_neq hX.st rfl rfl rfl) ?_; clear hX; intro a w hX))
      refine x_end ?_
      refine q_then ?_
      refine c_cond hX rfl (fun hc => ?_) (fun hc => ?_)
      ·
        try (first | cases hc | exact (contra_tf hc (by with_reducible assumption)).elim | exact (contra_tf (by with_reducible assumption) hc).elim | exact absurd hc (by decide))
        all_goals
          refine wpIn_seq ?_
          refine c_region ?_
          refine xl_cons ?_; ((refine y_pure (d := 16) hX ⟨rfl, rfl⟩ rfl (p_move hX.st rfl rfl) ?_; clear hX; intro a w hX))
          refine xl_cons ?_; ((refine y_pure (d := 2) hX ⟨rfl, rfl⟩ rfl (p_assign hX.st rfl rfl) ?_; clear hX; intro a w hX))
          refine x_end ?_
          refine q_then ?_
          refine c_ret ?_
          refine q_block_ret ?_
          refine q_then_ret ?_
          refine q_then_ret ?_
          refine q_block_ret ?_
          refine q_then_ret ?_
          first
          | (have h0 : ¬ opErr l[k] = 0 := by simpa using hc
             exact f_ret1 hX Try.results23 rfl ⟨by rw [hpre, hnext, if_neg h0], hX.sh.sel Sel.nil⟩)
          | (have hk' : k = l.length := by (simp only [decide_eq_false_iff_not] at *; omega)
             exact f_ret1 hX Try.results23 rfl ⟨by rw [hpre, hk', List.drop_length]; rfl, hX.sh⟩)
      ·
        try (first | cases hc | exact (contra_tf hc (by with_reducible assumption)).elim | exact (contra_tf (by with_reducible assumption) hc).elim | exact absurd hc (by decide))
        all_goals
          refine c_skip ?_
          refine q_block ?_
          refine q_then ?_
          refine c_region ?_
          refine xl_cons ?_; (first | (refine y_pure (d := 17) hX ⟨rfl, rfl⟩ rfl (p_add hX.st rfl rfl rfl (in_i64 (by omega) (by omega))) ?_; clear hX; intro a w hX) | (refine y_pure (d := 17) hX ⟨rfl, rfl⟩ rfl (p_add hX.st rfl rfl rfl rfl) ?_; clear hX; intro a w hX))
          refine xl_cons ?_; ((refine y_pure (d := 8) hX ⟨rfl, rfl⟩ rfl (p_move hX.st rfl rfl) ?_; clear hX; intro a w hX))
          refine x_end ?_
          refine q_then ?_
          have h0 : opErr l[k] = 0 := by simpa using hc
          exact ⟨k + 1, ⟨by omega, by rw [hpre, hnext, if_pos h0]⟩, by omega, hX.to (Sub.cons (look_int rfl (by omega)) (by repeat (first | exact Sub.nil | refine Sub.cons rfl ?_))) Sel.nil⟩
  ·
    try (first | cases hc | exact (contra_tf hc (by with_reducible assumption)).elim | exact (contra_tf (by with_reducible assumption) hc).elim | exact absurd hc (by decide))
    all_goals
      refine c_exit ?_
      refine q_then_exit ?_
      refine q_then_exit ?_
      refine q_block_exit ?_
      refine q_then ?_
      refine wpIn_seq ?_
      refine c_region ?_
      refine xl_cons ?_; ((refine y_pure (d := 2) hX ⟨rfl, rfl⟩ rfl (p_assign hX.st rfl rfl) ?_; clear hX; intro a w hX))
      refine x_end ?_
      refine q_then ?_
      refine c_ret ?_
      first
      | (have h0 : ¬ opErr l[k] = 0 := by simpa using hc
         exact f_ret1 hX Try.results23 rfl ⟨by rw [hpre, hnext, if_neg h0], hX.sh.sel Sel.nil⟩)
      | (have hk' : k = l.length := by (simp only [decide_eq_false_iff_not] at *; omega)
         exact f_ret1 hX Try.results23 rfl ⟨by rw [hpre, hk', List.drop_length]; rfl, hX.sh⟩)

theorem copied_ops (A : Option Addr) (c : Nat) (l : List Op) (hl : l.length ≤ 1000000) (W : World) (hR : Reads W A l.length 6 (opsC l)) :
    Ret Try.prog 28 #[.slice A l.length c] W fun v w' => ∃ b : Nat, v = .slice (some ⟨b, 0, none⟩) l.length l.length ∧ True ∧ SF W [.row (some ⟨b, 0, none⟩) l.length 53 6 l.length (opsC l)] w' := by
  refine f_start (vs := [.slice A l.length c]) [(0, .slice A l.length c)] Try.func28 rfl Try.ntmps28 rfl rfl ?_
  intro a hX
  refine wpIn_seq ?_
  refine c_region ?_
  refine xl_cons ?_; ((refine y_pure (d := 2) hX ⟨rfl, rfl⟩ rfl (p_assign hX.st rfl rfl) ?_; clear hX; intro a w hX))
  refine x_end ?_
  refine q_then ?_
  refine wpIn_seq ?_
  refine c_region ?_
  refine xl_cons ?_; ((refine y_pure (d := 4) hX ⟨rfl, rfl⟩ rfl (p_move hX.st rfl rfl) ?_; clear hX; intro a w hX))
  refine xl_cons ?_; ((refine y_pure (d := 5) hX ⟨rfl, rfl⟩ rfl (p_len hX.st rfl tab_ok rfl rfl rfl) ?_; clear hX; intro a w hX))
  refine xl_cons ?_; (refine y_makeSlice (d := 6) hX rfl ⟨rfl, rfl⟩ rfl tab_ok rfl rfl rfl (z := [.int .u8 0, .int .u8 0, .int .u8 0, .int .i64 0, .int .u8 0, .int .i64 0]) rfl rfl rfl rfl rfl rfl rfl (Nat.le_refl _) (by simp only [ti53]; omega) (by omega) ?_; clear hX; intro b a w hX)
  refine xl_cons ?_; ((refine y_pure (d := 3) hX ⟨rfl, rfl⟩ rfl (p_assign hX.st rfl rfl) ?_; clear hX; intro a w hX))
  refine x_end ?_
  refine q_then ?_
  refine wpIn_seq ?_
  refine c_region ?_
  refine xl_cons ?_; ((refine y_pure (d := 7) hX ⟨rfl, rfl⟩ rfl (p_move hX.st rfl rfl) ?_; clear hX; intro a w hX))
  refine xl_cons ?_; ((refine y_pure (d := 8) hX ⟨rfl, rfl⟩ rfl (p_move hX.st rfl rfl) ?_; clear hX; intro a w hX))
  refine xl_cons ?_; (refine y_copy (d := 9) hX rfl ⟨rfl, rfl⟩ rfl tab_ok rfl rfl rfl rfl rfl foc0 (Reads.old hX.sh hR) (opsC_one l) ?_; clear hX; intro a w hX)
  refine x_end ?_
  refine q_then ?_
  refine wpIn_seq ?_
  refine c_region ?_
  refine xl_cons ?_; ((refine y_pure (d := 10) hX ⟨rfl, rfl⟩ rfl (p_move hX.st rfl rfl) ?_; clear hX; intro a w hX))
  refine xl_cons ?_; ((refine y_pure (d := 2) hX ⟨rfl, rfl⟩ rfl (p_assign hX.st rfl rfl) ?_; clear hX; intro a w hX))
  refine x_end ?_
  refine q_then ?_
  refine c_ret ?_
  exact f_ret1 hX Try.results28 rfl ⟨b, rfl, trivial, hX.sh⟩

def endB : List UInt8 := [0] ++ sumB (crc [0])
theorem put_end (A : Option Addr) (c n : Nat) (l : List UInt8) (hn : l.length = n) (hl : n ≤ 999000) (B : Nat → Prop) (w0 : World) (H : List Ck) (W : World) (hH : SH B w0 (.row A c 5 1 n (l.map byteV) :: H) W) :
    Ret Try.prog 25 #[.slice A n c] W fun v w' => ∃ A' c', v = .slice A' (n + 3) c' ∧ SH B w0 (.row A' c' 5 1 (n + 3) ((l ++ endB).map byteV) :: H) w' := by
  refine f_startH (vs := [.slice A n c]) [(0, .slice A n c)] hH Try.func25 rfl Try.ntmps25 rfl rfl ?_
  intro a hX
  refine wpIn_seq ?_
  refine c_region ?_
  refine xl_cons ?_; ((refine y_pure (d := 2) hX ⟨rfl, rfl⟩ rfl (p_assign hX.st rfl rfl) ?_; clear hX; intro a w hX))
  refine x_end ?_
  refine q_then ?_
  refine wpIn_seq ?_
  refine c_region ?_
  refine xl_cons ?_; ((refine y_pure (d := 3) hX ⟨rfl, rfl⟩ rfl (p_move hX.st rfl rfl) ?_; clear hX; intro a w hX))
  refine xl_cons ?_; (refine y_buildSlice (d := 4) hX rfl ⟨rfl, rfl⟩ rfl tab_ok rfl rfl rfl rfl rfl (xs := [.const (.int .u8 0)]) rfl rfl rfl rfl rfl ?_; clear hX; intro b a w hX)
  refine xl_cons ?_; (first | (refine y_append_cel (d := 5) hX rfl ⟨rfl, rfl⟩ rfl tab_ok rfl rfl rfl rfl rfl rfl rfl foc1 foc0 rfl rfl (by first | omega | (simp only [ti5, ti3, ti53]; omega)) (by first | omega | (simp only [ti5, ti3, ti53]; omega)) ?_; clear hX; intro A c a w hX) | (refine y_append_cel (d := 5) hX rfl ⟨rfl, rfl⟩ rfl tab_ok rfl rfl rfl rfl rfl rfl rfl foc2 foc0 rfl rfl (by first | omega | (simp only [ti5, ti3, ti53]; omega)) (by first | omega | (simp only [ti5, ti3, ti53]; omega)) ?_; clear hX; intro A c a w hX) | (refine y_append_cel (d := 5) hX rfl ⟨rfl, rfl⟩ rfl tab_ok rfl rfl rfl rfl rfl rfl rfl foc3 foc0 rfl rfl (by first | omega | (simp only [ti5, ti3, ti53]; omega)) (by first | omega | (simp only [ti5, ti3, ti53]; omega)) ?_; clear hX; intro A c a w hX) | (refine y_append_cel (d := 5) hX rfl ⟨rfl, rfl⟩ rfl tab_ok rfl rfl rfl rfl rfl rfl rfl foc4 foc0 rfl rfl (by first | omega | (simp only [ti5, ti3, ti53]; omega)) (by first | omega | (simp only [ti5, ti3, ti53]; omega)) ?_; clear hX; intro A c a w hX) | (refine y_append_cel (d := 5) hX rfl ⟨rfl, rfl⟩ rfl tab_ok rfl rfl rfl rfl rfl rfl rfl foc0 foc1 rfl rfl (by first | omega | (simp only [ti5, ti3, ti53]; omega)) (by first | omega | (simp only [ti5, ti3, ti53]; omega)) ?_; clear hX; intro A c a w hX) | (refine y_append_cel (d := 5) hX rfl ⟨rfl, rfl⟩ rfl tab_ok rfl rfl rfl rfl rfl rfl rfl foc2 foc1 rfl rfl (by first | omega | (simp only [ti5, ti3, ti53]; omega)) (by first | omega | (simp only [ti5, ti3, ti53]; omega)) ?_; clear hX; intro A c a w hX) | (refine y_append_cel (d := 5) hX rfl ⟨rfl, rfl⟩ rfl tab_ok rfl rfl rfl rfl rfl rfl rfl foc3 foc1 rfl rfl (by first | omega | (simp only [ti5, ti3, ti53]; omega)) (by first | omega | (simp only [ti5, ti3, ti53]; omega)) ?_; clear hX; intro A c a w hX) | (refine y_append_cel (d := 5) hX rfl ⟨rfl, rfl⟩ rfl tab_ok rfl rfl rfl rfl rfl rfl rfl foc4 foc1 rfl rfl (by first | omega | (simp only [ti5, ti3, ti53]; omega)) (by first | omega | (simp only [ti5, ti3, ti53]; omega)) ?_; clear hX; intro A c a w hX) | (refine y_append_cel (d := 5) hX rfl ⟨rfl, rfl⟩ rfl tab_ok rfl rfl rfl rfl rfl rfl rfl foc0 foc2 rfl rfl (by first | omega | (simp only [ti5, ti3, ti53]; omega)) (by first | omega | (simp only [ti5, ti3, ti53]; omega)) ?_; clear hX; intro A c a w hX) | (refine y_append_cel (d := 5) hX rfl ⟨rfl, rfl⟩ rfl tab_ok rfl rfl rfl rfl rfl rfl rfl foc1 foc2 rfl rfl (by first | omega | (simp only [ti5, ti3, ti53]; omega)) (by first | omega | (simp only [ti5, ti3, ti53]; omega)) ?_; clear hX; intro A c a w hX) | (refine y_append_cel (d := 5) hX rfl ⟨rfl, rfl⟩ rfl tab_ok rfl rfl rfl rfl rfl rfl rfl foc3 foc2 rfl rfl (by first | omega | (simp only [ti5, ti3, ti53]; omega)) (by first | omega | (simp only [ti5, ti3, ti53]; omega)) ?_; clear hX; intro A c a w hX) | (refine y_append_cel (d := 5) hX rfl ⟨rfl, rfl⟩ rfl tab_ok rfl rfl rfl rfl rfl rfl rfl foc4 foc2 rfl rfl (by first | omega | (simp only [ti5, ti3, ti53]; omega)) (by first | omega | (simp only [ti5, ti3, ti53]; omega)) ?_; clear hX; intro A c a w hX))
  refine xl_cons ?_; ((refine y_pure (d := 6) hX ⟨rfl, rfl⟩ rfl (p_move hX.st rfl rfl) ?_; clear hX; intro a w hX))
  refine xl_cons ?_; ((refine y_pure (d := 7) hX ⟨rfl, rfl⟩ rfl (p_len hX.st rfl tab_ok rfl rfl rfl) ?_; clear hX; intro a w hX))
  refine xl_cons ?_; (refine y_callR (d := 8) hX rfl ⟨rfl, rfl⟩ rfl Try.func32 rfl rfl rfl (put_sum n _ _ _ (l ++ [0]) (by simp [hn]) (by omega) (by omega) _ _ H _ (SH.row_eq (hX.sh.sel (Sel.cons tk1 selD1)) rfl (by simp [byteV]))) ?_; clear hX; rintro A c a w hX)
  refine xl_cons ?_; ((refine y_pure (d := 2) hX ⟨rfl, rfl⟩ rfl (p_assign hX.st rfl rfl) ?_; clear hX; intro a w hX))
  refine x_end ?_
  refine q_then ?_
  refine c_ret ?_
  refine f_ret1 hX Try.results25 rfl ⟨A, c, rfl, SH.row_eq hX.sh rfl ?_⟩
  rw [List.drop_append_of_le_length (by omega), List.drop_of_length_le (by omega)]
  simp [endB]
end Go.Proofs.Ytjemilhbipaepaa
