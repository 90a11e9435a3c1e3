/- The law's check. -/
import Derived.Test.YtjemilhbipaepaaS15
import Derived.Test.YtjemilhbipaepaaX16
namespace Go.Proofs.Ytjemilhbipaepaa
open Go.RowKit

def bv (b : Bool) : Value := .int .i64 b.toNat
theorem bv_get (l : List Bool) (j : Nat) (h : j < l.length) : (l.map bv)[j]? = some (.int .i64 (l.getD j false).toNat) := by
  simp [List.getD_eq_getElem?_getD, h, bv]
theorem bv_set (l : List Bool) (j : Nat) (b : Bool) (v : Value) (hv : v = bv b) : (l.map bv).set j v = (l.set j b).map bv := by rw [hv, List.map_set]
theorem not_bit (b : Bool) : bits .xor .i64 (b.toNat : Int) 1 = ((!b).toNat : Int) := by cases b <;> rfl
theorem xor_bits (a b : Bool) : bits .xor .i64 (a.toNat : Int) (b.toNat : Int) = ((a ^^ b).toNat : Int) := by cases a <;> cases b <;> rfl
theorem and_one (x : Nat) (hx : x < 256) : bits .and .i64 (x : Int) 1 = ((x % 2 : Nat) : Int) := by
  have : ∀ x : Fin 256, bits .and .i64 (x.1 : Int) 1 = ((x.1 % 2 : Nat) : Int) := by decide +kernel
  exact this ⟨x, hx⟩
theorem bit_of (c j : Nat) (hc : c < 256) (hj : j < 8) : bits .and .i64 ((c : Int).fdiv (2 ^ (min (7 - j) IntKind.i64.bits))) 1 = ((c.testBit (7 - j)).toNat : Int) := by
  have h1 : (c : Int).fdiv (2 ^ (min (7 - j) IntKind.i64.bits)) = ((c / 2 ^ (7 - j) : Nat) : Int) := by
    rw [show min (7 - j) IntKind.i64.bits = 7 - j from Nat.min_eq_left (by show _ ≤ 64; omega), Int.fdiv_eq_ediv_of_nonneg _ (by exact Int.le_of_lt (Int.pow_pos (by omega)))]
    simp
  rw [h1, and_one _ (Nat.lt_of_le_of_lt (Nat.div_le_self _ _) hc), Nat.testBit_eq_decide_div_mod_eq]
  congr 1
  cases h : decide (c / 2 ^ (7 - j) % 2 = 1) <;> simp at h ⊢ <;> omega
theorem bits_step (l : List UInt8) (i j : Nat) (hj : j < 8) : (bitsN l i ++ (byteBits (l.getD i 0)).take (j + 1)) = (bitsN l i ++ (byteBits (l.getD i 0)).take j) ++ [(l.getD i 0).toNat.testBit (7 - j)] := by
  rw [List.take_succ_eq_append_getElem (by rw [byteBits_length]; exact hj)]
  simp [byteBits]
theorem flip_step (bl : List Bool) (i : Nat) (hi : i < bl.length) : (flipN bl i).set i (!(flipN bl i).getD i false) = flipN bl (i + 1) := by
  have h1 : (flipN bl i).getD i false = bl.getD i false := by rw [flipN_get _ _ _ hi]; simp
  rw [h1]
  have h2 : bl.getD i false = bl[i] := by simp [List.getD_eq_getElem?_getD, hi]
  rw [h2]
  apply List.ext_getElem?
  intro q
  have hl : ((bl.take i).map fun b => !b).length = i := by simp; omega
  have hl' : ((bl.take (i + 1)).map fun b => !b).length = i + 1 := by simp; omega
  rw [List.getElem?_set, flipN_length]
  unfold flipN
  by_cases hq : i = q
  · subst hq
    rw [if_pos rfl, if_pos hi, List.getElem?_append_left (by omega)]
    simp [List.getElem?_take, hi]
  · rw [if_neg hq]
    by_cases hq2 : q < i
    · rw [List.getElem?_append_left (by omega), List.getElem?_append_left (by omega)]
      simp [List.getElem?_take, hq2, show q < i + 1 by omega]
    · rw [List.getElem?_append_right (by omega), List.getElem?_append_right (by omega), hl, hl', List.getElem?_drop, List.getElem?_drop]
      congr 1
      omega

set_option maxHeartbeats 2000000 in
theorem law_check (A : Option Addr) (c n : Nat) (l : List UInt8) (hn : l.length = n) (hl : n ≤ 100000) (W : World) (hR : Reads W A n 1 (l.map byteV)) :
    Ret Try.prog 11 #[.slice A n c] W fun v w' => v = .int .i64 (crc l) ∧ SF W [] w' := by
  subst hn
  refine f_start (vs := [.slice A l.length c]) [(0, .slice A l.length c)] Try.func11 rfl Try.ntmps11 rfl rfl ?_
  intro a hX
  refine wpIn_seq ?_
  refine c_region ?_
  refine xl_cons ?_; ((refine y_pure (d := 2) hX ⟨rfl, rfl⟩ rfl (p_assign hX.st rfl rfl) ?_; clear hX; intro a w hX))
  refine x_end ?_
  refine q_then ?_
  refine wpIn_seq ?_
  refine c_region ?_
  refine xl_cons ?_; ((refine y_pure (d := 3) hX ⟨rfl, rfl⟩ rfl (p_assign hX.st rfl rfl) ?_; clear hX; intro a w hX))
  refine x_end ?_
  refine q_then ?_
  refine wpIn_seq ?_
  refine wpIn_seq ?_
  refine c_region ?_
  refine xl_cons ?_; ((refine y_pure (d := 4) hX ⟨rfl, rfl⟩ rfl (p_assign hX.st rfl rfl) ?_; clear hX; intro a w hX))
  refine x_end ?_
  refine q_then ?_
  refine c_block ?_
  refine c_loopX (α := Nat × Option Addr × Nat) (fun x => [(0, .slice A l.length c), (3, .slice x.2.1 (8 * x.1) x.2.2), (4, .int .i64 (x.1 : Nat))]) (fun x => [.row x.2.1 x.2.2 3 1 (8 * x.1) ((bitsN l x.1).map bv)]) (fun x => x.1 ≤ l.length + 2) (fun x => l.length + 2 - x.1) (0, none, 0) (Nat.zero_le _) ⟨(hX.toL (by repeat (first | exact Sub.nil | refine Sub.cons rfl ?_))).st, hX.sh.nilRow 3 1⟩ ?_
  clear hX
  rintro ⟨i, A3, c3⟩ a w hi hX
  dsimp only at hi hX
  refine wpIn_seq ?_
  refine wpIn_seq ?_
  refine c_region ?_
  refine xl_cons ?_; ((refine y_pure (d := 13) hX ⟨rfl, rfl⟩ rfl (p_move hX.st rfl rfl) ?_; clear hX; intro a w hX))
  refine xl_cons ?_; ((refine y_pure (d := 14) hX ⟨rfl, rfl⟩ rfl (p_move hX.st rfl rfl) ?_; clear hX; intro a w hX))
  refine xl_cons ?_; ((refine y_pure (d := 15) hX ⟨rfl, rfl⟩ rfl (p_len hX.st rfl tab_ok rfl rfl rfl) ?_; clear hX; intro a w hX))
  refine xl_cons ?_; (first | (refine y_pure (d := 16) hX ⟨rfl, rfl⟩ rfl (p_add hX.st rfl rfl rfl (in_i64 (by omega) (by omega))) ?_; clear hX; intro a w hX) | (refine y_pure (d := 16) hX ⟨rfl, rfl⟩ rfl (p_add hX.st rfl rfl rfl rfl) ?_; clear hX; intro a w hX))
  refine xl_cons ?_; ((refine y_pure (d := 17) hX ⟨rfl, rfl⟩ rfl (p_lss hX.st rfl rfl rfl) ?_; clear hX; intro a w hX))
  refine x_end ?_
  refine q_then ?_
  refine c_cond hX rfl (fun hc => ?_) (fun hc => ?_)
  ·
    try (first | cases hc | exact (contra_tf hc (by with_reducible assumption)).elim | exact (contra_tf (by with_reducible assumption) hc).elim | exact absurd hc (by decide))
    all_goals
      refine c_skip ?_
      refine q_then ?_
      refine wpIn_seq ?_
      refine c_block ?_
      refine wpIn_seq ?_
      have hi2 : i < l.length + 2 := by have h5 := hc; simp only [decide_eq_true_eq] at h5; omega
      have hm256 := (l.getD i 0).toNat_lt
      refine c_region ?_
      refine xl_cons ?_; ((refine y_pure (d := 5) hX ⟨rfl, rfl⟩ rfl (p_assign hX.st rfl rfl) ?_; clear hX; intro a w hX))
      refine x_end ?_
      refine q_then ?_
      refine wpIn_seq ?_
      refine wpIn_seq ?_
      refine c_region ?_
      refine xl_cons ?_; ((refine y_pure (d := 20) hX ⟨rfl, rfl⟩ rfl (p_move hX.st rfl rfl) ?_; clear hX; intro a w hX))
      refine xl_cons ?_; ((refine y_pure (d := 21) hX ⟨rfl, rfl⟩ rfl (p_move hX.st rfl rfl) ?_; clear hX; intro a w hX))
      refine xl_cons ?_; ((refine y_pure (d := 22) hX ⟨rfl, rfl⟩ rfl (p_len hX.st rfl tab_ok rfl rfl rfl) ?_; clear hX; intro a w hX))
      refine xl_cons ?_; ((refine y_pure (d := 23) hX ⟨rfl, rfl⟩ rfl (p_lss hX.st rfl rfl rfl) ?_; clear hX; intro a w hX))
      refine x_end ?_
      refine q_then ?_
      refine c_cond hX rfl (fun hc => ?_) (fun hc => ?_)
      ·
        try (first | cases hc | exact (contra_tf hc (by with_reducible assumption)).elim | exact (contra_tf (by with_reducible assumption) hc).elim | exact absurd hc (by decide))
        all_goals
          have hlt : i < l.length := by have h5 := hc; simp only [decide_eq_true_eq] at h5; omega
          obtain ⟨bb, pp, rfl, hb, hcell⟩ := hR.byte hlt
          rw [show l[i] = l.getD i 0 by simp [List.getD_eq_getElem?_getD, hlt]] at hcell
          refine c_region ?_
          refine xl_cons ?_; ((refine y_pure (d := 24) hX ⟨rfl, rfl⟩ rfl (p_move hX.st rfl rfl) ?_; clear hX; intro a w hX))
          refine xl_cons ?_; ((refine y_pure (d := 25) hX ⟨rfl, rfl⟩ rfl (p_move hX.st rfl rfl) ?_; clear hX; intro a w hX))
          refine xl_cons ?_; (first | (refine y_pure (d := 26) hX ⟨rfl, rfl⟩ rfl (p_index0 hX.st rfl tab_ok rfl rfl rfl rfl rfl rfl (by first | rfl | omega) (by first | decide | omega)) ?_; clear hX; intro a w hX) | (refine y_pure (d := 26) hX ⟨rfl, rfl⟩ rfl (p_index1 hX.st rfl tab_ok rfl rfl rfl rfl rfl rfl (by first | rfl | omega) (by first | decide | omega)) ?_; clear hX; intro a w hX))
          refine xl_cons ?_; (first | (refine y_read (d := 27) hX ⟨rfl, rfl⟩ rfl (v_load hX.st rfl tab_ok rfl rfl rfl foc0 rfl) ?_; clear hX; intro a w hX) | (refine y_read (d := 27) hX ⟨rfl, rfl⟩ rfl (v_load hX.st rfl tab_ok rfl rfl rfl foc1 rfl) ?_; clear hX; intro a w hX) | (refine y_read (d := 27) hX ⟨rfl, rfl⟩ rfl (v_load hX.st rfl tab_ok rfl rfl rfl foc2 rfl) ?_; clear hX; intro a w hX) | (refine y_read (d := 27) hX ⟨rfl, rfl⟩ rfl (v_load hX.st rfl tab_ok rfl rfl rfl foc3 rfl) ?_; clear hX; intro a w hX) | (refine y_read (d := 27) hX ⟨rfl, rfl⟩ rfl (v_load hX.st rfl tab_ok rfl rfl rfl foc4 rfl) ?_; clear hX; intro a w hX) | (refine y_read (d := 27) hX ⟨rfl, rfl⟩ rfl (v_load hX.st rfl tab_ok rfl rfl rfl foc5 rfl) ?_; clear hX; intro a w hX) | (refine y_read (d := 27) hX ⟨rfl, rfl⟩ rfl (v_load hX.st rfl tab_ok rfl rfl rfl foc6 rfl) ?_; clear hX; intro a w hX) | (refine y_read (d := 27) hX ⟨rfl, rfl⟩ rfl (v_load hX.st rfl tab_ok rfl rfl rfl foc7 rfl) ?_; clear hX; intro a w hX) | (refine y_read (d := 27) hX ⟨rfl, rfl⟩ rfl (v_load hX.st rfl tab_ok rfl rfl rfl foc8 rfl) ?_; clear hX; intro a w hX) | (refine y_read (d := 27) hX ⟨rfl, rfl⟩ rfl (v_load hX.st rfl tab_ok rfl rfl rfl foc9 rfl) ?_; clear hX; intro a w hX) | (refine y_read (d := 27) hX ⟨rfl, rfl⟩ rfl (v_load hX.st rfl tab_ok rfl rfl rfl foc10 rfl) ?_; clear hX; intro a w hX) | (refine y_read (d := 27) hX ⟨rfl, rfl⟩ rfl (v_load hX.st rfl tab_ok rfl rfl rfl foc11 rfl) ?_; clear hX; intro a w hX) | (refine y_read (d := 27) hX ⟨rfl, rfl⟩ rfl (v_load hX.st rfl tab_ok rfl rfl rfl foc12 rfl) ?_; clear hX; intro a w hX) | (refine y_read (d := 27) hX ⟨rfl, rfl⟩ rfl (v_load_old hX.st rfl tab_ok rfl rfl rfl (by assumption) (by assumption)) ?_; clear hX; intro a w hX))
          refine xl_cons ?_; (first | (refine y_pure (d := 28) hX ⟨rfl, rfl⟩ rfl (p_conv hX.st rfl tab_ok rfl rfl rfl rfl (in_i64 (by omega) (by omega))) ?_; clear hX; intro a w hX) | (refine y_pure (d := 28) hX ⟨rfl, rfl⟩ rfl (p_conv hX.st rfl tab_ok rfl rfl rfl rfl rfl) ?_; clear hX; intro a w hX))
          refine xl_cons ?_; ((refine y_pure (d := 5) hX ⟨rfl, rfl⟩ rfl (p_assign hX.st rfl rfl) ?_; clear hX; intro a w hX))
          refine x_end ?_
          refine q_then ?_
          refine wpIn_seq ?_
          refine c_region ?_
          refine xl_cons ?_; ((refine y_pure (d := 6) hX ⟨rfl, rfl⟩ rfl (p_assign hX.st rfl rfl) ?_; clear hX; intro a w hX))
          refine x_end ?_
          refine q_then ?_
          refine c_block ?_
          have hx0 : ∃ x : Nat, x = (l.getD i 0).toNat := ⟨_, rfl⟩
          obtain ⟨x, hx⟩ := hx0
          refine c_loopX (α := Nat × Option Addr × Nat) (fun y => [(0, .slice _ l.length c), (3, .slice y.2.1 (8 * i + y.1) y.2.2), (4, .int .i64 i), (5, .int .i64 x), (6, .int .i64 (7 - (y.1 : Int)))]) (fun y => [.row y.2.1 y.2.2 3 1 (8 * i + y.1) ((bitsN l i ++ (byteBits (l.getD i 0)).take y.1).map bv)]) (fun y => y.1 ≤ 8) (fun y => 8 - y.1) (0, A3, c3) (Nat.zero_le _) (hX.to (Sub.cons rfl (Sub.cons rfl (Sub.cons rfl (Sub.cons (look_int rfl ?_) (by repeat (first | exact Sub.nil | refine Sub.cons rfl ?_)))))) (Sel.consE tk0 (row_eq rfl (by simp)) Sel.nil)) ?_
          · first
              | (rw [hx]; done)
              | (rw [hx]; have h5 := hc; simp only [decide_eq_false_iff_not] at h5; simp [List.getD_eq_getElem?_getD, List.getElem?_eq_none (show l.length ≤ i by omega)]; done)
          clear hX
          rintro ⟨j, A4, c4⟩ a w hj hX
          dsimp only at hj hX
          refine wpIn_seq ?_
          refine wpIn_seq ?_
          refine c_region ?_
          refine xl_cons ?_; ((refine y_pure (d := 29) hX ⟨rfl, rfl⟩ rfl (p_move hX.st rfl rfl) ?_; clear hX; intro a w hX))
          refine xl_cons ?_; ((refine y_pure (d := 30) hX ⟨rfl, rfl⟩ rfl (p_geq hX.st rfl rfl rfl) ?_; clear hX; intro a w hX))
          refine x_end ?_
          refine q_then ?_
          refine c_cond hX rfl (fun hc => ?_) (fun hc => ?_)
          ·
            try (first | cases hc | exact (contra_tf hc (by with_reducible assumption)).elim | exact (contra_tf (by with_reducible assumption) hc).elim | exact absurd hc (by decide))
            all_goals
              refine c_skip ?_
              refine q_then ?_
              refine wpIn_seq ?_
              refine c_block ?_
              have hj8 : j < 8 := by have h5 := hc; simp only [ge_iff_le, decide_eq_true_eq] at h5; omega
              refine c_region ?_
              refine xl_cons ?_; ((refine y_pure (d := 33) hX ⟨rfl, rfl⟩ rfl (p_move hX.st rfl rfl) ?_; clear hX; intro a w hX))
              refine xl_cons ?_; ((refine y_pure (d := 34) hX ⟨rfl, rfl⟩ rfl (p_move hX.st rfl rfl) ?_; clear hX; intro a w hX))
              refine xl_cons ?_; ((refine y_pure (d := 35) hX ⟨rfl, rfl⟩ rfl (p_move hX.st rfl rfl) ?_; clear hX; intro a w hX))
              refine xl_cons ?_; (refine y_pure (d := 36) hX ⟨rfl, rfl⟩ rfl (p_conv hX.st rfl tab_ok rfl rfl rfl rfl (z := (7 - (j : Int))) (by rw [IntKind.wrap_u64]; omega)) ?_; clear hX; intro a w hX)
              refine xl_cons ?_; (refine y_pure (d := 37) hX ⟨rfl, rfl⟩ rfl (p_shrZ (y := 7 - j) hX.st rfl rfl rfl (by omega) rfl) ?_; clear hX; intro a w hX)
              refine xl_cons ?_; (refine y_pure (d := 38) hX ⟨rfl, rfl⟩ rfl (p_and (z := (((l.getD i 0).toNat.testBit (7 - j)).toNat : Int)) hX.st rfl rfl rfl (by rw [hx]; exact bit_of _ _ hm256 hj8)) ?_; clear hX; intro a w hX)
              refine xl_cons ?_; (refine y_buildSlice (d := 39) hX rfl ⟨rfl, rfl⟩ rfl tab_ok rfl rfl rfl rfl rfl (xs := [.tmp 38]) rfl rfl rfl rfl rfl ?_; clear hX; intro b a w hX)
              refine xl_cons ?_; (first | (refine y_append_cel (d := 40) hX rfl ⟨rfl, rfl⟩ rfl tab_ok rfl rfl rfl rfl rfl rfl rfl foc1 foc0 rfl rfl (by first | omega | (simp only [ti5, ti3, ti53]; omega)) (by first | omega | (simp only [ti5, ti3, ti53]; omega)) ?_; clear hX; intro A5 c5 a w hX) | (refine y_append_cel (d := 40) hX rfl ⟨rfl, rfl⟩ rfl tab_ok rfl rfl rfl rfl rfl rfl rfl foc2 foc0 rfl rfl (by first | omega | (simp only [ti5, ti3, ti53]; omega)) (by first | omega | (simp only [ti5, ti3, ti53]; omega)) ?_; clear hX; intro A5 c5 a w hX) | (refine y_append_cel (d := 40) hX rfl ⟨rfl, rfl⟩ rfl tab_ok rfl rfl rfl rfl rfl rfl rfl foc3 foc0 rfl rfl (by first | omega | (simp only [ti5, ti3, ti53]; omega)) (by first | omega | (simp only [ti5, ti3, ti53]; omega)) ?_; clear hX; intro A5 c5 a w hX) | (refine y_append_cel (d := 40) hX rfl ⟨rfl, rfl⟩ rfl tab_ok rfl rfl rfl rfl rfl rfl rfl foc4 foc0 rfl rfl (by first | omega | (simp only [ti5, ti3, ti53]; omega)) (by first | omega | (simp only [ti5, ti3, ti53]; omega)) ?_; clear hX; intro A5 c5 a w hX) | (refine y_append_cel (d := 40) hX rfl ⟨rfl, rfl⟩ rfl tab_ok rfl rfl rfl rfl rfl rfl rfl foc0 foc1 rfl rfl (by first | omega | (simp only [ti5, ti3, ti53]; omega)) (by first | omega | (simp only [ti5, ti3, ti53]; omega)) ?_; clear hX; intro A5 c5 a w hX) | (refine y_append_cel (d := 40) hX rfl ⟨rfl, rfl⟩ rfl tab_ok rfl rfl rfl rfl rfl rfl rfl foc2 foc1 rfl rfl (by first | omega | (simp only [ti5, ti3, ti53]; omega)) (by first | omega | (simp only [ti5, ti3, ti53]; omega)) ?_; clear hX; intro A5 c5 a w hX) | (refine y_append_cel (d := 40) hX rfl ⟨rfl, rfl⟩ rfl tab_ok rfl rfl rfl rfl rfl rfl rfl foc3 foc1 rfl rfl (by first | omega | (simp only [ti5, ti3, ti53]; omega)) (by first | omega | (simp only [ti5, ti3, ti53]; omega)) ?_; clear hX; intro A5 c5 a w hX) | (refine y_append_cel (d := 40) hX rfl ⟨rfl, rfl⟩ rfl tab_ok rfl rfl rfl rfl rfl rfl rfl foc4 foc1 rfl rfl (by first | omega | (simp only [ti5, ti3, ti53]; omega)) (by first | omega | (simp only [ti5, ti3, ti53]; omega)) ?_; clear hX; intro A5 c5 a w hX) | (refine y_append_cel (d := 40) hX rfl ⟨rfl, rfl⟩ rfl tab_ok rfl rfl rfl rfl rfl rfl rfl foc0 foc2 rfl rfl (by first | omega | (simp only [ti5, ti3, ti53]; omega)) (by first | omega | (simp only [ti5, ti3, ti53]; omega)) ?_; clear hX; intro A5 c5 a w hX) | (refine y_append_cel (d := 40) hX rfl ⟨rfl, rfl⟩ rfl tab_ok rfl rfl rfl rfl rfl rfl rfl foc1 foc2 rfl rfl (by first | omega | (simp only [ti5, ti3, ti53]; omega)) (by first | omega | (simp only [ti5, ti3, ti53]; omega)) ?_; clear hX; intro A5 c5 a w hX) | (refine y_append_cel (d := 40) hX rfl ⟨rfl, rfl⟩ rfl tab_ok rfl rfl rfl rfl rfl rfl rfl foc3 foc2 rfl rfl (by first | omega | (simp only [ti5, ti3, ti53]; omega)) (by first | omega | (simp only [ti5, ti3, ti53]; omega)) ?_; clear hX; intro A5 c5 a w hX) | (refine y_append_cel (d := 40) hX rfl ⟨rfl, rfl⟩ rfl tab_ok rfl rfl rfl rfl rfl rfl rfl foc4 foc2 rfl rfl (by first | omega | (simp only [ti5, ti3, ti53]; omega)) (by first | omega | (simp only [ti5, ti3, ti53]; omega)) ?_; clear hX; intro A5 c5 a w hX))
              refine xl_cons ?_; ((refine y_pure (d := 3) hX ⟨rfl, rfl⟩ rfl (p_assign hX.st rfl rfl) ?_; clear hX; intro a w hX))
              refine x_end ?_
              refine q_block ?_
              refine q_then ?_
              refine c_region ?_
              refine xl_cons ?_; ((refine y_pure (d := 31) hX ⟨rfl, rfl⟩ rfl (p_move hX.st rfl rfl) ?_; clear hX; intro a w hX))
              refine xl_cons ?_; (first | (refine y_pure (d := 32) hX ⟨rfl, rfl⟩ rfl (p_sub hX.st rfl rfl rfl (in_i64 (by omega) (by omega))) ?_; clear hX; intro a w hX) | (refine y_pure (d := 32) hX ⟨rfl, rfl⟩ rfl (p_sub hX.st rfl rfl rfl rfl) ?_; clear hX; intro a w hX))
              refine xl_cons ?_; ((refine y_pure (d := 6) hX ⟨rfl, rfl⟩ rfl (p_assign hX.st rfl rfl) ?_; clear hX; intro a w hX))
              refine x_end ?_
              refine q_then ?_
              exact ⟨(j + 1, A5, c5), by dsimp only; omega, by dsimp only; omega, hX.to (Sub.cons rfl (Sub.cons (look_val rfl (slice_eq (by dsimp only; omega))) (Sub.cons rfl (Sub.cons rfl (Sub.cons (look_int rfl (by dsimp only; omega)) (by repeat (first | exact Sub.nil | refine Sub.cons rfl ?_))))))) (Sel.consE tk1 (row_eq (by dsimp only; omega) (by dsimp only; rw [bits_step _ _ _ hj8]; simp only [List.map_append, List.map_cons, List.map_nil]; rfl)) Sel.nil)⟩
          ·
            try (first | cases hc | exact (contra_tf hc (by with_reducible assumption)).elim | exact (contra_tf (by with_reducible assumption) hc).elim | exact absurd hc (by decide))
            all_goals
              refine c_exit ?_
              refine q_then_exit ?_
              refine q_then_exit ?_
              refine q_block_exit ?_
              refine q_block ?_
              refine q_then ?_
              refine c_region ?_
              refine xl_cons ?_; ((refine y_pure (d := 18) hX ⟨rfl, rfl⟩ rfl (p_move hX.st rfl rfl) ?_; clear hX; intro a w hX))
              refine xl_cons ?_; (first | (refine y_pure (d := 19) hX ⟨rfl, rfl⟩ rfl (p_add hX.st rfl rfl rfl (in_i64 (by omega) (by omega))) ?_; clear hX; intro a w hX) | (refine y_pure (d := 19) hX ⟨rfl, rfl⟩ rfl (p_add hX.st rfl rfl rfl rfl) ?_; clear hX; intro a w hX))
              refine xl_cons ?_; ((refine y_pure (d := 4) hX ⟨rfl, rfl⟩ rfl (p_assign hX.st rfl rfl) ?_; clear hX; intro a w hX))
              refine x_end ?_
              refine q_then ?_
              have hj8 : j = 8 := by have h5 := hc; simp only [ge_iff_le, decide_eq_false_iff_not] at h5; omega
              subst hj8
              exact ⟨(i + 1, A4, c4), by dsimp only; omega, by dsimp only; omega, hX.to (Sub.cons rfl (Sub.cons (look_val rfl (slice_eq (by dsimp only; omega))) (Sub.cons (look_int rfl (by dsimp only; omega)) (by repeat (first | exact Sub.nil | refine Sub.cons rfl ?_))))) (Sel.consE tk0 (row_eq (by dsimp only; omega) (by dsimp only; rw [bitsN_succ, List.take_of_length_le (by rw [byteBits_length]; omega)])) Sel.nil)⟩
      ·
        try (first | cases hc | exact (contra_tf hc (by with_reducible assumption)).elim | exact (contra_tf (by with_reducible assumption) hc).elim | exact absurd hc (by decide))
        all_goals
          refine c_skip ?_
          refine q_then ?_
          refine wpIn_seq ?_
          refine c_region ?_
          refine xl_cons ?_; ((refine y_pure (d := 6) hX ⟨rfl, rfl⟩ rfl (p_assign hX.st rfl rfl) ?_; clear hX; intro a w hX))
          refine x_end ?_
          refine q_then ?_
          refine c_block ?_
          have hx0 : ∃ x : Nat, x = (l.getD i 0).toNat := ⟨_, rfl⟩
          obtain ⟨x, hx⟩ := hx0
          refine c_loopX (α := Nat × Option Addr × Nat) (fun y => [(0, .slice _ l.length c), (3, .slice y.2.1 (8 * i + y.1) y.2.2), (4, .int .i64 i), (5, .int .i64 x), (6, .int .i64 (7 - (y.1 : Int)))]) (fun y => [.row y.2.1 y.2.2 3 1 (8 * i + y.1) ((bitsN l i ++ (byteBits (l.getD i 0)).take y.1).map bv)]) (fun y => y.1 ≤ 8) (fun y => 8 - y.1) (0, A3, c3) (Nat.zero_le _) (hX.to (Sub.cons rfl (Sub.cons rfl (Sub.cons rfl (Sub.cons (look_int rfl ?_) (by repeat (first | exact Sub.nil | refine Sub.cons rfl ?_)))))) (Sel.consE tk0 (row_eq rfl (by simp)) Sel.nil)) ?_
          · first
              | (rw [hx]; done)
              | (rw [hx]; have h5 := hc; simp only [decide_eq_false_iff_not] at h5; simp [List.getD_eq_getElem?_getD, List.getElem?_eq_none (show l.length ≤ i by omega)]; done)
          clear hX
          rintro ⟨j, A4, c4⟩ a w hj hX
          dsimp only at hj hX
          refine wpIn_seq ?_
          refine wpIn_seq ?_
          refine c_region ?_
          refine xl_cons ?_; ((refine y_pure (d := 29) hX ⟨rfl, rfl⟩ rfl (p_move hX.st rfl rfl) ?_; clear hX; intro a w hX))
          refine xl_cons ?_; ((refine y_pure (d := 30) hX ⟨rfl, rfl⟩ rfl (p_geq hX.st rfl rfl rfl) ?_; clear hX; intro a w hX))
          refine x_end ?_
          refine q_then ?_
          refine c_cond hX rfl (fun hc => ?_) (fun hc => ?_)
          ·
            try (first | cases hc | exact (contra_tf hc (by with_reducible assumption)).elim | exact (contra_tf (by with_reducible assumption) hc).elim | exact absurd hc (by decide))
            all_goals
              refine c_skip ?_
              refine q_then ?_
              refine wpIn_seq ?_
              refine c_block ?_
              have hj8 : j < 8 := by have h5 := hc; simp only [ge_iff_le, decide_eq_true_eq] at h5; omega
              refine c_region ?_
              refine xl_cons ?_; ((refine y_pure (d := 33) hX ⟨rfl, rfl⟩ rfl (p_move hX.st rfl rfl) ?_; clear hX; intro a w hX))
              refine xl_cons ?_; ((refine y_pure (d := 34) hX ⟨rfl, rfl⟩ rfl (p_move hX.st rfl rfl) ?_; clear hX; intro a w hX))
              refine xl_cons ?_; ((refine y_pure (d := 35) hX ⟨rfl, rfl⟩ rfl (p_move hX.st rfl rfl) ?_; clear hX; intro a w hX))
              refine xl_cons ?_; (refine y_pure (d := 36) hX ⟨rfl, rfl⟩ rfl (p_conv hX.st rfl tab_ok rfl rfl rfl rfl (z := (7 - (j : Int))) (by rw [IntKind.wrap_u64]; omega)) ?_; clear hX; intro a w hX)
              refine xl_cons ?_; (refine y_pure (d := 37) hX ⟨rfl, rfl⟩ rfl (p_shrZ (y := 7 - j) hX.st rfl rfl rfl (by omega) rfl) ?_; clear hX; intro a w hX)
              refine xl_cons ?_; (refine y_pure (d := 38) hX ⟨rfl, rfl⟩ rfl (p_and (z := (((l.getD i 0).toNat.testBit (7 - j)).toNat : Int)) hX.st rfl rfl rfl (by rw [hx]; exact bit_of _ _ hm256 hj8)) ?_; clear hX; intro a w hX)
              refine xl_cons ?_; (refine y_buildSlice (d := 39) hX rfl ⟨rfl, rfl⟩ rfl tab_ok rfl rfl rfl rfl rfl (xs := [.tmp 38]) rfl rfl rfl rfl rfl ?_; clear hX; intro b a w hX)
              refine xl_cons ?_; (first | (refine y_append_cel (d := 40) hX rfl ⟨rfl, rfl⟩ rfl tab_ok rfl rfl rfl rfl rfl rfl rfl foc1 foc0 rfl rfl (by first | omega | (simp only [ti5, ti3, ti53]; omega)) (by first | omega | (simp only [ti5, ti3, ti53]; omega)) ?_; clear hX; intro A5 c5 a w hX) | (refine y_append_cel (d := 40) hX rfl ⟨rfl, rfl⟩ rfl tab_ok rfl rfl rfl rfl rfl rfl rfl foc2 foc0 rfl rfl (by first | omega | (simp only [ti5, ti3, ti53]; omega)) (by first | omega | (simp only [ti5, ti3, ti53]; omega)) ?_; clear hX; intro A5 c5 a w hX) | (refine y_append_cel (d := 40) hX rfl ⟨rfl, rfl⟩ rfl tab_ok rfl rfl rfl rfl rfl rfl rfl foc3 foc0 rfl rfl (by first | omega | (simp only [ti5, ti3, ti53]; omega)) (by first | omega | (simp only [ti5, ti3, ti53]; omega)) ?_; clear hX; intro A5 c5 a w hX) | (refine y_append_cel (d := 40) hX rfl ⟨rfl, rfl⟩ rfl tab_ok rfl rfl rfl rfl rfl rfl rfl foc4 foc0 rfl rfl (by first | omega | (simp only [ti5, ti3, ti53]; omega)) (by first | omega | (simp only [ti5, ti3, ti53]; omega)) ?_; clear hX; intro A5 c5 a w hX) | (refine y_append_cel (d := 40) hX rfl ⟨rfl, rfl⟩ rfl tab_ok rfl rfl rfl rfl rfl rfl rfl foc0 foc1 rfl rfl (by first | omega | (simp only [ti5, ti3, ti53]; omega)) (by first | omega | (simp only [ti5, ti3, ti53]; omega)) ?_; clear hX; intro A5 c5 a w hX) | (refine y_append_cel (d := 40) hX rfl ⟨rfl, rfl⟩ rfl tab_ok rfl rfl rfl rfl rfl rfl rfl foc2 foc1 rfl rfl (by first | omega | (simp only [ti5, ti3, ti53]; omega)) (by first | omega | (simp only [ti5, ti3, ti53]; omega)) ?_; clear hX; intro A5 c5 a w hX) | (refine y_append_cel (d := 40) hX rfl ⟨rfl, rfl⟩ rfl tab_ok rfl rfl rfl rfl rfl rfl rfl foc3 foc1 rfl rfl (by first | omega | (simp only [ti5, ti3, ti53]; omega)) (by first | omega | (simp only [ti5, ti3, ti53]; omega)) ?_; clear hX; intro A5 c5 a w hX) | (refine y_append_cel (d := 40) hX rfl ⟨rfl, rfl⟩ rfl tab_ok rfl rfl rfl rfl rfl rfl rfl foc4 foc1 rfl rfl (by first | omega | (simp only [ti5, ti3, ti53]; omega)) (by first | omega | (simp only [ti5, ti3, ti53]; omega)) ?_; clear hX; intro A5 c5 a w hX) | (refine y_append_cel (d := 40) hX rfl ⟨rfl, rfl⟩ rfl tab_ok rfl rfl rfl rfl rfl rfl rfl foc0 foc2 rfl rfl (by first | omega | (simp only [ti5, ti3, ti53]; omega)) (by first | omega | (simp only [ti5, ti3, ti53]; omega)) ?_; clear hX; intro A5 c5 a w hX) | (refine y_append_cel (d := 40) hX rfl ⟨rfl, rfl⟩ rfl tab_ok rfl rfl rfl rfl rfl rfl rfl foc1 foc2 rfl rfl (by first | omega | (simp only [ti5, ti3, ti53]; omega)) (by first | omega | (simp only [ti5, ti3, ti53]; omega)) ?_; clear hX; intro A5 c5 a w hX) | (refine y_append_cel (d := 40) hX rfl ⟨rfl, rfl⟩ rfl tab_ok rfl rfl rfl rfl rfl rfl rfl foc3 foc2 rfl rfl (by first | omega | (simp only [ti5, ti3, ti53]; omega)) (by first | omega | (simp only [ti5, ti3, ti53]; omega)) ?_; clear hX; intro A5 c5 a w hX) | (refine y_append_cel (d := 40) hX rfl ⟨rfl, rfl⟩ rfl tab_ok rfl rfl rfl rfl rfl rfl rfl foc4 foc2 rfl rfl (by first | omega | (simp only [ti5, ti3, ti53]; omega)) (by first | omega | (simp only [ti5, ti3, ti53]; omega)) ?_; clear hX; intro A5 c5 a w hX))
              refine xl_cons ?_; ((refine y_pure (d := 3) hX ⟨rfl, rfl⟩ rfl (p_assign hX.st rfl rfl) ?_; clear hX; intro a w hX))
              refine x_end ?_
              refine q_block ?_
              refine q_then ?_
              refine c_region ?_
              refine xl_cons ?_; ((refine y_pure (d := 31) hX ⟨rfl, rfl⟩ rfl (p_move hX.st rfl rfl) ?_; clear hX; intro a w hX))
              refine xl_cons ?_; (first | (refine y_pure (d := 32) hX ⟨rfl, rfl⟩ rfl (p_sub hX.st rfl rfl rfl (in_i64 (by omega) (by omega))) ?_; clear hX; intro a w hX) | (refine y_pure (d := 32) hX ⟨rfl, rfl⟩ rfl (p_sub hX.st rfl rfl rfl rfl) ?_; clear hX; intro a w hX))
              refine xl_cons ?_; ((refine y_pure (d := 6) hX ⟨rfl, rfl⟩ rfl (p_assign hX.st rfl rfl) ?_; clear hX; intro a w hX))
              refine x_end ?_
              refine q_then ?_
              exact ⟨(j + 1, A5, c5), by dsimp only; omega, by dsimp only; omega, hX.to (Sub.cons rfl (Sub.cons (look_val rfl (slice_eq (by dsimp only; omega))) (Sub.cons rfl (Sub.cons rfl (Sub.cons (look_int rfl (by dsimp only; omega)) (by repeat (first | exact Sub.nil | refine Sub.cons rfl ?_))))))) (Sel.consE tk1 (row_eq (by dsimp only; omega) (by dsimp only; rw [bits_step _ _ _ hj8]; simp only [List.map_append, List.map_cons, List.map_nil]; rfl)) Sel.nil)⟩
          ·
            try (first | cases hc | exact (contra_tf hc (by with_reducible assumption)).elim | exact (contra_tf (by with_reducible assumption) hc).elim | exact absurd hc (by decide))
            all_goals
              refine c_exit ?_
              refine q_then_exit ?_
              refine q_then_exit ?_
              refine q_block_exit ?_
              refine q_block ?_
              refine q_then ?_
              refine c_region ?_
              refine xl_cons ?_; ((refine y_pure (d := 18) hX ⟨rfl, rfl⟩ rfl (p_move hX.st rfl rfl) ?_; clear hX; intro a w hX))
              refine xl_cons ?_; (first | (refine y_pure (d := 19) hX ⟨rfl, rfl⟩ rfl (p_add hX.st rfl rfl rfl (in_i64 (by omega) (by omega))) ?_; clear hX; intro a w hX) | (refine y_pure (d := 19) hX ⟨rfl, rfl⟩ rfl (p_add hX.st rfl rfl rfl rfl) ?_; clear hX; intro a w hX))
              refine xl_cons ?_; ((refine y_pure (d := 4) hX ⟨rfl, rfl⟩ rfl (p_assign hX.st rfl rfl) ?_; clear hX; intro a w hX))
              refine x_end ?_
              refine q_then ?_
              have hj8 : j = 8 := by have h5 := hc; simp only [ge_iff_le, decide_eq_false_iff_not] at h5; omega
              subst hj8
              exact ⟨(i + 1, A4, c4), by dsimp only; omega, by dsimp only; omega, hX.to (Sub.cons rfl (Sub.cons (look_val rfl (slice_eq (by dsimp only; omega))) (Sub.cons (look_int rfl (by dsimp only; omega)) (by repeat (first | exact Sub.nil | refine Sub.cons rfl ?_))))) (Sel.consE tk0 (row_eq (by dsimp only; omega) (by dsimp only; rw [bitsN_succ, List.take_of_length_le (by rw [byteBits_length]; omega)])) Sel.nil)⟩
  ·
    try (first | cases hc | exact (contra_tf hc (by with_reducible assumption)).elim | exact (contra_tf (by with_reducible assumption) hc).elim | exact absurd hc (by decide))
    all_goals
      refine c_exit ?_
      refine q_then_exit ?_
      refine q_then_exit ?_
      refine q_block_exit ?_
      refine q_then ?_
      refine wpIn_seq ?_
      refine wpIn_seq ?_
      refine c_region ?_
      refine xl_cons ?_; ((refine y_pure (d := 7) hX ⟨rfl, rfl⟩ rfl (p_assign hX.st rfl rfl) ?_; clear hX; intro a w hX))
      refine x_end ?_
      refine q_then ?_
      refine c_block ?_
      have hi2 : i = l.length + 2 := by have h5 := hc; simp only [decide_eq_false_iff_not] at h5; omega
      subst hi2
      have hXl := bitsN_length l (l.length + 2)
      generalize hXe : bitsN l (l.length + 2) = X at hX hXl
      obtain ⟨g, rfl⟩ := hX.sh.rowAt foc0 (by omega)
      refine c_loopX (α := Nat) (fun i => [(0, .slice A l.length c), (3, .slice (some ⟨g, 0, none⟩) (8 * (l.length + 2)) c3), (7, .int .i64 (i : Nat))]) (fun i => [.row (some ⟨g, 0, none⟩) c3 3 1 (8 * (l.length + 2)) ((flipN X i).map bv)]) (fun i => i ≤ 16) (fun i => 16 - i) 0 (Nat.zero_le _) (hX.to (by repeat (first | exact Sub.nil | refine Sub.cons rfl ?_)) (Sel.consE tk0 (row_eq rfl (by simp [flipN])) Sel.nil)) ?_
      clear hX hc
      intro i a w hi hX
      refine wpIn_seq ?_
      refine wpIn_seq ?_
      refine c_region ?_
      refine xl_cons ?_; ((refine y_pure (d := 41) hX ⟨rfl, rfl⟩ rfl (p_move hX.st rfl rfl) ?_; clear hX; intro a w hX))
      refine xl_cons ?_; ((refine y_pure (d := 42) hX ⟨rfl, rfl⟩ rfl (p_lss hX.st rfl rfl rfl) ?_; clear hX; intro a w hX))
      refine x_end ?_
      refine q_then ?_
      refine c_cond hX rfl (fun hc => ?_) (fun hc => ?_)
      ·
        try (first | cases hc | exact (contra_tf hc (by with_reducible assumption)).elim | exact (contra_tf (by with_reducible assumption) hc).elim | exact absurd hc (by decide))
        all_goals
          refine c_skip ?_
          refine q_then ?_
          refine wpIn_seq ?_
          refine c_block ?_
          have hi16 : i < 16 := by have h5 := hc; simp only [decide_eq_true_eq] at h5; omega
          have hfl := flipN_length X i
          refine c_region ?_
          refine xl_cons ?_; ((refine y_pure (d := 45) hX ⟨rfl, rfl⟩ rfl (p_move hX.st rfl rfl) ?_; clear hX; intro a w hX))
          refine xl_cons ?_; ((refine y_pure (d := 46) hX ⟨rfl, rfl⟩ rfl (p_move hX.st rfl rfl) ?_; clear hX; intro a w hX))
          refine xl_cons ?_; (first | (refine y_pure (d := 47) hX ⟨rfl, rfl⟩ rfl (p_index0 hX.st rfl tab_ok rfl rfl rfl rfl rfl rfl (by first | rfl | omega) (by first | decide | omega)) ?_; clear hX; intro a w hX) | (refine y_pure (d := 47) hX ⟨rfl, rfl⟩ rfl (p_index1 hX.st rfl tab_ok rfl rfl rfl rfl rfl rfl (by first | rfl | omega) (by first | decide | omega)) ?_; clear hX; intro a w hX))
          refine xl_cons ?_; (refine y_read (d := 48) hX ⟨rfl, rfl⟩ rfl (v_load_row hX.st rfl tab_ok rfl rfl rfl foc0 (bv_get _ _ (by omega))) ?_; clear hX; intro a w hX)
          refine xl_cons ?_; (refine y_pure (d := 49) hX ⟨rfl, rfl⟩ rfl (p_xor hX.st rfl rfl rfl (not_bit _)) ?_; clear hX; intro a w hX)
          refine xl_cons ?_; (first | (refine y_pure (d := 50) hX ⟨rfl, rfl⟩ rfl (p_index0 hX.st rfl tab_ok rfl rfl rfl rfl rfl rfl (by first | rfl | omega) (by first | decide | omega)) ?_; clear hX; intro a w hX) | (refine y_pure (d := 50) hX ⟨rfl, rfl⟩ rfl (p_index1 hX.st rfl tab_ok rfl rfl rfl rfl rfl rfl (by first | rfl | omega) (by first | decide | omega)) ?_; clear hX; intro a w hX))
          refine xl_cons ?_; (refine y_store_row hX rfl ⟨rfl, rfl⟩ tab_ok rfl rfl rfl rfl rfl foc0 (by omega) ?_; clear hX; intro a w hX)
          refine x_end ?_
          refine q_block ?_
          refine q_then ?_
          refine c_region ?_
          refine xl_cons ?_; ((refine y_pure (d := 43) hX ⟨rfl, rfl⟩ rfl (p_move hX.st rfl rfl) ?_; clear hX; intro a w hX))
          refine xl_cons ?_; (first | (refine y_pure (d := 44) hX ⟨rfl, rfl⟩ rfl (p_add hX.st rfl rfl rfl (in_i64 (by omega) (by omega))) ?_; clear hX; intro a w hX) | (refine y_pure (d := 44) hX ⟨rfl, rfl⟩ rfl (p_add hX.st rfl rfl rfl rfl) ?_; clear hX; intro a w hX))
          refine xl_cons ?_; ((refine y_pure (d := 7) hX ⟨rfl, rfl⟩ rfl (p_assign hX.st rfl rfl) ?_; clear hX; intro a w hX))
          refine x_end ?_
          refine q_then ?_
          exact ⟨i + 1, by omega, by omega, hX.to (Sub.cons rfl (Sub.cons rfl (Sub.cons (look_int rfl (by omega)) (by repeat (first | exact Sub.nil | refine Sub.cons rfl ?_))))) (Sel.consE tk0 (row_eq rfl (by rw [← flip_step _ _ (by omega)]; exact bv_set _ _ _ _ rfl)) Sel.nil)⟩
      ·
        try (first | cases hc | exact (contra_tf hc (by with_reducible assumption)).elim | exact (contra_tf (by with_reducible assumption) hc).elim | exact absurd hc (by decide))
        all_goals
          refine c_exit ?_
          refine q_then_exit ?_
          refine q_then_exit ?_
          refine q_block_exit ?_
          refine q_then ?_
          refine wpIn_seq ?_
          refine c_region ?_
          refine xl_cons ?_; (refine y_buildSlice (d := 51) hX rfl ⟨rfl, rfl⟩ rfl tab_ok rfl rfl rfl rfl rfl (xs := [.const (.int .i64 1), .const (.int .i64 0), .const (.int .i64 0), .const (.int .i64 0), .const (.int .i64 1), .const (.int .i64 0), .const (.int .i64 0), .const (.int .i64 0), .const (.int .i64 0), .const (.int .i64 0), .const (.int .i64 0), .const (.int .i64 1), .const (.int .i64 0), .const (.int .i64 0), .const (.int .i64 0), .const (.int .i64 0), .const (.int .i64 1)]) rfl rfl rfl rfl rfl ?_; clear hX; intro gd a w hX)
          refine xl_cons ?_; ((refine y_pure (d := 8) hX ⟨rfl, rfl⟩ rfl (p_assign hX.st rfl rfl) ?_; clear hX; intro a w hX))
          refine x_end ?_
          refine q_then ?_
          refine wpIn_seq ?_
          refine wpIn_seq ?_
          refine c_region ?_
          refine xl_cons ?_; ((refine y_pure (d := 9) hX ⟨rfl, rfl⟩ rfl (p_assign hX.st rfl rfl) ?_; clear hX; intro a w hX))
          refine x_end ?_
          refine q_then ?_
          refine c_block ?_
          have hi16 : i = 16 := by have h5 := hc; simp only [decide_eq_false_iff_not] at h5; omega
          subst hi16
          have hXl' : (flipN X 16).length = 8 * (l.length + 2) := by rw [flipN_length, hXl]
          generalize hY : flipN X 16 = Y at hX hXl'
          refine c_loopX (α := Nat) (fun i => [(3, .slice (some ⟨g, 0, none⟩) (8 * (l.length + 2)) c3), (8, .slice (some ⟨gd, 0, none⟩) 17 17), (9, .int .i64 (i : Nat))]) (fun i => [.row (some ⟨g, 0, none⟩) c3 3 1 (8 * (l.length + 2)) ((divN Y i).map bv), .cel gd (dvs.map bv) 3]) (fun i => i ≤ 8 * l.length) (fun i => 8 * l.length - i) 0 (Nat.zero_le _) (hX.to (by repeat (first | exact Sub.nil | refine Sub.cons rfl ?_)) (Sel.cons tk1 (Sel.cons tk0 Sel.nil))) ?_
          clear hX hc
          intro i a w hi hX
          refine wpIn_seq ?_
          refine wpIn_seq ?_
          refine c_region ?_
          refine xl_cons ?_; ((refine y_pure (d := 52) hX ⟨rfl, rfl⟩ rfl (p_move hX.st rfl rfl) ?_; clear hX; intro a w hX))
          refine xl_cons ?_; (first | (refine y_pure (d := 53) hX ⟨rfl, rfl⟩ rfl (p_add hX.st rfl rfl rfl (in_i64 (by omega) (by omega))) ?_; clear hX; intro a w hX) | (refine y_pure (d := 53) hX ⟨rfl, rfl⟩ rfl (p_add hX.st rfl rfl rfl rfl) ?_; clear hX; intro a w hX))
          refine xl_cons ?_; ((refine y_pure (d := 54) hX ⟨rfl, rfl⟩ rfl (p_move hX.st rfl rfl) ?_; clear hX; intro a w hX))
          refine xl_cons ?_; ((refine y_pure (d := 55) hX ⟨rfl, rfl⟩ rfl (p_len hX.st rfl tab_ok rfl rfl rfl) ?_; clear hX; intro a w hX))
          refine xl_cons ?_; ((refine y_pure (d := 56) hX ⟨rfl, rfl⟩ rfl (p_lss hX.st rfl rfl rfl) ?_; clear hX; intro a w hX))
          refine x_end ?_
          refine q_then ?_
          refine c_cond hX rfl (fun hc => ?_) (fun hc => ?_)
          ·
            try (first | cases hc | exact (contra_tf hc (by with_reducible assumption)).elim | exact (contra_tf (by with_reducible assumption) hc).elim | exact absurd hc (by decide))
            all_goals
              refine c_skip ?_
              refine q_then ?_
              refine wpIn_seq ?_
              refine c_block ?_
              refine wpIn_seq ?_
              refine wpIn_seq ?_
              have hilt : i < 8 * l.length := by have h5 := hc; simp only [decide_eq_true_eq] at h5; omega
              have hdl := divN_length Y i
              refine c_region ?_
              refine xl_cons ?_; ((refine y_pure (d := 59) hX ⟨rfl, rfl⟩ rfl (p_move hX.st rfl rfl) ?_; clear hX; intro a w hX))
              refine xl_cons ?_; ((refine y_pure (d := 60) hX ⟨rfl, rfl⟩ rfl (p_move hX.st rfl rfl) ?_; clear hX; intro a w hX))
              refine xl_cons ?_; (first | (refine y_pure (d := 61) hX ⟨rfl, rfl⟩ rfl (p_index0 hX.st rfl tab_ok rfl rfl rfl rfl rfl rfl (by first | rfl | omega) (by first | decide | omega)) ?_; clear hX; intro a w hX) | (refine y_pure (d := 61) hX ⟨rfl, rfl⟩ rfl (p_index1 hX.st rfl tab_ok rfl rfl rfl rfl rfl rfl (by first | rfl | omega) (by first | decide | omega)) ?_; clear hX; intro a w hX))
              refine xl_cons ?_; (refine y_read (d := 62) hX ⟨rfl, rfl⟩ rfl (v_load_row hX.st rfl tab_ok rfl rfl rfl foc0 (bv_get _ _ (by omega))) ?_; clear hX; intro a w hX)
              refine xl_cons ?_; ((refine y_pure (d := 63) hX ⟨rfl, rfl⟩ rfl (p_eql hX.st rfl rfl rfl) ?_; clear hX; intro a w hX))
              refine x_end ?_
              refine q_then ?_
              refine c_cond hX rfl (fun hc => ?_) (fun hc => ?_)
              ·
                try (first | cases hc | exact (contra_tf hc (by with_reducible assumption)).elim | exact (contra_tf (by with_reducible assumption) hc).elim | exact absurd hc (by decide))
                all_goals
                  refine c_exit ?_
                  refine q_then_exit ?_
                  refine q_block_exit ?_
                  refine q_then ?_
                  refine c_region ?_
                  refine xl_cons ?_; ((refine y_pure (d := 57) hX ⟨rfl, rfl⟩ rfl (p_move hX.st rfl rfl) ?_; clear hX; intro a w hX))
                  refine xl_cons ?_; (first | (refine y_pure (d := 58) hX ⟨rfl, rfl⟩ rfl (p_add hX.st rfl rfl rfl (in_i64 (by omega) (by omega))) ?_; clear hX; intro a w hX) | (refine y_pure (d := 58) hX ⟨rfl, rfl⟩ rfl (p_add hX.st rfl rfl rfl rfl) ?_; clear hX; intro a w hX))
                  refine xl_cons ?_; ((refine y_pure (d := 9) hX ⟨rfl, rfl⟩ rfl (p_assign hX.st rfl rfl) ?_; clear hX; intro a w hX))
                  refine x_end ?_
                  refine q_then ?_
                  first
                  | (have hb0 : (divN Y i).getD i false = false := by (have h5 := hc; revert h5; generalize (divN Y i).getD i false = z; cases z <;> simp)
                     exact ⟨i + 1, by omega, by omega, hX.to (Sub.cons rfl (Sub.cons rfl (Sub.cons (look_int rfl (by omega)) (by repeat (first | exact Sub.nil | refine Sub.cons rfl ?_))))) (Sel.consE tk0 (row_eq rfl (by rw [divN, if_neg (by rw [hb0]; simp)])) (Sel.refl _))⟩)
                  | (have hk17 : k = 17 := by (have h5 := hc; simp only [decide_eq_false_iff_not] at h5; omega)
                     subst hk17
                     exact ⟨i + 1, by omega, by omega, hX.to (Sub.cons rfl (Sub.cons rfl (Sub.cons (look_int rfl (by omega)) (by repeat (first | exact Sub.nil | refine Sub.cons rfl ?_))))) (Sel.consE tk0 (row_eq rfl (by rw [divN, if_pos hb1])) (Sel.refl _))⟩)
              ·
                try (first | cases hc | exact (contra_tf hc (by with_reducible assumption)).elim | exact (contra_tf (by with_reducible assumption) hc).elim | exact absurd hc (by decide))
                all_goals
                  refine c_skip ?_
                  refine q_then ?_
                  refine wpIn_seq ?_
                  refine c_region ?_
                  refine xl_cons ?_; ((refine y_pure (d := 10) hX ⟨rfl, rfl⟩ rfl (p_assign hX.st rfl rfl) ?_; clear hX; intro a w hX))
                  refine x_end ?_
                  refine q_then ?_
                  refine c_block ?_
                  have hb1 : (divN Y i).getD i false = true := by have h5 := hc; revert h5; generalize (divN Y i).getD i false = z; cases z <;> simp
                  refine c_loopX (α := Nat) (fun k => [(3, .slice (some ⟨g, 0, none⟩) (8 * (l.length + 2)) c3), (8, .slice (some ⟨gd, 0, none⟩) 17 17), (9, .int .i64 (i : Nat)), (10, .int .i64 (k : Nat))]) (fun k => [.row (some ⟨g, 0, none⟩) c3 3 1 (8 * (l.length + 2)) ((xorAt (divN Y i) i k).map bv), .cel gd (dvs.map bv) 3]) (fun k => k ≤ 17) (fun k => 17 - k) 0 (Nat.zero_le _) (hX.to (by repeat (first | exact Sub.nil | refine Sub.cons rfl ?_)) (Sel.refl _)) ?_
                  clear hX hc
                  intro k a w hk hX
                  refine wpIn_seq ?_
                  refine wpIn_seq ?_
                  refine c_region ?_
                  refine xl_cons ?_; ((refine y_pure (d := 64) hX ⟨rfl, rfl⟩ rfl (p_move hX.st rfl rfl) ?_; clear hX; intro a w hX))
                  refine xl_cons ?_; ((refine y_pure (d := 65) hX ⟨rfl, rfl⟩ rfl (p_lss hX.st rfl rfl rfl) ?_; clear hX; intro a w hX))
                  refine x_end ?_
                  refine q_then ?_
                  refine c_cond hX rfl (fun hc => ?_) (fun hc => ?_)
                  ·
                    try (first | cases hc | exact (contra_tf hc (by with_reducible assumption)).elim | exact (contra_tf (by with_reducible assumption) hc).elim | exact absurd hc (by decide))
                    all_goals
                      refine c_skip ?_
                      refine q_then ?_
                      refine wpIn_seq ?_
                      refine c_block ?_
                      have hk17 : k < 17 := by have h5 := hc; simp only [decide_eq_true_eq] at h5; omega
                      have hxl := xorAt_length (divN Y i) i k
                      refine c_nopanic ?_
                      refine d_begin (H' := []) hX (by kernel_rfl) rfl (by with_reducible (repeat (first | exact Sel.refl _ | exact Sel.nil | refine Sel.cons tk0 ?_ | refine Sel.cons tk1 ?_ | refine Sel.cons tk2 ?_ | refine Sel.cons tk3 ?_ | refine Sel.cons tk4 ?_ | refine Sel.cons tk5 ?_ | refine Sel.cons tk6 ?_ | refine Sel.cons tk7 ?_ | refine Sel.cons tk8 ?_ | refine Sel.cons tk9 ?_ | refine Sel.cons tk10 ?_ | refine Sel.cons tk11 ?_ | refine Sel.cons tk12 ?_))) ?_
                      clear hX; intro w hX
                      ((refine d_take (i := 0) (fuel := 12) (d := 68) (listed' := #[true, false, false, false, false, false, false, false, false, false, false, false, false]) hX rfl (by kernel_rfl) (by kernel_rfl) (by kernel_rfl) (fun _ _ _ h => (by cases h.1)) ⟨rfl, rfl⟩ rfl rfl (by with_reducible (repeat (first | exact Sel.refl _ | exact Sel.nil | refine Sel.cons tk0 ?_ | refine Sel.cons tk1 ?_ | refine Sel.cons tk2 ?_ | refine Sel.cons tk3 ?_ | refine Sel.cons tk4 ?_ | refine Sel.cons tk5 ?_ | refine Sel.cons tk6 ?_ | refine Sel.cons tk7 ?_ | refine Sel.cons tk8 ?_ | refine Sel.cons tk9 ?_ | refine Sel.cons tk10 ?_ | refine Sel.cons tk11 ?_ | refine Sel.cons tk12 ?_))) (fun w _ => (p_move hX.st rfl rfl) w) ?_; clear hX; intro a hX))
                      ((refine d_take (i := 1) (fuel := 11) (d := 69) (listed' := #[true, true, false, false, false, false, false, false, false, false, false, false, false]) hX rfl (by kernel_rfl) (by kernel_rfl) (by kernel_rfl) (fun _ _ _ h => (by cases h.1)) ⟨rfl, rfl⟩ rfl rfl (by with_reducible (repeat (first | exact Sel.refl _ | exact Sel.nil | refine Sel.cons tk0 ?_ | refine Sel.cons tk1 ?_ | refine Sel.cons tk2 ?_ | refine Sel.cons tk3 ?_ | refine Sel.cons tk4 ?_ | refine Sel.cons tk5 ?_ | refine Sel.cons tk6 ?_ | refine Sel.cons tk7 ?_ | refine Sel.cons tk8 ?_ | refine Sel.cons tk9 ?_ | refine Sel.cons tk10 ?_ | refine Sel.cons tk11 ?_ | refine Sel.cons tk12 ?_))) (fun w _ => (p_move hX.st rfl rfl) w) ?_; clear hX; intro a hX))
                      ((refine d_take (i := 2) (fuel := 10) (d := 70) (listed' := #[true, true, true, false, false, false, false, false, false, false, false, false, false]) hX rfl (by kernel_rfl) (by kernel_rfl) (by kernel_rfl) (fun _ _ _ h => (by cases h.1)) ⟨rfl, rfl⟩ rfl rfl (by with_reducible (repeat (first | exact Sel.refl _ | exact Sel.nil | refine Sel.cons tk0 ?_ | refine Sel.cons tk1 ?_ | refine Sel.cons tk2 ?_ | refine Sel.cons tk3 ?_ | refine Sel.cons tk4 ?_ | refine Sel.cons tk5 ?_ | refine Sel.cons tk6 ?_ | refine Sel.cons tk7 ?_ | refine Sel.cons tk8 ?_ | refine Sel.cons tk9 ?_ | refine Sel.cons tk10 ?_ | refine Sel.cons tk11 ?_ | refine Sel.cons tk12 ?_))) (fun w _ => (p_move hX.st rfl rfl) w) ?_; clear hX; intro a hX))
                      (first | (refine d_take (i := 3) (fuel := 9) (d := 71) (listed' := #[true, true, true, true, false, false, false, false, false, false, false, false, false]) hX rfl (by kernel_rfl) (by kernel_rfl) (by kernel_rfl) (fun _ _ _ h => (by cases h.1)) ⟨rfl, rfl⟩ rfl rfl (by with_reducible (repeat (first | exact Sel.refl _ | exact Sel.nil | refine Sel.cons tk0 ?_ | refine Sel.cons tk1 ?_ | refine Sel.cons tk2 ?_ | refine Sel.cons tk3 ?_ | refine Sel.cons tk4 ?_ | refine Sel.cons tk5 ?_ | refine Sel.cons tk6 ?_ | refine Sel.cons tk7 ?_ | refine Sel.cons tk8 ?_ | refine Sel.cons tk9 ?_ | refine Sel.cons tk10 ?_ | refine Sel.cons tk11 ?_ | refine Sel.cons tk12 ?_))) (fun w _ => (p_add hX.st rfl rfl rfl (in_i64 (by omega) (by omega))) w) ?_; clear hX; intro a hX) | (refine d_take (i := 3) (fuel := 9) (d := 71) (listed' := #[true, true, true, true, false, false, false, false, false, false, false, false, false]) hX rfl (by kernel_rfl) (by kernel_rfl) (by kernel_rfl) (fun _ _ _ h => (by cases h.1)) ⟨rfl, rfl⟩ rfl rfl (by with_reducible (repeat (first | exact Sel.refl _ | exact Sel.nil | refine Sel.cons tk0 ?_ | refine Sel.cons tk1 ?_ | refine Sel.cons tk2 ?_ | refine Sel.cons tk3 ?_ | refine Sel.cons tk4 ?_ | refine Sel.cons tk5 ?_ | refine Sel.cons tk6 ?_ | refine Sel.cons tk7 ?_ | refine Sel.cons tk8 ?_ | refine Sel.cons tk9 ?_ | refine Sel.cons tk10 ?_ | refine Sel.cons tk11 ?_ | refine Sel.cons tk12 ?_))) (fun w _ => (p_add hX.st rfl rfl rfl rfl) w) ?_; clear hX; intro a hX))
                      ((refine d_take (i := 4) (fuel := 8) (d := 72) (listed' := #[true, true, true, true, true, false, false, false, false, false, false, false, false]) hX rfl (by kernel_rfl) (by kernel_rfl) (by kernel_rfl) (fun _ _ _ h => (by cases h.1)) ⟨rfl, rfl⟩ rfl rfl (by with_reducible (repeat (first | exact Sel.refl _ | exact Sel.nil | refine Sel.cons tk0 ?_ | refine Sel.cons tk1 ?_ | refine Sel.cons tk2 ?_ | refine Sel.cons tk3 ?_ | refine Sel.cons tk4 ?_ | refine Sel.cons tk5 ?_ | refine Sel.cons tk6 ?_ | refine Sel.cons tk7 ?_ | refine Sel.cons tk8 ?_ | refine Sel.cons tk9 ?_ | refine Sel.cons tk10 ?_ | refine Sel.cons tk11 ?_ | refine Sel.cons tk12 ?_))) (fun w _ => (p_index0 (j := i + k) hX.st rfl tab_ok rfl rfl rfl rfl rfl rfl (by omega) (by omega)) w) ?_; clear hX; intro a hX))
                      ((refine d_take (i := 6) (fuel := 7) (d := 74) (listed' := #[true, true, true, true, true, false, true, false, false, false, false, false, false]) hX rfl (by kernel_rfl) (by kernel_rfl) (by kernel_rfl) (fun _ _ _ h => (by cases h.1)) ⟨rfl, rfl⟩ rfl rfl (by with_reducible (repeat (first | exact Sel.refl _ | exact Sel.nil | refine Sel.cons tk0 ?_ | refine Sel.cons tk1 ?_ | refine Sel.cons tk2 ?_ | refine Sel.cons tk3 ?_ | refine Sel.cons tk4 ?_ | refine Sel.cons tk5 ?_ | refine Sel.cons tk6 ?_ | refine Sel.cons tk7 ?_ | refine Sel.cons tk8 ?_ | refine Sel.cons tk9 ?_ | refine Sel.cons tk10 ?_ | refine Sel.cons tk11 ?_ | refine Sel.cons tk12 ?_))) (fun w _ => (p_move hX.st rfl rfl) w) ?_; clear hX; intro a hX))
                      ((refine d_take (i := 7) (fuel := 6) (d := 75) (listed' := #[true, true, true, true, true, false, true, true, false, false, false, false, false]) hX rfl (by kernel_rfl) (by kernel_rfl) (by kernel_rfl) (fun _ _ _ h => (by cases h.1)) ⟨rfl, rfl⟩ rfl rfl (by with_reducible (repeat (first | exact Sel.refl _ | exact Sel.nil | refine Sel.cons tk0 ?_ | refine Sel.cons tk1 ?_ | refine Sel.cons tk2 ?_ | refine Sel.cons tk3 ?_ | refine Sel.cons tk4 ?_ | refine Sel.cons tk5 ?_ | refine Sel.cons tk6 ?_ | refine Sel.cons tk7 ?_ | refine Sel.cons tk8 ?_ | refine Sel.cons tk9 ?_ | refine Sel.cons tk10 ?_ | refine Sel.cons tk11 ?_ | refine Sel.cons tk12 ?_))) (fun w _ => (p_move hX.st rfl rfl) w) ?_; clear hX; intro a hX))
                      (first | (refine d_take (i := 8) (fuel := 5) (d := 76) (listed' := #[true, true, true, true, true, false, true, true, true, false, false, false, false]) hX rfl (by kernel_rfl) (by kernel_rfl) (by kernel_rfl) (fun _ _ _ h => (by cases h.1)) ⟨rfl, rfl⟩ rfl rfl (by with_reducible (repeat (first | exact Sel.refl _ | exact Sel.nil | refine Sel.cons tk0 ?_ | refine Sel.cons tk1 ?_ | refine Sel.cons tk2 ?_ | refine Sel.cons tk3 ?_ | refine Sel.cons tk4 ?_ | refine Sel.cons tk5 ?_ | refine Sel.cons tk6 ?_ | refine Sel.cons tk7 ?_ | refine Sel.cons tk8 ?_ | refine Sel.cons tk9 ?_ | refine Sel.cons tk10 ?_ | refine Sel.cons tk11 ?_ | refine Sel.cons tk12 ?_))) (fun w _ => (p_index0 hX.st rfl tab_ok rfl rfl rfl rfl rfl rfl (by first | rfl | omega) (by first | decide | omega)) w) ?_; clear hX; intro a hX) | (refine d_take (i := 8) (fuel := 5) (d := 76) (listed' := #[true, true, true, true, true, false, true, true, true, false, false, false, false]) hX rfl (by kernel_rfl) (by kernel_rfl) (by kernel_rfl) (fun _ _ _ h => (by cases h.1)) ⟨rfl, rfl⟩ rfl rfl (by with_reducible (repeat (first | exact Sel.refl _ | exact Sel.nil | refine Sel.cons tk0 ?_ | refine Sel.cons tk1 ?_ | refine Sel.cons tk2 ?_ | refine Sel.cons tk3 ?_ | refine Sel.cons tk4 ?_ | refine Sel.cons tk5 ?_ | refine Sel.cons tk6 ?_ | refine Sel.cons tk7 ?_ | refine Sel.cons tk8 ?_ | refine Sel.cons tk9 ?_ | refine Sel.cons tk10 ?_ | refine Sel.cons tk11 ?_ | refine Sel.cons tk12 ?_))) (fun w _ => (p_index1 hX.st rfl tab_ok rfl rfl rfl rfl rfl rfl (by first | rfl | omega) (by first | decide | omega)) w) ?_; clear hX; intro a hX))
                      refine d_ready (fuel := 4) (by kernel_rfl) (d_cons (i := 5) (listed' := #[true, true, true, true, true, true, true, true, true, false, false, false, false]) rfl rfl ?_ (d_cons (i := 9) (listed' := #[true, true, true, true, true, false, true, true, true, true, false, false, false]) rfl rfl ?_ d_nil))
                      ·
                        (refine y_read (d := 73) hX ⟨rfl, rfl⟩ rfl (v_load_row hX.st rfl tab_ok rfl rfl rfl foc0 (bv_get _ _ (by omega))) ?_; clear hX; intro a w hX)
                        refine ⟨hX.sh.sel (by with_reducible (repeat (first | exact Sel.refl _ | exact Sel.nil | refine Sel.cons tk0 ?_ | refine Sel.cons tk1 ?_ | refine Sel.cons tk2 ?_ | refine Sel.cons tk3 ?_ | refine Sel.cons tk4 ?_ | refine Sel.cons tk5 ?_ | refine Sel.cons tk6 ?_ | refine Sel.cons tk7 ?_ | refine Sel.cons tk8 ?_ | refine Sel.cons tk9 ?_ | refine Sel.cons tk10 ?_ | refine Sel.cons tk11 ?_ | refine Sel.cons tk12 ?_))), ?_⟩
                        refine d_ready (fuel := 3) (by kernel_rfl) (d_cons (i := 9) (listed' := #[true, true, true, true, true, true, true, true, true, true, false, false, false]) rfl rfl ?_ d_nil)
                        (refine y_read (d := 77) hX ⟨rfl, rfl⟩ rfl (v_load hX.st rfl tab_ok rfl rfl rfl foc1 (bv_get _ _ (by show k < 17; omega))) ?_; clear hX; intro a w hX)
                        refine ⟨hX.sh.sel (by with_reducible (repeat (first | exact Sel.refl _ | exact Sel.nil | refine Sel.cons tk0 ?_ | refine Sel.cons tk1 ?_ | refine Sel.cons tk2 ?_ | refine Sel.cons tk3 ?_ | refine Sel.cons tk4 ?_ | refine Sel.cons tk5 ?_ | refine Sel.cons tk6 ?_ | refine Sel.cons tk7 ?_ | refine Sel.cons tk8 ?_ | refine Sel.cons tk9 ?_ | refine Sel.cons tk10 ?_ | refine Sel.cons tk11 ?_ | refine Sel.cons tk12 ?_))), ?_⟩
                        ((refine d_take (i := 10) (fuel := 2) (d := 78) (listed' := #[true, true, true, true, true, true, true, true, true, true, true, false, false]) hX rfl (by kernel_rfl) (by kernel_rfl) (by kernel_rfl) (fun _ _ _ h => (by cases h.1)) ⟨rfl, rfl⟩ rfl rfl (by with_reducible (repeat (first | exact Sel.refl _ | exact Sel.nil | refine Sel.cons tk0 ?_ | refine Sel.cons tk1 ?_ | refine Sel.cons tk2 ?_ | refine Sel.cons tk3 ?_ | refine Sel.cons tk4 ?_ | refine Sel.cons tk5 ?_ | refine Sel.cons tk6 ?_ | refine Sel.cons tk7 ?_ | refine Sel.cons tk8 ?_ | refine Sel.cons tk9 ?_ | refine Sel.cons tk10 ?_ | refine Sel.cons tk11 ?_ | refine Sel.cons tk12 ?_))) (fun w _ => (p_xor hX.st rfl rfl rfl (xor_bits _ _)) w) ?_; clear hX; intro a hX))
                        ((refine d_take (i := 11) (fuel := 1) (d := 79) (listed' := #[true, true, true, true, true, true, true, true, true, true, true, true, false]) hX rfl (by kernel_rfl) (by kernel_rfl) (by kernel_rfl) (fun _ _ _ h => (by cases h.1)) ⟨rfl, rfl⟩ rfl rfl (by with_reducible (repeat (first | exact Sel.refl _ | exact Sel.nil | refine Sel.cons tk0 ?_ | refine Sel.cons tk1 ?_ | refine Sel.cons tk2 ?_ | refine Sel.cons tk3 ?_ | refine Sel.cons tk4 ?_ | refine Sel.cons tk5 ?_ | refine Sel.cons tk6 ?_ | refine Sel.cons tk7 ?_ | refine Sel.cons tk8 ?_ | refine Sel.cons tk9 ?_ | refine Sel.cons tk10 ?_ | refine Sel.cons tk11 ?_ | refine Sel.cons tk12 ?_))) (fun w _ => (p_index0 (j := i + k) hX.st rfl tab_ok rfl rfl rfl rfl rfl rfl (by omega) (by omega)) w) ?_; clear hX; intro a hX))
                        refine d_ready (fuel := 0) (by kernel_rfl) (d_cons (i := 12) (listed' := #[true, true, true, true, true, true, true, true, true, true, true, true, true]) rfl rfl ?_ d_nil)
                        (refine y_store_row hX rfl ⟨rfl, rfl⟩ tab_ok rfl rfl rfl rfl rfl foc0 (by omega) ?_; clear hX; intro a w hX)
                        refine ⟨hX.sh.sel (by with_reducible (repeat (first | exact Sel.refl _ | exact Sel.nil | refine Sel.cons tk0 ?_ | refine Sel.cons tk1 ?_ | refine Sel.cons tk2 ?_ | refine Sel.cons tk3 ?_ | refine Sel.cons tk4 ?_ | refine Sel.cons tk5 ?_ | refine Sel.cons tk6 ?_ | refine Sel.cons tk7 ?_ | refine Sel.cons tk8 ?_ | refine Sel.cons tk9 ?_ | refine Sel.cons tk10 ?_ | refine Sel.cons tk11 ?_ | refine Sel.cons tk12 ?_))), ?_⟩
                        refine d_done (by kernel_rfl) ?_
                        refine ⟨rfl, ?_⟩
                        refine q_block ?_
                        refine q_then ?_
                        refine c_region ?_
                        refine xl_cons ?_; ((refine y_pure (d := 66) hX ⟨rfl, rfl⟩ rfl (p_move hX.st rfl rfl) ?_; clear hX; intro a w hX))
                        refine xl_cons ?_; (first | (refine y_pure (d := 67) hX ⟨rfl, rfl⟩ rfl (p_add hX.st rfl rfl rfl (in_i64 (by omega) (by omega))) ?_; clear hX; intro a w hX) | (refine y_pure (d := 67) hX ⟨rfl, rfl⟩ rfl (p_add hX.st rfl rfl rfl rfl) ?_; clear hX; intro a w hX))
                        refine xl_cons ?_; ((refine y_pure (d := 10) hX ⟨rfl, rfl⟩ rfl (p_assign hX.st rfl rfl) ?_; clear hX; intro a w hX))
                        refine x_end ?_
                        refine q_then ?_
                        exact ⟨k + 1, by omega, by omega, hX.to (Sub.cons rfl (Sub.cons rfl (Sub.cons rfl (Sub.cons (look_int rfl (by omega)) (by repeat (first | exact Sub.nil | refine Sub.cons rfl ?_)))))) (Sel.consE tk0 (row_eq rfl (bv_set _ _ _ _ rfl)) (Sel.refl _))⟩
                      ·
                        (refine y_read (d := 77) hX ⟨rfl, rfl⟩ rfl (v_load hX.st rfl tab_ok rfl rfl rfl foc1 (bv_get _ _ (by show k < 17; omega))) ?_; clear hX; intro a w hX)
                        refine ⟨hX.sh.sel (by with_reducible (repeat (first | exact Sel.refl _ | exact Sel.nil | refine Sel.cons tk0 ?_ | refine Sel.cons tk1 ?_ | refine Sel.cons tk2 ?_ | refine Sel.cons tk3 ?_ | refine Sel.cons tk4 ?_ | refine Sel.cons tk5 ?_ | refine Sel.cons tk6 ?_ | refine Sel.cons tk7 ?_ | refine Sel.cons tk8 ?_ | refine Sel.cons tk9 ?_ | refine Sel.cons tk10 ?_ | refine Sel.cons tk11 ?_ | refine Sel.cons tk12 ?_))), ?_⟩
                        refine d_ready (fuel := 3) (by kernel_rfl) (d_cons (i := 5) (listed' := #[true, true, true, true, true, true, true, true, true, true, false, false, false]) rfl rfl ?_ d_nil)
                        (refine y_read (d := 73) hX ⟨rfl, rfl⟩ rfl (v_load_row hX.st rfl tab_ok rfl rfl rfl foc0 (bv_get _ _ (by omega))) ?_; clear hX; intro a w hX)
                        refine ⟨hX.sh.sel (by with_reducible (repeat (first | exact Sel.refl _ | exact Sel.nil | refine Sel.cons tk0 ?_ | refine Sel.cons tk1 ?_ | refine Sel.cons tk2 ?_ | refine Sel.cons tk3 ?_ | refine Sel.cons tk4 ?_ | refine Sel.cons tk5 ?_ | refine Sel.cons tk6 ?_ | refine Sel.cons tk7 ?_ | refine Sel.cons tk8 ?_ | refine Sel.cons tk9 ?_ | refine Sel.cons tk10 ?_ | refine Sel.cons tk11 ?_ | refine Sel.cons tk12 ?_))), ?_⟩
                        ((refine d_take (i := 10) (fuel := 2) (d := 78) (listed' := #[true, true, true, true, true, true, true, true, true, true, true, false, false]) hX rfl (by kernel_rfl) (by kernel_rfl) (by kernel_rfl) (fun _ _ _ h => (by cases h.1)) ⟨rfl, rfl⟩ rfl rfl (by with_reducible (repeat (first | exact Sel.refl _ | exact Sel.nil | refine Sel.cons tk0 ?_ | refine Sel.cons tk1 ?_ | refine Sel.cons tk2 ?_ | refine Sel.cons tk3 ?_ | refine Sel.cons tk4 ?_ | refine Sel.cons tk5 ?_ | refine Sel.cons tk6 ?_ | refine Sel.cons tk7 ?_ | refine Sel.cons tk8 ?_ | refine Sel.cons tk9 ?_ | refine Sel.cons tk10 ?_ | refine Sel.cons tk11 ?_ | refine Sel.cons tk12 ?_))) (fun w _ => (p_xor hX.st rfl rfl rfl (xor_bits _ _)) w) ?_; clear hX; intro a hX))
                        ((refine d_take (i := 11) (fuel := 1) (d := 79) (listed' := #[true, true, true, true, true, true, true, true, true, true, true, true, false]) hX rfl (by kernel_rfl) (by kernel_rfl) (by kernel_rfl) (fun _ _ _ h => (by cases h.1)) ⟨rfl, rfl⟩ rfl rfl (by with_reducible (repeat (first | exact Sel.refl _ | exact Sel.nil | refine Sel.cons tk0 ?_ | refine Sel.cons tk1 ?_ | refine Sel.cons tk2 ?_ | refine Sel.cons tk3 ?_ | refine Sel.cons tk4 ?_ | refine Sel.cons tk5 ?_ | refine Sel.cons tk6 ?_ | refine Sel.cons tk7 ?_ | refine Sel.cons tk8 ?_ | refine Sel.cons tk9 ?_ | refine Sel.cons tk10 ?_ | refine Sel.cons tk11 ?_ | refine Sel.cons tk12 ?_))) (fun w _ => (p_index0 (j := i + k) hX.st rfl tab_ok rfl rfl rfl rfl rfl rfl (by omega) (by omega)) w) ?_; clear hX; intro a hX))
                        refine d_ready (fuel := 0) (by kernel_rfl) (d_cons (i := 12) (listed' := #[true, true, true, true, true, true, true, true, true, true, true, true, true]) rfl rfl ?_ d_nil)
                        (refine y_store_row hX rfl ⟨rfl, rfl⟩ tab_ok rfl rfl rfl rfl rfl foc0 (by omega) ?_; clear hX; intro a w hX)
                        refine ⟨hX.sh.sel (by with_reducible (repeat (first | exact Sel.refl _ | exact Sel.nil | refine Sel.cons tk0 ?_ | refine Sel.cons tk1 ?_ | refine Sel.cons tk2 ?_ | refine Sel.cons tk3 ?_ | refine Sel.cons tk4 ?_ | refine Sel.cons tk5 ?_ | refine Sel.cons tk6 ?_ | refine Sel.cons tk7 ?_ | refine Sel.cons tk8 ?_ | refine Sel.cons tk9 ?_ | refine Sel.cons tk10 ?_ | refine Sel.cons tk11 ?_ | refine Sel.cons tk12 ?_))), ?_⟩
                        refine d_done (by kernel_rfl) ?_
                        refine ⟨rfl, ?_⟩
                        refine q_block ?_
                        refine q_then ?_
                        refine c_region ?_
                        refine xl_cons ?_; ((refine y_pure (d := 66) hX ⟨rfl, rfl⟩ rfl (p_move hX.st rfl rfl) ?_; clear hX; intro a w hX))
                        refine xl_cons ?_; (first | (refine y_pure (d := 67) hX ⟨rfl, rfl⟩ rfl (p_add hX.st rfl rfl rfl (in_i64 (by omega) (by omega))) ?_; clear hX; intro a w hX) | (refine y_pure (d := 67) hX ⟨rfl, rfl⟩ rfl (p_add hX.st rfl rfl rfl rfl) ?_; clear hX; intro a w hX))
                        refine xl_cons ?_; ((refine y_pure (d := 10) hX ⟨rfl, rfl⟩ rfl (p_assign hX.st rfl rfl) ?_; clear hX; intro a w hX))
                        refine x_end ?_
                        refine q_then ?_
                        exact ⟨k + 1, by omega, by omega, hX.to (Sub.cons rfl (Sub.cons rfl (Sub.cons rfl (Sub.cons (look_int rfl (by omega)) (by repeat (first | exact Sub.nil | refine Sub.cons rfl ?_)))))) (Sel.consE tk0 (row_eq rfl (bv_set _ _ _ _ rfl)) (Sel.refl _))⟩
                  ·
                    try (first | cases hc | exact (contra_tf hc (by with_reducible assumption)).elim | exact (contra_tf (by with_reducible assumption) hc).elim | exact absurd hc (by decide))
                    all_goals
                      refine c_exit ?_
                      refine q_then_exit ?_
                      refine q_then_exit ?_
                      refine q_block_exit ?_
                      refine q_block ?_
                      refine q_then ?_
                      refine c_region ?_
                      refine xl_cons ?_; ((refine y_pure (d := 57) hX ⟨rfl, rfl⟩ rfl (p_move hX.st rfl rfl) ?_; clear hX; intro a w hX))
                      refine xl_cons ?_; (first | (refine y_pure (d := 58) hX ⟨rfl, rfl⟩ rfl (p_add hX.st rfl rfl rfl (in_i64 (by omega) (by omega))) ?_; clear hX; intro a w hX) | (refine y_pure (d := 58) hX ⟨rfl, rfl⟩ rfl (p_add hX.st rfl rfl rfl rfl) ?_; clear hX; intro a w hX))
                      refine xl_cons ?_; ((refine y_pure (d := 9) hX ⟨rfl, rfl⟩ rfl (p_assign hX.st rfl rfl) ?_; clear hX; intro a w hX))
                      refine x_end ?_
                      refine q_then ?_
                      first
                      | (have hb0 : (divN Y i).getD i false = false := by (have h5 := hc; revert h5; generalize (divN Y i).getD i false = z; cases z <;> simp)
                         exact ⟨i + 1, by omega, by omega, hX.to (Sub.cons rfl (Sub.cons rfl (Sub.cons (look_int rfl (by omega)) (by repeat (first | exact Sub.nil | refine Sub.cons rfl ?_))))) (Sel.consE tk0 (row_eq rfl (by rw [divN, if_neg (by rw [hb0]; simp)])) (Sel.refl _))⟩)
                      | (have hk17 : k = 17 := by (have h5 := hc; simp only [decide_eq_false_iff_not] at h5; omega)
                         subst hk17
                         exact ⟨i + 1, by omega, by omega, hX.to (Sub.cons rfl (Sub.cons rfl (Sub.cons (look_int rfl (by omega)) (by repeat (first | exact Sub.nil | refine Sub.cons rfl ?_))))) (Sel.consE tk0 (row_eq rfl (by rw [divN, if_pos hb1])) (Sel.refl _))⟩)
          ·
            try (first | cases hc | exact (contra_tf hc (by with_reducible assumption)).elim | exact (contra_tf (by with_reducible assumption) hc).elim | exact absurd hc (by decide))
            all_goals
              refine c_exit ?_
              refine q_then_exit ?_
              refine q_then_exit ?_
              refine q_block_exit ?_
              refine q_then ?_
              refine wpIn_seq ?_
              refine c_region ?_
              refine xl_cons ?_; ((refine y_pure (d := 11) hX ⟨rfl, rfl⟩ rfl (p_assign hX.st rfl rfl) ?_; clear hX; intro a w hX))
              refine x_end ?_
              refine q_then ?_
              refine wpIn_seq ?_
              refine wpIn_seq ?_
              refine c_region ?_
              refine xl_cons ?_; ((refine y_pure (d := 80) hX ⟨rfl, rfl⟩ rfl (p_move hX.st rfl rfl) ?_; clear hX; intro a w hX))
              refine xl_cons ?_; ((refine y_pure (d := 81) hX ⟨rfl, rfl⟩ rfl (p_len hX.st rfl tab_ok rfl rfl rfl) ?_; clear hX; intro a w hX))
              refine xl_cons ?_; (first | (refine y_pure (d := 82) hX ⟨rfl, rfl⟩ rfl (p_sub hX.st rfl rfl rfl (in_i64 (by omega) (by omega))) ?_; clear hX; intro a w hX) | (refine y_pure (d := 82) hX ⟨rfl, rfl⟩ rfl (p_sub hX.st rfl rfl rfl rfl) ?_; clear hX; intro a w hX))
              refine xl_cons ?_; ((refine y_pure (d := 12) hX ⟨rfl, rfl⟩ rfl (p_assign hX.st rfl rfl) ?_; clear hX; intro a w hX))
              refine x_end ?_
              refine q_then ?_
              refine c_block ?_
              have hie : i = 8 * l.length := by have h5 := hc; simp only [decide_eq_false_iff_not] at h5; omega
              subst hie
              have hdl := divN_length Y (8 * l.length)
              refine c_loopX (α := Nat) (fun q => [(3, .slice (some ⟨g, 0, none⟩) (8 * (l.length + 2)) c3), (11, .int .i64 (valN (divN Y (8 * l.length)) (8 * l.length) q)), (12, .int .i64 ((8 * l.length + q : Nat) : Int))]) (fun _ => [.row (some ⟨g, 0, none⟩) c3 3 1 (8 * (l.length + 2)) ((divN Y (8 * l.length)).map bv)]) (fun q => q ≤ 16) (fun q => 16 - q) 0 (Nat.zero_le _) (hX.to (Sub.cons rfl (Sub.cons rfl (Sub.cons (look_int rfl (by omega)) (by repeat (first | exact Sub.nil | refine Sub.cons rfl ?_))))) (Sel.cons tk0 Sel.nil)) ?_
              clear hX hc
              intro q a w hq hX
              have hvl : valN (divN Y (8 * l.length)) (8 * l.length) q < 65536 := Nat.lt_of_lt_of_le (valN_lt _ _ _) (Nat.pow_le_pow_right (n := 2) (by omega) hq)
              refine wpIn_seq ?_
              refine wpIn_seq ?_
              refine c_region ?_
              refine xl_cons ?_; ((refine y_pure (d := 83) hX ⟨rfl, rfl⟩ rfl (p_move hX.st rfl rfl) ?_; clear hX; intro a w hX))
              refine xl_cons ?_; ((refine y_pure (d := 84) hX ⟨rfl, rfl⟩ rfl (p_move hX.st rfl rfl) ?_; clear hX; intro a w hX))
              refine xl_cons ?_; ((refine y_pure (d := 85) hX ⟨rfl, rfl⟩ rfl (p_len hX.st rfl tab_ok rfl rfl rfl) ?_; clear hX; intro a w hX))
              refine xl_cons ?_; ((refine y_pure (d := 86) hX ⟨rfl, rfl⟩ rfl (p_lss hX.st rfl rfl rfl) ?_; clear hX; intro a w hX))
              refine x_end ?_
              refine q_then ?_
              refine c_cond hX rfl (fun hc => ?_) (fun hc => ?_)
              ·
                try (first | cases hc | exact (contra_tf hc (by with_reducible assumption)).elim | exact (contra_tf (by with_reducible assumption) hc).elim | exact absurd hc (by decide))
                all_goals
                  refine c_skip ?_
                  refine q_then ?_
                  refine wpIn_seq ?_
                  refine c_block ?_
                  have hq16 : q < 16 := by have h5 := hc; simp only [decide_eq_true_eq] at h5; omega
                  have hbt := Bool.toNat_le ((divN Y (8 * l.length)).getD (8 * l.length + q) false)
                  refine c_region ?_
                  refine xl_cons ?_; ((refine y_pure (d := 89) hX ⟨rfl, rfl⟩ rfl (p_move hX.st rfl rfl) ?_; clear hX; intro a w hX))
                  refine xl_cons ?_; (first | (refine y_pure (d := 90) hX ⟨rfl, rfl⟩ rfl (p_mul hX.st rfl rfl rfl (in_i64 (by omega) (by omega))) ?_; clear hX; intro a w hX) | (refine y_pure (d := 90) hX ⟨rfl, rfl⟩ rfl (p_mul hX.st rfl rfl rfl rfl) ?_; clear hX; intro a w hX))
                  refine xl_cons ?_; ((refine y_pure (d := 91) hX ⟨rfl, rfl⟩ rfl (p_move hX.st rfl rfl) ?_; clear hX; intro a w hX))
                  refine xl_cons ?_; ((refine y_pure (d := 92) hX ⟨rfl, rfl⟩ rfl (p_move hX.st rfl rfl) ?_; clear hX; intro a w hX))
                  refine xl_cons ?_; (first | (refine y_pure (d := 93) hX ⟨rfl, rfl⟩ rfl (p_index0 hX.st rfl tab_ok rfl rfl rfl rfl rfl rfl (by first | rfl | omega) (by first | decide | omega)) ?_; clear hX; intro a w hX) | (refine y_pure (d := 93) hX ⟨rfl, rfl⟩ rfl (p_index1 hX.st rfl tab_ok rfl rfl rfl rfl rfl rfl (by first | rfl | omega) (by first | decide | omega)) ?_; clear hX; intro a w hX))
                  refine xl_cons ?_; (refine y_read (d := 94) hX ⟨rfl, rfl⟩ rfl (v_load_row hX.st rfl tab_ok rfl rfl rfl foc0 (bv_get _ _ (by omega))) ?_; clear hX; intro a w hX)
                  refine xl_cons ?_; (first | (refine y_pure (d := 95) hX ⟨rfl, rfl⟩ rfl (p_add hX.st rfl rfl rfl (in_i64 (by omega) (by omega))) ?_; clear hX; intro a w hX) | (refine y_pure (d := 95) hX ⟨rfl, rfl⟩ rfl (p_add hX.st rfl rfl rfl rfl) ?_; clear hX; intro a w hX))
                  refine xl_cons ?_; ((refine y_pure (d := 11) hX ⟨rfl, rfl⟩ rfl (p_assign hX.st rfl rfl) ?_; clear hX; intro a w hX))
                  refine x_end ?_
                  refine q_block ?_
                  refine q_then ?_
                  refine c_region ?_
                  refine xl_cons ?_; ((refine y_pure (d := 87) hX ⟨rfl, rfl⟩ rfl (p_move hX.st rfl rfl) ?_; clear hX; intro a w hX))
                  refine xl_cons ?_; (first | (refine y_pure (d := 88) hX ⟨rfl, rfl⟩ rfl (p_add hX.st rfl rfl rfl (in_i64 (by omega) (by omega))) ?_; clear hX; intro a w hX) | (refine y_pure (d := 88) hX ⟨rfl, rfl⟩ rfl (p_add hX.st rfl rfl rfl rfl) ?_; clear hX; intro a w hX))
                  refine xl_cons ?_; ((refine y_pure (d := 12) hX ⟨rfl, rfl⟩ rfl (p_assign hX.st rfl rfl) ?_; clear hX; intro a w hX))
                  refine x_end ?_
                  refine q_then ?_
                  exact ⟨q + 1, by omega, by omega, hX.to (Sub.cons rfl (Sub.cons (look_int rfl (by rw [valN]; omega)) (Sub.cons (look_int rfl (by omega)) (by repeat (first | exact Sub.nil | refine Sub.cons rfl ?_))))) (Sel.refl _)⟩
              ·
                try (first | cases hc | exact (contra_tf hc (by with_reducible assumption)).elim | exact (contra_tf (by with_reducible assumption) hc).elim | exact absurd hc (by decide))
                all_goals
                  refine c_exit ?_
                  refine q_then_exit ?_
                  refine q_then_exit ?_
                  refine q_block_exit ?_
                  refine q_then ?_
                  refine wpIn_seq ?_
                  refine c_region ?_
                  refine xl_cons ?_; ((refine y_pure (d := 96) hX ⟨rfl, rfl⟩ rfl (p_move hX.st rfl rfl) ?_; clear hX; intro a w hX))
                  refine xl_cons ?_; ((refine y_pure (d := 2) hX ⟨rfl, rfl⟩ rfl (p_assign hX.st rfl rfl) ?_; clear hX; intro a w hX))
                  refine x_end ?_
                  refine q_then ?_
                  refine c_ret ?_
                  have hq16 : q = 16 := by have h5 := hc; simp only [decide_eq_false_iff_not] at h5; omega
                  subst hq16
                  refine f_ret1 hX Try.results11 rfl ⟨?_, hX.sh.sel Sel.nil⟩
                  rw [← chk_crc l, chk, hXe, hY]
end Go.Proofs.Ytjemilhbipaepaa
