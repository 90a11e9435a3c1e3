/- tapes.Check16, putSum, putEnd; copies. -/
import Derived.Test.YtjemilhbipaepaaS4
namespace Go.Proofs.Ytjemilhbipaepaa
open Go.RowKit

def crcStep (s : Nat) : Nat := if s / 32768 = 1 then (s * 2 % 65536) ^^^ 4129 else s * 2 % 65536
def crcSteps (s : Nat) : Nat → Nat
  | 0 => s
  | k + 1 => crcStep (crcSteps s k)
def crcByte (s c : Nat) : Nat := crcSteps (s ^^^ (c * 256)) 8
def crcFrom (s : Nat) (l : List UInt8) : Nat := l.foldl (fun s c => crcByte s c.toNat) s
def crc (l : List UInt8) : Nat := crcFrom 65535 l

theorem crcStep_lt (s : Nat) : crcStep s < 65536 := by
  unfold crcStep
  split
  · exact Nat.xor_lt_two_pow (n := 16) (by omega) (by omega)
  · omega
theorem crcSteps_lt (s k : Nat) (h : s < 65536) : crcSteps s k < 65536 := by
  cases k with
  | zero => exact h
  | succ k => exact crcStep_lt _
theorem crcByte_lt (s c : Nat) : crcByte s c < 65536 := crcStep_lt _
theorem crcFrom_lt (l : List UInt8) : ∀ s, s < 65536 → crcFrom s l < 65536 := by
  induction l with
  | nil => intro s h; exact h
  | cons c l ih => intro s h; exact ih _ (crcByte_lt _ _)
theorem crc_lt (l : List UInt8) : crc l < 65536 := crcFrom_lt l _ (by omega)
theorem crc_snoc (l : List UInt8) (c : UInt8) : crc (l ++ [c]) = crcByte (crc l) c.toNat := by simp [crc, crcFrom]
theorem crc_take (l : List UInt8) (k : Nat) (h : k < l.length) : crc (l.take (k + 1)) = crcByte (crc (l.take k)) l[k].toNat := by
  rw [List.take_succ_eq_append_getElem h, crc_snoc]
theorem byteIn (s : Nat) (c : UInt8) (hs : s < 65536) :
    bits .xor .u16 (s : Int) (IntKind.u16.wrap (IntKind.u16.wrap (c.toNat : Int) * 2 ^ (min 8 IntKind.u16.bits))) = ((s ^^^ (c.toNat * 256) : Nat) : Int) := by
  have hc := c.toNat_lt
  have e : IntKind.u16.wrap (IntKind.u16.wrap (c.toNat : Int) * 2 ^ (min 8 IntKind.u16.bits)) = ((c.toNat * 256 : Nat) : Int) := by
    rw [IntKind.wrap_u16, IntKind.wrap_u16, show (2 : Int) ^ (min 8 IntKind.u16.bits) = 256 from rfl]; omega
  rw [e]
  exact u16_xor_nat _ _ hs (by omega)
theorem stepYes (s : Nat) (h : s / 32768 = 1) : bits .xor .u16 (IntKind.u16.wrap ((s : Int) * 2 ^ (min 1 IntKind.u16.bits))) 4129 = ((crcStep s : Nat) : Int) := by
  have e : IntKind.u16.wrap ((s : Int) * 2 ^ (min 1 IntKind.u16.bits)) = ((s * 2 % 65536 : Nat) : Int) := by rw [IntKind.wrap_u16, show (2 : Int) ^ (min 1 IntKind.u16.bits) = 2 from rfl]; omega
  rw [e, crcStep, if_pos h]
  exact u16_xor_nat _ 4129 (by omega) (by omega)
theorem stepNo (s : Nat) (h : ¬ s / 32768 = 1) : IntKind.u16.wrap ((s : Int) * 2 ^ (min 1 IntKind.u16.bits)) = ((crcStep s : Nat) : Int) := by
  rw [crcStep, if_neg h, IntKind.wrap_u16, show (2 : Int) ^ (min 1 IntKind.u16.bits) = 2 from rfl]; omega
theorem testOf (s : Nat) : (((s : Int).fdiv (2 ^ (min 15 IntKind.u16.bits)) == 1) = true) ↔ s / 32768 = 1 := by
  rw [show (2 : Int) ^ (min 15 IntKind.u16.bits) = 32768 from rfl, beq_iff_eq, Int.fdiv_eq_ediv_of_nonneg _ (by omega)]
  omega
theorem Reads.byte {w : World} {A : Option Addr} {l : List UInt8} (h : Reads w A l.length 1 (l.map byteV)) {k : Nat} (hk : k < l.length) :
    ∃ b p, A = some ⟨b, p, none⟩ ∧ b < w.heap.size ∧ w.cell? ⟨b, p + k, none⟩ = some (.int .u8 l[k].toNat) := by
  obtain ⟨b, p, e, hc⟩ := h.2 (by omega)
  have := hc k (byteV l[k]) (by simp [hk])
  exact ⟨b, p, e, World.block_lt_of_cell? w _ this, this⟩

theorem check16 (A : Option Addr) (c : Nat) (l : List UInt8) (hl : l.length ≤ 140737488351232) (W : World) (hR : Reads W A l.length 1 (l.map byteV)) :
    Ret Try.prog 10 #[.slice A l.length c] W fun v w' => v = .int .u16 (crc l) ∧ SF W [] w' := by
  refine f_start (vs := [.slice A l.length c]) [(0, .slice A l.length c)] Try.func10 rfl Try.ntmps10 rfl rfl ?_
  intro a hX
  refine wpIn_seq ?_
  refine c_region ?_
  refine xl_cons ?_; ((refine y_pure (d := 2) hX ⟨rfl, rfl⟩ rfl (p_assign hX.st rfl rfl) ?_; clear hX; intro a w hX))
  refine x_end ?_
  refine q_then ?_
  refine wpIn_seq ?_
  refine c_region ?_
  refine xl_cons ?_; ((refine y_pure (d := 3) hX ⟨rfl, rfl⟩ rfl (p_assign hX.st rfl rfl) ?_; clear hX; intro a w hX))
  refine x_end ?_
  refine q_then ?_
  refine wpIn_seq ?_
  refine wpIn_seq ?_
  refine c_region ?_
  refine xl_cons ?_; ((refine y_pure (d := 6) hX ⟨rfl, rfl⟩ rfl (p_move hX.st rfl rfl) ?_; clear hX; intro a w hX))
  refine xl_cons ?_; ((refine y_pure (d := 7) hX ⟨rfl, rfl⟩ rfl (p_len hX.st rfl tab_ok rfl rfl rfl) ?_; clear hX; intro a w hX))
  refine xl_cons ?_; ((refine y_pure (d := 8) hX ⟨rfl, rfl⟩ rfl (p_move hX.st rfl rfl) ?_; clear hX; intro a w hX))
  refine x_end ?_
  refine q_then ?_
  refine c_block ?_
  refine c_loopX (α := Nat) (fun k => [(3, .int .u16 (crc (l.take k))), (8, .int .i64 k), (6, .slice A l.length c), (7, .int .i64 l.length)]) (fun _ => []) (fun k => k ≤ l.length) (fun k => l.length - k) 0 (Nat.zero_le _) (hX.to (by repeat (first | exact Sub.nil | refine Sub.cons rfl ?_)) Sel.nil) ?_
  clear hX
  intro k a w hk hX
  refine wpIn_seq ?_
  refine c_region ?_
  refine xl_cons ?_; ((refine y_pure (d := 9) hX ⟨rfl, rfl⟩ rfl (p_lss hX.st rfl rfl rfl) ?_; clear hX; intro a w hX))
  refine x_end ?_
  refine q_then ?_
  refine wpIn_seq ?_
  refine c_cond hX rfl (fun hc => ?_) (fun hc => ?_)
  ·
    try (first | cases hc | exact (contra_tf hc (by with_reducible assumption)).elim | exact (contra_tf (by with_reducible assumption) hc).elim | exact absurd hc (by decide))
    all_goals
      refine c_skip ?_
      refine q_then ?_
      refine wpIn_seq ?_
      refine c_block ?_
      refine wpIn_seq ?_
      have hlt : k < l.length := by simpa using hc
      have hs := crc_lt (l.take k)
      have hts := crc_take l k hlt
      obtain ⟨b, p, rfl, hb, hcell⟩ := hR.byte hlt
      refine c_region ?_
      refine xl_cons ?_; (first | (refine y_pure (d := 10) hX ⟨rfl, rfl⟩ rfl (p_index0 hX.st rfl tab_ok rfl rfl rfl rfl rfl rfl (by first | rfl | omega) (by first | decide | omega)) ?_; clear hX; intro a w hX) | (refine y_pure (d := 10) hX ⟨rfl, rfl⟩ rfl (p_index1 hX.st rfl tab_ok rfl rfl rfl rfl rfl rfl (by first | rfl | omega) (by first | decide | omega)) ?_; clear hX; intro a w hX))
      refine xl_cons ?_; (first | (refine y_read (d := 11) hX ⟨rfl, rfl⟩ rfl (v_load hX.st rfl tab_ok rfl rfl rfl foc0 rfl) ?_; clear hX; intro a w hX) | (refine y_read (d := 11) hX ⟨rfl, rfl⟩ rfl (v_load hX.st rfl tab_ok rfl rfl rfl foc1 rfl) ?_; clear hX; intro a w hX) | (refine y_read (d := 11) hX ⟨rfl, rfl⟩ rfl (v_load hX.st rfl tab_ok rfl rfl rfl foc2 rfl) ?_; clear hX; intro a w hX) | (refine y_read (d := 11) hX ⟨rfl, rfl⟩ rfl (v_load hX.st rfl tab_ok rfl rfl rfl foc3 rfl) ?_; clear hX; intro a w hX) | (refine y_read (d := 11) hX ⟨rfl, rfl⟩ rfl (v_load hX.st rfl tab_ok rfl rfl rfl foc4 rfl) ?_; clear hX; intro a w hX) | (refine y_read (d := 11) hX ⟨rfl, rfl⟩ rfl (v_load hX.st rfl tab_ok rfl rfl rfl foc5 rfl) ?_; clear hX; intro a w hX) | (refine y_read (d := 11) hX ⟨rfl, rfl⟩ rfl (v_load hX.st rfl tab_ok rfl rfl rfl foc6 rfl) ?_; clear hX; intro a w hX) | (refine y_read (d := 11) hX ⟨rfl, rfl⟩ rfl (v_load hX.st rfl tab_ok rfl rfl rfl foc7 rfl) ?_; clear hX; intro a w hX) | (refine y_read (d := 11) hX ⟨rfl, rfl⟩ rfl (v_load hX.st rfl tab_ok rfl rfl rfl foc8 rfl) ?_; clear hX; intro a w hX) | (refine y_read (d := 11) hX ⟨rfl, rfl⟩ rfl (v_load hX.st rfl tab_ok rfl rfl rfl foc9 rfl) ?_; clear hX; intro a w hX) | (refine y_read (d := 11) hX ⟨rfl, rfl⟩ rfl (v_load hX.st rfl tab_ok rfl rfl rfl foc10 rfl) ?_; clear hX; intro a w hX) | (refine y_read (d := 11) hX ⟨rfl, rfl⟩ rfl (v_load hX.st rfl tab_ok rfl rfl rfl foc11 rfl) ?_; clear hX; intro a w hX) | (refine y_read (d := 11) hX ⟨rfl, rfl⟩ rfl (v_load hX.st rfl tab_ok rfl rfl rfl foc12 rfl) ?_; clear hX; intro a w hX) | (refine y_read (d := 11) hX ⟨rfl, rfl⟩ rfl (v_load_old hX.st rfl tab_ok rfl rfl rfl (by assumption) (by assumption)) ?_; clear hX; intro a w hX))
      refine xl_cons ?_; ((refine y_pure (d := 5) hX ⟨rfl, rfl⟩ rfl (p_assign hX.st rfl rfl) ?_; clear hX; intro a w hX))
      refine x_end ?_
      refine q_then ?_
      refine wpIn_seq ?_
      refine c_region ?_
      refine xl_cons ?_; ((refine y_pure (d := 12) hX ⟨rfl, rfl⟩ rfl (p_move hX.st rfl rfl) ?_; clear hX; intro a w hX))
      refine xl_cons ?_; ((refine y_pure (d := 13) hX ⟨rfl, rfl⟩ rfl (p_move hX.st rfl rfl) ?_; clear hX; intro a w hX))
      refine xl_cons ?_; (first | (refine y_pure (d := 14) hX ⟨rfl, rfl⟩ rfl (p_conv hX.st rfl tab_ok rfl rfl rfl rfl (in_i64 (by omega) (by omega))) ?_; clear hX; intro a w hX) | (refine y_pure (d := 14) hX ⟨rfl, rfl⟩ rfl (p_conv hX.st rfl tab_ok rfl rfl rfl rfl rfl) ?_; clear hX; intro a w hX))
      refine xl_cons ?_; ((refine y_pure (d := 15) hX ⟨rfl, rfl⟩ rfl (p_shl hX.st rfl rfl rfl rfl) ?_; clear hX; intro a w hX))
      refine xl_cons ?_; ((refine y_pure (d := 16) hX ⟨rfl, rfl⟩ rfl (p_xor hX.st rfl rfl rfl rfl) ?_; clear hX; intro a w hX))
      refine xl_cons ?_; ((refine y_pure (d := 3) hX ⟨rfl, rfl⟩ rfl (p_assign hX.st rfl rfl) ?_; clear hX; intro a w hX))
      refine x_end ?_
      refine q_then ?_
      refine wpIn_seq ?_
      refine c_region ?_
      refine xl_cons ?_; ((refine y_pure (d := 17) hX ⟨rfl, rfl⟩ rfl (p_move hX.st rfl rfl) ?_; clear hX; intro a w hX))
      refine x_end ?_
      refine q_then ?_
      refine c_block ?_
      refine c_loopX (α := Nat) (fun j => [(3, .int .u16 (crcSteps (crc (l.take k) ^^^ (l[k].toNat * 256)) j)), (17, .int .i64 j), (8, .int .i64 k), (6, .slice (some ⟨b, p, none⟩) l.length c), (7, .int .i64 l.length)]) (fun _ => []) (fun j => j ≤ 8) (fun j => 8 - j) 0 (Nat.zero_le _) (hX.to (Sub.cons (look_int rfl (byteIn _ _ hs)) (by repeat (first | exact Sub.nil | refine Sub.cons rfl ?_))) Sel.nil) ?_
      clear hX
      intro j a w hj hX
      refine wpIn_seq ?_
      refine c_region ?_
      refine xl_cons ?_; ((refine y_pure (d := 18) hX ⟨rfl, rfl⟩ rfl (p_lss hX.st rfl rfl rfl) ?_; clear hX; intro a w hX))
      refine x_end ?_
      refine q_then ?_
      refine wpIn_seq ?_
      refine c_cond hX rfl (fun hc => ?_) (fun hc => ?_)
      ·
        try (first | cases hc | exact (contra_tf hc (by with_reducible assumption)).elim | exact (contra_tf (by with_reducible assumption) hc).elim | exact absurd hc (by decide))
        all_goals
          refine c_skip ?_
          refine q_then ?_
          refine wpIn_seq ?_
          refine c_block ?_
          refine wpIn_seq ?_
          refine c_region ?_
          refine xl_cons ?_; ((refine y_pure (d := 19) hX ⟨rfl, rfl⟩ rfl (p_move hX.st rfl rfl) ?_; clear hX; intro a w hX))
          refine xl_cons ?_; ((refine y_pure (d := 20) hX ⟨rfl, rfl⟩ rfl (p_shr hX.st rfl rfl rfl rfl) ?_; clear hX; intro a w hX))
          refine xl_cons ?_; ((refine y_pure (d := 21) hX ⟨rfl, rfl⟩ rfl (p_eql hX.st rfl rfl rfl) ?_; clear hX; intro a w hX))
          refine x_end ?_
          refine q_then ?_
          refine c_cond hX rfl (fun hc => ?_) (fun hc => ?_)
          ·
            try (first | cases hc | exact (contra_tf hc (by with_reducible assumption)).elim | exact (contra_tf (by with_reducible assumption) hc).elim | exact absurd hc (by decide))
            all_goals
              refine c_region ?_
              refine xl_cons ?_; ((refine y_pure (d := 22) hX ⟨rfl, rfl⟩ rfl (p_move hX.st rfl rfl) ?_; clear hX; intro a w hX))
              refine xl_cons ?_; ((refine y_pure (d := 23) hX ⟨rfl, rfl⟩ rfl (p_shl hX.st rfl rfl rfl rfl) ?_; clear hX; intro a w hX))
              refine xl_cons ?_; ((refine y_pure (d := 24) hX ⟨rfl, rfl⟩ rfl (p_xor hX.st rfl rfl rfl rfl) ?_; clear hX; intro a w hX))
              refine xl_cons ?_; ((refine y_pure (d := 3) hX ⟨rfl, rfl⟩ rfl (p_assign hX.st rfl rfl) ?_; clear hX; intro a w hX))
              refine x_end ?_
              refine q_block ?_
              refine q_then ?_
              refine c_region ?_
              refine xl_cons ?_; (first | (refine y_pure (d := 27) hX ⟨rfl, rfl⟩ rfl (p_add hX.st rfl rfl rfl (in_i64 (by omega) (by omega))) ?_; clear hX; intro a w hX) | (refine y_pure (d := 27) hX ⟨rfl, rfl⟩ rfl (p_add hX.st rfl rfl rfl rfl) ?_; clear hX; intro a w hX))
              refine xl_cons ?_; ((refine y_pure (d := 17) hX ⟨rfl, rfl⟩ rfl (p_move hX.st rfl rfl) ?_; clear hX; intro a w hX))
              refine x_end ?_
              refine q_then ?_
              have hj8 : j < 8 := by simp only [decide_eq_true_eq] at *; omega
              exact ⟨j + 1, by omega, by omega, hX.to (Sub.cons (look_int rfl (by first | exact stepYes _ ((testOf _).1 (by assumption)) | exact stepNo _ (fun h => contra_tf ((testOf _).2 h) (by assumption)))) (Sub.cons (look_int rfl (by omega)) (by repeat (first | exact Sub.nil | refine Sub.cons rfl ?_)))) Sel.nil⟩
          ·
            try (first | cases hc | exact (contra_tf hc (by with_reducible assumption)).elim | exact (contra_tf (by with_reducible assumption) hc).elim | exact absurd hc (by decide))
            all_goals
              refine c_region ?_
              refine xl_cons ?_; ((refine y_pure (d := 25) hX ⟨rfl, rfl⟩ rfl (p_move hX.st rfl rfl) ?_; clear hX; intro a w hX))
              refine xl_cons ?_; ((refine y_pure (d := 26) hX ⟨rfl, rfl⟩ rfl (p_shl hX.st rfl rfl rfl rfl) ?_; clear hX; intro a w hX))
              refine xl_cons ?_; ((refine y_pure (d := 3) hX ⟨rfl, rfl⟩ rfl (p_assign hX.st rfl rfl) ?_; clear hX; intro a w hX))
              refine x_end ?_
              refine q_block ?_
              refine q_then ?_
              refine c_region ?_
              refine xl_cons ?_; (first | (refine y_pure (d := 27) hX ⟨rfl, rfl⟩ rfl (p_add hX.st rfl rfl rfl (in_i64 (by omega) (by omega))) ?_; clear hX; intro a w hX) | (refine y_pure (d := 27) hX ⟨rfl, rfl⟩ rfl (p_add hX.st rfl rfl rfl rfl) ?_; clear hX; intro a w hX))
              refine xl_cons ?_; ((refine y_pure (d := 17) hX ⟨rfl, rfl⟩ rfl (p_move hX.st rfl rfl) ?_; clear hX; intro a w hX))
              refine x_end ?_
              refine q_then ?_
              have hj8 : j < 8 := by simp only [decide_eq_true_eq] at *; omega
              exact ⟨j + 1, by omega, by omega, hX.to (Sub.cons (look_int rfl (by first | exact stepYes _ ((testOf _).1 (by assumption)) | exact stepNo _ (fun h => contra_tf ((testOf _).2 h) (by assumption)))) (Sub.cons (look_int rfl (by omega)) (by repeat (first | exact Sub.nil | refine Sub.cons rfl ?_)))) Sel.nil⟩
      ·
        try (first | cases hc | exact (contra_tf hc (by with_reducible assumption)).elim | exact (contra_tf (by with_reducible assumption) hc).elim | exact absurd hc (by decide))
        all_goals
          refine c_exit ?_
          refine q_then_exit ?_
          refine q_then_exit ?_
          refine q_block_exit ?_
          refine q_block ?_
          refine q_then ?_
          refine c_region ?_
          refine xl_cons ?_; (first | (refine y_pure (d := 28) hX ⟨rfl, rfl⟩ rfl (p_add hX.st rfl rfl rfl (in_i64 (by omega) (by omega))) ?_; clear hX; intro a w hX) | (refine y_pure (d := 28) hX ⟨rfl, rfl⟩ rfl (p_add hX.st rfl rfl rfl rfl) ?_; clear hX; intro a w hX))
          refine xl_cons ?_; ((refine y_pure (d := 8) hX ⟨rfl, rfl⟩ rfl (p_move hX.st rfl rfl) ?_; clear hX; intro a w hX))
          refine x_end ?_
          refine q_then ?_
          have hj8 : j = 8 := by simp only [decide_eq_false_iff_not] at *; omega
          subst hj8
          exact ⟨k + 1, by omega, by omega, hX.to (Sub.cons (look_int rfl (by rw [hts]; rfl)) (Sub.cons (look_int rfl (by omega)) (by repeat (first | exact Sub.nil | refine Sub.cons rfl ?_)))) Sel.nil⟩
  ·
    try (first | cases hc | exact (contra_tf hc (by with_reducible assumption)).elim | exact (contra_tf (by with_reducible assumption) hc).elim | exact absurd hc (by decide))
    all_goals
      refine c_exit ?_
      refine q_then_exit ?_
      refine q_then_exit ?_
      refine q_block_exit ?_
      refine q_then ?_
      refine wpIn_seq ?_
      refine c_region ?_
      refine xl_cons ?_; ((refine y_pure (d := 29) hX ⟨rfl, rfl⟩ rfl (p_move hX.st rfl rfl) ?_; clear hX; intro a w hX))
      refine xl_cons ?_; ((refine y_pure (d := 2) hX ⟨rfl, rfl⟩ rfl (p_assign hX.st rfl rfl) ?_; clear hX; intro a w hX))
      refine x_end ?_
      refine q_then ?_
      refine c_ret ?_
      have hk' : k = l.length := by simp only [decide_eq_false_iff_not] at *; omega
      exact f_ret1 hX Try.results10 rfl ⟨by rw [hk', List.take_length], hX.sh⟩
end Go.Proofs.Ytjemilhbipaepaa
