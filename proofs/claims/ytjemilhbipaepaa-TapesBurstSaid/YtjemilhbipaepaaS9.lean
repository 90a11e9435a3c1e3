/- tapes.putBlocks. -/
import Derived.Test.YtjemilhbipaepaaS8
namespace Go.Proofs.Ytjemilhbipaepaa
open Go.RowKit

def encBlock (l : List Op) : List UInt8 := (UInt8.ofNat l.length :: l.flatMap encOp) ++ sumB (crc (UInt8.ofNat l.length :: l.flatMap encOp))
def blk (l : List Op) (i : Nat) : List Op := (l.drop (i * 32)).take 32
def encBlocks (l : List Op) : List UInt8 := (List.range ((l.length + 31) / 32)).flatMap fun i => encBlock (blk l i)
theorem encOp_length (o : Op) : (encOp o).length = 3 := rfl
theorem encOps_length (l : List Op) : (l.flatMap encOp).length = l.length * 3 := by
  induction l with
  | nil => rfl
  | cons o l ih => rw [List.flatMap_cons, List.length_append, ih, encOp_length, List.length_cons]; omega
theorem sumB_length (s : Nat) : (sumB s).length = 2 := rfl
theorem encBlock_length (l : List Op) : (encBlock l).length = l.length * 3 + 3 := by
  simp only [encBlock, List.length_append, List.length_cons, encOps_length, sumB_length]
theorem blk_length (l : List Op) (i : Nat) : (blk l i).length = min 32 (l.length - i * 32) := by simp [blk]

theorem opsC_cut (l : List Op) (a b : Nat) : ((opsC l).drop (a * 6)).take (b * 6) = opsC ((l.drop a).take b) := by
  have h1 : ∀ (l : List Op) (a : Nat), (opsC l).drop (a * 6) = opsC (l.drop a) := by
    intro l a
    induction a generalizing l with
    | zero => simp
    | succ a ih =>
      cases l with
      | nil => simp [opsC]
      | cons o l =>
        rw [List.drop_succ_cons, ← ih l, show (a + 1) * 6 = (opC o).length + a * 6 by simp [opC]; omega]
        simp only [opsC, List.flatMap_cons, List.drop_append, Nat.add_sub_cancel_left]
        rw [List.drop_of_length_le (by omega), List.nil_append]
  have h2 : ∀ (l : List Op) (a : Nat), (opsC l).take (a * 6) = opsC (l.take a) := by
    intro l a
    induction a generalizing l with
    | zero => simp [opsC]
    | succ a ih =>
      cases l with
      | nil => simp [opsC]
      | cons o l =>
        rw [List.take_succ_cons, show opsC (o :: l.take a) = opC o ++ opsC (l.take a) from rfl, ← ih l, show (a + 1) * 6 = (opC o).length + a * 6 by simp [opC]; omega]
        simp only [opsC, List.flatMap_cons, List.take_append, Nat.add_sub_cancel_left]
        rw [List.take_of_length_le (by omega)]
  rw [h1, h2]
theorem Reads.chunk {w : World} {A : Option Addr} {l : List Op} (h : Reads w A l.length 6 (opsC l)) {i : Nat} (hi : i * 32 < l.length) :
    Reads w (cutA A (i * 32) 6 (i * 32 + min 32 (l.length - i * 32))) (blk l i).length 6 (opsC (blk l i)) := by
  have := h.cut (l := i * 32) (h := i * 32 + min 32 (l.length - i * 32)) (c := i * 32 + min 32 (l.length - i * 32)) (by omega) (by omega) (Nat.le_refl _)
  rw [opsC_cut, Nat.add_sub_cancel_left] at this
  rw [blk_length]
  have e : (l.drop (i * 32)).take (min 32 (l.length - i * 32)) = blk l i := by
    unfold blk
    by_cases h32 : 32 ≤ l.length - i * 32
    · rw [Nat.min_eq_left h32]
    · rw [Nat.min_eq_right (by omega), List.take_of_length_le (by simp), List.take_of_length_le (by simp; omega)]
  rwa [e] at this

abbrev Ix (m : Nat) := { i : Nat // i * 32 < m }
def bsOf (l : List UInt8) (ops : List Op) (pre : List (Ix ops.length)) : List UInt8 := l ++ pre.flatMap fun i => encBlock (blk ops i.1)
theorem bsOf_length (l : List UInt8) (ops : List Op) (pre : List (Ix ops.length)) : (bsOf l ops pre).length ≤ l.length + 99 * pre.length := by
  unfold bsOf
  rw [List.length_append]
  refine Nat.add_le_add_left ?_ _
  induction pre with
  | nil => simp
  | cons i pre ih =>
    rw [List.flatMap_cons, List.length_append, encBlock_length, blk_length, List.length_cons]
    omega
theorem chunkV_eq (Ao : Option Addr) (ops : List Op) (i : Nat) : chunkV33 Ao ops.length i = .slice (cutA Ao (i * 32) 6 (i * 32 + min 32 (ops.length - i * 32))) (blk ops i).length (blk ops i).length := by rw [blk_length]; rfl
theorem cutA_block {A : Option Addr} {l s m b p : Nat} (h : cutA A l s m = some ⟨b, p, none⟩) (hA : ∃ b' p', A = some ⟨b', p', none⟩) : ∃ p', A = some ⟨b, p', none⟩ := by
  obtain ⟨b', p', rfl⟩ := hA
  unfold cutA at h
  split at h
  · exact ⟨p, h⟩
  · simp only [Option.map_some, Option.some.injEq, Addr.add_lit] at h
    injection h with h1 _
    exact ⟨p', by rw [h1]⟩
theorem Reads.moved {B : Nat → Prop} {w0 W w : World} {H1 H2 : List Ck} {A : Option Addr} {m size : Nat} {xs : List Value} (h1 : SH B w0 H1 W) (h2 : SH B w0 H2 w) (hR : Reads W A m size xs) (hB : ∀ b p, 0 < m → A = some ⟨b, p, none⟩ → B b) : Reads w A m size xs :=
  ⟨hR.1, fun hm => by
    obtain ⟨b, p, e, hc⟩ := hR.2 hm
    have hb := hB b p hm e
    exact ⟨b, p, e, fun j u hu => by rw [h2.below.cell (p := ⟨b, p + j, none⟩) hb, ← h1.below.cell (p := ⟨b, p + j, none⟩) hb]; exact hc j u hu⟩⟩
def curB (bs : List UInt8) (l : List Op) (k : Nat) : List UInt8 := bs ++ (UInt8.ofNat l.length :: (l.take k).flatMap encOp)
theorem curB_length (bs : List UInt8) (l : List Op) (k : Nat) (h : k ≤ l.length) : (curB bs l k).length = bs.length + 1 + k * 3 := by
  simp only [curB, List.length_append, List.length_cons, encOps_length, List.length_take, Nat.min_eq_left h]; omega
theorem curB_succ (bs : List UInt8) (l : List Op) (k : Nat) (h : k < l.length) : curB bs l k ++ encOp l[k] = curB bs l (k + 1) := by
  unfold curB
  rw [List.take_succ_eq_append_getElem h, List.flatMap_append, List.append_assoc, List.cons_append]
  simp only [List.flatMap_cons, List.flatMap_nil, List.append_nil]
theorem curB_zero (bs : List UInt8) (l : List Op) : curB bs l 0 = bs ++ [UInt8.ofNat l.length] := by simp [curB]
theorem curB_end (bs : List UInt8) (l : List Op) : curB bs l l.length ++ sumB (crc ((curB bs l l.length).drop bs.length)) = bs ++ encBlock l := by
  have : (curB bs l l.length).drop bs.length = UInt8.ofNat l.length :: l.flatMap encOp := by simp [curB]
  rw [this]; simp [curB, encBlock]
theorem bsOf_end (l : List UInt8) (ops : List Op) (xs : List (Ix ops.length)) (h : xs.map (·.1) = List.range ((ops.length + 31) / 32)) : bsOf l ops xs = l ++ encBlocks ops := by
  unfold bsOf encBlocks
  rw [← h, List.flatMap_map]
theorem put_op_at (o : Op) (hg : Good o) (A : Option Addr) (c n : Nat) (l : List UInt8) (hn : l.length = n) (hl : n ≤ 1000000) (B : Nat → Prop) (w0 : World) (H : List Ck) (W : World) (hH : SH B w0 (.row A c 5 1 n (l.map byteV) :: H) W) :
    Ret Try.prog 34 #[.slice A n c, .agg (opC o).toArray] W fun v w' => ∃ A' c', v = .slice A' (n + 3) c' ∧ SH B w0 (.row A' c' 5 1 (n + 3) ((l ++ encOp o).map byteV) :: H) w' := by
  subst hn
  have := put_op o hg A c l hl B w0 H W hH
  have e : (l ++ encOp o).length = l.length + 3 := by rw [List.length_append, encOp_length]
  rw [e] at this
  exact this
theorem put_blocks (A : Option Addr) (c n : Nat) (l : List UInt8) (hn : l.length = n) (hl : n ≤ 100000) (ops : List Op) (hops : ops.length ≤ 8192) (good : ∀ o ∈ ops, Good o) (Ao : Option Addr) (co : Nat) (hco : ops.length ≤ co) (hco2 : co ≤ 9223372036854775807)
    (B : Nat → Prop) (w0 : World) (W : World) (hH : SH B w0 [.row A c 5 1 n (l.map byteV)] W) (hR : Reads W Ao ops.length 6 (opsC ops)) (hB : ∀ b p, 0 < ops.length → Ao = some ⟨b, p, none⟩ → B b) :
    Ret Try.prog 26 #[.slice A n c, .slice Ao ops.length co] W fun v w' => ∃ A' c', v = .slice A' (l ++ encBlocks ops).length c' ∧ SH B w0 [.row A' c' 5 1 (l ++ encBlocks ops).length ((l ++ encBlocks ops).map byteV)] w' := by
  subst hn
  refine f_startM (vs := [.slice A l.length c, .slice Ao ops.length co]) [(0, .slice A l.length c), (1, .slice Ao ops.length co)] hH Try.func26 rfl Try.ntmps26 rfl rfl ?_
  intro a hX
  refine wpIn_seq ?_
  refine c_region ?_
  refine xl_cons ?_; (first | (refine y_box_agg (d := 2) hX rfl ⟨rfl, rfl⟩ rfl rfl ?_; clear hX; intro bp a w hX) | (refine y_box_one (d := 2) hX rfl ⟨rfl, rfl⟩ rfl rfl rfl ?_; clear hX; intro bp a w hX))
  refine xl_cons ?_; ((refine y_pure (d := 4) hX ⟨rfl, rfl⟩ rfl (p_assign hX.st rfl rfl) ?_; clear hX; intro a w hX))
  refine x_end ?_
  refine q_then ?_
  refine wpIn_seq ?_
  refine wpIn_seq ?_
  refine c_region ?_
  refine xl_cons ?_; ((refine y_pure (d := 9) hX ⟨rfl, rfl⟩ rfl (p_move hX.st rfl rfl) ?_; clear hX; intro a w hX))
  refine xl_cons ?_; (refine y_callC2 (d := 10) hX rfl ⟨rfl, rfl⟩ rfl Try.func33 rfl rfl rfl (chunk33_call _ _ _ _) ?_; clear hX; intro x a w _ hX)
  refine x_end ?_
  refine q_then ?_
  refine c_block ?_
  have hCs := (hX.sh.ok (.cel x.1 [.slice Ao ops.length co] 30) (by simp)).2
  have hCn := (hX.sh.ok (.cel x.2 [.int .i64 32] 3) (by simp)).2
  refine c_range (α := Ix ops.length) (β := Option Addr × Nat) hX rfl (fun args w => run_callFunc Try.func40 rfl rfl) [.cel x.1 [.slice Ao ops.length co] 30, .cel x.2 [.int .i64 32] 3] (by intro c hc; simp only [List.mem_cons, List.not_mem_nil, or_false] at hc; rcases hc with rfl | rfl <;> exact ⟨_, _, _, rfl⟩) (by intro c hc; simp only [List.mem_cons, List.not_mem_nil, or_false] at hc ⊢; rcases hc with rfl | rfl <;> simp) (chunk33_seq Ao ops.length co x.1 x.2 hco (by omega) w hCs hCn) (fun _ => rfl)
    (fun pre y => [.cel bp [.slice y.1 (bsOf l ops pre).length y.2] 22, .row y.1 y.2 5 1 (bsOf l ops pre).length ((bsOf l ops pre).map byteV), .cel x.1 [.slice Ao ops.length co] 30, .cel x.2 [.int .i64 32] 3]) (fun _ _ => []) (fun _ _ => True) (fun _ _ => False) (by intro xs y c hc; simp only [List.mem_cons, List.not_mem_nil, or_false] at hc ⊢; rcases hc with rfl | rfl <;> simp) (by intro xs y c hc; simp only [List.mem_cons, List.not_mem_nil, or_false] at hc; rcases hc with rfl | rfl | rfl | rfl <;> exact .inl rfl) (by intro xs y c hc; cases hc)
    (A, c) trivial (by simp only [show bsOf l ops [] = l by simp [bsOf]]; exact hX.sh.sel (Sel.cons tk2 (Sel.cons tk2 (Sel.cons tk0 (Sel.cons tk0 Sel.nil))))) (fun i => [(11, chunkV33 Ao ops.length i.1), (2, .pointer (some ⟨bp, 0, none⟩))]) (fun i => [(5, .slice (cutA Ao (i.1 * 32) 6 (i.1 * 32 + min 32 (ops.length - i.1 * 32))) (blk ops i.1).length (blk ops i.1).length), (2, .pointer (some ⟨bp, 0, none⟩))]) (fun i a0 ht hd => hX.st.param (p := 11) (x := chunkV33 Ao ops.length i.1) rfl (by repeat (first | exact Sub.nil | refine Sub.cons rfl ?_)) (by rw [ht]; simp) hd) ?_ ?_ ?_ ?_
  ·
    intro l x H0 a W hX
    refine c_region ?_
    refine xl_cons ?_; ((refine y_pure (d := 5) hX ⟨rfl, rfl⟩ rfl (p_assign hX.st rfl rfl) ?_; clear hX; intro a w hX))
    refine x_end ?_
    exact ⟨rfl, hX.to (Sub.cons (look_val rfl (chunkV_eq _ _ _)) (by repeat (first | exact Sub.nil | refine Sub.cons rfl ?_))) (Sel.refl _)⟩
  ·
    clear hX hCs hCn a w
    rintro l1 pre i ⟨A1, c1⟩ a W1 _ hpre hs hX
    have hRb := (Reads.moved hH hs hR hB).chunk i.2
    have hA2 : ∀ b' p', cutA Ao (i.1 * 32) 6 (i.1 * 32 + min 32 (ops.length - i.1 * 32)) = some ⟨b', p', none⟩ → B b' := fun b' p' e => by
      have hm : 0 < ops.length := by have := i.2; omega
      obtain ⟨b0, p0, e0, _⟩ := hR.2 hm
      obtain ⟨p2, e2⟩ := cutA_block e ⟨b0, p0, e0⟩
      exact hB _ _ hm e2
    generalize cutA Ao (i.1 * 32) 6 (i.1 * 32 + min 32 (ops.length - i.1 * 32)) = A2 at hX hRb hA2
    have hb32 : (blk ops i.1).length ≤ 32 := by rw [blk_length]; omega
    have hbl := bsOf_length l ops pre
    have hgb : ∀ o ∈ blk ops i.1, Good o := fun o ho => good o (List.mem_of_mem_drop (List.mem_of_mem_take ho))
    have hnext : bsOf l ops (pre ++ [i]) = bsOf l ops pre ++ encBlock (blk ops i.1) := by simp [bsOf]
    revert hX
    dsimp only at hs ⊢
    generalize hbs : bsOf l ops pre = bs at hbl hnext hs
    generalize hbk : blk ops i.1 = bk at hRb hb32 hgb hnext
    have hB2 : ∀ k, B k → Rest W1 [.cel bp [.slice A1 bs.length c1] 22, .row A1 c1 5 1 bs.length (bs.map byteV), .cel x.1 [.slice Ao ops.length co] 30, .cel x.2 [.int .i64 32] 3] k := fun k hk => hs.restB hk
    generalize hBe : (Rest W1 [.cel bp [.slice A1 bs.length c1] 22, .row A1 c1 5 1 bs.length (bs.map byteV), .cel x.1 [.slice Ao ops.length co] 30, .cel x.2 [.int .i64 32] 3]) = B2 at hB2
    intro hX
    refine c_block ?_
    refine wpIn_seq ?_
    refine c_region ?_
    refine xl_cons ?_; (first | (refine y_read (d := 12) hX ⟨rfl, rfl⟩ rfl (v_load hX.st rfl tab_ok rfl rfl rfl foc0 rfl) ?_; clear hX; intro a w hX) | (refine y_read (d := 12) hX ⟨rfl, rfl⟩ rfl (v_load hX.st rfl tab_ok rfl rfl rfl foc1 rfl) ?_; clear hX; intro a w hX) | (refine y_read (d := 12) hX ⟨rfl, rfl⟩ rfl (v_load hX.st rfl tab_ok rfl rfl rfl foc2 rfl) ?_; clear hX; intro a w hX) | (refine y_read (d := 12) hX ⟨rfl, rfl⟩ rfl (v_load hX.st rfl tab_ok rfl rfl rfl foc3 rfl) ?_; clear hX; intro a w hX) | (refine y_read (d := 12) hX ⟨rfl, rfl⟩ rfl (v_load hX.st rfl tab_ok rfl rfl rfl foc4 rfl) ?_; clear hX; intro a w hX) | (refine y_read (d := 12) hX ⟨rfl, rfl⟩ rfl (v_load hX.st rfl tab_ok rfl rfl rfl foc5 rfl) ?_; clear hX; intro a w hX) | (refine y_read (d := 12) hX ⟨rfl, rfl⟩ rfl (v_load hX.st rfl tab_ok rfl rfl rfl foc6 rfl) ?_; clear hX; intro a w hX) | (refine y_read (d := 12) hX ⟨rfl, rfl⟩ rfl (v_load hX.st rfl tab_ok rfl rfl rfl foc7 rfl) ?_; clear hX; intro a w hX) | (refine y_read (d := 12) hX ⟨rfl, rfl⟩ rfl (v_load hX.st rfl tab_ok rfl rfl rfl foc8 rfl) ?_; clear hX; intro a w hX) | (refine y_read (d := 12) hX ⟨rfl, rfl⟩ rfl (v_load hX.st rfl tab_ok rfl rfl rfl foc9 rfl) ?_; clear hX; intro a w hX) | (refine y_read (d := 12) hX ⟨rfl, rfl⟩ rfl (v_load hX.st rfl tab_ok rfl rfl rfl foc10 rfl) ?_; clear hX; intro a w hX) | (refine y_read (d := 12) hX ⟨rfl, rfl⟩ rfl (v_load hX.st rfl tab_ok rfl rfl rfl foc11 rfl) ?_; clear hX; intro a w hX) | (refine y_read (d := 12) hX ⟨rfl, rfl⟩ rfl (v_load hX.st rfl tab_ok rfl rfl rfl foc12 rfl) ?_; clear hX; intro a w hX) | (refine y_read (d := 12) hX ⟨rfl, rfl⟩ rfl (v_load_old hX.st rfl tab_ok rfl rfl rfl (by assumption) (by assumption)) ?_; clear hX; intro a w hX))
    refine xl_cons ?_; ((refine y_pure (d := 13) hX ⟨rfl, rfl⟩ rfl (p_len hX.st rfl tab_ok rfl rfl rfl) ?_; clear hX; intro a w hX))
    refine xl_cons ?_; ((refine y_pure (d := 6) hX ⟨rfl, rfl⟩ rfl (p_assign hX.st rfl rfl) ?_; clear hX; intro a w hX))
    refine x_end ?_
    refine q_then ?_
    refine wpIn_seq ?_
    refine c_region ?_
    refine xl_cons ?_; (first | (refine y_read (d := 14) hX ⟨rfl, rfl⟩ rfl (v_load hX.st rfl tab_ok rfl rfl rfl foc0 rfl) ?_; clear hX; intro a w hX) | (refine y_read (d := 14) hX ⟨rfl, rfl⟩ rfl (v_load hX.st rfl tab_ok rfl rfl rfl foc1 rfl) ?_; clear hX; intro a w hX) | (refine y_read (d := 14) hX ⟨rfl, rfl⟩ rfl (v_load hX.st rfl tab_ok rfl rfl rfl foc2 rfl) ?_; clear hX; intro a w hX) | (refine y_read (d := 14) hX ⟨rfl, rfl⟩ rfl (v_load hX.st rfl tab_ok rfl rfl rfl foc3 rfl) ?_; clear hX; intro a w hX) | (refine y_read (d := 14) hX ⟨rfl, rfl⟩ rfl (v_load hX.st rfl tab_ok rfl rfl rfl foc4 rfl) ?_; clear hX; intro a w hX) | (refine y_read (d := 14) hX ⟨rfl, rfl⟩ rfl (v_load hX.st rfl tab_ok rfl rfl rfl foc5 rfl) ?_; clear hX; intro a w hX) | (refine y_read (d := 14) hX ⟨rfl, rfl⟩ rfl (v_load hX.st rfl tab_ok rfl rfl rfl foc6 rfl) ?_; clear hX; intro a w hX) | (refine y_read (d := 14) hX ⟨rfl, rfl⟩ rfl (v_load hX.st rfl tab_ok rfl rfl rfl foc7 rfl) ?_; clear hX; intro a w hX) | (refine y_read (d := 14) hX ⟨rfl, rfl⟩ rfl (v_load hX.st rfl tab_ok rfl rfl rfl foc8 rfl) ?_; clear hX; intro a w hX) | (refine y_read (d := 14) hX ⟨rfl, rfl⟩ rfl (v_load hX.st rfl tab_ok rfl rfl rfl foc9 rfl) ?_; clear hX; intro a w hX) | (refine y_read (d := 14) hX ⟨rfl, rfl⟩ rfl (v_load hX.st rfl tab_ok rfl rfl rfl foc10 rfl) ?_; clear hX; intro a w hX) | (refine y_read (d := 14) hX ⟨rfl, rfl⟩ rfl (v_load hX.st rfl tab_ok rfl rfl rfl foc11 rfl) ?_; clear hX; intro a w hX) | (refine y_read (d := 14) hX ⟨rfl, rfl⟩ rfl (v_load hX.st rfl tab_ok rfl rfl rfl foc12 rfl) ?_; clear hX; intro a w hX) | (refine y_read (d := 14) hX ⟨rfl, rfl⟩ rfl (v_load_old hX.st rfl tab_ok rfl rfl rfl (by assumption) (by assumption)) ?_; clear hX; intro a w hX))
    refine xl_cons ?_; ((refine y_pure (d := 15) hX ⟨rfl, rfl⟩ rfl (p_move hX.st rfl rfl) ?_; clear hX; intro a w hX))
    refine xl_cons ?_; ((refine y_pure (d := 16) hX ⟨rfl, rfl⟩ rfl (p_len hX.st rfl tab_ok rfl rfl rfl) ?_; clear hX; intro a w hX))
    refine xl_cons ?_; (first | (refine y_pure (d := 17) hX ⟨rfl, rfl⟩ rfl (p_conv hX.st rfl tab_ok rfl rfl rfl rfl (in_i64 (by omega) (by omega))) ?_; clear hX; intro a w hX) | (refine y_pure (d := 17) hX ⟨rfl, rfl⟩ rfl (p_conv hX.st rfl tab_ok rfl rfl rfl rfl rfl) ?_; clear hX; intro a w hX))
    refine xl_cons ?_; (refine y_buildSlice (d := 18) hX rfl ⟨rfl, rfl⟩ rfl tab_ok rfl rfl rfl rfl rfl (xs := [.tmp 17]) rfl rfl rfl rfl rfl ?_; clear hX; intro b a w hX)
    refine xl_cons ?_; (first | (refine y_append_cel (d := 19) hX rfl ⟨rfl, rfl⟩ rfl tab_ok rfl rfl rfl rfl rfl rfl rfl foc1 foc0 rfl rfl (by first | omega | (simp only [ti5, ti3, ti53]; omega)) (by first | omega | (simp only [ti5, ti3, ti53]; omega)) ?_; clear hX; intro A3 c3 a w hX) | (refine y_append_cel (d := 19) hX rfl ⟨rfl, rfl⟩ rfl tab_ok rfl rfl rfl rfl rfl rfl rfl foc2 foc0 rfl rfl (by first | omega | (simp only [ti5, ti3, ti53]; omega)) (by first | omega | (simp only [ti5, ti3, ti53]; omega)) ?_; clear hX; intro A3 c3 a w hX) | (refine y_append_cel (d := 19) hX rfl ⟨rfl, rfl⟩ rfl tab_ok rfl rfl rfl rfl rfl rfl rfl foc3 foc0 rfl rfl (by first | omega | (simp only [ti5, ti3, ti53]; omega)) (by first | omega | (simp only [ti5, ti3, ti53]; omega)) ?_; clear hX; intro A3 c3 a w hX) | (refine y_append_cel (d := 19) hX rfl ⟨rfl, rfl⟩ rfl tab_ok rfl rfl rfl rfl rfl rfl rfl foc4 foc0 rfl rfl (by first | omega | (simp only [ti5, ti3, ti53]; omega)) (by first | omega | (simp only [ti5, ti3, ti53]; omega)) ?_; clear hX; intro A3 c3 a w hX) | (refine y_append_cel (d := 19) hX rfl ⟨rfl, rfl⟩ rfl tab_ok rfl rfl rfl rfl rfl rfl rfl foc0 foc1 rfl rfl (by first | omega | (simp only [ti5, ti3, ti53]; omega)) (by first | omega | (simp only [ti5, ti3, ti53]; omega)) ?_; clear hX; intro A3 c3 a w hX) | (refine y_append_cel (d := 19) hX rfl ⟨rfl, rfl⟩ rfl tab_ok rfl rfl rfl rfl rfl rfl rfl foc2 foc1 rfl rfl (by first | omega | (simp only [ti5, ti3, ti53]; omega)) (by first | omega | (simp only [ti5, ti3, ti53]; omega)) ?_; clear hX; intro A3 c3 a w hX) | (refine y_append_cel (d := 19) hX rfl ⟨rfl, rfl⟩ rfl tab_ok rfl rfl rfl rfl rfl rfl rfl foc3 foc1 rfl rfl (by first | omega | (simp only [ti5, ti3, ti53]; omega)) (by first | omega | (simp only [ti5, ti3, ti53]; omega)) ?_; clear hX; intro A3 c3 a w hX) | (refine y_append_cel (d := 19) hX rfl ⟨rfl, rfl⟩ rfl tab_ok rfl rfl rfl rfl rfl rfl rfl foc4 foc1 rfl rfl (by first | omega | (simp only [ti5, ti3, ti53]; omega)) (by first | omega | (simp only [ti5, ti3, ti53]; omega)) ?_; clear hX; intro A3 c3 a w hX) | (refine y_append_cel (d := 19) hX rfl ⟨rfl, rfl⟩ rfl tab_ok rfl rfl rfl rfl rfl rfl rfl foc0 foc2 rfl rfl (by first | omega | (simp only [ti5, ti3, ti53]; omega)) (by first | omega | (simp only [ti5, ti3, ti53]; omega)) ?_; clear hX; intro A3 c3 a w hX) | (refine y_append_cel (d := 19) hX rfl ⟨rfl, rfl⟩ rfl tab_ok rfl rfl rfl rfl rfl rfl rfl foc1 foc2 rfl rfl (by first | omega | (simp only [ti5, ti3, ti53]; omega)) (by first | omega | (simp only [ti5, ti3, ti53]; omega)) ?_; clear hX; intro A3 c3 a w hX) | (refine y_append_cel (d := 19) hX rfl ⟨rfl, rfl⟩ rfl tab_ok rfl rfl rfl rfl rfl rfl rfl foc3 foc2 rfl rfl (by first | omega | (simp only [ti5, ti3, ti53]; omega)) (by first | omega | (simp only [ti5, ti3, ti53]; omega)) ?_; clear hX; intro A3 c3 a w hX) | (refine y_append_cel (d := 19) hX rfl ⟨rfl, rfl⟩ rfl tab_ok rfl rfl rfl rfl rfl rfl rfl foc4 foc2 rfl rfl (by first | omega | (simp only [ti5, ti3, ti53]; omega)) (by first | omega | (simp only [ti5, ti3, ti53]; omega)) ?_; clear hX; intro A3 c3 a w hX))
    refine xl_cons ?_; (first | (refine y_store hX rfl ⟨rfl, rfl⟩ tab_ok rfl rfl rfl rfl rfl foc0 (by repeat (first | exact SetAt.zero | apply SetAt.succ)) ?_; clear hX; intro a w hX) | (refine y_store hX rfl ⟨rfl, rfl⟩ tab_ok rfl rfl rfl rfl rfl foc1 (by repeat (first | exact SetAt.zero | apply SetAt.succ)) ?_; clear hX; intro a w hX) | (refine y_store hX rfl ⟨rfl, rfl⟩ tab_ok rfl rfl rfl rfl rfl foc2 (by repeat (first | exact SetAt.zero | apply SetAt.succ)) ?_; clear hX; intro a w hX) | (refine y_store hX rfl ⟨rfl, rfl⟩ tab_ok rfl rfl rfl rfl rfl foc3 (by repeat (first | exact SetAt.zero | apply SetAt.succ)) ?_; clear hX; intro a w hX) | (refine y_store hX rfl ⟨rfl, rfl⟩ tab_ok rfl rfl rfl rfl rfl foc4 (by repeat (first | exact SetAt.zero | apply SetAt.succ)) ?_; clear hX; intro a w hX) | (refine y_store hX rfl ⟨rfl, rfl⟩ tab_ok rfl rfl rfl rfl rfl foc5 (by repeat (first | exact SetAt.zero | apply SetAt.succ)) ?_; clear hX; intro a w hX) | (refine y_store hX rfl ⟨rfl, rfl⟩ tab_ok rfl rfl rfl rfl rfl foc6 (by repeat (first | exact SetAt.zero | apply SetAt.succ)) ?_; clear hX; intro a w hX) | (refine y_store hX rfl ⟨rfl, rfl⟩ tab_ok rfl rfl rfl rfl rfl foc7 (by repeat (first | exact SetAt.zero | apply SetAt.succ)) ?_; clear hX; intro a w hX) | (refine y_store hX rfl ⟨rfl, rfl⟩ tab_ok rfl rfl rfl rfl rfl foc8 (by repeat (first | exact SetAt.zero | apply SetAt.succ)) ?_; clear hX; intro a w hX) | (refine y_store hX rfl ⟨rfl, rfl⟩ tab_ok rfl rfl rfl rfl rfl foc9 (by repeat (first | exact SetAt.zero | apply SetAt.succ)) ?_; clear hX; intro a w hX) | (refine y_store hX rfl ⟨rfl, rfl⟩ tab_ok rfl rfl rfl rfl rfl foc10 (by repeat (first | exact SetAt.zero | apply SetAt.succ)) ?_; clear hX; intro a w hX) | (refine y_store hX rfl ⟨rfl, rfl⟩ tab_ok rfl rfl rfl rfl rfl foc11 (by repeat (first | exact SetAt.zero | apply SetAt.succ)) ?_; clear hX; intro a w hX) | (refine y_store hX rfl ⟨rfl, rfl⟩ tab_ok rfl rfl rfl rfl rfl foc12 (by repeat (first | exact SetAt.zero | apply SetAt.succ)) ?_; clear hX; intro a w hX) | (refine y_store_agg hX rfl ⟨rfl, rfl⟩ tab_ok rfl rfl rfl rfl foc0 rfl rfl ?_; clear hX; intro a w hX) | (refine y_store_agg hX rfl ⟨rfl, rfl⟩ tab_ok rfl rfl rfl rfl foc1 rfl rfl ?_; clear hX; intro a w hX) | (refine y_store_agg hX rfl ⟨rfl, rfl⟩ tab_ok rfl rfl rfl rfl foc2 rfl rfl ?_; clear hX; intro a w hX) | (refine y_store_agg hX rfl ⟨rfl, rfl⟩ tab_ok rfl rfl rfl rfl foc3 rfl rfl ?_; clear hX; intro a w hX) | (refine y_store_agg hX rfl ⟨rfl, rfl⟩ tab_ok rfl rfl rfl rfl foc4 rfl rfl ?_; clear hX; intro a w hX) | (refine y_store_agg hX rfl ⟨rfl, rfl⟩ tab_ok rfl rfl rfl rfl foc5 rfl rfl ?_; clear hX; intro a w hX) | (refine y_store_agg hX rfl ⟨rfl, rfl⟩ tab_ok rfl rfl rfl rfl foc6 rfl rfl ?_; clear hX; intro a w hX) | (refine y_store_agg hX rfl ⟨rfl, rfl⟩ tab_ok rfl rfl rfl rfl foc7 rfl rfl ?_; clear hX; intro a w hX) | (refine y_store_agg hX rfl ⟨rfl, rfl⟩ tab_ok rfl rfl rfl rfl foc8 rfl rfl ?_; clear hX; intro a w hX) | (refine y_store_agg hX rfl ⟨rfl, rfl⟩ tab_ok rfl rfl rfl rfl foc9 rfl rfl ?_; clear hX; intro a w hX) | (refine y_store_agg hX rfl ⟨rfl, rfl⟩ tab_ok rfl rfl rfl rfl foc10 rfl rfl ?_; clear hX; intro a w hX) | (refine y_store_agg hX rfl ⟨rfl, rfl⟩ tab_ok rfl rfl rfl rfl foc11 rfl rfl ?_; clear hX; intro a w hX) | (refine y_store_agg hX rfl ⟨rfl, rfl⟩ tab_ok rfl rfl rfl rfl foc12 rfl rfl ?_; clear hX; intro a w hX))
    refine x_end ?_
    refine q_then ?_
    refine wpIn_seq ?_
    refine wpIn_seq ?_
    refine c_region ?_
    refine xl_cons ?_; ((refine y_pure (d := 20) hX ⟨rfl, rfl⟩ rfl (p_move hX.st rfl rfl) ?_; clear hX; intro a w hX))
    refine xl_cons ?_; ((refine y_pure (d := 21) hX ⟨rfl, rfl⟩ rfl (p_len hX.st rfl tab_ok rfl rfl rfl) ?_; clear hX; intro a w hX))
    refine xl_cons ?_; ((refine y_pure (d := 22) hX ⟨rfl, rfl⟩ rfl (p_move hX.st rfl rfl) ?_; clear hX; intro a w hX))
    refine x_end ?_
    refine q_then ?_
    refine c_block ?_
    refine c_loopX (α := Nat × Option Addr × Nat) (fun y => [(22, .int .i64 (y.1 : Nat)), (21, .int .i64 bk.length), (20, .slice A2 bk.length bk.length), (6, .int .i64 bs.length), (2, .pointer (some ⟨bp, 0, none⟩))])
      (fun y => [.cel bp [.slice y.2.1 (bs.length + 1 + y.1 * 3) y.2.2] 22, .row y.2.1 y.2.2 5 1 (bs.length + 1 + y.1 * 3) ((curB bs bk y.1).map byteV), .cel x.1 [.slice Ao ops.length co] 30, .cel x.2 [.int .i64 32] 3]) (fun y => y.1 ≤ bk.length) (fun y => bk.length - y.1) (0, A3, c3) (Nat.zero_le _) (hX.to (by repeat (first | exact Sub.nil | refine Sub.cons rfl ?_)) (Sel.cons tk1 (Sel.consE tk1 (row_eq rfl (by rw [curB_zero, byteV_ofNat bk.length (by omega) _ (by rw [IntKind.wrap_u8]; omega)]; simp)) (Sel.cons tk1 (Sel.cons tk1 Sel.nil))))) ?_
    clear hX
    rintro ⟨k, A4, c4⟩ a w hk hX
    dsimp only at hk hX
    refine wpIn_seq ?_
    refine c_region ?_
    refine xl_cons ?_; ((refine y_pure (d := 23) hX ⟨rfl, rfl⟩ rfl (p_lss hX.st rfl rfl rfl) ?_; clear hX; intro a w hX))
    refine x_end ?_
    refine q_then ?_
    refine wpIn_seq ?_
    refine c_cond hX rfl (fun hc => ?_) (fun hc => ?_)
    ·
      try (first | cases hc | exact (contra_tf hc (by with_reducible assumption)).elim | exact (contra_tf (by with_reducible assumption) hc).elim | exact absurd hc (by decide))
      all_goals
        refine c_skip ?_
        refine q_then ?_
        refine wpIn_seq ?_
        refine c_block ?_
        refine wpIn_seq ?_
        have hlt : k < bk.length := by simpa using hc
        obtain ⟨bo, po, rfl, hbo, hcell⟩ := hRb.op hlt
        have hB3 := hB2 _ (hA2 _ _ rfl)
        refine c_region ?_
        refine xl_cons ?_; ((refine y_pure (d := 24) hX ⟨rfl, rfl⟩ rfl (p_index hX.st rfl tab_ok rfl rfl rfl rfl rfl (by first | rfl | omega) (by first | decide | omega)) ?_; clear hX; intro a w hX))
        refine xl_cons ?_; (refine y_read (d := 25) hX ⟨rfl, rfl⟩ rfl (v_load_old_agg hX.st rfl tab_ok rfl rfl rfl hB3 (vs := opC bk[k]) rfl hcell) ?_; clear hX; intro a w hX)
        refine xl_cons ?_; (first | (refine y_alloc_agg (d := 8) hX rfl ⟨rfl, rfl⟩ rfl tab_ok rfl rfl ?_; clear hX; intro bo8 a w hX) | (refine y_alloc_one (d := 8) hX rfl ⟨rfl, rfl⟩ rfl tab_ok rfl rfl rfl ?_; clear hX; intro bo8 a w hX))
        refine xl_cons ?_; (first | (refine y_store hX rfl ⟨rfl, rfl⟩ tab_ok rfl rfl rfl rfl rfl foc0 (by repeat (first | exact SetAt.zero | apply SetAt.succ)) ?_; clear hX; intro a w hX) | (refine y_store hX rfl ⟨rfl, rfl⟩ tab_ok rfl rfl rfl rfl rfl foc1 (by repeat (first | exact SetAt.zero | apply SetAt.succ)) ?_; clear hX; intro a w hX) | (refine y_store hX rfl ⟨rfl, rfl⟩ tab_ok rfl rfl rfl rfl rfl foc2 (by repeat (first | exact SetAt.zero | apply SetAt.succ)) ?_; clear hX; intro a w hX) | (refine y_store hX rfl ⟨rfl, rfl⟩ tab_ok rfl rfl rfl rfl rfl foc3 (by repeat (first | exact SetAt.zero | apply SetAt.succ)) ?_; clear hX; intro a w hX) | (refine y_store hX rfl ⟨rfl, rfl⟩ tab_ok rfl rfl rfl rfl rfl foc4 (by repeat (first | exact SetAt.zero | apply SetAt.succ)) ?_; clear hX; intro a w hX) | (refine y_store hX rfl ⟨rfl, rfl⟩ tab_ok rfl rfl rfl rfl rfl foc5 (by repeat (first | exact SetAt.zero | apply SetAt.succ)) ?_; clear hX; intro a w hX) | (refine y_store hX rfl ⟨rfl, rfl⟩ tab_ok rfl rfl rfl rfl rfl foc6 (by repeat (first | exact SetAt.zero | apply SetAt.succ)) ?_; clear hX; intro a w hX) | (refine y_store hX rfl ⟨rfl, rfl⟩ tab_ok rfl rfl rfl rfl rfl foc7 (by repeat (first | exact SetAt.zero | apply SetAt.succ)) ?_; clear hX; intro a w hX) | (refine y_store hX rfl ⟨rfl, rfl⟩ tab_ok rfl rfl rfl rfl rfl foc8 (by repeat (first | exact SetAt.zero | apply SetAt.succ)) ?_; clear hX; intro a w hX) | (refine y_store hX rfl ⟨rfl, rfl⟩ tab_ok rfl rfl rfl rfl rfl foc9 (by repeat (first | exact SetAt.zero | apply SetAt.succ)) ?_; clear hX; intro a w hX) | (refine y_store hX rfl ⟨rfl, rfl⟩ tab_ok rfl rfl rfl rfl rfl foc10 (by repeat (first | exact SetAt.zero | apply SetAt.succ)) ?_; clear hX; intro a w hX) | (refine y_store hX rfl ⟨rfl, rfl⟩ tab_ok rfl rfl rfl rfl rfl foc11 (by repeat (first | exact SetAt.zero | apply SetAt.succ)) ?_; clear hX; intro a w hX) | (refine y_store hX rfl ⟨rfl, rfl⟩ tab_ok rfl rfl rfl rfl rfl foc12 (by repeat (first | exact SetAt.zero | apply SetAt.succ)) ?_; clear hX; intro a w hX) | (refine y_store_agg hX rfl ⟨rfl, rfl⟩ tab_ok rfl rfl rfl rfl foc0 rfl rfl ?_; clear hX; intro a w hX) | (refine y_store_agg hX rfl ⟨rfl, rfl⟩ tab_ok rfl rfl rfl rfl foc1 rfl rfl ?_; clear hX; intro a w hX) | (refine y_store_agg hX rfl ⟨rfl, rfl⟩ tab_ok rfl rfl rfl rfl foc2 rfl rfl ?_; clear hX; intro a w hX) | (refine y_store_agg hX rfl ⟨rfl, rfl⟩ tab_ok rfl rfl rfl rfl foc3 rfl rfl ?_; clear hX; intro a w hX) | (refine y_store_agg hX rfl ⟨rfl, rfl⟩ tab_ok rfl rfl rfl rfl foc4 rfl rfl ?_; clear hX; intro a w hX) | (refine y_store_agg hX rfl ⟨rfl, rfl⟩ tab_ok rfl rfl rfl rfl foc5 rfl rfl ?_; clear hX; intro a w hX) | (refine y_store_agg hX rfl ⟨rfl, rfl⟩ tab_ok rfl rfl rfl rfl foc6 rfl rfl ?_; clear hX; intro a w hX) | (refine y_store_agg hX rfl ⟨rfl, rfl⟩ tab_ok rfl rfl rfl rfl foc7 rfl rfl ?_; clear hX; intro a w hX) | (refine y_store_agg hX rfl ⟨rfl, rfl⟩ tab_ok rfl rfl rfl rfl foc8 rfl rfl ?_; clear hX; intro a w hX) | (refine y_store_agg hX rfl ⟨rfl, rfl⟩ tab_ok rfl rfl rfl rfl foc9 rfl rfl ?_; clear hX; intro a w hX) | (refine y_store_agg hX rfl ⟨rfl, rfl⟩ tab_ok rfl rfl rfl rfl foc10 rfl rfl ?_; clear hX; intro a w hX) | (refine y_store_agg hX rfl ⟨rfl, rfl⟩ tab_ok rfl rfl rfl rfl foc11 rfl rfl ?_; clear hX; intro a w hX) | (refine y_store_agg hX rfl ⟨rfl, rfl⟩ tab_ok rfl rfl rfl rfl foc12 rfl rfl ?_; clear hX; intro a w hX))
        refine x_end ?_
        refine q_then ?_
        refine c_region ?_
        refine xl_cons ?_; (first | (refine y_read (d := 26) hX ⟨rfl, rfl⟩ rfl (v_load hX.st rfl tab_ok rfl rfl rfl foc0 rfl) ?_; clear hX; intro a w hX) | (refine y_read (d := 26) hX ⟨rfl, rfl⟩ rfl (v_load hX.st rfl tab_ok rfl rfl rfl foc1 rfl) ?_; clear hX; intro a w hX) | (refine y_read (d := 26) hX ⟨rfl, rfl⟩ rfl (v_load hX.st rfl tab_ok rfl rfl rfl foc2 rfl) ?_; clear hX; intro a w hX) | (refine y_read (d := 26) hX ⟨rfl, rfl⟩ rfl (v_load hX.st rfl tab_ok rfl rfl rfl foc3 rfl) ?_; clear hX; intro a w hX) | (refine y_read (d := 26) hX ⟨rfl, rfl⟩ rfl (v_load hX.st rfl tab_ok rfl rfl rfl foc4 rfl) ?_; clear hX; intro a w hX) | (refine y_read (d := 26) hX ⟨rfl, rfl⟩ rfl (v_load hX.st rfl tab_ok rfl rfl rfl foc5 rfl) ?_; clear hX; intro a w hX) | (refine y_read (d := 26) hX ⟨rfl, rfl⟩ rfl (v_load hX.st rfl tab_ok rfl rfl rfl foc6 rfl) ?_; clear hX; intro a w hX) | (refine y_read (d := 26) hX ⟨rfl, rfl⟩ rfl (v_load hX.st rfl tab_ok rfl rfl rfl foc7 rfl) ?_; clear hX; intro a w hX) | (refine y_read (d := 26) hX ⟨rfl, rfl⟩ rfl (v_load hX.st rfl tab_ok rfl rfl rfl foc8 rfl) ?_; clear hX; intro a w hX) | (refine y_read (d := 26) hX ⟨rfl, rfl⟩ rfl (v_load hX.st rfl tab_ok rfl rfl rfl foc9 rfl) ?_; clear hX; intro a w hX) | (refine y_read (d := 26) hX ⟨rfl, rfl⟩ rfl (v_load hX.st rfl tab_ok rfl rfl rfl foc10 rfl) ?_; clear hX; intro a w hX) | (refine y_read (d := 26) hX ⟨rfl, rfl⟩ rfl (v_load hX.st rfl tab_ok rfl rfl rfl foc11 rfl) ?_; clear hX; intro a w hX) | (refine y_read (d := 26) hX ⟨rfl, rfl⟩ rfl (v_load hX.st rfl tab_ok rfl rfl rfl foc12 rfl) ?_; clear hX; intro a w hX) | (refine y_read (d := 26) hX ⟨rfl, rfl⟩ rfl (v_load_old hX.st rfl tab_ok rfl rfl rfl (by assumption) (by assumption)) ?_; clear hX; intro a w hX))
        refine xl_cons ?_; (first | (refine y_read (d := 27) hX ⟨rfl, rfl⟩ rfl (v_load_whole hX.st rfl tab_ok rfl rfl rfl foc0 rfl) ?_; clear hX; intro a w hX) | (refine y_read (d := 27) hX ⟨rfl, rfl⟩ rfl (v_load_whole hX.st rfl tab_ok rfl rfl rfl foc1 rfl) ?_; clear hX; intro a w hX) | (refine y_read (d := 27) hX ⟨rfl, rfl⟩ rfl (v_load_whole hX.st rfl tab_ok rfl rfl rfl foc2 rfl) ?_; clear hX; intro a w hX) | (refine y_read (d := 27) hX ⟨rfl, rfl⟩ rfl (v_load_whole hX.st rfl tab_ok rfl rfl rfl foc3 rfl) ?_; clear hX; intro a w hX) | (refine y_read (d := 27) hX ⟨rfl, rfl⟩ rfl (v_load_whole hX.st rfl tab_ok rfl rfl rfl foc4 rfl) ?_; clear hX; intro a w hX) | (refine y_read (d := 27) hX ⟨rfl, rfl⟩ rfl (v_load_whole hX.st rfl tab_ok rfl rfl rfl foc5 rfl) ?_; clear hX; intro a w hX) | (refine y_read (d := 27) hX ⟨rfl, rfl⟩ rfl (v_load_whole hX.st rfl tab_ok rfl rfl rfl foc6 rfl) ?_; clear hX; intro a w hX) | (refine y_read (d := 27) hX ⟨rfl, rfl⟩ rfl (v_load_whole hX.st rfl tab_ok rfl rfl rfl foc7 rfl) ?_; clear hX; intro a w hX) | (refine y_read (d := 27) hX ⟨rfl, rfl⟩ rfl (v_load_whole hX.st rfl tab_ok rfl rfl rfl foc8 rfl) ?_; clear hX; intro a w hX) | (refine y_read (d := 27) hX ⟨rfl, rfl⟩ rfl (v_load_whole hX.st rfl tab_ok rfl rfl rfl foc9 rfl) ?_; clear hX; intro a w hX) | (refine y_read (d := 27) hX ⟨rfl, rfl⟩ rfl (v_load_whole hX.st rfl tab_ok rfl rfl rfl foc10 rfl) ?_; clear hX; intro a w hX) | (refine y_read (d := 27) hX ⟨rfl, rfl⟩ rfl (v_load_whole hX.st rfl tab_ok rfl rfl rfl foc11 rfl) ?_; clear hX; intro a w hX) | (refine y_read (d := 27) hX ⟨rfl, rfl⟩ rfl (v_load_whole hX.st rfl tab_ok rfl rfl rfl foc12 rfl) ?_; clear hX; intro a w hX))
        refine xl_cons ?_; (refine y_callR (d := 28) hX rfl ⟨rfl, rfl⟩ rfl Try.func34 rfl rfl rfl (put_op_at bk[k] (hgb _ (List.getElem_mem hlt)) _ _ _ (curB bs bk k) (curB_length _ _ _ hk) (by omega) _ _ [.cel bo8 (opC bk[k]) 53, .cel bp [.slice A4 (bs.length + 1 + k * 3) c4] 22, .cel x.1 [.slice Ao ops.length co] 30, .cel x.2 [.int .i64 32] 3] _ (hX.sh.sel (by with_reducible (repeat (first | exact Sel.refl _ | exact Sel.nil | refine Sel.cons tk0 ?_ | refine Sel.cons tk1 ?_ | refine Sel.cons tk2 ?_ | refine Sel.cons tk3 ?_ | refine Sel.cons tk4 ?_ | refine Sel.cons tk5 ?_ | refine Sel.cons tk6 ?_ | refine Sel.cons tk7 ?_ | refine Sel.cons tk8 ?_ | refine Sel.cons tk9 ?_ | refine Sel.cons tk10 ?_ | refine Sel.cons tk11 ?_ | refine Sel.cons tk12 ?_))))) ?_; clear hX; rintro A5 c5 a w hX)
        refine xl_cons ?_; (first | (refine y_store hX rfl ⟨rfl, rfl⟩ tab_ok rfl rfl rfl rfl rfl foc0 (by repeat (first | exact SetAt.zero | apply SetAt.succ)) ?_; clear hX; intro a w hX) | (refine y_store hX rfl ⟨rfl, rfl⟩ tab_ok rfl rfl rfl rfl rfl foc1 (by repeat (first | exact SetAt.zero | apply SetAt.succ)) ?_; clear hX; intro a w hX) | (refine y_store hX rfl ⟨rfl, rfl⟩ tab_ok rfl rfl rfl rfl rfl foc2 (by repeat (first | exact SetAt.zero | apply SetAt.succ)) ?_; clear hX; intro a w hX) | (refine y_store hX rfl ⟨rfl, rfl⟩ tab_ok rfl rfl rfl rfl rfl foc3 (by repeat (first | exact SetAt.zero | apply SetAt.succ)) ?_; clear hX; intro a w hX) | (refine y_store hX rfl ⟨rfl, rfl⟩ tab_ok rfl rfl rfl rfl rfl foc4 (by repeat (first | exact SetAt.zero | apply SetAt.succ)) ?_; clear hX; intro a w hX) | (refine y_store hX rfl ⟨rfl, rfl⟩ tab_ok rfl rfl rfl rfl rfl foc5 (by repeat (first | exact SetAt.zero | apply SetAt.succ)) ?_; clear hX; intro a w hX) | (refine y_store hX rfl ⟨rfl, rfl⟩ tab_ok rfl rfl rfl rfl rfl foc6 (by repeat (first | exact SetAt.zero | apply SetAt.succ)) ?_; clear hX; intro a w hX) | (refine y_store hX rfl ⟨rfl, rfl⟩ tab_ok rfl rfl rfl rfl rfl foc7 (by repeat (first | exact SetAt.zero | apply SetAt.succ)) ?_; clear hX; intro a w hX) | (refine y_store hX rfl ⟨rfl, rfl⟩ tab_ok rfl rfl rfl rfl rfl foc8 (by repeat (first | exact SetAt.zero | apply SetAt.succ)) ?_; clear hX; intro a w hX) | (refine y_store hX rfl ⟨rfl, rfl⟩ tab_ok rfl rfl rfl rfl rfl foc9 (by repeat (first | exact SetAt.zero | apply SetAt.succ)) ?_; clear hX; intro a w hX) | (refine y_store hX rfl ⟨rfl, rfl⟩ tab_ok rfl rfl rfl rfl rfl foc10 (by repeat (first | exact SetAt.zero | apply SetAt.succ)) ?_; clear hX; intro a w hX) | (refine y_store hX rfl ⟨rfl, rfl⟩ tab_ok rfl rfl rfl rfl rfl foc11 (by repeat (first | exact SetAt.zero | apply SetAt.succ)) ?_; clear hX; intro a w hX) | (refine y_store hX rfl ⟨rfl, rfl⟩ tab_ok rfl rfl rfl rfl rfl foc12 (by repeat (first | exact SetAt.zero | apply SetAt.succ)) ?_; clear hX; intro a w hX) | (refine y_store_agg hX rfl ⟨rfl, rfl⟩ tab_ok rfl rfl rfl rfl foc0 rfl rfl ?_; clear hX; intro a w hX) | (refine y_store_agg hX rfl ⟨rfl, rfl⟩ tab_ok rfl rfl rfl rfl foc1 rfl rfl ?_; clear hX; intro a w hX) | (refine y_store_agg hX rfl ⟨rfl, rfl⟩ tab_ok rfl rfl rfl rfl foc2 rfl rfl ?_; clear hX; intro a w hX) | (refine y_store_agg hX rfl ⟨rfl, rfl⟩ tab_ok rfl rfl rfl rfl foc3 rfl rfl ?_; clear hX; intro a w hX) | (refine y_store_agg hX rfl ⟨rfl, rfl⟩ tab_ok rfl rfl rfl rfl foc4 rfl rfl ?_; clear hX; intro a w hX) | (refine y_store_agg hX rfl ⟨rfl, rfl⟩ tab_ok rfl rfl rfl rfl foc5 rfl rfl ?_; clear hX; intro a w hX) | (refine y_store_agg hX rfl ⟨rfl, rfl⟩ tab_ok rfl rfl rfl rfl foc6 rfl rfl ?_; clear hX; intro a w hX) | (refine y_store_agg hX rfl ⟨rfl, rfl⟩ tab_ok rfl rfl rfl rfl foc7 rfl rfl ?_; clear hX; intro a w hX) | (refine y_store_agg hX rfl ⟨rfl, rfl⟩ tab_ok rfl rfl rfl rfl foc8 rfl rfl ?_; clear hX; intro a w hX) | (refine y_store_agg hX rfl ⟨rfl, rfl⟩ tab_ok rfl rfl rfl rfl foc9 rfl rfl ?_; clear hX; intro a w hX) | (refine y_store_agg hX rfl ⟨rfl, rfl⟩ tab_ok rfl rfl rfl rfl foc10 rfl rfl ?_; clear hX; intro a w hX) | (refine y_store_agg hX rfl ⟨rfl, rfl⟩ tab_ok rfl rfl rfl rfl foc11 rfl rfl ?_; clear hX; intro a w hX) | (refine y_store_agg hX rfl ⟨rfl, rfl⟩ tab_ok rfl rfl rfl rfl foc12 rfl rfl ?_; clear hX; intro a w hX))
        refine x_end ?_
        refine q_block ?_
        refine q_then ?_
        refine c_region ?_
        refine xl_cons ?_; (first | (refine y_pure (d := 29) hX ⟨rfl, rfl⟩ rfl (p_add hX.st rfl rfl rfl (in_i64 (by omega) (by omega))) ?_; clear hX; intro a w hX) | (refine y_pure (d := 29) hX ⟨rfl, rfl⟩ rfl (p_add hX.st rfl rfl rfl rfl) ?_; clear hX; intro a w hX))
        refine xl_cons ?_; ((refine y_pure (d := 22) hX ⟨rfl, rfl⟩ rfl (p_move hX.st rfl rfl) ?_; clear hX; intro a w hX))
        refine x_end ?_
        refine q_then ?_
        rw [curB_succ _ _ _ hlt] at hX
        exact ⟨(k + 1, A5, c5), by dsimp only; omega, by dsimp only; omega, hX.to (Sub.cons (look_int rfl (by dsimp only; omega)) (by repeat (first | exact Sub.nil | refine Sub.cons rfl ?_))) (Sel.consE tk2 (cel_eq (congrArg (fun x => [x]) (slice_eq (by dsimp only; omega)))) (Sel.consE tk0 (row_eq (by dsimp only; omega) rfl) (Sel.cons tk1 (Sel.cons tk1 Sel.nil))))⟩
    ·
      try (first | cases hc | exact (contra_tf hc (by with_reducible assumption)).elim | exact (contra_tf (by with_reducible assumption) hc).elim | exact absurd hc (by decide))
      all_goals
        refine c_exit ?_
        refine q_then_exit ?_
        refine q_then_exit ?_
        refine q_block_exit ?_
        refine q_then ?_
        refine c_region ?_
        refine xl_cons ?_; (first | (refine y_read (d := 30) hX ⟨rfl, rfl⟩ rfl (v_load hX.st rfl tab_ok rfl rfl rfl foc0 rfl) ?_; clear hX; intro a w hX) | (refine y_read (d := 30) hX ⟨rfl, rfl⟩ rfl (v_load hX.st rfl tab_ok rfl rfl rfl foc1 rfl) ?_; clear hX; intro a w hX) | (refine y_read (d := 30) hX ⟨rfl, rfl⟩ rfl (v_load hX.st rfl tab_ok rfl rfl rfl foc2 rfl) ?_; clear hX; intro a w hX) | (refine y_read (d := 30) hX ⟨rfl, rfl⟩ rfl (v_load hX.st rfl tab_ok rfl rfl rfl foc3 rfl) ?_; clear hX; intro a w hX) | (refine y_read (d := 30) hX ⟨rfl, rfl⟩ rfl (v_load hX.st rfl tab_ok rfl rfl rfl foc4 rfl) ?_; clear hX; intro a w hX) | (refine y_read (d := 30) hX ⟨rfl, rfl⟩ rfl (v_load hX.st rfl tab_ok rfl rfl rfl foc5 rfl) ?_; clear hX; intro a w hX) | (refine y_read (d := 30) hX ⟨rfl, rfl⟩ rfl (v_load hX.st rfl tab_ok rfl rfl rfl foc6 rfl) ?_; clear hX; intro a w hX) | (refine y_read (d := 30) hX ⟨rfl, rfl⟩ rfl (v_load hX.st rfl tab_ok rfl rfl rfl foc7 rfl) ?_; clear hX; intro a w hX) | (refine y_read (d := 30) hX ⟨rfl, rfl⟩ rfl (v_load hX.st rfl tab_ok rfl rfl rfl foc8 rfl) ?_; clear hX; intro a w hX) | (refine y_read (d := 30) hX ⟨rfl, rfl⟩ rfl (v_load hX.st rfl tab_ok rfl rfl rfl foc9 rfl) ?_; clear hX; intro a w hX) | (refine y_read (d := 30) hX ⟨rfl, rfl⟩ rfl (v_load hX.st rfl tab_ok rfl rfl rfl foc10 rfl) ?_; clear hX; intro a w hX) | (refine y_read (d := 30) hX ⟨rfl, rfl⟩ rfl (v_load hX.st rfl tab_ok rfl rfl rfl foc11 rfl) ?_; clear hX; intro a w hX) | (refine y_read (d := 30) hX ⟨rfl, rfl⟩ rfl (v_load hX.st rfl tab_ok rfl rfl rfl foc12 rfl) ?_; clear hX; intro a w hX) | (refine y_read (d := 30) hX ⟨rfl, rfl⟩ rfl (v_load_old hX.st rfl tab_ok rfl rfl rfl (by assumption) (by assumption)) ?_; clear hX; intro a w hX))
        refine xl_cons ?_; ((refine y_pure (d := 31) hX ⟨rfl, rfl⟩ rfl (p_move hX.st rfl rfl) ?_; clear hX; intro a w hX))
        refine xl_cons ?_; (refine y_callR (d := 32) hX rfl ⟨rfl, rfl⟩ rfl Try.func32 rfl rfl rfl (put_sum bs.length _ _ _ (curB bs bk k) (curB_length _ _ _ hk) (by omega) (by omega) _ _ [.cel bp [.slice A4 (bs.length + 1 + k * 3) c4] 22, .cel x.1 [.slice Ao ops.length co] 30, .cel x.2 [.int .i64 32] 3] _ (hX.sh.sel (by with_reducible (repeat (first | exact Sel.refl _ | exact Sel.nil | refine Sel.cons tk0 ?_ | refine Sel.cons tk1 ?_ | refine Sel.cons tk2 ?_ | refine Sel.cons tk3 ?_ | refine Sel.cons tk4 ?_ | refine Sel.cons tk5 ?_ | refine Sel.cons tk6 ?_ | refine Sel.cons tk7 ?_ | refine Sel.cons tk8 ?_ | refine Sel.cons tk9 ?_ | refine Sel.cons tk10 ?_ | refine Sel.cons tk11 ?_ | refine Sel.cons tk12 ?_))))) ?_; clear hX; rintro A6 c6 a w hX)
        refine xl_cons ?_; (first | (refine y_store hX rfl ⟨rfl, rfl⟩ tab_ok rfl rfl rfl rfl rfl foc0 (by repeat (first | exact SetAt.zero | apply SetAt.succ)) ?_; clear hX; intro a w hX) | (refine y_store hX rfl ⟨rfl, rfl⟩ tab_ok rfl rfl rfl rfl rfl foc1 (by repeat (first | exact SetAt.zero | apply SetAt.succ)) ?_; clear hX; intro a w hX) | (refine y_store hX rfl ⟨rfl, rfl⟩ tab_ok rfl rfl rfl rfl rfl foc2 (by repeat (first | exact SetAt.zero | apply SetAt.succ)) ?_; clear hX; intro a w hX) | (refine y_store hX rfl ⟨rfl, rfl⟩ tab_ok rfl rfl rfl rfl rfl foc3 (by repeat (first | exact SetAt.zero | apply SetAt.succ)) ?_; clear hX; intro a w hX) | (refine y_store hX rfl ⟨rfl, rfl⟩ tab_ok rfl rfl rfl rfl rfl foc4 (by repeat (first | exact SetAt.zero | apply SetAt.succ)) ?_; clear hX; intro a w hX) | (refine y_store hX rfl ⟨rfl, rfl⟩ tab_ok rfl rfl rfl rfl rfl foc5 (by repeat (first | exact SetAt.zero | apply SetAt.succ)) ?_; clear hX; intro a w hX) | (refine y_store hX rfl ⟨rfl, rfl⟩ tab_ok rfl rfl rfl rfl rfl foc6 (by repeat (first | exact SetAt.zero | apply SetAt.succ)) ?_; clear hX; intro a w hX) | (refine y_store hX rfl ⟨rfl, rfl⟩ tab_ok rfl rfl rfl rfl rfl foc7 (by repeat (first | exact SetAt.zero | apply SetAt.succ)) ?_; clear hX; intro a w hX) | (refine y_store hX rfl ⟨rfl, rfl⟩ tab_ok rfl rfl rfl rfl rfl foc8 (by repeat (first | exact SetAt.zero | apply SetAt.succ)) ?_; clear hX; intro a w hX) | (refine y_store hX rfl ⟨rfl, rfl⟩ tab_ok rfl rfl rfl rfl rfl foc9 (by repeat (first | exact SetAt.zero | apply SetAt.succ)) ?_; clear hX; intro a w hX) | (refine y_store hX rfl ⟨rfl, rfl⟩ tab_ok rfl rfl rfl rfl rfl foc10 (by repeat (first | exact SetAt.zero | apply SetAt.succ)) ?_; clear hX; intro a w hX) | (refine y_store hX rfl ⟨rfl, rfl⟩ tab_ok rfl rfl rfl rfl rfl foc11 (by repeat (first | exact SetAt.zero | apply SetAt.succ)) ?_; clear hX; intro a w hX) | (refine y_store hX rfl ⟨rfl, rfl⟩ tab_ok rfl rfl rfl rfl rfl foc12 (by repeat (first | exact SetAt.zero | apply SetAt.succ)) ?_; clear hX; intro a w hX) | (refine y_store_agg hX rfl ⟨rfl, rfl⟩ tab_ok rfl rfl rfl rfl foc0 rfl rfl ?_; clear hX; intro a w hX) | (refine y_store_agg hX rfl ⟨rfl, rfl⟩ tab_ok rfl rfl rfl rfl foc1 rfl rfl ?_; clear hX; intro a w hX) | (refine y_store_agg hX rfl ⟨rfl, rfl⟩ tab_ok rfl rfl rfl rfl foc2 rfl rfl ?_; clear hX; intro a w hX) | (refine y_store_agg hX rfl ⟨rfl, rfl⟩ tab_ok rfl rfl rfl rfl foc3 rfl rfl ?_; clear hX; intro a w hX) | (refine y_store_agg hX rfl ⟨rfl, rfl⟩ tab_ok rfl rfl rfl rfl foc4 rfl rfl ?_; clear hX; intro a w hX) | (refine y_store_agg hX rfl ⟨rfl, rfl⟩ tab_ok rfl rfl rfl rfl foc5 rfl rfl ?_; clear hX; intro a w hX) | (refine y_store_agg hX rfl ⟨rfl, rfl⟩ tab_ok rfl rfl rfl rfl foc6 rfl rfl ?_; clear hX; intro a w hX) | (refine y_store_agg hX rfl ⟨rfl, rfl⟩ tab_ok rfl rfl rfl rfl foc7 rfl rfl ?_; clear hX; intro a w hX) | (refine y_store_agg hX rfl ⟨rfl, rfl⟩ tab_ok rfl rfl rfl rfl foc8 rfl rfl ?_; clear hX; intro a w hX) | (refine y_store_agg hX rfl ⟨rfl, rfl⟩ tab_ok rfl rfl rfl rfl foc9 rfl rfl ?_; clear hX; intro a w hX) | (refine y_store_agg hX rfl ⟨rfl, rfl⟩ tab_ok rfl rfl rfl rfl foc10 rfl rfl ?_; clear hX; intro a w hX) | (refine y_store_agg hX rfl ⟨rfl, rfl⟩ tab_ok rfl rfl rfl rfl foc11 rfl rfl ?_; clear hX; intro a w hX) | (refine y_store_agg hX rfl ⟨rfl, rfl⟩ tab_ok rfl rfl rfl rfl foc12 rfl rfl ?_; clear hX; intro a w hX))
        refine x_end ?_
        refine q_block ?_
        have hk' : k = bk.length := by have h5 := hc; simp only [decide_eq_false_iff_not] at h5; omega
        subst hk'
        rw [curB_end] at hX
        have hlen := encBlock_length bk
        refine ⟨(A6, c6), trivial, ?_⟩
        dsimp only
        rw [hBe, hnext]
        exact hX.sh.sel (Sel.consE tk1 (cel_eq (congrArg (fun x => [x]) (slice_eq (by simp only [List.length_append]; omega)))) (Sel.consE tk0 (row_eq (by simp only [List.length_append]; omega) rfl) (Sel.cons tk0 (Sel.cons tk0 Sel.nil))))
  ·
    intro k xs y a w hS _ hX
    rw [bsOf_end _ _ _ hS] at hX
    refine q_block ?_
    refine q_then ?_
    refine wpIn_seq ?_
    refine c_region ?_
    refine xl_cons ?_; (first | (refine y_read (d := 33) hX ⟨rfl, rfl⟩ rfl (v_load hX.st rfl tab_ok rfl rfl rfl foc0 rfl) ?_; clear hX; intro a w hX) | (refine y_read (d := 33) hX ⟨rfl, rfl⟩ rfl (v_load hX.st rfl tab_ok rfl rfl rfl foc1 rfl) ?_; clear hX; intro a w hX) | (refine y_read (d := 33) hX ⟨rfl, rfl⟩ rfl (v_load hX.st rfl tab_ok rfl rfl rfl foc2 rfl) ?_; clear hX; intro a w hX) | (refine y_read (d := 33) hX ⟨rfl, rfl⟩ rfl (v_load hX.st rfl tab_ok rfl rfl rfl foc3 rfl) ?_; clear hX; intro a w hX) | (refine y_read (d := 33) hX ⟨rfl, rfl⟩ rfl (v_load hX.st rfl tab_ok rfl rfl rfl foc4 rfl) ?_; clear hX; intro a w hX) | (refine y_read (d := 33) hX ⟨rfl, rfl⟩ rfl (v_load hX.st rfl tab_ok rfl rfl rfl foc5 rfl) ?_; clear hX; intro a w hX) | (refine y_read (d := 33) hX ⟨rfl, rfl⟩ rfl (v_load hX.st rfl tab_ok rfl rfl rfl foc6 rfl) ?_; clear hX; intro a w hX) | (refine y_read (d := 33) hX ⟨rfl, rfl⟩ rfl (v_load hX.st rfl tab_ok rfl rfl rfl foc7 rfl) ?_; clear hX; intro a w hX) | (refine y_read (d := 33) hX ⟨rfl, rfl⟩ rfl (v_load hX.st rfl tab_ok rfl rfl rfl foc8 rfl) ?_; clear hX; intro a w hX) | (refine y_read (d := 33) hX ⟨rfl, rfl⟩ rfl (v_load hX.st rfl tab_ok rfl rfl rfl foc9 rfl) ?_; clear hX; intro a w hX) | (refine y_read (d := 33) hX ⟨rfl, rfl⟩ rfl (v_load hX.st rfl tab_ok rfl rfl rfl foc10 rfl) ?_; clear hX; intro a w hX) | (refine y_read (d := 33) hX ⟨rfl, rfl⟩ rfl (v_load hX.st rfl tab_ok rfl rfl rfl foc11 rfl) ?_; clear hX; intro a w hX) | (refine y_read (d := 33) hX ⟨rfl, rfl⟩ rfl (v_load hX.st rfl tab_ok rfl rfl rfl foc12 rfl) ?_; clear hX; intro a w hX) | (refine y_read (d := 33) hX ⟨rfl, rfl⟩ rfl (v_load_old hX.st rfl tab_ok rfl rfl rfl (by assumption) (by assumption)) ?_; clear hX; intro a w hX))
    refine xl_cons ?_; ((refine y_pure (d := 4) hX ⟨rfl, rfl⟩ rfl (p_assign hX.st rfl rfl) ?_; clear hX; intro a w hX))
    refine x_end ?_
    refine q_then ?_
    refine c_ret ?_
    exact f_retM [k] (H := [_, _, _, _]) hX (fun w _ => res_tmp1 hX.st Try.results26 rfl w) fun w h => ⟨y.1, y.2, rfl, h.sel (Sel.cons tk1 Sel.nil)⟩
  ·
    intro k xs y a w hS hφ hX
    exact hφ.elim
end Go.Proofs.Ytjemilhbipaepaa
