/- P.Of; encoded, block, blocks of the law; same. -/
import Derived.Test.YtjemilhbipaepaaS16
import Derived.Test.YtjemilhbipaepaaS19
namespace Go.Proofs.Ytjemilhbipaepaa
open Go.RowKit

theorem odC_len (x : Od) : (odC x).length = 6 := rfl
theorem of_ok (x : Od) : opErr (ofO x) = 0 := by
  have hK1 : 1 ≤ 1 + x.k.toNat % 8 ∧ 1 + x.k.toNat % 8 ≤ 8 := by omega
  unfold ofO
  generalize 1 + x.k.toNat % 8 = K at hK1
  generalize x.d.toNat = d
  generalize x.b.toNat = b
  generalize x.p.toNat = p
  generalize x.y.toNat = y
  generalize x.r.toNat = r
  rcases (show K = 1 ∨ K = 2 ∨ K = 3 ∨ K = 4 ∨ K = 5 ∨ K = 6 ∨ K = 7 ∨ K = 8 by omega) with h | h | h | h | h | h | h | h <;> subst h <;>
    simp [ofK, opErr, opPlain, there, dirBad, needleBad, yarnBad, usesDir, usesNeedle, usesYarn, usesRack, needleOk] <;> omega
theorem ofs_ok (l : List Od) : opsErr (l.map ofO) = 0 := by
  induction l with
  | nil => rfl
  | cons x l ih => rw [List.map_cons, opsErr, if_pos (of_ok x)]; exact ih
set_option maxHeartbeats 1000000 in
theorem p_of (A : Option Addr) (c n : Nat) (l : List Od) (hn : l.length = n) (hl : n ≤ 1000000) (W : World) (hR : Reads W A n 6 (l.flatMap odC)) :
    Ret Try.prog 12 #[.slice A n c] W fun v w' => ∃ x : Option Addr × Nat, v = .slice x.1 n x.2 ∧ True ∧ SF W [.row x.1 x.2 53 6 n (opsC (l.map ofO))] w' := by
  subst hn
  refine f_start (vs := [.slice A l.length c]) [(0, .slice A l.length c)] Try.func12 rfl Try.ntmps12 rfl rfl ?_
  intro a hX
  refine wpIn_seq ?_
  refine c_region ?_
  refine xl_cons ?_; ((refine y_pure (d := 2) hX ⟨rfl, rfl⟩ rfl (p_assign hX.st rfl rfl) ?_; clear hX; intro a w hX))
  refine x_end ?_
  refine q_then ?_
  refine wpIn_seq ?_
  refine c_region ?_
  refine xl_cons ?_; ((refine y_pure (d := 3) hX ⟨rfl, rfl⟩ rfl (p_assign hX.st rfl rfl) ?_; clear hX; intro a w hX))
  refine x_end ?_
  refine q_then ?_
  refine wpIn_seq ?_
  refine wpIn_seq ?_
  refine c_region ?_
  refine xl_cons ?_; ((refine y_pure (d := 4) hX ⟨rfl, rfl⟩ rfl (p_assign hX.st rfl rfl) ?_; clear hX; intro a w hX))
  refine x_end ?_
  refine q_then ?_
  refine c_block ?_
  refine c_loopX (α := Nat × Option Addr × Nat) (fun x => [(0, .slice A l.length c), (3, .slice x.2.1 x.1 x.2.2), (4, .int .i64 (x.1 : Nat))]) (fun x => [.row x.2.1 x.2.2 53 6 x.1 (opsC ((l.take x.1).map ofO))]) (fun x => x.1 ≤ l.length) (fun x => l.length - x.1) (0, none, 0) (Nat.zero_le _) ⟨(hX.toL (by repeat (first | exact Sub.nil | refine Sub.cons rfl ?_))).st, hX.sh.nilRow 53 6⟩ ?_
  clear hX
  rintro ⟨i, A3, c3⟩ a w hi hX
  dsimp only at hi hX
  refine wpIn_seq ?_
  refine wpIn_seq ?_
  refine c_region ?_
  refine xl_cons ?_; ((refine y_pure (d := 5) hX ⟨rfl, rfl⟩ rfl (p_move hX.st rfl rfl) ?_; clear hX; intro a w hX))
  refine xl_cons ?_; ((refine y_pure (d := 6) hX ⟨rfl, rfl⟩ rfl (p_move hX.st rfl rfl) ?_; clear hX; intro a w hX))
  refine xl_cons ?_; ((refine y_pure (d := 7) hX ⟨rfl, rfl⟩ rfl (p_len hX.st rfl tab_ok rfl rfl rfl) ?_; clear hX; intro a w hX))
  refine xl_cons ?_; ((refine y_pure (d := 8) hX ⟨rfl, rfl⟩ rfl (p_lss hX.st rfl rfl rfl) ?_; clear hX; intro a w hX))
  refine x_end ?_
  refine q_then ?_
  refine c_cond hX rfl (fun hc => ?_) (fun hc => ?_)
  ·
    try (first | cases hc | exact (contra_tf hc (by with_reducible assumption)).elim | exact (contra_tf (by with_reducible assumption) hc).elim | exact absurd hc (by decide))
    all_goals
      refine c_skip ?_
      refine q_then ?_
      refine wpIn_seq ?_
      refine c_block ?_
      have hlt : i < l.length := by have h5 := hc; simp only [decide_eq_true_eq] at h5; omega
      obtain ⟨bo, po, rfl, hbo, hcell⟩ := hR.elem odC_len (by omega) hlt
      refine c_region ?_
      refine xl_cons ?_; ((refine y_pure (d := 11) hX ⟨rfl, rfl⟩ rfl (p_move hX.st rfl rfl) ?_; clear hX; intro a w hX))
      refine xl_cons ?_; ((refine y_pure (d := 12) hX ⟨rfl, rfl⟩ rfl (p_move hX.st rfl rfl) ?_; clear hX; intro a w hX))
      refine xl_cons ?_; ((refine y_pure (d := 13) hX ⟨rfl, rfl⟩ rfl (p_move hX.st rfl rfl) ?_; clear hX; intro a w hX))
      refine xl_cons ?_; ((refine y_pure (d := 14) hX ⟨rfl, rfl⟩ rfl (p_index hX.st rfl tab_ok rfl rfl rfl rfl rfl (by first | rfl | omega) (by first | decide | omega)) ?_; clear hX; intro a w hX))
      refine xl_cons ?_; (refine y_read (d := 15) hX ⟨rfl, rfl⟩ rfl (v_load_old_agg hX.st rfl tab_ok rfl rfl rfl hbo (vs := odC l[i]) rfl hcell) ?_; clear hX; intro a w hX)
      refine xl_cons ?_; (refine y_callP (d := 16) hX rfl ⟨rfl, rfl⟩ rfl Try.func22 rfl rfl rfl (o_of _ _) ?_; clear hX; intro a w hX)
      refine xl_cons ?_; (refine y_buildSlice1 (d := 17) hX rfl ⟨rfl, rfl⟩ rfl tab_ok rfl rfl rfl rfl rfl rfl rfl rfl rfl ?_; clear hX; intro b a w hX)
      refine xl_cons ?_; (first | (refine y_append_cel (d := 18) hX rfl ⟨rfl, rfl⟩ rfl tab_ok rfl rfl rfl rfl rfl rfl rfl foc1 foc0 rfl rfl (by first | omega | (simp only [ti5, ti3, ti53]; omega)) (by first | omega | (simp only [ti5, ti3, ti53]; omega)) ?_; clear hX; intro A4 c4 a w hX) | (refine y_append_cel (d := 18) hX rfl ⟨rfl, rfl⟩ rfl tab_ok rfl rfl rfl rfl rfl rfl rfl foc2 foc0 rfl rfl (by first | omega | (simp only [ti5, ti3, ti53]; omega)) (by first | omega | (simp only [ti5, ti3, ti53]; omega)) ?_; clear hX; intro A4 c4 a w hX) | (refine y_append_cel (d := 18) hX rfl ⟨rfl, rfl⟩ rfl tab_ok rfl rfl rfl rfl rfl rfl rfl foc3 foc0 rfl rfl (by first | omega | (simp only [ti5, ti3, ti53]; omega)) (by first | omega | (simp only [ti5, ti3, ti53]; omega)) ?_; clear hX; intro A4 c4 a w hX) | (refine y_append_cel (d := 18) hX rfl ⟨rfl, rfl⟩ rfl tab_ok rfl rfl rfl rfl rfl rfl rfl foc4 foc0 rfl rfl (by first | omega | (simp only [ti5, ti3, ti53]; omega)) (by first | omega | (simp only [ti5, ti3, ti53]; omega)) ?_; clear hX; intro A4 c4 a w hX) | (refine y_append_cel (d := 18) hX rfl ⟨rfl, rfl⟩ rfl tab_ok rfl rfl rfl rfl rfl rfl rfl foc0 foc1 rfl rfl (by first | omega | (simp only [ti5, ti3, ti53]; omega)) (by first | omega | (simp only [ti5, ti3, ti53]; omega)) ?_; clear hX; intro A4 c4 a w hX) | (refine y_append_cel (d := 18) hX rfl ⟨rfl, rfl⟩ rfl tab_ok rfl rfl rfl rfl rfl rfl rfl foc2 foc1 rfl rfl (by first | omega | (simp only [ti5, ti3, ti53]; omega)) (by first | omega | (simp only [ti5, ti3, ti53]; omega)) ?_; clear hX; intro A4 c4 a w hX) | (refine y_append_cel (d := 18) hX rfl ⟨rfl, rfl⟩ rfl tab_ok rfl rfl rfl rfl rfl rfl rfl foc3 foc1 rfl rfl (by first | omega | (simp only [ti5, ti3, ti53]; omega)) (by first | omega | (simp only [ti5, ti3, ti53]; omega)) ?_; clear hX; intro A4 c4 a w hX) | (refine y_append_cel (d := 18) hX rfl ⟨rfl, rfl⟩ rfl tab_ok rfl rfl rfl rfl rfl rfl rfl foc4 foc1 rfl rfl (by first | omega | (simp only [ti5, ti3, ti53]; omega)) (by first | omega | (simp only [ti5, ti3, ti53]; omega)) ?_; clear hX; intro A4 c4 a w hX) | (refine y_append_cel (d := 18) hX rfl ⟨rfl, rfl⟩ rfl tab_ok rfl rfl rfl rfl rfl rfl rfl foc0 foc2 rfl rfl (by first | omega | (simp only [ti5, ti3, ti53]; omega)) (by first | omega | (simp only [ti5, ti3, ti53]; omega)) ?_; clear hX; intro A4 c4 a w hX) | (refine y_append_cel (d := 18) hX rfl ⟨rfl, rfl⟩ rfl tab_ok rfl rfl rfl rfl rfl rfl rfl foc1 foc2 rfl rfl (by first | omega | (simp only [ti5, ti3, ti53]; omega)) (by first | omega | (simp only [ti5, ti3, ti53]; omega)) ?_; clear hX; intro A4 c4 a w hX) | (refine y_append_cel (d := 18) hX rfl ⟨rfl, rfl⟩ rfl tab_ok rfl rfl rfl rfl rfl rfl rfl foc3 foc2 rfl rfl (by first | omega | (simp only [ti5, ti3, ti53]; omega)) (by first | omega | (simp only [ti5, ti3, ti53]; omega)) ?_; clear hX; intro A4 c4 a w hX) | (refine y_append_cel (d := 18) hX rfl ⟨rfl, rfl⟩ rfl tab_ok rfl rfl rfl rfl rfl rfl rfl foc4 foc2 rfl rfl (by first | omega | (simp only [ti5, ti3, ti53]; omega)) (by first | omega | (simp only [ti5, ti3, ti53]; omega)) ?_; clear hX; intro A4 c4 a w hX))
      refine xl_cons ?_; ((refine y_pure (d := 3) hX ⟨rfl, rfl⟩ rfl (p_assign hX.st rfl rfl) ?_; clear hX; intro a w hX))
      refine x_end ?_
      refine q_block ?_
      refine q_then ?_
      refine c_region ?_
      refine xl_cons ?_; ((refine y_pure (d := 9) hX ⟨rfl, rfl⟩ rfl (p_move hX.st rfl rfl) ?_; clear hX; intro a w hX))
      refine xl_cons ?_; (first | (refine y_pure (d := 10) hX ⟨rfl, rfl⟩ rfl (p_add hX.st rfl rfl rfl (in_i64 (by omega) (by omega))) ?_; clear hX; intro a w hX) | (refine y_pure (d := 10) hX ⟨rfl, rfl⟩ rfl (p_add hX.st rfl rfl rfl rfl) ?_; clear hX; intro a w hX))
      refine xl_cons ?_; ((refine y_pure (d := 4) hX ⟨rfl, rfl⟩ rfl (p_assign hX.st rfl rfl) ?_; clear hX; intro a w hX))
      refine x_end ?_
      refine q_then ?_
      exact ⟨(i + 1, A4, c4), by dsimp only; omega, by dsimp only; omega, hX.to (Sub.cons rfl (Sub.cons rfl (Sub.cons (look_int rfl (by dsimp only; omega)) (by repeat (first | exact Sub.nil | refine Sub.cons rfl ?_))))) (Sel.consE tk1 (row_eq rfl (by dsimp only; rw [List.take_succ_eq_append_getElem hlt]; simp only [List.map_append, List.map_cons, List.map_nil, opsC, List.flatMap_append, List.flatMap_cons, List.flatMap_nil, List.append_nil])) Sel.nil)⟩
  ·
    try (first | cases hc | exact (contra_tf hc (by with_reducible assumption)).elim | exact (contra_tf (by with_reducible assumption) hc).elim | exact absurd hc (by decide))
    all_goals
      refine c_exit ?_
      refine q_then_exit ?_
      refine q_then_exit ?_
      refine q_block_exit ?_
      refine q_then ?_
      refine wpIn_seq ?_
      refine c_region ?_
      refine xl_cons ?_; ((refine y_pure (d := 19) hX ⟨rfl, rfl⟩ rfl (p_move hX.st rfl rfl) ?_; clear hX; intro a w hX))
      refine xl_cons ?_; ((refine y_pure (d := 2) hX ⟨rfl, rfl⟩ rfl (p_assign hX.st rfl rfl) ?_; clear hX; intro a w hX))
      refine x_end ?_
      refine q_then ?_
      refine c_ret ?_
      have hie : i = l.length := by have h5 := hc; simp only [decide_eq_false_iff_not] at h5; omega
      subst hie
      rw [List.take_length] at hX
      exact f_ret1 hX Try.results12 rfl ⟨(A3, c3), rfl, trivial, hX.sh⟩
theorem list3b {α : Type} {a b c a' b' c' : α} (h1 : a = a') (h2 : b = b') (h3 : c = c') : [a, b, c] = [a', b', c'] := by rw [h1, h2, h3]
theorem encoded_any (o : Op) (hg : Good o) (W : World) : Ret Try.prog 30 #[.agg (opC o).toArray] W fun v w' => ∃ b : Nat, v = .slice (some ⟨b, 0, none⟩) 3 3 ∧ True ∧ SF W [.cel b ((encOp o).map byteV) 5] w' := by
  refine f_start (vs := [.agg (opC o).toArray]) [(0, .agg (opC o).toArray)] Try.func30 rfl Try.ntmps30 rfl rfl ?_
  intro a hX
  obtain ⟨g1, g2, g3, g4, g5, g6, g7, g8⟩ := hg
  refine wpIn_seq ?_
  refine c_region ?_
  refine xl_cons ?_; (first | (refine y_box_agg (d := 1) hX rfl ⟨rfl, rfl⟩ rfl rfl ?_; clear hX; intro b a w hX) | (refine y_box_one (d := 1) hX rfl ⟨rfl, rfl⟩ rfl rfl rfl ?_; clear hX; intro b a w hX))
  refine xl_cons ?_; ((refine y_pure (d := 2) hX ⟨rfl, rfl⟩ rfl (p_assign hX.st rfl rfl) ?_; clear hX; intro a w hX))
  refine x_end ?_
  refine q_then ?_
  refine wpIn_seq ?_
  refine c_region ?_
  refine xl_cons ?_; ((refine y_pure (d := 4) hX ⟨rfl, rfl⟩ rfl (p_field0 hX.st rfl tab_ok rfl rfl rfl rfl rfl rfl) ?_; clear hX; intro a w hX))
  refine xl_cons ?_; ((refine y_read (d := 5) hX ⟨rfl, rfl⟩ rfl (v_load hX.st rfl tab_ok rfl rfl rfl foc0 rfl) ?_; clear hX; intro a w hX))
  refine xl_cons ?_; (first | (refine y_pure (d := 6) hX ⟨rfl, rfl⟩ rfl (p_conv hX.st rfl tab_ok rfl rfl rfl rfl (in_i64 (by omega) (by omega))) ?_; clear hX; intro a w hX) | (refine y_pure (d := 6) hX ⟨rfl, rfl⟩ rfl (p_conv hX.st rfl tab_ok rfl rfl rfl rfl rfl) ?_; clear hX; intro a w hX))
  refine xl_cons ?_; ((refine y_pure (d := 3) hX ⟨rfl, rfl⟩ rfl (p_assign hX.st rfl rfl) ?_; clear hX; intro a w hX))
  refine x_end ?_
  refine q_then ?_
  refine wpIn_seq ?_
  refine wpIn_seq ?_
  refine c_region ?_
  refine xl_cons ?_; ((refine y_pure (d := 7) hX ⟨rfl, rfl⟩ rfl (p_field0 hX.st rfl tab_ok rfl rfl rfl rfl rfl rfl) ?_; clear hX; intro a w hX))
  refine xl_cons ?_; ((refine y_read (d := 8) hX ⟨rfl, rfl⟩ rfl (v_load hX.st rfl tab_ok rfl rfl rfl foc0 rfl) ?_; clear hX; intro a w hX))
  refine xl_cons ?_; ((refine y_pure (d := 9) hX ⟨rfl, rfl⟩ rfl (p_eql hX.st rfl rfl rfl) ?_; clear hX; intro a w hX))
  refine x_end ?_
  refine q_then ?_
  refine c_cond hX rfl (fun hc => ?_) (fun hc => ?_)
  ·
    try (first | cases hc | exact (contra_tf hc (by with_reducible assumption)).elim | exact (contra_tf (by with_reducible assumption) hc).elim | exact absurd hc (by decide))
    all_goals
      refine c_region ?_
      refine xl_cons ?_; ((refine y_pure (d := 10) hX ⟨rfl, rfl⟩ rfl (p_field0 hX.st rfl tab_ok rfl rfl rfl rfl rfl rfl) ?_; clear hX; intro a w hX))
      refine xl_cons ?_; ((refine y_read (d := 11) hX ⟨rfl, rfl⟩ rfl (v_load hX.st rfl tab_ok rfl rfl rfl foc0 rfl) ?_; clear hX; intro a w hX))
      refine xl_cons ?_; (first | (refine y_pure (d := 12) hX ⟨rfl, rfl⟩ rfl (p_add hX.st rfl rfl rfl (in_i64 (by omega) (by omega))) ?_; clear hX; intro a w hX) | (refine y_pure (d := 12) hX ⟨rfl, rfl⟩ rfl (p_add hX.st rfl rfl rfl rfl) ?_; clear hX; intro a w hX))
      refine xl_cons ?_; ((refine y_pure (d := 3) hX ⟨rfl, rfl⟩ rfl (p_assign hX.st rfl rfl) ?_; clear hX; intro a w hX))
      refine x_end ?_
      refine q_then ?_
      refine wpIn_seq ?_
      refine c_region ?_
      refine xl_cons ?_; ((refine y_pure (d := 13) hX ⟨rfl, rfl⟩ rfl (p_field0 hX.st rfl tab_ok rfl rfl rfl rfl rfl rfl) ?_; clear hX; intro a w hX))
      refine xl_cons ?_; ((refine y_read (d := 14) hX ⟨rfl, rfl⟩ rfl (v_load hX.st rfl tab_ok rfl rfl rfl foc0 rfl) ?_; clear hX; intro a w hX))
      refine xl_cons ?_; (first | (refine y_pure (d := 15) hX ⟨rfl, rfl⟩ rfl (p_conv hX.st rfl tab_ok rfl rfl rfl rfl (in_i64 (by omega) (by omega))) ?_; clear hX; intro a w hX) | (refine y_pure (d := 15) hX ⟨rfl, rfl⟩ rfl (p_conv hX.st rfl tab_ok rfl rfl rfl rfl rfl) ?_; clear hX; intro a w hX))
      refine xl_cons ?_; ((refine y_pure (d := 16) hX ⟨rfl, rfl⟩ rfl (p_field0 hX.st rfl tab_ok rfl rfl rfl rfl rfl rfl) ?_; clear hX; intro a w hX))
      refine xl_cons ?_; ((refine y_read (d := 17) hX ⟨rfl, rfl⟩ rfl (v_load hX.st rfl tab_ok rfl rfl rfl foc0 rfl) ?_; clear hX; intro a w hX))
      refine xl_cons ?_; (first | (refine y_pure (d := 18) hX ⟨rfl, rfl⟩ rfl (p_conv hX.st rfl tab_ok rfl rfl rfl rfl (in_i64 (by omega) (by omega))) ?_; clear hX; intro a w hX) | (refine y_pure (d := 18) hX ⟨rfl, rfl⟩ rfl (p_conv hX.st rfl tab_ok rfl rfl rfl rfl rfl) ?_; clear hX; intro a w hX))
      refine xl_cons ?_; (first | (refine y_pure (d := 19) hX ⟨rfl, rfl⟩ rfl (p_mul hX.st rfl rfl rfl (in_i64 (by omega) (by omega))) ?_; clear hX; intro a w hX) | (refine y_pure (d := 19) hX ⟨rfl, rfl⟩ rfl (p_mul hX.st rfl rfl rfl rfl) ?_; clear hX; intro a w hX))
      refine xl_cons ?_; (first | (refine y_pure (d := 20) hX ⟨rfl, rfl⟩ rfl (p_add hX.st rfl rfl rfl (in_i64 (by omega) (by omega))) ?_; clear hX; intro a w hX) | (refine y_pure (d := 20) hX ⟨rfl, rfl⟩ rfl (p_add hX.st rfl rfl rfl rfl) ?_; clear hX; intro a w hX))
      refine xl_cons ?_; ((refine y_pure (d := 21) hX ⟨rfl, rfl⟩ rfl (p_field0 hX.st rfl tab_ok rfl rfl rfl rfl rfl rfl) ?_; clear hX; intro a w hX))
      refine xl_cons ?_; ((refine y_pure (d := 22) hX ⟨rfl, rfl⟩ rfl (p_field hX.st rfl tab_ok rfl rfl rfl rfl rfl rfl) ?_; clear hX; intro a w hX))
      refine xl_cons ?_; ((refine y_read (d := 23) hX ⟨rfl, rfl⟩ rfl (v_load hX.st rfl tab_ok rfl rfl rfl foc0 rfl) ?_; clear hX; intro a w hX))
      refine xl_cons ?_; (first | (refine y_pure (d := 24) hX ⟨rfl, rfl⟩ rfl (p_conv hX.st rfl tab_ok rfl rfl rfl rfl (in_i64 (by omega) (by omega))) ?_; clear hX; intro a w hX) | (refine y_pure (d := 24) hX ⟨rfl, rfl⟩ rfl (p_conv hX.st rfl tab_ok rfl rfl rfl rfl rfl) ?_; clear hX; intro a w hX))
      refine xl_cons ?_; (first | (refine y_pure (d := 25) hX ⟨rfl, rfl⟩ rfl (p_mul hX.st rfl rfl rfl (in_i64 (by omega) (by omega))) ?_; clear hX; intro a w hX) | (refine y_pure (d := 25) hX ⟨rfl, rfl⟩ rfl (p_mul hX.st rfl rfl rfl rfl) ?_; clear hX; intro a w hX))
      refine xl_cons ?_; (first | (refine y_pure (d := 26) hX ⟨rfl, rfl⟩ rfl (p_add hX.st rfl rfl rfl (in_i64 (by omega) (by omega))) ?_; clear hX; intro a w hX) | (refine y_pure (d := 26) hX ⟨rfl, rfl⟩ rfl (p_add hX.st rfl rfl rfl rfl) ?_; clear hX; intro a w hX))
      refine xl_cons ?_; (first | (refine y_pure (d := 27) hX ⟨rfl, rfl⟩ rfl (p_conv hX.st rfl tab_ok rfl rfl rfl rfl (in_i64 (by omega) (by omega))) ?_; clear hX; intro a w hX) | (refine y_pure (d := 27) hX ⟨rfl, rfl⟩ rfl (p_conv hX.st rfl tab_ok rfl rfl rfl rfl rfl) ?_; clear hX; intro a w hX))
      refine xl_cons ?_; ((refine y_pure (d := 28) hX ⟨rfl, rfl⟩ rfl (p_field0 hX.st rfl tab_ok rfl rfl rfl rfl rfl rfl) ?_; clear hX; intro a w hX))
      refine xl_cons ?_; ((refine y_pure (d := 29) hX ⟨rfl, rfl⟩ rfl (p_field hX.st rfl tab_ok rfl rfl rfl rfl rfl rfl) ?_; clear hX; intro a w hX))
      refine xl_cons ?_; ((refine y_read (d := 30) hX ⟨rfl, rfl⟩ rfl (v_load hX.st rfl tab_ok rfl rfl rfl foc0 rfl) ?_; clear hX; intro a w hX))
      refine xl_cons ?_; (first | (refine y_pure (d := 31) hX ⟨rfl, rfl⟩ rfl (p_conv hX.st rfl tab_ok rfl rfl rfl rfl (in_i64 (by omega) (by omega))) ?_; clear hX; intro a w hX) | (refine y_pure (d := 31) hX ⟨rfl, rfl⟩ rfl (p_conv hX.st rfl tab_ok rfl rfl rfl rfl rfl) ?_; clear hX; intro a w hX))
      refine xl_cons ?_; ((refine y_pure (d := 32) hX ⟨rfl, rfl⟩ rfl (p_move hX.st rfl rfl) ?_; clear hX; intro a w hX))
      refine xl_cons ?_; (first | (refine y_pure (d := 33) hX ⟨rfl, rfl⟩ rfl (p_conv hX.st rfl tab_ok rfl rfl rfl rfl (in_i64 (by omega) (by omega))) ?_; clear hX; intro a w hX) | (refine y_pure (d := 33) hX ⟨rfl, rfl⟩ rfl (p_conv hX.st rfl tab_ok rfl rfl rfl rfl rfl) ?_; clear hX; intro a w hX))
      refine xl_cons ?_; (refine y_buildSlice (d := 34) hX rfl ⟨rfl, rfl⟩ rfl tab_ok rfl rfl rfl rfl rfl (xs := [.tmp 27, .tmp 31, .tmp 33]) rfl rfl rfl rfl rfl ?_; clear hX; intro b a w hX)
      refine xl_cons ?_; ((refine y_pure (d := 2) hX ⟨rfl, rfl⟩ rfl (p_assign hX.st rfl rfl) ?_; clear hX; intro a w hX))
      refine x_end ?_
      refine q_then ?_
      refine c_ret ?_
      refine f_ret1 hX Try.results30 rfl ⟨b, rfl, trivial, hX.sh.sel (Sel.consE tk0 (cel_eq ?_) Sel.nil)⟩
      clear hX a w
      simp only [beq_iff_eq, beq_eq_false_iff_ne] at hc
      simp only [encOp, List.map_cons, List.map_nil]
      refine list3b (byteV_ofNat _ (by omega) _ (by rw [IntKind.wrap_u8]; omega)) (byteV_ofNat _ (by omega) _ (by rw [IntKind.wrap_u8]; omega)) ?_
      first
        | (rw [if_pos (by omega)]; exact byteV_ofNat _ (by omega) _ (by rw [IntKind.wrap_u8]; omega))
        | (rw [if_neg (by omega)]; exact byteV_ofNat _ (by omega) _ (by rw [IntKind.wrap_u8]; omega))
  ·
    try (first | cases hc | exact (contra_tf hc (by with_reducible assumption)).elim | exact (contra_tf (by with_reducible assumption) hc).elim | exact absurd hc (by decide))
    all_goals
      refine c_skip ?_
      refine q_then ?_
      refine wpIn_seq ?_
      refine c_region ?_
      refine xl_cons ?_; ((refine y_pure (d := 13) hX ⟨rfl, rfl⟩ rfl (p_field0 hX.st rfl tab_ok rfl rfl rfl rfl rfl rfl) ?_; clear hX; intro a w hX))
      refine xl_cons ?_; ((refine y_read (d := 14) hX ⟨rfl, rfl⟩ rfl (v_load hX.st rfl tab_ok rfl rfl rfl foc0 rfl) ?_; clear hX; intro a w hX))
      refine xl_cons ?_; (first | (refine y_pure (d := 15) hX ⟨rfl, rfl⟩ rfl (p_conv hX.st rfl tab_ok rfl rfl rfl rfl (in_i64 (by omega) (by omega))) ?_; clear hX; intro a w hX) | (refine y_pure (d := 15) hX ⟨rfl, rfl⟩ rfl (p_conv hX.st rfl tab_ok rfl rfl rfl rfl rfl) ?_; clear hX; intro a w hX))
      refine xl_cons ?_; ((refine y_pure (d := 16) hX ⟨rfl, rfl⟩ rfl (p_field0 hX.st rfl tab_ok rfl rfl rfl rfl rfl rfl) ?_; clear hX; intro a w hX))
      refine xl_cons ?_; ((refine y_read (d := 17) hX ⟨rfl, rfl⟩ rfl (v_load hX.st rfl tab_ok rfl rfl rfl foc0 rfl) ?_; clear hX; intro a w hX))
      refine xl_cons ?_; (first | (refine y_pure (d := 18) hX ⟨rfl, rfl⟩ rfl (p_conv hX.st rfl tab_ok rfl rfl rfl rfl (in_i64 (by omega) (by omega))) ?_; clear hX; intro a w hX) | (refine y_pure (d := 18) hX ⟨rfl, rfl⟩ rfl (p_conv hX.st rfl tab_ok rfl rfl rfl rfl rfl) ?_; clear hX; intro a w hX))
      refine xl_cons ?_; (first | (refine y_pure (d := 19) hX ⟨rfl, rfl⟩ rfl (p_mul hX.st rfl rfl rfl (in_i64 (by omega) (by omega))) ?_; clear hX; intro a w hX) | (refine y_pure (d := 19) hX ⟨rfl, rfl⟩ rfl (p_mul hX.st rfl rfl rfl rfl) ?_; clear hX; intro a w hX))
      refine xl_cons ?_; (first | (refine y_pure (d := 20) hX ⟨rfl, rfl⟩ rfl (p_add hX.st rfl rfl rfl (in_i64 (by omega) (by omega))) ?_; clear hX; intro a w hX) | (refine y_pure (d := 20) hX ⟨rfl, rfl⟩ rfl (p_add hX.st rfl rfl rfl rfl) ?_; clear hX; intro a w hX))
      refine xl_cons ?_; ((refine y_pure (d := 21) hX ⟨rfl, rfl⟩ rfl (p_field0 hX.st rfl tab_ok rfl rfl rfl rfl rfl rfl) ?_; clear hX; intro a w hX))
      refine xl_cons ?_; ((refine y_pure (d := 22) hX ⟨rfl, rfl⟩ rfl (p_field hX.st rfl tab_ok rfl rfl rfl rfl rfl rfl) ?_; clear hX; intro a w hX))
      refine xl_cons ?_; ((refine y_read (d := 23) hX ⟨rfl, rfl⟩ rfl (v_load hX.st rfl tab_ok rfl rfl rfl foc0 rfl) ?_; clear hX; intro a w hX))
      refine xl_cons ?_; (first | (refine y_pure (d := 24) hX ⟨rfl, rfl⟩ rfl (p_conv hX.st rfl tab_ok rfl rfl rfl rfl (in_i64 (by omega) (by omega))) ?_; clear hX; intro a w hX) | (refine y_pure (d := 24) hX ⟨rfl, rfl⟩ rfl (p_conv hX.st rfl tab_ok rfl rfl rfl rfl rfl) ?_; clear hX; intro a w hX))
      refine xl_cons ?_; (first | (refine y_pure (d := 25) hX ⟨rfl, rfl⟩ rfl (p_mul hX.st rfl rfl rfl (in_i64 (by omega) (by omega))) ?_; clear hX; intro a w hX) | (refine y_pure (d := 25) hX ⟨rfl, rfl⟩ rfl (p_mul hX.st rfl rfl rfl rfl) ?_; clear hX; intro a w hX))
      refine xl_cons ?_; (first | (refine y_pure (d := 26) hX ⟨rfl, rfl⟩ rfl (p_add hX.st rfl rfl rfl (in_i64 (by omega) (by omega))) ?_; clear hX; intro a w hX) | (refine y_pure (d := 26) hX ⟨rfl, rfl⟩ rfl (p_add hX.st rfl rfl rfl rfl) ?_; clear hX; intro a w hX))
      refine xl_cons ?_; (first | (refine y_pure (d := 27) hX ⟨rfl, rfl⟩ rfl (p_conv hX.st rfl tab_ok rfl rfl rfl rfl (in_i64 (by omega) (by omega))) ?_; clear hX; intro a w hX) | (refine y_pure (d := 27) hX ⟨rfl, rfl⟩ rfl (p_conv hX.st rfl tab_ok rfl rfl rfl rfl rfl) ?_; clear hX; intro a w hX))
      refine xl_cons ?_; ((refine y_pure (d := 28) hX ⟨rfl, rfl⟩ rfl (p_field0 hX.st rfl tab_ok rfl rfl rfl rfl rfl rfl) ?_; clear hX; intro a w hX))
      refine xl_cons ?_; ((refine y_pure (d := 29) hX ⟨rfl, rfl⟩ rfl (p_field hX.st rfl tab_ok rfl rfl rfl rfl rfl rfl) ?_; clear hX; intro a w hX))
      refine xl_cons ?_; ((refine y_read (d := 30) hX ⟨rfl, rfl⟩ rfl (v_load hX.st rfl tab_ok rfl rfl rfl foc0 rfl) ?_; clear hX; intro a w hX))
      refine xl_cons ?_; (first | (refine y_pure (d := 31) hX ⟨rfl, rfl⟩ rfl (p_conv hX.st rfl tab_ok rfl rfl rfl rfl (in_i64 (by omega) (by omega))) ?_; clear hX; intro a w hX) | (refine y_pure (d := 31) hX ⟨rfl, rfl⟩ rfl (p_conv hX.st rfl tab_ok rfl rfl rfl rfl rfl) ?_; clear hX; intro a w hX))
      refine xl_cons ?_; ((refine y_pure (d := 32) hX ⟨rfl, rfl⟩ rfl (p_move hX.st rfl rfl) ?_; clear hX; intro a w hX))
      refine xl_cons ?_; (first | (refine y_pure (d := 33) hX ⟨rfl, rfl⟩ rfl (p_conv hX.st rfl tab_ok rfl rfl rfl rfl (in_i64 (by omega) (by omega))) ?_; clear hX; intro a w hX) | (refine y_pure (d := 33) hX ⟨rfl, rfl⟩ rfl (p_conv hX.st rfl tab_ok rfl rfl rfl rfl rfl) ?_; clear hX; intro a w hX))
      refine xl_cons ?_; (refine y_buildSlice (d := 34) hX rfl ⟨rfl, rfl⟩ rfl tab_ok rfl rfl rfl rfl rfl (xs := [.tmp 27, .tmp 31, .tmp 33]) rfl rfl rfl rfl rfl ?_; clear hX; intro b a w hX)
      refine xl_cons ?_; ((refine y_pure (d := 2) hX ⟨rfl, rfl⟩ rfl (p_assign hX.st rfl rfl) ?_; clear hX; intro a w hX))
      refine x_end ?_
      refine q_then ?_
      refine c_ret ?_
      refine f_ret1 hX Try.results30 rfl ⟨b, rfl, trivial, hX.sh.sel (Sel.consE tk0 (cel_eq ?_) Sel.nil)⟩
      clear hX a w
      simp only [beq_iff_eq, beq_eq_false_iff_ne] at hc
      simp only [encOp, List.map_cons, List.map_nil]
      refine list3b (byteV_ofNat _ (by omega) _ (by rw [IntKind.wrap_u8]; omega)) (byteV_ofNat _ (by omega) _ (by rw [IntKind.wrap_u8]; omega)) ?_
      first
        | (rw [if_pos (by omega)]; exact byteV_ofNat _ (by omega) _ (by rw [IntKind.wrap_u8]; omega))
        | (rw [if_neg (by omega)]; exact byteV_ofNat _ (by omega) _ (by rw [IntKind.wrap_u8]; omega))
theorem curB_nil (l : List Op) (k : Nat) : curB [] l k = UInt8.ofNat l.length :: (l.take k).flatMap encOp := rfl
set_option maxHeartbeats 1000000 in
theorem block_any (A : Option Addr) (c n : Nat) (l : List Op) (hn : l.length = n) (hl : n ≤ 200) (good : ∀ o ∈ l, Good o) (W : World) (hR : Reads W A n 6 (opsC l)) :
    Ret Try.prog 19 #[.slice A n c] W fun v w' => ∃ x : Option Addr × Nat, v = .slice x.1 (encBlock l).length x.2 ∧ True ∧ SF W [.row x.1 x.2 5 1 (encBlock l).length ((encBlock l).map byteV)] w' := by
  subst hn
  refine f_start (vs := [.slice A l.length c]) [(0, .slice A l.length c)] Try.func19 rfl Try.ntmps19 rfl rfl ?_
  intro a hX
  refine wpIn_seq ?_
  refine c_region ?_
  refine xl_cons ?_; ((refine y_pure (d := 2) hX ⟨rfl, rfl⟩ rfl (p_assign hX.st rfl rfl) ?_; clear hX; intro a w hX))
  refine x_end ?_
  refine q_then ?_
  refine wpIn_seq ?_
  refine c_region ?_
  refine xl_cons ?_; ((refine y_pure (d := 6) hX ⟨rfl, rfl⟩ rfl (p_move hX.st rfl rfl) ?_; clear hX; intro a w hX))
  refine xl_cons ?_; ((refine y_pure (d := 7) hX ⟨rfl, rfl⟩ rfl (p_len hX.st rfl tab_ok rfl rfl rfl) ?_; clear hX; intro a w hX))
  refine xl_cons ?_; (first | (refine y_pure (d := 8) hX ⟨rfl, rfl⟩ rfl (p_conv hX.st rfl tab_ok rfl rfl rfl rfl (in_i64 (by omega) (by omega))) ?_; clear hX; intro a w hX) | (refine y_pure (d := 8) hX ⟨rfl, rfl⟩ rfl (p_conv hX.st rfl tab_ok rfl rfl rfl rfl rfl) ?_; clear hX; intro a w hX))
  refine xl_cons ?_; (refine y_buildSlice (d := 9) hX rfl ⟨rfl, rfl⟩ rfl tab_ok rfl rfl rfl rfl rfl (xs := [.tmp 8]) rfl rfl rfl rfl rfl ?_; clear hX; intro b3 a w hX)
  refine xl_cons ?_; ((refine y_pure (d := 3) hX ⟨rfl, rfl⟩ rfl (p_assign hX.st rfl rfl) ?_; clear hX; intro a w hX))
  refine x_end ?_
  refine q_then ?_
  refine wpIn_seq ?_
  refine wpIn_seq ?_
  refine c_region ?_
  refine xl_cons ?_; ((refine y_pure (d := 4) hX ⟨rfl, rfl⟩ rfl (p_assign hX.st rfl rfl) ?_; clear hX; intro a w hX))
  refine x_end ?_
  refine q_then ?_
  refine c_block ?_
  have hX : Sym 34 _ _ _ _ _ _ _ := ⟨hX.st, hX.sh.toRow (size := 1) (m := 1) rfl (by omega)⟩
  refine c_loopX (α := Nat × Option Addr × Nat) (fun x => [(0, .slice A l.length c), (3, .slice x.2.1 (1 + x.1 * 3) x.2.2), (4, .int .i64 (x.1 : Nat))]) (fun x => [.row x.2.1 x.2.2 5 1 (1 + x.1 * 3) ((curB [] l x.1).map byteV)]) (fun x => x.1 ≤ l.length) (fun x => l.length - x.1) (0, some ⟨b3, 0, none⟩, 1) (Nat.zero_le _) (hX.to (by repeat (first | exact Sub.nil | refine Sub.cons rfl ?_)) (Sel.consE tk0 (row_eq rfl (by rw [curB_zero, byteV_ofNat l.length (by omega) _ (by rw [IntKind.wrap_u8]; omega)]; simp)) Sel.nil)) ?_
  clear hX
  rintro ⟨i, A3, c3⟩ a w hi hX
  dsimp only at hi hX
  refine wpIn_seq ?_
  refine wpIn_seq ?_
  refine c_region ?_
  refine xl_cons ?_; ((refine y_pure (d := 10) hX ⟨rfl, rfl⟩ rfl (p_move hX.st rfl rfl) ?_; clear hX; intro a w hX))
  refine xl_cons ?_; ((refine y_pure (d := 11) hX ⟨rfl, rfl⟩ rfl (p_move hX.st rfl rfl) ?_; clear hX; intro a w hX))
  refine xl_cons ?_; ((refine y_pure (d := 12) hX ⟨rfl, rfl⟩ rfl (p_len hX.st rfl tab_ok rfl rfl rfl) ?_; clear hX; intro a w hX))
  refine xl_cons ?_; ((refine y_pure (d := 13) hX ⟨rfl, rfl⟩ rfl (p_lss hX.st rfl rfl rfl) ?_; clear hX; intro a w hX))
  refine x_end ?_
  refine q_then ?_
  refine c_cond hX rfl (fun hc => ?_) (fun hc => ?_)
  ·
    try (first | cases hc | exact (contra_tf hc (by with_reducible assumption)).elim | exact (contra_tf (by with_reducible assumption) hc).elim | exact absurd hc (by decide))
    all_goals
      refine c_skip ?_
      refine q_then ?_
      refine wpIn_seq ?_
      refine c_block ?_
      have hlt : i < l.length := by have h5 := hc; simp only [decide_eq_true_eq] at h5; omega
      obtain ⟨bo, po, rfl, hbo, hcell⟩ := hR.op hlt
      refine c_region ?_
      refine xl_cons ?_; ((refine y_pure (d := 16) hX ⟨rfl, rfl⟩ rfl (p_move hX.st rfl rfl) ?_; clear hX; intro a w hX))
      refine xl_cons ?_; ((refine y_pure (d := 17) hX ⟨rfl, rfl⟩ rfl (p_move hX.st rfl rfl) ?_; clear hX; intro a w hX))
      refine xl_cons ?_; ((refine y_pure (d := 18) hX ⟨rfl, rfl⟩ rfl (p_move hX.st rfl rfl) ?_; clear hX; intro a w hX))
      refine xl_cons ?_; ((refine y_pure (d := 19) hX ⟨rfl, rfl⟩ rfl (p_index hX.st rfl tab_ok rfl rfl rfl rfl rfl (by first | rfl | omega) (by first | decide | omega)) ?_; clear hX; intro a w hX))
      refine xl_cons ?_; (refine y_read (d := 20) hX ⟨rfl, rfl⟩ rfl (v_load_old_agg hX.st rfl tab_ok rfl rfl rfl hbo (vs := opC l[i]) rfl hcell) ?_; clear hX; intro a w hX)
      refine xl_cons ?_; (refine y_callC (d := 21) hX rfl ⟨rfl, rfl⟩ rfl Try.func30 rfl rfl rfl (encoded_any l[i] (good _ (List.getElem_mem hlt)) _) ?_; clear hX; rintro b4 a w _ hX)
      refine xl_cons ?_; (refine y_append_cel (d := 22) hX rfl ⟨rfl, rfl⟩ rfl tab_ok rfl rfl rfl rfl rfl rfl rfl foc1 foc0 rfl rfl (by simp only [ti5]; omega) (by omega) ?_; clear hX; intro A5 c5 a w hX)
      refine xl_cons ?_; ((refine y_pure (d := 3) hX ⟨rfl, rfl⟩ rfl (p_assign hX.st rfl rfl) ?_; clear hX; intro a w hX))
      refine x_end ?_
      refine q_block ?_
      refine q_then ?_
      refine c_region ?_
      refine xl_cons ?_; ((refine y_pure (d := 14) hX ⟨rfl, rfl⟩ rfl (p_move hX.st rfl rfl) ?_; clear hX; intro a w hX))
      refine xl_cons ?_; (first | (refine y_pure (d := 15) hX ⟨rfl, rfl⟩ rfl (p_add hX.st rfl rfl rfl (in_i64 (by omega) (by omega))) ?_; clear hX; intro a w hX) | (refine y_pure (d := 15) hX ⟨rfl, rfl⟩ rfl (p_add hX.st rfl rfl rfl rfl) ?_; clear hX; intro a w hX))
      refine xl_cons ?_; ((refine y_pure (d := 4) hX ⟨rfl, rfl⟩ rfl (p_assign hX.st rfl rfl) ?_; clear hX; intro a w hX))
      refine x_end ?_
      refine q_then ?_
      exact ⟨(i + 1, A5, c5), by dsimp only; omega, by dsimp only; omega, hX.to (Sub.cons rfl (Sub.cons (look_val rfl (slice_eq (by dsimp only; omega))) (Sub.cons (look_int rfl (by dsimp only; omega)) (by repeat (first | exact Sub.nil | refine Sub.cons rfl ?_))))) (Sel.consE tk1 (row_eq (by dsimp only; omega) (by dsimp only; rw [← curB_succ _ _ _ hlt, List.map_append])) Sel.nil)⟩
  ·
    try (first | cases hc | exact (contra_tf hc (by with_reducible assumption)).elim | exact (contra_tf (by with_reducible assumption) hc).elim | exact absurd hc (by decide))
    all_goals
      refine c_exit ?_
      refine q_then_exit ?_
      refine q_then_exit ?_
      refine q_block_exit ?_
      refine q_then ?_
      refine wpIn_seq ?_
      have hie : i = l.length := by have h5 := hc; simp only [decide_eq_false_iff_not] at h5; omega
      subst hie
      have hcl := curB_length [] l l.length (Nat.le_refl _)
      simp only [List.length_nil, Nat.zero_add] at hcl
      have hcr := crc_lt (curB [] l l.length)
      refine c_region ?_
      refine xl_cons ?_; ((refine y_pure (d := 23) hX ⟨rfl, rfl⟩ rfl (p_move hX.st rfl rfl) ?_; clear hX; intro a w hX))
      refine xl_cons ?_; (refine y_callP (d := 24) hX rfl ⟨rfl, rfl⟩ rfl Try.func11 rfl rfl rfl (law_check _ _ _ (curB [] l l.length) hcl (by omega) _ (Reads.row hX.sh foc0)) ?_; clear hX; intro a w hX)
      refine xl_cons ?_; ((refine y_pure (d := 5) hX ⟨rfl, rfl⟩ rfl (p_assign hX.st rfl rfl) ?_; clear hX; intro a w hX))
      refine x_end ?_
      refine q_then ?_
      refine wpIn_seq ?_
      refine c_region ?_
      refine xl_cons ?_; ((refine y_pure (d := 25) hX ⟨rfl, rfl⟩ rfl (p_move hX.st rfl rfl) ?_; clear hX; intro a w hX))
      refine xl_cons ?_; ((refine y_pure (d := 26) hX ⟨rfl, rfl⟩ rfl (p_move hX.st rfl rfl) ?_; clear hX; intro a w hX))
      refine xl_cons ?_; ((refine y_pure (d := 27) hX ⟨rfl, rfl⟩ rfl (p_quo hX.st rfl rfl rfl (by first | decide | omega) rfl) ?_; clear hX; intro a w hX))
      refine xl_cons ?_; (first | (refine y_pure (d := 28) hX ⟨rfl, rfl⟩ rfl (p_conv hX.st rfl tab_ok rfl rfl rfl rfl (in_i64 (by omega) (by omega))) ?_; clear hX; intro a w hX) | (refine y_pure (d := 28) hX ⟨rfl, rfl⟩ rfl (p_conv hX.st rfl tab_ok rfl rfl rfl rfl rfl) ?_; clear hX; intro a w hX))
      refine xl_cons ?_; ((refine y_pure (d := 29) hX ⟨rfl, rfl⟩ rfl (p_move hX.st rfl rfl) ?_; clear hX; intro a w hX))
      refine xl_cons ?_; ((refine y_pure (d := 30) hX ⟨rfl, rfl⟩ rfl (p_rem hX.st rfl rfl rfl (by first | decide | omega) rfl) ?_; clear hX; intro a w hX))
      refine xl_cons ?_; (first | (refine y_pure (d := 31) hX ⟨rfl, rfl⟩ rfl (p_conv hX.st rfl tab_ok rfl rfl rfl rfl (in_i64 (by omega) (by omega))) ?_; clear hX; intro a w hX) | (refine y_pure (d := 31) hX ⟨rfl, rfl⟩ rfl (p_conv hX.st rfl tab_ok rfl rfl rfl rfl rfl) ?_; clear hX; intro a w hX))
      refine xl_cons ?_; (refine y_buildSlice (d := 32) hX rfl ⟨rfl, rfl⟩ rfl tab_ok rfl rfl rfl rfl rfl (xs := [.tmp 28, .tmp 31]) rfl rfl rfl rfl rfl ?_; clear hX; intro b a w hX)
      refine xl_cons ?_; (first | (refine y_append_cel (d := 33) hX rfl ⟨rfl, rfl⟩ rfl tab_ok rfl rfl rfl rfl rfl rfl rfl foc1 foc0 rfl rfl (by first | omega | (simp only [ti5, ti3, ti53]; omega)) (by first | omega | (simp only [ti5, ti3, ti53]; omega)) ?_; clear hX; intro A6 c6 a w hX) | (refine y_append_cel (d := 33) hX rfl ⟨rfl, rfl⟩ rfl tab_ok rfl rfl rfl rfl rfl rfl rfl foc2 foc0 rfl rfl (by first | omega | (simp only [ti5, ti3, ti53]; omega)) (by first | omega | (simp only [ti5, ti3, ti53]; omega)) ?_; clear hX; intro A6 c6 a w hX) | (refine y_append_cel (d := 33) hX rfl ⟨rfl, rfl⟩ rfl tab_ok rfl rfl rfl rfl rfl rfl rfl foc3 foc0 rfl rfl (by first | omega | (simp only [ti5, ti3, ti53]; omega)) (by first | omega | (simp only [ti5, ti3, ti53]; omega)) ?_; clear hX; intro A6 c6 a w hX) | (refine y_append_cel (d := 33) hX rfl ⟨rfl, rfl⟩ rfl tab_ok rfl rfl rfl rfl rfl rfl rfl foc4 foc0 rfl rfl (by first | omega | (simp only [ti5, ti3, ti53]; omega)) (by first | omega | (simp only [ti5, ti3, ti53]; omega)) ?_; clear hX; intro A6 c6 a w hX) | (refine y_append_cel (d := 33) hX rfl ⟨rfl, rfl⟩ rfl tab_ok rfl rfl rfl rfl rfl rfl rfl foc0 foc1 rfl rfl (by first | omega | (simp only [ti5, ti3, ti53]; omega)) (by first | omega | (simp only [ti5, ti3, ti53]; omega)) ?_; clear hX; intro A6 c6 a w hX) | (refine y_append_cel (d := 33) hX rfl ⟨rfl, rfl⟩ rfl tab_ok rfl rfl rfl rfl rfl rfl rfl foc2 foc1 rfl rfl (by first | omega | (simp only [ti5, ti3, ti53]; omega)) (by first | omega | (simp only [ti5, ti3, ti53]; omega)) ?_; clear hX; intro A6 c6 a w hX) | (refine y_append_cel (d := 33) hX rfl ⟨rfl, rfl⟩ rfl tab_ok rfl rfl rfl rfl rfl rfl rfl foc3 foc1 rfl rfl (by first | omega | (simp only [ti5, ti3, ti53]; omega)) (by first | omega | (simp only [ti5, ti3, ti53]; omega)) ?_; clear hX; intro A6 c6 a w hX) | (refine y_append_cel (d := 33) hX rfl ⟨rfl, rfl⟩ rfl tab_ok rfl rfl rfl rfl rfl rfl rfl foc4 foc1 rfl rfl (by first | omega | (simp only [ti5, ti3, ti53]; omega)) (by first | omega | (simp only [ti5, ti3, ti53]; omega)) ?_; clear hX; intro A6 c6 a w hX) | (refine y_append_cel (d := 33) hX rfl ⟨rfl, rfl⟩ rfl tab_ok rfl rfl rfl rfl rfl rfl rfl foc0 foc2 rfl rfl (by first | omega | (simp only [ti5, ti3, ti53]; omega)) (by first | omega | (simp only [ti5, ti3, ti53]; omega)) ?_; clear hX; intro A6 c6 a w hX) | (refine y_append_cel (d := 33) hX rfl ⟨rfl, rfl⟩ rfl tab_ok rfl rfl rfl rfl rfl rfl rfl foc1 foc2 rfl rfl (by first | omega | (simp only [ti5, ti3, ti53]; omega)) (by first | omega | (simp only [ti5, ti3, ti53]; omega)) ?_; clear hX; intro A6 c6 a w hX) | (refine y_append_cel (d := 33) hX rfl ⟨rfl, rfl⟩ rfl tab_ok rfl rfl rfl rfl rfl rfl rfl foc3 foc2 rfl rfl (by first | omega | (simp only [ti5, ti3, ti53]; omega)) (by first | omega | (simp only [ti5, ti3, ti53]; omega)) ?_; clear hX; intro A6 c6 a w hX) | (refine y_append_cel (d := 33) hX rfl ⟨rfl, rfl⟩ rfl tab_ok rfl rfl rfl rfl rfl rfl rfl foc4 foc2 rfl rfl (by first | omega | (simp only [ti5, ti3, ti53]; omega)) (by first | omega | (simp only [ti5, ti3, ti53]; omega)) ?_; clear hX; intro A6 c6 a w hX))
      refine xl_cons ?_; ((refine y_pure (d := 2) hX ⟨rfl, rfl⟩ rfl (p_assign hX.st rfl rfl) ?_; clear hX; intro a w hX))
      refine x_end ?_
      refine q_then ?_
      refine c_ret ?_
      have he := curB_end [] l
      simp only [List.length_nil, List.drop_zero, List.nil_append] at he
      have hel := encBlock_length l
      refine f_ret1 hX Try.results19 rfl ⟨(A6, c6), slice_eq (by rw [hel]; omega), trivial, hX.sh.sel (Sel.consE tk1 (row_eq (by rw [hel]; omega) ?_) Sel.nil)⟩
      rw [← he, List.map_append]
      congr 1
      have h1 : ((crc (curB [] l l.length) : Nat) : Int).tdiv 256 = ((crc (curB [] l l.length) / 256 : Nat) : Int) := td _ 256
      have h2 : ((crc (curB [] l l.length) : Nat) : Int).tmod 256 = ((crc (curB [] l l.length) % 256 : Nat) : Int) := tm _ 256
      refine list2 (byteV_ofNat _ (by omega) _ ?_) (byteV_ofNat _ (by omega) _ ?_)
      · rw [h1, IntKind.wrap_i64, IntKind.wrap_u8]; omega
      · rw [h2, IntKind.wrap_u8]; omega
end Go.Proofs.Ytjemilhbipaepaa
