/- tapes.Encode. -/
import Derived.Test.YtjemilhbipaepaaS10
namespace Go.Proofs.Ytjemilhbipaepaa
open Go.RowKit

theorem good_of (o : Op) (h : opErr o = 0) : Good o := by
  unfold opErr at h
  split at h
  · rename_i hp
    split at h
    · omega
    · rename_i hr
      simp only [opPlain, Bool.and_eq_true, there, Bool.not_eq_true', decide_eq_true_eq] at hp
      obtain ⟨⟨⟨⟨⟨k1, k2⟩, hd⟩, hn⟩, hy⟩, _⟩ := hp
      have hb : o.bed ≤ 1 ∧ 0 ≤ o.place ∧ o.place ≤ 40 := by
        unfold needleBad at hn
        split at hn
        · simp [needleOk] at hn; omega
        · simp at hn; omega
      refine ⟨k2, ?_, hb.1, hb.2.1, hb.2.2, ?_, by omega, by omega⟩
      · unfold dirBad at hd; split at hd <;> simp at hd <;> omega
      · unfold yarnBad at hy; split at hy <;> simp at hy <;> omega
  · omega
theorem good_all : ∀ (l : List Op), opsErr l = 0 → ∀ o ∈ l, Good o
  | [], _, o, ho => by cases ho
  | x :: l, h, o, ho => by
    unfold opsErr at h
    split at h
    · rename_i hx
      rcases List.mem_cons.1 ho with rfl | ho
      · exact good_of _ hx
      · exact good_all l h o ho
    · contradiction

def headB : List UInt8 := [71, 84, 1, 0]
def encErr (l : List Op) : Int := if 4096 < l.length then 3 else opsErr l
def encTape (l : List Op) : List UInt8 := headB ++ encBlocks l ++ endB
def encRes (l : List Op) : List UInt8 := if encErr l = 0 then encTape l else []
theorem encBlocks_length_le (l : List Op) : (encBlocks l).length ≤ 99 * ((l.length + 31) / 32) := by
  unfold encBlocks
  generalize (l.length + 31) / 32 = N
  induction N with
  | zero => simp
  | succ N ih =>
    rw [List.range_succ, List.flatMap_append, List.length_append]
    simp only [List.flatMap_cons, List.flatMap_nil, List.append_nil, encBlock_length, blk_length]
    omega
theorem endB_length : endB.length = 3 := rfl
theorem copied_n (A : Option Addr) (c n : Nat) (l : List UInt8) (hn : l.length = n) (hl : n ≤ 140737488351232) (W : World) (hR : Reads W A n 1 (l.map byteV)) :
    Ret Try.prog 24 #[.slice A n c] W fun v w' => ∃ b : Nat, v = .slice (some ⟨b, 0, none⟩) n n ∧ True ∧ SF W [.row (some ⟨b, 0, none⟩) n 5 1 n (l.map byteV)] w' := by
  subst hn; exact copied_bytes A c l hl W hR

theorem Reads.blk {w : World} {A : Option Addr} {m size : Nat} {xs : List Value} (h : Reads w A m size xs) (hm : 0 < m) (hs : 0 < size) {b p : Nat} (e : A = some ⟨b, p, none⟩) : b < w.heap.size := by
  obtain ⟨b', p', e', hc⟩ := h.2 hm
  have hl : 0 < xs.length := by rw [h.1]; exact Nat.mul_pos hm hs
  rw [e] at e'
  have := hc 0 xs[0] (List.getElem?_eq_getElem hl)
  cases e'
  exact World.block_lt_of_cell? w _ this
theorem encode_any (A : Option Addr) (c : Nat) (l : List Op) (hl : l.length ≤ 1000000) (hcc : l.length ≤ c) (hc2 : c ≤ 9223372036854775807) (W : World) (hR : Reads W A l.length 6 (opsC l)) :
    Ret Try.prog 14 #[.slice A l.length c] W fun v w' => ∃ A', v = .tuple #[.slice A' (encRes l).length (encRes l).length, .int .i64 (encErr l)] ∧ True ∧ SF W [.row A' (encRes l).length 5 1 (encRes l).length ((encRes l).map byteV)] w' := by
  refine f_start (vs := [.slice A l.length c]) [(0, .slice A l.length c)] Try.func14 rfl Try.ntmps14 rfl rfl ?_
  intro a hX
  refine wpIn_seq ?_
  refine c_region ?_
  refine xl_cons ?_; ((refine y_pure (d := 2) hX ⟨rfl, rfl⟩ rfl (p_assign hX.st rfl rfl) ?_; clear hX; intro a w hX))
  refine xl_cons ?_; ((refine y_pure (d := 3) hX ⟨rfl, rfl⟩ rfl (p_assign hX.st rfl rfl) ?_; clear hX; intro a w hX))
  refine x_end ?_
  refine q_then ?_
  refine wpIn_seq ?_
  refine wpIn_seq ?_
  refine c_region ?_
  refine xl_cons ?_; ((refine y_pure (d := 5) hX ⟨rfl, rfl⟩ rfl (p_move hX.st rfl rfl) ?_; clear hX; intro a w hX))
  refine xl_cons ?_; ((refine y_pure (d := 6) hX ⟨rfl, rfl⟩ rfl (p_len hX.st rfl tab_ok rfl rfl rfl) ?_; clear hX; intro a w hX))
  refine xl_cons ?_; ((refine y_pure (d := 7) hX ⟨rfl, rfl⟩ rfl (p_gtr hX.st rfl rfl rfl) ?_; clear hX; intro a w hX))
  refine x_end ?_
  refine q_then ?_
  refine c_cond hX rfl (fun hc => ?_) (fun hc => ?_)
  ·
    try (first | cases hc | exact (contra_tf hc (by with_reducible assumption)).elim | exact (contra_tf (by with_reducible assumption) hc).elim | exact absurd hc (by decide))
    all_goals
      refine wpIn_seq ?_
      refine c_region ?_
      refine xl_cons ?_; ((refine y_pure (d := 2) hX ⟨rfl, rfl⟩ rfl (p_assign hX.st rfl rfl) ?_; clear hX; intro a w hX))
      refine xl_cons ?_; ((refine y_pure (d := 3) hX ⟨rfl, rfl⟩ rfl (p_assign hX.st rfl rfl) ?_; clear hX; intro a w hX))
      refine x_end ?_
      refine q_then ?_
      refine c_ret ?_
      refine q_then_ret ?_
      first
      | exact f_ret2 hX Try.results14 rfl rfl ⟨none, by (have e3 : encErr l = 3 := by rw [encErr, if_pos (by have h5 := hc; simp only [decide_eq_true_eq] at h5; omega)]); rw [encRes, e3]; rfl, trivial, by (have e3 : encErr l = 3 := by rw [encErr, if_pos (by have h5 := hc; simp only [decide_eq_true_eq] at h5; omega)]); rw [encRes, e3]; exact (hX.sh.sel Sel.nil).nilRow 5 1⟩
      | (have h4 : ¬ 4096 < l.length := by (simp only [decide_eq_false_iff_not] at *; omega)
         have hz : ¬ opsErr l = 0 := by simpa using hc
         have e3 : encErr l = opsErr l := by rw [encErr, if_neg h4]
         have er : encRes l = [] := by rw [encRes, if_neg (by rw [e3]; exact hz)]
         exact f_ret2 hX Try.results14 rfl rfl ⟨none, by rw [er, e3]; rfl, trivial, by rw [er]; exact (hX.sh.sel Sel.nil).nilRow 5 1⟩)
      | (have er : encRes l = headB ++ encBlocks l ++ endB := by rw [encRes, if_pos e0, encTape]
         have en : (headB ++ encBlocks l).length + 3 = (encRes l).length := by rw [er]; simp only [List.length_append, endB_length]
         rw [en, ← er] at hX
         exact f_ret2 hX Try.results14 rfl rfl ⟨some ⟨b2, 0, none⟩, by rw [e0], trivial, hX.sh.sel (Sel.cons tk0 Sel.nil)⟩)
  ·
    try (first | cases hc | exact (contra_tf hc (by with_reducible assumption)).elim | exact (contra_tf (by with_reducible assumption) hc).elim | exact absurd hc (by decide))
    all_goals
      refine c_skip ?_
      refine q_then ?_
      refine wpIn_seq ?_
      refine wpIn_seq ?_
      refine c_region ?_
      refine xl_cons ?_; ((refine y_pure (d := 8) hX ⟨rfl, rfl⟩ rfl (p_move hX.st rfl rfl) ?_; clear hX; intro a w hX))
      refine xl_cons ?_; (refine y_callP (d := 9) hX rfl ⟨rfl, rfl⟩ rfl Try.func23 rfl rfl rfl (tapes_check _ _ l hl _ (Reads.old hX.sh hR)) ?_; clear hX; intro a w hX)
      refine xl_cons ?_; ((refine y_pure (d := 4) hX ⟨rfl, rfl⟩ rfl (p_assign hX.st rfl rfl) ?_; clear hX; intro a w hX))
      refine x_end ?_
      refine q_then ?_
      refine wpIn_seq ?_
      refine c_region ?_
      refine xl_cons ?_; ((refine y_pure (d := 10) hX ⟨rfl, rfl⟩ rfl (p_move hX.st rfl rfl) ?_; clear hX; intro a w hX))
      refine xl_cons ?_; ((refine y_pure (d := 11) hX ⟨rfl, rfl⟩ rfl (p_neq hX.st rfl rfl rfl) ?_; clear hX; intro a w hX))
      refine x_end ?_
      refine q_then ?_
      refine c_cond hX rfl (fun hc => ?_) (fun hc => ?_)
      ·
        try (first | cases hc | exact (contra_tf hc (by with_reducible assumption)).elim | exact (contra_tf (by with_reducible assumption) hc).elim | exact absurd hc (by decide))
        all_goals
          refine wpIn_seq ?_
          refine c_region ?_
          refine xl_cons ?_; ((refine y_pure (d := 12) hX ⟨rfl, rfl⟩ rfl (p_move hX.st rfl rfl) ?_; clear hX; intro a w hX))
          refine xl_cons ?_; ((refine y_pure (d := 2) hX ⟨rfl, rfl⟩ rfl (p_assign hX.st rfl rfl) ?_; clear hX; intro a w hX))
          refine xl_cons ?_; ((refine y_pure (d := 3) hX ⟨rfl, rfl⟩ rfl (p_assign hX.st rfl rfl) ?_; clear hX; intro a w hX))
          refine x_end ?_
          refine q_then ?_
          refine c_ret ?_
          refine q_then_ret ?_
          first
          | exact f_ret2 hX Try.results14 rfl rfl ⟨none, by (have e3 : encErr l = 3 := by rw [encErr, if_pos (by have h5 := hc; simp only [decide_eq_true_eq] at h5; omega)]); rw [encRes, e3]; rfl, trivial, by (have e3 : encErr l = 3 := by rw [encErr, if_pos (by have h5 := hc; simp only [decide_eq_true_eq] at h5; omega)]); rw [encRes, e3]; exact (hX.sh.sel Sel.nil).nilRow 5 1⟩
          | (have h4 : ¬ 4096 < l.length := by (simp only [decide_eq_false_iff_not] at *; omega)
             have hz : ¬ opsErr l = 0 := by simpa using hc
             have e3 : encErr l = opsErr l := by rw [encErr, if_neg h4]
             have er : encRes l = [] := by rw [encRes, if_neg (by rw [e3]; exact hz)]
             exact f_ret2 hX Try.results14 rfl rfl ⟨none, by rw [er, e3]; rfl, trivial, by rw [er]; exact (hX.sh.sel Sel.nil).nilRow 5 1⟩)
          | (have er : encRes l = headB ++ encBlocks l ++ endB := by rw [encRes, if_pos e0, encTape]
             have en : (headB ++ encBlocks l).length + 3 = (encRes l).length := by rw [er]; simp only [List.length_append, endB_length]
             rw [en, ← er] at hX
             exact f_ret2 hX Try.results14 rfl rfl ⟨some ⟨b2, 0, none⟩, by rw [e0], trivial, hX.sh.sel (Sel.cons tk0 Sel.nil)⟩)
      ·
        try (first | cases hc | exact (contra_tf hc (by with_reducible assumption)).elim | exact (contra_tf (by with_reducible assumption) hc).elim | exact absurd hc (by decide))
        all_goals
          refine c_skip ?_
          refine q_then ?_
          refine wpIn_seq ?_
          have h4 : l.length ≤ 4096 := by simp only [decide_eq_false_iff_not] at *; omega
          have hz : opsErr l = 0 := by simpa using hc
          have e0 : encErr l = 0 := by rw [encErr, if_neg (by omega), hz]
          have hbl := encBlocks_length_le l
          refine c_region ?_
          refine xl_cons ?_; (refine y_buildSlice (d := 13) hX rfl ⟨rfl, rfl⟩ rfl tab_ok rfl rfl rfl rfl rfl (xs := [.const (.int .u8 71), .const (.int .u8 84), .const (.int .u8 1), .const (.int .u8 0)]) rfl rfl rfl rfl rfl ?_; clear hX; intro b a w hX)
          refine xl_cons ?_; (first | (refine y_convSS (d := 14) hX rfl ⟨rfl, rfl⟩ rfl tab_ok rfl rfl rfl rfl rfl foc0 rfl (by decide) ?_; clear hX; intro a w hX) | (refine y_convSS (d := 14) hX rfl ⟨rfl, rfl⟩ rfl tab_ok rfl rfl rfl rfl rfl foc1 rfl (by decide) ?_; clear hX; intro a w hX) | (refine y_convSS (d := 14) hX rfl ⟨rfl, rfl⟩ rfl tab_ok rfl rfl rfl rfl rfl foc2 rfl (by decide) ?_; clear hX; intro a w hX) | (refine y_convSS (d := 14) hX rfl ⟨rfl, rfl⟩ rfl tab_ok rfl rfl rfl rfl rfl foc3 rfl (by decide) ?_; clear hX; intro a w hX))
          refine xl_cons ?_; ((refine y_pure (d := 15) hX ⟨rfl, rfl⟩ rfl (p_move hX.st rfl rfl) ?_; clear hX; intro a w hX))
          refine xl_cons ?_; (refine y_callR (d := 16) hX rfl ⟨rfl, rfl⟩ rfl Try.func26 rfl rfl rfl (put_blocks _ _ 4 headB rfl (by omega) l (by omega) (good_all l hz) A c hcc hc2 _ _ _ hX.sh (Reads.old hX.sh hR) (fun b p hm e => hR.blk hm (by decide) e)) ?_; clear hX; rintro A1 c1 a w hX)
          refine xl_cons ?_; (refine y_callR (d := 17) hX rfl ⟨rfl, rfl⟩ rfl Try.func25 rfl rfl rfl (put_end _ _ _ (headB ++ encBlocks l) rfl (by simp [headB]; omega) _ _ [] _ hX.sh) ?_; clear hX; rintro A2 c2 a w hX)
          refine xl_cons ?_; (refine y_callC (d := 18) hX rfl ⟨rfl, rfl⟩ rfl Try.func24 rfl rfl rfl (copied_n _ _ _ (headB ++ encBlocks l ++ endB) (by simp only [List.length_append, endB_length]) (by simp [headB]; omega) _ (Reads.row hX.sh foc0)) ?_; clear hX; rintro b2 a w _ hX)
          refine xl_cons ?_; ((refine y_pure (d := 2) hX ⟨rfl, rfl⟩ rfl (p_assign hX.st rfl rfl) ?_; clear hX; intro a w hX))
          refine xl_cons ?_; ((refine y_pure (d := 3) hX ⟨rfl, rfl⟩ rfl (p_assign hX.st rfl rfl) ?_; clear hX; intro a w hX))
          refine x_end ?_
          refine q_then ?_
          refine c_ret ?_
          first
          | exact f_ret2 hX Try.results14 rfl rfl ⟨none, by (have e3 : encErr l = 3 := by rw [encErr, if_pos (by have h5 := hc; simp only [decide_eq_true_eq] at h5; omega)]); rw [encRes, e3]; rfl, trivial, by (have e3 : encErr l = 3 := by rw [encErr, if_pos (by have h5 := hc; simp only [decide_eq_true_eq] at h5; omega)]); rw [encRes, e3]; exact (hX.sh.sel Sel.nil).nilRow 5 1⟩
          | (have h4 : ¬ 4096 < l.length := by (simp only [decide_eq_false_iff_not] at *; omega)
             have hz : ¬ opsErr l = 0 := by simpa using hc
             have e3 : encErr l = opsErr l := by rw [encErr, if_neg h4]
             have er : encRes l = [] := by rw [encRes, if_neg (by rw [e3]; exact hz)]
             exact f_ret2 hX Try.results14 rfl rfl ⟨none, by rw [er, e3]; rfl, trivial, by rw [er]; exact (hX.sh.sel Sel.nil).nilRow 5 1⟩)
          | (have er : encRes l = headB ++ encBlocks l ++ endB := by rw [encRes, if_pos e0, encTape]
             have en : (headB ++ encBlocks l).length + 3 = (encRes l).length := by rw [er]; simp only [List.length_append, endB_length]
             rw [en, ← er] at hX
             exact f_ret2 hX Try.results14 rfl rfl ⟨some ⟨b2, 0, none⟩, by rw [e0], trivial, hX.sh.sel (Sel.cons tk0 Sel.nil)⟩)
end Go.Proofs.Ytjemilhbipaepaa
