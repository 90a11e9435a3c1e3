/- tapes.Decode, Salvage, reopen, Append, Finish. -/
import Derived.Test.YtjemilhbipaepaaS13
namespace Go.Proofs.Ytjemilhbipaepaa
open Go.RowKit

theorem readF_len : ∀ (f : Nat) (b : List UInt8) (l : List Op), l.length ≤ 4096 → (readF f b l).1.length ≤ 4096
  | 0, _, _, h => h
  | f + 1, b, l, h => by
    rw [readF]
    repeat' split
    all_goals first | exact h | skip
    exact readF_len f _ _ (by rw [List.length_append, List.length_map, List.length_range]; omega)
theorem readAll_len (b : List UInt8) : (readAll b).1.length ≤ 4096 := by
  unfold readAll
  split
  · exact readF_len _ _ _ (by simp)
  · simp
def decRes (l : List UInt8) : List Op := if (readAll l).2.2 = 0 then (readAll l).1 else []
theorem copied_ops_n (A : Option Addr) (c n : Nat) (l : List Op) (hn : l.length = n) (hl : n ≤ 1000000) (W : World) (hR : Reads W A n 6 (opsC l)) :
    Ret Try.prog 28 #[.slice A n c] W fun v w' => ∃ b : Nat, v = .slice (some ⟨b, 0, none⟩) n n ∧ True ∧ SF W [.row (some ⟨b, 0, none⟩) n 53 6 n (opsC l)] w' := by
  subst hn; exact copied_ops A c l hl W hR

theorem decode_any (A : Option Addr) (c : Nat) (l : List UInt8) (hl : l.length ≤ 1000000) (hcc : l.length ≤ c) (hc2 : c ≤ 9223372036854775807) (W : World) (hR : Reads W A l.length 1 (l.map byteV)) :
    Ret Try.prog 15 #[.slice A l.length c] W fun v w' => ∃ A', v = .tuple #[.slice A' (decRes l).length (decRes l).length, .int .i64 (readAll l).2.2] ∧ True ∧ SF W [.row A' (decRes l).length 53 6 (decRes l).length (opsC (decRes l))] w' := by
  have hrl := readAll_len l
  refine f_start (vs := [.slice A l.length c]) [(0, .slice A l.length c)] Try.func15 rfl Try.ntmps15 rfl rfl ?_
  intro a hX
  refine wpIn_seq ?_
  refine c_region ?_
  refine xl_cons ?_; ((refine y_pure (d := 2) hX ⟨rfl, rfl⟩ rfl (p_assign hX.st rfl rfl) ?_; clear hX; intro a w hX))
  refine xl_cons ?_; ((refine y_pure (d := 3) hX ⟨rfl, rfl⟩ rfl (p_assign hX.st rfl rfl) ?_; clear hX; intro a w hX))
  refine x_end ?_
  refine q_then ?_
  refine wpIn_seq ?_
  refine c_region ?_
  refine xl_cons ?_; ((refine y_pure (d := 8) hX ⟨rfl, rfl⟩ rfl (p_move hX.st rfl rfl) ?_; clear hX; intro a w hX))
  refine xl_cons ?_; (refine y_callC (d := 9) hX rfl ⟨rfl, rfl⟩ rfl Try.func27 rfl rfl rfl (tapes_read _ _ l hl hcc hc2 _ (Reads.old hX.sh hR)) ?_; clear hX; rintro x a w _ hX)
  refine xl_cons ?_; ((refine y_pure (d := 7) hX ⟨rfl, rfl⟩ rfl (p_move hX.st rfl rfl) ?_; clear hX; intro a w hX))
  refine xl_cons ?_; ((refine y_pure (d := 10) hX ⟨rfl, rfl⟩ rfl (p_extract hX.st rfl rfl rfl) ?_; clear hX; intro a w hX))
  refine xl_cons ?_; ((refine y_pure (d := 11) hX ⟨rfl, rfl⟩ rfl (p_extract hX.st rfl rfl rfl) ?_; clear hX; intro a w hX))
  refine xl_cons ?_; ((refine y_pure (d := 12) hX ⟨rfl, rfl⟩ rfl (p_extract hX.st rfl rfl rfl) ?_; clear hX; intro a w hX))
  refine xl_cons ?_; ((refine y_pure (d := 4) hX ⟨rfl, rfl⟩ rfl (p_assign hX.st rfl rfl) ?_; clear hX; intro a w hX))
  refine xl_cons ?_; ((refine y_pure (d := 5) hX ⟨rfl, rfl⟩ rfl (p_assign hX.st rfl rfl) ?_; clear hX; intro a w hX))
  refine xl_cons ?_; ((refine y_pure (d := 6) hX ⟨rfl, rfl⟩ rfl (p_assign hX.st rfl rfl) ?_; clear hX; intro a w hX))
  refine x_end ?_
  refine q_then ?_
  refine wpIn_seq ?_
  refine wpIn_seq ?_
  refine c_region ?_
  refine xl_cons ?_; ((refine y_pure (d := 13) hX ⟨rfl, rfl⟩ rfl (p_move hX.st rfl rfl) ?_; clear hX; intro a w hX))
  refine xl_cons ?_; ((refine y_pure (d := 14) hX ⟨rfl, rfl⟩ rfl (p_neq hX.st rfl rfl rfl) ?_; clear hX; intro a w hX))
  refine x_end ?_
  refine q_then ?_
  refine c_cond hX rfl (fun hc => ?_) (fun hc => ?_)
  ·
    try (first | cases hc | exact (contra_tf hc (by with_reducible assumption)).elim | exact (contra_tf (by with_reducible assumption) hc).elim | exact absurd hc (by decide))
    all_goals
      refine wpIn_seq ?_
      refine c_region ?_
      refine xl_cons ?_; ((refine y_pure (d := 15) hX ⟨rfl, rfl⟩ rfl (p_move hX.st rfl rfl) ?_; clear hX; intro a w hX))
      refine xl_cons ?_; ((refine y_pure (d := 2) hX ⟨rfl, rfl⟩ rfl (p_assign hX.st rfl rfl) ?_; clear hX; intro a w hX))
      refine xl_cons ?_; ((refine y_pure (d := 3) hX ⟨rfl, rfl⟩ rfl (p_assign hX.st rfl rfl) ?_; clear hX; intro a w hX))
      refine x_end ?_
      refine q_then ?_
      refine c_ret ?_
      refine q_then_ret ?_
      have er : decRes l = [] := by rw [decRes, if_neg (by simpa using hc)]
      exact f_ret2 hX Try.results15 rfl rfl ⟨none, by rw [er]; rfl, trivial, by rw [er]; exact (hX.sh.sel Sel.nil).nilRow 53 6⟩
  ·
    try (first | cases hc | exact (contra_tf hc (by with_reducible assumption)).elim | exact (contra_tf (by with_reducible assumption) hc).elim | exact absurd hc (by decide))
    all_goals
      refine c_skip ?_
      refine q_then ?_
      refine wpIn_seq ?_
      refine c_region ?_
      refine xl_cons ?_; ((refine y_pure (d := 16) hX ⟨rfl, rfl⟩ rfl (p_move hX.st rfl rfl) ?_; clear hX; intro a w hX))
      refine xl_cons ?_; (refine y_callC (d := 17) hX rfl ⟨rfl, rfl⟩ rfl Try.func28 rfl rfl rfl (copied_ops_n _ _ _ (readAll l).1 rfl (by omega) _ (Reads.row hX.sh foc0)) ?_; clear hX; rintro b2 a w _ hX)
      refine xl_cons ?_; ((refine y_pure (d := 2) hX ⟨rfl, rfl⟩ rfl (p_assign hX.st rfl rfl) ?_; clear hX; intro a w hX))
      refine xl_cons ?_; ((refine y_pure (d := 3) hX ⟨rfl, rfl⟩ rfl (p_assign hX.st rfl rfl) ?_; clear hX; intro a w hX))
      refine x_end ?_
      refine q_then ?_
      refine c_ret ?_
      have e0 : (readAll l).2.2 = 0 := by simpa using hc
      have er : decRes l = (readAll l).1 := by rw [decRes, if_pos e0]
      exact f_ret2 hX Try.results15 rfl rfl ⟨some ⟨b2, 0, none⟩, by rw [er, e0], trivial, by rw [er]; exact hX.sh.sel (Sel.cons tk0 Sel.nil)⟩
theorem salvage_any (A : Option Addr) (c : Nat) (l : List UInt8) (hl : l.length ≤ 1000000) (hcc : l.length ≤ c) (hc2 : c ≤ 9223372036854775807) (W : World) (hR : Reads W A l.length 1 (l.map byteV)) :
    Ret Try.prog 16 #[.slice A l.length c] W fun v w' => ∃ b : Nat, v = .tuple #[.slice (some ⟨b, 0, none⟩) (readAll l).1.length (readAll l).1.length, .bool ((readAll l).2.2 == 0)] ∧ True ∧ SF W [.row (some ⟨b, 0, none⟩) (readAll l).1.length 53 6 (readAll l).1.length (opsC (readAll l).1)] w' := by
  have hrl := readAll_len l
  refine f_start (vs := [.slice A l.length c]) [(0, .slice A l.length c)] Try.func16 rfl Try.ntmps16 rfl rfl ?_
  intro a hX
  refine wpIn_seq ?_
  refine c_region ?_
  refine xl_cons ?_; ((refine y_pure (d := 2) hX ⟨rfl, rfl⟩ rfl (p_assign hX.st rfl rfl) ?_; clear hX; intro a w hX))
  refine xl_cons ?_; ((refine y_pure (d := 3) hX ⟨rfl, rfl⟩ rfl (p_assign hX.st rfl rfl) ?_; clear hX; intro a w hX))
  refine x_end ?_
  refine q_then ?_
  refine wpIn_seq ?_
  refine c_region ?_
  refine xl_cons ?_; ((refine y_pure (d := 8) hX ⟨rfl, rfl⟩ rfl (p_move hX.st rfl rfl) ?_; clear hX; intro a w hX))
  refine xl_cons ?_; (refine y_callC (d := 9) hX rfl ⟨rfl, rfl⟩ rfl Try.func27 rfl rfl rfl (tapes_read _ _ l hl hcc hc2 _ (Reads.old hX.sh hR)) ?_; clear hX; rintro x a w _ hX)
  refine xl_cons ?_; ((refine y_pure (d := 7) hX ⟨rfl, rfl⟩ rfl (p_move hX.st rfl rfl) ?_; clear hX; intro a w hX))
  refine xl_cons ?_; ((refine y_pure (d := 10) hX ⟨rfl, rfl⟩ rfl (p_extract hX.st rfl rfl rfl) ?_; clear hX; intro a w hX))
  refine xl_cons ?_; ((refine y_pure (d := 11) hX ⟨rfl, rfl⟩ rfl (p_extract hX.st rfl rfl rfl) ?_; clear hX; intro a w hX))
  refine xl_cons ?_; ((refine y_pure (d := 12) hX ⟨rfl, rfl⟩ rfl (p_extract hX.st rfl rfl rfl) ?_; clear hX; intro a w hX))
  refine xl_cons ?_; ((refine y_pure (d := 4) hX ⟨rfl, rfl⟩ rfl (p_assign hX.st rfl rfl) ?_; clear hX; intro a w hX))
  refine xl_cons ?_; ((refine y_pure (d := 5) hX ⟨rfl, rfl⟩ rfl (p_assign hX.st rfl rfl) ?_; clear hX; intro a w hX))
  refine xl_cons ?_; ((refine y_pure (d := 6) hX ⟨rfl, rfl⟩ rfl (p_assign hX.st rfl rfl) ?_; clear hX; intro a w hX))
  refine x_end ?_
  refine q_then ?_
  refine wpIn_seq ?_
  refine c_region ?_
  refine xl_cons ?_; ((refine y_pure (d := 13) hX ⟨rfl, rfl⟩ rfl (p_move hX.st rfl rfl) ?_; clear hX; intro a w hX))
  refine xl_cons ?_; (refine y_callC (d := 14) hX rfl ⟨rfl, rfl⟩ rfl Try.func28 rfl rfl rfl (copied_ops_n _ _ _ (readAll l).1 rfl (by omega) _ (Reads.row hX.sh foc0)) ?_; clear hX; rintro b2 a w _ hX)
  refine xl_cons ?_; ((refine y_pure (d := 15) hX ⟨rfl, rfl⟩ rfl (p_move hX.st rfl rfl) ?_; clear hX; intro a w hX))
  refine xl_cons ?_; ((refine y_pure (d := 16) hX ⟨rfl, rfl⟩ rfl (p_eql hX.st rfl rfl rfl) ?_; clear hX; intro a w hX))
  refine xl_cons ?_; ((refine y_pure (d := 2) hX ⟨rfl, rfl⟩ rfl (p_assign hX.st rfl rfl) ?_; clear hX; intro a w hX))
  refine xl_cons ?_; ((refine y_pure (d := 3) hX ⟨rfl, rfl⟩ rfl (p_assign hX.st rfl rfl) ?_; clear hX; intro a w hX))
  refine x_end ?_
  refine q_then ?_
  refine c_ret ?_
  exact f_ret2 hX Try.results16 rfl rfl ⟨b2, rfl, trivial, hX.sh.sel (Sel.cons tk0 Sel.nil)⟩
def reErr (l : List UInt8) : Int := if l.length = 0 then 0 else if (readAll l).2.2 = 0 then 6 else if (readAll l).2.1 then 0 else (readAll l).2.2
def reTape (l : List UInt8) : List UInt8 := if l.length = 0 then headB else if reErr l = 0 then l else []
def reN (l : List UInt8) : Nat := if l.length = 0 then 0 else if reErr l = 0 then (readAll l).1.length else 0
theorem reopen_any (A : Option Addr) (c : Nat) (l : List UInt8) (hl : l.length ≤ 1000000) (hcc : l.length ≤ c) (hc2 : c ≤ 9223372036854775807) (W : World) (hR : Reads W A l.length 1 (l.map byteV)) :
    Ret Try.prog 31 #[.slice A l.length c] W fun v w' => ∃ A', v = .tuple #[.slice A' (reTape l).length (reTape l).length, .int .i64 (reN l), .int .i64 (reErr l)] ∧ True ∧ SF W [.row A' (reTape l).length 5 1 (reTape l).length ((reTape l).map byteV)] w' := by
  have hrl := readAll_len l
  refine f_start (vs := [.slice A l.length c]) [(0, .slice A l.length c)] Try.func31 rfl Try.ntmps31 rfl rfl ?_
  intro a hX
  refine wpIn_seq ?_
  refine c_region ?_
  refine xl_cons ?_; ((refine y_pure (d := 2) hX ⟨rfl, rfl⟩ rfl (p_assign hX.st rfl rfl) ?_; clear hX; intro a w hX))
  refine xl_cons ?_; ((refine y_pure (d := 3) hX ⟨rfl, rfl⟩ rfl (p_assign hX.st rfl rfl) ?_; clear hX; intro a w hX))
  refine xl_cons ?_; ((refine y_pure (d := 4) hX ⟨rfl, rfl⟩ rfl (p_assign hX.st rfl rfl) ?_; clear hX; intro a w hX))
  refine x_end ?_
  refine q_then ?_
  refine wpIn_seq ?_
  refine wpIn_seq ?_
  refine c_region ?_
  refine xl_cons ?_; ((refine y_pure (d := 8) hX ⟨rfl, rfl⟩ rfl (p_move hX.st rfl rfl) ?_; clear hX; intro a w hX))
  refine xl_cons ?_; ((refine y_pure (d := 9) hX ⟨rfl, rfl⟩ rfl (p_len hX.st rfl tab_ok rfl rfl rfl) ?_; clear hX; intro a w hX))
  refine xl_cons ?_; ((refine y_pure (d := 10) hX ⟨rfl, rfl⟩ rfl (p_eql hX.st rfl rfl rfl) ?_; clear hX; intro a w hX))
  refine x_end ?_
  refine q_then ?_
  refine c_cond hX rfl (fun hc => ?_) (fun hc => ?_)
  ·
    try (first | cases hc | exact (contra_tf hc (by with_reducible assumption)).elim | exact (contra_tf (by with_reducible assumption) hc).elim | exact absurd hc (by decide))
    all_goals
      refine wpIn_seq ?_
      refine c_region ?_
      refine xl_cons ?_; (refine y_buildSlice (d := 11) hX rfl ⟨rfl, rfl⟩ rfl tab_ok rfl rfl rfl rfl rfl (xs := [.const (.int .u8 71), .const (.int .u8 84), .const (.int .u8 1), .const (.int .u8 0)]) rfl rfl rfl rfl rfl ?_; clear hX; intro b a w hX)
      refine xl_cons ?_; (first | (refine y_convSS (d := 12) hX rfl ⟨rfl, rfl⟩ rfl tab_ok rfl rfl rfl rfl rfl foc0 rfl (by decide) ?_; clear hX; intro a w hX) | (refine y_convSS (d := 12) hX rfl ⟨rfl, rfl⟩ rfl tab_ok rfl rfl rfl rfl rfl foc1 rfl (by decide) ?_; clear hX; intro a w hX) | (refine y_convSS (d := 12) hX rfl ⟨rfl, rfl⟩ rfl tab_ok rfl rfl rfl rfl rfl foc2 rfl (by decide) ?_; clear hX; intro a w hX) | (refine y_convSS (d := 12) hX rfl ⟨rfl, rfl⟩ rfl tab_ok rfl rfl rfl rfl rfl foc3 rfl (by decide) ?_; clear hX; intro a w hX))
      refine xl_cons ?_; ((refine y_pure (d := 2) hX ⟨rfl, rfl⟩ rfl (p_assign hX.st rfl rfl) ?_; clear hX; intro a w hX))
      refine xl_cons ?_; ((refine y_pure (d := 3) hX ⟨rfl, rfl⟩ rfl (p_assign hX.st rfl rfl) ?_; clear hX; intro a w hX))
      refine xl_cons ?_; ((refine y_pure (d := 4) hX ⟨rfl, rfl⟩ rfl (p_assign hX.st rfl rfl) ?_; clear hX; intro a w hX))
      refine x_end ?_
      refine q_then ?_
      refine c_ret ?_
      refine q_then_ret ?_
      have e0 : l.length = 0 := by have h5 := hc; simp only [beq_iff_eq] at h5; omega
      exact f_ret3 hX Try.results31 rfl rfl rfl ⟨some ⟨b, 0, none⟩, by rw [reTape, reN, reErr, if_pos e0, if_pos e0, if_pos e0]; rfl, trivial, by rw [reTape, if_pos e0]; exact hX.sh⟩
  ·
    try (first | cases hc | exact (contra_tf hc (by with_reducible assumption)).elim | exact (contra_tf (by with_reducible assumption) hc).elim | exact absurd hc (by decide))
    all_goals
      refine c_skip ?_
      refine q_then ?_
      refine wpIn_seq ?_
      have hn0 : ¬ l.length = 0 := by have h5 := hc; simp only [beq_eq_false_iff_ne] at h5; omega
      refine c_region ?_
      refine xl_cons ?_; ((refine y_pure (d := 14) hX ⟨rfl, rfl⟩ rfl (p_move hX.st rfl rfl) ?_; clear hX; intro a w hX))
      refine xl_cons ?_; (refine y_callC (d := 15) hX rfl ⟨rfl, rfl⟩ rfl Try.func27 rfl rfl rfl (tapes_read _ _ l hl hcc hc2 _ (Reads.old hX.sh hR)) ?_; clear hX; rintro x a w _ hX)
      refine xl_cons ?_; ((refine y_pure (d := 13) hX ⟨rfl, rfl⟩ rfl (p_move hX.st rfl rfl) ?_; clear hX; intro a w hX))
      refine xl_cons ?_; ((refine y_pure (d := 16) hX ⟨rfl, rfl⟩ rfl (p_extract hX.st rfl rfl rfl) ?_; clear hX; intro a w hX))
      refine xl_cons ?_; ((refine y_pure (d := 17) hX ⟨rfl, rfl⟩ rfl (p_extract hX.st rfl rfl rfl) ?_; clear hX; intro a w hX))
      refine xl_cons ?_; ((refine y_pure (d := 18) hX ⟨rfl, rfl⟩ rfl (p_extract hX.st rfl rfl rfl) ?_; clear hX; intro a w hX))
      refine xl_cons ?_; ((refine y_pure (d := 5) hX ⟨rfl, rfl⟩ rfl (p_assign hX.st rfl rfl) ?_; clear hX; intro a w hX))
      refine xl_cons ?_; ((refine y_pure (d := 6) hX ⟨rfl, rfl⟩ rfl (p_assign hX.st rfl rfl) ?_; clear hX; intro a w hX))
      refine xl_cons ?_; ((refine y_pure (d := 7) hX ⟨rfl, rfl⟩ rfl (p_assign hX.st rfl rfl) ?_; clear hX; intro a w hX))
      refine x_end ?_
      refine q_then ?_
      refine wpIn_seq ?_
      refine wpIn_seq ?_
      refine c_region ?_
      refine xl_cons ?_; ((refine y_pure (d := 19) hX ⟨rfl, rfl⟩ rfl (p_move hX.st rfl rfl) ?_; clear hX; intro a w hX))
      refine xl_cons ?_; ((refine y_pure (d := 20) hX ⟨rfl, rfl⟩ rfl (p_eql hX.st rfl rfl rfl) ?_; clear hX; intro a w hX))
      refine x_end ?_
      refine q_then ?_
      refine c_cond hX rfl (fun hc => ?_) (fun hc => ?_)
      ·
        try (first | cases hc | exact (contra_tf hc (by with_reducible assumption)).elim | exact (contra_tf (by with_reducible assumption) hc).elim | exact absurd hc (by decide))
        all_goals
          refine wpIn_seq ?_
          refine c_region ?_
          refine xl_cons ?_; ((refine y_pure (d := 2) hX ⟨rfl, rfl⟩ rfl (p_assign hX.st rfl rfl) ?_; clear hX; intro a w hX))
          refine xl_cons ?_; ((refine y_pure (d := 3) hX ⟨rfl, rfl⟩ rfl (p_assign hX.st rfl rfl) ?_; clear hX; intro a w hX))
          refine xl_cons ?_; ((refine y_pure (d := 4) hX ⟨rfl, rfl⟩ rfl (p_assign hX.st rfl rfl) ?_; clear hX; intro a w hX))
          refine x_end ?_
          refine q_then ?_
          refine c_ret ?_
          refine q_then_ret ?_
          have e0 : (readAll l).2.2 = 0 := by simpa using hc
          have er : reErr l = 6 := by rw [reErr, if_neg hn0, if_pos e0]
          exact f_ret3 hX Try.results31 rfl rfl rfl ⟨none, by rw [reTape, reN, if_neg hn0, if_neg hn0, er]; rfl, trivial, by rw [reTape, if_neg hn0, er]; exact (hX.sh.sel Sel.nil).nilRow 5 1⟩
      ·
        try (first | cases hc | exact (contra_tf hc (by with_reducible assumption)).elim | exact (contra_tf (by with_reducible assumption) hc).elim | exact absurd hc (by decide))
        all_goals
          refine c_skip ?_
          refine q_then ?_
          refine wpIn_seq ?_
          refine wpIn_seq ?_
          have hne : ¬ (readAll l).2.2 = 0 := by simpa using hc
          refine c_region ?_
          refine xl_cons ?_; ((refine y_pure (d := 21) hX ⟨rfl, rfl⟩ rfl (p_move hX.st rfl rfl) ?_; clear hX; intro a w hX))
          refine xl_cons ?_; ((refine y_pure (d := 22) hX ⟨rfl, rfl⟩ rfl (p_not hX.st rfl rfl) ?_; clear hX; intro a w hX))
          refine x_end ?_
          refine q_then ?_
          refine c_cond hX rfl (fun hc => ?_) (fun hc => ?_)
          ·
            try (first | cases hc | exact (contra_tf hc (by with_reducible assumption)).elim | exact (contra_tf (by with_reducible assumption) hc).elim | exact absurd hc (by decide))
            all_goals
              refine wpIn_seq ?_
              refine c_region ?_
              refine xl_cons ?_; ((refine y_pure (d := 23) hX ⟨rfl, rfl⟩ rfl (p_move hX.st rfl rfl) ?_; clear hX; intro a w hX))
              refine xl_cons ?_; ((refine y_pure (d := 2) hX ⟨rfl, rfl⟩ rfl (p_assign hX.st rfl rfl) ?_; clear hX; intro a w hX))
              refine xl_cons ?_; ((refine y_pure (d := 3) hX ⟨rfl, rfl⟩ rfl (p_assign hX.st rfl rfl) ?_; clear hX; intro a w hX))
              refine xl_cons ?_; ((refine y_pure (d := 4) hX ⟨rfl, rfl⟩ rfl (p_assign hX.st rfl rfl) ?_; clear hX; intro a w hX))
              refine x_end ?_
              refine q_then ?_
              refine c_ret ?_
              refine q_then_ret ?_
              have ho : (readAll l).2.1 = false := by simpa using hc
              have er : reErr l = (readAll l).2.2 := by rw [reErr, if_neg hn0, if_neg hne, ho]; rfl
              exact f_ret3 hX Try.results31 rfl rfl rfl ⟨none, by rw [reTape, reN, if_neg hn0, if_neg hn0, er, if_neg hne, if_neg hne]; rfl, trivial, by rw [reTape, if_neg hn0, er, if_neg hne]; exact (hX.sh.sel Sel.nil).nilRow 5 1⟩
          ·
            try (first | cases hc | exact (contra_tf hc (by with_reducible assumption)).elim | exact (contra_tf (by with_reducible assumption) hc).elim | exact absurd hc (by decide))
            all_goals
              refine c_skip ?_
              refine q_then ?_
              refine wpIn_seq ?_
              refine c_region ?_
              refine xl_cons ?_; ((refine y_pure (d := 24) hX ⟨rfl, rfl⟩ rfl (p_move hX.st rfl rfl) ?_; clear hX; intro a w hX))
              refine xl_cons ?_; (refine y_callC (d := 25) hX rfl ⟨rfl, rfl⟩ rfl Try.func24 rfl rfl rfl (copied_bytes _ _ l (by omega) _ (Reads.old hX.sh hR)) ?_; clear hX; rintro b2 a w _ hX)
              refine xl_cons ?_; ((refine y_pure (d := 26) hX ⟨rfl, rfl⟩ rfl (p_move hX.st rfl rfl) ?_; clear hX; intro a w hX))
              refine xl_cons ?_; ((refine y_pure (d := 27) hX ⟨rfl, rfl⟩ rfl (p_len hX.st rfl tab_ok rfl rfl rfl) ?_; clear hX; intro a w hX))
              refine xl_cons ?_; ((refine y_pure (d := 2) hX ⟨rfl, rfl⟩ rfl (p_assign hX.st rfl rfl) ?_; clear hX; intro a w hX))
              refine xl_cons ?_; ((refine y_pure (d := 3) hX ⟨rfl, rfl⟩ rfl (p_assign hX.st rfl rfl) ?_; clear hX; intro a w hX))
              refine xl_cons ?_; ((refine y_pure (d := 4) hX ⟨rfl, rfl⟩ rfl (p_assign hX.st rfl rfl) ?_; clear hX; intro a w hX))
              refine x_end ?_
              refine q_then ?_
              refine c_ret ?_
              have ho : (readAll l).2.1 = true := by simpa using hc
              have er : reErr l = 0 := by rw [reErr, if_neg hn0, if_neg hne, ho]; rfl
              exact f_ret3 hX Try.results31 rfl rfl rfl ⟨some ⟨b2, 0, none⟩, by rw [reTape, reN, if_neg hn0, if_neg hn0, er]; rfl, trivial, by rw [reTape, if_neg hn0, er]; exact hX.sh.sel (Sel.cons tk0 Sel.nil)⟩
theorem reTape_len (l : List UInt8) (hl : l.length ≤ 90000) : (reTape l).length ≤ 90000 := by
  unfold reTape; repeat' split
  · simp [headB]
  · exact hl
  · simp
theorem reN_len (l : List UInt8) : reN l ≤ 4096 := by
  have := readAll_len l
  unfold reN; repeat' split
  · omega
  · exact this
  · omega
def appErr (b : List UInt8) (l : List Op) : Int := if reErr b = 0 then (if 4096 < reN b + l.length then 3 else opsErr l) else reErr b
def appRes (b : List UInt8) (l : List Op) : List UInt8 := if appErr b l = 0 then reTape b ++ encBlocks l else []
theorem append_any (A : Option Addr) (c : Nat) (l : List UInt8) (hl : l.length ≤ 90000) (hcc : l.length ≤ c) (hc2 : c ≤ 9223372036854775807) (Ao : Option Addr) (co : Nat) (ops : List Op) (hlo : ops.length ≤ 1000000) (hco : ops.length ≤ co) (hco2 : co ≤ 9223372036854775807) (W : World) (hR : Reads W A l.length 1 (l.map byteV)) (hRo : Reads W Ao ops.length 6 (opsC ops)) :
    Ret Try.prog 20 #[.slice A l.length c, .slice Ao ops.length co] W fun v w' => ∃ A', v = .tuple #[.slice A' (appRes l ops).length (appRes l ops).length, .int .i64 (appErr l ops)] ∧ True ∧ SF W [.row A' (appRes l ops).length 5 1 (appRes l ops).length ((appRes l ops).map byteV)] w' := by
  have hrl := reTape_len l hl
  have hrn := reN_len l
  refine f_start (vs := [.slice A l.length c, .slice Ao ops.length co]) [(0, .slice A l.length c), (1, .slice Ao ops.length co)] Try.func20 rfl Try.ntmps20 rfl rfl ?_
  intro a hX
  refine wpIn_seq ?_
  refine c_region ?_
  refine xl_cons ?_; ((refine y_pure (d := 4) hX ⟨rfl, rfl⟩ rfl (p_assign hX.st rfl rfl) ?_; clear hX; intro a w hX))
  refine xl_cons ?_; ((refine y_pure (d := 5) hX ⟨rfl, rfl⟩ rfl (p_assign hX.st rfl rfl) ?_; clear hX; intro a w hX))
  refine x_end ?_
  refine q_then ?_
  refine wpIn_seq ?_
  refine c_region ?_
  refine xl_cons ?_; ((refine y_pure (d := 11) hX ⟨rfl, rfl⟩ rfl (p_move hX.st rfl rfl) ?_; clear hX; intro a w hX))
  refine xl_cons ?_; (refine y_callC (d := 12) hX rfl ⟨rfl, rfl⟩ rfl Try.func31 rfl rfl rfl (reopen_any _ _ l (by omega) hcc hc2 _ (Reads.old hX.sh hR)) ?_; clear hX; rintro A1 a w _ hX)
  refine xl_cons ?_; ((refine y_pure (d := 10) hX ⟨rfl, rfl⟩ rfl (p_move hX.st rfl rfl) ?_; clear hX; intro a w hX))
  refine xl_cons ?_; ((refine y_pure (d := 13) hX ⟨rfl, rfl⟩ rfl (p_extract hX.st rfl rfl rfl) ?_; clear hX; intro a w hX))
  refine xl_cons ?_; ((refine y_pure (d := 14) hX ⟨rfl, rfl⟩ rfl (p_extract hX.st rfl rfl rfl) ?_; clear hX; intro a w hX))
  refine xl_cons ?_; ((refine y_pure (d := 15) hX ⟨rfl, rfl⟩ rfl (p_extract hX.st rfl rfl rfl) ?_; clear hX; intro a w hX))
  refine xl_cons ?_; ((refine y_pure (d := 6) hX ⟨rfl, rfl⟩ rfl (p_assign hX.st rfl rfl) ?_; clear hX; intro a w hX))
  refine xl_cons ?_; ((refine y_pure (d := 7) hX ⟨rfl, rfl⟩ rfl (p_assign hX.st rfl rfl) ?_; clear hX; intro a w hX))
  refine xl_cons ?_; ((refine y_pure (d := 8) hX ⟨rfl, rfl⟩ rfl (p_assign hX.st rfl rfl) ?_; clear hX; intro a w hX))
  refine x_end ?_
  refine q_then ?_
  refine wpIn_seq ?_
  refine wpIn_seq ?_
  refine c_region ?_
  refine xl_cons ?_; ((refine y_pure (d := 16) hX ⟨rfl, rfl⟩ rfl (p_move hX.st rfl rfl) ?_; clear hX; intro a w hX))
  refine xl_cons ?_; ((refine y_pure (d := 17) hX ⟨rfl, rfl⟩ rfl (p_neq hX.st rfl rfl rfl) ?_; clear hX; intro a w hX))
  refine x_end ?_
  refine q_then ?_
  refine c_cond hX rfl (fun hc => ?_) (fun hc => ?_)
  ·
    try (first | cases hc | exact (contra_tf hc (by with_reducible assumption)).elim | exact (contra_tf (by with_reducible assumption) hc).elim | exact absurd hc (by decide))
    all_goals
      refine wpIn_seq ?_
      refine c_region ?_
      refine xl_cons ?_; ((refine y_pure (d := 18) hX ⟨rfl, rfl⟩ rfl (p_move hX.st rfl rfl) ?_; clear hX; intro a w hX))
      refine xl_cons ?_; ((refine y_pure (d := 4) hX ⟨rfl, rfl⟩ rfl (p_assign hX.st rfl rfl) ?_; clear hX; intro a w hX))
      refine xl_cons ?_; ((refine y_pure (d := 5) hX ⟨rfl, rfl⟩ rfl (p_assign hX.st rfl rfl) ?_; clear hX; intro a w hX))
      refine x_end ?_
      refine q_then ?_
      refine c_ret ?_
      refine q_then_ret ?_
      have hne : ¬ reErr l = 0 := by simpa using hc
      have er : appErr l ops = reErr l := by rw [appErr, if_neg hne]
      have et : appRes l ops = [] := by rw [appRes, er, if_neg hne]
      exact f_ret2 hX Try.results20 rfl rfl ⟨none, by rw [et, er]; rfl, trivial, by rw [et]; exact (hX.sh.sel Sel.nil).nilRow 5 1⟩
  ·
    try (first | cases hc | exact (contra_tf hc (by with_reducible assumption)).elim | exact (contra_tf (by with_reducible assumption) hc).elim | exact absurd hc (by decide))
    all_goals
      refine c_skip ?_
      refine q_then ?_
      refine wpIn_seq ?_
      refine wpIn_seq ?_
      have e0 : reErr l = 0 := by simpa using hc
      refine c_region ?_
      refine xl_cons ?_; ((refine y_pure (d := 19) hX ⟨rfl, rfl⟩ rfl (p_move hX.st rfl rfl) ?_; clear hX; intro a w hX))
      refine xl_cons ?_; ((refine y_pure (d := 20) hX ⟨rfl, rfl⟩ rfl (p_move hX.st rfl rfl) ?_; clear hX; intro a w hX))
      refine xl_cons ?_; ((refine y_pure (d := 21) hX ⟨rfl, rfl⟩ rfl (p_len hX.st rfl tab_ok rfl rfl rfl) ?_; clear hX; intro a w hX))
      refine xl_cons ?_; (first | (refine y_pure (d := 22) hX ⟨rfl, rfl⟩ rfl (p_add hX.st rfl rfl rfl (in_i64 (by omega) (by omega))) ?_; clear hX; intro a w hX) | (refine y_pure (d := 22) hX ⟨rfl, rfl⟩ rfl (p_add hX.st rfl rfl rfl rfl) ?_; clear hX; intro a w hX))
      refine xl_cons ?_; ((refine y_pure (d := 23) hX ⟨rfl, rfl⟩ rfl (p_gtr hX.st rfl rfl rfl) ?_; clear hX; intro a w hX))
      refine x_end ?_
      refine q_then ?_
      refine c_cond hX rfl (fun hc => ?_) (fun hc => ?_)
      ·
        try (first | cases hc | exact (contra_tf hc (by with_reducible assumption)).elim | exact (contra_tf (by with_reducible assumption) hc).elim | exact absurd hc (by decide))
        all_goals
          refine wpIn_seq ?_
          refine c_region ?_
          refine xl_cons ?_; ((refine y_pure (d := 4) hX ⟨rfl, rfl⟩ rfl (p_assign hX.st rfl rfl) ?_; clear hX; intro a w hX))
          refine xl_cons ?_; ((refine y_pure (d := 5) hX ⟨rfl, rfl⟩ rfl (p_assign hX.st rfl rfl) ?_; clear hX; intro a w hX))
          refine x_end ?_
          refine q_then ?_
          refine c_ret ?_
          refine q_then_ret ?_
          have h4 : 4096 < reN l + ops.length := by have h5 := hc; simp only [decide_eq_true_eq] at h5; omega
          have er : appErr l ops = 3 := by rw [appErr, if_pos e0, if_pos h4]
          have et : appRes l ops = [] := by rw [appRes, er]; rfl
          exact f_ret2 hX Try.results20 rfl rfl ⟨none, by rw [et, er]; rfl, trivial, by rw [et]; exact (hX.sh.sel Sel.nil).nilRow 5 1⟩
      ·
        try (first | cases hc | exact (contra_tf hc (by with_reducible assumption)).elim | exact (contra_tf (by with_reducible assumption) hc).elim | exact absurd hc (by decide))
        all_goals
          refine c_skip ?_
          refine q_then ?_
          refine wpIn_seq ?_
          refine wpIn_seq ?_
          have h4 : ¬ 4096 < reN l + ops.length := by have h5 := hc; simp only [decide_eq_false_iff_not] at h5; omega
          refine c_region ?_
          refine xl_cons ?_; ((refine y_pure (d := 24) hX ⟨rfl, rfl⟩ rfl (p_move hX.st rfl rfl) ?_; clear hX; intro a w hX))
          refine xl_cons ?_; (refine y_callP (d := 25) hX rfl ⟨rfl, rfl⟩ rfl Try.func23 rfl rfl rfl (tapes_check _ _ ops hlo _ (Reads.old hX.sh hRo)) ?_; clear hX; intro a w hX)
          refine xl_cons ?_; ((refine y_pure (d := 9) hX ⟨rfl, rfl⟩ rfl (p_assign hX.st rfl rfl) ?_; clear hX; intro a w hX))
          refine x_end ?_
          refine q_then ?_
          refine wpIn_seq ?_
          refine c_region ?_
          refine xl_cons ?_; ((refine y_pure (d := 26) hX ⟨rfl, rfl⟩ rfl (p_move hX.st rfl rfl) ?_; clear hX; intro a w hX))
          refine xl_cons ?_; ((refine y_pure (d := 27) hX ⟨rfl, rfl⟩ rfl (p_neq hX.st rfl rfl rfl) ?_; clear hX; intro a w hX))
          refine x_end ?_
          refine q_then ?_
          refine c_cond hX rfl (fun hc => ?_) (fun hc => ?_)
          ·
            try (first | cases hc | exact (contra_tf hc (by with_reducible assumption)).elim | exact (contra_tf (by with_reducible assumption) hc).elim | exact absurd hc (by decide))
            all_goals
              refine wpIn_seq ?_
              refine c_region ?_
              refine xl_cons ?_; ((refine y_pure (d := 28) hX ⟨rfl, rfl⟩ rfl (p_move hX.st rfl rfl) ?_; clear hX; intro a w hX))
              refine xl_cons ?_; ((refine y_pure (d := 4) hX ⟨rfl, rfl⟩ rfl (p_assign hX.st rfl rfl) ?_; clear hX; intro a w hX))
              refine xl_cons ?_; ((refine y_pure (d := 5) hX ⟨rfl, rfl⟩ rfl (p_assign hX.st rfl rfl) ?_; clear hX; intro a w hX))
              refine x_end ?_
              refine q_then ?_
              refine c_ret ?_
              refine q_then_ret ?_
              have hne : ¬ opsErr ops = 0 := by simpa using hc
              have er : appErr l ops = opsErr ops := by rw [appErr, if_pos e0, if_neg h4]
              have et : appRes l ops = [] := by rw [appRes, er, if_neg hne]
              exact f_ret2 hX Try.results20 rfl rfl ⟨none, by rw [et, er]; rfl, trivial, by rw [et]; exact (hX.sh.sel Sel.nil).nilRow 5 1⟩
          ·
            try (first | cases hc | exact (contra_tf hc (by with_reducible assumption)).elim | exact (contra_tf (by with_reducible assumption) hc).elim | exact absurd hc (by decide))
            all_goals
              refine c_skip ?_
              refine q_then ?_
              refine wpIn_seq ?_
              have hz : opsErr ops = 0 := by simpa using hc
              have hbl := encBlocks_length_le ops
              have er : appErr l ops = 0 := by rw [appErr, if_pos e0, if_neg h4, hz]
              have et : appRes l ops = reTape l ++ encBlocks ops := by rw [appRes, if_pos er]
              refine c_region ?_
              refine xl_cons ?_; ((refine y_pure (d := 29) hX ⟨rfl, rfl⟩ rfl (p_move hX.st rfl rfl) ?_; clear hX; intro a w hX))
              refine xl_cons ?_; ((refine y_pure (d := 30) hX ⟨rfl, rfl⟩ rfl (p_move hX.st rfl rfl) ?_; clear hX; intro a w hX))
              refine xl_cons ?_; (refine y_callR (d := 31) hX rfl ⟨rfl, rfl⟩ rfl Try.func26 rfl rfl rfl (put_blocks _ _ _ (reTape l) rfl (by omega) ops (by omega) (good_all ops hz) Ao co hco hco2 _ _ _ hX.sh (Reads.old hX.sh hRo) (fun b p hm e => hRo.blk hm (by decide) e)) ?_; clear hX; rintro A2 c2 a w hX)
              refine xl_cons ?_; (refine y_callC (d := 32) hX rfl ⟨rfl, rfl⟩ rfl Try.func24 rfl rfl rfl (copied_n _ _ _ (reTape l ++ encBlocks ops) rfl (by rw [List.length_append]; omega) _ (Reads.row hX.sh foc0)) ?_; clear hX; rintro b2 a w _ hX)
              refine xl_cons ?_; ((refine y_pure (d := 4) hX ⟨rfl, rfl⟩ rfl (p_assign hX.st rfl rfl) ?_; clear hX; intro a w hX))
              refine xl_cons ?_; ((refine y_pure (d := 5) hX ⟨rfl, rfl⟩ rfl (p_assign hX.st rfl rfl) ?_; clear hX; intro a w hX))
              refine x_end ?_
              refine q_then ?_
              refine c_ret ?_
              exact f_ret2 hX Try.results20 rfl rfl ⟨some ⟨b2, 0, none⟩, by rw [et, er], trivial, by rw [et]; exact hX.sh.sel (Sel.cons tk0 Sel.nil)⟩
def finRes (b : List UInt8) : List UInt8 := if reErr b = 0 then reTape b ++ endB else []
theorem finish_any (A : Option Addr) (c : Nat) (l : List UInt8) (hl : l.length ≤ 90000) (hcc : l.length ≤ c) (hc2 : c ≤ 9223372036854775807) (W : World) (hR : Reads W A l.length 1 (l.map byteV)) :
    Ret Try.prog 21 #[.slice A l.length c] W fun v w' => ∃ A', v = .tuple #[.slice A' (finRes l).length (finRes l).length, .int .i64 (reErr l)] ∧ True ∧ SF W [.row A' (finRes l).length 5 1 (finRes l).length ((finRes l).map byteV)] w' := by
  have hrl := reTape_len l hl
  refine f_start (vs := [.slice A l.length c]) [(0, .slice A l.length c)] Try.func21 rfl Try.ntmps21 rfl rfl ?_
  intro a hX
  refine wpIn_seq ?_
  refine c_region ?_
  refine xl_cons ?_; ((refine y_pure (d := 2) hX ⟨rfl, rfl⟩ rfl (p_assign hX.st rfl rfl) ?_; clear hX; intro a w hX))
  refine xl_cons ?_; ((refine y_pure (d := 3) hX ⟨rfl, rfl⟩ rfl (p_assign hX.st rfl rfl) ?_; clear hX; intro a w hX))
  refine x_end ?_
  refine q_then ?_
  refine wpIn_seq ?_
  refine c_region ?_
  refine xl_cons ?_; ((refine y_pure (d := 8) hX ⟨rfl, rfl⟩ rfl (p_move hX.st rfl rfl) ?_; clear hX; intro a w hX))
  refine xl_cons ?_; (refine y_callC (d := 9) hX rfl ⟨rfl, rfl⟩ rfl Try.func31 rfl rfl rfl (reopen_any _ _ l (by omega) hcc hc2 _ (Reads.old hX.sh hR)) ?_; clear hX; rintro A1 a w _ hX)
  refine xl_cons ?_; ((refine y_pure (d := 7) hX ⟨rfl, rfl⟩ rfl (p_move hX.st rfl rfl) ?_; clear hX; intro a w hX))
  refine xl_cons ?_; ((refine y_pure (d := 10) hX ⟨rfl, rfl⟩ rfl (p_extract hX.st rfl rfl rfl) ?_; clear hX; intro a w hX))
  refine xl_cons ?_; ((refine y_pure (d := 11) hX ⟨rfl, rfl⟩ rfl (p_extract hX.st rfl rfl rfl) ?_; clear hX; intro a w hX))
  refine xl_cons ?_; ((refine y_pure (d := 12) hX ⟨rfl, rfl⟩ rfl (p_extract hX.st rfl rfl rfl) ?_; clear hX; intro a w hX))
  refine xl_cons ?_; ((refine y_pure (d := 4) hX ⟨rfl, rfl⟩ rfl (p_assign hX.st rfl rfl) ?_; clear hX; intro a w hX))
  refine xl_cons ?_; ((refine y_pure (d := 5) hX ⟨rfl, rfl⟩ rfl (p_assign hX.st rfl rfl) ?_; clear hX; intro a w hX))
  refine xl_cons ?_; ((refine y_pure (d := 6) hX ⟨rfl, rfl⟩ rfl (p_assign hX.st rfl rfl) ?_; clear hX; intro a w hX))
  refine x_end ?_
  refine q_then ?_
  refine wpIn_seq ?_
  refine wpIn_seq ?_
  refine c_region ?_
  refine xl_cons ?_; ((refine y_pure (d := 13) hX ⟨rfl, rfl⟩ rfl (p_move hX.st rfl rfl) ?_; clear hX; intro a w hX))
  refine xl_cons ?_; ((refine y_pure (d := 14) hX ⟨rfl, rfl⟩ rfl (p_neq hX.st rfl rfl rfl) ?_; clear hX; intro a w hX))
  refine x_end ?_
  refine q_then ?_
  refine c_cond hX rfl (fun hc => ?_) (fun hc => ?_)
  ·
    try (first | cases hc | exact (contra_tf hc (by with_reducible assumption)).elim | exact (contra_tf (by with_reducible assumption) hc).elim | exact absurd hc (by decide))
    all_goals
      refine wpIn_seq ?_
      refine c_region ?_
      refine xl_cons ?_; ((refine y_pure (d := 15) hX ⟨rfl, rfl⟩ rfl (p_move hX.st rfl rfl) ?_; clear hX; intro a w hX))
      refine xl_cons ?_; ((refine y_pure (d := 2) hX ⟨rfl, rfl⟩ rfl (p_assign hX.st rfl rfl) ?_; clear hX; intro a w hX))
      refine xl_cons ?_; ((refine y_pure (d := 3) hX ⟨rfl, rfl⟩ rfl (p_assign hX.st rfl rfl) ?_; clear hX; intro a w hX))
      refine x_end ?_
      refine q_then ?_
      refine c_ret ?_
      refine q_then_ret ?_
      have hne : ¬ reErr l = 0 := by simpa using hc
      have et : finRes l = [] := by rw [finRes, if_neg hne]
      exact f_ret2 hX Try.results21 rfl rfl ⟨none, by rw [et]; rfl, trivial, by rw [et]; exact (hX.sh.sel Sel.nil).nilRow 5 1⟩
  ·
    try (first | cases hc | exact (contra_tf hc (by with_reducible assumption)).elim | exact (contra_tf (by with_reducible assumption) hc).elim | exact absurd hc (by decide))
    all_goals
      refine c_skip ?_
      refine q_then ?_
      refine wpIn_seq ?_
      have e0 : reErr l = 0 := by simpa using hc
      have et : finRes l = reTape l ++ endB := by rw [finRes, if_pos e0]
      refine c_region ?_
      refine xl_cons ?_; ((refine y_pure (d := 16) hX ⟨rfl, rfl⟩ rfl (p_move hX.st rfl rfl) ?_; clear hX; intro a w hX))
      refine xl_cons ?_; (refine y_callR (d := 17) hX rfl ⟨rfl, rfl⟩ rfl Try.func25 rfl rfl rfl (put_end _ _ _ (reTape l) rfl (by omega) _ _ [] _ hX.sh) ?_; clear hX; rintro A2 c2 a w hX)
      refine xl_cons ?_; (refine y_callC (d := 18) hX rfl ⟨rfl, rfl⟩ rfl Try.func24 rfl rfl rfl (copied_n _ _ _ (reTape l ++ endB) (by simp only [List.length_append, endB_length]) (by omega) _ (Reads.row hX.sh foc0)) ?_; clear hX; rintro b2 a w _ hX)
      refine xl_cons ?_; ((refine y_pure (d := 2) hX ⟨rfl, rfl⟩ rfl (p_assign hX.st rfl rfl) ?_; clear hX; intro a w hX))
      refine xl_cons ?_; ((refine y_pure (d := 3) hX ⟨rfl, rfl⟩ rfl (p_assign hX.st rfl rfl) ?_; clear hX; intro a w hX))
      refine x_end ?_
      refine q_then ?_
      refine c_ret ?_
      have en : (reTape l).length + 3 = (finRes l).length := by rw [et]; simp only [List.length_append, endB_length]
      rw [en, ← et] at hX
      exact f_ret2 hX Try.results21 rfl rfl ⟨some ⟨b2, 0, none⟩, by rw [e0], trivial, hX.sh.sel (Sel.cons tk0 Sel.nil)⟩
end Go.Proofs.Ytjemilhbipaepaa
