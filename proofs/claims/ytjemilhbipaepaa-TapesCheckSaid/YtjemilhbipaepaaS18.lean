/- The law TapesCheck, walked. -/
import Derived.Test.YtjemilhbipaepaaS17
namespace Go.Proofs.Ytjemilhbipaepaa
open Go.RowKit
theorem law3 (A : Option Addr) (c : Nat) (l : List UInt8) (W : World) (hR : Reads W A l.length 1 (l.map byteV)) :
    Ret Try.prog 3 #[.slice A l.length c] W fun v w' => v = .bool true ∧ SF W [] w' := by
  refine f_start (vs := [.slice A l.length c]) [(0, .slice A l.length c)] Try.func3 rfl Try.ntmps3 rfl rfl ?_
  intro a hX
  refine wpIn_seq ?_
  refine c_region ?_
  refine xl_cons ?_; ((refine y_pure (d := 2) hX ⟨rfl, rfl⟩ rfl (p_assign hX.st rfl rfl) ?_; clear hX; intro a w hX))
  refine x_end ?_
  refine q_then ?_
  refine wpIn_seq ?_
  refine wpIn_seq ?_
  refine c_region ?_
  refine xl_cons ?_; ((refine y_pure (d := 3) hX ⟨rfl, rfl⟩ rfl (p_move hX.st rfl rfl) ?_; clear hX; intro a w hX))
  refine xl_cons ?_; ((refine y_pure (d := 4) hX ⟨rfl, rfl⟩ rfl (p_len hX.st rfl tab_ok rfl rfl rfl) ?_; clear hX; intro a w hX))
  refine xl_cons ?_; ((refine y_pure (d := 5) hX ⟨rfl, rfl⟩ rfl (p_gtr hX.st rfl rfl rfl) ?_; clear hX; intro a w hX))
  refine x_end ?_
  refine q_then ?_
  refine c_cond hX rfl (fun hc => ?_) (fun hc => ?_)
  ·
    try (first | cases hc | exact (contra_tf hc (by with_reducible assumption)).elim | exact (contra_tf (by with_reducible assumption) hc).elim | exact absurd hc (by decide))
    all_goals
      refine wpIn_seq ?_
      refine c_region ?_
      refine xl_cons ?_; (refine y_callP (d := 6) hX rfl ⟨rfl, rfl⟩ rfl Try.func9 rfl rfl rfl (lives_ok _) ?_; clear hX; intro a w hX)
      refine xl_cons ?_; ((refine y_pure (d := 2) hX ⟨rfl, rfl⟩ rfl (p_assign hX.st rfl rfl) ?_; clear hX; intro a w hX))
      refine x_end ?_
      refine q_then ?_
      refine c_ret ?_
      refine q_then_ret ?_
      exact f_ret1 hX Try.results3 rfl ⟨rfl, hX.sh⟩
  ·
    try (first | cases hc | exact (contra_tf hc (by with_reducible assumption)).elim | exact (contra_tf (by with_reducible assumption) hc).elim | exact absurd hc (by decide))
    all_goals
      refine c_skip ?_
      refine q_then ?_
      refine wpIn_seq ?_
      have h60 : l.length ≤ 60 := by have h5 := hc; simp only [decide_eq_false_iff_not] at h5; omega
      have hcl := crc_lt l
      refine c_region ?_
      refine xl_cons ?_; ((refine y_pure (d := 7) hX ⟨rfl, rfl⟩ rfl (p_move hX.st rfl rfl) ?_; clear hX; intro a w hX))
      refine xl_cons ?_; (refine y_callP (d := 8) hX rfl ⟨rfl, rfl⟩ rfl Try.func10 rfl rfl rfl (check16n _ _ _ l rfl (by omega) _ (Reads.old hX.sh hR)) ?_; clear hX; intro a w hX)
      refine xl_cons ?_; (refine y_pure (d := 9) hX ⟨rfl, rfl⟩ rfl (p_conv hX.st rfl tab_ok rfl rfl rfl rfl (in_i64 (by omega) (by omega))) ?_; clear hX; intro a w hX)
      refine xl_cons ?_; ((refine y_pure (d := 10) hX ⟨rfl, rfl⟩ rfl (p_move hX.st rfl rfl) ?_; clear hX; intro a w hX))
      refine xl_cons ?_; (refine y_callP (d := 11) hX rfl ⟨rfl, rfl⟩ rfl Try.func11 rfl rfl rfl (law_check _ _ _ l rfl (by omega) _ (Reads.old hX.sh hR)) ?_; clear hX; intro a w hX)
      refine xl_cons ?_; (refine y_pure (d := 12) hX ⟨rfl, rfl⟩ rfl (p_eql hX.st rfl rfl rfl) ?_; clear hX; intro a w hX; rw [beq_self_eq_true] at hX)
      refine xl_cons ?_; ((refine y_pure (d := 13) hX ⟨rfl, rfl⟩ rfl (p_move hX.st rfl rfl) ?_; clear hX; intro a w hX))
      all_goals (refine xl_cons ?_; (first | (refine y_guard0 hX rfl rfl rfl (by first | with_reducible rfl | with_reducible assumption | (show _ = true; with_reducible first | rfl | assumption) | (show _ = false; with_reducible first | rfl | assumption) | decide) rfl rfl ?_; clear hX; intro a w hX) | ((refine y_guard1 hX rfl rfl rfl (by first | with_reducible rfl | with_reducible assumption | (show _ = true; with_reducible first | rfl | assumption) | (show _ = false; with_reducible first | rfl | assumption) | decide) ?_); (refine y_callP (d := 14) hX rfl ⟨rfl, rfl⟩ rfl Try.func9 rfl rfl rfl (lives_ok _) ?_; clear hX; intro a w hX)) | (refine y_guardU hX rfl rfl rfl rfl rfl ?_; clear hX; intro a w hX) | ((refine y_gsplit hX rfl rfl rfl ?_ ?_) <;> intro hg <;> first | (refine y_guard0 hX rfl rfl rfl (by first | with_reducible rfl | with_reducible assumption | (show _ = true; with_reducible first | rfl | assumption) | (show _ = false; with_reducible first | rfl | assumption) | decide) rfl rfl ?_; clear hX; intro a w hX) | ((refine y_guard1 hX rfl rfl rfl (by first | with_reducible rfl | with_reducible assumption | (show _ = true; with_reducible first | rfl | assumption) | (show _ = false; with_reducible first | rfl | assumption) | decide) ?_); (refine y_callP (d := 14) hX rfl ⟨rfl, rfl⟩ rfl Try.func9 rfl rfl rfl (lives_ok _) ?_; clear hX; intro a w hX)))))
      all_goals (refine xl_cons ?_; (first | (refine y_pure (d := 15) hX ⟨rfl, rfl⟩ rfl (p_pick1 hX.st rfl rfl (by first | with_reducible rfl | with_reducible assumption | (show _ = true; with_reducible first | rfl | assumption) | (show _ = false; with_reducible first | rfl | assumption) | decide) rfl) ?_; clear hX; intro a w hX) | (refine y_pure (d := 15) hX ⟨rfl, rfl⟩ rfl (p_pick0 hX.st rfl rfl (by first | with_reducible rfl | with_reducible assumption | (show _ = true; with_reducible first | rfl | assumption) | (show _ = false; with_reducible first | rfl | assumption) | decide) rfl) ?_; clear hX; intro a w hX)))
      all_goals (refine xl_cons ?_; ((refine y_pure (d := 2) hX ⟨rfl, rfl⟩ rfl (p_assign hX.st rfl rfl) ?_; clear hX; intro a w hX)))
      all_goals
        refine x_end ?_
        refine q_then ?_
        refine c_ret ?_
        exact f_ret1 hX Try.results3 rfl ⟨rfl, hX.sh⟩
end Go.Proofs.Ytjemilhbipaepaa
