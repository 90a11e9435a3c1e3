/- Which operations are valid: needles.Check. -/
import Derived.Test.YtjemilhbipaepaaS0
namespace Go.Proofs.Ytjemilhbipaepaa
open Go.RowKit

def needleOk (bed : Nat) (place : Int) : Bool := decide (bed ≤ 1) && decide (1 ≤ place) && decide (place ≤ 40)
def needleErr (bed : Nat) (place : Int) : Int := if needleOk bed place then 0 else 1

theorem needles_check (bed : Nat) (place : Int) (W : World) :
    Ret Try.prog 39 #[.agg #[.int .u8 bed, .int .i64 place]] W fun v w' => v = .int .i64 (needleErr bed place) ∧ SF W [] w' := by
  refine f_start (vs := [.agg #[.int .u8 bed, .int .i64 place]]) [(0, .agg #[.int .u8 bed, .int .i64 place])] Try.func39 rfl Try.ntmps39 rfl rfl ?_
  intro a hX
  refine wpIn_seq ?_
  refine c_region ?_
  refine xl_cons ?_; (first | (refine y_box_agg (d := 1) hX rfl ⟨rfl, rfl⟩ rfl rfl ?_; clear hX; intro b a w hX) | (refine y_box_one (d := 1) hX rfl ⟨rfl, rfl⟩ rfl rfl rfl ?_; clear hX; intro b a w hX))
  refine xl_cons ?_; ((refine y_pure (d := 2) hX ⟨rfl, rfl⟩ rfl (p_assign hX.st rfl rfl) ?_; clear hX; intro a w hX))
  refine x_end ?_
  refine q_then ?_
  refine wpIn_seq ?_
  refine wpIn_seq ?_
  refine c_region ?_
  refine xl_cons ?_; ((refine y_pure (d := 3) hX ⟨rfl, rfl⟩ rfl (p_field0 hX.st rfl tab_ok rfl rfl rfl rfl rfl rfl) ?_; clear hX; intro a w hX))
  refine xl_cons ?_; ((refine y_read (d := 4) hX ⟨rfl, rfl⟩ rfl (v_load hX.st rfl tab_ok rfl rfl rfl foc0 rfl) ?_; clear hX; intro a w hX))
  refine xl_cons ?_; ((refine y_pure (d := 5) hX ⟨rfl, rfl⟩ rfl (p_neq hX.st rfl rfl rfl) ?_; clear hX; intro a w hX))
  refine xl_cons ?_; ((refine y_pure (d := 6) hX ⟨rfl, rfl⟩ rfl (p_move hX.st rfl rfl) ?_; clear hX; intro a w hX))
  all_goals (refine xl_cons ?_; (first | (refine y_guard0 hX rfl rfl rfl (by first | with_reducible rfl | with_reducible assumption | exact beq_self_eq_true _ | exact bne_self_eq_false _ | (show _ = true; with_reducible first | rfl | assumption) | (show _ = false; with_reducible first | rfl | assumption) | decide) rfl rfl ?_; clear hX; intro a w hX) | ((refine y_guard1 hX rfl rfl rfl (by first | with_reducible rfl | with_reducible assumption | exact beq_self_eq_true _ | exact bne_self_eq_false _ | (show _ = true; with_reducible first | rfl | assumption) | (show _ = false; with_reducible first | rfl | assumption) | decide) ?_); ((refine y_pure (d := 7) hX ⟨rfl, rfl⟩ rfl (p_field0 hX.st rfl tab_ok rfl rfl rfl rfl rfl rfl) ?_; clear hX; intro a w hX))) | (refine y_guardU hX rfl rfl rfl rfl rfl ?_; clear hX; intro a w hX) | ((refine y_gsplit hX rfl rfl rfl ?_ ?_) <;> intro hg <;> first | (refine y_guard0 hX rfl rfl rfl (by first | with_reducible rfl | with_reducible assumption | exact beq_self_eq_true _ | exact bne_self_eq_false _ | (show _ = true; with_reducible first | rfl | assumption) | (show _ = false; with_reducible first | rfl | assumption) | decide) rfl rfl ?_; clear hX; intro a w hX) | ((refine y_guard1 hX rfl rfl rfl (by first | with_reducible rfl | with_reducible assumption | exact beq_self_eq_true _ | exact bne_self_eq_false _ | (show _ = true; with_reducible first | rfl | assumption) | (show _ = false; with_reducible first | rfl | assumption) | decide) ?_); ((refine y_pure (d := 7) hX ⟨rfl, rfl⟩ rfl (p_field0 hX.st rfl tab_ok rfl rfl rfl rfl rfl rfl) ?_; clear hX; intro a w hX))))))
  all_goals (refine xl_cons ?_; (first | (refine y_guard0 hX rfl rfl rfl (by first | with_reducible rfl | with_reducible assumption | exact beq_self_eq_true _ | exact bne_self_eq_false _ | (show _ = true; with_reducible first | rfl | assumption) | (show _ = false; with_reducible first | rfl | assumption) | decide) rfl rfl ?_; clear hX; intro a w hX) | ((refine y_guard1 hX rfl rfl rfl (by first | with_reducible rfl | with_reducible assumption | exact beq_self_eq_true _ | exact bne_self_eq_false _ | (show _ = true; with_reducible first | rfl | assumption) | (show _ = false; with_reducible first | rfl | assumption) | decide) ?_); ((refine y_read (d := 8) hX ⟨rfl, rfl⟩ rfl (v_load hX.st rfl tab_ok rfl rfl rfl foc0 rfl) ?_; clear hX; intro a w hX))) | (refine y_guardU hX rfl rfl rfl rfl rfl ?_; clear hX; intro a w hX) | ((refine y_gsplit hX rfl rfl rfl ?_ ?_) <;> intro hg <;> first | (refine y_guard0 hX rfl rfl rfl (by first | with_reducible rfl | with_reducible assumption | exact beq_self_eq_true _ | exact bne_self_eq_false _ | (show _ = true; with_reducible first | rfl | assumption) | (show _ = false; with_reducible first | rfl | assumption) | decide) rfl rfl ?_; clear hX; intro a w hX) | ((refine y_guard1 hX rfl rfl rfl (by first | with_reducible rfl | with_reducible assumption | exact beq_self_eq_true _ | exact bne_self_eq_false _ | (show _ = true; with_reducible first | rfl | assumption) | (show _ = false; with_reducible first | rfl | assumption) | decide) ?_); ((refine y_read (d := 8) hX ⟨rfl, rfl⟩ rfl (v_load hX.st rfl tab_ok rfl rfl rfl foc0 rfl) ?_; clear hX; intro a w hX))))))
  all_goals (refine xl_cons ?_; (first | (refine y_guard0 hX rfl rfl rfl (by first | with_reducible rfl | with_reducible assumption | exact beq_self_eq_true _ | exact bne_self_eq_false _ | (show _ = true; with_reducible first | rfl | assumption) | (show _ = false; with_reducible first | rfl | assumption) | decide) rfl rfl ?_; clear hX; intro a w hX) | ((refine y_guard1 hX rfl rfl rfl (by first | with_reducible rfl | with_reducible assumption | exact beq_self_eq_true _ | exact bne_self_eq_false _ | (show _ = true; with_reducible first | rfl | assumption) | (show _ = false; with_reducible first | rfl | assumption) | decide) ?_); ((refine y_pure (d := 9) hX ⟨rfl, rfl⟩ rfl (p_neq hX.st rfl rfl rfl) ?_; clear hX; intro a w hX))) | (refine y_guardU hX rfl rfl rfl rfl rfl ?_; clear hX; intro a w hX) | ((refine y_gsplit hX rfl rfl rfl ?_ ?_) <;> intro hg <;> first | (refine y_guard0 hX rfl rfl rfl (by first | with_reducible rfl | with_reducible assumption | exact beq_self_eq_true _ | exact bne_self_eq_false _ | (show _ = true; with_reducible first | rfl | assumption) | (show _ = false; with_reducible first | rfl | assumption) | decide) rfl rfl ?_; clear hX; intro a w hX) | ((refine y_guard1 hX rfl rfl rfl (by first | with_reducible rfl | with_reducible assumption | exact beq_self_eq_true _ | exact bne_self_eq_false _ | (show _ = true; with_reducible first | rfl | assumption) | (show _ = false; with_reducible first | rfl | assumption) | decide) ?_); ((refine y_pure (d := 9) hX ⟨rfl, rfl⟩ rfl (p_neq hX.st rfl rfl rfl) ?_; clear hX; intro a w hX))))))
  all_goals (refine xl_cons ?_; (first | (refine y_pure (d := 10) hX ⟨rfl, rfl⟩ rfl (p_pick1 hX.st rfl rfl (by first | with_reducible rfl | with_reducible assumption | exact beq_self_eq_true _ | exact bne_self_eq_false _ | (show _ = true; with_reducible first | rfl | assumption) | (show _ = false; with_reducible first | rfl | assumption) | decide) rfl) ?_; clear hX; intro a w hX) | (refine y_pure (d := 10) hX ⟨rfl, rfl⟩ rfl (p_pick0 hX.st rfl rfl (by first | with_reducible rfl | with_reducible assumption | exact beq_self_eq_true _ | exact bne_self_eq_false _ | (show _ = true; with_reducible first | rfl | assumption) | (show _ = false; with_reducible first | rfl | assumption) | decide) rfl) ?_; clear hX; intro a w hX)))
  all_goals
    refine x_end ?_
    refine q_then ?_
    refine c_cond hX rfl (fun hc => ?_) (fun hc => ?_)
    ·
      try (first | cases hc | exact (contra_tf hc (by with_reducible assumption)).elim | exact (contra_tf (by with_reducible assumption) hc).elim | exact absurd hc (by decide))
      all_goals
        refine wpIn_seq ?_
        refine c_region ?_
        refine xl_cons ?_; ((refine y_pure (d := 2) hX ⟨rfl, rfl⟩ rfl (p_assign hX.st rfl rfl) ?_; clear hX; intro a w hX))
        refine x_end ?_
        refine q_then ?_
        refine c_ret ?_
        refine q_then_ret ?_
        refine f_ret1 hX Try.results39 rfl ⟨?_, hX.sh.sel Sel.nil⟩
        clear hX
        simp only [bne_iff_ne, ne_eq, bne_eq_false_iff_eq, beq_iff_eq, beq_eq_false_iff_ne, decide_eq_true_eq, decide_eq_false_iff_not] at *
        simp [needleErr, needleOk]
        omega
    ·
      try (first | cases hc | exact (contra_tf hc (by with_reducible assumption)).elim | exact (contra_tf (by with_reducible assumption) hc).elim | exact absurd hc (by decide))
      all_goals
        refine c_skip ?_
        refine q_then ?_
        refine wpIn_seq ?_
        refine wpIn_seq ?_
        refine c_region ?_
        refine xl_cons ?_; ((refine y_pure (d := 11) hX ⟨rfl, rfl⟩ rfl (p_field0 hX.st rfl tab_ok rfl rfl rfl rfl rfl rfl) ?_; clear hX; intro a w hX))
        refine xl_cons ?_; ((refine y_read (d := 12) hX ⟨rfl, rfl⟩ rfl (v_load hX.st rfl tab_ok rfl rfl rfl foc0 rfl) ?_; clear hX; intro a w hX))
        refine xl_cons ?_; ((refine y_pure (d := 13) hX ⟨rfl, rfl⟩ rfl (p_lss hX.st rfl rfl rfl) ?_; clear hX; intro a w hX))
        refine xl_cons ?_; ((refine y_pure (d := 14) hX ⟨rfl, rfl⟩ rfl (p_move hX.st rfl rfl) ?_; clear hX; intro a w hX))
        all_goals (refine xl_cons ?_; (first | (refine y_guard0 hX rfl rfl rfl (by first | with_reducible rfl | with_reducible assumption | exact beq_self_eq_true _ | exact bne_self_eq_false _ | (show _ = true; with_reducible first | rfl | assumption) | (show _ = false; with_reducible first | rfl | assumption) | decide) rfl rfl ?_; clear hX; intro a w hX) | ((refine y_guard1 hX rfl rfl rfl (by first | with_reducible rfl | with_reducible assumption | exact beq_self_eq_true _ | exact bne_self_eq_false _ | (show _ = true; with_reducible first | rfl | assumption) | (show _ = false; with_reducible first | rfl | assumption) | decide) ?_); ((refine y_pure (d := 15) hX ⟨rfl, rfl⟩ rfl (p_field0 hX.st rfl tab_ok rfl rfl rfl rfl rfl rfl) ?_; clear hX; intro a w hX))) | (refine y_guardU hX rfl rfl rfl rfl rfl ?_; clear hX; intro a w hX) | ((refine y_gsplit hX rfl rfl rfl ?_ ?_) <;> intro hg <;> first | (refine y_guard0 hX rfl rfl rfl (by first | with_reducible rfl | with_reducible assumption | exact beq_self_eq_true _ | exact bne_self_eq_false _ | (show _ = true; with_reducible first | rfl | assumption) | (show _ = false; with_reducible first | rfl | assumption) | decide) rfl rfl ?_; clear hX; intro a w hX) | ((refine y_guard1 hX rfl rfl rfl (by first | with_reducible rfl | with_reducible assumption | exact beq_self_eq_true _ | exact bne_self_eq_false _ | (show _ = true; with_reducible first | rfl | assumption) | (show _ = false; with_reducible first | rfl | assumption) | decide) ?_); ((refine y_pure (d := 15) hX ⟨rfl, rfl⟩ rfl (p_field0 hX.st rfl tab_ok rfl rfl rfl rfl rfl rfl) ?_; clear hX; intro a w hX))))))
        all_goals (refine xl_cons ?_; (first | (refine y_guard0 hX rfl rfl rfl (by first | with_reducible rfl | with_reducible assumption | exact beq_self_eq_true _ | exact bne_self_eq_false _ | (show _ = true; with_reducible first | rfl | assumption) | (show _ = false; with_reducible first | rfl | assumption) | decide) rfl rfl ?_; clear hX; intro a w hX) | ((refine y_guard1 hX rfl rfl rfl (by first | with_reducible rfl | with_reducible assumption | exact beq_self_eq_true _ | exact bne_self_eq_false _ | (show _ = true; with_reducible first | rfl | assumption) | (show _ = false; with_reducible first | rfl | assumption) | decide) ?_); ((refine y_read (d := 16) hX ⟨rfl, rfl⟩ rfl (v_load hX.st rfl tab_ok rfl rfl rfl foc0 rfl) ?_; clear hX; intro a w hX))) | (refine y_guardU hX rfl rfl rfl rfl rfl ?_; clear hX; intro a w hX) | ((refine y_gsplit hX rfl rfl rfl ?_ ?_) <;> intro hg <;> first | (refine y_guard0 hX rfl rfl rfl (by first | with_reducible rfl | with_reducible assumption | exact beq_self_eq_true _ | exact bne_self_eq_false _ | (show _ = true; with_reducible first | rfl | assumption) | (show _ = false; with_reducible first | rfl | assumption) | decide) rfl rfl ?_; clear hX; intro a w hX) | ((refine y_guard1 hX rfl rfl rfl (by first | with_reducible rfl | with_reducible assumption | exact beq_self_eq_true _ | exact bne_self_eq_false _ | (show _ = true; with_reducible first | rfl | assumption) | (show _ = false; with_reducible first | rfl | assumption) | decide) ?_); ((refine y_read (d := 16) hX ⟨rfl, rfl⟩ rfl (v_load hX.st rfl tab_ok rfl rfl rfl foc0 rfl) ?_; clear hX; intro a w hX))))))
        all_goals (refine xl_cons ?_; (first | (refine y_guard0 hX rfl rfl rfl (by first | with_reducible rfl | with_reducible assumption | exact beq_self_eq_true _ | exact bne_self_eq_false _ | (show _ = true; with_reducible first | rfl | assumption) | (show _ = false; with_reducible first | rfl | assumption) | decide) rfl rfl ?_; clear hX; intro a w hX) | ((refine y_guard1 hX rfl rfl rfl (by first | with_reducible rfl | with_reducible assumption | exact beq_self_eq_true _ | exact bne_self_eq_false _ | (show _ = true; with_reducible first | rfl | assumption) | (show _ = false; with_reducible first | rfl | assumption) | decide) ?_); ((refine y_pure (d := 17) hX ⟨rfl, rfl⟩ rfl (p_gtr hX.st rfl rfl rfl) ?_; clear hX; intro a w hX))) | (refine y_guardU hX rfl rfl rfl rfl rfl ?_; clear hX; intro a w hX) | ((refine y_gsplit hX rfl rfl rfl ?_ ?_) <;> intro hg <;> first | (refine y_guard0 hX rfl rfl rfl (by first | with_reducible rfl | with_reducible assumption | exact beq_self_eq_true _ | exact bne_self_eq_false _ | (show _ = true; with_reducible first | rfl | assumption) | (show _ = false; with_reducible first | rfl | assumption) | decide) rfl rfl ?_; clear hX; intro a w hX) | ((refine y_guard1 hX rfl rfl rfl (by first | with_reducible rfl | with_reducible assumption | exact beq_self_eq_true _ | exact bne_self_eq_false _ | (show _ = true; with_reducible first | rfl | assumption) | (show _ = false; with_reducible first | rfl | assumption) | decide) ?_); ((refine y_pure (d := 17) hX ⟨rfl, rfl⟩ rfl (p_gtr hX.st rfl rfl rfl) ?_; clear hX; intro a w hX))))))
        all_goals (refine xl_cons ?_; (first | (refine y_pure (d := 18) hX ⟨rfl, rfl⟩ rfl (p_pick1 hX.st rfl rfl (by first | with_reducible rfl | with_reducible assumption | exact beq_self_eq_true _ | exact bne_self_eq_false _ | (show _ = true; with_reducible first | rfl | assumption) | (show _ = false; with_reducible first | rfl | assumption) | decide) rfl) ?_; clear hX; intro a w hX) | (refine y_pure (d := 18) hX ⟨rfl, rfl⟩ rfl (p_pick0 hX.st rfl rfl (by first | with_reducible rfl | with_reducible assumption | exact beq_self_eq_true _ | exact bne_self_eq_false _ | (show _ = true; with_reducible first | rfl | assumption) | (show _ = false; with_reducible first | rfl | assumption) | decide) rfl) ?_; clear hX; intro a w hX)))
        all_goals
          refine x_end ?_
          refine q_then ?_
          refine c_cond hX rfl (fun hc => ?_) (fun hc => ?_)
          ·
            try (first | cases hc | exact (contra_tf hc (by with_reducible assumption)).elim | exact (contra_tf (by with_reducible assumption) hc).elim | exact absurd hc (by decide))
            all_goals
              refine wpIn_seq ?_
              refine c_region ?_
              refine xl_cons ?_; ((refine y_pure (d := 2) hX ⟨rfl, rfl⟩ rfl (p_assign hX.st rfl rfl) ?_; clear hX; intro a w hX))
              refine x_end ?_
              refine q_then ?_
              refine c_ret ?_
              refine q_then_ret ?_
              refine f_ret1 hX Try.results39 rfl ⟨?_, hX.sh.sel Sel.nil⟩
              clear hX
              simp only [bne_iff_ne, ne_eq, bne_eq_false_iff_eq, beq_iff_eq, beq_eq_false_iff_ne, decide_eq_true_eq, decide_eq_false_iff_not] at *
              simp [needleErr, needleOk]
              omega
          ·
            try (first | cases hc | exact (contra_tf hc (by with_reducible assumption)).elim | exact (contra_tf (by with_reducible assumption) hc).elim | exact absurd hc (by decide))
            all_goals
              refine c_skip ?_
              refine q_then ?_
              refine wpIn_seq ?_
              refine c_region ?_
              refine xl_cons ?_; ((refine y_pure (d := 2) hX ⟨rfl, rfl⟩ rfl (p_assign hX.st rfl rfl) ?_; clear hX; intro a w hX))
              refine x_end ?_
              refine q_then ?_
              refine c_ret ?_
              refine f_ret1 hX Try.results39 rfl ⟨?_, hX.sh.sel Sel.nil⟩
              clear hX
              simp only [bne_iff_ne, ne_eq, bne_eq_false_iff_eq, beq_iff_eq, beq_eq_false_iff_ne, decide_eq_true_eq, decide_eq_false_iff_not] at *
              simp [needleErr, needleOk]
              omega
end Go.Proofs.Ytjemilhbipaepaa
