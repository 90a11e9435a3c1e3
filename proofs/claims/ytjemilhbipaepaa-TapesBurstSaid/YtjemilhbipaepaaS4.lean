/- operations.Check; tapes.putOp, putSum, putEnd; copies. -/
import Derived.Test.YtjemilhbipaepaaX11
import Derived.Test.YtjemilhbipaepaaS3
namespace Go.Proofs.Ytjemilhbipaepaa
open Go.RowKit

def opErr (o : Op) : Int := if opPlain o then (if o.rack < -4 ∨ 4 < o.rack then 11 else 0) else 1

theorem op_check (o : Op) (W : World) :
    Ret Try.prog 18 #[.agg (opC o).toArray] W fun v w' => v = .int .i64 (opErr o) ∧ SF W [] w' := by
  refine f_start (vs := [.agg (opC o).toArray]) [(0, .agg (opC o).toArray)] Try.func18 rfl Try.ntmps18 rfl rfl ?_
  intro a hX
  refine wpIn_seq ?_
  refine c_region ?_
  refine xl_cons ?_; (first | (refine y_box_agg (d := 1) hX rfl ⟨rfl, rfl⟩ rfl rfl ?_; clear hX; intro b a w hX) | (refine y_box_one (d := 1) hX rfl ⟨rfl, rfl⟩ rfl rfl rfl ?_; clear hX; intro b a w hX))
  refine xl_cons ?_; ((refine y_pure (d := 2) hX ⟨rfl, rfl⟩ rfl (p_assign hX.st rfl rfl) ?_; clear hX; intro a w hX))
  refine x_end ?_
  refine q_then ?_
  refine wpIn_seq ?_
  refine wpIn_seq ?_
  refine c_region ?_
  refine xl_cons ?_; ((refine y_read (d := 3) hX ⟨rfl, rfl⟩ rfl (v_load_whole hX.st rfl tab_ok rfl rfl rfl foc0 rfl) ?_; clear hX; intro a w hX))
  refine xl_cons ?_; (refine y_callP (d := 4) hX rfl ⟨rfl, rfl⟩ rfl Try.func29 rfl rfl rfl (plain_any o _) ?_; clear hX; intro a w hX)
  refine xl_cons ?_; ((refine y_pure (d := 5) hX ⟨rfl, rfl⟩ rfl (p_not hX.st rfl rfl) ?_; clear hX; intro a w hX))
  refine x_end ?_
  refine q_then ?_
  refine c_cond hX rfl (fun hc => ?_) (fun hc => ?_)
  ·
    try (first | cases hc | exact (contra_tf hc (by with_reducible assumption)).elim | exact (contra_tf (by with_reducible assumption) hc).elim | exact absurd hc (by decide))
    all_goals
      refine wpIn_seq ?_
      refine c_region ?_
      refine xl_cons ?_; ((refine y_pure (d := 2) hX ⟨rfl, rfl⟩ rfl (p_assign hX.st rfl rfl) ?_; clear hX; intro a w hX))
      refine x_end ?_
      refine q_then ?_
      refine c_ret ?_
      refine q_then_ret ?_
      refine f_ret1 hX Try.results18 rfl ⟨congrArg (Value.int .i64) ?_, hX.sh.sel Sel.nil⟩
      clear hX a w
      simp only [decide_eq_true_eq, decide_eq_false_iff_not, Bool.not_eq_true', Bool.not_eq_false'] at *
      simp only [opErr, *]
      simp
      try omega
  ·
    try (first | cases hc | exact (contra_tf hc (by with_reducible assumption)).elim | exact (contra_tf (by with_reducible assumption) hc).elim | exact absurd hc (by decide))
    all_goals
      refine c_skip ?_
      refine q_then ?_
      refine wpIn_seq ?_
      refine wpIn_seq ?_
      refine c_region ?_
      refine xl_cons ?_; ((refine y_pure (d := 6) hX ⟨rfl, rfl⟩ rfl (p_field0 hX.st rfl tab_ok rfl rfl rfl rfl rfl rfl) ?_; clear hX; intro a w hX))
      refine xl_cons ?_; ((refine y_read (d := 7) hX ⟨rfl, rfl⟩ rfl (v_load hX.st rfl tab_ok rfl rfl rfl foc0 rfl) ?_; clear hX; intro a w hX))
      refine xl_cons ?_; ((refine y_pure (d := 8) hX ⟨rfl, rfl⟩ rfl (p_lss hX.st rfl rfl rfl) ?_; clear hX; intro a w hX))
      refine xl_cons ?_; ((refine y_pure (d := 9) hX ⟨rfl, rfl⟩ rfl (p_move hX.st rfl rfl) ?_; clear hX; intro a w hX))
      all_goals (refine xl_cons ?_; (first | (refine y_guard0 hX rfl rfl rfl (by first | with_reducible rfl | with_reducible assumption | exact beq_self_eq_true _ | exact bne_self_eq_false _ | (show _ = true; with_reducible first | rfl | assumption) | (show _ = false; with_reducible first | rfl | assumption) | decide) rfl rfl ?_; clear hX; intro a w hX) | ((refine y_guard1 hX rfl rfl rfl (by first | with_reducible rfl | with_reducible assumption | exact beq_self_eq_true _ | exact bne_self_eq_false _ | (show _ = true; with_reducible first | rfl | assumption) | (show _ = false; with_reducible first | rfl | assumption) | decide) ?_); ((refine y_pure (d := 10) hX ⟨rfl, rfl⟩ rfl (p_field0 hX.st rfl tab_ok rfl rfl rfl rfl rfl rfl) ?_; clear hX; intro a w hX))) | (refine y_guardU hX rfl rfl rfl rfl rfl ?_; clear hX; intro a w hX) | ((refine y_gsplit hX rfl rfl rfl ?_ ?_) <;> intro hg <;> first | (refine y_guard0 hX rfl rfl rfl (by first | with_reducible rfl | with_reducible assumption | exact beq_self_eq_true _ | exact bne_self_eq_false _ | (show _ = true; with_reducible first | rfl | assumption) | (show _ = false; with_reducible first | rfl | assumption) | decide) rfl rfl ?_; clear hX; intro a w hX) | ((refine y_guard1 hX rfl rfl rfl (by first | with_reducible rfl | with_reducible assumption | exact beq_self_eq_true _ | exact bne_self_eq_false _ | (show _ = true; with_reducible first | rfl | assumption) | (show _ = false; with_reducible first | rfl | assumption) | decide) ?_); ((refine y_pure (d := 10) hX ⟨rfl, rfl⟩ rfl (p_field0 hX.st rfl tab_ok rfl rfl rfl rfl rfl rfl) ?_; clear hX; intro a w hX))))))
      all_goals (refine xl_cons ?_; (first | (refine y_guard0 hX rfl rfl rfl (by first | with_reducible rfl | with_reducible assumption | exact beq_self_eq_true _ | exact bne_self_eq_false _ | (show _ = true; with_reducible first | rfl | assumption) | (show _ = false; with_reducible first | rfl | assumption) | decide) rfl rfl ?_; clear hX; intro a w hX) | ((refine y_guard1 hX rfl rfl rfl (by first | with_reducible rfl | with_reducible assumption | exact beq_self_eq_true _ | exact bne_self_eq_false _ | (show _ = true; with_reducible first | rfl | assumption) | (show _ = false; with_reducible first | rfl | assumption) | decide) ?_); ((refine y_read (d := 11) hX ⟨rfl, rfl⟩ rfl (v_load hX.st rfl tab_ok rfl rfl rfl foc0 rfl) ?_; clear hX; intro a w hX))) | (refine y_guardU hX rfl rfl rfl rfl rfl ?_; clear hX; intro a w hX) | ((refine y_gsplit hX rfl rfl rfl ?_ ?_) <;> intro hg <;> first | (refine y_guard0 hX rfl rfl rfl (by first | with_reducible rfl | with_reducible assumption | exact beq_self_eq_true _ | exact bne_self_eq_false _ | (show _ = true; with_reducible first | rfl | assumption) | (show _ = false; with_reducible first | rfl | assumption) | decide) rfl rfl ?_; clear hX; intro a w hX) | ((refine y_guard1 hX rfl rfl rfl (by first | with_reducible rfl | with_reducible assumption | exact beq_self_eq_true _ | exact bne_self_eq_false _ | (show _ = true; with_reducible first | rfl | assumption) | (show _ = false; with_reducible first | rfl | assumption) | decide) ?_); ((refine y_read (d := 11) hX ⟨rfl, rfl⟩ rfl (v_load hX.st rfl tab_ok rfl rfl rfl foc0 rfl) ?_; clear hX; intro a w hX))))))
      all_goals (refine xl_cons ?_; (first | (refine y_guard0 hX rfl rfl rfl (by first | with_reducible rfl | with_reducible assumption | exact beq_self_eq_true _ | exact bne_self_eq_false _ | (show _ = true; with_reducible first | rfl | assumption) | (show _ = false; with_reducible first | rfl | assumption) | decide) rfl rfl ?_; clear hX; intro a w hX) | ((refine y_guard1 hX rfl rfl rfl (by first | with_reducible rfl | with_reducible assumption | exact beq_self_eq_true _ | exact bne_self_eq_false _ | (show _ = true; with_reducible first | rfl | assumption) | (show _ = false; with_reducible first | rfl | assumption) | decide) ?_); ((refine y_pure (d := 12) hX ⟨rfl, rfl⟩ rfl (p_gtr hX.st rfl rfl rfl) ?_; clear hX; intro a w hX))) | (refine y_guardU hX rfl rfl rfl rfl rfl ?_; clear hX; intro a w hX) | ((refine y_gsplit hX rfl rfl rfl ?_ ?_) <;> intro hg <;> first | (refine y_guard0 hX rfl rfl rfl (by first | with_reducible rfl | with_reducible assumption | exact beq_self_eq_true _ | exact bne_self_eq_false _ | (show _ = true; with_reducible first | rfl | assumption) | (show _ = false; with_reducible first | rfl | assumption) | decide) rfl rfl ?_; clear hX; intro a w hX) | ((refine y_guard1 hX rfl rfl rfl (by first | with_reducible rfl | with_reducible assumption | exact beq_self_eq_true _ | exact bne_self_eq_false _ | (show _ = true; with_reducible first | rfl | assumption) | (show _ = false; with_reducible first | rfl | assumption) | decide) ?_); ((refine y_pure (d := 12) hX ⟨rfl, rfl⟩ rfl (p_gtr hX.st rfl rfl rfl) ?_; clear hX; intro a w hX))))))
      all_goals (refine xl_cons ?_; (first | (refine y_pure (d := 13) hX ⟨rfl, rfl⟩ rfl (p_pick1 hX.st rfl rfl (by first | with_reducible rfl | with_reducible assumption | exact beq_self_eq_true _ | exact bne_self_eq_false _ | (show _ = true; with_reducible first | rfl | assumption) | (show _ = false; with_reducible first | rfl | assumption) | decide) rfl) ?_; clear hX; intro a w hX) | (refine y_pure (d := 13) hX ⟨rfl, rfl⟩ rfl (p_pick0 hX.st rfl rfl (by first | with_reducible rfl | with_reducible assumption | exact beq_self_eq_true _ | exact bne_self_eq_false _ | (show _ = true; with_reducible first | rfl | assumption) | (show _ = false; with_reducible first | rfl | assumption) | decide) rfl) ?_; clear hX; intro a w hX)))
      all_goals
        refine x_end ?_
        refine q_then ?_
        refine c_cond hX rfl (fun hc => ?_) (fun hc => ?_)
        ·
          try (first | cases hc | exact (contra_tf hc (by with_reducible assumption)).elim | exact (contra_tf (by with_reducible assumption) hc).elim | exact absurd hc (by decide))
          all_goals
            refine wpIn_seq ?_
            refine c_region ?_
            refine xl_cons ?_; ((refine y_pure (d := 2) hX ⟨rfl, rfl⟩ rfl (p_assign hX.st rfl rfl) ?_; clear hX; intro a w hX))
            refine x_end ?_
            refine q_then ?_
            refine c_ret ?_
            refine q_then_ret ?_
            refine f_ret1 hX Try.results18 rfl ⟨congrArg (Value.int .i64) ?_, hX.sh.sel Sel.nil⟩
            clear hX a w
            simp only [decide_eq_true_eq, decide_eq_false_iff_not, Bool.not_eq_true', Bool.not_eq_false'] at *
            simp only [opErr, *]
            simp
            try omega
        ·
          try (first | cases hc | exact (contra_tf hc (by with_reducible assumption)).elim | exact (contra_tf (by with_reducible assumption) hc).elim | exact absurd hc (by decide))
          all_goals
            refine c_skip ?_
            refine q_then ?_
            refine wpIn_seq ?_
            refine c_region ?_
            refine xl_cons ?_; ((refine y_pure (d := 2) hX ⟨rfl, rfl⟩ rfl (p_assign hX.st rfl rfl) ?_; clear hX; intro a w hX))
            refine x_end ?_
            refine q_then ?_
            refine c_ret ?_
            refine f_ret1 hX Try.results18 rfl ⟨congrArg (Value.int .i64) ?_, hX.sh.sel Sel.nil⟩
            clear hX a w
            simp only [decide_eq_true_eq, decide_eq_false_iff_not, Bool.not_eq_true', Bool.not_eq_false'] at *
            simp only [opErr, *]
            simp
            try omega

def byteV (c : UInt8) : Value := .int .u8 c.toNat
def encOp (o : Op) : List UInt8 := [UInt8.ofNat (o.kind + 16 * o.dir + 32 * o.bed), UInt8.ofNat o.place.toNat, UInt8.ofNat (if o.kind = 3 then (o.rack + 16).toNat else o.yarn)]
structure Good (o : Op) : Prop where
  k : o.kind ≤ 8
  d : o.dir ≤ 1
  b : o.bed ≤ 1
  p0 : 0 ≤ o.place
  p1 : o.place ≤ 40
  y : o.yarn ≤ 6
  r0 : -4 ≤ o.rack
  r1 : o.rack ≤ 4
theorem byteV_ofNat (k : Nat) (h : k < 256) (z : Int) (hz : z = k) : Value.int .u8 z = byteV (UInt8.ofNat k) := by
  unfold byteV
  rw [UInt8.toNat_ofNat', Nat.mod_eq_of_lt (by omega), hz]

theorem list3 {α : Type} {a b c a' b' c' : α} (h1 : a = a') (h2 : b = b') (h3 : c = c') : [a, b, c] = [a', b', c'] := by rw [h1, h2, h3]

theorem put_op (o : Op) (hg : Good o) (A : Option Addr) (c : Nat) (l : List UInt8) (hl : l.length ≤ 1000000) (B : Nat → Prop) (w0 : World) (H : List Ck) (W : World) (hH : SH B w0 (.row A c 5 1 l.length (l.map byteV) :: H) W) :
    Ret Try.prog 34 #[.slice A l.length c, .agg (opC o).toArray] W fun v w' => ∃ A' c', v = .slice A' (l ++ encOp o).length c' ∧ SH B w0 (.row A' c' 5 1 (l ++ encOp o).length ((l ++ encOp o).map byteV) :: H) w' := by
  refine f_startH (vs := [.slice A l.length c, .agg (opC o).toArray]) [(0, .slice A l.length c), (1, .agg (opC o).toArray)] hH Try.func34 rfl Try.ntmps34 rfl rfl ?_
  intro a hX
  obtain ⟨g1, g2, g3, g4, g5, g6, g7, g8⟩ := hg
  refine wpIn_seq ?_
  refine c_region ?_
  refine xl_cons ?_; (first | (refine y_box_agg (d := 3) hX rfl ⟨rfl, rfl⟩ rfl rfl ?_; clear hX; intro b a w hX) | (refine y_box_one (d := 3) hX rfl ⟨rfl, rfl⟩ rfl rfl rfl ?_; clear hX; intro b a w hX))
  refine xl_cons ?_; ((refine y_pure (d := 4) hX ⟨rfl, rfl⟩ rfl (p_assign hX.st rfl rfl) ?_; clear hX; intro a w hX))
  refine x_end ?_
  refine q_then ?_
  refine wpIn_seq ?_
  refine c_region ?_
  refine xl_cons ?_; ((refine y_pure (d := 6) hX ⟨rfl, rfl⟩ rfl (p_field0 hX.st rfl tab_ok rfl rfl rfl rfl rfl rfl) ?_; clear hX; intro a w hX))
  refine xl_cons ?_; ((refine y_read (d := 7) hX ⟨rfl, rfl⟩ rfl (v_load hX.st rfl tab_ok rfl rfl rfl foc0 rfl) ?_; clear hX; intro a w hX))
  refine xl_cons ?_; ((refine y_pure (d := 5) hX ⟨rfl, rfl⟩ rfl (p_assign hX.st rfl rfl) ?_; clear hX; intro a w hX))
  refine x_end ?_
  refine q_then ?_
  refine wpIn_seq ?_
  refine wpIn_seq ?_
  refine c_region ?_
  refine xl_cons ?_; ((refine y_pure (d := 8) hX ⟨rfl, rfl⟩ rfl (p_field0 hX.st rfl tab_ok rfl rfl rfl rfl rfl rfl) ?_; clear hX; intro a w hX))
  refine xl_cons ?_; ((refine y_read (d := 9) hX ⟨rfl, rfl⟩ rfl (v_load hX.st rfl tab_ok rfl rfl rfl foc0 rfl) ?_; clear hX; intro a w hX))
  refine xl_cons ?_; ((refine y_pure (d := 10) hX ⟨rfl, rfl⟩ rfl (p_eql hX.st rfl rfl rfl) ?_; clear hX; intro a w hX))
  refine x_end ?_
  refine q_then ?_
  refine c_cond hX rfl (fun hc => ?_) (fun hc => ?_)
  ·
    try (first | cases hc | exact (contra_tf hc (by with_reducible assumption)).elim | exact (contra_tf (by with_reducible assumption) hc).elim | exact absurd hc (by decide))
    all_goals
      refine c_region ?_
      refine xl_cons ?_; ((refine y_pure (d := 11) hX ⟨rfl, rfl⟩ rfl (p_field0 hX.st rfl tab_ok rfl rfl rfl rfl rfl rfl) ?_; clear hX; intro a w hX))
      refine xl_cons ?_; ((refine y_read (d := 12) hX ⟨rfl, rfl⟩ rfl (v_load hX.st rfl tab_ok rfl rfl rfl foc0 rfl) ?_; clear hX; intro a w hX))
      refine xl_cons ?_; (first | (refine y_pure (d := 13) hX ⟨rfl, rfl⟩ rfl (p_add hX.st rfl rfl rfl (in_i64 (by omega) (by omega))) ?_; clear hX; intro a w hX) | (refine y_pure (d := 13) hX ⟨rfl, rfl⟩ rfl (p_add hX.st rfl rfl rfl rfl) ?_; clear hX; intro a w hX))
      refine xl_cons ?_; (first | (refine y_pure (d := 14) hX ⟨rfl, rfl⟩ rfl (p_conv hX.st rfl tab_ok rfl rfl rfl rfl (in_i64 (by omega) (by omega))) ?_; clear hX; intro a w hX) | (refine y_pure (d := 14) hX ⟨rfl, rfl⟩ rfl (p_conv hX.st rfl tab_ok rfl rfl rfl rfl rfl) ?_; clear hX; intro a w hX))
      refine xl_cons ?_; ((refine y_pure (d := 5) hX ⟨rfl, rfl⟩ rfl (p_assign hX.st rfl rfl) ?_; clear hX; intro a w hX))
      refine x_end ?_
      refine q_then ?_
      refine wpIn_seq ?_
      refine c_region ?_
      refine xl_cons ?_; ((refine y_pure (d := 15) hX ⟨rfl, rfl⟩ rfl (p_move hX.st rfl rfl) ?_; clear hX; intro a w hX))
      refine xl_cons ?_; ((refine y_pure (d := 16) hX ⟨rfl, rfl⟩ rfl (p_field0 hX.st rfl tab_ok rfl rfl rfl rfl rfl rfl) ?_; clear hX; intro a w hX))
      refine xl_cons ?_; ((refine y_read (d := 17) hX ⟨rfl, rfl⟩ rfl (v_load hX.st rfl tab_ok rfl rfl rfl foc0 rfl) ?_; clear hX; intro a w hX))
      refine xl_cons ?_; ((refine y_pure (d := 18) hX ⟨rfl, rfl⟩ rfl (p_field0 hX.st rfl tab_ok rfl rfl rfl rfl rfl rfl) ?_; clear hX; intro a w hX))
      refine xl_cons ?_; ((refine y_read (d := 19) hX ⟨rfl, rfl⟩ rfl (v_load hX.st rfl tab_ok rfl rfl rfl foc0 rfl) ?_; clear hX; intro a w hX))
      refine xl_cons ?_; (first | (refine y_pure (d := 20) hX ⟨rfl, rfl⟩ rfl (p_mul hX.st rfl rfl rfl (in_i64 (by omega) (by omega))) ?_; clear hX; intro a w hX) | (refine y_pure (d := 20) hX ⟨rfl, rfl⟩ rfl (p_mul hX.st rfl rfl rfl rfl) ?_; clear hX; intro a w hX))
      refine xl_cons ?_; (first | (refine y_pure (d := 21) hX ⟨rfl, rfl⟩ rfl (p_add hX.st rfl rfl rfl (in_i64 (by omega) (by omega))) ?_; clear hX; intro a w hX) | (refine y_pure (d := 21) hX ⟨rfl, rfl⟩ rfl (p_add hX.st rfl rfl rfl rfl) ?_; clear hX; intro a w hX))
      refine xl_cons ?_; ((refine y_pure (d := 22) hX ⟨rfl, rfl⟩ rfl (p_field0 hX.st rfl tab_ok rfl rfl rfl rfl rfl rfl) ?_; clear hX; intro a w hX))
      refine xl_cons ?_; ((refine y_pure (d := 23) hX ⟨rfl, rfl⟩ rfl (p_field hX.st rfl tab_ok rfl rfl rfl rfl rfl rfl) ?_; clear hX; intro a w hX))
      refine xl_cons ?_; ((refine y_read (d := 24) hX ⟨rfl, rfl⟩ rfl (v_load hX.st rfl tab_ok rfl rfl rfl foc0 rfl) ?_; clear hX; intro a w hX))
      refine xl_cons ?_; (first | (refine y_pure (d := 25) hX ⟨rfl, rfl⟩ rfl (p_mul hX.st rfl rfl rfl (in_i64 (by omega) (by omega))) ?_; clear hX; intro a w hX) | (refine y_pure (d := 25) hX ⟨rfl, rfl⟩ rfl (p_mul hX.st rfl rfl rfl rfl) ?_; clear hX; intro a w hX))
      refine xl_cons ?_; (first | (refine y_pure (d := 26) hX ⟨rfl, rfl⟩ rfl (p_add hX.st rfl rfl rfl (in_i64 (by omega) (by omega))) ?_; clear hX; intro a w hX) | (refine y_pure (d := 26) hX ⟨rfl, rfl⟩ rfl (p_add hX.st rfl rfl rfl rfl) ?_; clear hX; intro a w hX))
      refine xl_cons ?_; ((refine y_pure (d := 27) hX ⟨rfl, rfl⟩ rfl (p_field0 hX.st rfl tab_ok rfl rfl rfl rfl rfl rfl) ?_; clear hX; intro a w hX))
      refine xl_cons ?_; ((refine y_pure (d := 28) hX ⟨rfl, rfl⟩ rfl (p_field hX.st rfl tab_ok rfl rfl rfl rfl rfl rfl) ?_; clear hX; intro a w hX))
      refine xl_cons ?_; ((refine y_read (d := 29) hX ⟨rfl, rfl⟩ rfl (v_load hX.st rfl tab_ok rfl rfl rfl foc0 rfl) ?_; clear hX; intro a w hX))
      refine xl_cons ?_; (first | (refine y_pure (d := 30) hX ⟨rfl, rfl⟩ rfl (p_conv hX.st rfl tab_ok rfl rfl rfl rfl (in_i64 (by omega) (by omega))) ?_; clear hX; intro a w hX) | (refine y_pure (d := 30) hX ⟨rfl, rfl⟩ rfl (p_conv hX.st rfl tab_ok rfl rfl rfl rfl rfl) ?_; clear hX; intro a w hX))
      refine xl_cons ?_; ((refine y_pure (d := 31) hX ⟨rfl, rfl⟩ rfl (p_move hX.st rfl rfl) ?_; clear hX; intro a w hX))
      refine xl_cons ?_; (refine y_buildSlice (d := 32) hX rfl ⟨rfl, rfl⟩ rfl tab_ok rfl rfl rfl rfl rfl (xs := [.tmp 26, .tmp 30, .tmp 31]) rfl rfl rfl rfl rfl ?_; clear hX; intro b a w hX)
      refine xl_cons ?_; (first | (refine y_append_cel (d := 33) hX rfl ⟨rfl, rfl⟩ rfl tab_ok rfl rfl rfl rfl rfl rfl rfl foc1 foc0 rfl rfl (by first | omega | (simp only [ti5, ti3, ti53]; omega)) (by first | omega | (simp only [ti5, ti3, ti53]; omega)) ?_; clear hX; intro A c a w hX) | (refine y_append_cel (d := 33) hX rfl ⟨rfl, rfl⟩ rfl tab_ok rfl rfl rfl rfl rfl rfl rfl foc2 foc0 rfl rfl (by first | omega | (simp only [ti5, ti3, ti53]; omega)) (by first | omega | (simp only [ti5, ti3, ti53]; omega)) ?_; clear hX; intro A c a w hX) | (refine y_append_cel (d := 33) hX rfl ⟨rfl, rfl⟩ rfl tab_ok rfl rfl rfl rfl rfl rfl rfl foc3 foc0 rfl rfl (by first | omega | (simp only [ti5, ti3, ti53]; omega)) (by first | omega | (simp only [ti5, ti3, ti53]; omega)) ?_; clear hX; intro A c a w hX) | (refine y_append_cel (d := 33) hX rfl ⟨rfl, rfl⟩ rfl tab_ok rfl rfl rfl rfl rfl rfl rfl foc4 foc0 rfl rfl (by first | omega | (simp only [ti5, ti3, ti53]; omega)) (by first | omega | (simp only [ti5, ti3, ti53]; omega)) ?_; clear hX; intro A c a w hX) | (refine y_append_cel (d := 33) hX rfl ⟨rfl, rfl⟩ rfl tab_ok rfl rfl rfl rfl rfl rfl rfl foc0 foc1 rfl rfl (by first | omega | (simp only [ti5, ti3, ti53]; omega)) (by first | omega | (simp only [ti5, ti3, ti53]; omega)) ?_; clear hX; intro A c a w hX) | (refine y_append_cel (d := 33) hX rfl ⟨rfl, rfl⟩ rfl tab_ok rfl rfl rfl rfl rfl rfl rfl foc2 foc1 rfl rfl (by first | omega | (simp only [ti5, ti3, ti53]; omega)) (by first | omega | (simp only [ti5, ti3, ti53]; omega)) ?_; clear hX; intro A c a w hX) | (refine y_append_cel (d := 33) hX rfl ⟨rfl, rfl⟩ rfl tab_ok rfl rfl rfl rfl rfl rfl rfl foc3 foc1 rfl rfl (by first | omega | (simp only [ti5, ti3, ti53]; omega)) (by first | omega | (simp only [ti5, ti3, ti53]; omega)) ?_; clear hX; intro A c a w hX) | (refine y_append_cel (d := 33) hX rfl ⟨rfl, rfl⟩ rfl tab_ok rfl rfl rfl rfl rfl rfl rfl foc4 foc1 rfl rfl (by first | omega | (simp only [ti5, ti3, ti53]; omega)) (by first | omega | (simp only [ti5, ti3, ti53]; omega)) ?_; clear hX; intro A c a w hX) | (refine y_append_cel (d := 33) hX rfl ⟨rfl, rfl⟩ rfl tab_ok rfl rfl rfl rfl rfl rfl rfl foc0 foc2 rfl rfl (by first | omega | (simp only [ti5, ti3, ti53]; omega)) (by first | omega | (simp only [ti5, ti3, ti53]; omega)) ?_; clear hX; intro A c a w hX) | (refine y_append_cel (d := 33) hX rfl ⟨rfl, rfl⟩ rfl tab_ok rfl rfl rfl rfl rfl rfl rfl foc1 foc2 rfl rfl (by first | omega | (simp only [ti5, ti3, ti53]; omega)) (by first | omega | (simp only [ti5, ti3, ti53]; omega)) ?_; clear hX; intro A c a w hX) | (refine y_append_cel (d := 33) hX rfl ⟨rfl, rfl⟩ rfl tab_ok rfl rfl rfl rfl rfl rfl rfl foc3 foc2 rfl rfl (by first | omega | (simp only [ti5, ti3, ti53]; omega)) (by first | omega | (simp only [ti5, ti3, ti53]; omega)) ?_; clear hX; intro A c a w hX) | (refine y_append_cel (d := 33) hX rfl ⟨rfl, rfl⟩ rfl tab_ok rfl rfl rfl rfl rfl rfl rfl foc4 foc2 rfl rfl (by first | omega | (simp only [ti5, ti3, ti53]; omega)) (by first | omega | (simp only [ti5, ti3, ti53]; omega)) ?_; clear hX; intro A c a w hX))
      refine xl_cons ?_; ((refine y_pure (d := 4) hX ⟨rfl, rfl⟩ rfl (p_assign hX.st rfl rfl) ?_; clear hX; intro a w hX))
      refine x_end ?_
      refine q_then ?_
      refine c_ret ?_
      refine f_ret1 hX Try.results34 rfl ⟨A, c, by simp [encOp], SH.row_eq (hX.sh.sel (Sel.cons tk2 selD2)) (by simp [encOp]) ?_⟩
      clear hX a w
      rw [List.map_append]
      congr 1
      simp only [beq_iff_eq, beq_eq_false_iff_ne] at hc
      simp only [encOp, List.map_cons, List.map_nil]
      refine list3 (byteV_ofNat _ (by omega) _ (by rw [IntKind.wrap_u8, IntKind.wrap_u8, IntKind.wrap_u8, IntKind.wrap_u8]; omega)) (byteV_ofNat _ (by omega) _ (by rw [IntKind.wrap_u8]; omega)) ?_
      first
        | (rw [if_pos (by omega)]; exact byteV_ofNat _ (by omega) _ (by rw [IntKind.wrap_u8]; omega))
        | (rw [if_neg (by omega)]; exact byteV_ofNat _ (by omega) _ rfl)
  ·
    try (first | cases hc | exact (contra_tf hc (by with_reducible assumption)).elim | exact (contra_tf (by with_reducible assumption) hc).elim | exact absurd hc (by decide))
    all_goals
      refine c_skip ?_
      refine q_then ?_
      refine wpIn_seq ?_
      refine c_region ?_
      refine xl_cons ?_; ((refine y_pure (d := 15) hX ⟨rfl, rfl⟩ rfl (p_move hX.st rfl rfl) ?_; clear hX; intro a w hX))
      refine xl_cons ?_; ((refine y_pure (d := 16) hX ⟨rfl, rfl⟩ rfl (p_field0 hX.st rfl tab_ok rfl rfl rfl rfl rfl rfl) ?_; clear hX; intro a w hX))
      refine xl_cons ?_; ((refine y_read (d := 17) hX ⟨rfl, rfl⟩ rfl (v_load hX.st rfl tab_ok rfl rfl rfl foc0 rfl) ?_; clear hX; intro a w hX))
      refine xl_cons ?_; ((refine y_pure (d := 18) hX ⟨rfl, rfl⟩ rfl (p_field0 hX.st rfl tab_ok rfl rfl rfl rfl rfl rfl) ?_; clear hX; intro a w hX))
      refine xl_cons ?_; ((refine y_read (d := 19) hX ⟨rfl, rfl⟩ rfl (v_load hX.st rfl tab_ok rfl rfl rfl foc0 rfl) ?_; clear hX; intro a w hX))
      refine xl_cons ?_; (first | (refine y_pure (d := 20) hX ⟨rfl, rfl⟩ rfl (p_mul hX.st rfl rfl rfl (in_i64 (by omega) (by omega))) ?_; clear hX; intro a w hX) | (refine y_pure (d := 20) hX ⟨rfl, rfl⟩ rfl (p_mul hX.st rfl rfl rfl rfl) ?_; clear hX; intro a w hX))
      refine xl_cons ?_; (first | (refine y_pure (d := 21) hX ⟨rfl, rfl⟩ rfl (p_add hX.st rfl rfl rfl (in_i64 (by omega) (by omega))) ?_; clear hX; intro a w hX) | (refine y_pure (d := 21) hX ⟨rfl, rfl⟩ rfl (p_add hX.st rfl rfl rfl rfl) ?_; clear hX; intro a w hX))
      refine xl_cons ?_; ((refine y_pure (d := 22) hX ⟨rfl, rfl⟩ rfl (p_field0 hX.st rfl tab_ok rfl rfl rfl rfl rfl rfl) ?_; clear hX; intro a w hX))
      refine xl_cons ?_; ((refine y_pure (d := 23) hX ⟨rfl, rfl⟩ rfl (p_field hX.st rfl tab_ok rfl rfl rfl rfl rfl rfl) ?_; clear hX; intro a w hX))
      refine xl_cons ?_; ((refine y_read (d := 24) hX ⟨rfl, rfl⟩ rfl (v_load hX.st rfl tab_ok rfl rfl rfl foc0 rfl) ?_; clear hX; intro a w hX))
      refine xl_cons ?_; (first | (refine y_pure (d := 25) hX ⟨rfl, rfl⟩ rfl (p_mul hX.st rfl rfl rfl (in_i64 (by omega) (by omega))) ?_; clear hX; intro a w hX) | (refine y_pure (d := 25) hX ⟨rfl, rfl⟩ rfl (p_mul hX.st rfl rfl rfl rfl) ?_; clear hX; intro a w hX))
      refine xl_cons ?_; (first | (refine y_pure (d := 26) hX ⟨rfl, rfl⟩ rfl (p_add hX.st rfl rfl rfl (in_i64 (by omega) (by omega))) ?_; clear hX; intro a w hX) | (refine y_pure (d := 26) hX ⟨rfl, rfl⟩ rfl (p_add hX.st rfl rfl rfl rfl) ?_; clear hX; intro a w hX))
      refine xl_cons ?_; ((refine y_pure (d := 27) hX ⟨rfl, rfl⟩ rfl (p_field0 hX.st rfl tab_ok rfl rfl rfl rfl rfl rfl) ?_; clear hX; intro a w hX))
      refine xl_cons ?_; ((refine y_pure (d := 28) hX ⟨rfl, rfl⟩ rfl (p_field hX.st rfl tab_ok rfl rfl rfl rfl rfl rfl) ?_; clear hX; intro a w hX))
      refine xl_cons ?_; ((refine y_read (d := 29) hX ⟨rfl, rfl⟩ rfl (v_load hX.st rfl tab_ok rfl rfl rfl foc0 rfl) ?_; clear hX; intro a w hX))
      refine xl_cons ?_; (first | (refine y_pure (d := 30) hX ⟨rfl, rfl⟩ rfl (p_conv hX.st rfl tab_ok rfl rfl rfl rfl (in_i64 (by omega) (by omega))) ?_; clear hX; intro a w hX) | (refine y_pure (d := 30) hX ⟨rfl, rfl⟩ rfl (p_conv hX.st rfl tab_ok rfl rfl rfl rfl rfl) ?_; clear hX; intro a w hX))
      refine xl_cons ?_; ((refine y_pure (d := 31) hX ⟨rfl, rfl⟩ rfl (p_move hX.st rfl rfl) ?_; clear hX; intro a w hX))
      refine xl_cons ?_; (refine y_buildSlice (d := 32) hX rfl ⟨rfl, rfl⟩ rfl tab_ok rfl rfl rfl rfl rfl (xs := [.tmp 26, .tmp 30, .tmp 31]) rfl rfl rfl rfl rfl ?_; clear hX; intro b a w hX)
      refine xl_cons ?_; (first | (refine y_append_cel (d := 33) hX rfl ⟨rfl, rfl⟩ rfl tab_ok rfl rfl rfl rfl rfl rfl rfl foc1 foc0 rfl rfl (by first | omega | (simp only [ti5, ti3, ti53]; omega)) (by first | omega | (simp only [ti5, ti3, ti53]; omega)) ?_; clear hX; intro A c a w hX) | (refine y_append_cel (d := 33) hX rfl ⟨rfl, rfl⟩ rfl tab_ok rfl rfl rfl rfl rfl rfl rfl foc2 foc0 rfl rfl (by first | omega | (simp only [ti5, ti3, ti53]; omega)) (by first | omega | (simp only [ti5, ti3, ti53]; omega)) ?_; clear hX; intro A c a w hX) | (refine y_append_cel (d := 33) hX rfl ⟨rfl, rfl⟩ rfl tab_ok rfl rfl rfl rfl rfl rfl rfl foc3 foc0 rfl rfl (by first | omega | (simp only [ti5, ti3, ti53]; omega)) (by first | omega | (simp only [ti5, ti3, ti53]; omega)) ?_; clear hX; intro A c a w hX) | (refine y_append_cel (d := 33) hX rfl ⟨rfl, rfl⟩ rfl tab_ok rfl rfl rfl rfl rfl rfl rfl foc4 foc0 rfl rfl (by first | omega | (simp only [ti5, ti3, ti53]; omega)) (by first | omega | (simp only [ti5, ti3, ti53]; omega)) ?_; clear hX; intro A c a w hX) | (refine y_append_cel (d := 33) hX rfl ⟨rfl, rfl⟩ rfl tab_ok rfl rfl rfl rfl rfl rfl rfl foc0 foc1 rfl rfl (by first | omega | (simp only [ti5, ti3, ti53]; omega)) (by first | omega | (simp only [ti5, ti3, ti53]; omega)) ?_; clear hX; intro A c a w hX) | (refine y_append_cel (d := 33) hX rfl ⟨rfl, rfl⟩ rfl tab_ok rfl rfl rfl rfl rfl rfl rfl foc2 foc1 rfl rfl (by first | omega | (simp only [ti5, ti3, ti53]; omega)) (by first | omega | (simp only [ti5, ti3, ti53]; omega)) ?_; clear hX; intro A c a w hX) | (refine y_append_cel (d := 33) hX rfl ⟨rfl, rfl⟩ rfl tab_ok rfl rfl rfl rfl rfl rfl rfl foc3 foc1 rfl rfl (by first | omega | (simp only [ti5, ti3, ti53]; omega)) (by first | omega | (simp only [ti5, ti3, ti53]; omega)) ?_; clear hX; intro A c a w hX) | (refine y_append_cel (d := 33) hX rfl ⟨rfl, rfl⟩ rfl tab_ok rfl rfl rfl rfl rfl rfl rfl foc4 foc1 rfl rfl (by first | omega | (simp only [ti5, ti3, ti53]; omega)) (by first | omega | (simp only [ti5, ti3, ti53]; omega)) ?_; clear hX; intro A c a w hX) | (refine y_append_cel (d := 33) hX rfl ⟨rfl, rfl⟩ rfl tab_ok rfl rfl rfl rfl rfl rfl rfl foc0 foc2 rfl rfl (by first | omega | (simp only [ti5, ti3, ti53]; omega)) (by first | omega | (simp only [ti5, ti3, ti53]; omega)) ?_; clear hX; intro A c a w hX) | (refine y_append_cel (d := 33) hX rfl ⟨rfl, rfl⟩ rfl tab_ok rfl rfl rfl rfl rfl rfl rfl foc1 foc2 rfl rfl (by first | omega | (simp only [ti5, ti3, ti53]; omega)) (by first | omega | (simp only [ti5, ti3, ti53]; omega)) ?_; clear hX; intro A c a w hX) | (refine y_append_cel (d := 33) hX rfl ⟨rfl, rfl⟩ rfl tab_ok rfl rfl rfl rfl rfl rfl rfl foc3 foc2 rfl rfl (by first | omega | (simp only [ti5, ti3, ti53]; omega)) (by first | omega | (simp only [ti5, ti3, ti53]; omega)) ?_; clear hX; intro A c a w hX) | (refine y_append_cel (d := 33) hX rfl ⟨rfl, rfl⟩ rfl tab_ok rfl rfl rfl rfl rfl rfl rfl foc4 foc2 rfl rfl (by first | omega | (simp only [ti5, ti3, ti53]; omega)) (by first | omega | (simp only [ti5, ti3, ti53]; omega)) ?_; clear hX; intro A c a w hX))
      refine xl_cons ?_; ((refine y_pure (d := 4) hX ⟨rfl, rfl⟩ rfl (p_assign hX.st rfl rfl) ?_; clear hX; intro a w hX))
      refine x_end ?_
      refine q_then ?_
      refine c_ret ?_
      refine f_ret1 hX Try.results34 rfl ⟨A, c, by simp [encOp], SH.row_eq (hX.sh.sel (Sel.cons tk2 selD2)) (by simp [encOp]) ?_⟩
      clear hX a w
      rw [List.map_append]
      congr 1
      simp only [beq_iff_eq, beq_eq_false_iff_ne] at hc
      simp only [encOp, List.map_cons, List.map_nil]
      refine list3 (byteV_ofNat _ (by omega) _ (by rw [IntKind.wrap_u8, IntKind.wrap_u8, IntKind.wrap_u8, IntKind.wrap_u8]; omega)) (byteV_ofNat _ (by omega) _ (by rw [IntKind.wrap_u8]; omega)) ?_
      first
        | (rw [if_pos (by omega)]; exact byteV_ofNat _ (by omega) _ (by rw [IntKind.wrap_u8]; omega))
        | (rw [if_neg (by omega)]; exact byteV_ofNat _ (by omega) _ rfl)
end Go.Proofs.Ytjemilhbipaepaa
