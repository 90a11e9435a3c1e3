/- Part 5 of 7 of the proof. -/
import Derived.Test.YtihcolehefloeaaDoorCe4
set_option linter.unusedSimpArgs false
set_option linter.unusedVariables false
/- Stitches and charts: models. -/
namespace Go.Proofs.YtihcolehefloeaaDoor
set_option linter.unusedSimpArgs false
set_option linter.unusedVariables false
open Go.RowKit
def m_stcheck (a0 : (Int × (Int × (Int × (Int × Bool))))) : Option (Int) :=
    cond (cond (cond (cond (decide (a0.1 < (1 : Int))) true (decide ((8 : Int) < a0.1))) true (decide (a0.2.1 < (1 : Int)))) true (decide ((6 : Int) < a0.2.1))) (some (1 : Int)) (cond (!(decide (a0.1 = (8 : Int)))) (cond (cond (cond (!(decide (a0.2.2.1 = (0 : Int)))) true (!(decide (a0.2.2.2.1 = (0 : Int))))) true a0.2.2.2.2) (some (1 : Int)) (some (0 : Int))) (gd ((!(!(cond (cond (decide (a0.2.2.1 < (1 : Int))) true (decide ((4 : Int) < a0.2.2.1))) true (decide (a0.2.2.2.1 < (1 : Int))))) || (inI64 ((4 : Int) - a0.2.2.1)))) <|
    cond (cond (cond (cond (decide (a0.2.2.1 < (1 : Int))) true (decide ((4 : Int) < a0.2.2.1))) true (decide (a0.2.2.2.1 < (1 : Int)))) true (decide (((4 : Int) - a0.2.2.1) < a0.2.2.2.1))) (some (1 : Int)) (some (0 : Int))))
set_option maxRecDepth 20000 in
set_option maxHeartbeats 4000000 in
theorem w_stcheck (a0 : (Int × (Int × (Int × (Int × Bool))))) (r : (Int)) (h : m_stcheck a0 = some r) : AC cx 44 [.agg [.val (.int .u8 a0.1), .val (.int .u8 a0.2.1), .val (.int .i64 a0.2.2.1), .val (.int .i64 a0.2.2.2.1), .val (.bool a0.2.2.2.2)]] [] (fun sv h => sv = .a (.c (.val (.int .i64 r))) ∧ h = []) := by
  unfold m_stcheck at h
  refine ac_body tt_ok Tryd.func44 rfl Tryd.ntmps44 rfl rfl (res := [.tmp 2]) rfl ?_
  refine ax_seq ?_
  refine ax_region ?_
  refine al_run tt_ok rfl rfl ?_
  refine ax_weak (Wk.frzC 1 (.pair (.int .u8) (.pair (.int .u8) (.pair (.int .i64) (.pair (.int .i64) .bool)))) rfl rfl rfl) ?_
  refine ax_seq ?_
  refine ax_seq ?_
  refine ax_region ?_
  refine al_run tt_ok rfl (by generalize (decide (a0.2.1 < (1 : Int))) = b0; generalize (decide (a0.1 < (1 : Int))) = b1; generalize (decide ((8 : Int) < a0.1)) = b2; revert b0 b1 b2; decide) ?_
  refine ax_cond rfl rfl (fun hc => ?_) (fun hc => ?_)
  ·
   replace h := cond_t hc h
   refine ax_seq ?_
   refine ax_region ?_
   refine al_run tt_ok rfl rfl ?_
   refine ax_ret ?_
   obtain rfl := Option.some.inj h
   refine ⟨_, (Wk.pick [2] [] rfl rfl), _, _, rfl, rfl, ?_⟩
   exact ⟨rfl, rfl⟩
  ·
   replace h := cond_f hc h
   refine ax_skip ?_
   refine ax_seq ?_
   refine ax_seq ?_
   refine ax_region ?_
   refine al_run tt_ok rfl rfl ?_
   refine ax_cond rfl rfl (fun hc => ?_) (fun hc => ?_)
   ·
    replace h := cond_t hc h
    refine ax_seq ?_
    refine ax_seq ?_
    refine ax_region ?_
    refine al_run tt_ok rfl (by generalize (decide (a0.2.2.2.1 = (0 : Int))) = b0; generalize (decide (a0.2.2.1 = (0 : Int))) = b1; revert b0 b1; decide) ?_
    refine ax_cond rfl rfl (fun hc => ?_) (fun hc => ?_)
    ·
     replace h := cond_t hc h
     refine ax_seq ?_
     refine ax_region ?_
     refine al_run tt_ok rfl rfl ?_
     refine ax_ret ?_
     obtain rfl := Option.some.inj h
     refine ⟨_, (Wk.pick [2] [] rfl rfl), _, _, rfl, rfl, ?_⟩
     exact ⟨rfl, rfl⟩
    ·
     replace h := cond_f hc h
     refine ax_skip ?_
     refine ax_seq ?_
     refine ax_region ?_
     refine al_run tt_ok rfl rfl ?_
     refine ax_ret ?_
     obtain rfl := Option.some.inj h
     refine ⟨_, (Wk.pick [2] [] rfl rfl), _, _, rfl, rfl, ?_⟩
     exact ⟨rfl, rfl⟩
   ·
    replace h := cond_f hc h
    refine ax_skip ?_
    refine ax_seq ?_
    refine ax_seq ?_
    obtain ⟨hG1, h⟩ := gd_some h
    refine ax_region ?_
    refine al_run tt_ok rfl (by revert hG1; generalize (decide (a0.2.2.2.1 < (1 : Int))) = b0; generalize (decide (a0.2.2.1 < (1 : Int))) = b1; generalize (decide ((4 : Int) < a0.2.2.1)) = b2; generalize (inI64 ((4 : Int) - a0.2.2.1)) = b3; revert b0 b1 b2 b3; decide) ?_
    refine ax_cond rfl rfl (fun hc => ?_) (fun hc => ?_)
    ·
     replace h := cond_t hc h
     refine ax_seq ?_
     refine ax_region ?_
     refine al_run tt_ok rfl rfl ?_
     refine ax_ret ?_
     obtain rfl := Option.some.inj h
     refine ⟨_, (Wk.pick [2] [] rfl rfl), _, _, rfl, rfl, ?_⟩
     exact ⟨rfl, rfl⟩
    ·
     replace h := cond_f hc h
     refine ax_skip ?_
     refine ax_seq ?_
     refine ax_region ?_
     refine al_run tt_ok rfl rfl ?_
     refine ax_ret ?_
     obtain rfl := Option.some.inj h
     refine ⟨_, (Wk.pick [2] [] rfl rfl), _, _, rfl, rfl, ?_⟩
     exact ⟨rfl, rfl⟩
def m_stneeds (a0 : (Int × (Int × (Int × (Int × Bool))))) : Option (Int) :=
    Option.bind (m_stcheck a0) fun r1 =>
    cond (!(decide (r1 = (0 : Int)))) (some (0 : Int)) (cond (decide (a0.1 = (3 : Int))) (some (0 : Int)) (Option.bind (cond (decide (a0.1 = (4 : Int))) (some (decide (a0.1 = (4 : Int)))) (some (decide (a0.1 = (5 : Int))))) fun o2 =>
    cond o2 (some (2 : Int)) (cond (decide (a0.1 = (8 : Int))) (gd ((inI64 (a0.2.2.1 + a0.2.2.2.1))) <|
    some (a0.2.2.1 + a0.2.2.2.1)) (some (1 : Int)))))
set_option maxRecDepth 20000 in
set_option maxHeartbeats 4000000 in
theorem w_stneeds (a0 : (Int × (Int × (Int × (Int × Bool))))) (r : (Int)) (h : m_stneeds a0 = some r) : AC cx 25 [.agg [.val (.int .u8 a0.1), .val (.int .u8 a0.2.1), .val (.int .i64 a0.2.2.1), .val (.int .i64 a0.2.2.2.1), .val (.bool a0.2.2.2.2)]] [] (fun sv h => sv = .a (.c (.val (.int .i64 r))) ∧ h = []) := by
  unfold m_stneeds at h
  refine ac_body tt_ok Tryd.func25 rfl Tryd.ntmps25 rfl rfl (res := [.tmp 2]) rfl ?_
  refine ax_seq ?_
  refine ax_region ?_
  refine al_run tt_ok rfl rfl ?_
  refine ax_weak (Wk.frzC 1 (.pair (.int .u8) (.pair (.int .u8) (.pair (.int .i64) (.pair (.int .i64) .bool)))) rfl rfl rfl) ?_
  refine ax_seq ?_
  refine ax_seq ?_
  obtain ⟨r1, hr1, h⟩ := bd h
  refine ax_region ?_
  refine al_upto tt_ok rfl rfl ?_
  refine al_callP (w_stcheck _  r1 hr1) rfl ⟨rfl, rfl⟩ rfl Tryd.func44 rfl rfl rfl rfl rfl rfl ?_
  refine al_run tt_ok rfl rfl ?_
  refine ax_cond rfl rfl (fun hc => ?_) (fun hc => ?_)
  ·
   replace h := cond_t hc h
   refine ax_seq ?_
   refine ax_region ?_
   refine al_run tt_ok rfl rfl ?_
   refine ax_ret ?_
   obtain rfl := Option.some.inj h
   refine ⟨_, (Wk.pick [2] [] rfl rfl), _, _, rfl, rfl, ?_⟩
   exact ⟨rfl, rfl⟩
  ·
   replace h := cond_f hc h
   refine ax_skip ?_
   refine ax_seq ?_
   refine ax_seq ?_
   refine ax_region ?_
   refine al_run tt_ok rfl rfl ?_
   refine ax_block ?_
   refine ax_seq ?_
   refine ax_region ?_
   refine al_run tt_ok rfl rfl ?_
   refine ax_cond rfl rfl (fun hc => ?_) (fun hc => ?_)
   ·
    replace h := cond_t hc h
    refine ax_seq ?_
    refine ax_region ?_
    refine al_run tt_ok rfl rfl ?_
    refine ax_ret ?_
    obtain rfl := Option.some.inj h
    refine ⟨_, (Wk.pick [2] [] rfl rfl), _, _, rfl, rfl, ?_⟩
    exact ⟨rfl, rfl⟩
   ·
    replace h := cond_f hc h
    refine ax_seq ?_
    refine ax_seq ?_
    refine ax_region ?_
    refine al_run tt_ok rfl rfl ?_
    obtain ⟨o2, ho2, hk2⟩ := bd h
    refine ax_cutS (fun o2 : Bool => ⟨[(1, .a (.c (.pel (.pair (.int .u8) (.pair (.int .u8) (.pair (.int .i64) (.pair (.int .i64) .bool)))) a0 0))), (7, .a (.c (.val (.int .u8 a0.1)))), (10, .a (.c (.val (.bool o2))))], []⟩) (fun o' => o2 = o') ?_ ?_
    ·
     have h := ho2
     refine ax_cond rfl rfl (fun hc => ?_) (fun hc => ?_)
     ·
      replace h := cond_t hc h
      refine ax_skip ?_
      exact ⟨_, (Option.some.inj h).symm, (Wk.pick [1, 7, 10] [] rfl rfl)⟩
     ·
      replace h := cond_f hc h
      refine ax_region ?_
      refine al_run tt_ok rfl rfl ?_
      exact ⟨_, (Option.some.inj h).symm, (Wk.pick [1, 7, 10] [] rfl rfl)⟩
    ·
     rintro _ rfl
     have h := hk2
     refine ax_cond rfl rfl (fun hc => ?_) (fun hc => ?_)
     ·
      replace h := cond_t hc h
      refine ax_seq ?_
      refine ax_region ?_
      refine al_run tt_ok rfl rfl ?_
      refine ax_ret ?_
      obtain rfl := Option.some.inj h
      refine ⟨_, (Wk.pick [2] [] rfl rfl), _, _, rfl, rfl, ?_⟩
      exact ⟨rfl, rfl⟩
     ·
      replace h := cond_f hc h
      refine ax_seq ?_
      refine ax_region ?_
      refine al_run tt_ok rfl rfl ?_
      refine ax_cond rfl rfl (fun hc => ?_) (fun hc => ?_)
      ·
       replace h := cond_t hc h
       refine ax_seq ?_
       obtain ⟨hG3, h⟩ := gd_some h
       refine ax_region ?_
       refine al_run tt_ok rfl (by simp only [hG3, ob, decide_true, cond_true, cond_false]) ?_
       refine ax_ret ?_
       obtain rfl := Option.some.inj h
       refine ⟨_, (Wk.pick [2] [] rfl rfl), _, _, rfl, rfl, ?_⟩
       exact ⟨rfl, rfl⟩
      ·
       replace h := cond_f hc h
       refine ax_skip ?_
       refine ax_seq ?_
       refine ax_region ?_
       refine al_run tt_ok rfl rfl ?_
       refine ax_ret ?_
       obtain rfl := Option.some.inj h
       refine ⟨_, (Wk.pick [2] [] rfl rfl), _, _, rfl, rfl, ?_⟩
       exact ⟨rfl, rfl⟩
def m_stmakes (a0 : (Int × (Int × (Int × (Int × Bool))))) : Option (Int) :=
    Option.bind (m_stcheck a0) fun r1 =>
    cond (!(decide (r1 = (0 : Int)))) (some (0 : Int)) (cond (decide (a0.1 = (8 : Int))) (gd ((inI64 (a0.2.2.1 + a0.2.2.2.1))) <|
    some (a0.2.2.1 + a0.2.2.2.1)) (some (1 : Int)))
set_option maxRecDepth 20000 in
set_option maxHeartbeats 4000000 in
theorem w_stmakes (a0 : (Int × (Int × (Int × (Int × Bool))))) (r : (Int)) (h : m_stmakes a0 = some r) : AC cx 36 [.agg [.val (.int .u8 a0.1), .val (.int .u8 a0.2.1), .val (.int .i64 a0.2.2.1), .val (.int .i64 a0.2.2.2.1), .val (.bool a0.2.2.2.2)]] [] (fun sv h => sv = .a (.c (.val (.int .i64 r))) ∧ h = []) := by
  unfold m_stmakes at h
  refine ac_body tt_ok Tryd.func36 rfl Tryd.ntmps36 rfl rfl (res := [.tmp 2]) rfl ?_
  refine ax_seq ?_
  refine ax_region ?_
  refine al_run tt_ok rfl rfl ?_
  refine ax_weak (Wk.frzC 1 (.pair (.int .u8) (.pair (.int .u8) (.pair (.int .i64) (.pair (.int .i64) .bool)))) rfl rfl rfl) ?_
  refine ax_seq ?_
  refine ax_seq ?_
  obtain ⟨r1, hr1, h⟩ := bd h
  refine ax_region ?_
  refine al_upto tt_ok rfl rfl ?_
  refine al_callP (w_stcheck _  r1 hr1) rfl ⟨rfl, rfl⟩ rfl Tryd.func44 rfl rfl rfl rfl rfl rfl ?_
  refine al_run tt_ok rfl rfl ?_
  refine ax_cond rfl rfl (fun hc => ?_) (fun hc => ?_)
  ·
   replace h := cond_t hc h
   refine ax_seq ?_
   refine ax_region ?_
   refine al_run tt_ok rfl rfl ?_
   refine ax_ret ?_
   obtain rfl := Option.some.inj h
   refine ⟨_, (Wk.pick [2] [] rfl rfl), _, _, rfl, rfl, ?_⟩
   exact ⟨rfl, rfl⟩
  ·
   replace h := cond_f hc h
   refine ax_skip ?_
   refine ax_seq ?_
   refine ax_seq ?_
   refine ax_region ?_
   refine al_run tt_ok rfl rfl ?_
   refine ax_cond rfl rfl (fun hc => ?_) (fun hc => ?_)
   ·
    replace h := cond_t hc h
    refine ax_seq ?_
    obtain ⟨hG2, h⟩ := gd_some h
    refine ax_region ?_
    refine al_run tt_ok rfl (by simp only [hG2, ob, decide_true, cond_true, cond_false]) ?_
    refine ax_ret ?_
    obtain rfl := Option.some.inj h
    refine ⟨_, (Wk.pick [2] [] rfl rfl), _, _, rfl, rfl, ?_⟩
    exact ⟨rfl, rfl⟩
   ·
    replace h := cond_f hc h
    refine ax_skip ?_
    refine ax_seq ?_
    refine ax_region ?_
    refine al_run tt_ok rfl rfl ?_
    refine ax_ret ?_
    obtain rfl := Option.some.inj h
    refine ⟨_, (Wk.pick [2] [] rfl rfl), _, _, rfl, rfl, ?_⟩
    exact ⟨rfl, rfl⟩
def m_stbed (a0 : (Int × (Int × (Int × (Int × Bool))))) : Option (Int) :=
    Option.bind (m_stcheck a0) fun r1 =>
    cond (cond (decide (r1 = (0 : Int))) (cond (decide (a0.1 = (2 : Int))) true (decide (a0.1 = (5 : Int)))) false) (some (1 : Int)) (some (0 : Int))
set_option maxRecDepth 20000 in
set_option maxHeartbeats 4000000 in
theorem w_stbed (a0 : (Int × (Int × (Int × (Int × Bool))))) (r : (Int)) (h : m_stbed a0 = some r) : AC cx 49 [.agg [.val (.int .u8 a0.1), .val (.int .u8 a0.2.1), .val (.int .i64 a0.2.2.1), .val (.int .i64 a0.2.2.2.1), .val (.bool a0.2.2.2.2)]] [] (fun sv h => sv = .a (.c (.val (.int .u8 r))) ∧ h = []) := by
  unfold m_stbed at h
  refine ac_body tt_ok Tryd.func49 rfl Tryd.ntmps49 rfl rfl (res := [.tmp 2]) rfl ?_
  refine ax_seq ?_
  refine ax_region ?_
  refine al_run tt_ok rfl rfl ?_
  refine ax_weak (Wk.frzC 1 (.pair (.int .u8) (.pair (.int .u8) (.pair (.int .i64) (.pair (.int .i64) .bool)))) rfl rfl rfl) ?_
  refine ax_seq ?_
  refine ax_seq ?_
  obtain ⟨r1, hr1, h⟩ := bd h
  refine ax_region ?_
  refine al_upto tt_ok rfl (by generalize (decide (a0.1 = (2 : Int))) = b0; generalize (decide (r1 = (0 : Int))) = b1; revert b0 b1; decide) ?_
  refine al_callP (w_stcheck _  r1 hr1) rfl ⟨rfl, rfl⟩ rfl Tryd.func44 rfl rfl rfl (by generalize (decide (a0.1 = (2 : Int))) = b0; generalize (decide (r1 = (0 : Int))) = b1; revert b0 b1; decide) rfl rfl ?_
  refine al_run tt_ok rfl (by generalize (decide (a0.1 = (2 : Int))) = b0; generalize (decide (r1 = (0 : Int))) = b1; revert b0 b1; decide) ?_
  refine ax_cond rfl rfl (fun hc => ?_) (fun hc => ?_)
  ·
   replace h := cond_t hc h
   refine ax_seq ?_
   refine ax_region ?_
   refine al_run tt_ok rfl rfl ?_
   refine ax_ret ?_
   obtain rfl := Option.some.inj h
   refine ⟨_, (Wk.pick [2] [] rfl rfl), _, _, rfl, rfl, ?_⟩
   exact ⟨rfl, rfl⟩
  ·
   replace h := cond_f hc h
   refine ax_skip ?_
   refine ax_seq ?_
   refine ax_region ?_
   refine al_run tt_ok rfl rfl ?_
   refine ax_ret ?_
   obtain rfl := Option.some.inj h
   refine ⟨_, (Wk.pick [2] [] rfl rfl), _, _, rfl, rfl, ?_⟩
   exact ⟨rfl, rfl⟩
def m_stloads_L4 (a1 : (List Int)) : Nat → Int → Option ((Unit) ⊕ ((List Int) × Nat × Int))
  | 0, _ => none
  | n + 1, v4_0 =>
    cond (decide (v4_0 < (a1.length : Int))) (gd ((inB v4_0 a1.length)) <|
    cond (cond (decide ((a1.getD v4_0.toNat 0) < (1 : Int))) true (decide ((3 : Int) < (a1.getD v4_0.toNat 0)))) (some (.inr (([] : List Int), 0, (1 : Int)))) (gd ((inI64 (v4_0 + (1 : Int)))) <|
    m_stloads_L4 a1 n (v4_0 + (1 : Int)))) (some (.inl ()))
def m_stdigit (a0 : Int) : Option (Int) :=
    gd ((inI64 ((48 : Int) + a0))) <|
    some (IntKind.wrap .u8 ((48 : Int) + a0))
set_option maxRecDepth 20000 in
set_option maxHeartbeats 4000000 in
theorem w_stdigit (a0 : Int) (r : (Int)) (h : m_stdigit a0 = some r) : AC cx 98 [.c (.val (.int .i64 a0))] [] (fun sv h => sv = .a (.c (.val (.int .u8 r))) ∧ h = []) := by
  unfold m_stdigit at h
  refine ac_body tt_ok Tryd.func98 rfl Tryd.ntmps98 rfl rfl (res := [.tmp 2]) rfl ?_
  refine ax_seq ?_
  refine ax_region ?_
  refine al_run tt_ok rfl rfl ?_
  refine ax_seq ?_
  obtain ⟨hG1, h⟩ := gd_some h
  refine ax_region ?_
  refine al_run tt_ok rfl (by simp only [hG1, ob, decide_true, cond_true, cond_false]) ?_
  refine ax_ret ?_
  obtain rfl := Option.some.inj h
  refine ⟨_, (Wk.pick [2] [] rfl rfl), _, _, rfl, rfl, ?_⟩
  exact ⟨rfl, rfl⟩
def m_stput (a0 : (List UInt8)) (a1 : (List Int)) : Option ((List UInt8)) :=
    gd ((isBs a1) && (decide (a0.length + (bsOf a1).length ≤ 140737488355328))) <|
    some (a0 ++ (bsOf a1))
set_option maxRecDepth 20000 in
set_option maxHeartbeats 4000000 in
theorem w_stput (a0 : (List UInt8)) (a1 : (List Int)) (c0 : Option Nat) (r : ((List UInt8))) (h : m_stput a0 a1 = some r) : AC cx 97 [.c (.str a0), .c (.lst (.int .u8) a1 c0)] [] (fun sv h => sv = .a (.c (.str r)) ∧ h = []) := by
  unfold m_stput at h
  refine ac_body tt_ok Tryd.func97 rfl Tryd.ntmps97 rfl rfl (res := [.tmp 4]) rfl ?_
  refine ax_seq ?_
  refine ax_region ?_
  refine al_run tt_ok rfl rfl ?_
  refine ax_seq ?_
  obtain ⟨hG1, h⟩ := gd_some h
  simp only [Bool.and_eq_true] at hG1
  obtain ⟨hG1_0, hG1_1⟩ := hG1
  refine ax_region ?_
  refine al_upN 2 tt_ok rfl (by simp only [hG1_0, hG1_1, ob, decide_true, cond_true, cond_false]) ?_
  refine al_strOf tt_ok rfl ⟨rfl, rfl⟩ rfl rfl rfl rfl rfl rfl rfl rfl (by simp only [hG1_0, hG1_1, ob, decide_true, cond_true, cond_false]) rfl (by simp only [hG1_0, hG1_1, ob, decide_true, cond_true, cond_false]) ?_
  refine al_run tt_ok rfl (by simp only [hG1_0, hG1_1, ob, decide_true, cond_true, cond_false]) ?_
  refine ax_ret ?_
  obtain rfl := Option.some.inj h
  refine ⟨_, (Wk.pick [4] [] rfl rfl), _, _, rfl, rfl, ?_⟩
  exact ⟨rfl, rfl⟩
def m_sttext (a0 : (Int × (Int × (Int × (Int × Bool))))) : Option ((List UInt8)) :=
    Option.bind (m_stcheck a0) fun r1 =>
    cond (!(decide (r1 = (0 : Int)))) (some ([] : List UInt8)) (gd ((inB (IntKind.wrap .u8 (a0.1 - (1 : Int))) 8) && (inB (IntKind.wrap .u8 (a0.1 - (1 : Int))) symbolsL.length)) <|
    Option.bind (m_stput ([] : List UInt8) [(symbolsL.getD (IntKind.wrap .u8 (a0.1 - (1 : Int))).toNat 0)]) fun r2 =>
    Option.bind (cond (decide (a0.1 = (8 : Int))) (Option.bind (cond a0.2.2.2.2 (some (70 : Int)) (some (66 : Int))) fun o4 =>
    Option.bind (m_stdigit a0.2.2.1) fun r5 =>
    Option.bind (m_stdigit a0.2.2.2.1) fun r6 =>
    Option.bind (m_stput r2 [r5, r6, o4]) fun r7 =>
    some r7) (some r2)) fun o3 =>
    cond (!(decide (a0.2.1 = (1 : Int)))) (gd ((inI64 a0.2.1)) <|
    Option.bind (m_stdigit a0.2.1) fun r8 =>
    Option.bind (m_stput o3 [r8]) fun r9 =>
    some r9) (some o3))
set_option maxRecDepth 20000 in
set_option maxHeartbeats 4000000 in
theorem w_sttext (a0 : (Int × (Int × (Int × (Int × Bool))))) (r : ((List UInt8))) (h : m_sttext a0 = some r) : AC cx 88 [.agg [.val (.int .u8 a0.1), .val (.int .u8 a0.2.1), .val (.int .i64 a0.2.2.1), .val (.int .i64 a0.2.2.2.1), .val (.bool a0.2.2.2.2)]] [] (fun sv h => sv = .a (.c (.str r)) ∧ h = []) := by
  unfold m_sttext at h
  refine ac_body tt_ok Tryd.func88 rfl Tryd.ntmps88 rfl rfl (res := [.tmp 2]) rfl ?_
  refine ax_seq ?_
  refine ax_region ?_
  refine al_run tt_ok rfl rfl ?_
  refine ax_weak (Wk.frzC 1 (.pair (.int .u8) (.pair (.int .u8) (.pair (.int .i64) (.pair (.int .i64) .bool)))) rfl rfl rfl) ?_
  refine ax_seq ?_
  refine ax_seq ?_
  obtain ⟨r1, hr1, h⟩ := bd h
  refine ax_region ?_
  refine al_upto tt_ok rfl rfl ?_
  refine al_callP (w_stcheck _  r1 hr1) rfl ⟨rfl, rfl⟩ rfl Tryd.func44 rfl rfl rfl rfl rfl rfl ?_
  refine al_run tt_ok rfl rfl ?_
  refine ax_cond rfl rfl (fun hc => ?_) (fun hc => ?_)
  ·
   replace h := cond_t hc h
   refine ax_seq ?_
   refine ax_region ?_
   refine al_run tt_ok rfl rfl ?_
   refine ax_ret ?_
   obtain rfl := Option.some.inj h
   refine ⟨_, (Wk.pick [2] [] rfl rfl), _, _, rfl, rfl, ?_⟩
   exact ⟨rfl, rfl⟩
  ·
   replace h := cond_f hc h
   refine ax_skip ?_
   refine ax_seq ?_
   obtain ⟨hG11, h⟩ := gd_some h
   simp only [Bool.and_eq_true] at hG11
   obtain ⟨hG11_0, hG11_1⟩ := hG11
   obtain ⟨r2, hr2, h⟩ := bd h
   refine ax_region ?_
   refine al_upto tt_ok rfl (by simp only [hG11_0, hG11_1, ob, decide_true, cond_true, cond_false]) ?_
   refine al_weak (Wk.frz (id := 13) rfl) ?_
   refine al_callP (w_stput _ _ (some 1) r2 hr2) rfl ⟨rfl, rfl⟩ rfl Tryd.func97 rfl rfl rfl (by simp only [hG11_0, hG11_1, ob, decide_true, cond_true, cond_false]) rfl rfl ?_
   refine al_run tt_ok rfl (by simp only [hG11_0, hG11_1, ob, decide_true, cond_true, cond_false]) ?_
   refine ax_seq ?_
   refine ax_seq ?_
   refine ax_region ?_
   refine al_run tt_ok rfl rfl ?_
   obtain ⟨o3, ho3, hk3⟩ := bd h
   refine ax_cutS (fun o3 : (List UInt8) => ⟨[(1, .a (.c (.pel (.pair (.int .u8) (.pair (.int .u8) (.pair (.int .i64) (.pair (.int .i64) .bool)))) a0 0))), (3, .a (.c (.str o3)))], []⟩) (fun o' => o3 = o') ?_ ?_
   ·
    have h := ho3
    refine ax_cond rfl rfl (fun hc => ?_) (fun hc => ?_)
    ·
     replace h := cond_t hc h
     refine ax_seq ?_
     refine ax_region ?_
     refine al_run tt_ok rfl rfl ?_
     refine ax_seq ?_
     refine ax_seq ?_
     refine ax_region ?_
     refine al_run tt_ok rfl rfl ?_
     obtain ⟨o4, ho4, hk4⟩ := bd h
     refine ax_cutS (fun o4 : Int => ⟨[(1, .a (.c (.pel (.pair (.int .u8) (.pair (.int .u8) (.pair (.int .i64) (.pair (.int .i64) .bool)))) a0 0))), (3, .a (.c (.str r2))), (4, .a (.c (.val (.int .u8 o4))))], []⟩) (fun o' => o4 = o') ?_ ?_
     ·
      have h := ho4
      refine ax_cond rfl rfl (fun hc => ?_) (fun hc => ?_)
      ·
       replace h := cond_t hc h
       refine ax_region ?_
       refine al_run tt_ok rfl rfl ?_
       exact ⟨_, (Option.some.inj h).symm, (Wk.pick [1, 3, 4] [] rfl rfl)⟩
      ·
       replace h := cond_f hc h
       refine ax_skip ?_
       exact ⟨_, (Option.some.inj h).symm, (Wk.pick [1, 3, 4] [] rfl rfl)⟩
     ·
      rintro _ rfl
      have h := hk4
      obtain ⟨r5, hr5, h⟩ := bd h
      obtain ⟨r6, hr6, h⟩ := bd h
      obtain ⟨r7, hr7, h⟩ := bd h
      refine ax_draw [] (by kernel_rfl) rfl (N := 11) ?_
      refine ad_run (fuel := 5) (ds' := ⟨#[true, true, true, false, true, true, false, true, false, false, false], true, true, true⟩) tt_ok [(0, 0), (1, 0), (2, 1), (4, 0), (5, 1), (7, 0)] (by kernel_rfl) rfl rfl ?_
      refine ad_ready (by kernel_rfl) (ads_cons (i := 3) ?_ ads_nil)
      refine ado_of rfl ?_
      refine adx_call (i := 3) (listed' := #[true, true, true, true, true, true, false, true, false, false, false]) (pre' := true) [] (w_stdigit _  r5 hr5) rfl rfl rfl rfl ⟨rfl, rfl⟩ rfl Tryd.func98 rfl rfl rfl rfl rfl rfl PassH.nil ?_
      rintro _ _ ⟨rfl, rfl⟩
      refine ⟨_, _, rfl, rfl, ?_⟩
      refine ad_ready (by kernel_rfl) (ads_cons (i := 6) ?_ ads_nil)
      refine ado_of rfl ?_
      refine adx_call (i := 6) (listed' := #[true, true, true, true, true, true, true, true, false, false, false]) (pre' := true) [] (w_stdigit _  r6 hr6) rfl rfl rfl rfl ⟨rfl, rfl⟩ rfl Tryd.func98 rfl rfl rfl rfl rfl rfl PassH.nil ?_
      rintro _ _ ⟨rfl, rfl⟩
      refine ⟨_, _, rfl, rfl, ?_⟩
      refine ad_run (fuel := 2) (ds' := ⟨#[true, true, true, true, true, true, true, true, true, false, false], false, false, false⟩) tt_ok [(8, 2)] (by kernel_rfl) rfl rfl ?_
      refine ad_frz 28 rfl ?_
      refine ad_ready (by kernel_rfl) (ads_cons (i := 9) ?_ ads_nil)
      refine ado_of rfl ?_
      refine adx_call (i := 9) (listed' := #[true, true, true, true, true, true, true, true, true, true, false]) (pre' := false) [] (w_stput _ _ (some 3) r7 hr7) rfl rfl rfl rfl ⟨rfl, rfl⟩ rfl Tryd.func97 rfl rfl rfl rfl rfl rfl PassH.nil ?_
      rintro _ _ ⟨rfl, rfl⟩
      refine ⟨_, _, rfl, rfl, ?_⟩
      refine ad_run (fuel := 0) (ds' := ⟨#[true, true, true, true, true, true, true, true, true, true, true], false, false, false⟩) tt_ok [(10, 0)] (by kernel_rfl) rfl rfl ?_
      refine ad_done (by kernel_rfl) ?_
      exact ⟨_, (Option.some.inj h).symm, (Wk.pick [1, 3] [] rfl rfl)⟩
    ·
     replace h := cond_f hc h
     refine ax_skip ?_
     exact ⟨_, (Option.some.inj h).symm, (Wk.pick [1, 3] [] rfl rfl)⟩
   ·
    rintro _ rfl
    have h := hk3
    refine ax_seq ?_
    refine ax_seq ?_
    refine ax_region ?_
    refine al_run tt_ok rfl rfl ?_
    refine ax_cond rfl rfl (fun hc => ?_) (fun hc => ?_)
    ·
     replace h := cond_t hc h
     obtain ⟨hG10, h⟩ := gd_some h
     obtain ⟨r8, hr8, h⟩ := bd h
     obtain ⟨r9, hr9, h⟩ := bd h
     refine ax_region ?_
     refine al_upto tt_ok rfl (by simp only [hG10, ob, decide_true, cond_true, cond_false]) ?_
     refine al_callP (w_stdigit _  r8 hr8) rfl ⟨rfl, rfl⟩ rfl Tryd.func98 rfl rfl rfl (by simp only [hG10, ob, decide_true, cond_true, cond_false]) rfl rfl ?_
     refine al_upto tt_ok rfl (by simp only [hG10, ob, decide_true, cond_true, cond_false]) ?_
     refine al_weak (Wk.frz (id := 38) rfl) ?_
     refine al_callP (w_stput _ _ (some 1) r9 hr9) rfl ⟨rfl, rfl⟩ rfl Tryd.func97 rfl rfl rfl (by simp only [hG10, ob, decide_true, cond_true, cond_false]) rfl rfl ?_
     refine al_run tt_ok rfl (by simp only [hG10, ob, decide_true, cond_true, cond_false]) ?_
     refine ax_seq ?_
     refine ax_region ?_
     refine al_run tt_ok rfl rfl ?_
     refine ax_ret ?_
     obtain rfl := Option.some.inj h
     refine ⟨_, (Wk.pick [2] [] rfl rfl), _, _, rfl, rfl, ?_⟩
     exact ⟨rfl, rfl⟩
    ·
     replace h := cond_f hc h
     refine ax_skip ?_
     refine ax_seq ?_
     refine ax_region ?_
     refine al_run tt_ok rfl rfl ?_
     refine ax_ret ?_
     obtain rfl := Option.some.inj h
     refine ⟨_, (Wk.pick [2] [] rfl rfl), _, _, rfl, rfl, ?_⟩
     exact ⟨rfl, rfl⟩
def m_stparse_L2 (a0 : (List UInt8)) : Nat → Int → Int → Option (Int)
  | 0, _, _ => none
  | n + 1, v2_0, v2_1 =>
    cond (decide (v2_0 < (8 : Int))) (gd ((inB v2_0 symbolsL.length) && (inB v2_0 8)) <|
    gd ((inB (0 : Int) a0.length)) <|
    cond (decide ((symbolsL.getD v2_0.toNat 0) = ((a0.getD (0 : Int).toNat 0).toNat : Int))) (gd ((inI64 (v2_0 + (1 : Int)))) <|
    gd ((inI64 (v2_0 + (1 : Int)))) <|
    m_stparse_L2 a0 n (v2_0 + (1 : Int)) (IntKind.wrap .u8 (v2_0 + (1 : Int)))) (gd ((inI64 (v2_0 + (1 : Int)))) <|
    m_stparse_L2 a0 n (v2_0 + (1 : Int)) v2_1)) (some v2_1)
def m_stparse (a0 : (List UInt8)) : Option ((Int × (Int × (Int × (Int × Bool)))) × Int) :=
    cond (a0 == ([] : List UInt8)) (some (((0 : Int), ((0 : Int), ((0 : Int), ((0 : Int), false)))), (4 : Int))) (gd ((decide (symbolsL.length = 8))) <|
    Option.bind (m_stparse_L2 a0 FUEL (0 : Int) (0 : Int)) fun o1 =>
    gd ((decide (0 ≤ (1 : Int))) && (decide ((1 : Int) ≤ (a0.length : Int)))) <|
    Option.bind (cond (cond (decide (o1 = (8 : Int))) (decide ((3 : Int) ≤ ((a0.drop (1 : Int).toNat).length : Int))) false) (gd ((inB (0 : Int) (a0.drop (1 : Int).toNat).length) && (inI64 (((a0.drop (1 : Int).toNat).getD (0 : Int).toNat 0).toNat : Int)) && (inI64 ((((a0.drop (1 : Int).toNat).getD (0 : Int).toNat 0).toNat : Int) - (48 : Int))) && (inB (1 : Int) (a0.drop (1 : Int).toNat).length) && (inI64 (((a0.drop (1 : Int).toNat).getD (1 : Int).toNat 0).toNat : Int)) && (inI64 ((((a0.drop (1 : Int).toNat).getD (1 : Int).toNat 0).toNat : Int) - (48 : Int))) && (inB (2 : Int) (a0.drop (1 : Int).toNat).length)) <|
    gd ((decide (0 ≤ (3 : Int))) && (decide ((3 : Int) ≤ ((a0.drop (1 : Int).toNat).length : Int)))) <|
    some (((a0.drop (1 : Int).toNat).drop (3 : Int).toNat), ((((a0.drop (1 : Int).toNat).getD (0 : Int).toNat 0).toNat : Int) - (48 : Int)), ((((a0.drop (1 : Int).toNat).getD (1 : Int).toNat 0).toNat : Int) - (48 : Int)), (decide ((((a0.drop (1 : Int).toNat).getD (2 : Int).toNat 0).toNat : Int) = (70 : Int))))) (some ((a0.drop (1 : Int).toNat), (0 : Int), (0 : Int), false))) fun o8 =>
    Option.bind (cond (decide ((o8.1.length : Int) = (1 : Int))) (gd ((inB (0 : Int) o8.1.length)) <|
    some (IntKind.wrap .u8 (((o8.1.getD (0 : Int).toNat 0).toNat : Int) - (48 : Int)))) (some (1 : Int))) fun o11 =>
    Option.bind (m_sttext (o1, (o11, o8.2))) fun r13 =>
    cond (!(r13 == a0)) (some (((0 : Int), ((0 : Int), ((0 : Int), ((0 : Int), false)))), (4 : Int))) (some ((o1, (o11, o8.2)), (0 : Int))))
set_option maxRecDepth 20000 in
set_option maxHeartbeats 4000000 in
theorem w_stparse (a0 : (List UInt8)) (r : ((Int × (Int × (Int × (Int × Bool)))) × Int)) (h : m_stparse a0 = some r) : AC cx 73 [.c (.str a0)] [] (fun sv h => sv = .tup [.agg [.val (.int .u8 r.1.1), .val (.int .u8 r.1.2.1), .val (.int .i64 r.1.2.2.1), .val (.int .i64 r.1.2.2.2.1), .val (.bool r.1.2.2.2.2)], .c (.val (.int .i64 r.2))] ∧ h = []) := by
  apply AC.forgetV
  unfold m_stparse at h
  refine ac_body tt_ok Tryd.func73 rfl Tryd.ntmps73 rfl rfl (res := [.cell 2 48, .tmp 3]) rfl ?_
  refine ax_seq ?_
  refine ax_region ?_
  refine al_run tt_ok rfl rfl ?_
  refine ax_seq ?_
  refine ax_seq ?_
  refine ax_region ?_
  refine al_run tt_ok rfl rfl ?_
  refine ax_cond rfl rfl (fun hc => ?_) (fun hc => ?_)
  ·
   replace h := cond_t hc h
   refine ax_seq ?_
   refine ax_region ?_
   refine al_run tt_ok rfl rfl ?_
   refine ax_ret ?_
   obtain rfl := Option.some.inj h
   refine ⟨_, (Wk.pick [2, 3] [2] rfl rfl), _, _, rfl, rfl, ?_⟩
   exact rfl
  ·
   replace h := cond_f hc h
   refine ax_skip ?_
   refine ax_seq ?_
   refine ax_region ?_
   refine al_run tt_ok rfl rfl ?_
   refine ax_seq ?_
   refine ax_seq ?_
   obtain ⟨hG15, h⟩ := gd_some h
   refine ax_region ?_
   refine al_loadP tt_ok rfl ⟨rfl, rfl⟩ rfl rfl rfl rfl (by simp only [hG15, ob, decide_true, cond_true, cond_false]) rfl (by simp only [hG15, ob, decide_true, cond_true, cond_false]) ?_
   refine al_run tt_ok rfl (by simp only [hG15, ob, decide_true, cond_true, cond_false]) ?_
   obtain ⟨o1, ho1, hk1⟩ := bd h
   refine ax_cutS (fun o1 : Int => ⟨[(0, .a (.c (.str a0))), (2, .a (.c (.ptr 2 0))), (4, .a (.c (.ptr 4 0)))], [(2, .cells 48 [.val (.int .u8 (0 : Int)), .val (.int .u8 (0 : Int)), .val (.int .i64 (0 : Int)), .val (.int .i64 (0 : Int)), .val (.bool false)]), (4, .cells 48 [.val (.int .u8 o1), .val (.int .u8 (1 : Int)), .val (.int .i64 (0 : Int)), .val (.int .i64 (0 : Int)), .val (.bool false)])]⟩) (fun o' => o1 = o') ?_ ?_
   ·
    have h := ho1
    refine ax_block ?_
    refine ax_weak (Wk.pick [13, 0, 2, 4, 12] [4, 2] rfl rfl) ?_
    refine ax_loopL (fun y : Nat × Int × Int => [(13, .a (.c (.val (.int .i64 y.2.1))))]) (fun y : Nat × Int × Int => [(4, .cells 48 [.val (.int .u8 y.2.2), .val (.int .u8 (1 : Int)), .val (.int .i64 (0 : Int)), .val (.int .i64 (0 : Int)), .val (.bool false)])]) (fun y : Nat × Int × Int => m_stparse_L2 a0 y.1 y.2.1 y.2.2 = some o1) (fun y : Nat × Int × Int => y.1) (FUEL, (0 : Int), (0 : Int)) h ?_
    rintro ⟨n, v2_0, v2_1⟩ h
    replace h : m_stparse_L2 a0 n v2_0 v2_1 = some o1 := h
    rcases n with _ | n
    · cases (show (none : Option _) = some _ from h)
    rw [m_stparse_L2] at h
    try dsimp only
    refine ax_seq ?_
    refine ax_region ?_
    refine al_run tt_ok rfl rfl ?_
    refine ax_seq ?_
    refine ax_cond rfl rfl (fun hc => ?_) (fun hc => ?_)
    ·
     replace h := cond_t hc h
     refine ax_skip ?_
     refine ax_seq ?_
     refine ax_block ?_
     refine ax_seq ?_
     obtain ⟨hG7, h⟩ := gd_some h
     simp only [Bool.and_eq_true] at hG7
     obtain ⟨hG7_0, hG7_1⟩ := hG7
     refine ax_region ?_
     refine al_upN 1 tt_ok rfl (by simp only [hG7_0, hG7_1, ob, decide_true, cond_true, cond_false]) ?_
     refine al_idxA (.int .u8) 8 v2_0 tt_ok rfl ⟨rfl, rfl⟩ rfl rfl rfl rfl rfl rfl rfl rfl (by simp only [hG7_0, hG7_1, ob, decide_true, cond_true, cond_false]) rfl (by simp only [hG7_0, hG7_1, ob, decide_true, cond_true, cond_false]) rfl (by simp only [hG7_0, hG7_1, ob, decide_true, cond_true, cond_false]) (by simp only [hG7_0, hG7_1, ob, decide_true, cond_true, cond_false]) (by simp only [hG7_0, hG7_1, ob, decide_true, cond_true, cond_false]) rfl ?_
     refine al_run tt_ok rfl (by simp only [hG7_0, hG7_1, ob, decide_true, cond_true, cond_false]) ?_
     refine ax_seq ?_
     obtain ⟨hG6, h⟩ := gd_some h
     refine ax_region ?_
     refine al_run tt_ok rfl (by simp only [hG6, ob, decide_true, cond_true, cond_false]) ?_
     refine ax_cond rfl rfl (fun hc => ?_) (fun hc => ?_)
     ·
      replace h := cond_t hc h
      obtain ⟨hG4, h⟩ := gd_some h
      refine ax_region ?_
      refine al_run tt_ok rfl (by simp only [hG4, ob, decide_true, cond_true, cond_false]) ?_
      obtain ⟨hG3, h⟩ := gd_some h
      refine ax_region ?_
      refine al_run tt_ok rfl (by simp only [hG3, ob, decide_true, cond_true, cond_false]) ?_
      refine ⟨(n, _, _), h, Nat.lt_succ_self _, (Wk.pick [13, 0, 2, 4, 12] [4, 2] rfl rfl)⟩
     ·
      replace h := cond_f hc h
      refine ax_skip ?_
      obtain ⟨hG5, h⟩ := gd_some h
      refine ax_region ?_
      refine al_run tt_ok rfl (by simp only [hG5, ob, decide_true, cond_true, cond_false]) ?_
      refine ⟨(n, _, _), h, Nat.lt_succ_self _, (Wk.pick [13, 0, 2, 4, 12] [4, 2] rfl rfl)⟩
    ·
     replace h := cond_f hc h
     refine ax_exit ?_
     exact ⟨_, (Option.some.inj h).symm, (Wk.pick [0, 2, 4] [2, 4] rfl rfl)⟩
   ·
    rintro _ rfl
    have h := hk1
    refine ax_seq ?_
    obtain ⟨hG14, h⟩ := gd_some h
    simp only [Bool.and_eq_true] at hG14
    obtain ⟨hG14_0, hG14_1⟩ := hG14
    refine ax_region ?_
    refine al_upN 1 tt_ok rfl (by simp only [hG14_0, hG14_1, ob, decide_true, cond_true, cond_false]) ?_
    refine al_sliceSf tt_ok rfl ⟨rfl, rfl⟩ rfl rfl rfl rfl (by simp only [hG14_0, hG14_1, ob, decide_true, cond_true, cond_false]) rfl (by simp only [hG14_0, hG14_1, ob, decide_true, cond_true, cond_false]) (by simp only [hG14_0, hG14_1, ob, decide_true, cond_true, cond_false]) (by simp only [hG14_0, hG14_1, ob, decide_true, cond_true, cond_false]) ?_
    refine al_run tt_ok rfl (by simp only [hG14_0, hG14_1, ob, decide_true, cond_true, cond_false]) ?_
    refine ax_seq ?_
    refine ax_seq ?_
    refine ax_region ?_
    refine al_run tt_ok rfl (by generalize (decide (o1 = (8 : Int))) = b0; revert b0; decide) ?_
    obtain ⟨o8, ho8, hk8⟩ := bd h
    refine ax_cutS (fun o8 : (List UInt8) × Int × Int × Bool => ⟨[(0, .a (.c (.str a0))), (2, .a (.c (.ptr 2 0))), (4, .a (.c (.ptr 4 0))), (7, .a (.c (.str o8.1)))], [(2, .cells 48 [.val (.int .u8 (0 : Int)), .val (.int .u8 (0 : Int)), .val (.int .i64 (0 : Int)), .val (.int .i64 (0 : Int)), .val (.bool false)]), (4, .cells 48 [.val (.int .u8 o1), .val (.int .u8 (1 : Int)), .val (.int .i64 o8.2.1), .val (.int .i64 o8.2.2.1), .val (.bool o8.2.2.2)])]⟩) (fun o' => o8 = o') ?_ ?_
    ·
     have h := ho8
     refine ax_cond rfl rfl (fun hc => ?_) (fun hc => ?_)
     ·
      replace h := cond_t hc h
      refine ax_seq ?_
      obtain ⟨hG10, h⟩ := gd_some h
      simp only [Bool.and_eq_true] at hG10
      obtain ⟨⟨⟨⟨⟨⟨hG10_0, hG10_1⟩, hG10_2⟩, hG10_3⟩, hG10_4⟩, hG10_5⟩, hG10_6⟩ := hG10
      apply ax_cut
      ·
        refine ax_draw [] (by kernel_rfl) rfl (N := 17) ?_
        refine ad_run (fuel := 14) (ds' := ⟨#[true, false, false, false, true, false, false, false, true, false, false, false, false, false, false, false, false], true, true, true⟩) tt_ok [(0, 0), (4, 0), (8, 0)] (by kernel_rfl) rfl (by simp only [hG10_0, hG10_1, hG10_2, hG10_3, hG10_4, hG10_5, hG10_6, ob, decide_true, cond_true, cond_false]) ?_
        refine ad_ready (by kernel_rfl) (ads_cons (i := 1) ?_ (ads_cons (i := 5) ?_ (ads_cons (i := 9) ?_ ads_nil)))
        ·
          refine ado_step tt_ok (i := 1) rfl rfl rfl (by simp only [hG10_0, hG10_1, hG10_2, hG10_3, hG10_4, hG10_5, hG10_6, ob, decide_true, cond_true, cond_false]) rfl ?_
          refine ad_run (fuel := 10) (ds' := ⟨#[true, true, true, true, true, false, false, false, true, false, false, true, false, false, false, false, false], false, false, true⟩) tt_ok [(2, 0), (3, 0), (11, 0)] (by kernel_rfl) rfl (by simp only [hG10_0, hG10_1, hG10_2, hG10_3, hG10_4, hG10_5, hG10_6, ob, decide_true, cond_true, cond_false]) ?_
          refine ad_ready (by kernel_rfl) (ads_cons (i := 5) ?_ (ads_cons (i := 9) ?_ (ads_cons (i := 12) ?_ ads_nil)))
          ·
            refine ado_step tt_ok (i := 5) rfl rfl rfl (by simp only [hG10_0, hG10_1, hG10_2, hG10_3, hG10_4, hG10_5, hG10_6, ob, decide_true, cond_true, cond_false]) rfl ?_
            refine ad_run (fuel := 7) (ds' := ⟨#[true, true, true, true, true, true, true, true, true, false, false, true, false, false, false, false, false], false, false, true⟩) tt_ok [(6, 0), (7, 0)] (by kernel_rfl) rfl (by simp only [hG10_0, hG10_1, hG10_2, hG10_3, hG10_4, hG10_5, hG10_6, ob, decide_true, cond_true, cond_false]) ?_
            refine ad_ready (by kernel_rfl) (ads_cons (i := 9) ?_ (ads_cons (i := 12) ?_ ads_nil))
            ·
              refine ado_step tt_ok (i := 9) rfl rfl rfl (by simp only [hG10_0, hG10_1, hG10_2, hG10_3, hG10_4, hG10_5, hG10_6, ob, decide_true, cond_true, cond_false]) rfl ?_
              refine ad_run (fuel := 0) (ds' := ⟨#[true, true, true, true, true, true, true, true, true, true, true, true, true, true, true, true, true], false, false, true⟩) tt_ok [(10, 0), (12, 2), (13, 0), (14, 2), (15, 0), (16, 2)] (by kernel_rfl) rfl (by simp only [hG10_0, hG10_1, hG10_2, hG10_3, hG10_4, hG10_5, hG10_6, ob, decide_true, cond_true, cond_false]) ?_
              refine ad_done (by kernel_rfl) ?_
              exact ⟨rfl, Wk.pick [0, 2, 4, 7] [2, 4] rfl rfl⟩
            ·
              refine ado_step tt_ok (i := 12) rfl rfl rfl (by simp only [hG10_0, hG10_1, hG10_2, hG10_3, hG10_4, hG10_5, hG10_6, ob, decide_true, cond_true, cond_false]) rfl ?_
              refine ad_run (fuel := 5) (ds' := ⟨#[true, true, true, true, true, true, true, true, true, false, false, true, true, true, false, false, false], false, false, true⟩) tt_ok [(13, 0)] (by kernel_rfl) rfl (by simp only [hG10_0, hG10_1, hG10_2, hG10_3, hG10_4, hG10_5, hG10_6, ob, decide_true, cond_true, cond_false]) ?_
              refine ad_ready (by kernel_rfl) (ads_cons (i := 9) ?_ (ads_cons (i := 14) ?_ ads_nil))
              ·
                refine ado_step tt_ok (i := 9) rfl rfl rfl (by simp only [hG10_0, hG10_1, hG10_2, hG10_3, hG10_4, hG10_5, hG10_6, ob, decide_true, cond_true, cond_false]) rfl ?_
                refine ad_run (fuel := 0) (ds' := ⟨#[true, true, true, true, true, true, true, true, true, true, true, true, true, true, true, true, true], false, false, true⟩) tt_ok [(10, 0), (14, 2), (15, 0), (16, 2)] (by kernel_rfl) rfl (by simp only [hG10_0, hG10_1, hG10_2, hG10_3, hG10_4, hG10_5, hG10_6, ob, decide_true, cond_true, cond_false]) ?_
                refine ad_done (by kernel_rfl) ?_
                exact ⟨rfl, Wk.pick [0, 2, 4, 7] [2, 4] rfl rfl⟩
              ·
                refine ado_step tt_ok (i := 14) rfl rfl rfl (by simp only [hG10_0, hG10_1, hG10_2, hG10_3, hG10_4, hG10_5, hG10_6, ob, decide_true, cond_true, cond_false]) rfl ?_
                refine ad_run (fuel := 0) (ds' := ⟨#[true, true, true, true, true, true, true, true, true, true, true, true, true, true, true, true, true], false, false, true⟩) tt_ok [(9, 2), (10, 0), (15, 0), (16, 2)] (by kernel_rfl) rfl (by simp only [hG10_0, hG10_1, hG10_2, hG10_3, hG10_4, hG10_5, hG10_6, ob, decide_true, cond_true, cond_false]) ?_
                refine ad_done (by kernel_rfl) ?_
                exact ⟨rfl, Wk.pick [0, 2, 4, 7] [2, 4] rfl rfl⟩
          ·
            refine ado_step tt_ok (i := 9) rfl rfl rfl (by simp only [hG10_0, hG10_1, hG10_2, hG10_3, hG10_4, hG10_5, hG10_6, ob, decide_true, cond_true, cond_false]) rfl ?_
            refine ad_run (fuel := 8) (ds' := ⟨#[true, true, true, true, true, false, false, false, true, true, true, true, false, false, false, false, false], false, false, true⟩) tt_ok [(10, 0)] (by kernel_rfl) rfl (by simp only [hG10_0, hG10_1, hG10_2, hG10_3, hG10_4, hG10_5, hG10_6, ob, decide_true, cond_true, cond_false]) ?_
            refine ad_ready (by kernel_rfl) (ads_cons (i := 5) ?_ (ads_cons (i := 12) ?_ ads_nil))
            ·
              refine ado_step tt_ok (i := 5) rfl rfl rfl (by simp only [hG10_0, hG10_1, hG10_2, hG10_3, hG10_4, hG10_5, hG10_6, ob, decide_true, cond_true, cond_false]) rfl ?_
              refine ad_run (fuel := 0) (ds' := ⟨#[true, true, true, true, true, true, true, true, true, true, true, true, true, true, true, true, true], false, false, true⟩) tt_ok [(6, 0), (7, 0), (12, 2), (13, 0), (14, 2), (15, 0), (16, 2)] (by kernel_rfl) rfl (by simp only [hG10_0, hG10_1, hG10_2, hG10_3, hG10_4, hG10_5, hG10_6, ob, decide_true, cond_true, cond_false]) ?_
              refine ad_done (by kernel_rfl) ?_
              exact ⟨rfl, Wk.pick [0, 2, 4, 7] [2, 4] rfl rfl⟩
            ·
              refine ado_step tt_ok (i := 12) rfl rfl rfl (by simp only [hG10_0, hG10_1, hG10_2, hG10_3, hG10_4, hG10_5, hG10_6, ob, decide_true, cond_true, cond_false]) rfl ?_
              refine ad_run (fuel := 0) (ds' := ⟨#[true, true, true, true, true, true, true, true, true, true, true, true, true, true, true, true, true], false, false, true⟩) tt_ok [(5, 2), (6, 0), (7, 0), (13, 0), (14, 2), (15, 0), (16, 2)] (by kernel_rfl) rfl (by simp only [hG10_0, hG10_1, hG10_2, hG10_3, hG10_4, hG10_5, hG10_6, ob, decide_true, cond_true, cond_false]) ?_
              refine ad_done (by kernel_rfl) ?_
              exact ⟨rfl, Wk.pick [0, 2, 4, 7] [2, 4] rfl rfl⟩
          ·
            refine ado_step tt_ok (i := 12) rfl rfl rfl (by simp only [hG10_0, hG10_1, hG10_2, hG10_3, hG10_4, hG10_5, hG10_6, ob, decide_true, cond_true, cond_false]) rfl ?_
            refine ad_ready (by kernel_rfl) (ads_cons (i := 5) ?_ (ads_cons (i := 9) ?_ ads_nil))
            ·
              refine ado_step tt_ok (i := 5) rfl rfl rfl (by simp only [hG10_0, hG10_1, hG10_2, hG10_3, hG10_4, hG10_5, hG10_6, ob, decide_true, cond_true, cond_false]) rfl ?_
              refine ad_run (fuel := 5) (ds' := ⟨#[true, true, true, true, true, true, true, true, true, false, false, true, true, true, false, false, false], false, false, true⟩) tt_ok [(6, 0), (7, 0), (13, 0)] (by kernel_rfl) rfl (by simp only [hG10_0, hG10_1, hG10_2, hG10_3, hG10_4, hG10_5, hG10_6, ob, decide_true, cond_true, cond_false]) ?_
              refine ad_ready (by kernel_rfl) (ads_cons (i := 9) ?_ (ads_cons (i := 14) ?_ ads_nil))
              ·
                refine ado_step tt_ok (i := 9) rfl rfl rfl (by simp only [hG10_0, hG10_1, hG10_2, hG10_3, hG10_4, hG10_5, hG10_6, ob, decide_true, cond_true, cond_false]) rfl ?_
                refine ad_run (fuel := 0) (ds' := ⟨#[true, true, true, true, true, true, true, true, true, true, true, true, true, true, true, true, true], false, false, true⟩) tt_ok [(10, 0), (14, 2), (15, 0), (16, 2)] (by kernel_rfl) rfl (by simp only [hG10_0, hG10_1, hG10_2, hG10_3, hG10_4, hG10_5, hG10_6, ob, decide_true, cond_true, cond_false]) ?_
                refine ad_done (by kernel_rfl) ?_
                exact ⟨rfl, Wk.pick [0, 2, 4, 7] [2, 4] rfl rfl⟩
              ·
                refine ado_step tt_ok (i := 14) rfl rfl rfl (by simp only [hG10_0, hG10_1, hG10_2, hG10_3, hG10_4, hG10_5, hG10_6, ob, decide_true, cond_true, cond_false]) rfl ?_
                refine ad_run (fuel := 0) (ds' := ⟨#[true, true, true, true, true, true, true, true, true, true, true, true, true, true, true, true, true], false, false, true⟩) tt_ok [(9, 2), (10, 0), (15, 0), (16, 2)] (by kernel_rfl) rfl (by simp only [hG10_0, hG10_1, hG10_2, hG10_3, hG10_4, hG10_5, hG10_6, ob, decide_true, cond_true, cond_false]) ?_
                refine ad_done (by kernel_rfl) ?_
                exact ⟨rfl, Wk.pick [0, 2, 4, 7] [2, 4] rfl rfl⟩
            ·
              refine ado_step tt_ok (i := 9) rfl rfl rfl (by simp only [hG10_0, hG10_1, hG10_2, hG10_3, hG10_4, hG10_5, hG10_6, ob, decide_true, cond_true, cond_false]) rfl ?_
              refine ad_run (fuel := 0) (ds' := ⟨#[true, true, true, true, true, true, true, true, true, true, true, true, true, true, true, true, true], false, false, true⟩) tt_ok [(10, 0), (5, 2), (6, 0), (7, 0), (13, 0), (14, 2), (15, 0), (16, 2)] (by kernel_rfl) rfl (by simp only [hG10_0, hG10_1, hG10_2, hG10_3, hG10_4, hG10_5, hG10_6, ob, decide_true, cond_true, cond_false]) ?_
              refine ad_done (by kernel_rfl) ?_
              exact ⟨rfl, Wk.pick [0, 2, 4, 7] [2, 4] rfl rfl⟩
        ·
          refine ado_step tt_ok (i := 5) rfl rfl rfl (by simp only [hG10_0, hG10_1, hG10_2, hG10_3, hG10_4, hG10_5, hG10_6, ob, decide_true, cond_true, cond_false]) rfl ?_
          refine ad_run (fuel := 11) (ds' := ⟨#[true, false, false, false, true, true, true, true, true, false, false, false, false, false, false, false, false], false, false, true⟩) tt_ok [(6, 0), (7, 0)] (by kernel_rfl) rfl (by simp only [hG10_0, hG10_1, hG10_2, hG10_3, hG10_4, hG10_5, hG10_6, ob, decide_true, cond_true, cond_false]) ?_
          refine ad_ready (by kernel_rfl) (ads_cons (i := 1) ?_ (ads_cons (i := 9) ?_ ads_nil))
          ·
            refine ado_step tt_ok (i := 1) rfl rfl rfl (by simp only [hG10_0, hG10_1, hG10_2, hG10_3, hG10_4, hG10_5, hG10_6, ob, decide_true, cond_true, cond_false]) rfl ?_
            refine ad_run (fuel := 7) (ds' := ⟨#[true, true, true, true, true, true, true, true, true, false, false, true, false, false, false, false, false], false, false, true⟩) tt_ok [(2, 0), (3, 0), (11, 0)] (by kernel_rfl) rfl (by simp only [hG10_0, hG10_1, hG10_2, hG10_3, hG10_4, hG10_5, hG10_6, ob, decide_true, cond_true, cond_false]) ?_
            refine ad_ready (by kernel_rfl) (ads_cons (i := 9) ?_ (ads_cons (i := 12) ?_ ads_nil))
            ·
              refine ado_step tt_ok (i := 9) rfl rfl rfl (by simp only [hG10_0, hG10_1, hG10_2, hG10_3, hG10_4, hG10_5, hG10_6, ob, decide_true, cond_true, cond_false]) rfl ?_
              refine ad_run (fuel := 0) (ds' := ⟨#[true, true, true, true, true, true, true, true, true, true, true, true, true, true, true, true, true], false, false, true⟩) tt_ok [(10, 0), (12, 2), (13, 0), (14, 2), (15, 0), (16, 2)] (by kernel_rfl) rfl (by simp only [hG10_0, hG10_1, hG10_2, hG10_3, hG10_4, hG10_5, hG10_6, ob, decide_true, cond_true, cond_false]) ?_
              refine ad_done (by kernel_rfl) ?_
              exact ⟨rfl, Wk.pick [0, 2, 4, 7] [2, 4] rfl rfl⟩
            ·
              refine ado_step tt_ok (i := 12) rfl rfl rfl (by simp only [hG10_0, hG10_1, hG10_2, hG10_3, hG10_4, hG10_5, hG10_6, ob, decide_true, cond_true, cond_false]) rfl ?_
              refine ad_run (fuel := 5) (ds' := ⟨#[true, true, true, true, true, true, true, true, true, false, false, true, true, true, false, false, false], false, false, true⟩) tt_ok [(13, 0)] (by kernel_rfl) rfl (by simp only [hG10_0, hG10_1, hG10_2, hG10_3, hG10_4, hG10_5, hG10_6, ob, decide_true, cond_true, cond_false]) ?_
              refine ad_ready (by kernel_rfl) (ads_cons (i := 9) ?_ (ads_cons (i := 14) ?_ ads_nil))
              ·
                refine ado_step tt_ok (i := 9) rfl rfl rfl (by simp only [hG10_0, hG10_1, hG10_2, hG10_3, hG10_4, hG10_5, hG10_6, ob, decide_true, cond_true, cond_false]) rfl ?_
                refine ad_run (fuel := 0) (ds' := ⟨#[true, true, true, true, true, true, true, true, true, true, true, true, true, true, true, true, true], false, false, true⟩) tt_ok [(10, 0), (14, 2), (15, 0), (16, 2)] (by kernel_rfl) rfl (by simp only [hG10_0, hG10_1, hG10_2, hG10_3, hG10_4, hG10_5, hG10_6, ob, decide_true, cond_true, cond_false]) ?_
                refine ad_done (by kernel_rfl) ?_
                exact ⟨rfl, Wk.pick [0, 2, 4, 7] [2, 4] rfl rfl⟩
              ·
                refine ado_step tt_ok (i := 14) rfl rfl rfl (by simp only [hG10_0, hG10_1, hG10_2, hG10_3, hG10_4, hG10_5, hG10_6, ob, decide_true, cond_true, cond_false]) rfl ?_
                refine ad_run (fuel := 0) (ds' := ⟨#[true, true, true, true, true, true, true, true, true, true, true, true, true, true, true, true, true], false, false, true⟩) tt_ok [(9, 2), (10, 0), (15, 0), (16, 2)] (by kernel_rfl) rfl (by simp only [hG10_0, hG10_1, hG10_2, hG10_3, hG10_4, hG10_5, hG10_6, ob, decide_true, cond_true, cond_false]) ?_
                refine ad_done (by kernel_rfl) ?_
                exact ⟨rfl, Wk.pick [0, 2, 4, 7] [2, 4] rfl rfl⟩
          ·
            refine ado_step tt_ok (i := 9) rfl rfl rfl (by simp only [hG10_0, hG10_1, hG10_2, hG10_3, hG10_4, hG10_5, hG10_6, ob, decide_true, cond_true, cond_false]) rfl ?_
            refine ad_run (fuel := 0) (ds' := ⟨#[true, true, true, true, true, true, true, true, true, true, true, true, true, true, true, true, true], false, false, true⟩) tt_ok [(10, 0), (1, 2), (2, 0), (3, 0), (11, 0), (12, 2), (13, 0), (14, 2), (15, 0), (16, 2)] (by kernel_rfl) rfl (by simp only [hG10_0, hG10_1, hG10_2, hG10_3, hG10_4, hG10_5, hG10_6, ob, decide_true, cond_true, cond_false]) ?_
            refine ad_done (by kernel_rfl) ?_
            exact ⟨rfl, Wk.pick [0, 2, 4, 7] [2, 4] rfl rfl⟩
        ·
          refine ado_step tt_ok (i := 9) rfl rfl rfl (by simp only [hG10_0, hG10_1, hG10_2, hG10_3, hG10_4, hG10_5, hG10_6, ob, decide_true, cond_true, cond_false]) rfl ?_
          refine ad_run (fuel := 12) (ds' := ⟨#[true, false, false, false, true, false, false, false, true, true, true, false, false, false, false, false, false], false, false, true⟩) tt_ok [(10, 0)] (by kernel_rfl) rfl (by simp only [hG10_0, hG10_1, hG10_2, hG10_3, hG10_4, hG10_5, hG10_6, ob, decide_true, cond_true, cond_false]) ?_
          refine ad_ready (by kernel_rfl) (ads_cons (i := 1) ?_ (ads_cons (i := 5) ?_ ads_nil))
          ·
            refine ado_step tt_ok (i := 1) rfl rfl rfl (by simp only [hG10_0, hG10_1, hG10_2, hG10_3, hG10_4, hG10_5, hG10_6, ob, decide_true, cond_true, cond_false]) rfl ?_
            refine ad_run (fuel := 8) (ds' := ⟨#[true, true, true, true, true, false, false, false, true, true, true, true, false, false, false, false, false], false, false, true⟩) tt_ok [(2, 0), (3, 0), (11, 0)] (by kernel_rfl) rfl (by simp only [hG10_0, hG10_1, hG10_2, hG10_3, hG10_4, hG10_5, hG10_6, ob, decide_true, cond_true, cond_false]) ?_
            refine ad_ready (by kernel_rfl) (ads_cons (i := 5) ?_ (ads_cons (i := 12) ?_ ads_nil))
            ·
              refine ado_step tt_ok (i := 5) rfl rfl rfl (by simp only [hG10_0, hG10_1, hG10_2, hG10_3, hG10_4, hG10_5, hG10_6, ob, decide_true, cond_true, cond_false]) rfl ?_
              refine ad_run (fuel := 0) (ds' := ⟨#[true, true, true, true, true, true, true, true, true, true, true, true, true, true, true, true, true], false, false, true⟩) tt_ok [(6, 0), (7, 0), (12, 2), (13, 0), (14, 2), (15, 0), (16, 2)] (by kernel_rfl) rfl (by simp only [hG10_0, hG10_1, hG10_2, hG10_3, hG10_4, hG10_5, hG10_6, ob, decide_true, cond_true, cond_false]) ?_
              refine ad_done (by kernel_rfl) ?_
              exact ⟨rfl, Wk.pick [0, 2, 4, 7] [2, 4] rfl rfl⟩
            ·
              refine ado_step tt_ok (i := 12) rfl rfl rfl (by simp only [hG10_0, hG10_1, hG10_2, hG10_3, hG10_4, hG10_5, hG10_6, ob, decide_true, cond_true, cond_false]) rfl ?_
              refine ad_run (fuel := 0) (ds' := ⟨#[true, true, true, true, true, true, true, true, true, true, true, true, true, true, true, true, true], false, false, true⟩) tt_ok [(5, 2), (6, 0), (7, 0), (13, 0), (14, 2), (15, 0), (16, 2)] (by kernel_rfl) rfl (by simp only [hG10_0, hG10_1, hG10_2, hG10_3, hG10_4, hG10_5, hG10_6, ob, decide_true, cond_true, cond_false]) ?_
              refine ad_done (by kernel_rfl) ?_
              exact ⟨rfl, Wk.pick [0, 2, 4, 7] [2, 4] rfl rfl⟩
          ·
            refine ado_step tt_ok (i := 5) rfl rfl rfl (by simp only [hG10_0, hG10_1, hG10_2, hG10_3, hG10_4, hG10_5, hG10_6, ob, decide_true, cond_true, cond_false]) rfl ?_
            refine ad_run (fuel := 0) (ds' := ⟨#[true, true, true, true, true, true, true, true, true, true, true, true, true, true, true, true, true], false, false, true⟩) tt_ok [(6, 0), (7, 0), (1, 2), (2, 0), (3, 0), (11, 0), (12, 2), (13, 0), (14, 2), (15, 0), (16, 2)] (by kernel_rfl) rfl (by simp only [hG10_0, hG10_1, hG10_2, hG10_3, hG10_4, hG10_5, hG10_6, ob, decide_true, cond_true, cond_false]) ?_
            refine ad_done (by kernel_rfl) ?_
            exact ⟨rfl, Wk.pick [0, 2, 4, 7] [2, 4] rfl rfl⟩
      obtain ⟨hG9, h⟩ := gd_some h
      simp only [Bool.and_eq_true] at hG9
      obtain ⟨hG9_0, hG9_1⟩ := hG9
      refine ax_region ?_
      refine al_upN 1 tt_ok rfl (by simp only [hG9_0, hG9_1, ob, decide_true, cond_true, cond_false]) ?_
      refine al_sliceSf tt_ok rfl ⟨rfl, rfl⟩ rfl rfl rfl rfl (by simp only [hG9_0, hG9_1, ob, decide_true, cond_true, cond_false]) rfl (by simp only [hG9_0, hG9_1, ob, decide_true, cond_true, cond_false]) (by simp only [hG9_0, hG9_1, ob, decide_true, cond_true, cond_false]) (by simp only [hG9_0, hG9_1, ob, decide_true, cond_true, cond_false]) ?_
      refine al_run tt_ok rfl (by simp only [hG9_0, hG9_1, ob, decide_true, cond_true, cond_false]) ?_
      exact ⟨_, (Option.some.inj h).symm, (Wk.pick [0, 2, 4, 7] [2, 4] rfl rfl)⟩
     ·
      replace h := cond_f hc h
      refine ax_skip ?_
      exact ⟨_, (Option.some.inj h).symm, (Wk.pick [0, 2, 4, 7] [2, 4] rfl rfl)⟩
    ·
     rintro _ rfl
     have h := hk8
     refine ax_seq ?_
     refine ax_seq ?_
     refine ax_region ?_
     refine al_run tt_ok rfl rfl ?_
     obtain ⟨o11, ho11, hk11⟩ := bd h
     refine ax_cutS (fun o11 : Int => ⟨[(0, .a (.c (.str a0))), (2, .a (.c (.ptr 2 0))), (4, .a (.c (.ptr 4 0)))], [(2, .cells 48 [.val (.int .u8 (0 : Int)), .val (.int .u8 (0 : Int)), .val (.int .i64 (0 : Int)), .val (.int .i64 (0 : Int)), .val (.bool false)]), (4, .cells 48 [.val (.int .u8 o1), .val (.int .u8 o11), .val (.int .i64 o8.2.1), .val (.int .i64 o8.2.2.1), .val (.bool o8.2.2.2)])]⟩) (fun o' => o11 = o') ?_ ?_
     ·
      have h := ho11
      refine ax_cond rfl rfl (fun hc => ?_) (fun hc => ?_)
      ·
       replace h := cond_t hc h
       obtain ⟨hG12, h⟩ := gd_some h
       refine ax_region ?_
       refine al_run tt_ok rfl (by simp only [hG12, ob, decide_true, cond_true, cond_false]) ?_
       exact ⟨_, (Option.some.inj h).symm, (Wk.pick [0, 2, 4] [2, 4] rfl rfl)⟩
      ·
       replace h := cond_f hc h
       refine ax_skip ?_
       exact ⟨_, (Option.some.inj h).symm, (Wk.pick [0, 2, 4] [2, 4] rfl rfl)⟩
     ·
      rintro _ rfl
      have h := hk11
      refine ax_seq ?_
      refine ax_seq ?_
      obtain ⟨r13, hr13, h⟩ := bd h
      refine ax_region ?_
      refine al_upto tt_ok rfl rfl ?_
      refine al_callP (w_sttext _  r13 hr13) rfl ⟨rfl, rfl⟩ rfl Tryd.func88 rfl rfl rfl rfl rfl rfl ?_
      refine al_run tt_ok rfl rfl ?_
      refine ax_cond rfl rfl (fun hc => ?_) (fun hc => ?_)
      ·
       replace h := cond_t hc h
       refine ax_seq ?_
       refine ax_region ?_
       refine al_run tt_ok rfl rfl ?_
       refine ax_ret ?_
       obtain rfl := Option.some.inj h
       refine ⟨_, (Wk.pick [2, 3] [2] rfl rfl), _, _, rfl, rfl, ?_⟩
       exact rfl
      ·
       replace h := cond_f hc h
       refine ax_skip ?_
       refine ax_seq ?_
       refine ax_region ?_
       refine al_run tt_ok rfl rfl ?_
       refine ax_ret ?_
       obtain rfl := Option.some.inj h
       refine ⟨_, (Wk.pick [2, 3] [2] rfl rfl), _, _, rfl, rfl, ?_⟩
       exact rfl
def m_totneeds_L2 (a0 : (List (Int × (Int × (Int × (Int × Bool)))))) : Nat → Int → Int → Option (Int)
  | 0, _, _ => none
  | n + 1, v2_0, v2_1 =>
    cond (decide (v2_1 < (a0.length : Int))) (gd ((inB v2_1 a0.length)) <|
    Option.bind (m_stneeds (a0.getD v2_1.toNat (0, (0, (0, (0, false)))))) fun r3 =>
    gd ((inI64 (v2_0 + r3))) <|
    gd ((inI64 (v2_1 + (1 : Int)))) <|
    m_totneeds_L2 a0 n (v2_0 + r3) (v2_1 + (1 : Int))) (some v2_0)
def m_totneeds (a0 : (List (Int × (Int × (Int × (Int × Bool)))))) : Option (Int) :=
    Option.bind (m_totneeds_L2 a0 FUEL (0 : Int) (0 : Int)) fun o1 =>
    some o1
set_option maxRecDepth 20000 in
set_option maxHeartbeats 4000000 in
theorem w_totneeds (a0 : (List (Int × (Int × (Int × (Int × Bool)))))) (c0 : Option Nat) (r : (Int)) (h : m_totneeds a0 = some r) : AC cx 24 [.c (.lst (.pair (.int .u8) (.pair (.int .u8) (.pair (.int .i64) (.pair (.int .i64) .bool)))) a0 c0), .c (.fn 25 [])] [] (fun sv h => sv = .a (.c (.val (.int .i64 r))) ∧ h = []) := by
  unfold m_totneeds at h
  refine ac_body tt_ok Tryd.func24 rfl Tryd.ntmps24 rfl rfl (res := [.tmp 4]) rfl ?_
  refine ax_seq ?_
  refine ax_region ?_
  refine al_run tt_ok rfl rfl ?_
  refine ax_seq ?_
  refine ax_region ?_
  refine al_run tt_ok rfl rfl ?_
  refine ax_seq ?_
  refine ax_seq ?_
  refine ax_region ?_
  refine al_run tt_ok rfl rfl ?_
  obtain ⟨o1, ho1, hk1⟩ := bd h
  refine ax_cutS (fun o1 : Int => ⟨[(5, .a (.c (.val (.int .i64 o1))))], []⟩) (fun o' => o1 = o') ?_ ?_
  ·
   have h := ho1
   refine ax_block ?_
   refine ax_weak (Wk.pick [5, 10, 1, 8, 9] [] rfl rfl) ?_
   refine ax_loopL (fun y : Nat × Int × Int => [(5, .a (.c (.val (.int .i64 y.2.1)))), (10, .a (.c (.val (.int .i64 y.2.2))))]) (fun y : Nat × Int × Int => []) (fun y : Nat × Int × Int => m_totneeds_L2 a0 y.1 y.2.1 y.2.2 = some o1) (fun y : Nat × Int × Int => y.1) (FUEL, (0 : Int), (0 : Int)) h ?_
   rintro ⟨n, v2_0, v2_1⟩ h
   replace h : m_totneeds_L2 a0 n v2_0 v2_1 = some o1 := h
   rcases n with _ | n
   · cases (show (none : Option _) = some _ from h)
   rw [m_totneeds_L2] at h
   try dsimp only
   refine ax_seq ?_
   refine ax_region ?_
   refine al_run tt_ok rfl rfl ?_
   refine ax_seq ?_
   refine ax_cond rfl rfl (fun hc => ?_) (fun hc => ?_)
   ·
    replace h := cond_t hc h
    refine ax_skip ?_
    refine ax_seq ?_
    refine ax_block ?_
    refine ax_seq ?_
    obtain ⟨hG6, h⟩ := gd_some h
    refine ax_region ?_
    refine al_run tt_ok rfl (by simp only [hG6, ob, decide_true, cond_true, cond_false]) ?_
    refine ax_weak (Wk.frzC 7 (.pair (.int .u8) (.pair (.int .u8) (.pair (.int .i64) (.pair (.int .i64) .bool)))) rfl rfl rfl) ?_
    obtain ⟨r3, hr3, h⟩ := bd h
    obtain ⟨hG5, h⟩ := gd_some h
    refine ax_region ?_
    refine al_upto tt_ok rfl (by simp only [hG5, ob, decide_true, cond_true, cond_false]) ?_
    refine al_callV [] (w_stneeds _  r3 hr3) rfl ⟨rfl, rfl⟩ rfl rfl Tryd.func25 rfl rfl rfl (by simp only [hG5, ob, decide_true, cond_true, cond_false]) rfl rfl PassH.nil ?_
    rintro _ _ ⟨rfl, rfl⟩
    refine ⟨_, _, rfl, rfl, ?_⟩
    refine al_run tt_ok rfl (by simp only [hG5, ob, decide_true, cond_true, cond_false]) ?_
    obtain ⟨hG4, h⟩ := gd_some h
    refine ax_region ?_
    refine al_run tt_ok rfl (by simp only [hG4, ob, decide_true, cond_true, cond_false]) ?_
    refine ⟨(n, _, _), h, Nat.lt_succ_self _, (Wk.pick [5, 10, 1, 8, 9] [] rfl rfl)⟩
   ·
    replace h := cond_f hc h
    refine ax_exit ?_
    exact ⟨_, (Option.some.inj h).symm, (Wk.pick [5] [] rfl rfl)⟩
  ·
   rintro _ rfl
   have h := hk1
   refine ax_seq ?_
   refine ax_region ?_
   refine al_run tt_ok rfl rfl ?_
   refine ax_ret ?_
   obtain rfl := Option.some.inj h
   refine ⟨_, (Wk.pick [4] [] rfl rfl), _, _, rfl, rfl, ?_⟩
   exact ⟨rfl, rfl⟩
def m_totmakes_L2 (a0 : (List (Int × (Int × (Int × (Int × Bool)))))) : Nat → Int → Int → Option (Int)
  | 0, _, _ => none
  | n + 1, v2_0, v2_1 =>
    cond (decide (v2_1 < (a0.length : Int))) (gd ((inB v2_1 a0.length)) <|
    Option.bind (m_stmakes (a0.getD v2_1.toNat (0, (0, (0, (0, false)))))) fun r3 =>
    gd ((inI64 (v2_0 + r3))) <|
    gd ((inI64 (v2_1 + (1 : Int)))) <|
    m_totmakes_L2 a0 n (v2_0 + r3) (v2_1 + (1 : Int))) (some v2_0)
def m_totmakes (a0 : (List (Int × (Int × (Int × (Int × Bool)))))) : Option (Int) :=
    Option.bind (m_totmakes_L2 a0 FUEL (0 : Int) (0 : Int)) fun o1 =>
    some o1
set_option maxRecDepth 20000 in
set_option maxHeartbeats 4000000 in
theorem w_totmakes (a0 : (List (Int × (Int × (Int × (Int × Bool)))))) (c0 : Option Nat) (r : (Int)) (h : m_totmakes a0 = some r) : AC cx 24 [.c (.lst (.pair (.int .u8) (.pair (.int .u8) (.pair (.int .i64) (.pair (.int .i64) .bool)))) a0 c0), .c (.fn 36 [])] [] (fun sv h => sv = .a (.c (.val (.int .i64 r))) ∧ h = []) := by
  unfold m_totmakes at h
  refine ac_body tt_ok Tryd.func24 rfl Tryd.ntmps24 rfl rfl (res := [.tmp 4]) rfl ?_
  refine ax_seq ?_
  refine ax_region ?_
  refine al_run tt_ok rfl rfl ?_
  refine ax_seq ?_
  refine ax_region ?_
  refine al_run tt_ok rfl rfl ?_
  refine ax_seq ?_
  refine ax_seq ?_
  refine ax_region ?_
  refine al_run tt_ok rfl rfl ?_
  obtain ⟨o1, ho1, hk1⟩ := bd h
  refine ax_cutS (fun o1 : Int => ⟨[(5, .a (.c (.val (.int .i64 o1))))], []⟩) (fun o' => o1 = o') ?_ ?_
  ·
   have h := ho1
   refine ax_block ?_
   refine ax_weak (Wk.pick [5, 10, 1, 8, 9] [] rfl rfl) ?_
   refine ax_loopL (fun y : Nat × Int × Int => [(5, .a (.c (.val (.int .i64 y.2.1)))), (10, .a (.c (.val (.int .i64 y.2.2))))]) (fun y : Nat × Int × Int => []) (fun y : Nat × Int × Int => m_totmakes_L2 a0 y.1 y.2.1 y.2.2 = some o1) (fun y : Nat × Int × Int => y.1) (FUEL, (0 : Int), (0 : Int)) h ?_
   rintro ⟨n, v2_0, v2_1⟩ h
   replace h : m_totmakes_L2 a0 n v2_0 v2_1 = some o1 := h
   rcases n with _ | n
   · cases (show (none : Option _) = some _ from h)
   rw [m_totmakes_L2] at h
   try dsimp only
   refine ax_seq ?_
   refine ax_region ?_
   refine al_run tt_ok rfl rfl ?_
   refine ax_seq ?_
   refine ax_cond rfl rfl (fun hc => ?_) (fun hc => ?_)
   ·
    replace h := cond_t hc h
    refine ax_skip ?_
    refine ax_seq ?_
    refine ax_block ?_
    refine ax_seq ?_
    obtain ⟨hG6, h⟩ := gd_some h
    refine ax_region ?_
    refine al_run tt_ok rfl (by simp only [hG6, ob, decide_true, cond_true, cond_false]) ?_
    refine ax_weak (Wk.frzC 7 (.pair (.int .u8) (.pair (.int .u8) (.pair (.int .i64) (.pair (.int .i64) .bool)))) rfl rfl rfl) ?_
    obtain ⟨r3, hr3, h⟩ := bd h
    obtain ⟨hG5, h⟩ := gd_some h
    refine ax_region ?_
    refine al_upto tt_ok rfl (by simp only [hG5, ob, decide_true, cond_true, cond_false]) ?_
    refine al_callV [] (w_stmakes _  r3 hr3) rfl ⟨rfl, rfl⟩ rfl rfl Tryd.func36 rfl rfl rfl (by simp only [hG5, ob, decide_true, cond_true, cond_false]) rfl rfl PassH.nil ?_
    rintro _ _ ⟨rfl, rfl⟩
    refine ⟨_, _, rfl, rfl, ?_⟩
    refine al_run tt_ok rfl (by simp only [hG5, ob, decide_true, cond_true, cond_false]) ?_
    obtain ⟨hG4, h⟩ := gd_some h
    refine ax_region ?_
    refine al_run tt_ok rfl (by simp only [hG4, ob, decide_true, cond_true, cond_false]) ?_
    refine ⟨(n, _, _), h, Nat.lt_succ_self _, (Wk.pick [5, 10, 1, 8, 9] [] rfl rfl)⟩
   ·
    replace h := cond_f hc h
    refine ax_exit ?_
    exact ⟨_, (Option.some.inj h).symm, (Wk.pick [5] [] rfl rfl)⟩
  ·
   rintro _ rfl
   have h := hk1
   refine ax_seq ?_
   refine ax_region ?_
   refine al_run tt_ok rfl rfl ?_
   refine ax_ret ?_
   obtain rfl := Option.some.inj h
   refine ⟨_, (Wk.pick [4] [] rfl rfl), _, _, rfl, rfl, ?_⟩
   exact ⟨rfl, rfl⟩
def m_chneeds (a0 : (List (Int × (Int × (Int × (Int × Bool)))))) : Option (Int) :=
    Option.bind (m_totneeds a0) fun r1 =>
    some r1
set_option maxRecDepth 20000 in
set_option maxHeartbeats 4000000 in
theorem w_chneeds (a0 : (List (Int × (Int × (Int × (Int × Bool)))))) (c0 : Option Nat) (r : (Int)) (h : m_chneeds a0 = some r) : AC cx 7 [.c (.lst (.pair (.int .u8) (.pair (.int .u8) (.pair (.int .i64) (.pair (.int .i64) .bool)))) a0 c0)] [] (fun sv h => sv = .a (.c (.val (.int .i64 r))) ∧ h = []) := by
  unfold m_chneeds at h
  refine ac_body tt_ok Tryd.func7 rfl Tryd.ntmps7 rfl rfl (res := [.tmp 2]) rfl ?_
  refine ax_seq ?_
  refine ax_region ?_
  refine al_run tt_ok rfl rfl ?_
  refine ax_seq ?_
  obtain ⟨r1, hr1, h⟩ := bd h
  refine ax_region ?_
  refine al_upto tt_ok rfl rfl ?_
  refine al_callP (w_totneeds _ c0 r1 hr1) rfl ⟨rfl, rfl⟩ rfl Tryd.func24 rfl rfl rfl rfl rfl rfl ?_
  refine al_run tt_ok rfl rfl ?_
  refine ax_ret ?_
  obtain rfl := Option.some.inj h
  refine ⟨_, (Wk.pick [2] [] rfl rfl), _, _, rfl, rfl, ?_⟩
  exact ⟨rfl, rfl⟩
def m_chmakes (a0 : (List (Int × (Int × (Int × (Int × Bool)))))) : Option (Int) :=
    Option.bind (m_totmakes a0) fun r1 =>
    some r1
set_option maxRecDepth 20000 in
set_option maxHeartbeats 4000000 in
theorem w_chmakes (a0 : (List (Int × (Int × (Int × (Int × Bool)))))) (c0 : Option Nat) (r : (Int)) (h : m_chmakes a0 = some r) : AC cx 13 [.c (.lst (.pair (.int .u8) (.pair (.int .u8) (.pair (.int .i64) (.pair (.int .i64) .bool)))) a0 c0)] [] (fun sv h => sv = .a (.c (.val (.int .i64 r))) ∧ h = []) := by
  unfold m_chmakes at h
  refine ac_body tt_ok Tryd.func13 rfl Tryd.ntmps13 rfl rfl (res := [.tmp 2]) rfl ?_
  refine ax_seq ?_
  refine ax_region ?_
  refine al_run tt_ok rfl rfl ?_
  refine ax_seq ?_
  obtain ⟨r1, hr1, h⟩ := bd h
  refine ax_region ?_
  refine al_upto tt_ok rfl rfl ?_
  refine al_callP (w_totmakes _ c0 r1 hr1) rfl ⟨rfl, rfl⟩ rfl Tryd.func24 rfl rfl rfl rfl rfl rfl ?_
  refine al_run tt_ok rfl rfl ?_
  refine ax_ret ?_
  obtain rfl := Option.some.inj h
  refine ⟨_, (Wk.pick [2] [] rfl rfl), _, _, rfl, rfl, ?_⟩
  exact ⟨rfl, rfl⟩
def m_chrow_L2 (a0 : (List (Int × (Int × (Int × (Int × Bool)))))) : Nat → Int → Option ((Unit) ⊕ (Int))
  | 0, _ => none
  | n + 1, v2_0 =>
    cond (decide (v2_0 < (a0.length : Int))) (gd ((inB v2_0 a0.length)) <|
    Option.bind (m_stcheck (a0.getD v2_0.toNat (0, (0, (0, (0, false)))))) fun r3 =>
    cond (!(decide (r3 = (0 : Int)))) (some (.inr (1 : Int))) (gd ((inI64 (v2_0 + (1 : Int)))) <|
    m_chrow_L2 a0 n (v2_0 + (1 : Int)))) (some (.inl ()))
def m_chrow (a0 : (List (Int × (Int × (Int × (Int × Bool)))))) : Option (Int) :=
    cond (decide ((16 : Int) < (a0.length : Int))) (some (3 : Int)) (cond (decide ((a0.length : Int) = (0 : Int))) (some (1 : Int)) (Option.bind (m_chrow_L2 a0 FUEL (0 : Int)) fun o1 =>
    sm o1 (fun o1 =>
    Option.bind (m_chneeds a0) fun r6 =>
    Option.bind (m_chmakes a0) fun r7 =>
    cond (cond (cond (cond (decide (r6 < (1 : Int))) true (decide ((16 : Int) < r6))) true (decide (r7 < (1 : Int)))) true (decide ((16 : Int) < r7))) (some (5 : Int)) (some (0 : Int))) (fun q => some q)))
set_option maxRecDepth 20000 in
set_option maxHeartbeats 4000000 in
theorem w_chrow (a0 : (List (Int × (Int × (Int × (Int × Bool)))))) (c0 : Option Nat) (r : (Int)) (h : m_chrow a0 = some r) : AC cx 16 [.c (.lst (.pair (.int .u8) (.pair (.int .u8) (.pair (.int .i64) (.pair (.int .i64) .bool)))) a0 c0)] [] (fun sv h => sv = .a (.c (.val (.int .i64 r))) ∧ h = []) := by
  unfold m_chrow at h
  refine ac_body tt_ok Tryd.func16 rfl Tryd.ntmps16 rfl rfl (res := [.tmp 2]) rfl ?_
  refine ax_seq ?_
  refine ax_region ?_
  refine al_run tt_ok rfl rfl ?_
  refine ax_seq ?_
  refine ax_seq ?_
  refine ax_region ?_
  refine al_run tt_ok rfl rfl ?_
  refine ax_cond rfl rfl (fun hc => ?_) (fun hc => ?_)
  ·
   replace h := cond_t hc h
   refine ax_seq ?_
   refine ax_region ?_
   refine al_run tt_ok rfl rfl ?_
   refine ax_ret ?_
   obtain rfl := Option.some.inj h
   refine ⟨_, (Wk.pick [2] [] rfl rfl), _, _, rfl, rfl, ?_⟩
   exact ⟨rfl, rfl⟩
  ·
   replace h := cond_f hc h
   refine ax_skip ?_
   refine ax_seq ?_
   refine ax_seq ?_
   refine ax_region ?_
   refine al_run tt_ok rfl rfl ?_
   refine ax_cond rfl rfl (fun hc => ?_) (fun hc => ?_)
   ·
    replace h := cond_t hc h
    refine ax_seq ?_
    refine ax_region ?_
    refine al_run tt_ok rfl rfl ?_
    refine ax_ret ?_
    obtain rfl := Option.some.inj h
    refine ⟨_, (Wk.pick [2] [] rfl rfl), _, _, rfl, rfl, ?_⟩
    exact ⟨rfl, rfl⟩
   ·
    replace h := cond_f hc h
    refine ax_skip ?_
    refine ax_seq ?_
    refine ax_seq ?_
    refine ax_region ?_
    refine al_run tt_ok rfl rfl ?_
    obtain ⟨o1, ho1, hk1⟩ := bd h
    refine ax_cutS (fun o1 : Unit => ⟨[(0, .a (.c (.lst (.pair (.int .u8) (.pair (.int .u8) (.pair (.int .i64) (.pair (.int .i64) .bool)))) a0 c0)))], []⟩) (fun o' => Sum.inl o' = o1) ?_ ?_
    ·
     have h := ho1
     refine ax_block ?_
     refine ax_weak (Wk.pick [15, 0, 13, 14] [] rfl rfl) ?_
     refine ax_loopL (fun y : Nat × Int => [(15, .a (.c (.val (.int .i64 y.2))))]) (fun y : Nat × Int => []) (fun y : Nat × Int => m_chrow_L2 a0 y.1 y.2 = some o1) (fun y : Nat × Int => y.1) (FUEL, (0 : Int)) h ?_
     rintro ⟨n, v2_0⟩ h
     replace h : m_chrow_L2 a0 n v2_0 = some o1 := h
     rcases n with _ | n
     · cases (show (none : Option _) = some _ from h)
     rw [m_chrow_L2] at h
     try dsimp only
     refine ax_seq ?_
     refine ax_region ?_
     refine al_run tt_ok rfl rfl ?_
     refine ax_seq ?_
     refine ax_cond rfl rfl (fun hc => ?_) (fun hc => ?_)
     ·
      replace h := cond_t hc h
      refine ax_skip ?_
      refine ax_seq ?_
      refine ax_block ?_
      refine ax_seq ?_
      obtain ⟨hG5, h⟩ := gd_some h
      refine ax_region ?_
      refine al_run tt_ok rfl (by simp only [hG5, ob, decide_true, cond_true, cond_false]) ?_
      refine ax_weak (Wk.frzC 4 (.pair (.int .u8) (.pair (.int .u8) (.pair (.int .i64) (.pair (.int .i64) .bool)))) rfl rfl rfl) ?_
      refine ax_seq ?_
      obtain ⟨r3, hr3, h⟩ := bd h
      refine ax_region ?_
      refine al_upto tt_ok rfl rfl ?_
      refine al_callP (w_stcheck _  r3 hr3) rfl ⟨rfl, rfl⟩ rfl Tryd.func44 rfl rfl rfl rfl rfl rfl ?_
      refine al_run tt_ok rfl rfl ?_
      refine ax_cond rfl rfl (fun hc => ?_) (fun hc => ?_)
      ·
       replace h := cond_t hc h
       refine ax_seq ?_
       refine ax_region ?_
       refine al_run tt_ok rfl rfl ?_
       refine ax_ret ?_
       obtain rfl := Option.some.inj h
       have h := hk1
       dsimp only [sm] at h
       obtain rfl := Option.some.inj h
       refine ⟨_, (Wk.pick [2] [] rfl rfl), _, _, rfl, rfl, ?_⟩
       exact ⟨rfl, rfl⟩
      ·
       replace h := cond_f hc h
       refine ax_skip ?_
       obtain ⟨hG4, h⟩ := gd_some h
       refine ax_region ?_
       refine al_run tt_ok rfl (by simp only [hG4, ob, decide_true, cond_true, cond_false]) ?_
       refine ⟨(n, _), h, Nat.lt_succ_self _, (Wk.pick [15, 0, 13, 14] [] rfl rfl)⟩
     ·
      replace h := cond_f hc h
      refine ax_exit ?_
      exact ⟨_, Option.some.inj h, (Wk.pick [0] [] rfl rfl)⟩
    ·
     rintro o1 rfl
     have h := hk1
     dsimp only [sm] at h
     refine ax_seq ?_
     obtain ⟨r6, hr6, h⟩ := bd h
     obtain ⟨r7, hr7, h⟩ := bd h
     refine ax_region ?_
     refine al_upto tt_ok rfl rfl ?_
     refine al_callP (w_chneeds _ c0 r6 hr6) rfl ⟨rfl, rfl⟩ rfl Tryd.func7 rfl rfl rfl rfl rfl rfl ?_
     refine al_upto tt_ok rfl rfl ?_
     refine al_callP (w_chmakes _ c0 r7 hr7) rfl ⟨rfl, rfl⟩ rfl Tryd.func13 rfl rfl rfl rfl rfl rfl ?_
     refine al_run tt_ok rfl rfl ?_
     refine ax_seq ?_
     refine ax_seq ?_
     refine ax_region ?_
     refine al_run tt_ok rfl (by generalize (decide ((16 : Int) < r6)) = b0; generalize (decide (r6 < (1 : Int))) = b1; generalize (decide (r7 < (1 : Int))) = b2; revert b0 b1 b2; decide) ?_
     refine ax_cond rfl rfl (fun hc => ?_) (fun hc => ?_)
     ·
      replace h := cond_t hc h
      refine ax_seq ?_
      refine ax_region ?_
      refine al_run tt_ok rfl rfl ?_
      refine ax_ret ?_
      obtain rfl := Option.some.inj h
      refine ⟨_, (Wk.pick [2] [] rfl rfl), _, _, rfl, rfl, ?_⟩
      exact ⟨rfl, rfl⟩
     ·
      replace h := cond_f hc h
      refine ax_skip ?_
      refine ax_seq ?_
      refine ax_region ?_
      refine al_run tt_ok rfl rfl ?_
      refine ax_ret ?_
      obtain rfl := Option.some.inj h
      refine ⟨_, (Wk.pick [2] [] rfl rfl), _, _, rfl, rfl, ?_⟩
      exact ⟨rfl, rfl⟩
def m_chyarns_L4 (a0 : (List (List (Int × (Int × (Int × (Int × Bool))))))) (v2_1 : Int) : Nat → Int → Int → (List Bool) → Option (Int × (List Bool))
  | 0, _, _, _ => none
  | n + 1, v4_0, v4_1, v4_2 =>
    cond (decide (v4_1 < ((a0.getD v2_1.toNat []).length : Int))) (gd ((inB v4_1 (a0.getD v2_1.toNat []).length)) <|
    gd ((inB ((a0.getD v2_1.toNat []).getD v4_1.toNat (0, (0, (0, (0, false))))).2.1 256) && (decide (((a0.getD v2_1.toNat []).getD v4_1.toNat (0, (0, (0, (0, false))))).2.1.toNat < v4_2.length))) <|
    cond (!(v4_2.getD ((a0.getD v2_1.toNat []).getD v4_1.toNat (0, (0, (0, (0, false))))).2.1.toNat false)) (gd ((inB ((a0.getD v2_1.toNat []).getD v4_1.toNat (0, (0, (0, (0, false))))).2.1 256) && (decide (((a0.getD v2_1.toNat []).getD v4_1.toNat (0, (0, (0, (0, false))))).2.1.toNat < v4_2.length))) <|
    gd ((inI64 (v4_0 + (1 : Int)))) <|
    gd ((inI64 (v4_1 + (1 : Int)))) <|
    m_chyarns_L4 a0 v2_1 n (v4_0 + (1 : Int)) (v4_1 + (1 : Int)) (v4_2.set ((a0.getD v2_1.toNat []).getD v4_1.toNat (0, (0, (0, (0, false))))).2.1.toNat true)) (gd ((inI64 (v4_1 + (1 : Int)))) <|
    m_chyarns_L4 a0 v2_1 n v4_0 (v4_1 + (1 : Int)) v4_2)) (some (v4_0, v4_2))
def m_chyarns_L2 (a0 : (List (List (Int × (Int × (Int × (Int × Bool))))))) : Nat → Int → Int → (List Bool) → Option (Int × (List Bool))
  | 0, _, _, _ => none
  | n + 1, v2_0, v2_1, v2_2 =>
    cond (decide (v2_1 < (a0.length : Int))) (gd ((inB v2_1 a0.length)) <|
    Option.bind (m_chyarns_L4 a0 v2_1 FUEL v2_0 (0 : Int) v2_2) fun o3 =>
    gd ((inI64 (v2_1 + (1 : Int)))) <|
    m_chyarns_L2 a0 n o3.1 (v2_1 + (1 : Int)) o3.2) (some (v2_0, v2_2))
def m_chyarns_L14 (o1 : Int × (List Bool)) : Nat → Int → (List Int) → (Option Nat) → Option ((List Int) × (Option Nat))
  | 0, _, _, _ => none
  | n + 1, v14_0, v14_1, v14_2 =>
    cond (decide (v14_0 < (256 : Int))) (gd ((inB v14_0 o1.2.length) && (inB v14_0 256)) <|
    cond (o1.2.getD v14_0.toNat false) (gd ((fitB 1 (v14_1.length + [(IntKind.wrap .u8 v14_0)].length))) <|
    gd ((inI64 (v14_0 + (1 : Int)))) <|
    m_chyarns_L14 o1 n (v14_0 + (1 : Int)) (v14_1 ++ [(IntKind.wrap .u8 v14_0)]) none) (gd ((inI64 (v14_0 + (1 : Int)))) <|
    m_chyarns_L14 o1 n (v14_0 + (1 : Int)) v14_1 v14_2)) (some (v14_1, v14_2))
def m_chyarns (a0 : (List (List (Int × (Int × (Int × (Int × Bool))))))) : Option ((List Int) × (Option Nat)) :=
    Option.bind (m_chyarns_L2 a0 FUEL (0 : Int) (0 : Int) (List.replicate 256 (false : Bool))) fun o1 =>
    gd ((decide ((0 : Int) ≤ o1.1)) && (decide ((1 : Int) * o1.1 ≤ 140737488355328)) && (decide (o1.1 ≤ 140737488355328))) <|
    gd ((decide (o1.2.length = 256))) <|
    Option.bind (m_chyarns_L14 o1 FUEL (0 : Int) ([] : List Int) (some o1.1.toNat)) fun o13 =>
    some (o13.1, o13.2)
set_option maxRecDepth 20000 in
set_option maxHeartbeats 4000000 in
theorem w_chyarns (a0 : (List (List (Int × (Int × (Int × (Int × Bool))))))) (c0 : Option Nat) (r : ((List Int) × (Option Nat))) (h : m_chyarns a0 = some r) : AC cx 39 [.agg [.lst (.sl (.pair (.int .u8) (.pair (.int .u8) (.pair (.int .i64) (.pair (.int .i64) .bool))))) a0 c0]] [] (fun sv h => sv = .a (.c (.lst (.int .u8) r.1 r.2)) ∧ h = []) := by
  unfold m_chyarns at h
  refine ac_body tt_ok Tryd.func39 rfl Tryd.ntmps39 rfl rfl (res := [.tmp 2]) rfl ?_
  refine ax_seq ?_
  refine ax_region ?_
  refine al_run tt_ok rfl rfl ?_
  refine ax_weak (Wk.frzC 1 (.sl (.sl (.pair (.int .u8) (.pair (.int .u8) (.pair (.int .i64) (.pair (.int .i64) .bool)))))) rfl rfl rfl) ?_
  refine ax_seq ?_
  refine ax_region ?_
  refine al_one tt_ok rfl rfl ?_
  refine al_weak (Wk.arr 3 .bool 256 (List.replicate 256 (false : Bool)) rfl rfl rfl rfl rfl (by decide)) ?_
  refine al_run tt_ok rfl rfl ?_
  refine ax_seq ?_
  refine ax_region ?_
  refine al_run tt_ok rfl rfl ?_
  refine ax_seq ?_
  refine ax_seq ?_
  refine ax_region ?_
  refine al_run tt_ok rfl rfl ?_
  obtain ⟨o1, ho1, hk1⟩ := bd h
  refine ax_cutS (fun o1 : Int × (List Bool) => ⟨[(3, .a (.c (.elt 3 1 0 0))), (4, .a (.c (.val (.int .i64 o1.1))))], [(3, .row 130 .bool o1.2 (some 256))]⟩) (fun o' => o1 = o') ?_ ?_
  ·
   have h := ho1
   refine ax_block ?_
   refine ax_weak (Wk.pick [4, 15, 3, 13, 14] [3] rfl rfl) ?_
   refine ax_loopL (fun y : Nat × Int × Int × (List Bool) => [(4, .a (.c (.val (.int .i64 y.2.1)))), (15, .a (.c (.val (.int .i64 y.2.2.1))))]) (fun y : Nat × Int × Int × (List Bool) => [(3, .row 130 .bool y.2.2.2 (some 256))]) (fun y : Nat × Int × Int × (List Bool) => m_chyarns_L2 a0 y.1 y.2.1 y.2.2.1 y.2.2.2 = some o1) (fun y : Nat × Int × Int × (List Bool) => y.1) (FUEL, (0 : Int), (0 : Int), (List.replicate 256 (false : Bool))) h ?_
   rintro ⟨n, v2_0, v2_1, v2_2⟩ h
   replace h : m_chyarns_L2 a0 n v2_0 v2_1 v2_2 = some o1 := h
   rcases n with _ | n
   · cases (show (none : Option _) = some _ from h)
   rw [m_chyarns_L2] at h
   try dsimp only
   refine ax_seq ?_
   refine ax_region ?_
   refine al_run tt_ok rfl rfl ?_
   refine ax_seq ?_
   refine ax_cond rfl rfl (fun hc => ?_) (fun hc => ?_)
   ·
    replace h := cond_t hc h
    refine ax_skip ?_
    refine ax_seq ?_
    refine ax_block ?_
    refine ax_seq ?_
    obtain ⟨hG12, h⟩ := gd_some h
    refine ax_region ?_
    refine al_run tt_ok rfl (by simp only [hG12, ob, decide_true, cond_true, cond_false]) ?_
    refine ax_seq ?_
    refine ax_region ?_
    refine al_run tt_ok rfl rfl ?_
    obtain ⟨o3, ho3, hk3⟩ := bd h
    refine ax_cutS (fun o3 : Int × (List Bool) => ⟨[(3, .a (.c (.elt 3 1 0 0))), (4, .a (.c (.val (.int .i64 o3.1)))), (13, .a (.c (.lst (.sl (.pair (.int .u8) (.pair (.int .u8) (.pair (.int .i64) (.pair (.int .i64) .bool))))) a0 none))), (14, .a (.c (.val (.int .i64 (a0.length : Int))))), (15, .a (.c (.val (.int .i64 v2_1))))], [(3, .row 130 .bool o3.2 (some 256))]⟩) (fun o' => o3 = o') ?_ ?_
    ·
     have h := ho3
     refine ax_block ?_
     refine ax_weak (Wk.pick [4, 21, 3, 13, 14, 15, 19, 20] [3] rfl rfl) ?_
     refine ax_loopL (fun y : Nat × Int × Int × (List Bool) => [(4, .a (.c (.val (.int .i64 y.2.1)))), (21, .a (.c (.val (.int .i64 y.2.2.1))))]) (fun y : Nat × Int × Int × (List Bool) => [(3, .row 130 .bool y.2.2.2 (some 256))]) (fun y : Nat × Int × Int × (List Bool) => m_chyarns_L4 a0 v2_1 y.1 y.2.1 y.2.2.1 y.2.2.2 = some o3) (fun y : Nat × Int × Int × (List Bool) => y.1) (FUEL, v2_0, (0 : Int), v2_2) h ?_
     rintro ⟨n, v4_0, v4_1, v4_2⟩ h
     replace h : m_chyarns_L4 a0 v2_1 n v4_0 v4_1 v4_2 = some o3 := h
     rcases n with _ | n
     · cases (show (none : Option _) = some _ from h)
     rw [m_chyarns_L4] at h
     try dsimp only
     refine ax_seq ?_
     refine ax_region ?_
     refine al_run tt_ok rfl rfl ?_
     refine ax_seq ?_
     refine ax_cond rfl rfl (fun hc => ?_) (fun hc => ?_)
     ·
      replace h := cond_t hc h
      refine ax_skip ?_
      refine ax_seq ?_
      refine ax_block ?_
      refine ax_seq ?_
      obtain ⟨hG10, h⟩ := gd_some h
      refine ax_region ?_
      refine al_run tt_ok rfl (by simp only [hG10, ob, decide_true, cond_true, cond_false]) ?_
      refine ax_weak (Wk.frzC 8 (.pair (.int .u8) (.pair (.int .u8) (.pair (.int .i64) (.pair (.int .i64) .bool)))) rfl rfl rfl) ?_
      refine ax_seq ?_
      obtain ⟨hG9, h⟩ := gd_some h
      simp only [Bool.and_eq_true] at hG9
      obtain ⟨hG9_0, hG9_1⟩ := hG9
      refine ax_region ?_
      refine al_run tt_ok rfl (by simp only [hG9_0, hG9_1, ob, decide_true, cond_true, cond_false]) ?_
      refine ax_cond rfl rfl (fun hc => ?_) (fun hc => ?_)
      ·
       replace h := cond_t hc h
       refine ax_seq ?_
       obtain ⟨hG7, h⟩ := gd_some h
       simp only [Bool.and_eq_true] at hG7
       obtain ⟨hG7_0, hG7_1⟩ := hG7
       refine ax_region ?_
       refine al_run tt_ok rfl (by simp only [hG7_0, hG7_1, ob, decide_true, cond_true, cond_false]) ?_
       obtain ⟨hG6, h⟩ := gd_some h
       refine ax_region ?_
       refine al_run tt_ok rfl (by simp only [hG6, ob, decide_true, cond_true, cond_false]) ?_
       obtain ⟨hG5, h⟩ := gd_some h
       refine ax_region ?_
       refine al_run tt_ok rfl (by simp only [hG5, ob, decide_true, cond_true, cond_false]) ?_
       refine ⟨(n, _, _, _), h, Nat.lt_succ_self _, (Wk.pick [4, 21, 3, 13, 14, 15, 19, 20] [3] rfl rfl)⟩
      ·
       replace h := cond_f hc h
       refine ax_skip ?_
       obtain ⟨hG8, h⟩ := gd_some h
       refine ax_region ?_
       refine al_run tt_ok rfl (by simp only [hG8, ob, decide_true, cond_true, cond_false]) ?_
       refine ⟨(n, _, _, _), h, Nat.lt_succ_self _, (Wk.pick [4, 21, 3, 13, 14, 15, 19, 20] [3] rfl rfl)⟩
     ·
      replace h := cond_f hc h
      refine ax_exit ?_
      exact ⟨_, (Option.some.inj h).symm, (Wk.pick [3, 4, 13, 14, 15] [3] rfl rfl)⟩
    ·
     rintro _ rfl
     have h := hk3
     obtain ⟨hG11, h⟩ := gd_some h
     refine ax_region ?_
     refine al_run tt_ok rfl (by simp only [hG11, ob, decide_true, cond_true, cond_false]) ?_
     refine ⟨(n, _, _, _), h, Nat.lt_succ_self _, (Wk.pick [4, 15, 3, 13, 14] [3] rfl rfl)⟩
   ·
    replace h := cond_f hc h
    refine ax_exit ?_
    exact ⟨_, (Option.some.inj h).symm, (Wk.pick [3, 4] [3] rfl rfl)⟩
  ·
   rintro _ rfl
   have h := hk1
   refine ax_seq ?_
   obtain ⟨hG20, h⟩ := gd_some h
   simp only [Bool.and_eq_true] at hG20
   obtain ⟨⟨hG20_0, hG20_1⟩, hG20_2⟩ := hG20
   refine ax_region ?_
   refine al_run tt_ok rfl (by simp_all) ?_
   refine ax_seq ?_
   refine ax_seq ?_
   obtain ⟨hG19, h⟩ := gd_some h
   refine ax_region ?_
   refine al_loadA tt_ok rfl ⟨rfl, rfl⟩ rfl rfl rfl rfl (by simp only [hG19, ob, decide_true, cond_true, cond_false]) rfl rfl (by simp only [hG19, ob, decide_true, cond_true, cond_false]) ?_
   refine al_run tt_ok rfl (by simp only [hG19, ob, decide_true, cond_true, cond_false]) ?_
   obtain ⟨o13, ho13, hk13⟩ := bd h
   refine ax_cutS (fun o13 : (List Int) × (Option Nat) => ⟨[(9, .a (.c (.sl 38)))], [(38, .row 5 (.int .u8) o13.1 o13.2)]⟩) (fun o' => o13 = o') ?_ ?_
   ·
    have h := ho13
    refine ax_block ?_
    refine ax_weak (Wk.pick [40, 9, 39] [38] rfl rfl) ?_
    refine ax_loopL (fun y : Nat × Int × (List Int) × (Option Nat) => [(40, .a (.c (.val (.int .i64 y.2.1))))]) (fun y : Nat × Int × (List Int) × (Option Nat) => [(38, .row 5 (.int .u8) y.2.2.1 y.2.2.2)]) (fun y : Nat × Int × (List Int) × (Option Nat) => m_chyarns_L14 o1 y.1 y.2.1 y.2.2.1 y.2.2.2 = some o13) (fun y : Nat × Int × (List Int) × (Option Nat) => y.1) (FUEL, (0 : Int), ([] : List Int), (some o1.1.toNat)) h ?_
    rintro ⟨n, v14_0, v14_1, v14_2⟩ h
    replace h : m_chyarns_L14 o1 n v14_0 v14_1 v14_2 = some o13 := h
    rcases n with _ | n
    · cases (show (none : Option _) = some _ from h)
    rw [m_chyarns_L14] at h
    try dsimp only
    refine ax_seq ?_
    refine ax_region ?_
    refine al_run tt_ok rfl rfl ?_
    refine ax_seq ?_
    refine ax_cond rfl rfl (fun hc => ?_) (fun hc => ?_)
    ·
     replace h := cond_t hc h
     refine ax_skip ?_
     refine ax_seq ?_
     refine ax_block ?_
     refine ax_seq ?_
     obtain ⟨hG18, h⟩ := gd_some h
     simp only [Bool.and_eq_true] at hG18
     obtain ⟨hG18_0, hG18_1⟩ := hG18
     refine ax_region ?_
     refine al_upN 1 tt_ok rfl (by simp only [hG18_0, hG18_1, ob, decide_true, cond_true, cond_false]) ?_
     refine al_idxA .bool 256 v14_0 tt_ok rfl ⟨rfl, rfl⟩ rfl rfl rfl rfl rfl rfl rfl rfl (by simp only [hG18_0, hG18_1, ob, decide_true, cond_true, cond_false]) rfl (by simp only [hG18_0, hG18_1, ob, decide_true, cond_true, cond_false]) rfl (by simp only [hG18_0, hG18_1, ob, decide_true, cond_true, cond_false]) (by simp only [hG18_0, hG18_1, ob, decide_true, cond_true, cond_false]) (by simp only [hG18_0, hG18_1, ob, decide_true, cond_true, cond_false]) rfl ?_
     refine al_run tt_ok rfl (by simp only [hG18_0, hG18_1, ob, decide_true, cond_true, cond_false]) ?_
     refine ax_seq ?_
     refine ax_region ?_
     refine al_run tt_ok rfl rfl ?_
     refine ax_cond rfl rfl (fun hc => ?_) (fun hc => ?_)
     ·
      replace h := cond_t hc h
      obtain ⟨hG16, h⟩ := gd_some h
      refine ax_region ?_
      refine al_run tt_ok rfl (by simp only [hG16, ob, decide_true, cond_true, cond_false]) ?_
      obtain ⟨hG15, h⟩ := gd_some h
      refine ax_region ?_
      refine al_run tt_ok rfl (by simp only [hG15, ob, decide_true, cond_true, cond_false]) ?_
      refine ⟨(n, _, _, _), h, Nat.lt_succ_self _, (Wk.pick [40, 9, 39] [38] rfl rfl)⟩
     ·
      replace h := cond_f hc h
      refine ax_skip ?_
      obtain ⟨hG17, h⟩ := gd_some h
      refine ax_region ?_
      refine al_run tt_ok rfl (by simp only [hG17, ob, decide_true, cond_true, cond_false]) ?_
      refine ⟨(n, _, _, _), h, Nat.lt_succ_self _, (Wk.pick [40, 9, 39] [38] rfl rfl)⟩
    ·
     replace h := cond_f hc h
     refine ax_exit ?_
     exact ⟨_, (Option.some.inj h).symm, (Wk.pick [9] [38] rfl rfl)⟩
   ·
    rintro _ rfl
    have h := hk13
    refine ax_seq ?_
    refine ax_region ?_
    refine al_run tt_ok rfl rfl ?_
    refine ax_ret ?_
    obtain rfl := Option.some.inj h
    refine ⟨_, (Wk.trans (Wk.frz (id := 38) rfl) (Wk.pick [2] [] rfl rfl)), _, _, rfl, rfl, ?_⟩
    exact ⟨rfl, rfl⟩
end Go.Proofs.YtihcolehefloeaaDoor

/- The charts of layer 13: models. -/
namespace Go.Proofs.YtihcolehefloeaaDoor
set_option linter.unusedSimpArgs false
set_option linter.unusedVariables false
open Go.RowKit
end Go.Proofs.YtihcolehefloeaaDoor

/- Cables, courses: models. -/
namespace Go.Proofs.YtihcolehefloeaaDoor
set_option linter.unusedSimpArgs false
set_option linter.unusedVariables false
open Go.RowKit
def m_cbsizes (a0 : Int) (a1 : Int) : Option (Int) :=
    gd ((!(!(cond (cond (cond (decide (a0 < (1 : Int))) true (decide (a1 < (1 : Int)))) true (decide ((4 : Int) < a0))) true (decide ((4 : Int) < a1)))) || (inI64 (a0 + a1)))) <|
    cond (cond (cond (cond (cond (decide (a0 < (1 : Int))) true (decide (a1 < (1 : Int)))) true (decide ((4 : Int) < a0))) true (decide ((4 : Int) < a1))) true (decide ((4 : Int) < (a0 + a1)))) (some (1 : Int)) (some (0 : Int))
set_option maxRecDepth 20000 in
set_option maxHeartbeats 4000000 in
theorem w_cbsizes (a0 : Int) (a1 : Int) (r : (Int)) (h : m_cbsizes a0 a1 = some r) : AC cx 32 [.c (.val (.int .i64 a0)), .c (.val (.int .i64 a1))] [] (fun sv h => sv = .a (.c (.val (.int .i64 r))) ∧ h = []) := by
  unfold m_cbsizes at h
  refine ac_body tt_ok Tryd.func32 rfl Tryd.ntmps32 rfl rfl (res := [.tmp 4]) rfl ?_
  refine ax_seq ?_
  refine ax_region ?_
  refine al_run tt_ok rfl rfl ?_
  refine ax_seq ?_
  refine ax_seq ?_
  obtain ⟨hG1, h⟩ := gd_some h
  refine ax_region ?_
  refine al_run tt_ok rfl (by revert hG1; generalize (decide (a0 < (1 : Int))) = b0; generalize (decide (a1 < (1 : Int))) = b1; generalize (decide ((4 : Int) < a0)) = b2; generalize (decide ((4 : Int) < a1)) = b3; generalize (inI64 (a0 + a1)) = b4; revert b0 b1 b2 b3 b4; decide) ?_
  refine ax_cond rfl rfl (fun hc => ?_) (fun hc => ?_)
  ·
   replace h := cond_t hc h
   refine ax_seq ?_
   refine ax_region ?_
   refine al_run tt_ok rfl rfl ?_
   refine ax_ret ?_
   obtain rfl := Option.some.inj h
   refine ⟨_, (Wk.pick [4] [] rfl rfl), _, _, rfl, rfl, ?_⟩
   exact ⟨rfl, rfl⟩
  ·
   replace h := cond_f hc h
   refine ax_skip ?_
   refine ax_seq ?_
   refine ax_region ?_
   refine al_run tt_ok rfl rfl ?_
   refine ax_ret ?_
   obtain rfl := Option.some.inj h
   refine ⟨_, (Wk.pick [4] [] rfl rfl), _, _, rfl, rfl, ?_⟩
   exact ⟨rfl, rfl⟩
def m_clone (a0 : (List Int)) : Option ((List Int)) :=
    gd ((decide (0 < a0.length))) <|
    cond false (none) (gd ((fitB 8 (([] : List Int).length + a0.length))) <|
    some (([] : List Int) ++ a0))
set_option maxRecDepth 20000 in
set_option maxHeartbeats 4000000 in
theorem w_clone (a0 : (List Int)) (c0 : Option Nat) (r : ((List Int))) (h : m_clone a0 = some r) : AC cx 58 [.c (.lst (.int .i64) a0 c0)] [] (fun sv h => sv = .a (.c (.sl 5)) ∧ h = [(5, .row 3 (.int .i64) r none)]) := by
  unfold m_clone at h
  refine ac_body tt_ok Tryd.func58 rfl Tryd.ntmps58 rfl rfl (res := [.tmp 2]) rfl ?_
  refine ax_seq ?_
  refine ax_region ?_
  refine al_run tt_ok rfl rfl ?_
  refine ax_weak (Wk.nil 2 2 3 (.int .i64) rfl rfl) ?_
  refine ax_seq ?_
  refine ax_seq ?_
  obtain ⟨hG2, h⟩ := gd_some h
  refine ax_region ?_
  refine al_run tt_ok rfl (by simp only [hG2, ob, decide_true, cond_true, cond_false]) ?_
  refine ax_cond rfl rfl (fun hc => ?_) (fun hc => ?_)
  ·
   replace h := cond_t hc h
   refine ax_seq ?_
   refine ax_region ?_
   refine al_run tt_ok rfl rfl ?_
   refine ax_weak (Wk.nil 2 2 3 (.int .i64) rfl rfl) ?_
   cases h
  ·
   replace h := cond_f hc h
   refine ax_skip ?_
   refine ax_seq ?_
   obtain ⟨hG1, h⟩ := gd_some h
   refine ax_region ?_
   refine al_run tt_ok rfl (by simp only [hG1, ob, decide_true, cond_true, cond_false]) ?_
   refine ax_ret ?_
   obtain rfl := Option.some.inj h
   refine ⟨_, (Wk.pick [2] [5] rfl rfl), _, _, rfl, rfl, ?_⟩
   exact ⟨rfl, rfl⟩
def m_lbk (a0 : Int) (a1 : Int) : Option (Int × Int) :=
    gd ((inI64 ((if a0 < a1 then a1 else a0) + (1 : Int)))) <|
    some ((if a0 < a1 then a1 else a0), ((if a0 < a1 then a1 else a0) + (1 : Int)))
set_option maxRecDepth 20000 in
set_option maxHeartbeats 4000000 in
theorem w_lbk (a0 : Int) (a1 : Int) (r : (Int × Int)) (h : m_lbk a0 a1 = some r) : AC cx 62 [.c (.val (.int .i64 a0)), .c (.ptr 1000000 0)] [(1000000, .cells 3 [.val (.int .i64 a1)])] (fun sv h => sv = .a (.c (.val (.int .i64 r.1))) ∧ h = [(1000000, .cells 3 [.val (.int .i64 r.2)])]) := by
  unfold m_lbk at h
  refine ac_body tt_ok Tryd.func62 rfl Tryd.ntmps62 rfl rfl (res := [.tmp 3]) rfl ?_
  refine ax_seq ?_
  refine ax_region ?_
  refine al_run tt_ok rfl rfl ?_
  refine ax_seq ?_
  refine ax_region ?_
  refine al_run tt_ok rfl rfl ?_
  refine ax_seq ?_
  obtain ⟨hG1, h⟩ := gd_some h
  refine ax_region ?_
  refine al_run tt_ok rfl (by simp only [hG1, ob, decide_true, cond_true, cond_false]) ?_
  refine ax_seq ?_
  refine ax_region ?_
  refine al_run tt_ok rfl rfl ?_
  refine ax_ret ?_
  obtain rfl := Option.some.inj h
  refine ⟨_, (Wk.pick [3] [1000000] rfl rfl), _, _, rfl, rfl, ?_⟩
  exact ⟨rfl, rfl⟩
def m_lfk (a0 : Int) (a1 : Int) : Option (Int × Int) :=
    gd ((inI64 ((if a1 < a0 then a1 else a0) - (1 : Int)))) <|
    some ((if a1 < a0 then a1 else a0), ((if a1 < a0 then a1 else a0) - (1 : Int)))
set_option maxRecDepth 20000 in
set_option maxHeartbeats 4000000 in
theorem w_lfk (a0 : Int) (a1 : Int) (r : (Int × Int)) (h : m_lfk a0 a1 = some r) : AC cx 63 [.c (.val (.int .i64 a0)), .c (.ptr 1000000 0)] [(1000000, .cells 3 [.val (.int .i64 a1)])] (fun sv h => sv = .a (.c (.val (.int .i64 r.1))) ∧ h = [(1000000, .cells 3 [.val (.int .i64 r.2)])]) := by
  unfold m_lfk at h
  refine ac_body tt_ok Tryd.func63 rfl Tryd.ntmps63 rfl rfl (res := [.tmp 3]) rfl ?_
  refine ax_seq ?_
  refine ax_region ?_
  refine al_run tt_ok rfl rfl ?_
  refine ax_seq ?_
  refine ax_region ?_
  refine al_run tt_ok rfl rfl ?_
  refine ax_seq ?_
  obtain ⟨hG1, h⟩ := gd_some h
  refine ax_region ?_
  refine al_run tt_ok rfl (by simp only [hG1, ob, decide_true, cond_true, cond_false]) ?_
  refine ax_seq ?_
  refine ax_region ?_
  refine al_run tt_ok rfl rfl ?_
  refine ax_ret ?_
  obtain rfl := Option.some.inj h
  refine ⟨_, (Wk.pick [3] [1000000] rfl rfl), _, _, rfl, rfl, ?_⟩
  exact ⟨rfl, rfl⟩
def m_xput (a0 : Int) (a1 : List OpT) (a2 : (List OpT)) : Option ((List OpT)) :=
    gd ((fitB 40 (a1.length + a2.length))) <|
    some (a1 ++ a2)
set_option maxRecDepth 20000 in
set_option maxHeartbeats 4000000 in
theorem w_xput (a0 : Int) (a1 : List OpT) (a2 : (List OpT)) (c0 c1 : Option Nat) (r : ((List OpT))) (h : m_xput a0 a1 a2 = some r) : AC cx 61 [.c (.ptr 1000000 0), .c (.lst gOp a2 c1)] [(1000000, .cells 79 [.sl 1000001, .val (.int .i64 a0)]), (1000001, .row 45 gOp a1 c0)] (fun sv h => sv = .tup [] ∧ h = [(1000000, .cells 79 [.sl 1000001, .val (.int .i64 a0)]), (1000001, .row 45 gOp r none)]) := by
  unfold m_xput at h
  refine ac_body tt_ok Tryd.func61 rfl Tryd.ntmps61 rfl rfl (res := []) rfl ?_
  refine ax_weak (Wk.rowcap 1000001 rfl) ?_
  obtain ⟨hG1, h⟩ := gd_some h
  refine ax_region ?_
  refine al_run tt_ok rfl (by simp only [hG1, ob, decide_true, cond_true, cond_false]) ?_
  obtain rfl := Option.some.inj h
  refine ⟨_, (Wk.pick [] [1000000, 1000001] rfl rfl), _, _, rfl, rfl, ?_⟩
  exact ⟨rfl, rfl⟩
def m_front_L2 (a0 : (List (Int × Int))) : Nat → Int → Option ((Unit) ⊕ ((List OpT) × Int))
  | 0, _ => none
  | n + 1, v2_0 =>
    cond (decide (v2_0 < (a0.length : Int))) (gd ((inB v2_0 a0.length)) <|
    gd ((!((!(cond (cond (decide ((1 : Int) < (a0.getD v2_0.toNat gNd.zero).1)) true (decide ((a0.getD v2_0.toNat gNd.zero).2 < (1 : Int)))) true (decide ((40 : Int) < (a0.getD v2_0.toNat gNd.zero).2)))) && (decide ((0 : Int) < v2_0))) || (inI64 (v2_0 - (1 : Int)))) && (!((!(cond (cond (decide ((1 : Int) < (a0.getD v2_0.toNat gNd.zero).1)) true (decide ((a0.getD v2_0.toNat gNd.zero).2 < (1 : Int)))) true (decide ((40 : Int) < (a0.getD v2_0.toNat gNd.zero).2)))) && (decide ((0 : Int) < v2_0))) || (inB (v2_0 - (1 : Int)) a0.length))) <|
    cond (cond (cond (cond (decide ((1 : Int) < (a0.getD v2_0.toNat gNd.zero).1)) true (decide ((a0.getD v2_0.toNat gNd.zero).2 < (1 : Int)))) true (decide ((40 : Int) < (a0.getD v2_0.toNat gNd.zero).2))) true (cond (decide ((0 : Int) < v2_0)) (decide ((a0.getD v2_0.toNat gNd.zero).2 ≤ (a0.getD (v2_0 - (1 : Int)).toNat gNd.zero).2)) false)) (some (.inr (([] : List OpT), (1 : Int)))) (gd ((inI64 (v2_0 + (1 : Int)))) <|
    m_front_L2 a0 n (v2_0 + (1 : Int)))) (some (.inl ()))
def m_front_L9 (a0 : (List (Int × Int))) : Nat → Int → (List OpT) → Option ((List OpT))
  | 0, _, _ => none
  | n + 1, v9_0, v9_1 =>
    cond (decide (v9_0 < (a0.length : Int))) (gd ((inB v9_0 a0.length)) <|
    cond (decide ((a0.getD v9_0.toNat gNd.zero).1 = (1 : Int))) (Option.bind (m_xput (0 : Int) v9_1 [((7 : Int), ((0 : Int), ((a0.getD v9_0.toNat gNd.zero), ((0 : Int), (0 : Int)))))]) fun r10 =>
    gd ((inI64 (v9_0 + (1 : Int)))) <|
    m_front_L9 a0 n (v9_0 + (1 : Int)) r10) (gd ((inI64 (v9_0 + (1 : Int)))) <|
    m_front_L9 a0 n (v9_0 + (1 : Int)) v9_1)) (some v9_1)
def m_front (a0 : (List (Int × Int))) : Option ((List OpT) × Int) :=
    Option.bind (m_front_L2 a0 FUEL (0 : Int)) fun o1 =>
    sm o1 (fun o1 =>
    Option.bind (m_front_L9 a0 FUEL (0 : Int) ([] : List OpT)) fun o8 =>
    Option.bind (m_clip o8) fun r14 =>
    some (r14, (0 : Int))) (fun q => some q)
set_option maxRecDepth 20000 in
set_option maxHeartbeats 4000000 in
theorem w_front (a0 : (List (Int × Int))) (c0 : Option Nat) (r : ((List OpT) × Int)) (h : m_front a0 = some r) : AC cx 46 [.c (.lst gNd a0 c0)] [] (fun sv h => sv = .tup [.c (.lst gOp r.1 (some r.1.length)), .c (.val (.int .i64 r.2))] ∧ h = []) := by
  unfold m_front at h
  refine ac_body tt_ok Tryd.func46 rfl Tryd.ntmps46 rfl rfl (res := [.tmp 2, .tmp 3]) rfl ?_
  refine ax_seq ?_
  refine ax_region ?_
  refine al_run tt_ok rfl rfl ?_
  refine ax_seq ?_
  refine ax_seq ?_
  refine ax_region ?_
  refine al_run tt_ok rfl rfl ?_
  obtain ⟨o1, ho1, hk1⟩ := bd h
  refine ax_cutS (fun o1 : Unit => ⟨[(0, .a (.c (.lst gNd a0 c0)))], []⟩) (fun o' => Sum.inl o' = o1) ?_ ?_
  ·
   have h := ho1
   refine ax_block ?_
   refine ax_weak (Wk.pick [11, 0, 9, 10] [] rfl rfl) ?_
   refine ax_loopL (fun y : Nat × Int => [(11, .a (.c (.val (.int .i64 y.2))))]) (fun y : Nat × Int => []) (fun y : Nat × Int => m_front_L2 a0 y.1 y.2 = some o1) (fun y : Nat × Int => y.1) (FUEL, (0 : Int)) h ?_
   rintro ⟨n, v2_0⟩ h
   replace h : m_front_L2 a0 n v2_0 = some o1 := h
   rcases n with _ | n
   · cases (show (none : Option _) = some _ from h)
   rw [m_front_L2] at h
   try dsimp only
   refine ax_seq ?_
   refine ax_region ?_
   refine al_run tt_ok rfl rfl ?_
   refine ax_seq ?_
   refine ax_cond rfl rfl (fun hc => ?_) (fun hc => ?_)
   ·
    replace h := cond_t hc h
    refine ax_skip ?_
    refine ax_seq ?_
    refine ax_block ?_
    refine ax_seq ?_
    obtain ⟨hG5, h⟩ := gd_some h
    refine ax_region ?_
    refine al_run tt_ok rfl (by simp only [hG5, ob, decide_true, cond_true, cond_false]) ?_
    refine ax_weak (Wk.frzC 5 gNd rfl rfl rfl) ?_
    refine ax_seq ?_
    obtain ⟨hG4, h⟩ := gd_some h
    simp only [Bool.and_eq_true] at hG4
    obtain ⟨hG4_0, hG4_1⟩ := hG4
    refine ax_draw [] (by kernel_rfl) rfl (N := 28) ?_
    refine ad_run (fuel := 0) (ds' := ⟨#[true, true, true, true, true, true, true, true, true, true, true, true, true, true, true, true, true, true, true, true, true, true, true, true, true, true, true, true], true, true, true⟩) tt_ok [(0, 0), (1, 1), (2, 0), (3, 0), (4, 0), (5, 1), (6, 0), (7, 0), (8, 0), (9, 0), (10, 1), (11, 0), (12, 0), (13, 0), (14, 0), (15, 0), (16, 0), (17, 0), (18, 0), (19, 0), (20, 0), (21, 0), (22, 1), (23, 0), (24, 1), (25, 0), (26, 0), (27, 0)] (by kernel_rfl) rfl (by revert hG4_0 hG4_1; generalize (decide ((40 : Int) < (a0.getD v2_0.toNat gNd.zero).2)) = b0; generalize (decide ((1 : Int) < (a0.getD v2_0.toNat gNd.zero).1)) = b1; generalize (decide ((a0.getD v2_0.toNat gNd.zero).2 < (1 : Int))) = b2; generalize (inB (v2_0 - (1 : Int)) a0.length) = b3; generalize (decide ((0 : Int) < v2_0)) = b4; generalize (inI64 (v2_0 - (1 : Int))) = b5; cases b0 <;> cases b1 <;> cases b2 <;> cases b3 <;> cases b4 <;> cases b5 <;> decide) ?_
    refine ad_done (by kernel_rfl) ?_
    refine ax_cond rfl rfl (fun hc => ?_) (fun hc => ?_)
    ·
     replace h := cond_t hc h
     refine ax_seq ?_
     refine ax_region ?_
     refine al_run tt_ok rfl rfl ?_
     refine ax_ret ?_
     obtain rfl := Option.some.inj h
     have h := hk1
     dsimp only [sm] at h
     obtain rfl := Option.some.inj h
     refine ⟨_, (Wk.trans (Wk.lst0 2 gOp rfl) (Wk.pick [2, 3] [] rfl rfl)), _, _, rfl, rfl, ?_⟩
     exact ⟨rfl, rfl⟩
    ·
     replace h := cond_f hc h
     refine ax_skip ?_
     obtain ⟨hG3, h⟩ := gd_some h
     refine ax_region ?_
     refine al_run tt_ok rfl (by simp only [hG3, ob, decide_true, cond_true, cond_false]) ?_
     refine ⟨(n, _), h, Nat.lt_succ_self _, (Wk.pick [11, 0, 9, 10] [] rfl rfl)⟩
   ·
    replace h := cond_f hc h
    refine ax_exit ?_
    exact ⟨_, Option.some.inj h, (Wk.pick [0] [] rfl rfl)⟩
  ·
   rintro o1 rfl
   have h := hk1
   dsimp only [sm] at h
   refine ax_seq ?_
   refine ax_region ?_
   refine al_run tt_ok rfl rfl ?_
   refine ax_seq ?_
   refine ax_seq ?_
   refine ax_region ?_
   refine al_run tt_ok rfl rfl ?_
   refine ax_weak (Wk.nilC 6 0 13 45 gOp rfl) ?_
   obtain ⟨o8, ho8, hk8⟩ := bd h
   refine ax_cutS (fun o8 : (List OpT) => ⟨[(6, .a (.c (.ptr 6 0)))], [(6, .cells 79 [.sl 13, .val (.int .i64 (0 : Int))]), (13, .row 45 gOp o8 none)]⟩) (fun o' => o8 = o') ?_ ?_
   ·
    have h := ho8
    refine ax_block ?_
    refine ax_weak (Wk.pick [47, 6, 45, 46] [13, 6] rfl rfl) ?_
    refine ax_loopL (fun y : Nat × Int × (List OpT) => [(47, .a (.c (.val (.int .i64 y.2.1))))]) (fun y : Nat × Int × (List OpT) => [(13, .row 45 gOp y.2.2 none)]) (fun y : Nat × Int × (List OpT) => m_front_L9 a0 y.1 y.2.1 y.2.2 = some o8) (fun y : Nat × Int × (List OpT) => y.1) (FUEL, (0 : Int), ([] : List OpT)) h ?_
    rintro ⟨n, v9_0, v9_1⟩ h
    replace h : m_front_L9 a0 n v9_0 v9_1 = some o8 := h
    rcases n with _ | n
    · cases (show (none : Option _) = some _ from h)
    rw [m_front_L9] at h
    try dsimp only
    refine ax_seq ?_
    refine ax_region ?_
    refine al_run tt_ok rfl rfl ?_
    refine ax_seq ?_
    refine ax_cond rfl rfl (fun hc => ?_) (fun hc => ?_)
    ·
     replace h := cond_t hc h
     refine ax_skip ?_
     refine ax_seq ?_
     refine ax_block ?_
     refine ax_seq ?_
     obtain ⟨hG13, h⟩ := gd_some h
     refine ax_region ?_
     refine al_run tt_ok rfl (by simp only [hG13, ob, decide_true, cond_true, cond_false]) ?_
     refine ax_weak (Wk.frzC 8 gNd rfl rfl rfl) ?_
     refine ax_seq ?_
     refine ax_region ?_
     refine al_run tt_ok rfl rfl ?_
     refine ax_cond rfl rfl (fun hc => ?_) (fun hc => ?_)
     ·
      replace h := cond_t hc h
      obtain ⟨r10, hr10, h⟩ := bd h
      refine ax_region ?_
      refine al_upto tt_ok rfl rfl ?_
      refine al_weak (Wk.frz (id := 56) rfl) ?_
      refine al_call [(1000000, 6), (1000001, 13)] (w_xput _ _ _ none (some 1) r10 hr10) rfl ⟨rfl, rfl⟩ rfl Tryd.func61 rfl rfl rfl rfl rfl rfl (PassH.cons rfl rfl rfl (PassH.cons rfl rfl rfl PassH.nil)) ?_
      rintro _ _ ⟨rfl, rfl⟩
      refine ⟨_, _, rfl, rfl, ?_⟩
      refine al_run tt_ok rfl rfl ?_
      obtain ⟨hG11, h⟩ := gd_some h
      refine ax_region ?_
      refine al_run tt_ok rfl (by simp only [hG11, ob, decide_true, cond_true, cond_false]) ?_
      refine ⟨(n, _, _), h, Nat.lt_succ_self _, (Wk.pick [47, 6, 45, 46] [13, 6] rfl rfl)⟩
     ·
      replace h := cond_f hc h
      refine ax_skip ?_
      obtain ⟨hG12, h⟩ := gd_some h
      refine ax_region ?_
      refine al_run tt_ok rfl (by simp only [hG12, ob, decide_true, cond_true, cond_false]) ?_
      refine ⟨(n, _, _), h, Nat.lt_succ_self _, (Wk.pick [47, 6, 45, 46] [13, 6] rfl rfl)⟩
    ·
     replace h := cond_f hc h
     refine ax_exit ?_
     exact ⟨_, (Option.some.inj h).symm, (Wk.pick [6] [6, 13] rfl rfl)⟩
   ·
    rintro _ rfl
    have h := hk8
    refine ax_seq ?_
    obtain ⟨r14, hr14, h⟩ := bd h
    refine ax_region ?_
    refine al_upto tt_ok rfl rfl ?_
    refine al_weak (Wk.frz (id := 13) rfl) ?_
    refine al_callP (w_clip _ none r14 hr14) rfl ⟨rfl, rfl⟩ rfl Tryd.func31 rfl rfl rfl rfl rfl rfl ?_
    refine al_run tt_ok rfl rfl ?_
    refine ax_ret ?_
    obtain rfl := Option.some.inj h
    refine ⟨_, (Wk.pick [2, 3] [] rfl rfl), _, _, rfl, rfl, ?_⟩
    exact ⟨rfl, rfl⟩
def m_cocheck_L2 (a0 : ((List (Int × Int)) × (Int × (Int × (Int × (Int × (Int × Int))))))) : Nat → Int → Option ((Unit) ⊕ (Int))
  | 0, _ => none
  | n + 1, v2_0 =>
    cond (decide (v2_0 < (a0.1.length : Int))) (gd ((inB v2_0 a0.1.length)) <|
    gd ((!((!(cond (cond (decide ((1 : Int) < (a0.1.getD v2_0.toNat gNd.zero).1)) true (decide ((a0.1.getD v2_0.toNat gNd.zero).2 < (13 : Int)))) true (decide ((29 : Int) ≤ (a0.1.getD v2_0.toNat gNd.zero).2)))) && (decide ((0 : Int) < v2_0))) || (inI64 (v2_0 - (1 : Int)))) && (!((!(cond (cond (decide ((1 : Int) < (a0.1.getD v2_0.toNat gNd.zero).1)) true (decide ((a0.1.getD v2_0.toNat gNd.zero).2 < (13 : Int)))) true (decide ((29 : Int) ≤ (a0.1.getD v2_0.toNat gNd.zero).2)))) && (decide ((0 : Int) < v2_0))) || (inB (v2_0 - (1 : Int)) a0.1.length))) <|
    cond (cond (cond (cond (decide ((1 : Int) < (a0.1.getD v2_0.toNat gNd.zero).1)) true (decide ((a0.1.getD v2_0.toNat gNd.zero).2 < (13 : Int)))) true (decide ((29 : Int) ≤ (a0.1.getD v2_0.toNat gNd.zero).2))) true (cond (decide ((0 : Int) < v2_0)) (decide ((a0.1.getD v2_0.toNat gNd.zero).2 ≤ (a0.1.getD (v2_0 - (1 : Int)).toNat gNd.zero).2)) false)) (some (.inr (1 : Int))) (gd ((inI64 (v2_0 + (1 : Int)))) <|
    m_cocheck_L2 a0 n (v2_0 + (1 : Int)))) (some (.inl ()))
def m_cocheck_L7 (a0 : ((List (Int × Int)) × (Int × (Int × (Int × (Int × (Int × Int))))))) : Nat → Int → Option ((Unit) ⊕ (Int))
  | 0, _ => none
  | n + 1, v7_0 =>
    cond (decide (v7_0 < (6 : Int))) (gd ((inB v7_0 ([a0.2.1, a0.2.2.1, a0.2.2.2.1, a0.2.2.2.2.1, a0.2.2.2.2.2.1, a0.2.2.2.2.2.2] : List Int).length) && (inB v7_0 6)) <|
    cond (decide ((2 : Int) < (([a0.2.1, a0.2.2.1, a0.2.2.2.1, a0.2.2.2.2.1, a0.2.2.2.2.2.1, a0.2.2.2.2.2.2] : List Int).getD v7_0.toNat 0))) (some (.inr (1 : Int))) (gd ((inI64 (v7_0 + (1 : Int)))) <|
    m_cocheck_L7 a0 n (v7_0 + (1 : Int)))) (some (.inl ()))
def m_cocheck (a0 : ((List (Int × Int)) × (Int × (Int × (Int × (Int × (Int × Int))))))) : Option (Int) :=
    cond (cond (decide ((a0.1.length : Int) < (1 : Int))) true (decide ((16 : Int) < (a0.1.length : Int)))) (some (1 : Int)) (Option.bind (m_cocheck_L2 a0 FUEL (0 : Int)) fun o1 =>
    sm o1 (fun o1 =>
    Option.bind (m_cocheck_L7 a0 FUEL (0 : Int)) fun o6 =>
    sm o6 (fun o6 =>
    some (0 : Int)) (fun q => some q)) (fun q => some q))
set_option maxRecDepth 20000 in
set_option maxHeartbeats 4000000 in
theorem w_cocheck (a0 : ((List (Int × Int)) × (Int × (Int × (Int × (Int × (Int × Int))))))) (c0 : Option Nat) (r : (Int)) (h : m_cocheck a0 = some r) : AC cx 15 [.agg [.lst gNd a0.1 c0, .val (.int .u8 a0.2.1), .val (.int .u8 a0.2.2.1), .val (.int .u8 a0.2.2.2.1), .val (.int .u8 a0.2.2.2.2.1), .val (.int .u8 a0.2.2.2.2.2.1), .val (.int .u8 a0.2.2.2.2.2.2)]] [] (fun sv h => sv = .a (.c (.val (.int .i64 r))) ∧ h = []) := by
  unfold m_cocheck at h
  refine ac_body tt_ok Tryd.func15 rfl Tryd.ntmps15 rfl rfl (res := [.tmp 2]) rfl ?_
  refine ax_seq ?_
  refine ax_region ?_
  refine al_run tt_ok rfl rfl ?_
  refine ax_weak (Wk.frzC 1 (.pair (.sl gNd) (.pair (.int .u8) (.pair (.int .u8) (.pair (.int .u8) g3)))) rfl rfl rfl) ?_
  refine ax_seq ?_
  refine ax_seq ?_
  refine ax_region ?_
  refine al_run tt_ok rfl (by generalize (decide ((a0.1.length : Int) < (1 : Int))) = b0; revert b0; decide) ?_
  refine ax_cond rfl rfl (fun hc => ?_) (fun hc => ?_)
  ·
   replace h := cond_t hc h
   refine ax_seq ?_
   refine ax_region ?_
   refine al_run tt_ok rfl rfl ?_
   refine ax_ret ?_
   obtain rfl := Option.some.inj h
   refine ⟨_, (Wk.pick [2] [] rfl rfl), _, _, rfl, rfl, ?_⟩
   exact ⟨rfl, rfl⟩
  ·
   replace h := cond_f hc h
   refine ax_skip ?_
   refine ax_seq ?_
   refine ax_seq ?_
   refine ax_region ?_
   refine al_run tt_ok rfl rfl ?_
   obtain ⟨o1, ho1, hk1⟩ := bd h
   refine ax_cutS (fun o1 : Unit => ⟨[(1, .a (.c (.pel (.pair (.sl gNd) (.pair (.int .u8) (.pair (.int .u8) (.pair (.int .u8) g3)))) a0 0)))], []⟩) (fun o' => Sum.inl o' = o1) ?_ ?_
   ·
    have h := ho1
    refine ax_block ?_
    refine ax_weak (Wk.pick [20, 1, 18, 19] [] rfl rfl) ?_
    refine ax_loopL (fun y : Nat × Int => [(20, .a (.c (.val (.int .i64 y.2))))]) (fun y : Nat × Int => []) (fun y : Nat × Int => m_cocheck_L2 a0 y.1 y.2 = some o1) (fun y : Nat × Int => y.1) (FUEL, (0 : Int)) h ?_
    rintro ⟨n, v2_0⟩ h
    replace h : m_cocheck_L2 a0 n v2_0 = some o1 := h
    rcases n with _ | n
    · cases (show (none : Option _) = some _ from h)
    rw [m_cocheck_L2] at h
    try dsimp only
    refine ax_seq ?_
    refine ax_region ?_
    refine al_run tt_ok rfl rfl ?_
    refine ax_seq ?_
    refine ax_cond rfl rfl (fun hc => ?_) (fun hc => ?_)
    ·
     replace h := cond_t hc h
     refine ax_skip ?_
     refine ax_seq ?_
     refine ax_block ?_
     refine ax_seq ?_
     obtain ⟨hG5, h⟩ := gd_some h
     refine ax_region ?_
     refine al_run tt_ok rfl (by simp only [hG5, ob, decide_true, cond_true, cond_false]) ?_
     refine ax_weak (Wk.frzC 4 gNd rfl rfl rfl) ?_
     refine ax_seq ?_
     obtain ⟨hG4, h⟩ := gd_some h
     simp only [Bool.and_eq_true] at hG4
     obtain ⟨hG4_0, hG4_1⟩ := hG4
     refine ax_draw [] (by kernel_rfl) rfl (N := 29) ?_
     refine ad_run (fuel := 0) (ds' := ⟨#[true, true, true, true, true, true, true, true, true, true, true, true, true, true, true, true, true, true, true, true, true, true, true, true, true, true, true, true, true], true, true, true⟩) tt_ok [(0, 0), (1, 1), (2, 0), (3, 0), (4, 0), (5, 1), (6, 0), (7, 0), (8, 0), (9, 0), (10, 1), (11, 0), (12, 0), (13, 0), (14, 0), (15, 0), (16, 0), (17, 0), (18, 1), (19, 0), (20, 0), (21, 0), (22, 0), (23, 1), (24, 0), (25, 1), (26, 0), (27, 0), (28, 0)] (by kernel_rfl) rfl (by revert hG4_0 hG4_1; generalize (decide ((a0.1.getD v2_0.toNat gNd.zero).2 < (13 : Int))) = b0; generalize (decide ((29 : Int) ≤ (a0.1.getD v2_0.toNat gNd.zero).2)) = b1; generalize (decide ((1 : Int) < (a0.1.getD v2_0.toNat gNd.zero).1)) = b2; generalize (inB (v2_0 - (1 : Int)) a0.1.length) = b3; generalize (decide ((0 : Int) < v2_0)) = b4; generalize (inI64 (v2_0 - (1 : Int))) = b5; cases b0 <;> cases b1 <;> cases b2 <;> cases b3 <;> cases b4 <;> cases b5 <;> decide) ?_
     refine ad_done (by kernel_rfl) ?_
     refine ax_cond rfl rfl (fun hc => ?_) (fun hc => ?_)
     ·
      replace h := cond_t hc h
      refine ax_seq ?_
      refine ax_region ?_
      refine al_run tt_ok rfl rfl ?_
      refine ax_ret ?_
      obtain rfl := Option.some.inj h
      have h := hk1
      dsimp only [sm] at h
      obtain rfl := Option.some.inj h
      refine ⟨_, (Wk.pick [2] [] rfl rfl), _, _, rfl, rfl, ?_⟩
      exact ⟨rfl, rfl⟩
     ·
      replace h := cond_f hc h
      refine ax_skip ?_
      obtain ⟨hG3, h⟩ := gd_some h
      refine ax_region ?_
      refine al_run tt_ok rfl (by simp only [hG3, ob, decide_true, cond_true, cond_false]) ?_
      refine ⟨(n, _), h, Nat.lt_succ_self _, (Wk.pick [20, 1, 18, 19] [] rfl rfl)⟩
    ·
     replace h := cond_f hc h
     refine ax_exit ?_
     exact ⟨_, Option.some.inj h, (Wk.pick [1] [] rfl rfl)⟩
   ·
    rintro o1 rfl
    have h := hk1
    dsimp only [sm] at h
    refine ax_seq ?_
    refine ax_seq ?_
    refine ax_region ?_
    refine al_run tt_ok rfl rfl ?_
    obtain ⟨o6, ho6, hk6⟩ := bd h
    refine ax_cutS (fun o6 : Unit => ⟨[], []⟩) (fun o' => Sum.inl o' = o6) ?_ ?_
    ·
     have h := ho6
     refine ax_block ?_
     refine ax_weak (Wk.pick [57, 56] [] rfl rfl) ?_
     refine ax_loopL (fun y : Nat × Int => [(57, .a (.c (.val (.int .i64 y.2))))]) (fun y : Nat × Int => []) (fun y : Nat × Int => m_cocheck_L7 a0 y.1 y.2 = some o6) (fun y : Nat × Int => y.1) (FUEL, (0 : Int)) h ?_
     rintro ⟨n, v7_0⟩ h
     replace h : m_cocheck_L7 a0 n v7_0 = some o6 := h
     rcases n with _ | n
     · cases (show (none : Option _) = some _ from h)
     rw [m_cocheck_L7] at h
     try dsimp only
     refine ax_seq ?_
     refine ax_region ?_
     refine al_run tt_ok rfl rfl ?_
     refine ax_seq ?_
     refine ax_cond rfl rfl (fun hc => ?_) (fun hc => ?_)
     ·
      replace h := cond_t hc h
      refine ax_skip ?_
      refine ax_seq ?_
      refine ax_block ?_
      refine ax_seq ?_
      obtain ⟨hG9, h⟩ := gd_some h
      simp only [Bool.and_eq_true] at hG9
      obtain ⟨hG9_0, hG9_1⟩ := hG9
      refine ax_region ?_
      refine al_idxA (.int .u8) 6 v7_0 tt_ok rfl ⟨rfl, rfl⟩ rfl rfl rfl rfl rfl rfl rfl rfl (by simp only [hG9_0, hG9_1, ob, decide_true, cond_true, cond_false]) rfl (by simp only [hG9_0, hG9_1, ob, decide_true, cond_true, cond_false]) rfl (by simp only [hG9_0, hG9_1, ob, decide_true, cond_true, cond_false]) (by simp only [hG9_0, hG9_1, ob, decide_true, cond_true, cond_false]) (by simp only [hG9_0, hG9_1, ob, decide_true, cond_true, cond_false]) rfl ?_
      refine al_run tt_ok rfl (by simp only [hG9_0, hG9_1, ob, decide_true, cond_true, cond_false]) ?_
      refine ax_seq ?_
      refine ax_region ?_
      refine al_run tt_ok rfl rfl ?_
      refine ax_cond rfl rfl (fun hc => ?_) (fun hc => ?_)
      ·
       replace h := cond_t hc h
       refine ax_seq ?_
       refine ax_region ?_
       refine al_run tt_ok rfl rfl ?_
       refine ax_ret ?_
       obtain rfl := Option.some.inj h
       have h := hk6
       dsimp only [sm] at h
       obtain rfl := Option.some.inj h
       refine ⟨_, (Wk.pick [2] [] rfl rfl), _, _, rfl, rfl, ?_⟩
       exact ⟨rfl, rfl⟩
      ·
       replace h := cond_f hc h
       refine ax_skip ?_
       obtain ⟨hG8, h⟩ := gd_some h
       refine ax_region ?_
       refine al_run tt_ok rfl (by simp only [hG8, ob, decide_true, cond_true, cond_false]) ?_
       refine ⟨(n, _), h, Nat.lt_succ_self _, (Wk.pick [57, 56] [] rfl rfl)⟩
     ·
      replace h := cond_f hc h
      refine ax_exit ?_
      exact ⟨_, Option.some.inj h, (Wk.pick [] [] rfl rfl)⟩
    ·
     rintro o6 rfl
     have h := hk6
     dsimp only [sm] at h
     refine ax_seq ?_
     refine ax_region ?_
     refine al_run tt_ok rfl rfl ?_
     refine ax_ret ?_
     obtain rfl := Option.some.inj h
     refine ⟨_, (Wk.pick [2] [] rfl rfl), _, _, rfl, rfl, ?_⟩
     exact ⟨rfl, rfl⟩
def m_index_L2 (a0 : (List Int)) (a1 : Int) : Nat → Int → Option ((Unit) ⊕ (Int))
  | 0, _ => none
  | n + 1, v2_0 =>
    cond (decide (v2_0 < (a0.length : Int))) (gd ((inB v2_0 a0.length)) <|
    cond (decide (a1 = (a0.getD v2_0.toNat 0))) (some (.inr v2_0)) (gd ((inI64 (v2_0 + (1 : Int)))) <|
    m_index_L2 a0 a1 n (v2_0 + (1 : Int)))) (some (.inl ()))
def m_index (a0 : (List Int)) (a1 : Int) : Option (Int) :=
    Option.bind (m_index_L2 a0 a1 FUEL (0 : Int)) fun o1 =>
    sm o1 (fun o1 =>
    some (-1 : Int)) (fun q => some q)
set_option maxRecDepth 20000 in
set_option maxHeartbeats 4000000 in
theorem w_index (a0 : (List Int)) (a1 : Int) (c0 : Option Nat) (r : (Int)) (h : m_index a0 a1 = some r) : AC cx 48 [.c (.lst (.int .i64) a0 c0), .c (.val (.int .i64 a1))] [] (fun sv h => sv = .a (.c (.val (.int .i64 r))) ∧ h = []) := by
  unfold m_index at h
  refine ac_body tt_ok Tryd.func48 rfl Tryd.ntmps48 rfl rfl (res := [.tmp 4]) rfl ?_
  refine ax_seq ?_
  refine ax_region ?_
  refine al_run tt_ok rfl rfl ?_
  refine ax_seq ?_
  refine ax_seq ?_
  refine ax_region ?_
  refine al_run tt_ok rfl rfl ?_
  obtain ⟨o1, ho1, hk1⟩ := bd h
  refine ax_cutS (fun o1 : Unit => ⟨[], []⟩) (fun o' => Sum.inl o' = o1) ?_ ?_
  ·
   have h := ho1
   refine ax_block ?_
   refine ax_weak (Wk.pick [8, 0, 1, 7] [] rfl rfl) ?_
   refine ax_loopL (fun y : Nat × Int => [(8, .a (.c (.val (.int .i64 y.2))))]) (fun y : Nat × Int => []) (fun y : Nat × Int => m_index_L2 a0 a1 y.1 y.2 = some o1) (fun y : Nat × Int => y.1) (FUEL, (0 : Int)) h ?_
   rintro ⟨n, v2_0⟩ h
   replace h : m_index_L2 a0 a1 n v2_0 = some o1 := h
   rcases n with _ | n
   · cases (show (none : Option _) = some _ from h)
   rw [m_index_L2] at h
   try dsimp only
   refine ax_seq ?_
   refine ax_region ?_
   refine al_run tt_ok rfl rfl ?_
   refine ax_seq ?_
   refine ax_cond rfl rfl (fun hc => ?_) (fun hc => ?_)
   ·
    replace h := cond_t hc h
    refine ax_skip ?_
    refine ax_seq ?_
    refine ax_block ?_
    refine ax_seq ?_
    refine ax_region ?_
    refine al_run tt_ok rfl rfl ?_
    refine ax_seq ?_
    obtain ⟨hG4, h⟩ := gd_some h
    refine ax_region ?_
    refine al_run tt_ok rfl (by simp only [hG4, ob, decide_true, cond_true, cond_false]) ?_
    refine ax_cond rfl rfl (fun hc => ?_) (fun hc => ?_)
    ·
     replace h := cond_t hc h
     refine ax_seq ?_
     refine ax_region ?_
     refine al_run tt_ok rfl rfl ?_
     refine ax_ret ?_
     obtain rfl := Option.some.inj h
     have h := hk1
     dsimp only [sm] at h
     obtain rfl := Option.some.inj h
     refine ⟨_, (Wk.pick [4] [] rfl rfl), _, _, rfl, rfl, ?_⟩
     exact ⟨rfl, rfl⟩
    ·
     replace h := cond_f hc h
     refine ax_skip ?_
     obtain ⟨hG3, h⟩ := gd_some h
     refine ax_region ?_
     refine al_run tt_ok rfl (by simp only [hG3, ob, decide_true, cond_true, cond_false]) ?_
     refine ⟨(n, _), h, Nat.lt_succ_self _, (Wk.pick [8, 0, 1, 7] [] rfl rfl)⟩
   ·
    replace h := cond_f hc h
    refine ax_exit ?_
    exact ⟨_, Option.some.inj h, (Wk.pick [] [] rfl rfl)⟩
  ·
   rintro o1 rfl
   have h := hk1
   dsimp only [sm] at h
   refine ax_seq ?_
   refine ax_region ?_
   refine al_run tt_ok rfl rfl ?_
   refine ax_ret ?_
   obtain rfl := Option.some.inj h
   refine ⟨_, (Wk.pick [4] [] rfl rfl), _, _, rfl, rfl, ?_⟩
   exact ⟨rfl, rfl⟩
def m_clipn (a0 : (List (Int × Int))) : Option ((List (Int × Int)) × Nat) :=
    gd ((decide (0 ≤ (a0.length : Int))) && (decide ((a0.length : Int) ≤ (a0.length : Int)))) <|
    some ((a0.take (a0.length : Int).toNat), (a0.length : Int).toNat)
set_option maxRecDepth 20000 in
set_option maxHeartbeats 4000000 in
theorem w_clipn (a0 : (List (Int × Int))) (c0 : Option Nat) (r : ((List (Int × Int)) × Nat)) (h : m_clipn a0 = some r) : AC cx 37 [.c (.lst gNd a0 c0)] [] (fun sv h => sv = .a (.c (.lst gNd r.1 (some r.2))) ∧ h = []) := by
  unfold m_clipn at h
  refine ac_body tt_ok Tryd.func37 rfl Tryd.ntmps37 rfl rfl (res := [.tmp 2]) rfl ?_
  refine ax_seq ?_
  refine ax_region ?_
  refine al_run tt_ok rfl rfl ?_
  refine ax_seq ?_
  obtain ⟨hG1, h⟩ := gd_some h
  simp only [Bool.and_eq_true] at hG1
  obtain ⟨hG1_0, hG1_1⟩ := hG1
  refine ax_region ?_
  refine al_run tt_ok rfl (by simp only [hG1_0, hG1_1, ob, decide_true, cond_true, cond_false]) ?_
  refine ax_ret ?_
  obtain rfl := Option.some.inj h
  refine ⟨_, (Wk.pick [2] [] rfl rfl), _, _, rfl, rfl, ?_⟩
  exact ⟨rfl, rfl⟩
def m_coput (a0 : Int) (a1 : Int) (a2 : List OpT) (a3 : Int) (a4 : Int) (a5 : (Int × Int)) : Option ((List OpT)) :=
    gd ((fitB 40 (a2.length + [(a3, (a4, (a5, (a1, (0 : Int)))))].length))) <|
    some (a2 ++ [(a3, (a4, (a5, (a1, (0 : Int)))))])
set_option maxRecDepth 20000 in
set_option maxHeartbeats 4000000 in
theorem w_coput (a0 : Int) (a1 : Int) (a2 : List OpT) (a3 : Int) (a4 : Int) (a5 : (Int × Int)) (r : ((List OpT))) (h : m_coput a0 a1 a2 a3 a4 a5 = some r) : AC cx 65 [.c (.ptr 1000000 0), .c (.val (.int .u8 a3)), .c (.val (.int .u8 a4)), .agg [.val (.int .u8 a5.1), .val (.int .i64 a5.2)]] [(1000000, .cells 96 [.sl 1000001, .val (.int .u8 a0), .val (.int .u8 a1)]), (1000001, .lrow 45 gOp a2)] (fun sv h => sv = .tup [] ∧ h = [(1000000, .cells 96 [.sl 1000001, .val (.int .u8 a0), .val (.int .u8 a1)]), (1000001, .lrow 45 gOp r)]) := by
  unfold m_coput at h
  refine ac_body tt_ok Tryd.func65 rfl Tryd.ntmps65 rfl rfl (res := []) rfl ?_
  refine ax_seq ?_
  refine ax_region ?_
  refine al_run tt_ok rfl rfl ?_
  refine ax_weak (Wk.frzC 7 gNd rfl rfl rfl) ?_
  obtain ⟨hG1, h⟩ := gd_some h
  refine ax_draw [5, 6, 7, 8, 9, 10, 11, 12, 13] (by kernel_rfl) rfl (N := 18) ?_
  refine ad_run (fuel := 4) (ds' := ⟨#[true, true, true, true, true, true, true, true, true, true, true, true, true, true, false, false, false, false], false, true, true⟩) tt_ok [(0, 0), (1, 0), (2, 0), (3, 0), (4, 3), (5, 0), (6, 0), (7, 1), (8, 0), (9, 0), (10, 0), (11, 3), (12, 0), (13, 4)] (by kernel_rfl) rfl (by simp only [hG1, ob, decide_true, cond_true, cond_false]) ?_
  refine ad_ready (by kernel_rfl) (ads_cons (i := 14) ?_ ads_nil)
  refine ado_sk (i := 14) (l' := #[true, true, true, true, true, true, true, true, true, true, true, true, true, true, true, false, false, false]) rfl (sk_appendR tt_ok rfl ⟨rfl, rfl⟩ rfl rfl rfl rfl rfl (by simp only [hG1, ob, decide_true, cond_true, cond_false]) rfl (by simp only [hG1, ob, decide_true, cond_true, cond_false]) rfl rfl rfl (by simp only [hG1, ob, decide_true, cond_true, cond_false])) rfl rfl ?_
  refine ad_run (fuel := 0) (ds' := ⟨#[true, true, true, true, true, true, true, true, true, true, true, true, true, true, true, true, true, true], false, false, true⟩) tt_ok [(15, 0), (16, 0), (17, 2)] (by kernel_rfl) rfl (by simp only [hG1, ob, decide_true, cond_true, cond_false]) ?_
  refine ad_done (by kernel_rfl) ?_
  obtain rfl := Option.some.inj h
  refine ⟨_, (Wk.pick [] [1000000, 1000001] rfl rfl), _, _, rfl, rfl, ?_⟩
  exact ⟨rfl, rfl⟩
def m_copast (a0 : Int) (a1 : Int) (a2 : List OpT) (a3 : Int) : Option ((List OpT)) :=
    Option.bind (cond (decide (a3 = (1 : Int))) (some ((0 : Int), (40 : Int))) (some ((1 : Int), (1 : Int)))) fun o1 =>
    Option.bind (m_coput a0 a1 a2 (6 : Int) a3 o1) fun r2 =>
    some r2
set_option maxRecDepth 20000 in
set_option maxHeartbeats 4000000 in
theorem w_copast (a0 : Int) (a1 : Int) (a2 : List OpT) (a3 : Int) (r : ((List OpT))) (h : m_copast a0 a1 a2 a3 = some r) : AC cx 40 [.c (.ptr 1000000 0), .c (.val (.int .u8 a3))] [(1000000, .cells 96 [.sl 1000001, .val (.int .u8 a0), .val (.int .u8 a1)]), (1000001, .lrow 45 gOp a2)] (fun sv h => sv = .tup [] ∧ h = [(1000000, .cells 96 [.sl 1000001, .val (.int .u8 a0), .val (.int .u8 a1)]), (1000001, .lrow 45 gOp r)]) := by
  unfold m_copast at h
  refine ac_body tt_ok Tryd.func40 rfl Tryd.ntmps40 rfl rfl (res := []) rfl ?_
  refine ax_seq ?_
  refine ax_region ?_
  refine al_run tt_ok rfl rfl ?_
  refine ax_seq ?_
  refine ax_seq ?_
  refine ax_region ?_
  refine al_run tt_ok rfl rfl ?_
  obtain ⟨o1, ho1, hk1⟩ := bd h
  refine ax_cutS (fun o1 : Int × Int => ⟨[(0, .a (.c (.ptr 1000000 0))), (1, .a (.c (.val (.int .u8 a3)))), (4, .a (.c (.ptr 4 0)))], [(4, .cells 39 [.val (.int .u8 o1.1), .val (.int .i64 o1.2)]), (1000000, .cells 96 [.sl 1000001, .val (.int .u8 a0), .val (.int .u8 a1)]), (1000001, .lrow 45 gOp a2)]⟩) (fun o' => o1 = o') ?_ ?_
  ·
   have h := ho1
   refine ax_cond rfl rfl (fun hc => ?_) (fun hc => ?_)
   ·
    replace h := cond_t hc h
    refine ax_region ?_
    refine al_run tt_ok rfl rfl ?_
    exact ⟨_, (Option.some.inj h).symm, (Wk.pick [0, 1, 4] [4, 1000000, 1000001] rfl rfl)⟩
   ·
    replace h := cond_f hc h
    refine ax_skip ?_
    exact ⟨_, (Option.some.inj h).symm, (Wk.pick [0, 1, 4] [4, 1000000, 1000001] rfl rfl)⟩
  ·
   rintro _ rfl
   have h := hk1
   obtain ⟨r2, hr2, h⟩ := bd h
   refine ax_region ?_
   refine al_upto tt_ok rfl rfl ?_
   refine al_call [(1000000, 1000000), (1000001, 1000001)] (w_coput _ _ _ _ _ _  r2 hr2) rfl ⟨rfl, rfl⟩ rfl Tryd.func65 rfl rfl rfl rfl rfl rfl (PassH.cons rfl rfl rfl (PassH.cons rfl rfl rfl PassH.nil)) ?_
   rintro _ _ ⟨rfl, rfl⟩
   refine ⟨_, _, rfl, rfl, ?_⟩
   refine al_run tt_ok rfl rfl ?_
   obtain rfl := Option.some.inj h
   refine ⟨_, (Wk.pick [] [1000000, 1000001] rfl rfl), _, _, rfl, rfl, ?_⟩
   exact ⟨rfl, rfl⟩
def m_coknit_L2 (a0 : Int) (a1 : Int) (a3 : (List (Int × Int))) : Nat → Int → (List OpT) → Option ((List OpT))
  | 0, _, _ => none
  | n + 1, v2_0, v2_1 =>
    cond (decide (v2_0 < (a3.length : Int))) (Option.bind (cond (decide (a0 = (0 : Int))) (gd ((inI64 ((a3.length : Int) - (1 : Int))) && (inI64 (((a3.length : Int) - (1 : Int)) - v2_0))) <|
    some (((a3.length : Int) - (1 : Int)) - v2_0)) (some v2_0)) fun o3 =>
    gd ((inB o3 a3.length)) <|
    Option.bind (m_coput a0 a1 v2_1 (4 : Int) a0 (a3.getD o3.toNat gNd.zero)) fun r5 =>
    gd ((inI64 (v2_0 + (1 : Int)))) <|
    m_coknit_L2 a0 a1 a3 n (v2_0 + (1 : Int)) r5) (some v2_1)
def m_coknit (a0 : Int) (a1 : Int) (a2 : List OpT) (a3 : (List (Int × Int))) : Option ((List OpT)) :=
    Option.bind (m_coknit_L2 a0 a1 a3 FUEL (0 : Int) a2) fun o1 =>
    some o1
set_option maxRecDepth 20000 in
set_option maxHeartbeats 4000000 in
theorem w_coknit (a0 : Int) (a1 : Int) (a2 : List OpT) (a3 : (List (Int × Int))) (c0 : Option Nat) (r : ((List OpT))) (h : m_coknit a0 a1 a2 a3 = some r) : AC cx 66 [.c (.ptr 1000000 0), .c (.lst gNd a3 c0)] [(1000000, .cells 96 [.sl 1000001, .val (.int .u8 a0), .val (.int .u8 a1)]), (1000001, .lrow 45 gOp a2)] (fun sv h => sv = .tup [] ∧ h = [(1000000, .cells 96 [.sl 1000001, .val (.int .u8 a0), .val (.int .u8 a1)]), (1000001, .lrow 45 gOp r)]) := by
  unfold m_coknit at h
  refine ac_body tt_ok Tryd.func66 rfl Tryd.ntmps66 rfl rfl (res := []) rfl ?_
  refine ax_seq ?_
  refine ax_region ?_
  refine al_run tt_ok rfl rfl ?_
  obtain ⟨o1, ho1, hk1⟩ := bd h
  refine ax_cutS (fun o1 : (List OpT) => ⟨[], [(1000000, .cells 96 [.sl 1000001, .val (.int .u8 a0), .val (.int .u8 a1)]), (1000001, .lrow 45 gOp o1)]⟩) (fun o' => o1 = o') ?_ ?_
  ·
   have h := ho1
   refine ax_block ?_
   refine ax_weak (Wk.pick [7, 0, 1, 6] [1000001, 1000000] rfl rfl) ?_
   refine ax_loopL (fun y : Nat × Int × (List OpT) => [(7, .a (.c (.val (.int .i64 y.2.1))))]) (fun y : Nat × Int × (List OpT) => [(1000001, .lrow 45 gOp y.2.2)]) (fun y : Nat × Int × (List OpT) => m_coknit_L2 a0 a1 a3 y.1 y.2.1 y.2.2 = some o1) (fun y : Nat × Int × (List OpT) => y.1) (FUEL, (0 : Int), a2) h ?_
   rintro ⟨n, v2_0, v2_1⟩ h
   replace h : m_coknit_L2 a0 a1 a3 n v2_0 v2_1 = some o1 := h
   rcases n with _ | n
   · cases (show (none : Option _) = some _ from h)
   rw [m_coknit_L2] at h
   try dsimp only
   refine ax_seq ?_
   refine ax_region ?_
   refine al_run tt_ok rfl rfl ?_
   refine ax_seq ?_
   refine ax_cond rfl rfl (fun hc => ?_) (fun hc => ?_)
   ·
    replace h := cond_t hc h
    refine ax_skip ?_
    refine ax_seq ?_
    refine ax_block ?_
    refine ax_seq ?_
    refine ax_region ?_
    refine al_run tt_ok rfl rfl ?_
    refine ax_seq ?_
    refine ax_seq ?_
    refine ax_region ?_
    refine al_run tt_ok rfl rfl ?_
    obtain ⟨o3, ho3, hk3⟩ := bd h
    refine ax_cutS (fun o3 : Int => ⟨[(0, .a (.c (.ptr 1000000 0))), (1, .a (.c (.lst gNd a3 c0))), (4, .a (.c (.val (.int .i64 o3)))), (6, .a (.c (.val (.int .i64 (a3.length : Int))))), (7, .a (.c (.val (.int .i64 v2_0))))], [(1000000, .cells 96 [.sl 1000001, .val (.int .u8 a0), .val (.int .u8 a1)]), (1000001, .lrow 45 gOp v2_1)]⟩) (fun o' => o3 = o') ?_ ?_
    ·
     have h := ho3
     refine ax_cond rfl rfl (fun hc => ?_) (fun hc => ?_)
     ·
      replace h := cond_t hc h
      obtain ⟨hG4, h⟩ := gd_some h
      simp only [Bool.and_eq_true] at hG4
      obtain ⟨hG4_0, hG4_1⟩ := hG4
      refine ax_region ?_
      refine al_run tt_ok rfl (by simp only [hG4_0, hG4_1, ob, decide_true, cond_true, cond_false]) ?_
      exact ⟨_, (Option.some.inj h).symm, (Wk.pick [0, 1, 4, 6, 7] [1000000, 1000001] rfl rfl)⟩
     ·
      replace h := cond_f hc h
      refine ax_skip ?_
      exact ⟨_, (Option.some.inj h).symm, (Wk.pick [0, 1, 4, 6, 7] [1000000, 1000001] rfl rfl)⟩
    ·
     rintro _ rfl
     have h := hk3
     obtain ⟨hG7, h⟩ := gd_some h
     obtain ⟨r5, hr5, h⟩ := bd h
     refine ax_draw [5, 6, 7, 8] (by kernel_rfl) rfl (N := 10) ?_
     refine ad_run (fuel := 1) (ds' := ⟨#[true, true, true, true, true, true, true, true, true, false], true, true, true⟩) tt_ok [(0, 0), (1, 0), (2, 0), (3, 0), (4, 3), (5, 0), (6, 0), (7, 0), (8, 1)] (by kernel_rfl) rfl (by simp only [hG7, ob, decide_true, cond_true, cond_false]) ?_
     refine ad_ready (by kernel_rfl) (ads_cons (i := 9) ?_ ads_nil)
     refine ado_of rfl ?_
     refine adx_call (i := 9) (listed' := #[true, true, true, true, true, true, true, true, true, true]) (pre' := false) [(1000000, 1000000), (1000001, 1000001)] (w_coput _ _ _ _ _ _  r5 hr5) rfl rfl rfl rfl ⟨rfl, rfl⟩ rfl Tryd.func65 rfl rfl rfl (by simp only [hG7, ob, decide_true, cond_true, cond_false]) rfl rfl (PassH.cons rfl rfl rfl (PassH.cons rfl rfl rfl PassH.nil)) ?_
     rintro _ _ ⟨rfl, rfl⟩
     refine ⟨_, _, rfl, rfl, ?_⟩
     refine ad_done (by kernel_rfl) ?_
     obtain ⟨hG6, h⟩ := gd_some h
     refine ax_region ?_
     refine al_run tt_ok rfl (by simp only [hG6, ob, decide_true, cond_true, cond_false]) ?_
     refine ⟨(n, _, _), h, Nat.lt_succ_self _, (Wk.pick [7, 0, 1, 6] [1000001, 1000000] rfl rfl)⟩
   ·
    replace h := cond_f hc h
    refine ax_exit ?_
    exact ⟨_, (Option.some.inj h).symm, (Wk.pick [] [1000000, 1000001] rfl rfl)⟩
  ·
   rintro _ rfl
   have h := hk1
   obtain rfl := Option.some.inj h
   refine ⟨_, (Wk.pick [] [1000000, 1000001] rfl rfl), _, _, rfl, rfl, ?_⟩
   exact ⟨rfl, rfl⟩
def m_cotuck_L2 (a0 : Int) (a1 : Int) (a3 : (List (Int × Int))) : Nat → Int → (List OpT) → Option ((List OpT))
  | 0, _, _ => none
  | n + 1, v2_0, v2_1 =>
    cond (decide (v2_0 < (a3.length : Int))) (gd ((inB v2_0 a3.length)) <|
    Option.bind (m_coput a0 a1 v2_1 (5 : Int) a0 (a3.getD v2_0.toNat gNd.zero)) fun r3 =>
    gd ((inI64 (v2_0 + (1 : Int)))) <|
    m_cotuck_L2 a0 a1 a3 n (v2_0 + (1 : Int)) r3) (some v2_1)
def m_cotuck (a0 : Int) (a1 : Int) (a2 : List OpT) (a3 : (List (Int × Int))) : Option ((List OpT)) :=
    Option.bind (m_cotuck_L2 a0 a1 a3 FUEL (0 : Int) a2) fun o1 =>
    some o1
set_option maxRecDepth 20000 in
set_option maxHeartbeats 4000000 in
theorem w_cotuck (a0 : Int) (a1 : Int) (a2 : List OpT) (a3 : (List (Int × Int))) (c0 : Option Nat) (r : ((List OpT))) (h : m_cotuck a0 a1 a2 a3 = some r) : AC cx 67 [.c (.ptr 1000000 0), .c (.lst gNd a3 c0)] [(1000000, .cells 96 [.sl 1000001, .val (.int .u8 a0), .val (.int .u8 a1)]), (1000001, .lrow 45 gOp a2)] (fun sv h => sv = .tup [] ∧ h = [(1000000, .cells 96 [.sl 1000001, .val (.int .u8 a0), .val (.int .u8 a1)]), (1000001, .lrow 45 gOp r)]) := by
  unfold m_cotuck at h
  refine ac_body tt_ok Tryd.func67 rfl Tryd.ntmps67 rfl rfl (res := []) rfl ?_
  refine ax_seq ?_
  refine ax_region ?_
  refine al_run tt_ok rfl rfl ?_
  obtain ⟨o1, ho1, hk1⟩ := bd h
  refine ax_cutS (fun o1 : (List OpT) => ⟨[], [(1000000, .cells 96 [.sl 1000001, .val (.int .u8 a0), .val (.int .u8 a1)]), (1000001, .lrow 45 gOp o1)]⟩) (fun o' => o1 = o') ?_ ?_
  ·
   have h := ho1
   refine ax_block ?_
   refine ax_weak (Wk.pick [8, 0, 6, 7] [1000001, 1000000] rfl rfl) ?_
   refine ax_loopL (fun y : Nat × Int × (List OpT) => [(8, .a (.c (.val (.int .i64 y.2.1))))]) (fun y : Nat × Int × (List OpT) => [(1000001, .lrow 45 gOp y.2.2)]) (fun y : Nat × Int × (List OpT) => m_cotuck_L2 a0 a1 a3 y.1 y.2.1 y.2.2 = some o1) (fun y : Nat × Int × (List OpT) => y.1) (FUEL, (0 : Int), a2) h ?_
   rintro ⟨n, v2_0, v2_1⟩ h
   replace h : m_cotuck_L2 a0 a1 a3 n v2_0 v2_1 = some o1 := h
   rcases n with _ | n
   · cases (show (none : Option _) = some _ from h)
   rw [m_cotuck_L2] at h
   try dsimp only
   refine ax_seq ?_
   refine ax_region ?_
   refine al_run tt_ok rfl rfl ?_
   refine ax_seq ?_
   refine ax_cond rfl rfl (fun hc => ?_) (fun hc => ?_)
   ·
    replace h := cond_t hc h
    refine ax_skip ?_
    refine ax_seq ?_
    refine ax_block ?_
    refine ax_seq ?_
    obtain ⟨hG5, h⟩ := gd_some h
    refine ax_region ?_
    refine al_run tt_ok rfl (by simp only [hG5, ob, decide_true, cond_true, cond_false]) ?_
    refine ax_weak (Wk.frzC 5 gNd rfl rfl rfl) ?_
    obtain ⟨r3, hr3, h⟩ := bd h
    refine ax_draw [5] (by kernel_rfl) rfl (N := 7) ?_
    refine ad_run (fuel := 1) (ds' := ⟨#[true, true, true, true, true, true, false], true, true, true⟩) tt_ok [(0, 0), (1, 0), (2, 0), (3, 0), (4, 3), (5, 1)] (by kernel_rfl) rfl rfl ?_
    refine ad_ready (by kernel_rfl) (ads_cons (i := 6) ?_ ads_nil)
    refine ado_of rfl ?_
    refine adx_call (i := 6) (listed' := #[true, true, true, true, true, true, true]) (pre' := false) [(1000000, 1000000), (1000001, 1000001)] (w_coput _ _ _ _ _ _  r3 hr3) rfl rfl rfl rfl ⟨rfl, rfl⟩ rfl Tryd.func65 rfl rfl rfl rfl rfl rfl (PassH.cons rfl rfl rfl (PassH.cons rfl rfl rfl PassH.nil)) ?_
    rintro _ _ ⟨rfl, rfl⟩
    refine ⟨_, _, rfl, rfl, ?_⟩
    refine ad_done (by kernel_rfl) ?_
    obtain ⟨hG4, h⟩ := gd_some h
    refine ax_region ?_
    refine al_run tt_ok rfl (by simp only [hG4, ob, decide_true, cond_true, cond_false]) ?_
    refine ⟨(n, _, _), h, Nat.lt_succ_self _, (Wk.pick [8, 0, 6, 7] [1000001, 1000000] rfl rfl)⟩
   ·
    replace h := cond_f hc h
    refine ax_exit ?_
    exact ⟨_, (Option.some.inj h).symm, (Wk.pick [] [1000000, 1000001] rfl rfl)⟩
  ·
   rintro _ rfl
   have h := hk1
   obtain rfl := Option.some.inj h
   refine ⟨_, (Wk.pick [] [1000000, 1000001] rfl rfl), _, _, rfl, rfl, ?_⟩
   exact ⟨rfl, rfl⟩
def m_coslip (a0 : Int) (a1 : Int) (a2 : List OpT) (a3 : (List (Int × Int))) : Option (Unit) :=
    some ()
set_option maxRecDepth 20000 in
set_option maxHeartbeats 4000000 in
theorem w_coslip (a0 : Int) (a1 : Int) (a2 : List OpT) (a3 : (List (Int × Int))) (c0 : Option Nat) (r : (Unit)) (h : m_coslip a0 a1 a2 a3 = some r) : AC cx 68 [.c (.ptr 1000000 0), .c (.lst gNd a3 c0)] [(1000000, .cells 96 [.sl 1000001, .val (.int .u8 a0), .val (.int .u8 a1)]), (1000001, .lrow 45 gOp a2)] (fun sv h => sv = .tup [] ∧ h = [(1000000, .cells 96 [.sl 1000001, .val (.int .u8 a0), .val (.int .u8 a1)]), (1000001, .lrow 45 gOp a2)]) := by
  unfold m_coslip at h
  refine ac_body tt_ok Tryd.func68 rfl Tryd.ntmps68 rfl rfl (res := []) rfl ?_
  refine ax_skip ?_
  obtain rfl := Option.some.inj h
  refine ⟨_, (Wk.pick [] [1000000, 1000001] rfl rfl), _, _, rfl, rfl, ?_⟩
  exact ⟨rfl, rfl⟩
def m_text30_L2 (a0 : (List OpT)) : Nat → (List UInt8) → Int → Option ((List UInt8))
  | 0, _, _ => none
  | n + 1, v2_0, v2_1 =>
    cond (decide (v2_1 < (a0.length : Int))) (Option.bind (cond (decide ((0 : Int) < v2_1)) (gd ((decide (v2_0.length + ([59, 32] : List UInt8).length ≤ 140737488355328))) <|
    some (v2_0 ++ ([59, 32] : List UInt8))) (some v2_0)) fun o3 =>
    gd ((inB v2_1 a0.length)) <|
    Option.bind (m_optext (a0.getD v2_1.toNat gOp.zero)) fun r5 =>
    gd ((decide (o3.length + r5.length ≤ 140737488355328))) <|
    gd ((inI64 (v2_1 + (1 : Int)))) <|
    m_text30_L2 a0 n (o3 ++ r5) (v2_1 + (1 : Int))) (some v2_0)
def m_text30 (a0 : (List OpT)) : Option ((List UInt8)) :=
    Option.bind (m_text30_L2 a0 FUEL ([] : List UInt8) (0 : Int)) fun o1 =>
    some o1
set_option maxRecDepth 20000 in
set_option maxHeartbeats 4000000 in
theorem w_text30 (a0 : (List OpT)) (c0 : Option Nat) (r : ((List UInt8))) (h : m_text30 a0 = some r) : AC cx 12 [.c (.lst gOp a0 c0)] [] (fun sv h => sv = .a (.c (.str r)) ∧ h = []) := by
  unfold m_text30 at h
  refine ac_body tt_ok Tryd.func12 rfl Tryd.ntmps12 rfl rfl (res := [.tmp 2]) rfl ?_
  refine ax_seq ?_
  refine ax_region ?_
  refine al_run tt_ok rfl rfl ?_
  refine ax_seq ?_
  refine ax_region ?_
  refine al_run tt_ok rfl rfl ?_
  refine ax_seq ?_
  refine ax_seq ?_
  refine ax_region ?_
  refine al_run tt_ok rfl rfl ?_
  obtain ⟨o1, ho1, hk1⟩ := bd h
  refine ax_cutS (fun o1 : (List UInt8) => ⟨[(3, .a (.c (.str o1)))], []⟩) (fun o' => o1 = o') ?_ ?_
  ·
   have h := ho1
   refine ax_block ?_
   refine ax_weak (Wk.pick [3, 4, 0] [] rfl rfl) ?_
   refine ax_loopL (fun y : Nat × (List UInt8) × Int => [(3, .a (.c (.str y.2.1))), (4, .a (.c (.val (.int .i64 y.2.2))))]) (fun y : Nat × (List UInt8) × Int => []) (fun y : Nat × (List UInt8) × Int => m_text30_L2 a0 y.1 y.2.1 y.2.2 = some o1) (fun y : Nat × (List UInt8) × Int => y.1) (FUEL, ([] : List UInt8), (0 : Int)) h ?_
   rintro ⟨n, v2_0, v2_1⟩ h
   replace h : m_text30_L2 a0 n v2_0 v2_1 = some o1 := h
   rcases n with _ | n
   · cases (show (none : Option _) = some _ from h)
   rw [m_text30_L2] at h
   try dsimp only
   refine ax_seq ?_
   refine ax_seq ?_
   refine ax_region ?_
   refine al_run tt_ok rfl rfl ?_
   refine ax_cond rfl rfl (fun hc => ?_) (fun hc => ?_)
   ·
    replace h := cond_t hc h
    refine ax_skip ?_
    refine ax_seq ?_
    refine ax_block ?_
    refine ax_seq ?_
    refine ax_seq ?_
    refine ax_region ?_
    refine al_run tt_ok rfl rfl ?_
    obtain ⟨o3, ho3, hk3⟩ := bd h
    refine ax_cutS (fun o3 : (List UInt8) => ⟨[(0, .a (.c (.lst gOp a0 c0))), (3, .a (.c (.str o3))), (4, .a (.c (.val (.int .i64 v2_1))))], []⟩) (fun o' => o3 = o') ?_ ?_
    ·
     have h := ho3
     refine ax_cond rfl rfl (fun hc => ?_) (fun hc => ?_)
     ·
      replace h := cond_t hc h
      obtain ⟨hG4, h⟩ := gd_some h
      refine ax_region ?_
      refine al_run tt_ok rfl (by simp only [hG4, ob, decide_true, cond_true, cond_false]) ?_
      exact ⟨_, (Option.some.inj h).symm, (Wk.pick [0, 3, 4] [] rfl rfl)⟩
     ·
      replace h := cond_f hc h
      refine ax_skip ?_
      exact ⟨_, (Option.some.inj h).symm, (Wk.pick [0, 3, 4] [] rfl rfl)⟩
    ·
     rintro _ rfl
     have h := hk3
     obtain ⟨hG7, h⟩ := gd_some h
     obtain ⟨r5, hr5, h⟩ := bd h
     obtain ⟨hG8, h⟩ := gd_some h
     refine ax_region ?_
     refine al_upto tt_ok rfl (by simp only [hG7, hG8, ob, decide_true, cond_true, cond_false]) ?_
     refine al_callP (w_optext _  r5 hr5) rfl ⟨rfl, rfl⟩ rfl Tryd.func42 rfl rfl rfl (by simp only [hG7, hG8, ob, decide_true, cond_true, cond_false]) rfl rfl ?_
     refine al_run tt_ok rfl (by simp only [hG7, hG8, ob, decide_true, cond_true, cond_false]) ?_
     obtain ⟨hG6, h⟩ := gd_some h
     refine ax_region ?_
     refine al_run tt_ok rfl (by simp only [hG6, ob, decide_true, cond_true, cond_false]) ?_
     refine ⟨(n, _, _), h, Nat.lt_succ_self _, (Wk.pick [3, 4, 0] [] rfl rfl)⟩
   ·
    replace h := cond_f hc h
    refine ax_exit ?_
    exact ⟨_, (Option.some.inj h).symm, (Wk.pick [3] [] rfl rfl)⟩
  ·
   rintro _ rfl
   have h := hk1
   refine ax_seq ?_
   refine ax_region ?_
   refine al_run tt_ok rfl rfl ?_
   refine ax_ret ?_
   obtain rfl := Option.some.inj h
   refine ⟨_, (Wk.pick [2] [] rfl rfl), _, _, rfl, rfl, ?_⟩
   exact ⟨rfl, rfl⟩
def m_row30_L2 (a0 : (List UInt8)) : Nat → Int → Int → (List (Int × (Int × (Int × (Int × Bool))))) → Option ((List (Int × (Int × (Int × (Int × Bool))))))
  | 0, _, _, _ => none
  | n + 1, v2_0, v2_1, v2_2 =>
    cond (decide (v2_1 ≤ (a0.length : Int))) (gd ((!(!(decide (v2_1 = (a0.length : Int)))) || (inB v2_1 a0.length))) <|
    cond (cond (decide (v2_1 = (a0.length : Int))) true (decide (((a0.getD v2_1.toNat 0).toNat : Int) = (32 : Int)))) (gd ((decide (0 ≤ v2_0)) && (decide (v2_0 ≤ v2_1)) && (decide (v2_1 ≤ (a0.length : Int)))) <|
    Option.bind (m_stparse ((a0.take v2_1.toNat).drop v2_0.toNat)) fun r3 =>
    gd ((fitB 32 (v2_2.length + [r3.1].length))) <|
    gd ((inI64 (v2_1 + (1 : Int)))) <|
    gd ((inI64 (v2_1 + (1 : Int)))) <|
    m_row30_L2 a0 n (v2_1 + (1 : Int)) (v2_1 + (1 : Int)) (v2_2 ++ [r3.1])) (gd ((inI64 (v2_1 + (1 : Int)))) <|
    m_row30_L2 a0 n v2_0 (v2_1 + (1 : Int)) v2_2)) (some v2_2)
def m_row30 (a0 : (List UInt8)) : Option ((List (Int × (Int × (Int × (Int × Bool)))))) :=
    Option.bind (m_row30_L2 a0 FUEL (0 : Int) (0 : Int) ([] : List (Int × (Int × (Int × (Int × Bool)))))) fun o1 =>
    some o1
set_option maxRecDepth 20000 in
set_option maxHeartbeats 4000000 in
theorem w_row30 (a0 : (List UInt8)) (r : ((List (Int × (Int × (Int × (Int × Bool))))))) (h : m_row30 a0 = some r) : AC cx 43 [.c (.str a0)] [] (fun sv h => sv = .a (.c (.lst (.pair (.int .u8) (.pair (.int .u8) (.pair (.int .i64) (.pair (.int .i64) .bool)))) r none)) ∧ h = []) := by
  unfold m_row30 at h
  refine ac_body tt_ok Tryd.func43 rfl Tryd.ntmps43 rfl rfl (res := [.tmp 2]) rfl ?_
  refine ax_seq ?_
  refine ax_region ?_
  refine al_run tt_ok rfl rfl ?_
  refine ax_seq ?_
  refine ax_region ?_
  refine al_run tt_ok rfl rfl ?_
  refine ax_weak (Wk.nil 3 3 48 (.pair (.int .u8) (.pair (.int .u8) (.pair (.int .i64) (.pair (.int .i64) .bool)))) rfl rfl) ?_
  refine ax_seq ?_
  refine ax_region ?_
  refine al_run tt_ok rfl rfl ?_
  refine ax_seq ?_
  refine ax_seq ?_
  refine ax_region ?_
  refine al_run tt_ok rfl rfl ?_
  obtain ⟨o1, ho1, hk1⟩ := bd h
  refine ax_cutS (fun o1 : (List (Int × (Int × (Int × (Int × Bool))))) => ⟨[(3, .a (.c (.sl 3)))], [(3, .row 48 (.pair (.int .u8) (.pair (.int .u8) (.pair (.int .i64) (.pair (.int .i64) .bool)))) o1 none)]⟩) (fun o' => o1 = o') ?_ ?_
  ·
   have h := ho1
   refine ax_block ?_
   refine ax_weak (Wk.pick [4, 5, 0, 3] [3] rfl rfl) ?_
   refine ax_loopL (fun y : Nat × Int × Int × (List (Int × (Int × (Int × (Int × Bool))))) => [(4, .a (.c (.val (.int .i64 y.2.1)))), (5, .a (.c (.val (.int .i64 y.2.2.1))))]) (fun y : Nat × Int × Int × (List (Int × (Int × (Int × (Int × Bool))))) => [(3, .row 48 (.pair (.int .u8) (.pair (.int .u8) (.pair (.int .i64) (.pair (.int .i64) .bool)))) y.2.2.2 none)]) (fun y : Nat × Int × Int × (List (Int × (Int × (Int × (Int × Bool))))) => m_row30_L2 a0 y.1 y.2.1 y.2.2.1 y.2.2.2 = some o1) (fun y : Nat × Int × Int × (List (Int × (Int × (Int × (Int × Bool))))) => y.1) (FUEL, (0 : Int), (0 : Int), ([] : List (Int × (Int × (Int × (Int × Bool)))))) h ?_
   rintro ⟨n, v2_0, v2_1, v2_2⟩ h
   replace h : m_row30_L2 a0 n v2_0 v2_1 v2_2 = some o1 := h
   rcases n with _ | n
   · cases (show (none : Option _) = some _ from h)
   rw [m_row30_L2] at h
   try dsimp only
   refine ax_seq ?_
   refine ax_seq ?_
   refine ax_region ?_
   refine al_run tt_ok rfl rfl ?_
   refine ax_cond rfl rfl (fun hc => ?_) (fun hc => ?_)
   ·
    replace h := cond_t hc h
    refine ax_skip ?_
    refine ax_seq ?_
    refine ax_block ?_
    refine ax_seq ?_
    obtain ⟨hG9, h⟩ := gd_some h
    refine ax_region ?_
    refine al_run tt_ok rfl (by revert hG9; generalize (decide (v2_1 = (a0.length : Int))) = b0; generalize (inB v2_1 a0.length) = b1; revert b0 b1; decide) ?_
    refine ax_cond rfl rfl (fun hc => ?_) (fun hc => ?_)
    ·
     replace h := cond_t hc h
     refine ax_seq ?_
     obtain ⟨hG7, h⟩ := gd_some h
     simp only [Bool.and_eq_true] at hG7
     obtain ⟨⟨hG7_0, hG7_1⟩, hG7_2⟩ := hG7
     obtain ⟨r3, hr3, h⟩ := bd h
     refine ax_region ?_
     refine al_upN 3 tt_ok rfl (by simp only [hG7_0, hG7_1, hG7_2, ob, decide_true, cond_true, cond_false]) ?_
     refine al_sliceSm tt_ok rfl ⟨rfl, rfl⟩ rfl rfl rfl rfl (by simp only [hG7_0, hG7_1, hG7_2, ob, decide_true, cond_true, cond_false]) rfl (by simp only [hG7_0, hG7_1, hG7_2, ob, decide_true, cond_true, cond_false]) rfl (by simp only [hG7_0, hG7_1, hG7_2, ob, decide_true, cond_true, cond_false]) (by simp only [hG7_0, hG7_1, hG7_2, ob, decide_true, cond_true, cond_false]) (by simp only [hG7_0, hG7_1, hG7_2, ob, decide_true, cond_true, cond_false]) (by simp only [hG7_0, hG7_1, hG7_2, ob, decide_true, cond_true, cond_false]) ?_
     refine al_callP (w_stparse _  r3 hr3) rfl ⟨rfl, rfl⟩ rfl Tryd.func73 rfl rfl rfl (by simp only [hG7_0, hG7_1, hG7_2, ob, decide_true, cond_true, cond_false]) rfl rfl ?_
     refine al_run tt_ok rfl (by simp only [hG7_0, hG7_1, hG7_2, ob, decide_true, cond_true, cond_false]) ?_
     refine ax_weak (Wk.frzC 6 (.pair (.int .u8) (.pair (.int .u8) (.pair (.int .i64) (.pair (.int .i64) .bool)))) rfl rfl rfl) ?_
     refine ax_seq ?_
     obtain ⟨hG6, h⟩ := gd_some h
     refine ax_region ?_
     refine al_run tt_ok rfl (by simp only [hG6, ob, decide_true, cond_true, cond_false]) ?_
     obtain ⟨hG5, h⟩ := gd_some h
     refine ax_region ?_
     refine al_run tt_ok rfl (by simp only [hG5, ob, decide_true, cond_true, cond_false]) ?_
     obtain ⟨hG4, h⟩ := gd_some h
     refine ax_region ?_
     refine al_run tt_ok rfl (by simp only [hG4, ob, decide_true, cond_true, cond_false]) ?_
     refine ⟨(n, _, _, _), h, Nat.lt_succ_self _, (Wk.pick [4, 5, 0, 3] [3] rfl rfl)⟩
    ·
     replace h := cond_f hc h
     refine ax_skip ?_
     obtain ⟨hG8, h⟩ := gd_some h
     refine ax_region ?_
     refine al_run tt_ok rfl (by simp only [hG8, ob, decide_true, cond_true, cond_false]) ?_
     refine ⟨(n, _, _, _), h, Nat.lt_succ_self _, (Wk.pick [4, 5, 0, 3] [3] rfl rfl)⟩
   ·
    replace h := cond_f hc h
    refine ax_exit ?_
    exact ⟨_, (Option.some.inj h).symm, (Wk.pick [3] [3] rfl rfl)⟩
  ·
   rintro _ rfl
   have h := hk1
   refine ax_seq ?_
   refine ax_region ?_
   refine al_run tt_ok rfl rfl ?_
   refine ax_ret ?_
   obtain rfl := Option.some.inj h
   refine ⟨_, (Wk.trans (Wk.frz (id := 3) rfl) (Wk.pick [2] [] rfl rfl)), _, _, rfl, rfl, ?_⟩
   exact ⟨rfl, rfl⟩
end Go.Proofs.YtihcolehefloeaaDoor

/- Goals of a row: model. -/
namespace Go.Proofs.YtihcolehefloeaaDoor
set_option linter.unusedSimpArgs false
set_option linter.unusedVariables false
open Go.RowKit
def m_goals_L5 (a0 : (List (Int × (Int × (Int × (Int × Bool)))))) (v2_0 : Int) (v2_1 : Int) (v2_3 : List (List (Int × Int))) (r3 : Int) : Nat → Int → (List (Int × Int)) → Option ((List (Int × Int)))
  | 0, _, _ => none
  | n + 1, v5_0, v5_1 =>
    cond (decide (v5_0 < ((List.replicate r3.toNat (gNd.zero : (Int × Int))).length : Int))) (gd ((inB v2_1 v2_3.length)) <|
    Option.bind (m_stbed (a0.getD v2_1.toNat (0, (0, (0, (0, false)))))) fun r6 =>
    gd ((inI64 (v2_0 + v5_0)) && (inB v5_0 v5_1.length) && (decide (v5_0.toNat < v5_1.length))) <|
    gd ((inI64 (v5_0 + (1 : Int)))) <|
    m_goals_L5 a0 v2_0 v2_1 v2_3 r3 n (v5_0 + (1 : Int)) (v5_1.set v5_0.toNat (r6, (v2_0 + v5_0)))) (some v5_1)
def m_goals_L12 (v2_0 : Int) (r3 : Int) (r10 : Int) : Nat → Int → (List Int) → Option ((List Int))
  | 0, _, _ => none
  | n + 1, v12_0, v12_1 =>
    cond (decide (v12_0 < r10)) (gd ((inI64 (r3 - (1 : Int))) && (inI64 (v2_0 + (if (r3 - (1 : Int)) < v12_0 then (r3 - (1 : Int)) else v12_0))) && (fitB 8 (v12_1.length + [(v2_0 + (if (r3 - (1 : Int)) < v12_0 then (r3 - (1 : Int)) else v12_0))].length))) <|
    gd ((inI64 (v12_0 + (1 : Int)))) <|
    m_goals_L12 v2_0 r3 r10 n (v12_0 + (1 : Int)) (v12_1 ++ [(v2_0 + (if (r3 - (1 : Int)) < v12_0 then (r3 - (1 : Int)) else v12_0))])) (some v12_1)
def m_goals_L2 (a0 : (List (Int × (Int × (Int × (Int × Bool)))))) : Nat → Int → Int → (List Int) → (List (List (Int × Int))) → Option ((List Int) × (List (List (Int × Int))))
  | 0, _, _, _, _ => none
  | n + 1, v2_0, v2_1, v2_2, v2_3 =>
    cond (decide (v2_1 < (a0.length : Int))) (gd ((inB v2_1 a0.length)) <|
    Option.bind (m_stmakes (a0.getD v2_1.toNat (0, (0, (0, (0, false)))))) fun r3 =>
    gd ((decide (0 ≤ r3)) && (decide ((16 : Int) * r3 ≤ 140737488355328)) && (decide (r3 ≤ 140737488355328)) && (inB v2_1 v2_3.length) && (decide (v2_1.toNat < v2_3.length))) <|
    gd ((inB v2_1 v2_3.length)) <|
    Option.bind (m_goals_L5 a0 v2_0 v2_1 v2_3 r3 FUEL (0 : Int) (List.replicate r3.toNat (gNd.zero : (Int × Int)))) fun o4 =>
    Option.bind (m_stneeds (a0.getD v2_1.toNat (0, (0, (0, (0, false)))))) fun r10 =>
    Option.bind (m_goals_L12 v2_0 r3 r10 FUEL (0 : Int) v2_2) fun o11 =>
    gd ((inI64 (v2_0 + r3))) <|
    gd ((inI64 (v2_1 + (1 : Int)))) <|
    m_goals_L2 a0 n (v2_0 + r3) (v2_1 + (1 : Int)) o11 (v2_3.set v2_1.toNat o4)) (some (v2_2, v2_3))
def m_goals (a0 : (List (Int × (Int × (Int × (Int × Bool)))))) : Option ((List (List (Int × Int))) × Nat × (List Int)) :=
    gd ((decide (0 ≤ (a0.length : Int))) && (decide ((24 : Int) * (a0.length : Int) ≤ 140737488355328)) && (decide ((a0.length : Int) ≤ 140737488355328))) <|
    Option.bind (m_goals_L2 a0 FUEL (13 : Int) (0 : Int) ([] : List Int) (List.replicate (a0.length : Int).toNat ([] : (List (Int × Int))))) fun o1 =>
    some (o1.2, (a0.length : Int).toNat, o1.1)
set_option maxRecDepth 20000 in
set_option maxHeartbeats 4000000 in
theorem w_goals (a0 : (List (Int × (Int × (Int × (Int × Bool)))))) (c0 : Option Nat) (r : ((List (List (Int × Int))) × Nat × (List Int))) (h : m_goals a0 = some r) : AC cx 45 [.c (.lst (.pair (.int .u8) (.pair (.int .u8) (.pair (.int .i64) (.pair (.int .i64) .bool)))) a0 c0)] [] (fun sv h => sv = .tup [.c (.lst (.sl gNd) r.1 (some r.2.1)), .c (.sl 3)] ∧ h = [(3, .row 3 (.int .i64) r.2.2 none)]) := by
  unfold m_goals at h
  refine ac_body tt_ok Tryd.func45 rfl Tryd.ntmps45 rfl rfl (res := [.tmp 2, .tmp 3]) rfl ?_
  refine ax_seq ?_
  refine ax_region ?_
  refine al_run tt_ok rfl rfl ?_
  refine ax_weak (Wk.nil 3 3 3 (.int .i64) rfl rfl) ?_
  refine ax_seq ?_
  obtain ⟨hG20, h⟩ := gd_some h
  simp only [Bool.and_eq_true] at hG20
  obtain ⟨⟨hG20_0, hG20_1⟩, hG20_2⟩ := hG20
  refine ax_region ?_
  refine al_run tt_ok rfl (by simp_all) ?_
  refine ax_seq ?_
  refine ax_region ?_
  refine al_run tt_ok rfl rfl ?_
  refine ax_seq ?_
  refine ax_seq ?_
  refine ax_region ?_
  refine al_run tt_ok rfl rfl ?_
  obtain ⟨o1, ho1, hk1⟩ := bd h
  refine ax_cutS (fun o1 : (List Int) × (List (List (Int × Int))) => ⟨[(2, .a (.c (.sl 12))), (3, .a (.c (.sl 3)))], [(3, .row 3 (.int .i64) o1.1 none), (12, .row 30 (.sl gNd) o1.2 (some (a0.length : Int).toNat))]⟩) (fun o' => o1 = o') ?_ ?_
  ·
   have h := ho1
   refine ax_block ?_
   refine ax_weak (Wk.pick [4, 15, 2, 3, 13, 14] [3, 12] rfl rfl) ?_
   refine ax_loopL (fun y : Nat × Int × Int × (List Int) × (List (List (Int × Int))) => [(4, .a (.c (.val (.int .i64 y.2.1)))), (15, .a (.c (.val (.int .i64 y.2.2.1))))]) (fun y : Nat × Int × Int × (List Int) × (List (List (Int × Int))) => [(3, .row 3 (.int .i64) y.2.2.2.1 none), (12, .row 30 (.sl gNd) y.2.2.2.2 (some (a0.length : Int).toNat))]) (fun y : Nat × Int × Int × (List Int) × (List (List (Int × Int))) => m_goals_L2 a0 y.1 y.2.1 y.2.2.1 y.2.2.2.1 y.2.2.2.2 = some o1) (fun y : Nat × Int × Int × (List Int) × (List (List (Int × Int))) => y.1) (FUEL, (13 : Int), (0 : Int), ([] : List Int), (List.replicate (a0.length : Int).toNat ([] : (List (Int × Int))))) h ?_
   rintro ⟨n, v2_0, v2_1, v2_2, v2_3⟩ h
   replace h : m_goals_L2 a0 n v2_0 v2_1 v2_2 v2_3 = some o1 := h
   rcases n with _ | n
   · cases (show (none : Option _) = some _ from h)
   rw [m_goals_L2] at h
   try dsimp only
   refine ax_seq ?_
   refine ax_region ?_
   refine al_run tt_ok rfl rfl ?_
   refine ax_seq ?_
   refine ax_cond rfl rfl (fun hc => ?_) (fun hc => ?_)
   ·
    replace h := cond_t hc h
    refine ax_skip ?_
    refine ax_seq ?_
    refine ax_block ?_
    refine ax_seq ?_
    obtain ⟨hG19, h⟩ := gd_some h
    refine ax_region ?_
    refine al_run tt_ok rfl (by simp only [hG19, ob, decide_true, cond_true, cond_false]) ?_
    refine ax_weak (Wk.frzC 6 (.pair (.int .u8) (.pair (.int .u8) (.pair (.int .i64) (.pair (.int .i64) .bool)))) rfl rfl rfl) ?_
    refine ax_seq ?_
    obtain ⟨r3, hr3, h⟩ := bd h
    refine ax_region ?_
    refine al_upto tt_ok rfl rfl ?_
    refine al_callP (w_stmakes _  r3 hr3) rfl ⟨rfl, rfl⟩ rfl Tryd.func36 rfl rfl rfl rfl rfl rfl ?_
    refine al_run tt_ok rfl rfl ?_
    refine ax_seq ?_
    obtain ⟨hG18, h⟩ := gd_some h
    simp only [Bool.and_eq_true] at hG18
    obtain ⟨⟨⟨⟨hG18_0, hG18_1⟩, hG18_2⟩, hG18_3⟩, hG18_4⟩ := hG18
    refine ax_region ?_
    refine al_upN 5 tt_ok rfl (by simp_all) ?_
    refine al_storeH tt_ok rfl ⟨rfl, rfl⟩ rfl rfl rfl (by simp only [hG18_0, hG18_1, hG18_2, hG18_3, hG18_4, ob, decide_true, cond_true, cond_false]) rfl (by simp only [hG18_0, hG18_1, hG18_2, hG18_3, hG18_4, ob, decide_true, cond_true, cond_false]) rfl rfl (by simp only [hG18_0, hG18_1, hG18_2, hG18_3, hG18_4, ob, decide_true, cond_true, cond_false]) ?_
    refine al_run tt_ok rfl (by simp only [hG18_0, hG18_1, hG18_2, hG18_3, hG18_4, ob, decide_true, cond_true, cond_false]) ?_
    refine ax_seq ?_
    refine ax_seq ?_
    obtain ⟨hG17, h⟩ := gd_some h
    refine ax_region ?_
    refine al_upN 3 tt_ok rfl (by simp only [hG17, ob, decide_true, cond_true, cond_false]) ?_
    refine al_loadH tt_ok rfl ⟨rfl, rfl⟩ rfl rfl rfl rfl (by simp only [hG17, ob, decide_true, cond_true, cond_false]) rfl ?_
    refine al_run tt_ok rfl (by simp only [hG17, ob, decide_true, cond_true, cond_false]) ?_
    obtain ⟨o4, ho4, hk4⟩ := bd h
    refine ax_cutS (fun o4 : (List (Int × Int)) => ⟨[(2, .a (.c (.sl 12))), (3, .a (.c (.sl 3))), (4, .a (.c (.val (.int .i64 v2_0)))), (6, .a (.c (.pel (.pair (.int .u8) (.pair (.int .u8) (.pair (.int .i64) (.pair (.int .i64) .bool)))) (a0.getD v2_1.toNat (0, (0, (0, (0, false))))) 0))), (7, .a (.c (.val (.int .i64 r3)))), (13, .a (.c (.lst (.pair (.int .u8) (.pair (.int .u8) (.pair (.int .i64) (.pair (.int .i64) .bool)))) a0 c0))), (14, .a (.c (.val (.int .i64 (a0.length : Int))))), (15, .a (.c (.val (.int .i64 v2_1))))], [(3, .row 3 (.int .i64) v2_2 none), (12, .hrow 30 gNd v2_3 (some (a0.length : Int).toNat) v2_1.toNat 25), (25, .row 39 gNd o4 (some r3.toNat))]⟩) (fun o' => o4 = o') ?_ ?_
    ·
     have h := ho4
     refine ax_block ?_
     refine ax_weak (Wk.pick [32, 2, 3, 4, 5, 6, 7, 13, 14, 15, 31] [25, 3, 12] rfl rfl) ?_
     refine ax_loopL (fun y : Nat × Int × (List (Int × Int)) => [(32, .a (.c (.val (.int .i64 y.2.1))))]) (fun y : Nat × Int × (List (Int × Int)) => [(25, .row 39 gNd y.2.2 (some r3.toNat))]) (fun y : Nat × Int × (List (Int × Int)) => m_goals_L5 a0 v2_0 v2_1 v2_3 r3 y.1 y.2.1 y.2.2 = some o4) (fun y : Nat × Int × (List (Int × Int)) => y.1) (FUEL, (0 : Int), (List.replicate r3.toNat (gNd.zero : (Int × Int)))) h ?_
     rintro ⟨n, v5_0, v5_1⟩ h
     replace h : m_goals_L5 a0 v2_0 v2_1 v2_3 r3 n v5_0 v5_1 = some o4 := h
     rcases n with _ | n
     · cases (show (none : Option _) = some _ from h)
     rw [m_goals_L5] at h
     try dsimp only
     refine ax_seq ?_
     refine ax_region ?_
     refine al_run tt_ok rfl rfl ?_
     refine ax_seq ?_
     refine ax_cond rfl rfl (fun hc => ?_) (fun hc => ?_)
     ·
      replace h := cond_t hc h
      refine ax_skip ?_
      refine ax_seq ?_
      refine ax_block ?_
      refine ax_seq ?_
      refine ax_region ?_
      refine al_run tt_ok rfl rfl ?_
      obtain ⟨hG8, h⟩ := gd_some h
      obtain ⟨r6, hr6, h⟩ := bd h
      obtain ⟨hG9, h⟩ := gd_some h
      simp only [Bool.and_eq_true] at hG9
      obtain ⟨⟨hG9_0, hG9_1⟩, hG9_2⟩ := hG9
      apply ax_cut
      ·
        refine ax_draw [] (by kernel_rfl) rfl (N := 13) ?_
        refine ad_run (fuel := 5) (ds' := ⟨#[true, true, true, false, true, true, false, true, true, true, false, false, false], true, true, true⟩) tt_ok [(0, 0), (1, 0), (2, 0), (4, 0), (5, 1), (7, 0), (8, 0), (9, 0)] (by kernel_rfl) rfl (by simp only [hG8, hG9_0, hG9_1, hG9_2, ob, decide_true, cond_true, cond_false]) ?_
        refine ad_ready (by kernel_rfl) (ads_cons (i := 3) ?_ (ads_cons (i := 6) ?_ ads_nil))
        ·
          refine ado_pk (i := 3) (l' := #[true, true, true, true, true, true, false, true, true, true, false, false, false]) rfl (pk_loadH tt_ok rfl rfl rfl rfl (by simp only [hG8, hG9_0, hG9_1, hG9_2, ob, decide_true, cond_true, cond_false]) rfl) ⟨rfl, rfl⟩ rfl rfl rfl ?_
          refine ad_ready (by kernel_rfl) (ads_cons (i := 6) ?_ ads_nil)
          refine ado_of rfl ?_
          refine adx_call (i := 6) (listed' := #[true, true, true, true, true, true, true, true, true, true, false, false, false]) (pre' := false) [] (w_stbed _  r6 hr6) rfl rfl rfl rfl ⟨rfl, rfl⟩ rfl Tryd.func49 rfl rfl rfl (by simp only [hG8, hG9_0, hG9_1, hG9_2, ob, decide_true, cond_true, cond_false]) rfl rfl PassH.nil ?_
          rintro _ _ ⟨rfl, rfl⟩
          refine ⟨_, _, rfl, rfl, ?_⟩
          refine ad_run (fuel := 0) (ds' := ⟨#[true, true, true, true, true, true, true, true, true, true, true, true, true], false, false, false⟩) tt_ok [(10, 0), (11, 0), (12, 2)] (by kernel_rfl) rfl (by simp only [hG8, hG9_0, hG9_1, hG9_2, ob, decide_true, cond_true, cond_false]) ?_
          refine ad_done (by kernel_rfl) ?_
          exact ⟨rfl, Wk.pick [2, 3, 4, 5, 6, 7, 13, 14, 15, 31, 32] [3, 12, 25] rfl rfl⟩
        ·
          refine ado_of rfl ?_
          refine adx_call (i := 6) (listed' := #[true, true, true, false, true, true, true, true, true, true, false, false, false]) (pre' := true) [] (w_stbed _  r6 hr6) rfl rfl rfl rfl ⟨rfl, rfl⟩ rfl Tryd.func49 rfl rfl rfl (by simp only [hG8, hG9_0, hG9_1, hG9_2, ob, decide_true, cond_true, cond_false]) rfl rfl PassH.nil ?_
          rintro _ _ ⟨rfl, rfl⟩
          refine ⟨_, _, rfl, rfl, ?_⟩
          refine ad_run (fuel := 3) (ds' := ⟨#[true, true, true, false, true, true, true, true, true, true, true, false, false], false, true, false⟩) tt_ok [(10, 0)] (by kernel_rfl) rfl (by simp only [hG8, hG9_0, hG9_1, hG9_2, ob, decide_true, cond_true, cond_false]) ?_
          refine ad_ready (by kernel_rfl) (ads_cons (i := 3) ?_ ads_nil)
          refine ado_pk (i := 3) (l' := #[true, true, true, true, true, true, true, true, true, true, true, false, false]) rfl (pk_loadH tt_ok rfl rfl rfl rfl (by simp only [hG8, hG9_0, hG9_1, hG9_2, ob, decide_true, cond_true, cond_false]) rfl) ⟨rfl, rfl⟩ rfl rfl rfl ?_
          refine ad_run (fuel := 0) (ds' := ⟨#[true, true, true, true, true, true, true, true, true, true, true, true, true], false, false, false⟩) tt_ok [(11, 0), (12, 2)] (by kernel_rfl) rfl (by simp only [hG8, hG9_0, hG9_1, hG9_2, ob, decide_true, cond_true, cond_false]) ?_
          refine ad_done (by kernel_rfl) ?_
          exact ⟨rfl, Wk.pick [2, 3, 4, 5, 6, 7, 13, 14, 15, 31, 32] [3, 12, 25] rfl rfl⟩
      obtain ⟨hG7, h⟩ := gd_some h
      refine ax_region ?_
      refine al_run tt_ok rfl (by simp only [hG7, ob, decide_true, cond_true, cond_false]) ?_
      refine ⟨(n, _, _), h, Nat.lt_succ_self _, (Wk.pick [32, 2, 3, 4, 5, 6, 7, 13, 14, 15, 31] [25, 3, 12] rfl rfl)⟩
     ·
      replace h := cond_f hc h
      refine ax_exit ?_
      exact ⟨_, (Option.some.inj h).symm, (Wk.pick [2, 3, 4, 6, 7, 13, 14, 15] [3, 12, 25] rfl rfl)⟩
    ·
     rintro _ rfl
     have h := hk4
     refine ax_seq ?_
     refine ax_seq ?_
     obtain ⟨r10, hr10, h⟩ := bd h
     refine ax_region ?_
     refine al_upto tt_ok rfl rfl ?_
     refine al_callP (w_stneeds _  r10 hr10) rfl ⟨rfl, rfl⟩ rfl Tryd.func25 rfl rfl rfl rfl rfl rfl ?_
     refine al_run tt_ok rfl rfl ?_
     obtain ⟨o11, ho11, hk11⟩ := bd h
     refine ax_cutS (fun o11 : (List Int) => ⟨[(2, .a (.c (.sl 12))), (3, .a (.c (.sl 3))), (4, .a (.c (.val (.int .i64 v2_0)))), (7, .a (.c (.val (.int .i64 r3)))), (13, .a (.c (.lst (.pair (.int .u8) (.pair (.int .u8) (.pair (.int .i64) (.pair (.int .i64) .bool)))) a0 c0))), (14, .a (.c (.val (.int .i64 (a0.length : Int))))), (15, .a (.c (.val (.int .i64 v2_1))))], [(3, .row 3 (.int .i64) o11 none), (12, .hrow 30 gNd v2_3 (some (a0.length : Int).toNat) v2_1.toNat 25), (25, .row 39 gNd o4 (some r3.toNat))]⟩) (fun o' => o11 = o') ?_ ?_
     ·
      have h := ho11
      refine ax_block ?_
      refine ax_weak (Wk.pick [50, 2, 3, 4, 7, 13, 14, 15, 49] [3, 12, 25] rfl rfl) ?_
      refine ax_loopL (fun y : Nat × Int × (List Int) => [(50, .a (.c (.val (.int .i64 y.2.1))))]) (fun y : Nat × Int × (List Int) => [(3, .row 3 (.int .i64) y.2.2 none)]) (fun y : Nat × Int × (List Int) => m_goals_L12 v2_0 r3 r10 y.1 y.2.1 y.2.2 = some o11) (fun y : Nat × Int × (List Int) => y.1) (FUEL, (0 : Int), v2_2) h ?_
      rintro ⟨n, v12_0, v12_1⟩ h
      replace h : m_goals_L12 v2_0 r3 r10 n v12_0 v12_1 = some o11 := h
      rcases n with _ | n
      · cases (show (none : Option _) = some _ from h)
      rw [m_goals_L12] at h
      try dsimp only
      refine ax_seq ?_
      refine ax_region ?_
      refine al_run tt_ok rfl rfl ?_
      refine ax_seq ?_
      refine ax_cond rfl rfl (fun hc => ?_) (fun hc => ?_)
      ·
       replace h := cond_t hc h
       refine ax_skip ?_
       refine ax_seq ?_
       refine ax_block ?_
       refine ax_seq ?_
       refine ax_region ?_
       refine al_run tt_ok rfl rfl ?_
       obtain ⟨hG14, h⟩ := gd_some h
       simp only [Bool.and_eq_true] at hG14
       obtain ⟨⟨hG14_0, hG14_1⟩, hG14_2⟩ := hG14
       refine ax_region ?_
       refine al_run tt_ok rfl (by simp only [hG14_0, hG14_1, hG14_2, ob, decide_true, cond_true, cond_false]) ?_
       obtain ⟨hG13, h⟩ := gd_some h
       refine ax_region ?_
       refine al_run tt_ok rfl (by simp only [hG13, ob, decide_true, cond_true, cond_false]) ?_
       refine ⟨(n, _, _), h, Nat.lt_succ_self _, (Wk.pick [50, 2, 3, 4, 7, 13, 14, 15, 49] [3, 12, 25] rfl rfl)⟩
      ·
       replace h := cond_f hc h
       refine ax_exit ?_
       exact ⟨_, (Option.some.inj h).symm, (Wk.pick [2, 3, 4, 7, 13, 14, 15] [3, 12, 25] rfl rfl)⟩
     ·
      rintro _ rfl
      have h := hk11
      obtain ⟨hG16, h⟩ := gd_some h
      refine ax_region ?_
      refine al_run tt_ok rfl (by simp only [hG16, ob, decide_true, cond_true, cond_false]) ?_
      obtain ⟨hG15, h⟩ := gd_some h
      refine ax_region ?_
      refine al_run tt_ok rfl (by simp only [hG15, ob, decide_true, cond_true, cond_false]) ?_
      refine ⟨(n, _, _, _, _), h, Nat.lt_succ_self _, (Wk.trans (Wk.frz (id := 25) rfl) (Wk.pick [4, 15, 2, 3, 13, 14] [3, 12] rfl rfl))⟩
   ·
    replace h := cond_f hc h
    refine ax_exit ?_
    exact ⟨_, (Option.some.inj h).symm, (Wk.pick [2, 3] [3, 12] rfl rfl)⟩
  ·
   rintro _ rfl
   have h := hk1
   refine ax_seq ?_
   refine ax_region ?_
   refine al_run tt_ok rfl rfl ?_
   refine ax_ret ?_
   obtain rfl := Option.some.inj h
   refine ⟨_, (Wk.trans (Wk.frz (id := 12) rfl) (Wk.pick [2, 3] [3] rfl rfl)), _, _, rfl, rfl, ?_⟩
   exact ⟨rfl, rfl⟩
end Go.Proofs.YtihcolehefloeaaDoor

/- Cables: models. -/
namespace Go.Proofs.YtihcolehefloeaaDoor
set_option linter.unusedSimpArgs false
set_option linter.unusedVariables false
open Go.RowKit
def m_leftbehind_L3 (a0 : (List Int)) (a1 : Int) (a2 : Int) (a3 : Int) : Nat → Int → (List Int) → Option ((List Int))
  | 0, _, _ => none
  | n + 1, v3_0, v3_1 =>
    cond (decide (v3_0 < (a2 + a3))) (gd ((inI64 (a1 + v3_0)) && (inI64 ((a0.getD a1.toNat 0) + v3_0)) && (inB (a1 + v3_0) v3_1.length) && (decide ((a1 + v3_0).toNat < v3_1.length))) <|
    gd ((inI64 (v3_0 + (1 : Int)))) <|
    m_leftbehind_L3 a0 a1 a2 a3 n (v3_0 + (1 : Int)) (v3_1.set (a1 + v3_0).toNat ((a0.getD a1.toNat 0) + v3_0))) (some v3_1)
def m_leftbehind_L7 (a0 : (List Int)) : Nat → Int → Int → (List Int) → Option (Int × (List Int))
  | 0, _, _, _ => none
  | n + 1, v7_0, v7_1, v7_2 =>
    cond (decide (v7_0 < (a0.length : Int))) (gd ((inB v7_0 a0.length)) <|
    Option.bind (m_lbk (a0.getD v7_0.toNat 0) v7_1) fun r8 =>
    gd ((inB v7_0 v7_2.length) && (decide (v7_0.toNat < v7_2.length))) <|
    gd ((inI64 (v7_0 + (1 : Int)))) <|
    m_leftbehind_L7 a0 n (v7_0 + (1 : Int)) r8.2 (v7_2.set v7_0.toNat r8.1)) (some (v7_1, v7_2))
def m_leftbehind_L15 (a0 : (List Int)) (a1 : Int) (a2 : Int) (a3 : Int) : Nat → Int → (List Int) → Option ((List Int))
  | 0, _, _ => none
  | n + 1, v15_0, v15_1 =>
    cond (decide (v15_0 < (a2 + a3))) (gd ((inI64 (a1 + v15_0)) && (inI64 ((a0.getD a1.toNat 0) + a2)) && (inI64 (((a0.getD a1.toNat 0) + a2) + v15_0)) && (inB (a1 + v15_0) v15_1.length) && (decide ((a1 + v15_0).toNat < v15_1.length))) <|
    gd ((inI64 (v15_0 + (1 : Int)))) <|
    m_leftbehind_L15 a0 a1 a2 a3 n (v15_0 + (1 : Int)) (v15_1.set (a1 + v15_0).toNat (((a0.getD a1.toNat 0) + a2) + v15_0))) (some v15_1)
def m_leftbehind (a0 : (List Int)) (a1 : Int) (a2 : Int) (a3 : Int) : Option (((List Int) × ((List Int) × (Int × (List Int)))) × Bool) :=
    gd ((inB a1 a0.length)) <|
    Option.bind (m_clone a0) fun r1 =>
    gd ((inI64 (a2 + a3))) <|
    gd ((inI64 (a2 + a3))) <|
    Option.bind (m_leftbehind_L3 a0 a1 a2 a3 FUEL (0 : Int) r1) fun o2 =>
    gd ((inI64 ((2 : Int) * a2)) && (inI64 ((a0.getD a1.toNat 0) + ((2 : Int) * a2))) && (inI64 (((a0.getD a1.toNat 0) + ((2 : Int) * a2)) + a3))) <|
    gd ((inI64 (a1 + a2)) && (inI64 ((a1 + a2) + a3))) <|
    Option.bind (m_leftbehind_L7 a0 FUEL ((a1 + a2) + a3) (((a0.getD a1.toNat 0) + ((2 : Int) * a2)) + a3) o2) fun o6 =>
    gd ((inI64 (a1 + a2)) && (decide (0 ≤ a1)) && (decide (a1 ≤ (a1 + a2))) && (decide ((a1 + a2) ≤ (o6.2.length : Int)))) <|
    Option.bind (m_clone ((o6.2.take (a1 + a2).toNat).drop a1.toNat)) fun r12 =>
    Option.bind (m_clone o6.2) fun r13 =>
    gd ((inI64 (a2 + a3))) <|
    Option.bind (m_leftbehind_L15 a0 a1 a2 a3 FUEL (0 : Int) r13) fun o14 =>
    gd ((inI64 (o6.1 - (1 : Int)))) <|
    some ((o6.2, (r12, ((a2 + a3), o14))), (decide ((o6.1 - (1 : Int)) ≤ (40 : Int))))
set_option maxRecDepth 20000 in
set_option maxHeartbeats 4000000 in
theorem w_leftbehind (a0 : (List Int)) (a1 : Int) (a2 : Int) (a3 : Int) (c0 : Option Nat) (r : (((List Int) × ((List Int) × (Int × (List Int)))) × Bool)) (h : m_leftbehind a0 a1 a2 a3 = some r) : AC cx 33 [.c (.lst (.int .i64) a0 c0), .c (.val (.int .i64 a1)), .c (.val (.int .i64 a2)), .c (.val (.int .i64 a3))] [] (fun sv h => sv = .tup [.agg [.lst (.int .i64) r.1.1 none, .lst (.int .i64) r.1.2.1 none, .val (.int .i64 r.1.2.2.1), .lst (.int .i64) r.1.2.2.2 none], .c (.val (.bool r.2))] ∧ h = []) := by
  apply AC.forgetV
  unfold m_leftbehind at h
  refine ac_body tt_ok Tryd.func33 rfl Tryd.ntmps33 rfl rfl (res := [.cell 8 90, .tmp 9]) rfl ?_
  refine ax_seq ?_
  refine ax_region ?_
  refine al_run tt_ok rfl rfl ?_
  refine ax_seq ?_
  obtain ⟨hG25, h⟩ := gd_some h
  refine ax_region ?_
  refine al_run tt_ok rfl (by simp only [hG25, ob, decide_true, cond_true, cond_false]) ?_
  refine ax_seq ?_
  obtain ⟨r1, hr1, h⟩ := bd h
  obtain ⟨hG24, h⟩ := gd_some h
  refine ax_region ?_
  refine al_upto tt_ok rfl (by simp only [hG24, ob, decide_true, cond_true, cond_false]) ?_
  refine al_call [(5, 22)] (w_clone _ c0 r1 hr1) rfl ⟨rfl, rfl⟩ rfl Tryd.func58 rfl rfl rfl (by simp only [hG24, ob, decide_true, cond_true, cond_false]) rfl rfl PassH.nil ?_
  rintro _ _ ⟨rfl, rfl⟩
  refine ⟨_, _, rfl, rfl, ?_⟩
  refine al_run tt_ok rfl (by simp only [hG24, ob, decide_true, cond_true, cond_false]) ?_
  refine ax_seq ?_
  refine ax_seq ?_
  obtain ⟨hG23, h⟩ := gd_some h
  refine ax_region ?_
  refine al_run tt_ok rfl (by simp only [hG23, ob, decide_true, cond_true, cond_false]) ?_
  obtain ⟨o2, ho2, hk2⟩ := bd h
  refine ax_cutS (fun o2 : (List Int) => ⟨[(0, .a (.c (.lst (.int .i64) a0 c0))), (1, .a (.c (.val (.int .i64 a1)))), (2, .a (.c (.val (.int .i64 a2)))), (3, .a (.c (.val (.int .i64 a3)))), (8, .a (.c (.ptr 8 0))), (10, .a (.c (.val (.int .i64 (a0.getD a1.toNat 0))))), (11, .a (.c (.ptr 11 0)))], [(8, .cells 90 [.val (.slice none 0 0), .val (.slice none 0 0), .val (.int .i64 (0 : Int)), .val (.slice none 0 0)]), (11, .cells 90 [.sl 22, .val (.slice none 0 0), .val (.int .i64 (a2 + a3)), .val (.slice none 0 0)]), (22, .row 3 (.int .i64) o2 none)]⟩) (fun o' => o2 = o') ?_ ?_
  ·
   have h := ho2
   refine ax_block ?_
   refine ax_weak (Wk.pick [30, 0, 1, 2, 3, 8, 10, 11, 29] [22, 8, 11] rfl rfl) ?_
   refine ax_loopL (fun y : Nat × Int × (List Int) => [(30, .a (.c (.val (.int .i64 y.2.1))))]) (fun y : Nat × Int × (List Int) => [(22, .row 3 (.int .i64) y.2.2 none)]) (fun y : Nat × Int × (List Int) => m_leftbehind_L3 a0 a1 a2 a3 y.1 y.2.1 y.2.2 = some o2) (fun y : Nat × Int × (List Int) => y.1) (FUEL, (0 : Int), r1) h ?_
   rintro ⟨n, v3_0, v3_1⟩ h
   replace h : m_leftbehind_L3 a0 a1 a2 a3 n v3_0 v3_1 = some o2 := h
   rcases n with _ | n
   · cases (show (none : Option _) = some _ from h)
   rw [m_leftbehind_L3] at h
   try dsimp only
   refine ax_seq ?_
   refine ax_region ?_
   refine al_run tt_ok rfl rfl ?_
   refine ax_seq ?_
   refine ax_cond rfl rfl (fun hc => ?_) (fun hc => ?_)
   ·
    replace h := cond_t hc h
    refine ax_skip ?_
    refine ax_seq ?_
    refine ax_block ?_
    refine ax_seq ?_
    refine ax_region ?_
    refine al_run tt_ok rfl rfl ?_
    obtain ⟨hG5, h⟩ := gd_some h
    simp only [Bool.and_eq_true] at hG5
    obtain ⟨⟨⟨hG5_0, hG5_1⟩, hG5_2⟩, hG5_3⟩ := hG5
    refine ax_region ?_
    refine al_run tt_ok rfl (by simp only [hG5_0, hG5_1, hG5_2, hG5_3, ob, decide_true, cond_true, cond_false]) ?_
    obtain ⟨hG4, h⟩ := gd_some h
    refine ax_region ?_
    refine al_run tt_ok rfl (by simp only [hG4, ob, decide_true, cond_true, cond_false]) ?_
    refine ⟨(n, _, _), h, Nat.lt_succ_self _, (Wk.pick [30, 0, 1, 2, 3, 8, 10, 11, 29] [22, 8, 11] rfl rfl)⟩
   ·
    replace h := cond_f hc h
    refine ax_exit ?_
    exact ⟨_, (Option.some.inj h).symm, (Wk.pick [0, 1, 2, 3, 8, 10, 11] [8, 11, 22] rfl rfl)⟩
  ·
   rintro _ rfl
   have h := hk2
   refine ax_seq ?_
   obtain ⟨hG22, h⟩ := gd_some h
   simp only [Bool.and_eq_true] at hG22
   obtain ⟨⟨hG22_0, hG22_1⟩, hG22_2⟩ := hG22
   refine ax_region ?_
   refine al_run tt_ok rfl (by simp only [hG22_0, hG22_1, hG22_2, ob, decide_true, cond_true, cond_false]) ?_
   refine ax_seq ?_
   refine ax_region ?_
   refine al_run tt_ok rfl rfl ?_
   refine ax_seq ?_
   refine ax_seq ?_
   obtain ⟨hG21, h⟩ := gd_some h
   simp only [Bool.and_eq_true] at hG21
   obtain ⟨hG21_0, hG21_1⟩ := hG21
   refine ax_region ?_
   refine al_run tt_ok rfl (by simp only [hG21_0, hG21_1, ob, decide_true, cond_true, cond_false]) ?_
   obtain ⟨o6, ho6, hk6⟩ := bd h
   refine ax_cutS (fun o6 : Int × (List Int) => ⟨[(1, .a (.c (.val (.int .i64 a1)))), (2, .a (.c (.val (.int .i64 a2)))), (3, .a (.c (.val (.int .i64 a3)))), (8, .a (.c (.ptr 8 0))), (10, .a (.c (.val (.int .i64 (a0.getD a1.toNat 0))))), (11, .a (.c (.ptr 11 0))), (13, .a (.c (.ptr 13 0)))], [(8, .cells 90 [.val (.slice none 0 0), .val (.slice none 0 0), .val (.int .i64 (0 : Int)), .val (.slice none 0 0)]), (11, .cells 90 [.sl 22, .val (.slice none 0 0), .val (.int .i64 (a2 + a3)), .val (.slice none 0 0)]), (13, .cells 3 [.val (.int .i64 o6.1)]), (22, .row 3 (.int .i64) o6.2 none)]⟩) (fun o' => o6 = o') ?_ ?_
   ·
    have h := ho6
    refine ax_block ?_
    refine ax_weak (Wk.pick [15, 0, 1, 2, 3, 8, 10, 11, 13, 14] [13, 22, 8, 11] rfl rfl) ?_
    refine ax_loopL (fun y : Nat × Int × Int × (List Int) => [(15, .a (.c (.val (.int .i64 y.2.1))))]) (fun y : Nat × Int × Int × (List Int) => [(13, .cells 3 [.val (.int .i64 y.2.2.1)]), (22, .row 3 (.int .i64) y.2.2.2 none)]) (fun y : Nat × Int × Int × (List Int) => m_leftbehind_L7 a0 y.1 y.2.1 y.2.2.1 y.2.2.2 = some o6) (fun y : Nat × Int × Int × (List Int) => y.1) (FUEL, ((a1 + a2) + a3), (((a0.getD a1.toNat 0) + ((2 : Int) * a2)) + a3), o2) h ?_
    rintro ⟨n, v7_0, v7_1, v7_2⟩ h
    replace h : m_leftbehind_L7 a0 n v7_0 v7_1 v7_2 = some o6 := h
    rcases n with _ | n
    · cases (show (none : Option _) = some _ from h)
    rw [m_leftbehind_L7] at h
    try dsimp only
    refine ax_seq ?_
    refine ax_seq ?_
    refine ax_region ?_
    refine al_run tt_ok rfl rfl ?_
    refine ax_cond rfl rfl (fun hc => ?_) (fun hc => ?_)
    ·
     replace h := cond_t hc h
     refine ax_skip ?_
     refine ax_seq ?_
     refine ax_block ?_
     obtain ⟨hG10, h⟩ := gd_some h
     obtain ⟨r8, hr8, h⟩ := bd h
     obtain ⟨hG11, h⟩ := gd_some h
     simp only [Bool.and_eq_true] at hG11
     obtain ⟨hG11_0, hG11_1⟩ := hG11
     apply ax_cut
     ·
       refine ax_draw [] (by kernel_rfl) rfl (N := 11) ?_
       refine ad_run (fuel := 4) (ds' := ⟨#[true, false, true, true, true, true, true, true, false, false, false], true, true, true⟩) tt_ok [(0, 0), (2, 0), (3, 0), (4, 0), (5, 0), (6, 0), (7, 1)] (by kernel_rfl) rfl (by simp only [hG10, hG11_0, hG11_1, ob, decide_true, cond_true, cond_false]) ?_
       refine ad_ready (by kernel_rfl) (ads_cons (i := 1) ?_ (ads_cons (i := 8) ?_ ads_nil))
       ·
         refine ado_step tt_ok (i := 1) rfl rfl rfl (by simp only [hG10, hG11_0, hG11_1, ob, decide_true, cond_true, cond_false]) rfl ?_
         refine ad_ready (by kernel_rfl) (ads_cons (i := 8) ?_ ads_nil)
         refine ado_of rfl ?_
         refine adx_callV (i := 8) (listed' := #[true, true, true, true, true, true, true, true, true, false, false]) (pre' := false) [(1000000, 13)] (w_lbk _ _  r8 hr8) rfl rfl rfl rfl ⟨rfl, rfl⟩ rfl rfl Tryd.func62 rfl rfl rfl (by simp only [hG10, hG11_0, hG11_1, ob, decide_true, cond_true, cond_false]) rfl rfl (PassH.cons rfl rfl rfl PassH.nil) ?_
         rintro _ _ ⟨rfl, rfl⟩
         refine ⟨_, _, rfl, rfl, ?_⟩
         refine ad_run (fuel := 0) (ds' := ⟨#[true, true, true, true, true, true, true, true, true, true, true], false, false, false⟩) tt_ok [(9, 0), (10, 2)] (by kernel_rfl) rfl (by simp only [hG10, hG11_0, hG11_1, ob, decide_true, cond_true, cond_false]) ?_
         refine ad_done (by kernel_rfl) ?_
         exact ⟨rfl, Wk.pick [0, 1, 2, 3, 8, 10, 11, 13, 14, 15] [8, 11, 13, 22] rfl rfl⟩
       ·
         refine ado_of rfl ?_
         refine adx_callV (i := 8) (listed' := #[true, false, true, true, true, true, true, true, true, false, false]) (pre' := false) [(1000000, 13)] (w_lbk _ _  r8 hr8) rfl rfl rfl rfl ⟨rfl, rfl⟩ rfl rfl Tryd.func62 rfl rfl rfl (by simp only [hG10, hG11_0, hG11_1, ob, decide_true, cond_true, cond_false]) rfl rfl (PassH.cons rfl rfl rfl PassH.nil) ?_
         rintro _ _ ⟨rfl, rfl⟩
         refine ⟨_, _, rfl, rfl, ?_⟩
         refine ad_run (fuel := 0) (ds' := ⟨#[true, true, true, true, true, true, true, true, true, true, true], false, false, false⟩) tt_ok [(1, 2), (9, 0), (10, 2)] (by kernel_rfl) rfl (by simp only [hG10, hG11_0, hG11_1, ob, decide_true, cond_true, cond_false]) ?_
         refine ad_done (by kernel_rfl) ?_
         exact ⟨rfl, Wk.pick [0, 1, 2, 3, 8, 10, 11, 13, 14, 15] [8, 11, 13, 22] rfl rfl⟩
     obtain ⟨hG9, h⟩ := gd_some h
     refine ax_region ?_
     refine al_run tt_ok rfl (by simp only [hG9, ob, decide_true, cond_true, cond_false]) ?_
     refine ⟨(n, _, _, _), h, Nat.lt_succ_self _, (Wk.pick [15, 0, 1, 2, 3, 8, 10, 11, 13, 14] [13, 22, 8, 11] rfl rfl)⟩
    ·
     replace h := cond_f hc h
     refine ax_exit ?_
     exact ⟨_, (Option.some.inj h).symm, (Wk.pick [1, 2, 3, 8, 10, 11, 13] [8, 11, 13, 22] rfl rfl)⟩
   ·
    rintro _ rfl
    have h := hk6
    refine ax_seq ?_
    obtain ⟨hG20, h⟩ := gd_some h
    simp only [Bool.and_eq_true] at hG20
    obtain ⟨⟨⟨hG20_0, hG20_1⟩, hG20_2⟩, hG20_3⟩ := hG20
    obtain ⟨r12, hr12, h⟩ := bd h
    refine ax_region ?_
    refine al_upN 6 tt_ok rfl (by simp only [hG20_0, hG20_1, hG20_2, hG20_3, ob, decide_true, cond_true, cond_false]) ?_
    refine al_weak (Wk.frz (id := 22) rfl) ?_
    refine al_upto tt_ok rfl (by simp only [hG20_0, hG20_1, hG20_2, hG20_3, ob, decide_true, cond_true, cond_false]) ?_
    refine al_call [(5, 78)] (w_clone _ none r12 hr12) rfl ⟨rfl, rfl⟩ rfl Tryd.func58 rfl rfl rfl (by simp only [hG20_0, hG20_1, hG20_2, hG20_3, ob, decide_true, cond_true, cond_false]) rfl rfl PassH.nil ?_
    rintro _ _ ⟨rfl, rfl⟩
    refine ⟨_, _, rfl, rfl, ?_⟩
    refine al_run tt_ok rfl (by simp only [hG20_0, hG20_1, hG20_2, hG20_3, ob, decide_true, cond_true, cond_false]) ?_
    refine ax_seq ?_
    obtain ⟨r13, hr13, h⟩ := bd h
    refine ax_region ?_
    refine al_upto tt_ok rfl rfl ?_
    refine al_call [(5, 82)] (w_clone _ none r13 hr13) rfl ⟨rfl, rfl⟩ rfl Tryd.func58 rfl rfl rfl rfl rfl rfl PassH.nil ?_
    rintro _ _ ⟨rfl, rfl⟩
    refine ⟨_, _, rfl, rfl, ?_⟩
    refine al_run tt_ok rfl rfl ?_
    refine ax_seq ?_
    refine ax_seq ?_
    obtain ⟨hG19, h⟩ := gd_some h
    refine ax_region ?_
    refine al_run tt_ok rfl (by simp only [hG19, ob, decide_true, cond_true, cond_false]) ?_
    obtain ⟨o14, ho14, hk14⟩ := bd h
    refine ax_cutS (fun o14 : (List Int) => ⟨[(8, .a (.c (.ptr 8 0))), (11, .a (.c (.ptr 11 0))), (13, .a (.c (.ptr 13 0)))], [(8, .cells 90 [.val (.slice none 0 0), .val (.slice none 0 0), .val (.int .i64 (0 : Int)), .val (.slice none 0 0)]), (11, .cells 90 [.lst (.int .i64) o6.2 none, .sl 78, .val (.int .i64 (a2 + a3)), .sl 82]), (13, .cells 3 [.val (.int .i64 o6.1)]), (78, .row 3 (.int .i64) r12 none), (82, .row 3 (.int .i64) o14 none)]⟩) (fun o' => o14 = o') ?_ ?_
    ·
     have h := ho14
     refine ax_block ?_
     refine ax_weak (Wk.pick [87, 1, 2, 8, 10, 11, 13, 86] [82, 8, 11, 13, 78] rfl rfl) ?_
     refine ax_loopL (fun y : Nat × Int × (List Int) => [(87, .a (.c (.val (.int .i64 y.2.1))))]) (fun y : Nat × Int × (List Int) => [(82, .row 3 (.int .i64) y.2.2 none)]) (fun y : Nat × Int × (List Int) => m_leftbehind_L15 a0 a1 a2 a3 y.1 y.2.1 y.2.2 = some o14) (fun y : Nat × Int × (List Int) => y.1) (FUEL, (0 : Int), r13) h ?_
     rintro ⟨n, v15_0, v15_1⟩ h
     replace h : m_leftbehind_L15 a0 a1 a2 a3 n v15_0 v15_1 = some o14 := h
     rcases n with _ | n
     · cases (show (none : Option _) = some _ from h)
     rw [m_leftbehind_L15] at h
     try dsimp only
     refine ax_seq ?_
     refine ax_region ?_
     refine al_run tt_ok rfl rfl ?_
     refine ax_seq ?_
     refine ax_cond rfl rfl (fun hc => ?_) (fun hc => ?_)
     ·
      replace h := cond_t hc h
      refine ax_skip ?_
      refine ax_seq ?_
      refine ax_block ?_
      refine ax_seq ?_
      refine ax_region ?_
      refine al_run tt_ok rfl rfl ?_
      obtain ⟨hG17, h⟩ := gd_some h
      simp only [Bool.and_eq_true] at hG17
      obtain ⟨⟨⟨⟨hG17_0, hG17_1⟩, hG17_2⟩, hG17_3⟩, hG17_4⟩ := hG17
      refine ax_region ?_
      refine al_run tt_ok rfl (by simp only [hG17_0, hG17_1, hG17_2, hG17_3, hG17_4, ob, decide_true, cond_true, cond_false]) ?_
      obtain ⟨hG16, h⟩ := gd_some h
      refine ax_region ?_
      refine al_run tt_ok rfl (by simp only [hG16, ob, decide_true, cond_true, cond_false]) ?_
      refine ⟨(n, _, _), h, Nat.lt_succ_self _, (Wk.pick [87, 1, 2, 8, 10, 11, 13, 86] [82, 8, 11, 13, 78] rfl rfl)⟩
     ·
      replace h := cond_f hc h
      refine ax_exit ?_
      exact ⟨_, (Option.some.inj h).symm, (Wk.pick [8, 11, 13] [8, 11, 13, 78, 82] rfl rfl)⟩
    ·
     rintro _ rfl
     have h := hk14
     refine ax_seq ?_
     obtain ⟨hG18, h⟩ := gd_some h
     apply ax_cut
     ·
       refine ax_draw [] (by kernel_rfl) rfl (N := 6) ?_
       refine ad_ready (by kernel_rfl) (ads_cons (i := 0) ?_ (ads_cons (i := 1) ?_ ads_nil))
       ·
         refine ado_step tt_ok (i := 0) rfl rfl rfl (by simp only [hG18, ob, decide_true, cond_true, cond_false]) rfl ?_
         refine ad_ready (by kernel_rfl) (ads_cons (i := 1) ?_ (ads_cons (i := 4) ?_ ads_nil))
         ·
           refine ado_step tt_ok (i := 1) rfl rfl rfl (by simp only [hG18, ob, decide_true, cond_true, cond_false]) rfl ?_
           refine ad_run (fuel := 0) (ds' := ⟨#[true, true, true, true, true, true], false, false, true⟩) tt_ok [(2, 0), (3, 0), (4, 2), (5, 0)] (by kernel_rfl) rfl (by simp only [hG18, ob, decide_true, cond_true, cond_false]) ?_
           refine ad_done (by kernel_rfl) ?_
           exact ⟨rfl, Wk.pick [8, 9] [8, 78, 82] rfl rfl⟩
         ·
           refine ado_step tt_ok (i := 4) rfl rfl rfl (by simp only [hG18, ob, decide_true, cond_true, cond_false]) rfl ?_
           refine ad_run (fuel := 0) (ds' := ⟨#[true, true, true, true, true, true], false, false, true⟩) tt_ok [(1, 2), (2, 0), (3, 0), (5, 0)] (by kernel_rfl) rfl (by simp only [hG18, ob, decide_true, cond_true, cond_false]) ?_
           refine ad_done (by kernel_rfl) ?_
           exact ⟨rfl, Wk.pick [8, 9] [8, 78, 82] rfl rfl⟩
       ·
         refine ado_step tt_ok (i := 1) rfl rfl rfl (by simp only [hG18, ob, decide_true, cond_true, cond_false]) rfl ?_
         refine ad_run (fuel := 0) (ds' := ⟨#[true, true, true, true, true, true], false, false, true⟩) tt_ok [(2, 0), (3, 0), (0, 2), (4, 2), (5, 0)] (by kernel_rfl) rfl (by simp only [hG18, ob, decide_true, cond_true, cond_false]) ?_
         refine ad_done (by kernel_rfl) ?_
         exact ⟨rfl, Wk.pick [8, 9] [8, 78, 82] rfl rfl⟩
     refine ax_ret ?_
     obtain rfl := Option.some.inj h
     refine ⟨_, (Wk.trans (Wk.frz (id := 78) rfl) (Wk.trans (Wk.frz (id := 82) rfl) (Wk.pick [8, 9] [8] rfl rfl))), _, _, rfl, rfl, ?_⟩
     exact rfl
def m_leftinfront_L3 (a0 : (List Int)) (a1 : Int) (a2 : Int) (a3 : Int) : Nat → Int → (List Int) → Option ((List Int))
  | 0, _, _ => none
  | n + 1, v3_0, v3_1 =>
    cond (decide (v3_0 < (a2 + a3))) (gd ((inI64 (a1 + v3_0)) && (inI64 ((a0.getD (((a1 + a2) + a3) - (1 : Int)).toNat 0) - a2)) && (inI64 (((a0.getD (((a1 + a2) + a3) - (1 : Int)).toNat 0) - a2) - a3)) && (inI64 ((((a0.getD (((a1 + a2) + a3) - (1 : Int)).toNat 0) - a2) - a3) + (1 : Int))) && (inI64 (((((a0.getD (((a1 + a2) + a3) - (1 : Int)).toNat 0) - a2) - a3) + (1 : Int)) + v3_0)) && (inB (a1 + v3_0) v3_1.length) && (decide ((a1 + v3_0).toNat < v3_1.length))) <|
    gd ((inI64 (v3_0 + (1 : Int)))) <|
    m_leftinfront_L3 a0 a1 a2 a3 n (v3_0 + (1 : Int)) (v3_1.set (a1 + v3_0).toNat (((((a0.getD (((a1 + a2) + a3) - (1 : Int)).toNat 0) - a2) - a3) + (1 : Int)) + v3_0))) (some v3_1)
def m_leftinfront_L7 (a0 : (List Int)) : Nat → Int → Int → (List Int) → Option (Int × (List Int))
  | 0, _, _, _ => none
  | n + 1, v7_0, v7_1, v7_2 =>
    cond (decide ((0 : Int) ≤ v7_0)) (gd ((inB v7_0 a0.length)) <|
    Option.bind (m_lfk (a0.getD v7_0.toNat 0) v7_1) fun r8 =>
    gd ((inB v7_0 v7_2.length) && (decide (v7_0.toNat < v7_2.length))) <|
    gd ((inI64 (v7_0 - (1 : Int)))) <|
    m_leftinfront_L7 a0 n (v7_0 - (1 : Int)) r8.2 (v7_2.set v7_0.toNat r8.1)) (some (v7_1, v7_2))
def m_leftinfront_L15 (a0 : (List Int)) (a1 : Int) (a2 : Int) (a3 : Int) : Nat → Int → (List Int) → Option ((List Int))
  | 0, _, _ => none
  | n + 1, v15_0, v15_1 =>
    cond (decide (v15_0 < (a2 + a3))) (gd ((inI64 (a1 + v15_0)) && (inI64 ((a0.getD (((a1 + a2) + a3) - (1 : Int)).toNat 0) - a2)) && (inI64 ((2 : Int) * a3)) && (inI64 (((a0.getD (((a1 + a2) + a3) - (1 : Int)).toNat 0) - a2) - ((2 : Int) * a3))) && (inI64 ((((a0.getD (((a1 + a2) + a3) - (1 : Int)).toNat 0) - a2) - ((2 : Int) * a3)) + (1 : Int))) && (inI64 (((((a0.getD (((a1 + a2) + a3) - (1 : Int)).toNat 0) - a2) - ((2 : Int) * a3)) + (1 : Int)) + v15_0)) && (inB (a1 + v15_0) v15_1.length) && (decide ((a1 + v15_0).toNat < v15_1.length))) <|
    gd ((inI64 (v15_0 + (1 : Int)))) <|
    m_leftinfront_L15 a0 a1 a2 a3 n (v15_0 + (1 : Int)) (v15_1.set (a1 + v15_0).toNat (((((a0.getD (((a1 + a2) + a3) - (1 : Int)).toNat 0) - a2) - ((2 : Int) * a3)) + (1 : Int)) + v15_0))) (some v15_1)
def m_leftinfront (a0 : (List Int)) (a1 : Int) (a2 : Int) (a3 : Int) : Option (((List Int) × ((List Int) × (Int × (List Int)))) × Bool) :=
    gd ((inI64 (a1 + a2)) && (inI64 ((a1 + a2) + a3)) && (inI64 (((a1 + a2) + a3) - (1 : Int))) && (inB (((a1 + a2) + a3) - (1 : Int)) a0.length)) <|
    Option.bind (m_clone a0) fun r1 =>
    gd ((inI64 (a2 + a3)) && (inI64 ((0 : Int) - (a2 + a3)))) <|
    gd ((inI64 (a2 + a3))) <|
    Option.bind (m_leftinfront_L3 a0 a1 a2 a3 FUEL (0 : Int) r1) fun o2 =>
    gd ((inI64 ((a0.getD (((a1 + a2) + a3) - (1 : Int)).toNat 0) - a2)) && (inI64 ((2 : Int) * a3)) && (inI64 (((a0.getD (((a1 + a2) + a3) - (1 : Int)).toNat 0) - a2) - ((2 : Int) * a3)))) <|
    gd ((inI64 (a1 - (1 : Int)))) <|
    Option.bind (m_leftinfront_L7 a0 FUEL (a1 - (1 : Int)) (((a0.getD (((a1 + a2) + a3) - (1 : Int)).toNat 0) - a2) - ((2 : Int) * a3)) o2) fun o6 =>
    gd ((inI64 (a1 + a2)) && (inI64 ((a1 + a2) + a3)) && (decide (0 ≤ (a1 + a2))) && (decide ((a1 + a2) ≤ ((a1 + a2) + a3))) && (decide (((a1 + a2) + a3) ≤ (o6.2.length : Int)))) <|
    Option.bind (m_clone ((o6.2.take ((a1 + a2) + a3).toNat).drop (a1 + a2).toNat)) fun r12 =>
    Option.bind (m_clone o6.2) fun r13 =>
    gd ((inI64 (a2 + a3))) <|
    Option.bind (m_leftinfront_L15 a0 a1 a2 a3 FUEL (0 : Int) r13) fun o14 =>
    gd ((inI64 (o6.1 + (1 : Int)))) <|
    some ((o6.2, (r12, (((0 : Int) - (a2 + a3)), o14))), (decide ((1 : Int) ≤ (o6.1 + (1 : Int)))))
set_option maxRecDepth 20000 in
set_option maxHeartbeats 4000000 in
theorem w_leftinfront (a0 : (List Int)) (a1 : Int) (a2 : Int) (a3 : Int) (c0 : Option Nat) (r : (((List Int) × ((List Int) × (Int × (List Int)))) × Bool)) (h : m_leftinfront a0 a1 a2 a3 = some r) : AC cx 34 [.c (.lst (.int .i64) a0 c0), .c (.val (.int .i64 a1)), .c (.val (.int .i64 a2)), .c (.val (.int .i64 a3))] [] (fun sv h => sv = .tup [.agg [.lst (.int .i64) r.1.1 none, .lst (.int .i64) r.1.2.1 none, .val (.int .i64 r.1.2.2.1), .lst (.int .i64) r.1.2.2.2 none], .c (.val (.bool r.2))] ∧ h = []) := by
  apply AC.forgetV
  unfold m_leftinfront at h
  refine ac_body tt_ok Tryd.func34 rfl Tryd.ntmps34 rfl rfl (res := [.cell 8 90, .tmp 9]) rfl ?_
  refine ax_seq ?_
  refine ax_region ?_
  refine al_run tt_ok rfl rfl ?_
  refine ax_seq ?_
  obtain ⟨hG25, h⟩ := gd_some h
  simp only [Bool.and_eq_true] at hG25
  obtain ⟨⟨⟨hG25_0, hG25_1⟩, hG25_2⟩, hG25_3⟩ := hG25
  refine ax_region ?_
  refine al_run tt_ok rfl (by simp only [hG25_0, hG25_1, hG25_2, hG25_3, ob, decide_true, cond_true, cond_false]) ?_
  refine ax_seq ?_
  obtain ⟨r1, hr1, h⟩ := bd h
  obtain ⟨hG24, h⟩ := gd_some h
  simp only [Bool.and_eq_true] at hG24
  obtain ⟨hG24_0, hG24_1⟩ := hG24
  refine ax_region ?_
  refine al_upto tt_ok rfl (by simp only [hG24_0, hG24_1, ob, decide_true, cond_true, cond_false]) ?_
  refine al_call [(5, 27)] (w_clone _ c0 r1 hr1) rfl ⟨rfl, rfl⟩ rfl Tryd.func58 rfl rfl rfl (by simp only [hG24_0, hG24_1, ob, decide_true, cond_true, cond_false]) rfl rfl PassH.nil ?_
  rintro _ _ ⟨rfl, rfl⟩
  refine ⟨_, _, rfl, rfl, ?_⟩
  refine al_run tt_ok rfl (by simp only [hG24_0, hG24_1, ob, decide_true, cond_true, cond_false]) ?_
  refine ax_seq ?_
  refine ax_seq ?_
  obtain ⟨hG23, h⟩ := gd_some h
  refine ax_region ?_
  refine al_run tt_ok rfl (by simp only [hG23, ob, decide_true, cond_true, cond_false]) ?_
  obtain ⟨o2, ho2, hk2⟩ := bd h
  refine ax_cutS (fun o2 : (List Int) => ⟨[(0, .a (.c (.lst (.int .i64) a0 c0))), (1, .a (.c (.val (.int .i64 a1)))), (2, .a (.c (.val (.int .i64 a2)))), (3, .a (.c (.val (.int .i64 a3)))), (8, .a (.c (.ptr 8 0))), (10, .a (.c (.val (.int .i64 (a0.getD (((a1 + a2) + a3) - (1 : Int)).toNat 0))))), (11, .a (.c (.ptr 11 0)))], [(8, .cells 90 [.val (.slice none 0 0), .val (.slice none 0 0), .val (.int .i64 (0 : Int)), .val (.slice none 0 0)]), (11, .cells 90 [.sl 27, .val (.slice none 0 0), .val (.int .i64 ((0 : Int) - (a2 + a3))), .val (.slice none 0 0)]), (27, .row 3 (.int .i64) o2 none)]⟩) (fun o' => o2 = o') ?_ ?_
  ·
   have h := ho2
   refine ax_block ?_
   refine ax_weak (Wk.pick [36, 0, 1, 2, 3, 8, 10, 11, 35] [27, 8, 11] rfl rfl) ?_
   refine ax_loopL (fun y : Nat × Int × (List Int) => [(36, .a (.c (.val (.int .i64 y.2.1))))]) (fun y : Nat × Int × (List Int) => [(27, .row 3 (.int .i64) y.2.2 none)]) (fun y : Nat × Int × (List Int) => m_leftinfront_L3 a0 a1 a2 a3 y.1 y.2.1 y.2.2 = some o2) (fun y : Nat × Int × (List Int) => y.1) (FUEL, (0 : Int), r1) h ?_
   rintro ⟨n, v3_0, v3_1⟩ h
   replace h : m_leftinfront_L3 a0 a1 a2 a3 n v3_0 v3_1 = some o2 := h
   rcases n with _ | n
   · cases (show (none : Option _) = some _ from h)
   rw [m_leftinfront_L3] at h
   try dsimp only
   refine ax_seq ?_
   refine ax_region ?_
   refine al_run tt_ok rfl rfl ?_
   refine ax_seq ?_
   refine ax_cond rfl rfl (fun hc => ?_) (fun hc => ?_)
   ·
    replace h := cond_t hc h
    refine ax_skip ?_
    refine ax_seq ?_
    refine ax_block ?_
    refine ax_seq ?_
    refine ax_region ?_
    refine al_run tt_ok rfl rfl ?_
    obtain ⟨hG5, h⟩ := gd_some h
    simp only [Bool.and_eq_true] at hG5
    obtain ⟨⟨⟨⟨⟨⟨hG5_0, hG5_1⟩, hG5_2⟩, hG5_3⟩, hG5_4⟩, hG5_5⟩, hG5_6⟩ := hG5
    refine ax_region ?_
    refine al_run tt_ok rfl (by simp only [hG5_0, hG5_1, hG5_2, hG5_3, hG5_4, hG5_5, hG5_6, ob, decide_true, cond_true, cond_false]) ?_
    obtain ⟨hG4, h⟩ := gd_some h
    refine ax_region ?_
    refine al_run tt_ok rfl (by simp only [hG4, ob, decide_true, cond_true, cond_false]) ?_
    refine ⟨(n, _, _), h, Nat.lt_succ_self _, (Wk.pick [36, 0, 1, 2, 3, 8, 10, 11, 35] [27, 8, 11] rfl rfl)⟩
   ·
    replace h := cond_f hc h
    refine ax_exit ?_
    exact ⟨_, (Option.some.inj h).symm, (Wk.pick [0, 1, 2, 3, 8, 10, 11] [8, 11, 27] rfl rfl)⟩
  ·
   rintro _ rfl
   have h := hk2
   refine ax_seq ?_
   obtain ⟨hG22, h⟩ := gd_some h
   simp only [Bool.and_eq_true] at hG22
   obtain ⟨⟨hG22_0, hG22_1⟩, hG22_2⟩ := hG22
   refine ax_region ?_
   refine al_run tt_ok rfl (by simp only [hG22_0, hG22_1, hG22_2, ob, decide_true, cond_true, cond_false]) ?_
   refine ax_seq ?_
   refine ax_region ?_
   refine al_run tt_ok rfl rfl ?_
   refine ax_seq ?_
   refine ax_seq ?_
   obtain ⟨hG21, h⟩ := gd_some h
   refine ax_region ?_
   refine al_run tt_ok rfl (by simp only [hG21, ob, decide_true, cond_true, cond_false]) ?_
   obtain ⟨o6, ho6, hk6⟩ := bd h
   refine ax_cutS (fun o6 : Int × (List Int) => ⟨[(1, .a (.c (.val (.int .i64 a1)))), (2, .a (.c (.val (.int .i64 a2)))), (3, .a (.c (.val (.int .i64 a3)))), (8, .a (.c (.ptr 8 0))), (10, .a (.c (.val (.int .i64 (a0.getD (((a1 + a2) + a3) - (1 : Int)).toNat 0))))), (11, .a (.c (.ptr 11 0))), (13, .a (.c (.ptr 13 0)))], [(8, .cells 90 [.val (.slice none 0 0), .val (.slice none 0 0), .val (.int .i64 (0 : Int)), .val (.slice none 0 0)]), (11, .cells 90 [.sl 27, .val (.slice none 0 0), .val (.int .i64 ((0 : Int) - (a2 + a3))), .val (.slice none 0 0)]), (13, .cells 3 [.val (.int .i64 o6.1)]), (27, .row 3 (.int .i64) o6.2 none)]⟩) (fun o' => o6 = o') ?_ ?_
   ·
    have h := ho6
    refine ax_block ?_
    refine ax_weak (Wk.pick [15, 0, 1, 2, 3, 8, 10, 11, 13, 14] [13, 27, 8, 11] rfl rfl) ?_
    refine ax_loopL (fun y : Nat × Int × Int × (List Int) => [(15, .a (.c (.val (.int .i64 y.2.1))))]) (fun y : Nat × Int × Int × (List Int) => [(13, .cells 3 [.val (.int .i64 y.2.2.1)]), (27, .row 3 (.int .i64) y.2.2.2 none)]) (fun y : Nat × Int × Int × (List Int) => m_leftinfront_L7 a0 y.1 y.2.1 y.2.2.1 y.2.2.2 = some o6) (fun y : Nat × Int × Int × (List Int) => y.1) (FUEL, (a1 - (1 : Int)), (((a0.getD (((a1 + a2) + a3) - (1 : Int)).toNat 0) - a2) - ((2 : Int) * a3)), o2) h ?_
    rintro ⟨n, v7_0, v7_1, v7_2⟩ h
    replace h : m_leftinfront_L7 a0 n v7_0 v7_1 v7_2 = some o6 := h
    rcases n with _ | n
    · cases (show (none : Option _) = some _ from h)
    rw [m_leftinfront_L7] at h
    try dsimp only
    refine ax_seq ?_
    refine ax_seq ?_
    refine ax_region ?_
    refine al_run tt_ok rfl rfl ?_
    refine ax_cond rfl rfl (fun hc => ?_) (fun hc => ?_)
    ·
     replace h := cond_t hc h
     refine ax_skip ?_
     refine ax_seq ?_
     refine ax_block ?_
     obtain ⟨hG10, h⟩ := gd_some h
     obtain ⟨r8, hr8, h⟩ := bd h
     obtain ⟨hG11, h⟩ := gd_some h
     simp only [Bool.and_eq_true] at hG11
     obtain ⟨hG11_0, hG11_1⟩ := hG11
     apply ax_cut
     ·
       refine ax_draw [] (by kernel_rfl) rfl (N := 11) ?_
       refine ad_run (fuel := 4) (ds' := ⟨#[true, false, true, true, true, true, true, true, false, false, false], true, true, true⟩) tt_ok [(0, 0), (2, 0), (3, 0), (4, 0), (5, 0), (6, 0), (7, 1)] (by kernel_rfl) rfl (by simp only [hG10, hG11_0, hG11_1, ob, decide_true, cond_true, cond_false]) ?_
       refine ad_ready (by kernel_rfl) (ads_cons (i := 1) ?_ (ads_cons (i := 8) ?_ ads_nil))
       ·
         refine ado_step tt_ok (i := 1) rfl rfl rfl (by simp only [hG10, hG11_0, hG11_1, ob, decide_true, cond_true, cond_false]) rfl ?_
         refine ad_ready (by kernel_rfl) (ads_cons (i := 8) ?_ ads_nil)
         refine ado_of rfl ?_
         refine adx_callV (i := 8) (listed' := #[true, true, true, true, true, true, true, true, true, false, false]) (pre' := false) [(1000000, 13)] (w_lfk _ _  r8 hr8) rfl rfl rfl rfl ⟨rfl, rfl⟩ rfl rfl Tryd.func63 rfl rfl rfl (by simp only [hG10, hG11_0, hG11_1, ob, decide_true, cond_true, cond_false]) rfl rfl (PassH.cons rfl rfl rfl PassH.nil) ?_
         rintro _ _ ⟨rfl, rfl⟩
         refine ⟨_, _, rfl, rfl, ?_⟩
         refine ad_run (fuel := 0) (ds' := ⟨#[true, true, true, true, true, true, true, true, true, true, true], false, false, false⟩) tt_ok [(9, 0), (10, 2)] (by kernel_rfl) rfl (by simp only [hG10, hG11_0, hG11_1, ob, decide_true, cond_true, cond_false]) ?_
         refine ad_done (by kernel_rfl) ?_
         exact ⟨rfl, Wk.pick [0, 1, 2, 3, 8, 10, 11, 13, 14, 15] [8, 11, 13, 27] rfl rfl⟩
       ·
         refine ado_of rfl ?_
         refine adx_callV (i := 8) (listed' := #[true, false, true, true, true, true, true, true, true, false, false]) (pre' := false) [(1000000, 13)] (w_lfk _ _  r8 hr8) rfl rfl rfl rfl ⟨rfl, rfl⟩ rfl rfl Tryd.func63 rfl rfl rfl (by simp only [hG10, hG11_0, hG11_1, ob, decide_true, cond_true, cond_false]) rfl rfl (PassH.cons rfl rfl rfl PassH.nil) ?_
         rintro _ _ ⟨rfl, rfl⟩
         refine ⟨_, _, rfl, rfl, ?_⟩
         refine ad_run (fuel := 0) (ds' := ⟨#[true, true, true, true, true, true, true, true, true, true, true], false, false, false⟩) tt_ok [(1, 2), (9, 0), (10, 2)] (by kernel_rfl) rfl (by simp only [hG10, hG11_0, hG11_1, ob, decide_true, cond_true, cond_false]) ?_
         refine ad_done (by kernel_rfl) ?_
         exact ⟨rfl, Wk.pick [0, 1, 2, 3, 8, 10, 11, 13, 14, 15] [8, 11, 13, 27] rfl rfl⟩
     obtain ⟨hG9, h⟩ := gd_some h
     refine ax_region ?_
     refine al_run tt_ok rfl (by simp only [hG9, ob, decide_true, cond_true, cond_false]) ?_
     refine ⟨(n, _, _, _), h, Nat.lt_succ_self _, (Wk.pick [15, 0, 1, 2, 3, 8, 10, 11, 13, 14] [13, 27, 8, 11] rfl rfl)⟩
    ·
     replace h := cond_f hc h
     refine ax_exit ?_
     exact ⟨_, (Option.some.inj h).symm, (Wk.pick [1, 2, 3, 8, 10, 11, 13] [8, 11, 13, 27] rfl rfl)⟩
   ·
    rintro _ rfl
    have h := hk6
    refine ax_seq ?_
    obtain ⟨hG20, h⟩ := gd_some h
    simp only [Bool.and_eq_true] at hG20
    obtain ⟨⟨⟨⟨hG20_0, hG20_1⟩, hG20_2⟩, hG20_3⟩, hG20_4⟩ := hG20
    obtain ⟨r12, hr12, h⟩ := bd h
    refine ax_region ?_
    refine al_upN 10 tt_ok rfl (by simp only [hG20_0, hG20_1, hG20_2, hG20_3, hG20_4, ob, decide_true, cond_true, cond_false]) ?_
    refine al_weak (Wk.frz (id := 27) rfl) ?_
    refine al_upto tt_ok rfl (by simp only [hG20_0, hG20_1, hG20_2, hG20_3, hG20_4, ob, decide_true, cond_true, cond_false]) ?_
    refine al_call [(5, 88)] (w_clone _ none r12 hr12) rfl ⟨rfl, rfl⟩ rfl Tryd.func58 rfl rfl rfl (by simp only [hG20_0, hG20_1, hG20_2, hG20_3, hG20_4, ob, decide_true, cond_true, cond_false]) rfl rfl PassH.nil ?_
    rintro _ _ ⟨rfl, rfl⟩
    refine ⟨_, _, rfl, rfl, ?_⟩
    refine al_run tt_ok rfl (by simp only [hG20_0, hG20_1, hG20_2, hG20_3, hG20_4, ob, decide_true, cond_true, cond_false]) ?_
    refine ax_seq ?_
    obtain ⟨r13, hr13, h⟩ := bd h
    refine ax_region ?_
    refine al_upto tt_ok rfl rfl ?_
    refine al_call [(5, 92)] (w_clone _ none r13 hr13) rfl ⟨rfl, rfl⟩ rfl Tryd.func58 rfl rfl rfl rfl rfl rfl PassH.nil ?_
    rintro _ _ ⟨rfl, rfl⟩
    refine ⟨_, _, rfl, rfl, ?_⟩
    refine al_run tt_ok rfl rfl ?_
    refine ax_seq ?_
    refine ax_seq ?_
    obtain ⟨hG19, h⟩ := gd_some h
    refine ax_region ?_
    refine al_run tt_ok rfl (by simp only [hG19, ob, decide_true, cond_true, cond_false]) ?_
    obtain ⟨o14, ho14, hk14⟩ := bd h
    refine ax_cutS (fun o14 : (List Int) => ⟨[(8, .a (.c (.ptr 8 0))), (11, .a (.c (.ptr 11 0))), (13, .a (.c (.ptr 13 0)))], [(8, .cells 90 [.val (.slice none 0 0), .val (.slice none 0 0), .val (.int .i64 (0 : Int)), .val (.slice none 0 0)]), (11, .cells 90 [.lst (.int .i64) o6.2 none, .sl 88, .val (.int .i64 ((0 : Int) - (a2 + a3))), .sl 92]), (13, .cells 3 [.val (.int .i64 o6.1)]), (88, .row 3 (.int .i64) r12 none), (92, .row 3 (.int .i64) o14 none)]⟩) (fun o' => o14 = o') ?_ ?_
    ·
     have h := ho14
     refine ax_block ?_
     refine ax_weak (Wk.pick [97, 1, 2, 3, 8, 10, 11, 13, 96] [92, 8, 11, 13, 88] rfl rfl) ?_
     refine ax_loopL (fun y : Nat × Int × (List Int) => [(97, .a (.c (.val (.int .i64 y.2.1))))]) (fun y : Nat × Int × (List Int) => [(92, .row 3 (.int .i64) y.2.2 none)]) (fun y : Nat × Int × (List Int) => m_leftinfront_L15 a0 a1 a2 a3 y.1 y.2.1 y.2.2 = some o14) (fun y : Nat × Int × (List Int) => y.1) (FUEL, (0 : Int), r13) h ?_
     rintro ⟨n, v15_0, v15_1⟩ h
     replace h : m_leftinfront_L15 a0 a1 a2 a3 n v15_0 v15_1 = some o14 := h
     rcases n with _ | n
     · cases (show (none : Option _) = some _ from h)
     rw [m_leftinfront_L15] at h
     try dsimp only
     refine ax_seq ?_
     refine ax_region ?_
     refine al_run tt_ok rfl rfl ?_
     refine ax_seq ?_
     refine ax_cond rfl rfl (fun hc => ?_) (fun hc => ?_)
     ·
      replace h := cond_t hc h
      refine ax_skip ?_
      refine ax_seq ?_
      refine ax_block ?_
      refine ax_seq ?_
      refine ax_region ?_
      refine al_run tt_ok rfl rfl ?_
      obtain ⟨hG17, h⟩ := gd_some h
      simp only [Bool.and_eq_true] at hG17
      obtain ⟨⟨⟨⟨⟨⟨⟨hG17_0, hG17_1⟩, hG17_2⟩, hG17_3⟩, hG17_4⟩, hG17_5⟩, hG17_6⟩, hG17_7⟩ := hG17
      refine ax_region ?_
      refine al_run tt_ok rfl (by simp only [hG17_0, hG17_1, hG17_2, hG17_3, hG17_4, hG17_5, hG17_6, hG17_7, ob, decide_true, cond_true, cond_false]) ?_
      obtain ⟨hG16, h⟩ := gd_some h
      refine ax_region ?_
      refine al_run tt_ok rfl (by simp only [hG16, ob, decide_true, cond_true, cond_false]) ?_
      refine ⟨(n, _, _), h, Nat.lt_succ_self _, (Wk.pick [97, 1, 2, 3, 8, 10, 11, 13, 96] [92, 8, 11, 13, 88] rfl rfl)⟩
     ·
      replace h := cond_f hc h
      refine ax_exit ?_
      exact ⟨_, (Option.some.inj h).symm, (Wk.pick [8, 11, 13] [8, 11, 13, 88, 92] rfl rfl)⟩
    ·
     rintro _ rfl
     have h := hk14
     refine ax_seq ?_
     obtain ⟨hG18, h⟩ := gd_some h
     apply ax_cut
     ·
       refine ax_draw [] (by kernel_rfl) rfl (N := 6) ?_
       refine ad_ready (by kernel_rfl) (ads_cons (i := 0) ?_ (ads_cons (i := 1) ?_ ads_nil))
       ·
         refine ado_step tt_ok (i := 0) rfl rfl rfl (by simp only [hG18, ob, decide_true, cond_true, cond_false]) rfl ?_
         refine ad_ready (by kernel_rfl) (ads_cons (i := 1) ?_ (ads_cons (i := 4) ?_ ads_nil))
         ·
           refine ado_step tt_ok (i := 1) rfl rfl rfl (by simp only [hG18, ob, decide_true, cond_true, cond_false]) rfl ?_
           refine ad_run (fuel := 0) (ds' := ⟨#[true, true, true, true, true, true], false, false, true⟩) tt_ok [(2, 0), (3, 0), (4, 2), (5, 0)] (by kernel_rfl) rfl (by simp only [hG18, ob, decide_true, cond_true, cond_false]) ?_
           refine ad_done (by kernel_rfl) ?_
           exact ⟨rfl, Wk.pick [8, 9] [8, 88, 92] rfl rfl⟩
         ·
           refine ado_step tt_ok (i := 4) rfl rfl rfl (by simp only [hG18, ob, decide_true, cond_true, cond_false]) rfl ?_
           refine ad_run (fuel := 0) (ds' := ⟨#[true, true, true, true, true, true], false, false, true⟩) tt_ok [(1, 2), (2, 0), (3, 0), (5, 0)] (by kernel_rfl) rfl (by simp only [hG18, ob, decide_true, cond_true, cond_false]) ?_
           refine ad_done (by kernel_rfl) ?_
           exact ⟨rfl, Wk.pick [8, 9] [8, 88, 92] rfl rfl⟩
       ·
         refine ado_step tt_ok (i := 1) rfl rfl rfl (by simp only [hG18, ob, decide_true, cond_true, cond_false]) rfl ?_
         refine ad_run (fuel := 0) (ds' := ⟨#[true, true, true, true, true, true], false, false, true⟩) tt_ok [(2, 0), (3, 0), (0, 2), (4, 2), (5, 0)] (by kernel_rfl) rfl (by simp only [hG18, ob, decide_true, cond_true, cond_false]) ?_
         refine ad_done (by kernel_rfl) ?_
         exact ⟨rfl, Wk.pick [8, 9] [8, 88, 92] rfl rfl⟩
     refine ax_ret ?_
     obtain rfl := Option.some.inj h
     refine ⟨_, (Wk.trans (Wk.frz (id := 88) rfl) (Wk.trans (Wk.frz (id := 92) rfl) (Wk.pick [8, 9] [8] rfl rfl))), _, _, rfl, rfl, ?_⟩
     exact rfl
end Go.Proofs.YtihcolehefloeaaDoor

/- Contracts over rows of the caller's own, in the form of tr.py. -/
namespace Go.Proofs.YtihcolehefloeaaDoor
set_option linter.unusedSimpArgs false
set_option linter.unusedVariables false
open Go.RowKit
theorem AC.weakVH {X : Cx} {f : FuncId} {args : List SA} {h0 h1 : Hp} {sv sv' : SV} (hV : ∀ env B w v, VR env B w sv v → VR env B w sv' v) (h : AC X f args h0 (fun s h => s = sv ∧ h = h1)) : AC X f args h0 (fun s h => s = sv' ∧ h = h1) := by
  intro B w0 env vs H W hg ha hh hs
  refine (h B w0 env vs H W hg ha hh hs).mono ?_
  rintro v w' ⟨env', B', w0', H', s, h', ⟨rfl, rfl⟩, k1, k2, k3, k4, k5, k6, k7⟩
  exact ⟨env', B', w0', H', sv', _, ⟨rfl, rfl⟩, k1, k2, k3, hV _ _ _ _ k4, k5, k6, k7⟩
theorem shift_res (fr to : List Int) (env : Nat → Loc) (B : Nat → Prop) (w : World) (v : Value) (h : VR env B w (shiftR fr to) v) : VR env B w (.tup [.c (.lst gOp (planR fr to) (some (planR fr to).length)), .c (.val (.int .i64 (shErr fr to)))]) v := by
  have hn : ∀ z : Int, VR env B w (.tup [.c (.val (.slice none 0 0)), .c (.val (.int .i64 z))]) v → VR env B w (.tup [.c (.lst gOp [] (some 0)), .c (.val (.int .i64 z))]) v := by
    rintro z ⟨vs, e, v1, r, e2, hv, hr⟩
    exact ⟨vs, e, v1, r, e2, nil_lst hv, hr⟩
  unfold shiftR at h
  split at h
  · rename_i g
    have hs : shErr fr to = 1 := by rw [shErr, if_pos g]
    rw [planR, hs, if_neg (by decide)]
    exact hn 1 h
  · rename_i g1
    split at h
    · rename_i g
      have hs : shErr fr to = 5 := by rw [shErr, if_neg g1, if_pos g]
      rw [planR, hs, if_neg (by decide)]
      exact hn 5 h
    · rename_i g2
      split at h
      · rename_i g3
        have hs : shErr fr to = 1 := by rw [shErr, if_neg g1, if_neg g2, if_pos g3]
        rw [planR, hs, if_neg (by decide)]
        exact hn 1 h
      · rename_i g3
        have hs : shErr fr to = 0 := by rw [shErr, if_neg g1, if_neg g2, if_neg g3]
        rw [planR, hs, if_pos rfl]
        exact h
theorem w_shiftb (a0 a1 : List Int) (c0 c1 : Option Nat) (r : List OpT × Int) (h : m_shift a0 a1 = some r) : AC cx 8 [.c (.lst (.int .i64) a0 c0), .c (.sl 2000000)] [(2000000, .row 3 (.int .i64) a1 c1)] (fun sv h => sv = .tup [.c (.lst gOp r.1 (some r.1.length)), .c (.val (.int .i64 r.2))] ∧ h = [(2000000, .row 3 (.int .i64) a1 c1)]) := by
  obtain ⟨hg, h⟩ := gd_some h
  simp only [Bool.and_eq_true, decide_eq_true_eq] at hg
  obtain rfl := Option.some.inj h
  exact AC.weakVH (shift_res a0 a1) (shift_own a0 a1 c0 c1 hg.1 hg.2)
def m_shiftb (a0 a1 : List Int) : Option (List OpT × Int) := m_shift a0 a1
end Go.Proofs.YtihcolehefloeaaDoor

/- Cables: crossing. -/
namespace Go.Proofs.YtihcolehefloeaaDoor
set_option linter.unusedSimpArgs false
set_option linter.unusedVariables false
open Go.RowKit
def m_crossT_L2 (a0 : Int) (a1 : ((List Int) × ((List Int) × (Int × (List Int))))) : Nat → Int → (List OpT) → Option ((List OpT))
  | 0, _, _ => none
  | n + 1, v2_0, v2_1 =>
    cond (decide (v2_0 < (a1.2.1.length : Int))) (gd ((inB v2_0 a1.2.1.length)) <|
    gd ((fitB 40 (v2_1.length + [((7 : Int), ((0 : Int), ((a0, (a1.2.1.getD v2_0.toNat 0)), ((0 : Int), (0 : Int)))))].length))) <|
    gd ((inI64 (v2_0 + (1 : Int)))) <|
    m_crossT_L2 a0 a1 n (v2_0 + (1 : Int)) (v2_1 ++ [((7 : Int), ((0 : Int), ((a0, (a1.2.1.getD v2_0.toNat 0)), ((0 : Int), (0 : Int)))))])) (some v2_1)
def m_crossT (a0 : Int) (a1 : ((List Int) × ((List Int) × (Int × (List Int))))) (a2 : List OpT) : Option ((List OpT)) :=
    Option.bind (m_crossT_L2 a0 a1 FUEL (0 : Int) a2) fun o1 =>
    some o1
set_option maxRecDepth 20000 in
set_option maxHeartbeats 4000000 in
theorem w_crossT (a0 : Int) (a1 : ((List Int) × ((List Int) × (Int × (List Int))))) (a2 : List OpT) (r : ((List OpT))) (h : m_crossT a0 a1 a2 = some r) : AC cx 35 [.c (.val (.int .u8 a0)), .c (.pel (.pair (.sl (.int .i64)) (.pair (.sl (.int .i64)) (.pair (.int .i64) (.sl (.int .i64))))) a1 0), .c (.ptr 1000000 0)] [(1000000, .cells 41 [.sl 1000001]), (1000001, .lrow 45 gOp a2)] (fun sv h => sv = .tup [] ∧ h = [(1000000, .cells 41 [.sl 1000001]), (1000001, .lrow 45 gOp r)]) := by
  unfold m_crossT at h
  refine ac_body tt_ok Tryd.func35 rfl Tryd.ntmps35 rfl rfl (res := []) rfl ?_
  refine ax_seq ?_
  refine ax_region ?_
  refine al_run tt_ok rfl rfl ?_
  obtain ⟨o1, ho1, hk1⟩ := bd h
  refine ax_cutS (fun o1 : (List OpT) => ⟨[], [(1000000, .cells 41 [.sl 1000001]), (1000001, .lrow 45 gOp o1)]⟩) (fun o' => o1 = o') ?_ ?_
  ·
   have h := ho1
   refine ax_block ?_
   refine ax_weak (Wk.pick [9, 0, 2, 7, 8] [1000001, 1000000] rfl rfl) ?_
   refine ax_loopL (fun y : Nat × Int × (List OpT) => [(9, .a (.c (.val (.int .i64 y.2.1))))]) (fun y : Nat × Int × (List OpT) => [(1000001, .lrow 45 gOp y.2.2)]) (fun y : Nat × Int × (List OpT) => m_crossT_L2 a0 a1 y.1 y.2.1 y.2.2 = some o1) (fun y : Nat × Int × (List OpT) => y.1) (FUEL, (0 : Int), a2) h ?_
   rintro ⟨n, v2_0, v2_1⟩ h
   replace h : m_crossT_L2 a0 a1 n v2_0 v2_1 = some o1 := h
   rcases n with _ | n
   · cases (show (none : Option _) = some _ from h)
   rw [m_crossT_L2] at h
   try dsimp only
   refine ax_seq ?_
   refine ax_region ?_
   refine al_run tt_ok rfl rfl ?_
   refine ax_seq ?_
   refine ax_cond rfl rfl (fun hc => ?_) (fun hc => ?_)
   ·
    replace h := cond_t hc h
    refine ax_skip ?_
    refine ax_seq ?_
    refine ax_block ?_
    refine ax_seq ?_
    obtain ⟨hG5, h⟩ := gd_some h
    refine ax_region ?_
    refine al_run tt_ok rfl (by simp only [hG5, ob, decide_true, cond_true, cond_false]) ?_
    obtain ⟨hG4, h⟩ := gd_some h
    refine ax_region ?_
    refine al_upN 6 tt_ok rfl (by simp only [hG4, ob, decide_true, cond_true, cond_false]) ?_
    refine al_appendR tt_ok rfl ⟨rfl, rfl⟩ rfl rfl rfl rfl rfl (by simp only [hG4, ob, decide_true, cond_true, cond_false]) rfl (by simp only [hG4, ob, decide_true, cond_true, cond_false]) rfl rfl rfl (by simp only [hG4, ob, decide_true, cond_true, cond_false]) ?_
    refine al_run tt_ok rfl (by simp only [hG4, ob, decide_true, cond_true, cond_false]) ?_
    obtain ⟨hG3, h⟩ := gd_some h
    refine ax_region ?_
    refine al_run tt_ok rfl (by simp only [hG3, ob, decide_true, cond_true, cond_false]) ?_
    refine ⟨(n, _, _), h, Nat.lt_succ_self _, (Wk.pick [9, 0, 2, 7, 8] [1000001, 1000000] rfl rfl)⟩
   ·
    replace h := cond_f hc h
    refine ax_exit ?_
    exact ⟨_, (Option.some.inj h).symm, (Wk.pick [] [1000000, 1000001] rfl rfl)⟩
  ·
   rintro _ rfl
   have h := hk1
   obtain rfl := Option.some.inj h
   refine ⟨_, (Wk.pick [] [1000000, 1000001] rfl rfl), _, _, rfl, rfl, ?_⟩
   exact ⟨rfl, rfl⟩
def m_cross (a0 : (List Int)) (a1 : Int) (a2 : Int) (a3 : Int) (a4 : Bool) : Option ((List OpT) × Int) :=
    Option.bind (m_check a0) fun r1 =>
    cond (!(decide (r1 = (0 : Int)))) (some (([] : List OpT), r1)) (Option.bind (m_cbsizes a2 a3) fun r2 =>
    cond (!(decide (r2 = (0 : Int)))) (some (([] : List OpT), r2)) (gd ((!(!(decide (a1 < (0 : Int)))) || (inI64 ((a0.length : Int) - a2))) && (!(!(decide (a1 < (0 : Int)))) || (inI64 (((a0.length : Int) - a2) - a3)))) <|
    cond (cond (decide (a1 < (0 : Int))) true (decide ((((a0.length : Int) - a2) - a3) < a1))) (some (([] : List OpT), (5 : Int))) (cond a4 (Option.bind (m_leftinfront a0 a1 a2 a3) fun r3 =>
    cond (!r3.2) (some (([] : List OpT), (15 : Int))) (Option.bind (m_shift a0 r3.1.1) fun r4 =>
    cond (!(decide (r4.2 = (0 : Int)))) (some (([] : List OpT), (15 : Int))) (Option.bind (m_crossT (0 : Int) r3.1 r4.1) fun r5 =>
    gd ((fitB 40 (r5.length + [((3 : Int), ((0 : Int), (((0 : Int), (0 : Int)), ((0 : Int), r3.1.2.2.1))))].length))) <|
    Option.bind (m_crossT (1 : Int) r3.1 (r5 ++ [((3 : Int), ((0 : Int), (((0 : Int), (0 : Int)), ((0 : Int), r3.1.2.2.1))))])) fun r6 =>
    gd ((fitB 40 (r6.length + [((3 : Int), ((0 : Int), (((0 : Int), (0 : Int)), ((0 : Int), (0 : Int)))))].length))) <|
    Option.bind (m_shift r3.1.2.2.2 a0) fun r7 =>
    cond (!(decide (r7.2 = (0 : Int)))) (some (([] : List OpT), (15 : Int))) (gd ((fitB 40 ((r6 ++ [((3 : Int), ((0 : Int), (((0 : Int), (0 : Int)), ((0 : Int), (0 : Int)))))]).length + r7.1.length))) <|
    Option.bind (m_clip ((r6 ++ [((3 : Int), ((0 : Int), (((0 : Int), (0 : Int)), ((0 : Int), (0 : Int)))))]) ++ r7.1)) fun r8 =>
    some (r8, (0 : Int)))))) (Option.bind (m_leftbehind a0 a1 a2 a3) fun r12 =>
    cond (!r12.2) (some (([] : List OpT), (15 : Int))) (Option.bind (m_shift a0 r12.1.1) fun r13 =>
    cond (!(decide (r13.2 = (0 : Int)))) (some (([] : List OpT), (15 : Int))) (Option.bind (m_crossT (0 : Int) r12.1 r13.1) fun r14 =>
    gd ((fitB 40 (r14.length + [((3 : Int), ((0 : Int), (((0 : Int), (0 : Int)), ((0 : Int), r12.1.2.2.1))))].length))) <|
    Option.bind (m_crossT (1 : Int) r12.1 (r14 ++ [((3 : Int), ((0 : Int), (((0 : Int), (0 : Int)), ((0 : Int), r12.1.2.2.1))))])) fun r15 =>
    gd ((fitB 40 (r15.length + [((3 : Int), ((0 : Int), (((0 : Int), (0 : Int)), ((0 : Int), (0 : Int)))))].length))) <|
    Option.bind (m_shift r12.1.2.2.2 a0) fun r16 =>
    cond (!(decide (r16.2 = (0 : Int)))) (some (([] : List OpT), (15 : Int))) (gd ((fitB 40 ((r15 ++ [((3 : Int), ((0 : Int), (((0 : Int), (0 : Int)), ((0 : Int), (0 : Int)))))]).length + r16.1.length))) <|
    Option.bind (m_clip ((r15 ++ [((3 : Int), ((0 : Int), (((0 : Int), (0 : Int)), ((0 : Int), (0 : Int)))))]) ++ r16.1)) fun r17 =>
    some (r17, (0 : Int)))))))))
set_option maxRecDepth 20000 in
set_option maxHeartbeats 4000000 in
theorem w_cross (a0 : (List Int)) (a1 : Int) (a2 : Int) (a3 : Int) (a4 : Bool) (c0 : Option Nat) (r : ((List OpT) × Int)) (h : m_cross a0 a1 a2 a3 a4 = some r) : AC cx 9 [.c (.lst (.int .i64) a0 c0), .c (.val (.int .i64 a1)), .c (.val (.int .i64 a2)), .c (.val (.int .i64 a3)), .c (.val (.bool a4))] [] (fun sv h => sv = .tup [.c (.lst gOp r.1 (some r.1.length)), .c (.val (.int .i64 r.2))] ∧ h = []) := by
  unfold m_cross at h
  refine ac_body tt_ok Tryd.func9 rfl Tryd.ntmps9 rfl rfl (res := [.tmp 10, .tmp 11]) rfl ?_
  refine ax_seq ?_
  refine ax_region ?_
  refine al_run tt_ok rfl rfl ?_
  refine ax_seq ?_
  refine ax_seq ?_
  obtain ⟨r1, hr1, h⟩ := bd h
  refine ax_region ?_
  refine al_upto tt_ok rfl rfl ?_
  refine al_callP (w_check _ c0 r1 hr1) rfl ⟨rfl, rfl⟩ rfl Tryd.func26 rfl rfl rfl rfl rfl rfl ?_
  refine al_run tt_ok rfl rfl ?_
  refine ax_seq ?_
  refine ax_region ?_
  refine al_run tt_ok rfl rfl ?_
  refine ax_cond rfl rfl (fun hc => ?_) (fun hc => ?_)
  ·
   replace h := cond_t hc h
   refine ax_seq ?_
   refine ax_region ?_
   refine al_run tt_ok rfl rfl ?_
   refine ax_ret ?_
   obtain rfl := Option.some.inj h
   refine ⟨_, (Wk.trans (Wk.lst0 10 gOp rfl) (Wk.pick [10, 11] [] rfl rfl)), _, _, rfl, rfl, ?_⟩
   exact ⟨rfl, rfl⟩
  ·
   replace h := cond_f hc h
   refine ax_skip ?_
   refine ax_seq ?_
   refine ax_seq ?_
   obtain ⟨r2, hr2, h⟩ := bd h
   refine ax_region ?_
   refine al_upto tt_ok rfl rfl ?_
   refine al_callP (w_cbsizes _ _  r2 hr2) rfl ⟨rfl, rfl⟩ rfl Tryd.func32 rfl rfl rfl rfl rfl rfl ?_
   refine al_run tt_ok rfl rfl ?_
   refine ax_seq ?_
   refine ax_region ?_
   refine al_run tt_ok rfl rfl ?_
   refine ax_cond rfl rfl (fun hc => ?_) (fun hc => ?_)
   ·
    replace h := cond_t hc h
    refine ax_seq ?_
    refine ax_region ?_
    refine al_run tt_ok rfl rfl ?_
    refine ax_ret ?_
    obtain rfl := Option.some.inj h
    refine ⟨_, (Wk.trans (Wk.lst0 10 gOp rfl) (Wk.pick [10, 11] [] rfl rfl)), _, _, rfl, rfl, ?_⟩
    exact ⟨rfl, rfl⟩
   ·
    replace h := cond_f hc h
    refine ax_skip ?_
    refine ax_seq ?_
    refine ax_seq ?_
    obtain ⟨hG21, h⟩ := gd_some h
    simp only [Bool.and_eq_true] at hG21
    obtain ⟨hG21_0, hG21_1⟩ := hG21
    refine ax_region ?_
    refine al_run tt_ok rfl (by revert hG21_0 hG21_1; generalize (inI64 (((a0.length : Int) - a2) - a3)) = b0; generalize (inI64 ((a0.length : Int) - a2)) = b1; generalize (decide (a1 < (0 : Int))) = b2; revert b0 b1 b2; decide) ?_
    refine ax_cond rfl rfl (fun hc => ?_) (fun hc => ?_)
    ·
     replace h := cond_t hc h
     refine ax_seq ?_
     refine ax_region ?_
     refine al_run tt_ok rfl rfl ?_
     refine ax_ret ?_
     obtain rfl := Option.some.inj h
     refine ⟨_, (Wk.trans (Wk.lst0 10 gOp rfl) (Wk.pick [10, 11] [] rfl rfl)), _, _, rfl, rfl, ?_⟩
     exact ⟨rfl, rfl⟩
    ·
     replace h := cond_f hc h
     refine ax_skip ?_
     refine ax_seq ?_
     refine ax_region ?_
     refine al_run tt_ok rfl rfl ?_
     refine ax_seq ?_
     refine ax_seq ?_
     refine ax_region ?_
     refine al_run tt_ok rfl rfl ?_
     refine ax_cond rfl rfl (fun hc => ?_) (fun hc => ?_)
     ·
      replace h := cond_t hc h
      refine ax_region ?_
      refine al_run tt_ok rfl rfl ?_
      refine ax_seq ?_
      obtain ⟨r3, hr3, h⟩ := bd h
      refine ax_region ?_
      refine al_upto tt_ok rfl rfl ?_
      refine al_callV [] (w_leftinfront _ _ _ _ c0 r3 hr3) rfl ⟨rfl, rfl⟩ rfl rfl Tryd.func34 rfl rfl rfl rfl rfl rfl PassH.nil ?_
      rintro _ _ ⟨rfl, rfl⟩
      refine ⟨_, _, rfl, rfl, ?_⟩
      refine al_run tt_ok rfl rfl ?_
      refine ax_weak (Wk.frzC 15 (.pair (.sl (.int .i64)) (.pair (.sl (.int .i64)) (.pair (.int .i64) (.sl (.int .i64))))) rfl rfl rfl) ?_
      refine ax_seq ?_
      refine ax_seq ?_
      refine ax_region ?_
      refine al_run tt_ok rfl rfl ?_
      refine ax_cond rfl rfl (fun hc => ?_) (fun hc => ?_)
      ·
       replace h := cond_t hc h
       refine ax_seq ?_
       refine ax_region ?_
       refine al_run tt_ok rfl rfl ?_
       refine ax_ret ?_
       obtain rfl := Option.some.inj h
       refine ⟨_, (Wk.trans (Wk.lst0 10 gOp rfl) (Wk.pick [10, 11] [] rfl rfl)), _, _, rfl, rfl, ?_⟩
       exact ⟨rfl, rfl⟩
      ·
       replace h := cond_f hc h
       refine ax_skip ?_
       refine ax_seq ?_
       obtain ⟨r4, hr4, h⟩ := bd h
       refine ax_region ?_
       refine al_upto tt_ok rfl rfl ?_
       refine al_callP (w_shift _ _ c0 none r4 hr4) rfl ⟨rfl, rfl⟩ rfl Tryd.func8 rfl rfl rfl rfl rfl rfl ?_
       refine al_run tt_ok rfl rfl ?_
       refine ax_seq ?_
       refine ax_seq ?_
       refine ax_region ?_
       refine al_run tt_ok rfl rfl ?_
       refine ax_cond rfl rfl (fun hc => ?_) (fun hc => ?_)
       ·
        replace h := cond_t hc h
        refine ax_seq ?_
        refine ax_region ?_
        refine al_run tt_ok rfl rfl ?_
        refine ax_ret ?_
        obtain rfl := Option.some.inj h
        refine ⟨_, (Wk.trans (Wk.lst0 10 gOp rfl) (Wk.pick [10, 11] [] rfl rfl)), _, _, rfl, rfl, ?_⟩
        exact ⟨rfl, rfl⟩
       ·
        replace h := cond_f hc h
        refine ax_skip ?_
        refine ax_seq ?_
        refine ax_region ?_
        refine al_run tt_ok rfl rfl ?_
        refine ax_seq ?_
        obtain ⟨r5, hr5, h⟩ := bd h
        refine ax_region ?_
        refine al_upto tt_ok rfl rfl ?_
        refine al_weak (Wk.lfullC 17 0 24 45 rfl rfl rfl rfl rfl) ?_
        refine al_callV [(1000000, 17), (1000001, 24)] (w_crossT _ _ _  r5 hr5) rfl ⟨rfl, rfl⟩ rfl rfl Tryd.func35 rfl rfl rfl rfl rfl rfl (PassH.cons rfl rfl rfl (PassH.cons rfl rfl rfl PassH.nil)) ?_
        rintro _ _ ⟨rfl, rfl⟩
        refine ⟨_, _, rfl, rfl, ?_⟩
        refine al_run tt_ok rfl rfl ?_
        refine ax_weak (Wk.pick [0, 15, 17, 19] [17, 24] rfl rfl) ?_
        refine ax_seq ?_
        obtain ⟨hG11, h⟩ := gd_some h
        refine ax_region ?_
        refine al_upN 5 tt_ok rfl (by simp only [hG11, ob, decide_true, cond_true, cond_false]) ?_
        refine al_appendR tt_ok rfl ⟨rfl, rfl⟩ rfl rfl rfl rfl rfl (by simp only [hG11, ob, decide_true, cond_true, cond_false]) rfl (by simp only [hG11, ob, decide_true, cond_true, cond_false]) rfl rfl rfl (by simp only [hG11, ob, decide_true, cond_true, cond_false]) ?_
        refine al_run tt_ok rfl (by simp only [hG11, ob, decide_true, cond_true, cond_false]) ?_
        refine ax_weak (Wk.pick [0, 15, 17, 19] [17, 24] rfl rfl) ?_
        refine ax_seq ?_
        obtain ⟨r6, hr6, h⟩ := bd h
        refine ax_region ?_
        refine al_upto tt_ok rfl rfl ?_
        refine al_callV [(1000000, 17), (1000001, 24)] (w_crossT _ _ _  r6 hr6) rfl ⟨rfl, rfl⟩ rfl rfl Tryd.func35 rfl rfl rfl rfl rfl rfl (PassH.cons rfl rfl rfl (PassH.cons rfl rfl rfl PassH.nil)) ?_
        rintro _ _ ⟨rfl, rfl⟩
        refine ⟨_, _, rfl, rfl, ?_⟩
        refine al_run tt_ok rfl rfl ?_
        refine ax_weak (Wk.pick [0, 15, 17] [17, 24] rfl rfl) ?_
        refine ax_seq ?_
        obtain ⟨hG10, h⟩ := gd_some h
        refine ax_region ?_
        refine al_upN 3 tt_ok rfl (by simp only [hG10, ob, decide_true, cond_true, cond_false]) ?_
        refine al_appendR tt_ok rfl ⟨rfl, rfl⟩ rfl rfl rfl rfl rfl (by simp only [hG10, ob, decide_true, cond_true, cond_false]) rfl (by simp only [hG10, ob, decide_true, cond_true, cond_false]) rfl rfl rfl (by simp only [hG10, ob, decide_true, cond_true, cond_false]) ?_
        refine al_run tt_ok rfl (by simp only [hG10, ob, decide_true, cond_true, cond_false]) ?_
        refine ax_weak (Wk.pick [0, 15, 17] [17, 24] rfl rfl) ?_
        refine ax_seq ?_
        obtain ⟨r7, hr7, h⟩ := bd h
        refine ax_region ?_
        refine al_upto tt_ok rfl rfl ?_
        refine al_callP (w_shift _ _ none c0 r7 hr7) rfl ⟨rfl, rfl⟩ rfl Tryd.func8 rfl rfl rfl rfl rfl rfl ?_
        refine al_run tt_ok rfl rfl ?_
        refine ax_seq ?_
        refine ax_seq ?_
        refine ax_region ?_
        refine al_run tt_ok rfl rfl ?_
        refine ax_cond rfl rfl (fun hc => ?_) (fun hc => ?_)
        ·
         replace h := cond_t hc h
         refine ax_seq ?_
         refine ax_region ?_
         refine al_run tt_ok rfl rfl ?_
         refine ax_ret ?_
         obtain rfl := Option.some.inj h
         refine ⟨_, (Wk.trans (Wk.lst0 10 gOp rfl) (Wk.pick [10, 11] [] rfl rfl)), _, _, rfl, rfl, ?_⟩
         exact ⟨rfl, rfl⟩
        ·
         replace h := cond_f hc h
         refine ax_skip ?_
         refine ax_seq ?_
         obtain ⟨hG9, h⟩ := gd_some h
         obtain ⟨r8, hr8, h⟩ := bd h
         refine ax_region ?_
         refine al_upN 2 tt_ok rfl (by simp only [hG9, ob, decide_true, cond_true, cond_false]) ?_
         refine al_appendR tt_ok rfl ⟨rfl, rfl⟩ rfl rfl rfl rfl rfl (by simp only [hG9, ob, decide_true, cond_true, cond_false]) rfl (by simp only [hG9, ob, decide_true, cond_true, cond_false]) rfl rfl rfl (by simp only [hG9, ob, decide_true, cond_true, cond_false]) ?_
         refine al_weak (Wk.frzL (id := 24) rfl) ?_
         refine al_callP (w_clip _ none r8 hr8) rfl ⟨rfl, rfl⟩ rfl Tryd.func31 rfl rfl rfl (by simp only [hG9, ob, decide_true, cond_true, cond_false]) rfl rfl ?_
         refine al_run tt_ok rfl (by simp only [hG9, ob, decide_true, cond_true, cond_false]) ?_
         refine ax_weak (Wk.pick [10, 11] [] rfl rfl) ?_
         refine ax_ret ?_
         obtain rfl := Option.some.inj h
         refine ⟨_, (Wk.pick [10, 11] [] rfl rfl), _, _, rfl, rfl, ?_⟩
         exact ⟨rfl, rfl⟩
     ·
      replace h := cond_f hc h
      refine ax_skip ?_
      refine ax_seq ?_
      obtain ⟨r12, hr12, h⟩ := bd h
      refine ax_region ?_
      refine al_upto tt_ok rfl rfl ?_
      refine al_callV [] (w_leftbehind _ _ _ _ c0 r12 hr12) rfl ⟨rfl, rfl⟩ rfl rfl Tryd.func33 rfl rfl rfl rfl rfl rfl PassH.nil ?_
      rintro _ _ ⟨rfl, rfl⟩
      refine ⟨_, _, rfl, rfl, ?_⟩
      refine al_run tt_ok rfl rfl ?_
      refine ax_weak (Wk.frzC 15 (.pair (.sl (.int .i64)) (.pair (.sl (.int .i64)) (.pair (.int .i64) (.sl (.int .i64))))) rfl rfl rfl) ?_
      refine ax_seq ?_
      refine ax_seq ?_
      refine ax_region ?_
      refine al_run tt_ok rfl rfl ?_
      refine ax_cond rfl rfl (fun hc => ?_) (fun hc => ?_)
      ·
       replace h := cond_t hc h
       refine ax_seq ?_
       refine ax_region ?_
       refine al_run tt_ok rfl rfl ?_
       refine ax_ret ?_
       obtain rfl := Option.some.inj h
       refine ⟨_, (Wk.trans (Wk.lst0 10 gOp rfl) (Wk.pick [10, 11] [] rfl rfl)), _, _, rfl, rfl, ?_⟩
       exact ⟨rfl, rfl⟩
      ·
       replace h := cond_f hc h
       refine ax_skip ?_
       refine ax_seq ?_
       obtain ⟨r13, hr13, h⟩ := bd h
       refine ax_region ?_
       refine al_upto tt_ok rfl rfl ?_
       refine al_callP (w_shift _ _ c0 none r13 hr13) rfl ⟨rfl, rfl⟩ rfl Tryd.func8 rfl rfl rfl rfl rfl rfl ?_
       refine al_run tt_ok rfl rfl ?_
       refine ax_seq ?_
       refine ax_seq ?_
       refine ax_region ?_
       refine al_run tt_ok rfl rfl ?_
       refine ax_cond rfl rfl (fun hc => ?_) (fun hc => ?_)
       ·
        replace h := cond_t hc h
        refine ax_seq ?_
        refine ax_region ?_
        refine al_run tt_ok rfl rfl ?_
        refine ax_ret ?_
        obtain rfl := Option.some.inj h
        refine ⟨_, (Wk.trans (Wk.lst0 10 gOp rfl) (Wk.pick [10, 11] [] rfl rfl)), _, _, rfl, rfl, ?_⟩
        exact ⟨rfl, rfl⟩
       ·
        replace h := cond_f hc h
        refine ax_skip ?_
        refine ax_seq ?_
        refine ax_region ?_
        refine al_run tt_ok rfl rfl ?_
        refine ax_seq ?_
        obtain ⟨r14, hr14, h⟩ := bd h
        refine ax_region ?_
        refine al_upto tt_ok rfl rfl ?_
        refine al_weak (Wk.lfullC 17 0 25 45 rfl rfl rfl rfl rfl) ?_
        refine al_callV [(1000000, 17), (1000001, 25)] (w_crossT _ _ _  r14 hr14) rfl ⟨rfl, rfl⟩ rfl rfl Tryd.func35 rfl rfl rfl rfl rfl rfl (PassH.cons rfl rfl rfl (PassH.cons rfl rfl rfl PassH.nil)) ?_
        rintro _ _ ⟨rfl, rfl⟩
        refine ⟨_, _, rfl, rfl, ?_⟩
        refine al_run tt_ok rfl rfl ?_
        refine ax_weak (Wk.pick [0, 15, 17, 19] [17, 25] rfl rfl) ?_
        refine ax_seq ?_
        obtain ⟨hG20, h⟩ := gd_some h
        refine ax_region ?_
        refine al_upN 5 tt_ok rfl (by simp only [hG20, ob, decide_true, cond_true, cond_false]) ?_
        refine al_appendR tt_ok rfl ⟨rfl, rfl⟩ rfl rfl rfl rfl rfl (by simp only [hG20, ob, decide_true, cond_true, cond_false]) rfl (by simp only [hG20, ob, decide_true, cond_true, cond_false]) rfl rfl rfl (by simp only [hG20, ob, decide_true, cond_true, cond_false]) ?_
        refine al_run tt_ok rfl (by simp only [hG20, ob, decide_true, cond_true, cond_false]) ?_
        refine ax_weak (Wk.pick [0, 15, 17, 19] [17, 25] rfl rfl) ?_
        refine ax_seq ?_
        obtain ⟨r15, hr15, h⟩ := bd h
        refine ax_region ?_
        refine al_upto tt_ok rfl rfl ?_
        refine al_callV [(1000000, 17), (1000001, 25)] (w_crossT _ _ _  r15 hr15) rfl ⟨rfl, rfl⟩ rfl rfl Tryd.func35 rfl rfl rfl rfl rfl rfl (PassH.cons rfl rfl rfl (PassH.cons rfl rfl rfl PassH.nil)) ?_
        rintro _ _ ⟨rfl, rfl⟩
        refine ⟨_, _, rfl, rfl, ?_⟩
        refine al_run tt_ok rfl rfl ?_
        refine ax_weak (Wk.pick [0, 15, 17] [17, 25] rfl rfl) ?_
        refine ax_seq ?_
        obtain ⟨hG19, h⟩ := gd_some h
        refine ax_region ?_
        refine al_upN 3 tt_ok rfl (by simp only [hG19, ob, decide_true, cond_true, cond_false]) ?_
        refine al_appendR tt_ok rfl ⟨rfl, rfl⟩ rfl rfl rfl rfl rfl (by simp only [hG19, ob, decide_true, cond_true, cond_false]) rfl (by simp only [hG19, ob, decide_true, cond_true, cond_false]) rfl rfl rfl (by simp only [hG19, ob, decide_true, cond_true, cond_false]) ?_
        refine al_run tt_ok rfl (by simp only [hG19, ob, decide_true, cond_true, cond_false]) ?_
        refine ax_weak (Wk.pick [0, 15, 17] [17, 25] rfl rfl) ?_
        refine ax_seq ?_
        obtain ⟨r16, hr16, h⟩ := bd h
        refine ax_region ?_
        refine al_upto tt_ok rfl rfl ?_
        refine al_callP (w_shift _ _ none c0 r16 hr16) rfl ⟨rfl, rfl⟩ rfl Tryd.func8 rfl rfl rfl rfl rfl rfl ?_
        refine al_run tt_ok rfl rfl ?_
        refine ax_seq ?_
        refine ax_seq ?_
        refine ax_region ?_
        refine al_run tt_ok rfl rfl ?_
        refine ax_cond rfl rfl (fun hc => ?_) (fun hc => ?_)
        ·
         replace h := cond_t hc h
         refine ax_seq ?_
         refine ax_region ?_
         refine al_run tt_ok rfl rfl ?_
         refine ax_ret ?_
         obtain rfl := Option.some.inj h
         refine ⟨_, (Wk.trans (Wk.lst0 10 gOp rfl) (Wk.pick [10, 11] [] rfl rfl)), _, _, rfl, rfl, ?_⟩
         exact ⟨rfl, rfl⟩
        ·
         replace h := cond_f hc h
         refine ax_skip ?_
         refine ax_seq ?_
         obtain ⟨hG18, h⟩ := gd_some h
         obtain ⟨r17, hr17, h⟩ := bd h
         refine ax_region ?_
         refine al_upN 2 tt_ok rfl (by simp only [hG18, ob, decide_true, cond_true, cond_false]) ?_
         refine al_appendR tt_ok rfl ⟨rfl, rfl⟩ rfl rfl rfl rfl rfl (by simp only [hG18, ob, decide_true, cond_true, cond_false]) rfl (by simp only [hG18, ob, decide_true, cond_true, cond_false]) rfl rfl rfl (by simp only [hG18, ob, decide_true, cond_true, cond_false]) ?_
         refine al_weak (Wk.frzL (id := 25) rfl) ?_
         refine al_callP (w_clip _ none r17 hr17) rfl ⟨rfl, rfl⟩ rfl Tryd.func31 rfl rfl rfl (by simp only [hG18, ob, decide_true, cond_true, cond_false]) rfl rfl ?_
         refine al_run tt_ok rfl (by simp only [hG18, ob, decide_true, cond_true, cond_false]) ?_
         refine ax_weak (Wk.pick [10, 11] [] rfl rfl) ?_
         refine ax_ret ?_
         obtain rfl := Option.some.inj h
         refine ⟨_, (Wk.pick [10, 11] [] rfl rfl), _, _, rfl, rfl, ?_⟩
         exact ⟨rfl, rfl⟩
end Go.Proofs.YtihcolehefloeaaDoor
