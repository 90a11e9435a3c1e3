/- Part 6 of 7 of the proof. -/
import Derived.Test.YtihcolehefloeaaDoorCe5
set_option linter.unusedSimpArgs false
set_option linter.unusedVariables false
/- Courses: preparing a row. -/
namespace Go.Proofs.YtihcolehefloeaaDoor
set_option linter.unusedSimpArgs false
set_option linter.unusedVariables false
open Go.RowKit
def m_prepare_L7 (a0 : ((List (Int × Int)) × (Int × (Int × (Int × (Int × (Int × Int))))))) : Nat → Int → (List Int) → Option ((List Int))
  | 0, _, _ => none
  | n + 1, v7_0, v7_1 =>
    cond (decide (v7_0 < (a0.1.length : Int))) (gd ((inB v7_0 a0.1.length)) <|
    gd ((inB v7_0 v7_1.length) && (decide (v7_0.toNat < v7_1.length))) <|
    gd ((inI64 (v7_0 + (1 : Int)))) <|
    m_prepare_L7 a0 n (v7_0 + (1 : Int)) (v7_1.set v7_0.toNat (a0.1.getD v7_0.toNat gNd.zero).2)) (some v7_1)
def m_prepare_L16 (a1 : (List (Int × (Int × (Int × (Int × Bool)))))) (r4 : (List (List (Int × Int))) × Nat × (List Int)) (r12 : (List Int)) : Nat → Int → (List OpT) → Option (((List OpT)) ⊕ ((List OpT) × (List (List (Int × Int))) × Nat × Int))
  | 0, _, _ => none
  | n + 1, v16_0, v16_1 =>
    cond (decide (v16_0 < (a1.length : Int))) (gd ((inB v16_0 a1.length)) <|
    cond (!(decide ((a1.getD v16_0.toNat (0, (0, (0, (0, false))))).1 = (8 : Int)))) (gd ((inI64 (v16_0 + (1 : Int)))) <|
    m_prepare_L16 a1 r4 r12 n (v16_0 + (1 : Int)) v16_1) (gd ((inB v16_0 r4.1.length) && (inB (0 : Int) (r4.1.getD v16_0.toNat []).length)) <|
    Option.bind (m_index r12 ((r4.1.getD v16_0.toNat []).getD (0 : Int).toNat gNd.zero).2) fun r18 =>
    Option.bind (m_cross r12 r18 (a1.getD v16_0.toNat (0, (0, (0, (0, false))))).2.2.1 (a1.getD v16_0.toNat (0, (0, (0, (0, false))))).2.2.2.1 (a1.getD v16_0.toNat (0, (0, (0, (0, false))))).2.2.2.2) fun r19 =>
    cond (!(decide (r19.2 = (0 : Int)))) (some (.inr (([] : List OpT), ([] : List (List (Int × Int))), 0, r19.2))) (gd ((fitB 40 (v16_1.length + r19.1.length))) <|
    gd ((inI64 (v16_0 + (1 : Int)))) <|
    m_prepare_L16 a1 r4 r12 n (v16_0 + (1 : Int)) (v16_1 ++ r19.1)))) (some (.inl v16_1))
def m_prepare_L25 (a1 : (List (Int × (Int × (Int × (Int × Bool)))))) (r4 : (List (List (Int × Int))) × Nat × (List Int)) : Nat → Int → (List OpT) → Option ((List OpT))
  | 0, _, _ => none
  | n + 1, v25_0, v25_1 =>
    cond (decide (v25_0 < (a1.length : Int))) (gd ((inB v25_0 a1.length)) <|
    Option.bind (m_stbed (a1.getD v25_0.toNat (0, (0, (0, (0, false)))))) fun r26 =>
    cond (decide (r26 = (1 : Int))) (gd ((inB v25_0 r4.1.length) && (inB (0 : Int) (r4.1.getD v25_0.toNat []).length) && (fitB 40 (v25_1.length + [((7 : Int), ((0 : Int), (((0 : Int), ((r4.1.getD v25_0.toNat []).getD (0 : Int).toNat gNd.zero).2), ((0 : Int), (0 : Int)))))].length))) <|
    gd ((inI64 (v25_0 + (1 : Int)))) <|
    m_prepare_L25 a1 r4 n (v25_0 + (1 : Int)) (v25_1 ++ [((7 : Int), ((0 : Int), (((0 : Int), ((r4.1.getD v25_0.toNat []).getD (0 : Int).toNat gNd.zero).2), ((0 : Int), (0 : Int)))))])) (gd ((inI64 (v25_0 + (1 : Int)))) <|
    m_prepare_L25 a1 r4 n (v25_0 + (1 : Int)) v25_1)) (some v25_1)
def m_prepare (a0 : ((List (Int × Int)) × (Int × (Int × (Int × (Int × (Int × Int))))))) (a1 : (List (Int × (Int × (Int × (Int × Bool)))))) : Option ((List OpT) × (List (List (Int × Int))) × Nat × Int) :=
    Option.bind (m_cocheck a0) fun r1 =>
    cond (!(decide (r1 = (0 : Int)))) (some (([] : List OpT), ([] : List (List (Int × Int))), 0, r1)) (Option.bind (m_chrow a1) fun r2 =>
    cond (!(decide (r2 = (0 : Int)))) (some (([] : List OpT), ([] : List (List (Int × Int))), 0, r2)) (Option.bind (m_chneeds a1) fun r3 =>
    cond (!(decide (r3 = (a0.1.length : Int)))) (some (([] : List OpT), ([] : List (List (Int × Int))), 0, (14 : Int))) (Option.bind (m_goals a1) fun r4 =>
    Option.bind (m_front a0.1) fun r5 =>
    cond (!(decide (r5.2 = (0 : Int)))) (some (([] : List OpT), ([] : List (List (Int × Int))), 0, r5.2)) (gd ((decide (0 ≤ (a0.1.length : Int))) && (decide ((8 : Int) * (a0.1.length : Int) ≤ 140737488355328)) && (decide ((a0.1.length : Int) ≤ 140737488355328))) <|
    Option.bind (m_prepare_L7 a0 FUEL (0 : Int) (List.replicate (a0.1.length : Int).toNat (0 : Int))) fun o6 =>
    Option.bind (m_shiftb o6 r4.2.2) fun r11 =>
    cond (!(decide (r11.2 = (0 : Int)))) (some (([] : List OpT), ([] : List (List (Int × Int))), 0, r11.2)) (gd ((fitB 40 (r5.1.length + r11.1.length))) <|
    Option.bind (m_compact r4.2.2) fun r12 =>
    Option.bind (m_prepare_L16 a1 r4 r12 FUEL (0 : Int) (r5.1 ++ r11.1)) fun o15 =>
    sm o15 (fun o15 =>
    Option.bind (m_prepare_L25 a1 r4 FUEL (0 : Int) o15) fun o24 =>
    Option.bind (m_clip o24) fun r31 =>
    some (r31, r4.1, r4.2.1, (0 : Int))) (fun q => some q))))))
set_option maxRecDepth 20000 in
set_option maxHeartbeats 4000000 in
theorem w_prepare (a0 : ((List (Int × Int)) × (Int × (Int × (Int × (Int × (Int × Int))))))) (a1 : (List (Int × (Int × (Int × (Int × Bool)))))) (c0 c1 : Option Nat) (r : ((List OpT) × (List (List (Int × Int))) × Nat × Int)) (h : m_prepare a0 a1 = some r) : AC cx 17 [.agg [.lst gNd a0.1 c0, .val (.int .u8 a0.2.1), .val (.int .u8 a0.2.2.1), .val (.int .u8 a0.2.2.2.1), .val (.int .u8 a0.2.2.2.2.1), .val (.int .u8 a0.2.2.2.2.2.1), .val (.int .u8 a0.2.2.2.2.2.2)], .c (.lst (.pair (.int .u8) (.pair (.int .u8) (.pair (.int .i64) (.pair (.int .i64) .bool)))) a1 c1)] [] (fun sv h => sv = .tup [.c (.lst gOp r.1 (some r.1.length)), .c (.lst (.sl gNd) r.2.1 (some r.2.2.1)), .c (.val (.int .i64 r.2.2.2))] ∧ h = []) := by
  unfold m_prepare at h
  refine ac_body tt_ok Tryd.func17 rfl Tryd.ntmps17 rfl rfl (res := [.tmp 4, .tmp 5, .tmp 6]) rfl ?_
  refine ax_seq ?_
  refine ax_region ?_
  refine al_run tt_ok rfl rfl ?_
  refine ax_weak (Wk.frzC 2 (.pair (.sl gNd) (.pair (.int .u8) (.pair (.int .u8) (.pair (.int .u8) g3)))) rfl rfl rfl) ?_
  refine ax_seq ?_
  refine ax_seq ?_
  obtain ⟨r1, hr1, h⟩ := bd h
  refine ax_region ?_
  refine al_upto tt_ok rfl rfl ?_
  refine al_callP (w_cocheck _ none r1 hr1) rfl ⟨rfl, rfl⟩ rfl Tryd.func15 rfl rfl rfl rfl rfl rfl ?_
  refine al_run tt_ok rfl rfl ?_
  refine ax_seq ?_
  refine ax_region ?_
  refine al_run tt_ok rfl rfl ?_
  refine ax_cond rfl rfl (fun hc => ?_) (fun hc => ?_)
  ·
   replace h := cond_t hc h
   refine ax_seq ?_
   refine ax_region ?_
   refine al_run tt_ok rfl rfl ?_
   refine ax_ret ?_
   obtain rfl := Option.some.inj h
   refine ⟨_, (Wk.trans (Wk.lst0 4 gOp rfl) (Wk.trans (Wk.lst0 5 (.sl gNd) rfl) (Wk.pick [4, 5, 6] [] rfl rfl))), _, _, rfl, rfl, ?_⟩
   exact ⟨rfl, rfl⟩
  ·
   replace h := cond_f hc h
   refine ax_skip ?_
   refine ax_seq ?_
   refine ax_seq ?_
   obtain ⟨r2, hr2, h⟩ := bd h
   refine ax_region ?_
   refine al_upto tt_ok rfl rfl ?_
   refine al_callP (w_chrow _ c1 r2 hr2) rfl ⟨rfl, rfl⟩ rfl Tryd.func16 rfl rfl rfl rfl rfl rfl ?_
   refine al_run tt_ok rfl rfl ?_
   refine ax_seq ?_
   refine ax_region ?_
   refine al_run tt_ok rfl rfl ?_
   refine ax_cond rfl rfl (fun hc => ?_) (fun hc => ?_)
   ·
    replace h := cond_t hc h
    refine ax_seq ?_
    refine ax_region ?_
    refine al_run tt_ok rfl rfl ?_
    refine ax_ret ?_
    obtain rfl := Option.some.inj h
    refine ⟨_, (Wk.trans (Wk.lst0 4 gOp rfl) (Wk.trans (Wk.lst0 5 (.sl gNd) rfl) (Wk.pick [4, 5, 6] [] rfl rfl))), _, _, rfl, rfl, ?_⟩
    exact ⟨rfl, rfl⟩
   ·
    replace h := cond_f hc h
    refine ax_skip ?_
    refine ax_seq ?_
    refine ax_seq ?_
    obtain ⟨r3, hr3, h⟩ := bd h
    refine ax_draw [] (by kernel_rfl) rfl (N := 6) ?_
    refine ad_run (fuel := 2) (ds' := ⟨#[true, false, true, true, true, false], true, true, true⟩) tt_ok [(0, 0), (2, 0), (3, 1), (4, 0)] (by kernel_rfl) rfl rfl ?_
    refine ad_ready (by kernel_rfl) (ads_cons (i := 1) ?_ ads_nil)
    refine ado_of rfl ?_
    refine adx_call (i := 1) (listed' := #[true, true, true, true, true, false]) (pre' := true) [] (w_chneeds _ c1 r3 hr3) rfl rfl rfl rfl ⟨rfl, rfl⟩ rfl Tryd.func7 rfl rfl rfl rfl rfl rfl PassH.nil ?_
    rintro _ _ ⟨rfl, rfl⟩
    refine ⟨_, _, rfl, rfl, ?_⟩
    refine ad_run (fuel := 0) (ds' := ⟨#[true, true, true, true, true, true], false, true, false⟩) tt_ok [(5, 0)] (by kernel_rfl) rfl rfl ?_
    refine ad_done (by kernel_rfl) ?_
    refine ax_cond rfl rfl (fun hc => ?_) (fun hc => ?_)
    ·
     replace h := cond_t hc h
     refine ax_seq ?_
     refine ax_region ?_
     refine al_run tt_ok rfl rfl ?_
     refine ax_ret ?_
     obtain rfl := Option.some.inj h
     refine ⟨_, (Wk.trans (Wk.lst0 4 gOp rfl) (Wk.trans (Wk.lst0 5 (.sl gNd) rfl) (Wk.pick [4, 5, 6] [] rfl rfl))), _, _, rfl, rfl, ?_⟩
     exact ⟨rfl, rfl⟩
    ·
     replace h := cond_f hc h
     refine ax_skip ?_
     refine ax_seq ?_
     obtain ⟨r4, hr4, h⟩ := bd h
     refine ax_region ?_
     refine al_upto tt_ok rfl rfl ?_
     refine al_call [(3, 42)] (w_goals _ c1 r4 hr4) rfl ⟨rfl, rfl⟩ rfl Tryd.func45 rfl rfl rfl rfl rfl rfl PassH.nil ?_
     rintro _ _ ⟨rfl, rfl⟩
     refine ⟨_, _, rfl, rfl, ?_⟩
     refine al_run tt_ok rfl rfl ?_
     refine ax_weak (Wk.pick [1, 2, 9, 10] [42] rfl rfl) ?_
     refine ax_seq ?_
     obtain ⟨r5, hr5, h⟩ := bd h
     refine ax_region ?_
     refine al_upto tt_ok rfl rfl ?_
     refine al_callP (w_front _ none r5 hr5) rfl ⟨rfl, rfl⟩ rfl Tryd.func46 rfl rfl rfl rfl rfl rfl ?_
     refine al_run tt_ok rfl rfl ?_
     refine ax_seq ?_
     refine ax_seq ?_
     refine ax_region ?_
     refine al_run tt_ok rfl rfl ?_
     refine ax_cond rfl rfl (fun hc => ?_) (fun hc => ?_)
     ·
      replace h := cond_t hc h
      refine ax_seq ?_
      refine ax_region ?_
      refine al_run tt_ok rfl rfl ?_
      refine ax_ret ?_
      obtain rfl := Option.some.inj h
      refine ⟨_, (Wk.trans (Wk.lst0 4 gOp rfl) (Wk.trans (Wk.lst0 5 (.sl gNd) rfl) (Wk.pick [4, 5, 6] [] rfl rfl))), _, _, rfl, rfl, ?_⟩
      exact ⟨rfl, rfl⟩
     ·
      replace h := cond_f hc h
      refine ax_skip ?_
      refine ax_seq ?_
      obtain ⟨hG33, h⟩ := gd_some h
      simp only [Bool.and_eq_true] at hG33
      obtain ⟨⟨hG33_0, hG33_1⟩, hG33_2⟩ := hG33
      refine ax_region ?_
      refine al_run tt_ok rfl (by simp_all) ?_
      refine ax_seq ?_
      refine ax_seq ?_
      refine ax_region ?_
      refine al_run tt_ok rfl rfl ?_
      obtain ⟨o6, ho6, hk6⟩ := bd h
      refine ax_cutS (fun o6 : (List Int) => ⟨[(1, .a (.c (.lst (.pair (.int .u8) (.pair (.int .u8) (.pair (.int .i64) (.pair (.int .i64) .bool)))) a1 c1))), (9, .a (.c (.lst (.sl gNd) r4.1 (some r4.2.1)))), (10, .a (.c (.sl 42))), (11, .a (.c (.lst gOp r5.1 (some r5.1.length)))), (13, .a (.c (.sl 57)))], [(42, .row 3 (.int .i64) r4.2.2 none), (57, .row 3 (.int .i64) o6 (some (a0.1.length : Int).toNat))]⟩) (fun o' => o6 = o') ?_ ?_
      ·
       have h := ho6
       refine ax_block ?_
       refine ax_weak (Wk.pick [61, 1, 9, 10, 11, 13, 59, 60] [57, 42] rfl rfl) ?_
       refine ax_loopL (fun y : Nat × Int × (List Int) => [(61, .a (.c (.val (.int .i64 y.2.1))))]) (fun y : Nat × Int × (List Int) => [(57, .row 3 (.int .i64) y.2.2 (some (a0.1.length : Int).toNat))]) (fun y : Nat × Int × (List Int) => m_prepare_L7 a0 y.1 y.2.1 y.2.2 = some o6) (fun y : Nat × Int × (List Int) => y.1) (FUEL, (0 : Int), (List.replicate (a0.1.length : Int).toNat (0 : Int))) h ?_
       rintro ⟨n, v7_0, v7_1⟩ h
       replace h : m_prepare_L7 a0 n v7_0 v7_1 = some o6 := h
       rcases n with _ | n
       · cases (show (none : Option _) = some _ from h)
       rw [m_prepare_L7] at h
       try dsimp only
       refine ax_seq ?_
       refine ax_region ?_
       refine al_run tt_ok rfl rfl ?_
       refine ax_seq ?_
       refine ax_cond rfl rfl (fun hc => ?_) (fun hc => ?_)
       ·
        replace h := cond_t hc h
        refine ax_skip ?_
        refine ax_seq ?_
        refine ax_block ?_
        refine ax_seq ?_
        obtain ⟨hG10, h⟩ := gd_some h
        refine ax_region ?_
        refine al_run tt_ok rfl (by simp only [hG10, ob, decide_true, cond_true, cond_false]) ?_
        refine ax_weak (Wk.frzC 15 gNd rfl rfl rfl) ?_
        obtain ⟨hG9, h⟩ := gd_some h
        simp only [Bool.and_eq_true] at hG9
        obtain ⟨hG9_0, hG9_1⟩ := hG9
        refine ax_region ?_
        refine al_run tt_ok rfl (by simp only [hG9_0, hG9_1, ob, decide_true, cond_true, cond_false]) ?_
        obtain ⟨hG8, h⟩ := gd_some h
        refine ax_region ?_
        refine al_run tt_ok rfl (by simp only [hG8, ob, decide_true, cond_true, cond_false]) ?_
        refine ⟨(n, _, _), h, Nat.lt_succ_self _, (Wk.pick [61, 1, 9, 10, 11, 13, 59, 60] [57, 42] rfl rfl)⟩
       ·
        replace h := cond_f hc h
        refine ax_exit ?_
        exact ⟨_, (Option.some.inj h).symm, (Wk.pick [1, 9, 10, 11, 13] [42, 57] rfl rfl)⟩
      ·
       rintro _ rfl
       have h := hk6
       refine ax_seq ?_
       obtain ⟨r11, hr11, h⟩ := bd h
       refine ax_region ?_
       refine al_upto tt_ok rfl rfl ?_
       refine al_weak (Wk.frz (id := 57) rfl) ?_
       refine al_call [(2000000, 42)] (w_shiftb _ _ (some (a0.1.length : Int).toNat) none r11 hr11) rfl ⟨rfl, rfl⟩ rfl Tryd.func8 rfl rfl rfl rfl rfl rfl (PassH.cons rfl rfl rfl PassH.nil) ?_
       rintro _ _ ⟨rfl, rfl⟩
       refine ⟨_, _, rfl, rfl, ?_⟩
       refine al_run tt_ok rfl rfl ?_
       refine ax_weak (Wk.pick [1, 9, 10, 11, 12, 16] [42] rfl rfl) ?_
       refine ax_seq ?_
       refine ax_seq ?_
       refine ax_region ?_
       refine al_run tt_ok rfl rfl ?_
       refine ax_cond rfl rfl (fun hc => ?_) (fun hc => ?_)
       ·
        replace h := cond_t hc h
        refine ax_seq ?_
        refine ax_region ?_
        refine al_run tt_ok rfl rfl ?_
        refine ax_ret ?_
        obtain rfl := Option.some.inj h
        refine ⟨_, (Wk.trans (Wk.lst0 4 gOp rfl) (Wk.trans (Wk.lst0 5 (.sl gNd) rfl) (Wk.pick [4, 5, 6] [] rfl rfl))), _, _, rfl, rfl, ?_⟩
        exact ⟨rfl, rfl⟩
       ·
        replace h := cond_f hc h
        refine ax_skip ?_
        refine ax_seq ?_
        obtain ⟨hG32, h⟩ := gd_some h
        refine ax_region ?_
        refine al_upN 2 tt_ok rfl (by simp only [hG32, ob, decide_true, cond_true, cond_false]) ?_
        refine al_appendL tt_ok rfl ⟨rfl, rfl⟩ rfl rfl rfl rfl rfl (by simp only [hG32, ob, decide_true, cond_true, cond_false]) rfl (by simp only [hG32, ob, decide_true, cond_true, cond_false]) rfl rfl (by simp only [hG32, ob, decide_true, cond_true, cond_false]) (by simp only [hG32, ob, decide_true, cond_true, cond_false]) ?_
        refine al_run tt_ok rfl (by simp only [hG32, ob, decide_true, cond_true, cond_false]) ?_
        refine ax_weak (Wk.pick [1, 9, 10, 11] [42, 83] rfl rfl) ?_
        refine ax_seq ?_
        obtain ⟨r12, hr12, h⟩ := bd h
        refine ax_region ?_
        refine al_upto tt_ok rfl rfl ?_
        refine al_call [(1000000, 42), (5, 85)] (w_compact _ none r12 hr12) rfl ⟨rfl, rfl⟩ rfl Tryd.func47 rfl rfl rfl rfl rfl rfl (PassH.cons rfl rfl rfl PassH.nil) ?_
        rintro _ _ ⟨rfl, rfl⟩
        refine ⟨_, _, rfl, rfl, ?_⟩
        refine al_run tt_ok rfl rfl ?_
        refine ax_weak (Wk.pick [1, 9, 11, 17] [83, 85] rfl rfl) ?_
        refine ax_seq ?_
        refine ax_seq ?_
        refine ax_region ?_
        refine al_run tt_ok rfl rfl ?_
        refine ax_weak (Wk.frz (id := 85) rfl) ?_
        obtain ⟨o15, ho15, hk15⟩ := bd h
        refine ax_cutS (fun o15 : (List OpT) => ⟨[(1, .a (.c (.lst (.pair (.int .u8) (.pair (.int .u8) (.pair (.int .i64) (.pair (.int .i64) .bool)))) a1 c1))), (9, .a (.c (.lst (.sl gNd) r4.1 (some r4.2.1)))), (11, .a (.c (.sl 83)))], [(83, .lrow 45 gOp o15)]⟩) (fun o' => Sum.inl o' = o15) ?_ ?_
        ·
         have h := ho15
         refine ax_block ?_
         refine ax_weak (Wk.pick [88, 1, 9, 11, 17, 86, 87] [83] rfl rfl) ?_
         refine ax_loopL (fun y : Nat × Int × (List OpT) => [(88, .a (.c (.val (.int .i64 y.2.1))))]) (fun y : Nat × Int × (List OpT) => [(83, .lrow 45 gOp y.2.2)]) (fun y : Nat × Int × (List OpT) => m_prepare_L16 a1 r4 r12 y.1 y.2.1 y.2.2 = some o15) (fun y : Nat × Int × (List OpT) => y.1) (FUEL, (0 : Int), (r5.1 ++ r11.1)) h ?_
         rintro ⟨n, v16_0, v16_1⟩ h
         replace h : m_prepare_L16 a1 r4 r12 n v16_0 v16_1 = some o15 := h
         rcases n with _ | n
         · cases (show (none : Option _) = some _ from h)
         rw [m_prepare_L16] at h
         try dsimp only
         refine ax_seq ?_
         refine ax_region ?_
         refine al_run tt_ok rfl rfl ?_
         refine ax_seq ?_
         refine ax_cond rfl rfl (fun hc => ?_) (fun hc => ?_)
         ·
          replace h := cond_t hc h
          refine ax_skip ?_
          refine ax_seq ?_
          refine ax_block ?_
          refine ax_seq ?_
          obtain ⟨hG23, h⟩ := gd_some h
          refine ax_region ?_
          refine al_run tt_ok rfl (by simp only [hG23, ob, decide_true, cond_true, cond_false]) ?_
          refine ax_weak (Wk.frzC 19 (.pair (.int .u8) (.pair (.int .u8) (.pair (.int .i64) (.pair (.int .i64) .bool)))) rfl rfl rfl) ?_
          refine ax_seq ?_
          refine ax_seq ?_
          refine ax_region ?_
          refine al_run tt_ok rfl rfl ?_
          refine ax_cond rfl rfl (fun hc => ?_) (fun hc => ?_)
          ·
           replace h := cond_t hc h
           refine ax_exit ?_
           obtain ⟨hG17, h⟩ := gd_some h
           refine ax_region ?_
           refine al_run tt_ok rfl (by simp only [hG17, ob, decide_true, cond_true, cond_false]) ?_
           refine ⟨(n, _, _), h, Nat.lt_succ_self _, (Wk.pick [88, 1, 9, 11, 17, 86, 87] [83] rfl rfl)⟩
          ·
           replace h := cond_f hc h
           refine ax_skip ?_
           refine ax_seq ?_
           obtain ⟨hG22, h⟩ := gd_some h
           simp only [Bool.and_eq_true] at hG22
           obtain ⟨hG22_0, hG22_1⟩ := hG22
           obtain ⟨r18, hr18, h⟩ := bd h
           obtain ⟨r19, hr19, h⟩ := bd h
           refine ax_draw [] (by kernel_rfl) rfl (N := 22) ?_
           refine ad_run (fuel := 7) (ds' := ⟨#[true, true, true, true, true, true, true, true, true, false, true, true, true, true, true, true, false, false, false, false, false, false], true, true, true⟩) tt_ok [(0, 0), (1, 0), (2, 0), (3, 0), (4, 0), (5, 1), (6, 0), (7, 0), (8, 1), (10, 0), (11, 1), (12, 0), (13, 1), (14, 0), (15, 1)] (by kernel_rfl) rfl (by simp only [hG22_0, hG22_1, ob, decide_true, cond_true, cond_false]) ?_
           refine ad_ready (by kernel_rfl) (ads_cons (i := 9) ?_ ads_nil)
           refine ado_of rfl ?_
           refine adx_call (i := 9) (listed' := #[true, true, true, true, true, true, true, true, true, true, true, true, true, true, true, true, false, false, false, false, false, false]) (pre' := true) [] (w_index _ _ none r18 hr18) rfl rfl rfl rfl ⟨rfl, rfl⟩ rfl Tryd.func48 rfl rfl rfl (by simp only [hG22_0, hG22_1, ob, decide_true, cond_true, cond_false]) rfl rfl PassH.nil ?_
           rintro _ _ ⟨rfl, rfl⟩
           refine ⟨_, _, rfl, rfl, ?_⟩
           refine ad_ready (by kernel_rfl) (ads_cons (i := 16) ?_ ads_nil)
           refine ado_of rfl ?_
           refine adx_call (i := 16) (listed' := #[true, true, true, true, true, true, true, true, true, true, true, true, true, true, true, true, true, false, false, false, false, false]) (pre' := true) [] (w_cross _ _ _ _ _ none r19 hr19) rfl rfl rfl rfl ⟨rfl, rfl⟩ rfl Tryd.func9 rfl rfl rfl (by simp only [hG22_0, hG22_1, ob, decide_true, cond_true, cond_false]) rfl rfl PassH.nil ?_
           rintro _ _ ⟨rfl, rfl⟩
           refine ⟨_, _, rfl, rfl, ?_⟩
           refine ad_run (fuel := 0) (ds' := ⟨#[true, true, true, true, true, true, true, true, true, true, true, true, true, true, true, true, true, true, true, true, true, true], false, true, false⟩) tt_ok [(17, 0), (18, 0), (19, 0), (20, 0), (21, 0)] (by kernel_rfl) rfl (by simp only [hG22_0, hG22_1, ob, decide_true, cond_true, cond_false]) ?_
           refine ad_done (by kernel_rfl) ?_
           refine ax_seq ?_
           refine ax_seq ?_
           refine ax_region ?_
           refine al_run tt_ok rfl rfl ?_
           refine ax_cond rfl rfl (fun hc => ?_) (fun hc => ?_)
           ·
            replace h := cond_t hc h
            refine ax_seq ?_
            refine ax_region ?_
            refine al_run tt_ok rfl rfl ?_
            refine ax_ret ?_
            obtain rfl := Option.some.inj h
            have h := hk15
            dsimp only [sm] at h
            obtain rfl := Option.some.inj h
            refine ⟨_, (Wk.trans (Wk.lst0 4 gOp rfl) (Wk.trans (Wk.lst0 5 (.sl gNd) rfl) (Wk.pick [4, 5, 6] [] rfl rfl))), _, _, rfl, rfl, ?_⟩
            exact ⟨rfl, rfl⟩
           ·
            replace h := cond_f hc h
            refine ax_skip ?_
            obtain ⟨hG21, h⟩ := gd_some h
            refine ax_region ?_
            refine al_upN 2 tt_ok rfl (by simp only [hG21, ob, decide_true, cond_true, cond_false]) ?_
            refine al_appendR tt_ok rfl ⟨rfl, rfl⟩ rfl rfl rfl rfl rfl (by simp only [hG21, ob, decide_true, cond_true, cond_false]) rfl (by simp only [hG21, ob, decide_true, cond_true, cond_false]) rfl rfl rfl (by simp only [hG21, ob, decide_true, cond_true, cond_false]) ?_
            refine al_run tt_ok rfl (by simp only [hG21, ob, decide_true, cond_true, cond_false]) ?_
            refine ax_weak (Wk.pick [1, 9, 11, 17, 86, 87, 88] [83] rfl rfl) ?_
            obtain ⟨hG20, h⟩ := gd_some h
            refine ax_region ?_
            refine al_run tt_ok rfl (by simp only [hG20, ob, decide_true, cond_true, cond_false]) ?_
            refine ⟨(n, _, _), h, Nat.lt_succ_self _, (Wk.pick [88, 1, 9, 11, 17, 86, 87] [83] rfl rfl)⟩
         ·
          replace h := cond_f hc h
          refine ax_exit ?_
          exact ⟨_, Option.some.inj h, (Wk.pick [1, 9, 11] [83] rfl rfl)⟩
        ·
         rintro o15 rfl
         have h := hk15
         dsimp only [sm] at h
         refine ax_seq ?_
         refine ax_seq ?_
         refine ax_region ?_
         refine al_run tt_ok rfl rfl ?_
         obtain ⟨o24, ho24, hk24⟩ := bd h
         refine ax_cutS (fun o24 : (List OpT) => ⟨[(9, .a (.c (.lst (.sl gNd) r4.1 (some r4.2.1)))), (11, .a (.c (.sl 83)))], [(83, .lrow 45 gOp o24)]⟩) (fun o' => o24 = o') ?_ ?_
         ·
          have h := ho24
          refine ax_block ?_
          refine ax_weak (Wk.pick [125, 9, 11, 123, 124] [83] rfl rfl) ?_
          refine ax_loopL (fun y : Nat × Int × (List OpT) => [(125, .a (.c (.val (.int .i64 y.2.1))))]) (fun y : Nat × Int × (List OpT) => [(83, .lrow 45 gOp y.2.2)]) (fun y : Nat × Int × (List OpT) => m_prepare_L25 a1 r4 y.1 y.2.1 y.2.2 = some o24) (fun y : Nat × Int × (List OpT) => y.1) (FUEL, (0 : Int), o15) h ?_
          rintro ⟨n, v25_0, v25_1⟩ h
          replace h : m_prepare_L25 a1 r4 n v25_0 v25_1 = some o24 := h
          rcases n with _ | n
          · cases (show (none : Option _) = some _ from h)
          rw [m_prepare_L25] at h
          try dsimp only
          refine ax_seq ?_
          refine ax_region ?_
          refine al_run tt_ok rfl rfl ?_
          refine ax_seq ?_
          refine ax_cond rfl rfl (fun hc => ?_) (fun hc => ?_)
          ·
           replace h := cond_t hc h
           refine ax_skip ?_
           refine ax_seq ?_
           refine ax_block ?_
           refine ax_seq ?_
           obtain ⟨hG30, h⟩ := gd_some h
           refine ax_region ?_
           refine al_run tt_ok rfl (by simp only [hG30, ob, decide_true, cond_true, cond_false]) ?_
           refine ax_weak (Wk.frzC 23 (.pair (.int .u8) (.pair (.int .u8) (.pair (.int .i64) (.pair (.int .i64) .bool)))) rfl rfl rfl) ?_
           refine ax_seq ?_
           obtain ⟨r26, hr26, h⟩ := bd h
           refine ax_region ?_
           refine al_upto tt_ok rfl rfl ?_
           refine al_callP (w_stbed _  r26 hr26) rfl ⟨rfl, rfl⟩ rfl Tryd.func49 rfl rfl rfl rfl rfl rfl ?_
           refine al_run tt_ok rfl rfl ?_
           refine ax_cond rfl rfl (fun hc => ?_) (fun hc => ?_)
           ·
            replace h := cond_t hc h
            obtain ⟨hG28, h⟩ := gd_some h
            simp only [Bool.and_eq_true] at hG28
            obtain ⟨⟨hG28_0, hG28_1⟩, hG28_2⟩ := hG28
            refine ax_region ?_
            refine al_upN 11 tt_ok rfl (by simp only [hG28_0, hG28_1, hG28_2, ob, decide_true, cond_true, cond_false]) ?_
            refine al_appendR tt_ok rfl ⟨rfl, rfl⟩ rfl rfl rfl rfl rfl (by simp only [hG28_0, hG28_1, hG28_2, ob, decide_true, cond_true, cond_false]) rfl (by simp only [hG28_0, hG28_1, hG28_2, ob, decide_true, cond_true, cond_false]) rfl rfl rfl (by simp only [hG28_0, hG28_1, hG28_2, ob, decide_true, cond_true, cond_false]) ?_
            refine al_run tt_ok rfl (by simp only [hG28_0, hG28_1, hG28_2, ob, decide_true, cond_true, cond_false]) ?_
            refine ax_weak (Wk.pick [9, 11, 123, 124, 125] [83] rfl rfl) ?_
            obtain ⟨hG27, h⟩ := gd_some h
            refine ax_region ?_
            refine al_run tt_ok rfl (by simp only [hG27, ob, decide_true, cond_true, cond_false]) ?_
            refine ⟨(n, _, _), h, Nat.lt_succ_self _, (Wk.pick [125, 9, 11, 123, 124] [83] rfl rfl)⟩
           ·
            replace h := cond_f hc h
            refine ax_skip ?_
            obtain ⟨hG29, h⟩ := gd_some h
            refine ax_region ?_
            refine al_run tt_ok rfl (by simp only [hG29, ob, decide_true, cond_true, cond_false]) ?_
            refine ⟨(n, _, _), h, Nat.lt_succ_self _, (Wk.pick [125, 9, 11, 123, 124] [83] rfl rfl)⟩
          ·
           replace h := cond_f hc h
           refine ax_exit ?_
           exact ⟨_, (Option.some.inj h).symm, (Wk.pick [9, 11] [83] rfl rfl)⟩
         ·
          rintro _ rfl
          have h := hk24
          refine ax_seq ?_
          obtain ⟨r31, hr31, h⟩ := bd h
          refine ax_region ?_
          refine al_upto tt_ok rfl rfl ?_
          refine al_weak (Wk.frzL (id := 83) rfl) ?_
          refine al_callP (w_clip _ none r31 hr31) rfl ⟨rfl, rfl⟩ rfl Tryd.func31 rfl rfl rfl rfl rfl rfl ?_
          refine al_run tt_ok rfl rfl ?_
          refine ax_ret ?_
          obtain rfl := Option.some.inj h
          refine ⟨_, (Wk.pick [4, 5, 6] [] rfl rfl), _, _, rfl, rfl, ?_⟩
          exact ⟨rfl, rfl⟩
end Go.Proofs.YtihcolehefloeaaDoor

/- Courses: the work of a yarn. -/
namespace Go.Proofs.YtihcolehefloeaaDoor
set_option linter.unusedSimpArgs false
set_option linter.unusedVariables false
open Go.RowKit
def m_cowork_L2 (a0 : Int) (a1 : Int) (a3 : (List (Int × (Int × (Int × (Int × Bool)))))) (a4 : (List (List (Int × Int)))) : Nat → Int → (List OpT) → Option ((List OpT))
  | 0, _, _ => none
  | n + 1, v2_0, v2_1 =>
    cond (decide (v2_0 < (a3.length : Int))) (Option.bind (cond (decide (a0 = (0 : Int))) (gd ((inI64 ((a3.length : Int) - (1 : Int))) && (inI64 (((a3.length : Int) - (1 : Int)) - v2_0))) <|
    some (((a3.length : Int) - (1 : Int)) - v2_0)) (some v2_0)) fun o3 =>
    gd ((inB o3 a3.length)) <|
    cond (decide ((a3.getD o3.toNat (0, (0, (0, (0, false))))).2.1 = a1)) (cond (decide ((a3.getD o3.toNat (0, (0, (0, (0, false))))).1 = (0 : Int))) (none) (
    cond (decide ((a3.getD o3.toNat (0, (0, (0, (0, false))))).1 = (1 : Int))) (gd ((inB o3 a3.length) && (inB (a3.getD o3.toNat (0, (0, (0, (0, false))))).1 9) && (inB o3 a4.length)) <|
    Option.bind (m_coknit a0 a1 v2_1 (a4.getD o3.toNat [])) fun r34 =>
    gd ((inI64 (v2_0 + (1 : Int)))) <|
    m_cowork_L2 a0 a1 a3 a4 n (v2_0 + (1 : Int)) r34) (
    cond (decide ((a3.getD o3.toNat (0, (0, (0, (0, false))))).1 = (2 : Int))) (gd ((inB o3 a3.length) && (inB (a3.getD o3.toNat (0, (0, (0, (0, false))))).1 9) && (inB o3 a4.length)) <|
    Option.bind (m_coknit a0 a1 v2_1 (a4.getD o3.toNat [])) fun r30 =>
    gd ((inI64 (v2_0 + (1 : Int)))) <|
    m_cowork_L2 a0 a1 a3 a4 n (v2_0 + (1 : Int)) r30) (
    cond (decide ((a3.getD o3.toNat (0, (0, (0, (0, false))))).1 = (3 : Int))) (gd ((inB o3 a3.length) && (inB (a3.getD o3.toNat (0, (0, (0, (0, false))))).1 9) && (inB o3 a4.length)) <|
    Option.bind (m_coknit a0 a1 v2_1 (a4.getD o3.toNat [])) fun r26 =>
    gd ((inI64 (v2_0 + (1 : Int)))) <|
    m_cowork_L2 a0 a1 a3 a4 n (v2_0 + (1 : Int)) r26) (
    cond (decide ((a3.getD o3.toNat (0, (0, (0, (0, false))))).1 = (4 : Int))) (gd ((inB o3 a3.length) && (inB (a3.getD o3.toNat (0, (0, (0, (0, false))))).1 9) && (inB o3 a4.length)) <|
    Option.bind (m_coknit a0 a1 v2_1 (a4.getD o3.toNat [])) fun r22 =>
    gd ((inI64 (v2_0 + (1 : Int)))) <|
    m_cowork_L2 a0 a1 a3 a4 n (v2_0 + (1 : Int)) r22) (
    cond (decide ((a3.getD o3.toNat (0, (0, (0, (0, false))))).1 = (5 : Int))) (gd ((inB o3 a3.length) && (inB (a3.getD o3.toNat (0, (0, (0, (0, false))))).1 9) && (inB o3 a4.length)) <|
    Option.bind (m_coknit a0 a1 v2_1 (a4.getD o3.toNat [])) fun r18 =>
    gd ((inI64 (v2_0 + (1 : Int)))) <|
    m_cowork_L2 a0 a1 a3 a4 n (v2_0 + (1 : Int)) r18) (
    cond (decide ((a3.getD o3.toNat (0, (0, (0, (0, false))))).1 = (6 : Int))) (gd ((inB o3 a3.length) && (inB (a3.getD o3.toNat (0, (0, (0, (0, false))))).1 9) && (inB o3 a4.length)) <|
    Option.bind (m_cotuck a0 a1 v2_1 (a4.getD o3.toNat [])) fun r14 =>
    gd ((inI64 (v2_0 + (1 : Int)))) <|
    m_cowork_L2 a0 a1 a3 a4 n (v2_0 + (1 : Int)) r14) (
    cond (decide ((a3.getD o3.toNat (0, (0, (0, (0, false))))).1 = (7 : Int))) (gd ((inB o3 a3.length) && (inB (a3.getD o3.toNat (0, (0, (0, (0, false))))).1 9) && (inB o3 a4.length)) <|
    Option.bind (m_coslip a0 a1 v2_1 (a4.getD o3.toNat [])) fun r10 =>
    gd ((inI64 (v2_0 + (1 : Int)))) <|
    m_cowork_L2 a0 a1 a3 a4 n (v2_0 + (1 : Int)) v2_1) (
    cond (decide ((a3.getD o3.toNat (0, (0, (0, (0, false))))).1 = (8 : Int))) (gd ((inB o3 a3.length) && (inB (a3.getD o3.toNat (0, (0, (0, (0, false))))).1 9) && (inB o3 a4.length)) <|
    Option.bind (m_coknit a0 a1 v2_1 (a4.getD o3.toNat [])) fun r6 =>
    gd ((inI64 (v2_0 + (1 : Int)))) <|
    m_cowork_L2 a0 a1 a3 a4 n (v2_0 + (1 : Int)) r6) (
    none)))))))))) (gd ((inI64 (v2_0 + (1 : Int)))) <|
    m_cowork_L2 a0 a1 a3 a4 n (v2_0 + (1 : Int)) v2_1)) (some v2_1)
def m_cowork (a0 : Int) (a1 : Int) (a2 : List OpT) (a3 : (List (Int × (Int × (Int × (Int × Bool)))))) (a4 : (List (List (Int × Int)))) : Option ((List OpT)) :=
    Option.bind (m_cowork_L2 a0 a1 a3 a4 FUEL (0 : Int) a2) fun o1 =>
    some o1
set_option maxRecDepth 20000 in
set_option maxHeartbeats 4000000 in
theorem w_cowork (a0 : Int) (a1 : Int) (a2 : List OpT) (a3 : (List (Int × (Int × (Int × (Int × Bool)))))) (a4 : (List (List (Int × Int)))) (c0 c1 : Option Nat) (r : ((List OpT))) (h : m_cowork a0 a1 a2 a3 a4 = some r) : AC cx 41 [.c (.ptr 1000000 0), .c (.lst (.pair (.int .u8) (.pair (.int .u8) (.pair (.int .i64) (.pair (.int .i64) .bool)))) a3 c0), .c (.lst (.sl gNd) a4 c1)] [(1000000, .cells 96 [.sl 1000001, .val (.int .u8 a0), .val (.int .u8 a1)]), (1000001, .lrow 45 gOp a2)] (fun sv h => sv = .tup [] ∧ h = [(1000000, .cells 96 [.sl 1000001, .val (.int .u8 a0), .val (.int .u8 a1)]), (1000001, .lrow 45 gOp r)]) := by
  unfold m_cowork at h
  refine ac_body tt_ok Tryd.func41 rfl Tryd.ntmps41 rfl rfl (res := []) rfl ?_
  refine ax_seq ?_
  refine ax_region ?_
  refine al_run tt_ok rfl rfl ?_
  refine ax_seq ?_
  refine ax_region ?_
  refine al_run tt_ok rfl rfl ?_
  obtain ⟨o1, ho1, hk1⟩ := bd h
  refine ax_cutS (fun o1 : (List OpT) => ⟨[], [(1000000, .cells 96 [.sl 1000001, .val (.int .u8 a0), .val (.int .u8 a1)]), (1000001, .lrow 45 gOp o1)]⟩) (fun o' => o1 = o') ?_ ?_
  ·
   have h := ho1
   refine ax_block ?_
   refine ax_weak (Wk.pick [27, 0, 1, 2, 6, 26] [1000001, 6, 1000000] rfl rfl) ?_
   refine ax_loopL (fun y : Nat × Int × (List OpT) => [(27, .a (.c (.val (.int .i64 y.2.1))))]) (fun y : Nat × Int × (List OpT) => [(1000001, .lrow 45 gOp y.2.2)]) (fun y : Nat × Int × (List OpT) => m_cowork_L2 a0 a1 a3 a4 y.1 y.2.1 y.2.2 = some o1) (fun y : Nat × Int × (List OpT) => y.1) (FUEL, (0 : Int), a2) h ?_
   rintro ⟨n, v2_0, v2_1⟩ h
   replace h : m_cowork_L2 a0 a1 a3 a4 n v2_0 v2_1 = some o1 := h
   rcases n with _ | n
   · cases (show (none : Option _) = some _ from h)
   rw [m_cowork_L2] at h
   try dsimp only
   refine ax_seq ?_
   refine ax_region ?_
   refine al_run tt_ok rfl rfl ?_
   refine ax_seq ?_
   refine ax_cond rfl rfl (fun hc => ?_) (fun hc => ?_)
   ·
    replace h := cond_t hc h
    refine ax_skip ?_
    refine ax_seq ?_
    refine ax_block ?_
    refine ax_seq ?_
    refine ax_region ?_
    refine al_run tt_ok rfl rfl ?_
    refine ax_seq ?_
    refine ax_seq ?_
    refine ax_region ?_
    refine al_run tt_ok rfl rfl ?_
    obtain ⟨o3, ho3, hk3⟩ := bd h
    refine ax_cutS (fun o3 : Int => ⟨[(0, .a (.c (.ptr 1000000 0))), (1, .a (.c (.lst (.pair (.int .u8) (.pair (.int .u8) (.pair (.int .i64) (.pair (.int .i64) .bool)))) a3 c0))), (2, .a (.c (.lst (.sl gNd) a4 c1))), (6, .a (.c (.ptr 6 0))), (7, .a (.c (.val (.int .i64 o3)))), (26, .a (.c (.val (.int .i64 (a3.length : Int))))), (27, .a (.c (.val (.int .i64 v2_0))))], [(6, .cells 134 [.val (.nilFunc), .bfn 66 1000000, .bfn 66 1000000, .bfn 66 1000000, .bfn 66 1000000, .bfn 66 1000000, .bfn 67 1000000, .bfn 68 1000000, .bfn 66 1000000]), (1000000, .cells 96 [.sl 1000001, .val (.int .u8 a0), .val (.int .u8 a1)]), (1000001, .lrow 45 gOp v2_1)]⟩) (fun o' => o3 = o') ?_ ?_
    ·
     have h := ho3
     refine ax_cond rfl rfl (fun hc => ?_) (fun hc => ?_)
     ·
      replace h := cond_t hc h
      obtain ⟨hG4, h⟩ := gd_some h
      simp only [Bool.and_eq_true] at hG4
      obtain ⟨hG4_0, hG4_1⟩ := hG4
      refine ax_region ?_
      refine al_run tt_ok rfl (by simp only [hG4_0, hG4_1, ob, decide_true, cond_true, cond_false]) ?_
      exact ⟨_, (Option.some.inj h).symm, (Wk.pick [0, 1, 2, 6, 7, 26, 27] [6, 1000000, 1000001] rfl rfl)⟩
     ·
      replace h := cond_f hc h
      refine ax_skip ?_
      exact ⟨_, (Option.some.inj h).symm, (Wk.pick [0, 1, 2, 6, 7, 26, 27] [6, 1000000, 1000001] rfl rfl)⟩
    ·
     rintro _ rfl
     have h := hk3
     refine ax_seq ?_
     obtain ⟨hG39, h⟩ := gd_some h
     refine ax_draw [] (by kernel_rfl) rfl (N := 10) ?_
     refine ad_run (fuel := 0) (ds' := ⟨#[true, true, true, true, true, true, true, true, true, true], true, true, true⟩) tt_ok [(0, 0), (1, 0), (2, 0), (3, 0), (4, 1), (5, 0), (6, 0), (7, 0), (8, 3), (9, 0)] (by kernel_rfl) rfl (by simp only [hG39, ob, decide_true, cond_true, cond_false]) ?_
     refine ad_done (by kernel_rfl) ?_
     refine ax_cond rfl rfl (fun hc => ?_) (fun hc => ?_)
     ·
      replace h := cond_t hc h
      refine few_split h (fun hz37 h => ?_) (fun _ h => ?_)
      ·
       cases h
      refine few_split h (fun hz33 h => ?_) (fun _ h => ?_)
      ·
       obtain ⟨hG36, h⟩ := gd_some h
       simp only [Bool.and_eq_true] at hG36
       obtain ⟨⟨hG36_0, hG36_1⟩, hG36_2⟩ := hG36
       obtain ⟨r34, hr34, h⟩ := bd h
       refine ax_draw [] (by kernel_rfl) rfl (N := 12) ?_
       refine ad_run (fuel := 2) (ds' := ⟨#[true, true, true, true, true, true, false, true, true, true, true, false], true, true, true⟩) tt_ok [(0, 0), (1, 0), (2, 0), (3, 0), (4, 1), (5, 0), (7, 0), (8, 0), (9, 0), (10, 1)] (by kernel_rfl) rfl (by simp only [hG36_0, hG36_1, hG36_2, ob, decide_true, cond_true, cond_false]) ?_
       refine ad_ready (by kernel_rfl) (ads_cons (i := 6) ?_ ads_nil)
       refine ado_pk (i := 6) (l' := #[true, true, true, true, true, true, true, true, true, true, true, false]) rfl (pk_loadJ 1 0 (a3.getD o3.toNat (0, (0, (0, (0, false))))).1 tt_ok rfl rfl rfl rfl (by simp only [hG36_0, hG36_1, hG36_2, ob, decide_true, cond_true, cond_false]) rfl hz33 rfl rfl) ⟨rfl, rfl⟩ rfl rfl rfl ?_
       refine ad_ready (by kernel_rfl) (ads_cons (i := 11) ?_ ads_nil)
       refine ado_of rfl ?_
       refine adx_callB (i := 11) (listed' := #[true, true, true, true, true, true, true, true, true, true, true, true]) (pre' := false) [(1000000, 1000000), (1000001, 1000001)] (w_coknit _ _ _ _ none r34 hr34) rfl rfl rfl rfl ⟨rfl, rfl⟩ rfl rfl Tryd.func66 rfl rfl rfl (by simp only [hG36_0, hG36_1, hG36_2, ob, decide_true, cond_true, cond_false]) rfl rfl (PassH.cons rfl rfl rfl (PassH.cons rfl rfl rfl PassH.nil)) ?_
       rintro _ _ ⟨rfl, rfl⟩
       refine ⟨_, _, rfl, rfl, ?_⟩
       refine ad_done (by kernel_rfl) ?_
       obtain ⟨hG35, h⟩ := gd_some h
       refine ax_region ?_
       refine al_run tt_ok rfl (by simp only [hG35, ob, decide_true, cond_true, cond_false]) ?_
       refine ⟨(n, _, _), h, Nat.lt_succ_self _, (Wk.pick [27, 0, 1, 2, 6, 26] [1000001, 6, 1000000] rfl rfl)⟩
      refine few_split h (fun hz29 h => ?_) (fun _ h => ?_)
      ·
       obtain ⟨hG32, h⟩ := gd_some h
       simp only [Bool.and_eq_true] at hG32
       obtain ⟨⟨hG32_0, hG32_1⟩, hG32_2⟩ := hG32
       obtain ⟨r30, hr30, h⟩ := bd h
       refine ax_draw [] (by kernel_rfl) rfl (N := 12) ?_
       refine ad_run (fuel := 2) (ds' := ⟨#[true, true, true, true, true, true, false, true, true, true, true, false], true, true, true⟩) tt_ok [(0, 0), (1, 0), (2, 0), (3, 0), (4, 1), (5, 0), (7, 0), (8, 0), (9, 0), (10, 1)] (by kernel_rfl) rfl (by simp only [hG32_0, hG32_1, hG32_2, ob, decide_true, cond_true, cond_false]) ?_
       refine ad_ready (by kernel_rfl) (ads_cons (i := 6) ?_ ads_nil)
       refine ado_pk (i := 6) (l' := #[true, true, true, true, true, true, true, true, true, true, true, false]) rfl (pk_loadJ 2 0 (a3.getD o3.toNat (0, (0, (0, (0, false))))).1 tt_ok rfl rfl rfl rfl (by simp only [hG32_0, hG32_1, hG32_2, ob, decide_true, cond_true, cond_false]) rfl hz29 rfl rfl) ⟨rfl, rfl⟩ rfl rfl rfl ?_
       refine ad_ready (by kernel_rfl) (ads_cons (i := 11) ?_ ads_nil)
       refine ado_of rfl ?_
       refine adx_callB (i := 11) (listed' := #[true, true, true, true, true, true, true, true, true, true, true, true]) (pre' := false) [(1000000, 1000000), (1000001, 1000001)] (w_coknit _ _ _ _ none r30 hr30) rfl rfl rfl rfl ⟨rfl, rfl⟩ rfl rfl Tryd.func66 rfl rfl rfl (by simp only [hG32_0, hG32_1, hG32_2, ob, decide_true, cond_true, cond_false]) rfl rfl (PassH.cons rfl rfl rfl (PassH.cons rfl rfl rfl PassH.nil)) ?_
       rintro _ _ ⟨rfl, rfl⟩
       refine ⟨_, _, rfl, rfl, ?_⟩
       refine ad_done (by kernel_rfl) ?_
       obtain ⟨hG31, h⟩ := gd_some h
       refine ax_region ?_
       refine al_run tt_ok rfl (by simp only [hG31, ob, decide_true, cond_true, cond_false]) ?_
       refine ⟨(n, _, _), h, Nat.lt_succ_self _, (Wk.pick [27, 0, 1, 2, 6, 26] [1000001, 6, 1000000] rfl rfl)⟩
      refine few_split h (fun hz25 h => ?_) (fun _ h => ?_)
      ·
       obtain ⟨hG28, h⟩ := gd_some h
       simp only [Bool.and_eq_true] at hG28
       obtain ⟨⟨hG28_0, hG28_1⟩, hG28_2⟩ := hG28
       obtain ⟨r26, hr26, h⟩ := bd h
       refine ax_draw [] (by kernel_rfl) rfl (N := 12) ?_
       refine ad_run (fuel := 2) (ds' := ⟨#[true, true, true, true, true, true, false, true, true, true, true, false], true, true, true⟩) tt_ok [(0, 0), (1, 0), (2, 0), (3, 0), (4, 1), (5, 0), (7, 0), (8, 0), (9, 0), (10, 1)] (by kernel_rfl) rfl (by simp only [hG28_0, hG28_1, hG28_2, ob, decide_true, cond_true, cond_false]) ?_
       refine ad_ready (by kernel_rfl) (ads_cons (i := 6) ?_ ads_nil)
       refine ado_pk (i := 6) (l' := #[true, true, true, true, true, true, true, true, true, true, true, false]) rfl (pk_loadJ 3 0 (a3.getD o3.toNat (0, (0, (0, (0, false))))).1 tt_ok rfl rfl rfl rfl (by simp only [hG28_0, hG28_1, hG28_2, ob, decide_true, cond_true, cond_false]) rfl hz25 rfl rfl) ⟨rfl, rfl⟩ rfl rfl rfl ?_
       refine ad_ready (by kernel_rfl) (ads_cons (i := 11) ?_ ads_nil)
       refine ado_of rfl ?_
       refine adx_callB (i := 11) (listed' := #[true, true, true, true, true, true, true, true, true, true, true, true]) (pre' := false) [(1000000, 1000000), (1000001, 1000001)] (w_coknit _ _ _ _ none r26 hr26) rfl rfl rfl rfl ⟨rfl, rfl⟩ rfl rfl Tryd.func66 rfl rfl rfl (by simp only [hG28_0, hG28_1, hG28_2, ob, decide_true, cond_true, cond_false]) rfl rfl (PassH.cons rfl rfl rfl (PassH.cons rfl rfl rfl PassH.nil)) ?_
       rintro _ _ ⟨rfl, rfl⟩
       refine ⟨_, _, rfl, rfl, ?_⟩
       refine ad_done (by kernel_rfl) ?_
       obtain ⟨hG27, h⟩ := gd_some h
       refine ax_region ?_
       refine al_run tt_ok rfl (by simp only [hG27, ob, decide_true, cond_true, cond_false]) ?_
       refine ⟨(n, _, _), h, Nat.lt_succ_self _, (Wk.pick [27, 0, 1, 2, 6, 26] [1000001, 6, 1000000] rfl rfl)⟩
      refine few_split h (fun hz21 h => ?_) (fun _ h => ?_)
      ·
       obtain ⟨hG24, h⟩ := gd_some h
       simp only [Bool.and_eq_true] at hG24
       obtain ⟨⟨hG24_0, hG24_1⟩, hG24_2⟩ := hG24
       obtain ⟨r22, hr22, h⟩ := bd h
       refine ax_draw [] (by kernel_rfl) rfl (N := 12) ?_
       refine ad_run (fuel := 2) (ds' := ⟨#[true, true, true, true, true, true, false, true, true, true, true, false], true, true, true⟩) tt_ok [(0, 0), (1, 0), (2, 0), (3, 0), (4, 1), (5, 0), (7, 0), (8, 0), (9, 0), (10, 1)] (by kernel_rfl) rfl (by simp only [hG24_0, hG24_1, hG24_2, ob, decide_true, cond_true, cond_false]) ?_
       refine ad_ready (by kernel_rfl) (ads_cons (i := 6) ?_ ads_nil)
       refine ado_pk (i := 6) (l' := #[true, true, true, true, true, true, true, true, true, true, true, false]) rfl (pk_loadJ 4 0 (a3.getD o3.toNat (0, (0, (0, (0, false))))).1 tt_ok rfl rfl rfl rfl (by simp only [hG24_0, hG24_1, hG24_2, ob, decide_true, cond_true, cond_false]) rfl hz21 rfl rfl) ⟨rfl, rfl⟩ rfl rfl rfl ?_
       refine ad_ready (by kernel_rfl) (ads_cons (i := 11) ?_ ads_nil)
       refine ado_of rfl ?_
       refine adx_callB (i := 11) (listed' := #[true, true, true, true, true, true, true, true, true, true, true, true]) (pre' := false) [(1000000, 1000000), (1000001, 1000001)] (w_coknit _ _ _ _ none r22 hr22) rfl rfl rfl rfl ⟨rfl, rfl⟩ rfl rfl Tryd.func66 rfl rfl rfl (by simp only [hG24_0, hG24_1, hG24_2, ob, decide_true, cond_true, cond_false]) rfl rfl (PassH.cons rfl rfl rfl (PassH.cons rfl rfl rfl PassH.nil)) ?_
       rintro _ _ ⟨rfl, rfl⟩
       refine ⟨_, _, rfl, rfl, ?_⟩
       refine ad_done (by kernel_rfl) ?_
       obtain ⟨hG23, h⟩ := gd_some h
       refine ax_region ?_
       refine al_run tt_ok rfl (by simp only [hG23, ob, decide_true, cond_true, cond_false]) ?_
       refine ⟨(n, _, _), h, Nat.lt_succ_self _, (Wk.pick [27, 0, 1, 2, 6, 26] [1000001, 6, 1000000] rfl rfl)⟩
      refine few_split h (fun hz17 h => ?_) (fun _ h => ?_)
      ·
       obtain ⟨hG20, h⟩ := gd_some h
       simp only [Bool.and_eq_true] at hG20
       obtain ⟨⟨hG20_0, hG20_1⟩, hG20_2⟩ := hG20
       obtain ⟨r18, hr18, h⟩ := bd h
       refine ax_draw [] (by kernel_rfl) rfl (N := 12) ?_
       refine ad_run (fuel := 2) (ds' := ⟨#[true, true, true, true, true, true, false, true, true, true, true, false], true, true, true⟩) tt_ok [(0, 0), (1, 0), (2, 0), (3, 0), (4, 1), (5, 0), (7, 0), (8, 0), (9, 0), (10, 1)] (by kernel_rfl) rfl (by simp only [hG20_0, hG20_1, hG20_2, ob, decide_true, cond_true, cond_false]) ?_
       refine ad_ready (by kernel_rfl) (ads_cons (i := 6) ?_ ads_nil)
       refine ado_pk (i := 6) (l' := #[true, true, true, true, true, true, true, true, true, true, true, false]) rfl (pk_loadJ 5 0 (a3.getD o3.toNat (0, (0, (0, (0, false))))).1 tt_ok rfl rfl rfl rfl (by simp only [hG20_0, hG20_1, hG20_2, ob, decide_true, cond_true, cond_false]) rfl hz17 rfl rfl) ⟨rfl, rfl⟩ rfl rfl rfl ?_
       refine ad_ready (by kernel_rfl) (ads_cons (i := 11) ?_ ads_nil)
       refine ado_of rfl ?_
       refine adx_callB (i := 11) (listed' := #[true, true, true, true, true, true, true, true, true, true, true, true]) (pre' := false) [(1000000, 1000000), (1000001, 1000001)] (w_coknit _ _ _ _ none r18 hr18) rfl rfl rfl rfl ⟨rfl, rfl⟩ rfl rfl Tryd.func66 rfl rfl rfl (by simp only [hG20_0, hG20_1, hG20_2, ob, decide_true, cond_true, cond_false]) rfl rfl (PassH.cons rfl rfl rfl (PassH.cons rfl rfl rfl PassH.nil)) ?_
       rintro _ _ ⟨rfl, rfl⟩
       refine ⟨_, _, rfl, rfl, ?_⟩
       refine ad_done (by kernel_rfl) ?_
       obtain ⟨hG19, h⟩ := gd_some h
       refine ax_region ?_
       refine al_run tt_ok rfl (by simp only [hG19, ob, decide_true, cond_true, cond_false]) ?_
       refine ⟨(n, _, _), h, Nat.lt_succ_self _, (Wk.pick [27, 0, 1, 2, 6, 26] [1000001, 6, 1000000] rfl rfl)⟩
      refine few_split h (fun hz13 h => ?_) (fun _ h => ?_)
      ·
       obtain ⟨hG16, h⟩ := gd_some h
       simp only [Bool.and_eq_true] at hG16
       obtain ⟨⟨hG16_0, hG16_1⟩, hG16_2⟩ := hG16
       obtain ⟨r14, hr14, h⟩ := bd h
       refine ax_draw [] (by kernel_rfl) rfl (N := 12) ?_
       refine ad_run (fuel := 2) (ds' := ⟨#[true, true, true, true, true, true, false, true, true, true, true, false], true, true, true⟩) tt_ok [(0, 0), (1, 0), (2, 0), (3, 0), (4, 1), (5, 0), (7, 0), (8, 0), (9, 0), (10, 1)] (by kernel_rfl) rfl (by simp only [hG16_0, hG16_1, hG16_2, ob, decide_true, cond_true, cond_false]) ?_
       refine ad_ready (by kernel_rfl) (ads_cons (i := 6) ?_ ads_nil)
       refine ado_pk (i := 6) (l' := #[true, true, true, true, true, true, true, true, true, true, true, false]) rfl (pk_loadJ 6 0 (a3.getD o3.toNat (0, (0, (0, (0, false))))).1 tt_ok rfl rfl rfl rfl (by simp only [hG16_0, hG16_1, hG16_2, ob, decide_true, cond_true, cond_false]) rfl hz13 rfl rfl) ⟨rfl, rfl⟩ rfl rfl rfl ?_
       refine ad_ready (by kernel_rfl) (ads_cons (i := 11) ?_ ads_nil)
       refine ado_of rfl ?_
       refine adx_callB (i := 11) (listed' := #[true, true, true, true, true, true, true, true, true, true, true, true]) (pre' := false) [(1000000, 1000000), (1000001, 1000001)] (w_cotuck _ _ _ _ none r14 hr14) rfl rfl rfl rfl ⟨rfl, rfl⟩ rfl rfl Tryd.func67 rfl rfl rfl (by simp only [hG16_0, hG16_1, hG16_2, ob, decide_true, cond_true, cond_false]) rfl rfl (PassH.cons rfl rfl rfl (PassH.cons rfl rfl rfl PassH.nil)) ?_
       rintro _ _ ⟨rfl, rfl⟩
       refine ⟨_, _, rfl, rfl, ?_⟩
       refine ad_done (by kernel_rfl) ?_
       obtain ⟨hG15, h⟩ := gd_some h
       refine ax_region ?_
       refine al_run tt_ok rfl (by simp only [hG15, ob, decide_true, cond_true, cond_false]) ?_
       refine ⟨(n, _, _), h, Nat.lt_succ_self _, (Wk.pick [27, 0, 1, 2, 6, 26] [1000001, 6, 1000000] rfl rfl)⟩
      refine few_split h (fun hz9 h => ?_) (fun _ h => ?_)
      ·
       obtain ⟨hG12, h⟩ := gd_some h
       simp only [Bool.and_eq_true] at hG12
       obtain ⟨⟨hG12_0, hG12_1⟩, hG12_2⟩ := hG12
       obtain ⟨r10, hr10, h⟩ := bd h
       refine ax_draw [] (by kernel_rfl) rfl (N := 12) ?_
       refine ad_run (fuel := 2) (ds' := ⟨#[true, true, true, true, true, true, false, true, true, true, true, false], true, true, true⟩) tt_ok [(0, 0), (1, 0), (2, 0), (3, 0), (4, 1), (5, 0), (7, 0), (8, 0), (9, 0), (10, 1)] (by kernel_rfl) rfl (by simp only [hG12_0, hG12_1, hG12_2, ob, decide_true, cond_true, cond_false]) ?_
       refine ad_ready (by kernel_rfl) (ads_cons (i := 6) ?_ ads_nil)
       refine ado_pk (i := 6) (l' := #[true, true, true, true, true, true, true, true, true, true, true, false]) rfl (pk_loadJ 7 0 (a3.getD o3.toNat (0, (0, (0, (0, false))))).1 tt_ok rfl rfl rfl rfl (by simp only [hG12_0, hG12_1, hG12_2, ob, decide_true, cond_true, cond_false]) rfl hz9 rfl rfl) ⟨rfl, rfl⟩ rfl rfl rfl ?_
       refine ad_ready (by kernel_rfl) (ads_cons (i := 11) ?_ ads_nil)
       refine ado_of rfl ?_
       refine adx_callB (i := 11) (listed' := #[true, true, true, true, true, true, true, true, true, true, true, true]) (pre' := false) [(1000000, 1000000), (1000001, 1000001)] (w_coslip _ _ _ _ none r10 hr10) rfl rfl rfl rfl ⟨rfl, rfl⟩ rfl rfl Tryd.func68 rfl rfl rfl (by simp only [hG12_0, hG12_1, hG12_2, ob, decide_true, cond_true, cond_false]) rfl rfl (PassH.cons rfl rfl rfl (PassH.cons rfl rfl rfl PassH.nil)) ?_
       rintro _ _ ⟨rfl, rfl⟩
       refine ⟨_, _, rfl, rfl, ?_⟩
       refine ad_done (by kernel_rfl) ?_
       obtain ⟨hG11, h⟩ := gd_some h
       refine ax_region ?_
       refine al_run tt_ok rfl (by simp only [hG11, ob, decide_true, cond_true, cond_false]) ?_
       refine ⟨(n, _, _), h, Nat.lt_succ_self _, (Wk.pick [27, 0, 1, 2, 6, 26] [1000001, 6, 1000000] rfl rfl)⟩
      refine few_split h (fun hz5 h => ?_) (fun _ h => ?_)
      ·
       obtain ⟨hG8, h⟩ := gd_some h
       simp only [Bool.and_eq_true] at hG8
       obtain ⟨⟨hG8_0, hG8_1⟩, hG8_2⟩ := hG8
       obtain ⟨r6, hr6, h⟩ := bd h
       refine ax_draw [] (by kernel_rfl) rfl (N := 12) ?_
       refine ad_run (fuel := 2) (ds' := ⟨#[true, true, true, true, true, true, false, true, true, true, true, false], true, true, true⟩) tt_ok [(0, 0), (1, 0), (2, 0), (3, 0), (4, 1), (5, 0), (7, 0), (8, 0), (9, 0), (10, 1)] (by kernel_rfl) rfl (by simp only [hG8_0, hG8_1, hG8_2, ob, decide_true, cond_true, cond_false]) ?_
       refine ad_ready (by kernel_rfl) (ads_cons (i := 6) ?_ ads_nil)
       refine ado_pk (i := 6) (l' := #[true, true, true, true, true, true, true, true, true, true, true, false]) rfl (pk_loadJ 8 0 (a3.getD o3.toNat (0, (0, (0, (0, false))))).1 tt_ok rfl rfl rfl rfl (by simp only [hG8_0, hG8_1, hG8_2, ob, decide_true, cond_true, cond_false]) rfl hz5 rfl rfl) ⟨rfl, rfl⟩ rfl rfl rfl ?_
       refine ad_ready (by kernel_rfl) (ads_cons (i := 11) ?_ ads_nil)
       refine ado_of rfl ?_
       refine adx_callB (i := 11) (listed' := #[true, true, true, true, true, true, true, true, true, true, true, true]) (pre' := false) [(1000000, 1000000), (1000001, 1000001)] (w_coknit _ _ _ _ none r6 hr6) rfl rfl rfl rfl ⟨rfl, rfl⟩ rfl rfl Tryd.func66 rfl rfl rfl (by simp only [hG8_0, hG8_1, hG8_2, ob, decide_true, cond_true, cond_false]) rfl rfl (PassH.cons rfl rfl rfl (PassH.cons rfl rfl rfl PassH.nil)) ?_
       rintro _ _ ⟨rfl, rfl⟩
       refine ⟨_, _, rfl, rfl, ?_⟩
       refine ad_done (by kernel_rfl) ?_
       obtain ⟨hG7, h⟩ := gd_some h
       refine ax_region ?_
       refine al_run tt_ok rfl (by simp only [hG7, ob, decide_true, cond_true, cond_false]) ?_
       refine ⟨(n, _, _), h, Nat.lt_succ_self _, (Wk.pick [27, 0, 1, 2, 6, 26] [1000001, 6, 1000000] rfl rfl)⟩
      cases h
     ·
      replace h := cond_f hc h
      refine ax_skip ?_
      obtain ⟨hG38, h⟩ := gd_some h
      refine ax_region ?_
      refine al_run tt_ok rfl (by simp only [hG38, ob, decide_true, cond_true, cond_false]) ?_
      refine ⟨(n, _, _), h, Nat.lt_succ_self _, (Wk.pick [27, 0, 1, 2, 6, 26] [1000001, 6, 1000000] rfl rfl)⟩
   ·
    replace h := cond_f hc h
    refine ax_exit ?_
    exact ⟨_, (Option.some.inj h).symm, (Wk.pick [] [1000000, 1000001] rfl rfl)⟩
  ·
   rintro _ rfl
   have h := hk1
   obtain rfl := Option.some.inj h
   refine ⟨_, (Wk.pick [] [1000000, 1000001] rfl rfl), _, _, rfl, rfl, ?_⟩
   exact ⟨rfl, rfl⟩
end Go.Proofs.YtihcolehefloeaaDoor

/- Courses: a row's program. -/
namespace Go.Proofs.YtihcolehefloeaaDoor
set_option linter.unusedSimpArgs false
set_option linter.unusedVariables false
open Go.RowKit
def m_concat_L2 (a0 : (List (List (Int × Int)))) : Nat → Int → Int → Option (Int)
  | 0, _, _ => none
  | n + 1, v2_0, v2_1 =>
    cond (decide (v2_1 < (a0.length : Int))) (gd ((inB v2_1 a0.length)) <|
    gd ((inI64 (v2_0 + ((a0.getD v2_1.toNat []).length : Int)))) <|
    cond (decide ((v2_0 + ((a0.getD v2_1.toNat []).length : Int)) < (0 : Int))) (none) (gd ((inI64 (v2_1 + (1 : Int)))) <|
    m_concat_L2 a0 n (v2_0 + ((a0.getD v2_1.toNat []).length : Int)) (v2_1 + (1 : Int)))) (some v2_0)
def m_concat_L8 (a0 : (List (List (Int × Int)))) : Nat → Int → (List (Int × Int)) → Option ((List (Int × Int)))
  | 0, _, _ => none
  | n + 1, v8_0, v8_1 =>
    cond (decide (v8_0 < (a0.length : Int))) (gd ((inB v8_0 a0.length)) <|
    gd ((fitB 16 (v8_1.length + (a0.getD v8_0.toNat []).length))) <|
    gd ((inI64 (v8_0 + (1 : Int)))) <|
    m_concat_L8 a0 n (v8_0 + (1 : Int)) (v8_1 ++ (a0.getD v8_0.toNat []))) (some v8_1)
def m_concat (a0 : (List (List (Int × Int)))) : Option ((List (Int × Int))) :=
    Option.bind (m_concat_L2 a0 FUEL (0 : Int) (0 : Int)) fun o1 =>
    Option.bind (m_growN o1) fun r6 =>
    Option.bind (m_concat_L8 a0 FUEL (0 : Int) r6) fun o7 =>
    some o7
set_option maxRecDepth 20000 in
set_option maxHeartbeats 4000000 in
theorem w_concat (a0 : (List (List (Int × Int)))) (c0 : Option Nat) (r : ((List (Int × Int)))) (h : m_concat a0 = some r) : AC cx 38 [.c (.lst (.sl gNd) a0 c0)] [] (fun sv h => sv = .a (.c (.lst gNd r none)) ∧ h = []) := by
  unfold m_concat at h
  refine ac_body tt_ok Tryd.func38 rfl Tryd.ntmps38 rfl rfl (res := [.tmp 2]) rfl ?_
  refine ax_seq ?_
  refine ax_region ?_
  refine al_run tt_ok rfl rfl ?_
  refine ax_seq ?_
  refine ax_region ?_
  refine al_run tt_ok rfl rfl ?_
  refine ax_seq ?_
  refine ax_seq ?_
  refine ax_region ?_
  refine al_run tt_ok rfl rfl ?_
  obtain ⟨o1, ho1, hk1⟩ := bd h
  refine ax_cutS (fun o1 : Int => ⟨[(0, .a (.c (.lst (.sl gNd) a0 c0))), (3, .a (.c (.val (.int .i64 o1))))], []⟩) (fun o' => o1 = o') ?_ ?_
  ·
   have h := ho1
   refine ax_block ?_
   refine ax_weak (Wk.pick [3, 11, 0, 9, 10] [] rfl rfl) ?_
   refine ax_loopL (fun y : Nat × Int × Int => [(3, .a (.c (.val (.int .i64 y.2.1)))), (11, .a (.c (.val (.int .i64 y.2.2))))]) (fun y : Nat × Int × Int => []) (fun y : Nat × Int × Int => m_concat_L2 a0 y.1 y.2.1 y.2.2 = some o1) (fun y : Nat × Int × Int => y.1) (FUEL, (0 : Int), (0 : Int)) h ?_
   rintro ⟨n, v2_0, v2_1⟩ h
   replace h : m_concat_L2 a0 n v2_0 v2_1 = some o1 := h
   rcases n with _ | n
   · cases (show (none : Option _) = some _ from h)
   rw [m_concat_L2] at h
   try dsimp only
   refine ax_seq ?_
   refine ax_region ?_
   refine al_run tt_ok rfl rfl ?_
   refine ax_seq ?_
   refine ax_cond rfl rfl (fun hc => ?_) (fun hc => ?_)
   ·
    replace h := cond_t hc h
    refine ax_skip ?_
    refine ax_seq ?_
    refine ax_block ?_
    refine ax_seq ?_
    obtain ⟨hG5, h⟩ := gd_some h
    refine ax_region ?_
    refine al_run tt_ok rfl (by simp only [hG5, ob, decide_true, cond_true, cond_false]) ?_
    refine ax_seq ?_
    obtain ⟨hG4, h⟩ := gd_some h
    refine ax_region ?_
    refine al_run tt_ok rfl (by simp only [hG4, ob, decide_true, cond_true, cond_false]) ?_
    refine ax_seq ?_
    refine ax_region ?_
    refine al_run tt_ok rfl rfl ?_
    refine ax_cond rfl rfl (fun hc => ?_) (fun hc => ?_)
    ·
     replace h := cond_t hc h
     cases h
    ·
     replace h := cond_f hc h
     refine ax_skip ?_
     obtain ⟨hG3, h⟩ := gd_some h
     refine ax_region ?_
     refine al_run tt_ok rfl (by simp only [hG3, ob, decide_true, cond_true, cond_false]) ?_
     refine ⟨(n, _, _), h, Nat.lt_succ_self _, (Wk.pick [3, 11, 0, 9, 10] [] rfl rfl)⟩
   ·
    replace h := cond_f hc h
    refine ax_exit ?_
    exact ⟨_, (Option.some.inj h).symm, (Wk.pick [0, 3] [] rfl rfl)⟩
  ·
   rintro _ rfl
   have h := hk1
   refine ax_seq ?_
   obtain ⟨r6, hr6, h⟩ := bd h
   refine ax_region ?_
   refine al_upto tt_ok rfl rfl ?_
   refine al_call [(5, 24)] (w_growN _  r6 hr6) rfl ⟨rfl, rfl⟩ rfl Tryd.func64 rfl rfl rfl rfl rfl rfl PassH.nil ?_
   rintro _ _ ⟨rfl, rfl⟩
   refine ⟨_, _, rfl, rfl, ?_⟩
   refine al_run tt_ok rfl rfl ?_
   refine ax_seq ?_
   refine ax_seq ?_
   refine ax_region ?_
   refine al_run tt_ok rfl rfl ?_
   obtain ⟨o7, ho7, hk7⟩ := bd h
   refine ax_cutS (fun o7 : (List (Int × Int)) => ⟨[(6, .a (.c (.sl 24)))], [(24, .row 39 gNd o7 none)]⟩) (fun o' => o7 = o') ?_ ?_
   ·
    have h := ho7
    refine ax_block ?_
    refine ax_weak (Wk.pick [27, 6, 25, 26] [24] rfl rfl) ?_
    refine ax_loopL (fun y : Nat × Int × (List (Int × Int)) => [(27, .a (.c (.val (.int .i64 y.2.1))))]) (fun y : Nat × Int × (List (Int × Int)) => [(24, .row 39 gNd y.2.2 none)]) (fun y : Nat × Int × (List (Int × Int)) => m_concat_L8 a0 y.1 y.2.1 y.2.2 = some o7) (fun y : Nat × Int × (List (Int × Int)) => y.1) (FUEL, (0 : Int), r6) h ?_
    rintro ⟨n, v8_0, v8_1⟩ h
    replace h : m_concat_L8 a0 n v8_0 v8_1 = some o7 := h
    rcases n with _ | n
    · cases (show (none : Option _) = some _ from h)
    rw [m_concat_L8] at h
    try dsimp only
    refine ax_seq ?_
    refine ax_region ?_
    refine al_run tt_ok rfl rfl ?_
    refine ax_seq ?_
    refine ax_cond rfl rfl (fun hc => ?_) (fun hc => ?_)
    ·
     replace h := cond_t hc h
     refine ax_skip ?_
     refine ax_seq ?_
     refine ax_block ?_
     refine ax_seq ?_
     obtain ⟨hG11, h⟩ := gd_some h
     refine ax_region ?_
     refine al_run tt_ok rfl (by simp only [hG11, ob, decide_true, cond_true, cond_false]) ?_
     obtain ⟨hG10, h⟩ := gd_some h
     refine ax_region ?_
     refine al_run tt_ok rfl (by simp only [hG10, ob, decide_true, cond_true, cond_false]) ?_
     obtain ⟨hG9, h⟩ := gd_some h
     refine ax_region ?_
     refine al_run tt_ok rfl (by simp only [hG9, ob, decide_true, cond_true, cond_false]) ?_
     refine ⟨(n, _, _), h, Nat.lt_succ_self _, (Wk.pick [27, 6, 25, 26] [24] rfl rfl)⟩
    ·
     replace h := cond_f hc h
     refine ax_exit ?_
     exact ⟨_, (Option.some.inj h).symm, (Wk.pick [6] [24] rfl rfl)⟩
   ·
    rintro _ rfl
    have h := hk7
    refine ax_seq ?_
    refine ax_region ?_
    refine al_run tt_ok rfl rfl ?_
    refine ax_ret ?_
    obtain rfl := Option.some.inj h
    refine ⟨_, (Wk.trans (Wk.frz (id := 24) rfl) (Wk.pick [2] [] rfl rfl)), _, _, rfl, rfl, ?_⟩
    exact ⟨rfl, rfl⟩
def m_course_L9 (a0 : ((List (Int × Int)) × (Int × (Int × (Int × (Int × (Int × Int))))))) (a1 : (List (Int × (Int × (Int × (Int × Bool)))))) (a2 : Int) (r1 : (List OpT) × (List (List (Int × Int))) × Nat × Int) (o2 : Int × Int × Int) (r5 : (List Int) × (Option Nat)) : Nat → Int → Int → Int → Int → Int → Int → Int → Int → (List OpT) → Option (Int × Int × Int × Int × Int × Int × Int × (List OpT))
  | 0, _, _, _, _, _, _, _, _, _ => none
  | n + 1, v9_0, v9_1, v9_2, v9_3, v9_4, v9_5, v9_6, v9_7, v9_8 =>
    cond (decide (v9_0 < (r5.1.length : Int))) (gd ((inB v9_0 r5.1.length)) <|
    gd ((inB (IntKind.wrap .u8 ((r5.1.getD v9_0.toNat 0) - (1 : Int))) 6)) <|
    Option.bind (cond (decide ((([a0.2.1, a0.2.2.1, a0.2.2.2.1, a0.2.2.2.2.1, a0.2.2.2.2.2.1, a0.2.2.2.2.2.2] : List Int).getD (IntKind.wrap .u8 ((r5.1.getD v9_0.toNat 0) - (1 : Int))).toNat 0) = (0 : Int))) (gd ((fitB 40 (v9_8.length + [((1 : Int), (o2.2.2, (((0 : Int), (0 : Int)), ((r5.1.getD v9_0.toNat 0), (0 : Int)))))].length))) <|
    some (v9_8 ++ [((1 : Int), (o2.2.2, (((0 : Int), (0 : Int)), ((r5.1.getD v9_0.toNat 0), (0 : Int)))))])) (cond (decide ((([a0.2.1, a0.2.2.1, a0.2.2.2.1, a0.2.2.2.2.1, a0.2.2.2.2.2.1, a0.2.2.2.2.2.2] : List Int).getD (IntKind.wrap .u8 ((r5.1.getD v9_0.toNat 0) - (1 : Int))).toNat 0) = o2.2.1)) (Option.bind (m_copast a2 (r5.1.getD v9_0.toNat 0) v9_8 o2.2.2) fun r12 =>
    some r12) (cond (decide ((([a0.2.1, a0.2.2.1, a0.2.2.2.1, a0.2.2.2.2.1, a0.2.2.2.2.2.1, a0.2.2.2.2.2.2] : List Int).getD (IntKind.wrap .u8 ((r5.1.getD v9_0.toNat 0) - (1 : Int))).toNat 0) = o2.1)) (some v9_8) (some v9_8)))) fun o10 =>
    Option.bind (m_cowork a2 (r5.1.getD v9_0.toNat 0) o10 a1 r1.2.1) fun r13 =>
    Option.bind (m_copast a2 (r5.1.getD v9_0.toNat 0) r13 a2) fun r14 =>
    gd ((inB (IntKind.wrap .u8 ((r5.1.getD v9_0.toNat 0) - (1 : Int))) 6)) <|
    gd ((inI64 (v9_0 + (1 : Int)))) <|
    m_course_L9 a0 a1 a2 r1 o2 r5 n (v9_0 + (1 : Int)) (cond (Nat.beq (IntKind.wrap .u8 ((r5.1.getD v9_0.toNat 0) - (1 : Int))).toNat 0) o2.2.1 v9_1) (cond (Nat.beq (IntKind.wrap .u8 ((r5.1.getD v9_0.toNat 0) - (1 : Int))).toNat 1) o2.2.1 v9_2) (cond (Nat.beq (IntKind.wrap .u8 ((r5.1.getD v9_0.toNat 0) - (1 : Int))).toNat 2) o2.2.1 v9_3) (cond (Nat.beq (IntKind.wrap .u8 ((r5.1.getD v9_0.toNat 0) - (1 : Int))).toNat 3) o2.2.1 v9_4) (cond (Nat.beq (IntKind.wrap .u8 ((r5.1.getD v9_0.toNat 0) - (1 : Int))).toNat 4) o2.2.1 v9_5) (cond (Nat.beq (IntKind.wrap .u8 ((r5.1.getD v9_0.toNat 0) - (1 : Int))).toNat 5) o2.2.1 v9_6) (r5.1.getD v9_0.toNat 0) r14) (some (v9_1, v9_2, v9_3, v9_4, v9_5, v9_6, v9_7, v9_8))
def m_course (a0 : ((List (Int × Int)) × (Int × (Int × (Int × (Int × (Int × Int))))))) (a1 : (List (Int × (Int × (Int × (Int × Bool)))))) (a2 : Int) : Option ((List OpT) × ((List (Int × Int)) × (Int × (Int × (Int × (Int × (Int × Int)))))) × Int) :=
    Option.bind (m_prepare a0 a1) fun r1 =>
    cond (!(decide (r1.2.2.2 = (0 : Int)))) (some (([] : List OpT), (([] : List (Int × Int)), ((0 : Int), ((0 : Int), ((0 : Int), ((0 : Int), ((0 : Int), (0 : Int))))))), r1.2.2.2)) (cond (cond (!(decide (a2 = (0 : Int)))) (!(decide (a2 = (1 : Int)))) false) (some (([] : List OpT), (([] : List (Int × Int)), ((0 : Int), ((0 : Int), ((0 : Int), ((0 : Int), ((0 : Int), (0 : Int))))))), (1 : Int))) (Option.bind (cond (decide (a2 = (0 : Int))) (some ((2 : Int), (1 : Int), (1 : Int))) (some ((1 : Int), (2 : Int), (0 : Int)))) fun o2 =>
    Option.bind (m_concat r1.2.1) fun r3 =>
    Option.bind (m_clipn r3) fun r4 =>
    Option.bind (m_chyarns [a1]) fun r5 =>
    Option.bind (m_course_L9 a0 a1 a2 r1 o2 r5 FUEL (0 : Int) a0.2.1 a0.2.2.1 a0.2.2.2.1 a0.2.2.2.2.1 a0.2.2.2.2.2.1 a0.2.2.2.2.2.2 (0 : Int) r1.1) fun o8 =>
    Option.bind (m_clip o8.2.2.2.2.2.2.2) fun r19 =>
    some (r19, (r4.1, (o8.1, (o8.2.1, (o8.2.2.1, (o8.2.2.2.1, (o8.2.2.2.2.1, o8.2.2.2.2.2.1)))))), (0 : Int))))
set_option maxRecDepth 20000 in
set_option maxHeartbeats 4000000 in
theorem w_course (a0 : ((List (Int × Int)) × (Int × (Int × (Int × (Int × (Int × Int))))))) (a1 : (List (Int × (Int × (Int × (Int × Bool)))))) (a2 : Int) (c0 c1 : Option Nat) (r : ((List OpT) × ((List (Int × Int)) × (Int × (Int × (Int × (Int × (Int × Int)))))) × Int)) (h : m_course a0 a1 a2 = some r) : AC cx 11 [.agg [.lst gNd a0.1 c0, .val (.int .u8 a0.2.1), .val (.int .u8 a0.2.2.1), .val (.int .u8 a0.2.2.2.1), .val (.int .u8 a0.2.2.2.2.1), .val (.int .u8 a0.2.2.2.2.2.1), .val (.int .u8 a0.2.2.2.2.2.2)], .c (.lst (.pair (.int .u8) (.pair (.int .u8) (.pair (.int .i64) (.pair (.int .i64) .bool)))) a1 c1), .c (.val (.int .u8 a2))] [] (fun sv h => sv = .tup [.c (.lst gOp r.1 (some r.1.length)), .agg [.lst gNd r.2.1.1 none, .val (.int .u8 r.2.1.2.1), .val (.int .u8 r.2.1.2.2.1), .val (.int .u8 r.2.1.2.2.2.1), .val (.int .u8 r.2.1.2.2.2.2.1), .val (.int .u8 r.2.1.2.2.2.2.2.1), .val (.int .u8 r.2.1.2.2.2.2.2.2)], .c (.val (.int .i64 r.2.2))] ∧ h = []) := by
  apply AC.forgetV
  unfold m_course at h
  refine ac_body tt_ok Tryd.func11 rfl Tryd.ntmps11 rfl rfl (res := [.tmp 6, .cell 7 34, .tmp 8]) rfl ?_
  refine ax_seq ?_
  refine ax_region ?_
  refine al_run tt_ok rfl rfl ?_
  refine ax_seq ?_
  obtain ⟨r1, hr1, h⟩ := bd h
  refine ax_region ?_
  refine al_upto tt_ok rfl rfl ?_
  refine al_callP (w_prepare _ _ c0 c1 r1 hr1) rfl ⟨rfl, rfl⟩ rfl Tryd.func17 rfl rfl rfl rfl rfl rfl ?_
  refine al_run tt_ok rfl rfl ?_
  refine ax_seq ?_
  refine ax_seq ?_
  refine ax_region ?_
  refine al_run tt_ok rfl rfl ?_
  refine ax_cond rfl rfl (fun hc => ?_) (fun hc => ?_)
  ·
   replace h := cond_t hc h
   refine ax_seq ?_
   refine ax_region ?_
   refine al_run tt_ok rfl rfl ?_
   refine ax_ret ?_
   obtain rfl := Option.some.inj h
   refine ⟨_, (Wk.trans (Wk.lst0 6 gOp rfl) (Wk.trans (Wk.dataB 7 (.pair (.sl gNd) (.pair (.int .u8) (.pair (.int .u8) (.pair (.int .u8) g3)))) rfl rfl rfl rfl) (Wk.pick [6, 7, 8] [7] rfl rfl))), _, _, rfl, rfl, ?_⟩
   exact rfl
  ·
   replace h := cond_f hc h
   refine ax_skip ?_
   refine ax_seq ?_
   refine ax_seq ?_
   refine ax_region ?_
   refine al_run tt_ok rfl (by generalize (decide (a2 = (0 : Int))) = b0; revert b0; decide) ?_
   refine ax_cond rfl rfl (fun hc => ?_) (fun hc => ?_)
   ·
    replace h := cond_t hc h
    refine ax_seq ?_
    refine ax_region ?_
    refine al_run tt_ok rfl rfl ?_
    refine ax_ret ?_
    obtain rfl := Option.some.inj h
    refine ⟨_, (Wk.trans (Wk.lst0 6 gOp rfl) (Wk.trans (Wk.dataB 7 (.pair (.sl gNd) (.pair (.int .u8) (.pair (.int .u8) (.pair (.int .u8) g3)))) rfl rfl rfl rfl) (Wk.pick [6, 7, 8] [7] rfl rfl))), _, _, rfl, rfl, ?_⟩
    exact rfl
   ·
    replace h := cond_f hc h
    refine ax_skip ?_
    refine ax_seq ?_
    refine ax_region ?_
    refine al_run tt_ok rfl rfl ?_
    refine ax_seq ?_
    refine ax_seq ?_
    refine ax_region ?_
    refine al_run tt_ok rfl rfl ?_
    obtain ⟨o2, ho2, hk2⟩ := bd h
    refine ax_cutS (fun o2 : Int × Int × Int => ⟨[(1, .a (.c (.lst (.pair (.int .u8) (.pair (.int .u8) (.pair (.int .i64) (.pair (.int .i64) .bool)))) a1 c1))), (2, .a (.c (.val (.int .u8 a2)))), (3, .a (.c (.ptr 3 0))), (7, .a (.c (.ptr 7 0))), (9, .a (.c (.lst gOp r1.1 (some r1.1.length)))), (10, .a (.c (.lst (.sl gNd) r1.2.1 (some r1.2.2.1)))), (12, .a (.c (.val (.int .u8 o2.1)))), (13, .a (.c (.val (.int .u8 o2.2.1)))), (14, .a (.c (.val (.int .u8 o2.2.2))))], [(3, .cells 34 [.lst gNd a0.1 c0, .val (.int .u8 a0.2.1), .val (.int .u8 a0.2.2.1), .val (.int .u8 a0.2.2.2.1), .val (.int .u8 a0.2.2.2.2.1), .val (.int .u8 a0.2.2.2.2.2.1), .val (.int .u8 a0.2.2.2.2.2.2)]), (7, .cells 34 [.val (.slice none 0 0), .val (.int .u8 (0 : Int)), .val (.int .u8 (0 : Int)), .val (.int .u8 (0 : Int)), .val (.int .u8 (0 : Int)), .val (.int .u8 (0 : Int)), .val (.int .u8 (0 : Int))])]⟩) (fun o' => o2 = o') ?_ ?_
    ·
     have h := ho2
     refine ax_cond rfl rfl (fun hc => ?_) (fun hc => ?_)
     ·
      replace h := cond_t hc h
      refine ax_region ?_
      refine al_run tt_ok rfl rfl ?_
      exact ⟨_, (Option.some.inj h).symm, (Wk.pick [1, 2, 3, 7, 9, 10, 12, 13, 14] [3, 7] rfl rfl)⟩
     ·
      replace h := cond_f hc h
      refine ax_skip ?_
      exact ⟨_, (Option.some.inj h).symm, (Wk.pick [1, 2, 3, 7, 9, 10, 12, 13, 14] [3, 7] rfl rfl)⟩
    ·
     rintro _ rfl
     have h := hk2
     refine ax_seq ?_
     obtain ⟨r3, hr3, h⟩ := bd h
     obtain ⟨r4, hr4, h⟩ := bd h
     apply ax_cut
     ·
       refine ax_draw [1, 2, 6] (by kernel_rfl) rfl (N := 8) ?_
       refine ad_run (fuel := 5) (ds' := ⟨#[true, false, false, true, true, false, false, false], true, true, true⟩) tt_ok [(0, 0), (3, 0), (4, 3)] (by kernel_rfl) rfl rfl ?_
       refine ad_ready (by kernel_rfl) (ads_cons (i := 1) ?_ (ads_cons (i := 6) ?_ ads_nil))
       ·
         refine ado_of rfl ?_
         refine adx_call (i := 1) (listed' := #[true, true, false, true, true, false, false, false]) (pre' := true) [] (w_concat _ (some r1.2.2.1) r3 hr3) rfl rfl rfl rfl ⟨rfl, rfl⟩ rfl Tryd.func38 rfl rfl rfl rfl rfl rfl PassH.nil ?_
         rintro _ _ ⟨rfl, rfl⟩
         refine ⟨_, _, rfl, rfl, ?_⟩
         refine ad_ready (by kernel_rfl) (ads_cons (i := 2) ?_ (ads_cons (i := 6) ?_ ads_nil))
         ·
           refine ado_of rfl ?_
           refine adx_call (i := 2) (listed' := #[true, true, true, true, true, false, false, false]) (pre' := true) [] (w_clipn _ none r4 hr4) rfl rfl rfl rfl ⟨rfl, rfl⟩ rfl Tryd.func37 rfl rfl rfl rfl rfl rfl PassH.nil ?_
           rintro _ _ ⟨rfl, rfl⟩
           refine ⟨_, _, rfl, rfl, ?_⟩
           refine ad_run (fuel := 0) (ds' := ⟨#[true, true, true, true, true, true, true, true], false, false, false⟩) tt_ok [(5, 0), (6, 4), (7, 2)] (by kernel_rfl) rfl rfl ?_
           refine ad_done (by kernel_rfl) ?_
           exact ⟨rfl, Wk.pick [1, 2, 3, 7, 9, 10, 12, 13, 14, 15] [3, 7, 15] rfl rfl⟩
         ·
           refine ado_keep tt_ok (i := 6) rfl rfl rfl rfl rfl ?_
           refine ad_ready (by kernel_rfl) (ads_cons (i := 2) ?_ ads_nil)
           refine ado_of rfl ?_
           refine adx_call (i := 2) (listed' := #[true, true, true, true, true, false, true, false]) (pre' := true) [] (w_clipn _ none r4 hr4) rfl rfl rfl rfl ⟨rfl, rfl⟩ rfl Tryd.func37 rfl rfl rfl rfl rfl rfl PassH.nil ?_
           rintro _ _ ⟨rfl, rfl⟩
           refine ⟨_, _, rfl, rfl, ?_⟩
           refine ad_run (fuel := 0) (ds' := ⟨#[true, true, true, true, true, true, true, true], false, false, false⟩) tt_ok [(5, 0), (7, 2)] (by kernel_rfl) rfl rfl ?_
           refine ad_done (by kernel_rfl) ?_
           exact ⟨rfl, Wk.pick [1, 2, 3, 7, 9, 10, 12, 13, 14, 15] [3, 7, 15] rfl rfl⟩
       ·
         refine ado_keep tt_ok (i := 6) rfl rfl rfl rfl rfl ?_
         refine ad_ready (by kernel_rfl) (ads_cons (i := 1) ?_ ads_nil)
         refine ado_of rfl ?_
         refine adx_call (i := 1) (listed' := #[true, true, false, true, true, false, true, false]) (pre' := true) [] (w_concat _ (some r1.2.2.1) r3 hr3) rfl rfl rfl rfl ⟨rfl, rfl⟩ rfl Tryd.func38 rfl rfl rfl rfl rfl rfl PassH.nil ?_
         rintro _ _ ⟨rfl, rfl⟩
         refine ⟨_, _, rfl, rfl, ?_⟩
         refine ad_ready (by kernel_rfl) (ads_cons (i := 2) ?_ ads_nil)
         refine ado_of rfl ?_
         refine adx_call (i := 2) (listed' := #[true, true, true, true, true, false, true, false]) (pre' := true) [] (w_clipn _ none r4 hr4) rfl rfl rfl rfl ⟨rfl, rfl⟩ rfl Tryd.func37 rfl rfl rfl rfl rfl rfl PassH.nil ?_
         rintro _ _ ⟨rfl, rfl⟩
         refine ⟨_, _, rfl, rfl, ?_⟩
         refine ad_run (fuel := 0) (ds' := ⟨#[true, true, true, true, true, true, true, true], false, false, false⟩) tt_ok [(5, 0), (7, 2)] (by kernel_rfl) rfl rfl ?_
         refine ad_done (by kernel_rfl) ?_
         exact ⟨rfl, Wk.pick [1, 2, 3, 7, 9, 10, 12, 13, 14, 15] [3, 7, 15] rfl rfl⟩
     refine ax_seq ?_
     refine ax_region ?_
     refine al_run tt_ok rfl rfl ?_
     refine ax_seq ?_
     refine ax_seq ?_
     obtain ⟨r5, hr5, h⟩ := bd h
     refine ax_region ?_
     refine al_upto tt_ok rfl rfl ?_
     refine al_weak (Wk.frz (id := 49) rfl) ?_
     refine al_callP (w_chyarns _ (some 1) r5 hr5) rfl ⟨rfl, rfl⟩ rfl Tryd.func39 rfl rfl rfl rfl rfl rfl ?_
     refine al_run tt_ok rfl rfl ?_
     refine ax_weak (Wk.lfullC 16 0 29 45 rfl rfl rfl rfl rfl) ?_
     obtain ⟨o8, ho8, hk8⟩ := bd h
     refine ax_cutS (fun o8 : Int × Int × Int × Int × Int × Int × Int × (List OpT) => ⟨[(7, .a (.c (.ptr 7 0))), (15, .a (.c (.ptr 15 0))), (16, .a (.c (.ptr 16 0)))], [(7, .cells 34 [.val (.slice none 0 0), .val (.int .u8 (0 : Int)), .val (.int .u8 (0 : Int)), .val (.int .u8 (0 : Int)), .val (.int .u8 (0 : Int)), .val (.int .u8 (0 : Int)), .val (.int .u8 (0 : Int))]), (15, .cells 34 [.lst gNd r4.1 (some r4.2), .val (.int .u8 o8.1), .val (.int .u8 o8.2.1), .val (.int .u8 o8.2.2.1), .val (.int .u8 o8.2.2.2.1), .val (.int .u8 o8.2.2.2.2.1), .val (.int .u8 o8.2.2.2.2.2.1)]), (16, .cells 96 [.sl 29, .val (.int .u8 a2), .val (.int .u8 o8.2.2.2.2.2.2.1)]), (29, .lrow 45 gOp o8.2.2.2.2.2.2.2)]⟩) (fun o' => o8 = o') ?_ ?_
     ·
      have h := ho8
      refine ax_block ?_
      refine ax_weak (Wk.pick [53, 1, 2, 3, 7, 10, 12, 13, 14, 15, 16, 51, 52] [15, 16, 29, 3, 7] rfl rfl) ?_
      refine ax_loopL (fun y : Nat × Int × Int × Int × Int × Int × Int × Int × Int × (List OpT) => [(53, .a (.c (.val (.int .i64 y.2.1))))]) (fun y : Nat × Int × Int × Int × Int × Int × Int × Int × Int × (List OpT) => [(15, .cells 34 [.lst gNd r4.1 (some r4.2), .val (.int .u8 y.2.2.1), .val (.int .u8 y.2.2.2.1), .val (.int .u8 y.2.2.2.2.1), .val (.int .u8 y.2.2.2.2.2.1), .val (.int .u8 y.2.2.2.2.2.2.1), .val (.int .u8 y.2.2.2.2.2.2.2.1)]), (16, .cells 96 [.sl 29, .val (.int .u8 a2), .val (.int .u8 y.2.2.2.2.2.2.2.2.1)]), (29, .lrow 45 gOp y.2.2.2.2.2.2.2.2.2)]) (fun y : Nat × Int × Int × Int × Int × Int × Int × Int × Int × (List OpT) => m_course_L9 a0 a1 a2 r1 o2 r5 y.1 y.2.1 y.2.2.1 y.2.2.2.1 y.2.2.2.2.1 y.2.2.2.2.2.1 y.2.2.2.2.2.2.1 y.2.2.2.2.2.2.2.1 y.2.2.2.2.2.2.2.2.1 y.2.2.2.2.2.2.2.2.2 = some o8) (fun y : Nat × Int × Int × Int × Int × Int × Int × Int × Int × (List OpT) => y.1) (FUEL, (0 : Int), a0.2.1, a0.2.2.1, a0.2.2.2.1, a0.2.2.2.2.1, a0.2.2.2.2.2.1, a0.2.2.2.2.2.2, (0 : Int), r1.1) h ?_
      rintro ⟨n, v9_0, v9_1, v9_2, v9_3, v9_4, v9_5, v9_6, v9_7, v9_8⟩ h
      replace h : m_course_L9 a0 a1 a2 r1 o2 r5 n v9_0 v9_1 v9_2 v9_3 v9_4 v9_5 v9_6 v9_7 v9_8 = some o8 := h
      rcases n with _ | n
      · cases (show (none : Option _) = some _ from h)
      rw [m_course_L9] at h
      try dsimp only
      refine ax_seq ?_
      refine ax_region ?_
      refine al_run tt_ok rfl rfl ?_
      refine ax_seq ?_
      refine ax_cond rfl rfl (fun hc => ?_) (fun hc => ?_)
      ·
       replace h := cond_t hc h
       refine ax_skip ?_
       refine ax_seq ?_
       refine ax_block ?_
       refine ax_seq ?_
       obtain ⟨hG18, h⟩ := gd_some h
       refine ax_region ?_
       refine al_run tt_ok rfl (by simp only [hG18, ob, decide_true, cond_true, cond_false]) ?_
       refine ax_seq ?_
       refine ax_region ?_
       refine al_run tt_ok rfl rfl ?_
       refine ax_seq ?_
       refine ax_seq ?_
       obtain ⟨hG17, h⟩ := gd_some h
       refine ax_region ?_
       refine al_upN 4 tt_ok rfl (by simp only [hG17, ob, decide_true, cond_true, cond_false]) ?_
       refine al_loadX (.int .u8) 1 6 (IntKind.wrap .u8 ((r5.1.getD v9_0.toNat 0) - (1 : Int))) tt_ok rfl ⟨rfl, rfl⟩ rfl rfl rfl rfl rfl rfl (by simp only [hG17, ob, decide_true, cond_true, cond_false]) rfl rfl (by simp only [hG17, ob, decide_true, cond_true, cond_false]) (by simp only [hG17, ob, decide_true, cond_true, cond_false]) rfl ?_
       refine al_run tt_ok rfl (by simp only [hG17, ob, decide_true, cond_true, cond_false]) ?_
       refine ax_weak (Wk.pick [1, 2, 3, 7, 10, 12, 13, 14, 15, 16, 18, 51, 52, 53, 63] [3, 7, 15, 16, 29] rfl rfl) ?_
       refine ax_block ?_
       refine ax_seq ?_
       refine ax_region ?_
       refine al_run tt_ok rfl rfl ?_
       obtain ⟨o10, ho10, hk10⟩ := bd h
       refine ax_cutS (fun o10 : (List OpT) => ⟨[(1, .a (.c (.lst (.pair (.int .u8) (.pair (.int .u8) (.pair (.int .i64) (.pair (.int .i64) .bool)))) a1 c1))), (2, .a (.c (.val (.int .u8 a2)))), (3, .a (.c (.ptr 3 0))), (7, .a (.c (.ptr 7 0))), (10, .a (.c (.lst (.sl gNd) r1.2.1 (some r1.2.2.1)))), (12, .a (.c (.val (.int .u8 o2.1)))), (13, .a (.c (.val (.int .u8 o2.2.1)))), (14, .a (.c (.val (.int .u8 o2.2.2)))), (15, .a (.c (.ptr 15 0))), (16, .a (.c (.ptr 16 0))), (18, .a (.c (.val (.int .u8 (r5.1.getD v9_0.toNat 0))))), (51, .a (.c (.lst (.int .u8) r5.1 r5.2))), (52, .a (.c (.val (.int .i64 (r5.1.length : Int))))), (53, .a (.c (.val (.int .i64 v9_0))))], [(3, .cells 34 [.lst gNd a0.1 c0, .val (.int .u8 a0.2.1), .val (.int .u8 a0.2.2.1), .val (.int .u8 a0.2.2.2.1), .val (.int .u8 a0.2.2.2.2.1), .val (.int .u8 a0.2.2.2.2.2.1), .val (.int .u8 a0.2.2.2.2.2.2)]), (7, .cells 34 [.val (.slice none 0 0), .val (.int .u8 (0 : Int)), .val (.int .u8 (0 : Int)), .val (.int .u8 (0 : Int)), .val (.int .u8 (0 : Int)), .val (.int .u8 (0 : Int)), .val (.int .u8 (0 : Int))]), (15, .cells 34 [.lst gNd r4.1 (some r4.2), .val (.int .u8 v9_1), .val (.int .u8 v9_2), .val (.int .u8 v9_3), .val (.int .u8 v9_4), .val (.int .u8 v9_5), .val (.int .u8 v9_6)]), (16, .cells 96 [.sl 29, .val (.int .u8 a2), .val (.int .u8 (r5.1.getD v9_0.toNat 0))]), (29, .lrow 45 gOp o10)]⟩) (fun o' => o10 = o') ?_ ?_
       ·
        have h := ho10
        refine ax_cond rfl rfl (fun hc => ?_) (fun hc => ?_)
        ·
         replace h := cond_t hc h
         obtain ⟨hG11, h⟩ := gd_some h
         refine ax_region ?_
         refine al_upN 6 tt_ok rfl (by simp only [hG11, ob, decide_true, cond_true, cond_false]) ?_
         refine al_appendR tt_ok rfl ⟨rfl, rfl⟩ rfl rfl rfl rfl rfl (by simp only [hG11, ob, decide_true, cond_true, cond_false]) rfl (by simp only [hG11, ob, decide_true, cond_true, cond_false]) rfl rfl rfl (by simp only [hG11, ob, decide_true, cond_true, cond_false]) ?_
         refine al_run tt_ok rfl (by simp only [hG11, ob, decide_true, cond_true, cond_false]) ?_
         exact ⟨_, (Option.some.inj h).symm, (Wk.pick [1, 2, 3, 7, 10, 12, 13, 14, 15, 16, 18, 51, 52, 53] [3, 7, 15, 16, 29] rfl rfl)⟩
        ·
         replace h := cond_f hc h
         refine ax_seq ?_
         refine ax_region ?_
         refine al_run tt_ok rfl rfl ?_
         refine ax_cond rfl rfl (fun hc => ?_) (fun hc => ?_)
         ·
          replace h := cond_t hc h
          obtain ⟨r12, hr12, h⟩ := bd h
          refine ax_region ?_
          refine al_upto tt_ok rfl rfl ?_
          refine al_call [(1000000, 16), (1000001, 29)] (w_copast _ _ _ _  r12 hr12) rfl ⟨rfl, rfl⟩ rfl Tryd.func40 rfl rfl rfl rfl rfl rfl (PassH.cons rfl rfl rfl (PassH.cons rfl rfl rfl PassH.nil)) ?_
          rintro _ _ ⟨rfl, rfl⟩
          refine ⟨_, _, rfl, rfl, ?_⟩
          refine al_run tt_ok rfl rfl ?_
          exact ⟨_, (Option.some.inj h).symm, (Wk.pick [1, 2, 3, 7, 10, 12, 13, 14, 15, 16, 18, 51, 52, 53] [3, 7, 15, 16, 29] rfl rfl)⟩
         ·
          replace h := cond_f hc h
          refine ax_seq ?_
          refine ax_region ?_
          refine al_run tt_ok rfl rfl ?_
          refine ax_cond rfl rfl (fun hc => ?_) (fun hc => ?_)
          ·
           replace h := cond_t hc h
           refine ax_skip ?_
           exact ⟨_, (Option.some.inj h).symm, (Wk.pick [1, 2, 3, 7, 10, 12, 13, 14, 15, 16, 18, 51, 52, 53] [3, 7, 15, 16, 29] rfl rfl)⟩
          ·
           replace h := cond_f hc h
           refine ax_skip ?_
           exact ⟨_, (Option.some.inj h).symm, (Wk.pick [1, 2, 3, 7, 10, 12, 13, 14, 15, 16, 18, 51, 52, 53] [3, 7, 15, 16, 29] rfl rfl)⟩
       ·
        rintro _ rfl
        have h := hk10
        refine ax_seq ?_
        obtain ⟨r13, hr13, h⟩ := bd h
        refine ax_region ?_
        refine al_upto tt_ok rfl rfl ?_
        refine al_call [(1000000, 16), (1000001, 29)] (w_cowork _ _ _ _ _ c1 (some r1.2.2.1) r13 hr13) rfl ⟨rfl, rfl⟩ rfl Tryd.func41 rfl rfl rfl rfl rfl rfl (PassH.cons rfl rfl rfl (PassH.cons rfl rfl rfl PassH.nil)) ?_
        rintro _ _ ⟨rfl, rfl⟩
        refine ⟨_, _, rfl, rfl, ?_⟩
        refine al_run tt_ok rfl rfl ?_
        refine ax_weak (Wk.pick [1, 2, 3, 7, 10, 12, 13, 14, 15, 16, 18, 51, 52, 53] [3, 7, 15, 16, 29] rfl rfl) ?_
        refine ax_seq ?_
        obtain ⟨r14, hr14, h⟩ := bd h
        refine ax_region ?_
        refine al_upto tt_ok rfl rfl ?_
        refine al_call [(1000000, 16), (1000001, 29)] (w_copast _ _ _ _  r14 hr14) rfl ⟨rfl, rfl⟩ rfl Tryd.func40 rfl rfl rfl rfl rfl rfl (PassH.cons rfl rfl rfl (PassH.cons rfl rfl rfl PassH.nil)) ?_
        rintro _ _ ⟨rfl, rfl⟩
        refine ⟨_, _, rfl, rfl, ?_⟩
        refine al_run tt_ok rfl rfl ?_
        refine ax_weak (Wk.pick [1, 2, 3, 7, 10, 12, 13, 14, 15, 16, 18, 51, 52, 53] [3, 7, 15, 16, 29] rfl rfl) ?_
        obtain ⟨hG16, h⟩ := gd_some h
        refine ax_region ?_
        refine al_upN 5 tt_ok rfl (by simp only [hG16, ob, decide_true, cond_true, cond_false]) ?_
        refine al_storeX (.int .u8) 1 6 (IntKind.wrap .u8 ((r5.1.getD v9_0.toNat 0) - (1 : Int))) rfl tt_ok rfl ⟨rfl, rfl⟩ rfl rfl rfl (by simp only [hG16, ob, decide_true, cond_true, cond_false]) rfl (by simp only [hG16, ob, decide_true, cond_true, cond_false]) rfl rfl (by simp only [hG16, ob, decide_true, cond_true, cond_false]) (by simp only [hG16, ob, decide_true, cond_true, cond_false]) rfl (by simp only [hG16, ob, decide_true, cond_true, cond_false]) rfl rfl rfl ?_
        refine al_run tt_ok rfl (by simp only [hG16, ob, decide_true, cond_true, cond_false]) ?_
        refine ax_weak (Wk.pick [1, 2, 3, 7, 10, 12, 13, 14, 15, 16, 51, 52, 53] [3, 7, 15, 16, 29] rfl rfl) ?_
        obtain ⟨hG15, h⟩ := gd_some h
        refine ax_region ?_
        refine al_run tt_ok rfl (by simp only [hG15, ob, decide_true, cond_true, cond_false]) ?_
        refine ⟨(n, _, _, _, _, _, _, _, _, _), h, Nat.lt_succ_self _, (Wk.pick [53, 1, 2, 3, 7, 10, 12, 13, 14, 15, 16, 51, 52] [15, 16, 29, 3, 7] rfl rfl)⟩
      ·
       replace h := cond_f hc h
       refine ax_exit ?_
       exact ⟨_, (Option.some.inj h).symm, (Wk.pick [7, 15, 16] [7, 15, 16, 29] rfl rfl)⟩
     ·
      rintro _ rfl
      have h := hk8
      refine ax_seq ?_
      refine ax_weak (Wk.frzL (id := 29) rfl) ?_
      obtain ⟨r19, hr19, h⟩ := bd h
      refine ax_draw [2, 3, 4] (by kernel_rfl) rfl (N := 7) ?_
      refine ad_run (fuel := 4) (ds' := ⟨#[true, true, false, true, false, false, false], true, true, true⟩) tt_ok [(0, 0), (1, 3), (3, 3)] (by kernel_rfl) rfl rfl ?_
      refine ad_ready (by kernel_rfl) (ads_cons (i := 2) ?_ ads_nil)
      refine ado_of rfl ?_
      refine adx_call (i := 2) (listed' := #[true, true, true, true, false, false, false]) (pre' := true) [] (w_clip _ none r19 hr19) rfl rfl rfl rfl ⟨rfl, rfl⟩ rfl Tryd.func31 rfl rfl rfl rfl rfl rfl PassH.nil ?_
      rintro _ _ ⟨rfl, rfl⟩
      refine ⟨_, _, rfl, rfl, ?_⟩
      refine ad_run (fuel := 0) (ds' := ⟨#[true, true, true, true, true, true, true], false, false, false⟩) tt_ok [(4, 0), (5, 2), (6, 0)] (by kernel_rfl) rfl rfl ?_
      refine ad_done (by kernel_rfl) ?_
      refine ax_ret ?_
      obtain rfl := Option.some.inj h
      refine ⟨_, (Wk.trans (Wk.dataB 7 (.pair (.sl gNd) (.pair (.int .u8) (.pair (.int .u8) (.pair (.int .u8) g3)))) rfl rfl rfl rfl) (Wk.pick [6, 7, 8] [7] rfl rfl)), _, _, rfl, rfl, ?_⟩
      exact rfl
end Go.Proofs.YtihcolehefloeaaDoor

/- Plain facts about the models of edges. -/
namespace Go.Proofs.YtihcolehefloeaaDoor
open Go.RowKit
theorem check_eq (l : List Int) (hl : l.length ≤ 1000000) : m_check l = some (if chkAll l then 0 else 1) := by
  have hF : l.length < FUEL := fuel_of (by omega)
  unfold m_check
  have step : ∀ n k, k < l.length → okAt l k = true → m_check_L2 l (n + 1) k = m_check_L2 l n (k + 1) := fun n k hk h => by
    simp [okAt, -List.getD_eq_getElem?_getD] at h
    rw [m_check_L2]
    simp (disch := ((try simp [inB, inI64, fitB, -List.getD_eq_getElem?_getD]); try omega; done)) only [gdt, cdt, cdf, Option.bind_some]
  by_cases h : ∀ k, k < l.length → okAt l k = true
  · have e : chkAll l = true := by rw [chkAll, List.all_eq_true]; intro i hi; exact h i (by simpa using hi)
    have := loop0 (fun n i (s : Unit) => m_check_L2 l n i) l.length (fun _ => ()) (.inl ()) hF (fun n k hk => step n k hk (h k hk)) (fun n => by
      show m_check_L2 l (n + 1) l.length = some (.inl ())
      rw [m_check_L2]
      simp)
    rw [this, e]; rfl
  · obtain ⟨j, hj, hb, hg⟩ := first_bad (fun k => okAt l k) _ h
    have e : chkAll l = false := by
      rw [chkAll, List.all_eq_false]
      exact ⟨j, by simpa using hj, by simpa using hb⟩
    have := loop0 (fun n i (s : Unit) => m_check_L2 l n i) j (fun _ => ()) (.inr 1) (by omega) (fun n k hk => step n k (by omega) (hg k hk)) (fun n => by
      show m_check_L2 l (n + 1) j = some (.inr 1)
      simp [okAt, -List.getD_eq_getElem?_getD] at hb
      rw [m_check_L2]
      simp (disch := ((try simp [inB, inI64, fitB, -List.getD_eq_getElem?_getD]); try omega; done)) only [gdt, cdt, cdf, Option.bind_some])
    rw [this, e]; rfl
end Go.Proofs.YtihcolehefloeaaDoor

/- Plain facts about the models of edges: BindOff, Leave, EdgesErrors. -/
namespace Go.Proofs.YtihcolehefloeaaDoor
open Go.RowKit
theorem chk_at {l : List Int} (h : chkAll l = true) (k : Nat) (hk : k < l.length) : 1 ≤ l.getD k 0 ∧ l.getD k 0 ≤ 40 := by
  have := chk_mem l h k (by omega) (by omega)
  simpa only [Int.toNat_natCast] using this
end Go.Proofs.YtihcolehefloeaaDoor

/- The texts of programs. -/
namespace Go.Proofs.YtihcolehefloeaaDoor
open Go.RowKit
end Go.Proofs.YtihcolehefloeaaDoor

/- Plain facts: operations that have texts. -/
namespace Go.Proofs.YtihcolehefloeaaDoor
open Go.RowKit
def AllN (o : List OpT) : Prop := ∀ z ∈ o, OpN z
theorem AllN.append {a b : List OpT} (h : AllN a) (k : AllN b) : AllN (a ++ b) := fun z hz => (List.mem_append.1 hz).elim (h z) (k z)
theorem turn_N {o : List OpT} (h : AllN o) (a b : Int) : AllN (turnOps o a b) := by
  unfold turnOps
  split
  · exact h
  · exact h.append fun z hz => by
      simp only [List.mem_singleton] at hz
      subst hz
      exact ⟨by show (0 : Int) ≤ 3; omega, Int.le_refl 0, Int.le_refl 0, Int.le_refl 0⟩
theorem xfers_N (b r : Int) (hb : 0 ≤ b) (l : List Int) : AllN (xfers b r l) := fun z hz => by
  obtain ⟨k, _, rfl⟩ := List.mem_map.1 hz
  exact ⟨by show (0 : Int) ≤ 7; omega, Int.le_refl 0, hb, Int.le_refl 0⟩
theorem moveF_N : ∀ (f : Nat) (o : List OpT) (rk : Int) (l : List Int) (d : Int), AllN o → AllN (moveF f o rk l d).1
  | 0, _, _, _, _, h => h
  | f + 1, o, rk, l, d, h => by
    unfold moveF
    split
    · exact h
    · exact moveF_N f _ _ _ _ ((turn_N ((turn_N h _ _).append (xfers_N 0 0 (by omega) l)) _ _).append (xfers_N 1 _ (by omega) l))
theorem moveAll_N (o : List OpT) (rk : Int) (l : List Int) (d : Int) (h : AllN o) : AllN (moveAll o rk l d).1 := moveF_N _ o rk l d h
theorem st1_N (fr to : List Int) : ∀ i, AllN (st1 fr to i).1.1
  | 0 => fun z hz => by simp [st1] at hz
  | i + 1 => by
    unfold st1
    split
    · exact moveAll_N _ _ _ _ (st1_N fr to i)
    · exact st1_N fr to i
theorem fold_N (st : List OpT × Int → Int → List OpT × Int) (hst : ∀ p i, AllN p.1 → AllN (st p i).1) : ∀ (L : List Int) (p : List OpT × Int), AllN p.1 → AllN (L.foldl st p).1
  | [], _, h => h
  | x :: L, p, h => fold_N st hst L _ (hst p x h)
theorem plan_N (fr to : List Int) : AllN (planOf fr to) := by
  unfold planOf planAB
  refine turn_N (fold_N _ (fun p i h => ?_) _ _ (fold_N _ (fun p i h => ?_) _ _ (st1_N fr to _))) _ _
  · unfold stepDn; split
    · exact moveAll_N _ _ _ _ h
    · exact h
  · unfold stepUp; split
    · exact moveAll_N _ _ _ _ h
    · exact h
end Go.Proofs.YtihcolehefloeaaDoor

/- Courses, plain: plans are short; stitches and rows. -/
namespace Go.Proofs.YtihcolehefloeaaDoor
open Go.RowKit
theorem st1_PB (fr to : List Int) (hf : chkAll fr = true) : ∀ i : Nat, i ≤ fr.length → PB i (st1 fr to i).1
  | 0, _ => ⟨by simp [st1], by simp [st1], by simp [st1]⟩
  | i + 1, hi => by
    have ih := st1_PB fr to hf i (by omega)
    unfold st1
    split
    · rename_i h
      have a1 := chk_at hf i (by omega)
      have a2 := chk_at hf (i + 1) (by omega)
      have := moveAll_bounds (st1 fr to i).1.1 (st1 fr to i).1.2 [fr.getD i 0] (fr.getD (i + 1) 0 - fr.getD i 0) (fun k hk => by simp only [List.mem_singleton] at hk; omega) (by omega) (by simp) ih.2
      have h2 := ih.1
      exact ⟨by show (moveAll _ _ _ _).1.length ≤ _; omega, this.2⟩
    · exact ih.mono (by omega)
theorem stF_mem (at_ by_ : List Int) : ∀ (f : Nat) (i : Int), 0 ≤ i → (∀ k ∈ stF at_ by_ f i, 0 ≤ k ∧ k < at_.length) ∧ (stF at_ by_ f i).length ≤ f
  | 0, i, _ => by simp [stF]
  | f + 1, i, h0 => by
    unfold stF
    split
    · rename_i h
      have ht := tog_bounds at_ by_ i h
      obtain ⟨g1, g2⟩ := stF_mem at_ by_ f (tog at_ by_ i) (by omega)
      refine ⟨fun k hk => ?_, by simp; omega⟩
      rcases List.mem_cons.1 hk with rfl | hk
      · exact ⟨h0, h⟩
      · exact g1 k hk
    · simp
theorem fold_PB {at_ by_ : List Int} (st : List OpT × Int → Int → List OpT × Int) (hst : ∀ (i : Int), 0 ≤ i → i < at_.length → ∀ k p, PB k p → PB (k + 1) (st p i)) : ∀ (L : List Int) (k : Nat) (p : List OpT × Int), (∀ i ∈ L, 0 ≤ i ∧ i < at_.length) → PB k p → PB (k + L.length) (L.foldl st p)
  | [], k, p, _, h => h
  | x :: L, k, p, hL, h => by
    have hx := hL x List.mem_cons_self
    have := fold_PB (by_ := by_) st hst L (k + 1) (st p x) (fun i hi => hL i (List.mem_cons_of_mem _ hi)) (hst x hx.1 hx.2 k p h)
    rw [List.length_cons, show k + (L.length + 1) = k + 1 + L.length by omega]
    exact this
/-- Plans are short. -/
theorem plan_len (fr to : List Int) (hf : chkAll fr = true) (ht : chkTo to = true) (hl : to.length = fr.length) : (planOf fr to).length ≤ 400000 := by
  have h40 := chk_len fr hf
  obtain ⟨h1, h2, h3, h4⟩ := st1_small fr to hf ht hl fr.length (Nat.le_refl _)
  have hs : Small (st1 fr to fr.length).2.1 (st1 fr to fr.length).2.2 := ⟨h1, h2, h3, by omega⟩
  have hp := st1_PB fr to hf fr.length (Nat.le_refl _)
  obtain ⟨m1, m2⟩ := stF_mem (st1 fr to fr.length).2.1 (st1 fr to fr.length).2.2 (st1 fr to fr.length).2.1.length 0 (by omega)
  have p2 := fold_PB (by_ := (st1 fr to fr.length).2.2) (stepUp _ _) (fun i a b k p h => stepUp_PB _ _ hs i a b h) (startsOf (st1 fr to fr.length).2.1 (st1 fr to fr.length).2.2).reverse fr.length _ (fun i hi => m1 i (List.mem_reverse.1 hi)) hp
  have p3 := fold_PB (by_ := (st1 fr to fr.length).2.2) (stepDn _ _) (fun i a b k p h => stepDn_PB _ _ hs i a b h) (startsOf (st1 fr to fr.length).2.1 (st1 fr to fr.length).2.2) _ _ (fun i hi => m1 i hi) p2
  have h5 := p3.1
  rw [List.length_reverse] at h5
  have h6 : (startsOf (st1 fr to fr.length).2.1 (st1 fr to fr.length).2.2).length ≤ 40 := by
    have h7 : (startsOf (st1 fr to fr.length).2.1 (st1 fr to fr.length).2.2).length ≤ (st1 fr to fr.length).2.1.length := m2
    omega
  unfold planOf planAB
  exact Nat.le_trans (turnOps_le _ _ _) (by omega)
theorem shift_eq (fr to : List Int) (hf : chkAll fr = true) (ht : chkTo to = true) (hl : to.length = fr.length) : m_shift fr to = some (planOf fr to, 0) := by
  have h40 := chk_len fr hf
  have e : shErr fr to = 0 := by
    rw [shErr, if_neg (by rw [hf]; simp), if_neg (by omega), if_neg (by rw [ht]; simp)]
  unfold m_shift
  rw [planR, e, if_pos rfl, gdt (by simp; omega)]
abbrev StT := Int × Int × Int × Int × Bool
abbrev zS : StT := (0, 0, 0, 0, false)
def stOk (s : StT) : Bool := decide (1 ≤ s.1) && (decide (s.1 ≤ 8) && (decide (1 ≤ s.2.1) && (decide (s.2.1 ≤ 6) && (if s.1 = 8 then decide (1 ≤ s.2.2.1) && (decide (s.2.2.1 ≤ 4) && (decide (1 ≤ s.2.2.2.1) && decide (s.2.2.2.1 ≤ 4 - s.2.2.1))) else decide (s.2.2.1 = 0) && (decide (s.2.2.2.1 = 0) && !s.2.2.2.2)))))
theorem stcheck_eq (s : StT) : m_stcheck s = some (if stOk s then 0 else 1) := by
  obtain ⟨k, y, a, b, f⟩ := s
  unfold m_stcheck stOk
  dsimp only
  by_cases h1 : 1 ≤ k ∧ k ≤ 8 ∧ 1 ≤ y ∧ y ≤ 6
  · obtain ⟨h1, h2, h3, h4⟩ := h1
    rw [cdf (by simp; omega)]
    by_cases h8 : k = 8
    · subst h8
      rw [cdf (by simp)]
      by_cases ha : 1 ≤ a ∧ a ≤ 4 ∧ 1 ≤ b
      · obtain ⟨ha1, ha2, ha3⟩ := ha
        have e : inI64 (4 - a) = true := by simp [inI64]; omega
        rw [gdt (by simp [e])]
        by_cases hb : b ≤ 4 - a
        · rw [cdf (by simp; omega)]; simp [h3, h4, ha1, ha2, ha3, hb]
        · rw [cdt (by simp; omega)]; simp [hb]
      · rw [gdt (by simp; omega), cdt (by simp; omega)]
        simp only [not_and] at ha
        rw [if_neg (by simp; omega)]
    · rw [cdt (by simp [h8]), if_neg h8]
      by_cases hc : a = 0 ∧ b = 0 ∧ f = false
      · obtain ⟨rfl, rfl, rfl⟩ := hc
        rw [cdf (by simp)]; simp [h1, h2, h3, h4]
      · rw [cdt (by cases f <;> simp <;> simp at hc <;> omega), if_neg (by cases f <;> simp <;> simp at hc <;> omega)]
  · rw [cdt (by simp; omega), if_neg (by simp; omega)]
end Go.Proofs.YtihcolehefloeaaDoor

/- Courses, plain: what stitches need and make; the goals of a row. -/
namespace Go.Proofs.YtihcolehefloeaaDoor
open Go.RowKit
/-- A loop whose state is known at every round; the state is any tuple. -/
theorem loopG {σ O : Type} (L : Nat → σ → Option O) (N : Nat) (sp : Nat → σ) (r : O)
    (hs : ∀ n k, k < N → L (n + 1) (sp k) = L n (sp (k + 1))) (he : ∀ n, L (n + 1) (sp N) = some r) : ∀ n k, k ≤ N → N - k < n → L n (sp k) = some r := by
  intro n
  induction n with
  | zero => intro k _ h; omega
  | succ n ih =>
    intro k hk hn
    by_cases e : k = N
    · subst e; exact he n
    · rw [hs n k (by omega)]
      exact ih (k + 1) (by omega) (by omega)
theorem loopT {σ O : Type} (L : Nat → σ → Option O) (N : Nat) (sp : Nat → σ) (s0 : σ) (r : O) (h0 : sp 0 = s0) (hN : N < FUEL)
    (hs : ∀ n k, k < N → L (n + 1) (sp k) = L n (sp (k + 1))) (he : ∀ n, L (n + 1) (sp N) = some r) : L FUEL s0 = some r := by
  rw [← h0]
  exact loopG L N sp r hs he FUEL 0 (Nat.zero_le _) (by omega)
def need (s : StT) : Int := if stOk s then (if s.1 = 3 then 0 else if s.1 = 4 ∨ s.1 = 5 then 2 else if s.1 = 8 then s.2.2.1 + s.2.2.2.1 else 1) else 0
def make (s : StT) : Int := if stOk s then (if s.1 = 8 then s.2.2.1 + s.2.2.2.1 else 1) else 0
def bedOf (s : StT) : Int := if stOk s && (decide (s.1 = 2) || decide (s.1 = 5)) then 1 else 0
theorem stOk_facts {s : StT} (h : stOk s = true) : 1 ≤ s.1 ∧ s.1 ≤ 8 ∧ 1 ≤ s.2.1 ∧ s.2.1 ≤ 6 ∧ (s.1 = 8 → 1 ≤ s.2.2.1 ∧ 1 ≤ s.2.2.2.1 ∧ s.2.2.1 + s.2.2.2.1 ≤ 4) := by
  simp only [stOk, Bool.and_eq_true, decide_eq_true_eq] at h
  obtain ⟨h1, h2, h3, h4, h5⟩ := h
  refine ⟨h1, h2, h3, h4, fun h8 => ?_⟩
  rw [if_pos h8] at h5
  simp only [Bool.and_eq_true, decide_eq_true_eq] at h5
  omega
theorem need_le (s : StT) : 0 ≤ need s ∧ need s ≤ 4 := by
  unfold need
  split
  · rename_i h
    have := (stOk_facts h).2.2.2.2
    split
    · omega
    · split
      · omega
      · split
        · rename_i h8; have := this h8; omega
        · omega
  · omega
theorem make_le (s : StT) : 0 ≤ make s ∧ make s ≤ 4 := by
  unfold make
  split
  · rename_i h
    have := (stOk_facts h).2.2.2.2
    split
    · rename_i h8; have := this h8; omega
    · omega
  · omega
theorem make_pos {s : StT} (h : stOk s = true) : 1 ≤ make s := by
  have := (stOk_facts h).2.2.2.2
  unfold make
  rw [if_pos h]
  split
  · rename_i h8; have := this h8; omega
  · omega
/-- Either nothing is needed, or one joins two, or as many as are made. -/
theorem need_make {s : StT} (h : stOk s = true) : need s = 0 ∨ (need s = 2 ∧ make s = 1) ∨ need s = make s := by
  unfold need make
  rw [if_pos h, if_pos h]
  split
  · exact .inl rfl
  · split
    · rename_i h1 h2
      exact .inr (.inl ⟨rfl, by rw [if_neg (by omega)]⟩)
    · exact .inr (.inr rfl)
theorem stneeds_eq (s : StT) : m_stneeds s = some (need s) := by
  unfold m_stneeds need
  rw [stcheck_eq, Option.bind_some]
  cases h : stOk s with
  | false => rfl
  | true =>
    have := (stOk_facts h).2.2.2.2
    rw [if_pos rfl, if_pos rfl, cdf (by simp)]
    by_cases h3 : s.1 = 3
    · rw [cdt (by simp [h3]), if_pos h3]
    · rw [cdf (by simp [h3]), if_neg h3]
      by_cases h4 : s.1 = 4
      · rw [cdt (by simp [h4]), Option.bind_some, cdt (by simp [h4]), if_pos (.inl h4)]
      · rw [cdf (by simp [h4]), Option.bind_some]
        by_cases h5 : s.1 = 5
        · rw [cdt (by simp [h5]), if_pos (.inr h5)]
        · rw [cdf (by simp [h5]), if_neg (by omega)]
          by_cases h8 : s.1 = 8
          · have := this h8
            rw [cdt (by simp [h8]), if_pos h8, gdt (by simp [inI64]; omega)]
          · rw [cdf (by simp [h8]), if_neg h8]
theorem stmakes_eq (s : StT) : m_stmakes s = some (make s) := by
  unfold m_stmakes make
  rw [stcheck_eq, Option.bind_some]
  cases h : stOk s with
  | false => rfl
  | true =>
    have := (stOk_facts h).2.2.2.2
    rw [if_pos rfl, if_pos rfl, cdf (by simp)]
    by_cases h8 : s.1 = 8
    · have := this h8
      rw [cdt (by simp [h8]), if_pos h8, gdt (by simp [inI64]; omega)]
    · rw [cdf (by simp [h8]), if_neg h8]
theorem stbed_eq (s : StT) : m_stbed s = some (bedOf s) := by
  unfold m_stbed bedOf
  rw [stcheck_eq, Option.bind_some]
  cases h : stOk s with
  | false => rfl
  | true =>
    rw [if_pos rfl]
    by_cases h2 : s.1 = 2
    · rw [cdt (by simp [h2]), if_pos (by simp [h2])]
    · by_cases h5 : s.1 = 5
      · rw [cdt (by simp [h5]), if_pos (by simp [h5])]
      · rw [cdf (by simp [h2, h5]), if_neg (by simp [h2, h5])]
theorem take_d {α : Type} (l : List α) (z : α) (k : Nat) (h : k < l.length) : l.take (k + 1) = l.take k ++ [l.getD k z] := by
  rw [List.take_succ_eq_append_getElem h, List.getD_eq_getElem?_getD, List.getElem?_eq_getElem h]
  rfl
/-- The sum over the first k stitches. -/
def sumTo (f : StT → Int) (l : List StT) (k : Nat) : Int := ((l.take k).map f).sum
theorem sumTo_succ (f : StT → Int) (l : List StT) (k : Nat) (h : k < l.length) : sumTo f l (k + 1) = sumTo f l k + f (l.getD k zS) := by
  unfold sumTo
  rw [take_d l zS k h, List.map_append, List.sum_append]
  simp
theorem sumTo_le (f : StT → Int) (hf : ∀ s, 0 ≤ f s ∧ f s ≤ 4) (l : List StT) : ∀ k, k ≤ l.length → 0 ≤ sumTo f l k ∧ sumTo f l k ≤ 4 * k
  | 0, _ => by simp [sumTo]
  | k + 1, h => by
    have := sumTo_le f hf l k (by omega)
    have := hf (l.getD k zS)
    rw [sumTo_succ f l k (by omega)]
    omega
theorem sumTo_mono (f : StT → Int) (hf : ∀ s, 0 ≤ f s ∧ f s ≤ 4) (l : List StT) (k : Nat) : ∀ m, k ≤ m → m ≤ l.length → sumTo f l k ≤ sumTo f l m
  | 0, h, _ => by rw [show k = 0 by omega]; exact Int.le_refl _
  | m + 1, h, hm => by
    by_cases e : k = m + 1
    · rw [e]; exact Int.le_refl _
    · have := sumTo_mono f hf l k m (by omega) (by omega)
      have := hf (l.getD m zS)
      rw [sumTo_succ f l m (by omega)]
      omega
theorem chneeds_eq (l : List StT) (hl : l.length ≤ 1000) : m_chneeds l = some (sumTo need l l.length) := by
  have hF : l.length < FUEL := fuel_of (by omega)
  unfold m_chneeds m_totneeds
  have := loopT (fun n (s : Int × Int) => m_totneeds_L2 l n s.1 s.2) l.length (fun k => (sumTo need l k, (k : Int))) (0, 0) (sumTo need l l.length) rfl hF (fun n k hk => by
    have hb := sumTo_le need need_le l k (by omega)
    have hb2 := need_le (l.getD k zS)
    show m_totneeds_L2 l (n + 1) (sumTo need l k) k = m_totneeds_L2 l n (sumTo need l (k + 1)) ((k + 1 : Nat) : Int)
    rw [m_totneeds_L2, sumTo_succ need l k hk, stneeds_eq, Int.toNat_natCast]
    generalize need (l.getD k zS) = z at hb2 ⊢
    simp (disch := ((try simp [inB, inI64, fitB, -List.getD_eq_getElem?_getD]); try omega; done)) only [gdt, cdt, cdf, Option.bind_some]
    rfl) (fun n => by
    show m_totneeds_L2 l (n + 1) (sumTo need l l.length) l.length = _
    rw [m_totneeds_L2, cdf (by simp)])
  rw [this]
  rfl
theorem chmakes_eq (l : List StT) (hl : l.length ≤ 1000) : m_chmakes l = some (sumTo make l l.length) := by
  have hF : l.length < FUEL := fuel_of (by omega)
  unfold m_chmakes m_totmakes
  have := loopT (fun n (s : Int × Int) => m_totmakes_L2 l n s.1 s.2) l.length (fun k => (sumTo make l k, (k : Int))) (0, 0) (sumTo make l l.length) rfl hF (fun n k hk => by
    have hb := sumTo_le make make_le l k (by omega)
    have hb2 := make_le (l.getD k zS)
    show m_totmakes_L2 l (n + 1) (sumTo make l k) k = m_totmakes_L2 l n (sumTo make l (k + 1)) ((k + 1 : Nat) : Int)
    rw [m_totmakes_L2, sumTo_succ make l k hk, stmakes_eq, Int.toNat_natCast]
    generalize make (l.getD k zS) = z at hb2 ⊢
    simp (disch := ((try simp [inB, inI64, fitB, -List.getD_eq_getElem?_getD]); try omega; done)) only [gdt, cdt, cdf, Option.bind_some]
    rfl) (fun n => by
    show m_totmakes_L2 l (n + 1) (sumTo make l l.length) l.length = _
    rw [m_totmakes_L2, cdf (by simp)])
  rw [this]
  rfl
def rowErr (l : List StT) : Int := if 16 < l.length then 3 else if l.length = 0 then 1 else if l.all stOk = true then (if 1 ≤ sumTo need l l.length ∧ sumTo need l l.length ≤ 16 ∧ 1 ≤ sumTo make l l.length ∧ sumTo make l l.length ≤ 16 then 0 else 5) else 1
theorem all_get {l : List StT} (h : l.all stOk = true) (k : Nat) (hk : k < l.length) : stOk (l.getD k zS) = true := by
  rw [List.getD_eq_getElem?_getD, List.getElem?_eq_getElem hk]
  exact List.all_eq_true.1 h _ (List.getElem_mem hk)
theorem chrow_eq (l : List StT) : m_chrow l = some (rowErr l) := by
  unfold m_chrow rowErr
  by_cases h1 : 16 < l.length
  · rw [if_pos h1, cdt (by simp; omega)]
  · rw [if_neg h1, cdf (by simp; omega)]
    by_cases h2 : l.length = 0
    · rw [if_pos h2, cdt (by simp [h2])]
    · rw [if_neg h2, cdf (decide_eq_false (by omega))]
      have hF : l.length < FUEL := fuel_of (by omega)
      have step : ∀ n k, k < l.length → stOk (l.getD k zS) = true → m_chrow_L2 l (n + 1) k = m_chrow_L2 l n (k + 1) := fun n k hk h => by
        rw [m_chrow_L2, stcheck_eq]
        rw [Int.toNat_natCast, h]
        simp (disch := ((try simp [inB, inI64, fitB, -List.getD_eq_getElem?_getD]); try omega; done)) only [gdt, cdt, cdf, Option.bind_some]
      by_cases h : ∀ k, k < l.length → stOk (l.getD k zS) = true
      · have e : l.all stOk = true := by
          rw [List.all_eq_true]
          intro s hs
          obtain ⟨k, hk, rfl⟩ := List.mem_iff_getElem.1 hs
          have := h k hk
          rw [List.getD_eq_getElem?_getD, List.getElem?_eq_getElem hk] at this
          exact this
        have := loop0 (fun n i (s : Unit) => m_chrow_L2 l n i) l.length (fun _ => ()) (.inl ()) hF (fun n k hk => step n k hk (h k hk)) (fun n => by
          show m_chrow_L2 l (n + 1) l.length = some (.inl ())
          rw [m_chrow_L2, cdf (by simp)])
        rw [this, e, if_pos rfl, Option.bind_some]
        dsimp only [sm]
        rw [chneeds_eq l (by omega), chmakes_eq l (by omega), Option.bind_some, Option.bind_some]
        by_cases hb : 1 ≤ sumTo need l l.length ∧ sumTo need l l.length ≤ 16 ∧ 1 ≤ sumTo make l l.length ∧ sumTo make l l.length ≤ 16
        · rw [if_pos hb, cdf (by simp; omega)]
        · rw [if_neg hb, cdt (by simp; omega)]
      · obtain ⟨j, hj, hb, hg⟩ := first_bad (fun k => stOk (l.getD k zS)) _ h
        have e : ¬ (l.all stOk = true) := fun e => by have := all_get e j hj; rw [this] at hb; cases hb
        have := loop0 (fun n i (s : Unit) => m_chrow_L2 l n i) j (fun _ => ()) (.inr 1) (by omega) (fun n k hk => step n k (by omega) (hg k hk)) (fun n => by
          show m_chrow_L2 l (n + 1) j = some (.inr 1)
          rw [m_chrow_L2, stcheck_eq, Int.toNat_natCast, hb]
          simp (disch := ((try simp [inB, inI64, fitB, -List.getD_eq_getElem?_getD]); try omega; done)) only [gdt, cdt, cdf, Option.bind_some])
        rw [this, if_neg e]; rfl
end Go.Proofs.YtihcolehefloeaaDoor

/- Courses, plain: the goals of a row. -/
namespace Go.Proofs.YtihcolehefloeaaDoor
open Go.RowKit
/-- The first needle of the stitch k. -/
def nx (l : List StT) (k : Nat) : Int := 13 + sumTo make l k
theorem nx_succ (l : List StT) (k : Nat) (h : k < l.length) : nx l (k + 1) = nx l k + make (l.getD k zS) := by
  unfold nx
  rw [sumTo_succ make l k h]
  omega
def minI (a b : Int) : Int := if a < b then a else b
/-- The needles to which the slots go that a stitch needs. -/
def toAt1 (l : List StT) (k : Nat) : List Int := (List.range (need (l.getD k zS)).toNat).map fun (j : Nat) => nx l k + minI (make (l.getD k zS) - 1) j
def toTo (l : List StT) : Nat → List Int
  | 0 => []
  | k + 1 => toTo l k ++ toAt1 l k
/-- The needles of a stitch. -/
def madeAt (l : List StT) (k : Nat) : List (Int × Int) := (List.range (make (l.getD k zS)).toNat).map fun (j : Nat) => (bedOf (l.getD k zS), nx l k + j)
theorem map_set {α : Type} (n k : Nat) (f g : Nat → α) (x : α) (hk : k < n) (h1 : g k = x) (h2 : ∀ i, i ≠ k → g i = f i) : ((List.range n).map f).set k x = (List.range n).map g := by
  refine List.ext_getElem? fun i => ?_
  rw [List.getElem?_set]
  by_cases hi : i < n
  · by_cases e : k = i
    · subst e
      simp [hi, h1]
    · simp [e, hi, h2 i (fun h => e h.symm)]
  · by_cases e : k = i
    · omega
    · simp [e, hi]
theorem toAt1_len (l : List StT) (k : Nat) : (toAt1 l k).length ≤ 4 := by
  have := need_le (l.getD k zS)
  simp only [toAt1, List.length_map, List.length_range]
  omega
theorem toTo_len (l : List StT) : ∀ k, (toTo l k).length ≤ 4 * k
  | 0 => by simp [toTo]
  | k + 1 => by
    have := toTo_len l k
    have := toAt1_len l k
    rw [toTo, List.length_append]
    omega
theorem goals12 (v r3 r10 : Int) (acc : List Int) (hv : -1000 ≤ v ∧ v ≤ 1000) (h3 : 0 ≤ r3 ∧ r3 ≤ 4) (h10 : 0 ≤ r10 ∧ r10 ≤ 4) (hl : acc.length ≤ 1000) :
    m_goals_L12 v r3 r10 FUEL 0 acc = some (acc ++ (List.range r10.toNat).map fun (j : Nat) => v + minI (r3 - 1) j) :=
  loopT (fun n (s : Int × List Int) => m_goals_L12 v r3 r10 n s.1 s.2) r10.toNat (fun k => ((k : Int), acc ++ (List.range k).map fun (j : Nat) => v + minI (r3 - 1) j)) (0, acc) _ (by simp) (fuel_of (by omega)) (fun n k hk => by
    show m_goals_L12 v r3 r10 (n + 1) k (acc ++ (List.range k).map fun (j : Nat) => v + minI (r3 - 1) j) = m_goals_L12 v r3 r10 n ((k + 1 : Nat) : Int) (acc ++ (List.range (k + 1)).map fun (j : Nat) => v + minI (r3 - 1) j)
    have hm : -1 ≤ minI (r3 - 1) k ∧ minI (r3 - 1) k ≤ 100 := by unfold minI; split <;> omega
    rw [m_goals_L12, cdt (decide_eq_true (by omega))]
    rw [show (if r3 - 1 < (k : Int) then r3 - 1 else (k : Int)) = minI (r3 - 1) k from rfl]
    generalize hz : minI (r3 - 1) k = z at hm ⊢
    simp (disch := ((try simp [inB, inI64, fitB, -List.getD_eq_getElem?_getD]); try omega; done)) only [gdt, cdt, cdf, Option.bind_some]
    simp [List.range_succ, hz]) (fun n => by
    show m_goals_L12 v r3 r10 (n + 1) r10.toNat _ = _
    rw [m_goals_L12, cdf (by simp; omega)])
theorem goals5 (l : List StT) (v i : Int) (q : List (List (Int × Int))) (r3 : Int) (hv : -1000 ≤ v ∧ v ≤ 1000) (h3 : 0 ≤ r3 ∧ r3 ≤ 4) (hi : inB i q.length = true) :
    m_goals_L5 l v i q r3 FUEL 0 (List.replicate r3.toNat gNd.zero) = some ((List.range r3.toNat).map fun (j : Nat) => (bedOf (l.getD i.toNat zS), v + j)) :=
  loopT (fun n (s : Int × List (Int × Int)) => m_goals_L5 l v i q r3 n s.1 s.2) r3.toNat (fun k => ((k : Int), (List.range r3.toNat).map fun (j : Nat) => if j < k then (bedOf (l.getD i.toNat zS), v + j) else (0, 0))) (0, _) _
    (by
      simp only [Nat.not_lt_zero, if_false]
      congr 1
      refine List.ext_getElem? fun k => ?_
      by_cases h : k < r3.toNat <;> simp [List.getElem?_replicate, h]) (fuel_of (by omega)) (fun n k hk => by
    show m_goals_L5 l v i q r3 (n + 1) k ((List.range r3.toNat).map fun (j : Nat) => if j < k then (bedOf (l.getD i.toNat zS), v + (j : Int)) else (0, 0)) = m_goals_L5 l v i q r3 n ((k + 1 : Nat) : Int) ((List.range r3.toNat).map fun (j : Nat) => if j < k + 1 then (bedOf (l.getD i.toNat zS), v + (j : Int)) else (0, 0))
    rw [m_goals_L5, cdt (decide_eq_true (by simp; omega)), gdt hi, stbed_eq, Option.bind_some, gdt (by simp [inI64, inB]; omega), gdt (by simp [inI64]; omega), Int.toNat_natCast, map_set r3.toNat k _ (fun j => if j < k + 1 then (bedOf (l.getD i.toNat zS), v + (j : Int)) else (0, 0)) _ hk (by simp) (fun j hj => by
      by_cases h1 : j < k
      · rw [if_pos h1, if_pos (by omega)]
      · rw [if_neg h1, if_neg (by omega)])]
    rfl) (fun n => by
    show m_goals_L5 l v i q r3 (n + 1) r3.toNat _ = _
    rw [m_goals_L5, cdf (by simp)]
    congr 1
    refine List.map_congr_left fun j hj => ?_
    rw [if_pos (by simpa using hj)])
theorem goals_eq (l : List StT) (hl : l.length ≤ 16) : m_goals l = some ((List.range l.length).map (madeAt l), l.length, toTo l l.length) := by
  have hF : l.length < FUEL := fuel_of (by omega)
  unfold m_goals
  have := loopT (fun n (s : Int × Int × List Int × List (List (Int × Int))) => m_goals_L2 l n s.1 s.2.1 s.2.2.1 s.2.2.2) l.length (fun k => (nx l k, (k : Int), toTo l k, (List.range l.length).map fun i => if i < k then madeAt l i else []))
    (13, 0, [], List.replicate l.length []) (toTo l l.length, (List.range l.length).map (madeAt l)) (by
      simp only [nx, sumTo, toTo, Nat.not_lt_zero, if_false]
      simp
      refine List.ext_getElem? fun k => ?_
      by_cases h : k < l.length <;> simp [List.getElem?_replicate, h]) hF (fun n k hk => by
    show m_goals_L2 l (n + 1) (nx l k) k (toTo l k) _ = m_goals_L2 l n (nx l (k + 1)) ((k + 1 : Nat) : Int) (toTo l (k + 1)) _
    have hb := sumTo_le make make_le l k (by omega)
    have hb2 := make_le (l.getD k zS)
    have hb2' : 0 ≤ make (l.getD k (0, 0, 0, 0, false)) ∧ make (l.getD k (0, 0, 0, 0, false)) ≤ 4 := hb2
    have hb3 := need_le (l.getD k zS)
    have hn : -100 ≤ nx l k ∧ nx l k ≤ 900 := by unfold nx; omega
    have ht := toTo_len l k
    rw [m_goals_L2, cdt (decide_eq_true (by omega)), gdt (by simp [inB]; omega), stmakes_eq, Option.bind_some, Int.toNat_natCast, gdt (by simp [inB, -List.getD_eq_getElem?_getD]; omega), gdt (by simp [inB]; omega)]
    rw [goals5 l _ _ _ _ (by omega) hb2 (by simp [inB]; omega), Option.bind_some, stneeds_eq, Option.bind_some, goals12 _ _ _ _ (by omega) hb2 hb3 (by omega), Option.bind_some, Int.toNat_natCast]
    rw [gdt (by simp [inI64, -List.getD_eq_getElem?_getD]; omega), gdt (by simp [inI64]; omega), ← nx_succ l k hk]
    rw [map_set l.length k _ (fun i => if i < k + 1 then madeAt l i else []) _ hk (by rw [if_pos (by omega)]; rfl) (fun j hj => by
      by_cases h1 : j < k
      · rw [if_pos h1, if_pos (by omega)]
      · rw [if_neg h1, if_neg (by omega)])]
    rfl) (fun n => by
    show m_goals_L2 l (n + 1) (nx l l.length) l.length (toTo l l.length) _ = _
    rw [m_goals_L2, cdf (by simp)]
    congr 2
    refine List.map_congr_left fun j hj => ?_
    rw [if_pos (by simpa using hj)])
  rw [gdt (by simp; omega), Int.toNat_natCast]
  dsimp only at this
  rw [this]
  rfl
end Go.Proofs.YtihcolehefloeaaDoor

/- Courses, plain: where the slots go, and which are held then. -/
namespace Go.Proofs.YtihcolehefloeaaDoor
open Go.RowKit
theorem pw_get {R : Int → Int → Prop} {l : List Int} (h : l.Pairwise R) (i j : Nat) (hij : i < j) (hj : j < l.length) : R (l.getD i 0) (l.getD j 0) := by
  rw [List.getD_eq_getElem?_getD, List.getD_eq_getElem?_getD, List.getElem?_eq_getElem hj, List.getElem?_eq_getElem (Nat.lt_trans hij hj)]
  exact List.pairwise_iff_getElem.1 h i j (Nat.lt_trans hij hj) hj hij
theorem mem_get {l : List Int} (i : Nat) (h : i < l.length) : l.getD i 0 ∈ l := by
  rw [List.getD_eq_getElem?_getD, List.getElem?_eq_getElem h]
  exact List.getElem_mem h
theorem pw_to {l : List Int} (h : l.Pairwise (· ≤ ·)) (hb : ∀ x ∈ l, 1 ≤ x ∧ x ≤ 40) : chkTo l = true := by
  rw [chkTo, List.all_eq_true]
  intro i hi
  have hi2 : i < l.length := by simpa using hi
  have h1 := hb _ (mem_get i hi2)
  simp only [toAt, Bool.and_eq_true, Bool.or_eq_true, decide_eq_true_eq, Int.toNat_natCast]
  refine ⟨h1, ?_⟩
  by_cases h0 : i = 0
  · left; omega
  · right
    rw [show ((i : Int) - 1).toNat = i - 1 by omega]
    exact pw_get h (i - 1) i (by omega) hi2
theorem pw_all {l : List Int} (h : l.Pairwise (· < ·)) (hb : ∀ x ∈ l, 1 ≤ x ∧ x ≤ 40) : chkAll l = true := by
  rw [chkAll, List.all_eq_true]
  intro i hi
  have hi2 : i < l.length := by simpa using hi
  have h1 := hb _ (mem_get i hi2)
  simp only [okAt, Bool.and_eq_true, Bool.or_eq_true, decide_eq_true_eq, Int.toNat_natCast]
  refine ⟨h1, ?_⟩
  by_cases h0 : i = 0
  · left; omega
  · right
    rw [show ((i : Int) - 1).toNat = i - 1 by omega]
    exact pw_get h (i - 1) i (by omega) hi2
theorem pw_le {l : List Int} (h : l.Pairwise (· < ·)) : l.Pairwise (· ≤ ·) := h.imp fun h => Int.le_of_lt h
/-- compact, from its end. -/
theorem compact_snoc (p : List Int) (x : Int) (h : ∀ y, p.getLast? = some y → y ≠ x) : Lib.compact (p ++ [x]) = Lib.compact p ++ [x] := by
  unfold Lib.compact
  rw [List.length_append, List.length_singleton, Lib.compactUpTo_succ]
  have hx : (p ++ [x]).toArray[p.length]! = x := by simp
  have e1 : Lib.compactUpTo (p ++ [x]).toArray p.length = Lib.compactUpTo p.toArray p.length := by
    unfold Lib.compactUpTo
    have hg : ∀ j, j < p.length → (p ++ [x]).toArray[j]! = p.toArray[j]! := fun j hj => by
      simp [List.getElem?_append_left hj]
    have hf : (List.range p.length).filter (Lib.keeps (p ++ [x]).toArray) = (List.range p.length).filter (Lib.keeps p.toArray) := by
      refine List.filter_congr fun j hj => ?_
      have hj' : j < p.length := by simpa using hj
      unfold Lib.keeps
      rw [hg j hj', hg (j - 1) (by omega)]
    rw [hf]
    refine List.map_congr_left fun j hj => ?_
    exact hg j (by simpa using (List.mem_filter.1 hj).1)
  rw [e1, hx]
  congr 1
  rw [if_pos]
  unfold Lib.keeps
  by_cases h0 : p.length = 0
  · simp [h0]
  · have hl : p.getLast? = some (p.toArray[p.length - 1]!) := by
      rw [List.getLast?_eq_getElem?]
      simp [List.getElem?_eq_getElem (show p.length - 1 < p.length by omega)]
    have h2 := h _ hl
    have h3 : (p ++ [x]).toArray[p.length - 1]! = p.toArray[p.length - 1]! := by
      simp [List.getElem?_append_left (show p.length - 1 < p.length by omega)]
    rw [hx, h3]
    simp only [h0, decide_false, Bool.false_or]
    simpa using fun e => h2 (by simpa using e.symm)
theorem compact_dup (p : List Int) (x : Int) : Lib.compact (p ++ [x] ++ [x]) = Lib.compact (p ++ [x]) := by
  have := Lib.compactUpTo_succ (p ++ [x] ++ [x]).toArray (p.length + 1)
  unfold Lib.compact
  rw [List.length_append, List.length_append, List.length_singleton, this]
  have hk : Lib.keeps (p ++ [x] ++ [x]).toArray (p.length + 1) = false := by
    unfold Lib.keeps
    simp
  rw [hk]
  simp only [Bool.false_eq_true, if_false, List.append_nil]
  unfold Lib.compactUpTo
  have hg : ∀ j, j < p.length + 1 → (p ++ [x] ++ [x]).toArray[j]! = (p ++ [x]).toArray[j]! := fun j hj => by
    simp only [List.getElem!_toArray, List.getElem!_eq_getElem?_getD]
    rw [List.getElem?_append_left (l₁ := p ++ [x]) (by simp; omega)]
  have hf : (List.range (p.length + 1)).filter (Lib.keeps (p ++ [x] ++ [x]).toArray) = (List.range (p.length + 1)).filter (Lib.keeps (p ++ [x]).toArray) := by
    refine List.filter_congr fun j hj => ?_
    have hj' : j < p.length + 1 := by simpa using hj
    unfold Lib.keeps
    rw [hg j hj', hg (j - 1) (by omega)]
  rw [hf]
  refine List.map_congr_left fun j hj => ?_
  exact hg j (by simpa using (List.mem_filter.1 hj).1)
theorem compact_inc : ∀ (q p : List Int), q.Pairwise (· < ·) → (∀ x ∈ p, ∀ y ∈ q, x < y) → Lib.compact (p ++ q) = Lib.compact p ++ q
  | [], p, _, _ => by simp
  | y :: q, p, h, hc => by
    have h1 := List.pairwise_cons.1 h
    rw [show p ++ y :: q = (p ++ [y]) ++ q by simp, compact_inc q (p ++ [y]) h1.2 (fun x hx z hz => by
      rcases List.mem_append.1 hx with hx | hx
      · exact hc x hx z (List.mem_cons_of_mem _ hz)
      · simp only [List.mem_singleton] at hx
        subst hx
        exact h1.1 z hz), compact_snoc p y (fun z hz => by
      have := hc z (List.mem_of_getLast? hz) y List.mem_cons_self
      omega)]
    simp
/-- The needles of slots that are held by a stitch before it is worked. -/
def heldAt (l : List StT) (k : Nat) : List Int := if need (l.getD k zS) = 0 then [] else (List.range (make (l.getD k zS)).toNat).map fun (j : Nat) => nx l k + j
def heldTo (l : List StT) : Nat → List Int
  | 0 => []
  | k + 1 => heldTo l k ++ heldAt l k
theorem run_pw (a : Int) (n : Nat) : ((List.range n).map fun (j : Nat) => a + j).Pairwise (· < ·) := by
  rw [List.pairwise_map]
  exact List.pairwise_lt_range.imp fun h => by omega
theorem run_mem {a : Int} {n : Nat} {x : Int} (h : x ∈ (List.range n).map fun (j : Nat) => a + j) : a ≤ x ∧ x < a + n := by
  obtain ⟨j, hj, rfl⟩ := List.mem_map.1 h
  have : j < n := by simpa using hj
  omega
theorem toAt1_mem {l : List StT} (h : l.all stOk = true) {k : Nat} (hk : k < l.length) {x : Int} (hx : x ∈ toAt1 l k) : nx l k ≤ x ∧ x < nx l (k + 1) := by
  obtain ⟨j, hj, rfl⟩ := List.mem_map.1 hx
  have := make_pos (all_get h k hk)
  rw [nx_succ l k hk]
  unfold minI
  split <;> omega
theorem toTo_mem {l : List StT} (h : l.all stOk = true) : ∀ k, k ≤ l.length → ∀ x ∈ toTo l k, 13 ≤ x ∧ x < nx l k
  | 0, _, x, hx => by cases hx
  | k + 1, hk, x, hx => by
    have hn := nx_succ l k (by omega)
    have := make_le (l.getD k zS)
    have hs := sumTo_le make make_le l k (by omega)
    rcases List.mem_append.1 hx with hx | hx
    · have := toTo_mem h k (by omega) x hx
      omega
    · have := toAt1_mem h (by omega) hx
      unfold nx at *
      omega
theorem toTo_pw {l : List StT} (h : l.all stOk = true) : ∀ k, k ≤ l.length → (toTo l k).Pairwise (· ≤ ·)
  | 0, _ => .nil
  | k + 1, hk => by
    refine List.pairwise_append.2 ⟨toTo_pw h k (by omega), ?_, fun x hx y hy => ?_⟩
    · unfold toAt1
      rw [List.pairwise_map]
      exact List.pairwise_lt_range.imp fun h => by unfold minI; split <;> split <;> omega
    · have h1 := toTo_mem h k (by omega) x hx
      have h2 := toAt1_mem h (by omega) hy
      omega
theorem heldAt_mem {l : List StT} {k : Nat} (hk : k < l.length) {x : Int} (hx : x ∈ heldAt l k) : nx l k ≤ x ∧ x < nx l (k + 1) := by
  unfold heldAt at hx
  split at hx
  · cases hx
  · have := run_mem hx
    have := make_le (l.getD k zS)
    rw [nx_succ l k hk]
    omega
theorem heldTo_mem {l : List StT} : ∀ k, k ≤ l.length → ∀ x ∈ heldTo l k, 13 ≤ x ∧ x < nx l k
  | 0, _, x, hx => by cases hx
  | k + 1, hk, x, hx => by
    have hn := nx_succ l k (by omega)
    have := make_le (l.getD k zS)
    have hs := sumTo_le make make_le l k (by omega)
    rcases List.mem_append.1 hx with hx | hx
    · have := heldTo_mem k (by omega) x hx
      omega
    · have := heldAt_mem (by omega) hx
      unfold nx at *
      omega
theorem heldAt_pw (l : List StT) (k : Nat) : (heldAt l k).Pairwise (· < ·) := by
  unfold heldAt
  split
  · exact .nil
  · exact run_pw _ _
theorem heldTo_pw {l : List StT} : ∀ k, k ≤ l.length → (heldTo l k).Pairwise (· < ·)
  | 0, _ => .nil
  | k + 1, hk => by
    refine List.pairwise_append.2 ⟨heldTo_pw k (by omega), heldAt_pw l k, fun x hx y hy => ?_⟩
    have h1 := heldTo_mem k (by omega) x hx
    have h2 := heldAt_mem (by omega) hy
    omega
theorem compact_to {l : List StT} (h : l.all stOk = true) : ∀ k, k ≤ l.length → Lib.compact (toTo l k) = heldTo l k
  | 0, _ => rfl
  | k + 1, hk => by
    have ih := compact_to h k (by omega)
    have hm := toTo_mem h k (by omega)
    rw [toTo, heldTo, ← ih]
    rcases need_make (all_get h k (by omega)) with h0 | ⟨h2, h1⟩ | he
    · have e1 : toAt1 l k = [] := by unfold toAt1; rw [h0]; rfl
      have e2 : heldAt l k = [] := by unfold heldAt; rw [if_pos h0]
      rw [e1, e2, List.append_nil, List.append_nil]
    · have e1 : toAt1 l k = [nx l k] ++ [nx l k] := by unfold toAt1; rw [h2, h1]; simp [List.range_succ, minI]
      have e2 : heldAt l k = [nx l k] := by unfold heldAt; rw [if_neg (by omega), h1]; simp [List.range_succ]
      rw [e1, e2, ← List.append_assoc, compact_dup, compact_snoc]
      intro y hy
      have := hm y (List.mem_of_getLast? hy)
      omega
    · have hp := make_pos (all_get h k (by omega))
      have e1 : toAt1 l k = heldAt l k := by
        unfold toAt1 heldAt
        rw [if_neg (by omega), he]
        refine List.map_congr_left fun j hj => ?_
        have : j < (make (l.getD k zS)).toNat := by simpa using hj
        unfold minI
        rw [if_neg (by omega)]
      rw [e1]
      refine compact_inc _ _ (heldAt_pw l k) fun x hx y hy => ?_
      have h1 := hm x hx
      have h2 := heldAt_mem (by omega) hy
      omega
theorem heldTo_pre (l : List StT) (k : Nat) : ∀ m, k ≤ m → ∃ r, heldTo l m = heldTo l k ++ r
  | 0, h => ⟨[], by rw [show k = 0 by omega]; rfl⟩
  | m + 1, h => by
    by_cases e : k = m + 1
    · exact ⟨[], by rw [e, List.append_nil]⟩
    · obtain ⟨r, hr⟩ := heldTo_pre l k m (by omega)
      exact ⟨r ++ heldAt l m, by rw [heldTo, hr, List.append_assoc]⟩
/-- Where a stitch's slots stand among all. -/
theorem held_get (l : List StT) {k m : Nat} (hk : k < m) (h0 : need (l.getD k zS) ≠ 0) (j : Nat) (hj : (j : Int) < make (l.getD k zS)) : (heldTo l m).getD ((heldTo l k).length + j) 0 = nx l k + j ∧ (heldTo l k).length + j < (heldTo l m).length := by
  obtain ⟨r, hr⟩ := heldTo_pre l (k + 1) m (by omega)
  have hl : j < (heldAt l k).length := by unfold heldAt; rw [if_neg h0, List.length_map, List.length_range]; omega
  rw [hr, heldTo]
  refine ⟨?_, by simp only [List.length_append]; omega⟩
  rw [List.getD_eq_getElem?_getD, List.append_assoc, List.getElem?_append_right (by omega), Nat.add_sub_cancel_left, List.getElem?_append_left hl]
  unfold heldAt
  rw [if_neg h0]
  have : j < (make (l.getD k zS)).toNat := by omega
  rw [List.getElem?_map, List.getElem?_range this]
  rfl
theorem index_eq (l : List Int) (p : Nat) (hp : p < l.length) (hl : l.length ≤ 1000) (h : l.Pairwise (· < ·)) : m_index l (l.getD p 0) = some (p : Int) := by
  unfold m_index
  have := loop0 (fun n i (s : Unit) => m_index_L2 l (l.getD p 0) n i) p (fun _ => ()) (.inr (p : Int)) (fuel_of (by omega)) (fun n k hk => by
    show m_index_L2 l (l.getD p 0) (n + 1) k = m_index_L2 l (l.getD p 0) n (k + 1)
    have hlt := pw_get h k p hk hp
    rw [m_index_L2, cdt (decide_eq_true (by omega)), gdt (by simp [inB]; omega), Int.toNat_natCast, cdf (decide_eq_false (by omega)), gdt (by simp [inI64]; omega)]) (fun n => by
    show m_index_L2 l (l.getD p 0) (n + 1) p = some (.inr (p : Int))
    rw [m_index_L2, cdt (decide_eq_true (by omega)), gdt (by simp [inB]; omega), Int.toNat_natCast, cdt (decide_eq_true rfl)])
  rw [this]
  rfl
end Go.Proofs.YtihcolehefloeaaDoor

/- Courses, plain: cables. -/
namespace Go.Proofs.YtihcolehefloeaaDoor
open Go.RowKit
theorem clone_eq (l : List Int) (h0 : 0 < l.length) (h : l.length ≤ 1000) : m_clone l = some l := by
  unfold m_clone
  rw [gdt (by simpa using h0), cdf rfl, gdt (by simp [fitB]; omega)]
  rfl
theorem cbsizes_eq (a b : Nat) (ha : 1 ≤ a) (hb : 1 ≤ b) (hab : a + b ≤ 4) : m_cbsizes a b = some 0 := by
  unfold m_cbsizes
  rw [gdt (by simp [inI64]; omega), cdf (by simp; omega)]
theorem set_same {l : List Int} {q : Nat} {x : Int} (hq : q < l.length) (h : l.getD q 0 = x) : l.set q x = l := by
  refine List.ext_getElem? fun j => ?_
  rw [List.getElem?_set]
  by_cases e : q = j
  · subst e
    rw [List.getD_eq_getElem?_getD, List.getElem?_eq_getElem hq] at h
    simp only [Option.getD_some] at h
    simp [hq, h]
  · simp [e]
theorem crossT_eq (bed : Int) (x : List Int × List Int × Int × List Int) (ops : List OpT) (h1 : x.2.1.length ≤ 1000) (h2 : ops.length ≤ 2000000) : m_crossT bed x ops = some (ops ++ x.2.1.map fun k => (7, 0, (bed, k), 0, 0)) := by
  unfold m_crossT
  have := loopT (fun n (s : Int × List OpT) => m_crossT_L2 bed x n s.1 s.2) x.2.1.length (fun k => ((k : Int), ops ++ (x.2.1.take k).map fun k => (7, 0, (bed, k), 0, 0))) (0, ops) (ops ++ x.2.1.map fun k => (7, 0, (bed, k), 0, 0)) (by simp) (fuel_of (by omega)) (fun n k hk => by
    show m_crossT_L2 bed x (n + 1) k (ops ++ (x.2.1.take k).map fun k => (7, 0, (bed, k), 0, 0)) = m_crossT_L2 bed x n ((k + 1 : Nat) : Int) (ops ++ (x.2.1.take (k + 1)).map fun k => (7, 0, (bed, k), 0, 0))
    rw [m_crossT_L2, cdt (decide_eq_true (by omega)), gdt (by simp [inB]; omega), gdt (by simp [fitB]; omega), gdt (by simp [inI64]; omega), take_d x.2.1 0 k hk, Int.toNat_natCast]
    simp) (fun n => by
    show m_crossT_L2 bed x (n + 1) x.2.1.length _ = _
    rw [m_crossT_L2, cdf (by simp), List.take_length])
  dsimp only at this
  rw [this]
  rfl
def fl (n : Nat) (f : Nat → Int) : List Int := (List.range n).map f
theorem fl_len (n : Nat) (f : Nat → Int) : (fl n f).length = n := by simp [fl]
theorem fl_mem {n : Nat} {f : Nat → Int} {p : Int → Prop} (h : ∀ q, q < n → p (f q)) : ∀ x ∈ fl n f, p x := fun x hx => by
  obtain ⟨q, hq, rfl⟩ := List.mem_map.1 hx
  exact h q (by simpa using hq)
theorem fl_pw {n : Nat} {f : Nat → Int} (h : ∀ q, q + 1 < n → f q < f (q + 1)) : (fl n f).Pairwise (· < ·) := by
  unfold fl
  rw [List.pairwise_map, List.pairwise_iff_getElem]
  intro i j hi hj hij
  rw [List.getElem_range, List.getElem_range]
  have hj' : j < n := by simpa using hj
  clear hi hj
  induction j with
  | zero => omega
  | succ j ih =>
    by_cases e : i = j
    · rw [e]; exact h j hj'
    · exact Int.lt_trans (ih (by omega) (by omega)) (h j hj')
theorem fl_of (l : List Int) : l = fl l.length (fun q => l.getD q 0) := by
  refine List.ext_getElem? fun j => ?_
  unfold fl
  by_cases h : j < l.length
  · rw [List.getElem?_map, List.getElem?_range h, List.getElem?_eq_getElem h]
    simp [List.getD_eq_getElem?_getD, List.getElem?_eq_getElem h]
  · simp [h]
theorem fl_set {n k : Nat} {f g : Nat → Int} {x : Int} (hk : k < n) (h1 : g k = x) (h2 : ∀ i, i ≠ k → g i = f i) : (fl n f).set k x = fl n g := map_set n k f g x hk h1 h2
/-- Slots, of which a and b neighbours are crossed. -/
structure Cr (l : List Int) (i a b : Nat) (p : Int) : Prop where
  pw : l.Pairwise (· < ·)
  mem : ∀ x ∈ l, 13 ≤ x ∧ x ≤ 28
  len : i + a + b ≤ l.length
  run : ∀ j : Nat, j < a + b → l.getD (i + j) 0 = p + j
  ha : 1 ≤ a
  hb : 1 ≤ b
  hab : a + b ≤ 4
theorem Cr.all {l : List Int} {i a b : Nat} {p : Int} (h : Cr l i a b p) : chkAll l = true := pw_all h.pw fun x hx => by have := h.mem x hx; omega
theorem Cr.short {l : List Int} {i a b : Nat} {p : Int} (h : Cr l i a b p) : l.length ≤ 40 := chk_len l h.all
theorem Cr.get {l : List Int} {i a b : Nat} {p : Int} (h : Cr l i a b p) (q : Nat) (hq : q < l.length) : 13 ≤ l.getD q 0 ∧ l.getD q 0 ≤ 28 := h.mem _ (mem_get q hq)
theorem Cr.p {l : List Int} {i a b : Nat} {p : Int} (h : Cr l i a b p) : l.getD i 0 = p ∧ 13 ≤ p ∧ p + a + b ≤ 29 := by
  have h1 := h.run 0 (by have := h.ha; omega)
  have h2 := h.run (a + b - 1) (by have := h.ha; omega)
  have h3 := h.get i (by have := h.len; have := h.ha; omega)
  have h4 := h.get (i + (a + b - 1)) (by have := h.len; have := h.ha; omega)
  have := h.ha
  rw [Nat.add_zero] at h1
  omega
/-- What place the slots behind are kept at, and the next free one. -/
def frR (l : List Int) (e : Nat) (f0 : Int) : Nat → Int
  | 0 => f0
  | m + 1 => (if l.getD (e + m) 0 < frR l e f0 m then frR l e f0 m else l.getD (e + m) 0) + 1
def plR (l : List Int) (e : Nat) (f0 : Int) (m : Nat) : Int := if l.getD (e + m) 0 < frR l e f0 m then frR l e f0 m else l.getD (e + m) 0
theorem fr_bounds {l : List Int} {i a b : Nat} {p : Int} (h : Cr l i a b p) : ∀ m, i + a + b + m ≤ l.length → p + 2 * a + b + m ≤ frR l (i + a + b) (p + 2 * a + b) m ∧ (∀ q, l.getD (i + a + b + m - 1) 0 = q → frR l (i + a + b) (p + 2 * a + b) m ≤ q + 1 + a)
  | 0, _ => by
    have h2 := h.run (a + b - 1) (by have := h.ha; omega)
    have := h.ha
    have e : i + a + b + 0 - 1 = i + (a + b - 1) := by omega
    refine ⟨by simp [frR], fun q hq => ?_⟩
    rw [e, h2] at hq
    simp only [frR]
    omega
  | m + 1, hm => by
    obtain ⟨h1, h2⟩ := fr_bounds h m (by omega)
    have h3 := h2 _ rfl
    have h4 := pw_get h.pw (i + a + b + m - 1) (i + a + b + m) (by have := h.ha; omega) (by omega)
    refine ⟨?_, fun q hq => ?_⟩
    · unfold frR
      split <;> omega
    · rw [show i + a + b + (m + 1) - 1 = i + a + b + m by omega] at hq
      unfold frR
      subst hq
      split <;> omega
theorem pl_bounds {l : List Int} {i a b : Nat} {p : Int} (h : Cr l i a b p) (m : Nat) (hm : i + a + b + m < l.length) : p + 2 * a + b + m ≤ plR l (i + a + b) (p + 2 * a + b) m ∧ plR l (i + a + b) (p + 2 * a + b) m ≤ l.getD (i + a + b + m) 0 + a ∧ frR l (i + a + b) (p + 2 * a + b) m ≤ plR l (i + a + b) (p + 2 * a + b) m := by
  obtain ⟨h1, h2⟩ := fr_bounds h m (by omega)
  have h3 := h2 _ rfl
  have h4 := pw_get h.pw (i + a + b + m - 1) (i + a + b + m) (by have := h.ha; omega) (by omega)
  unfold plR
  split <;> omega
def rmB (l : List Int) (e : Nat) (f0 : Int) (m q : Nat) : Int := if e ≤ q ∧ q < e + m then plR l e f0 (q - e) else l.getD q 0
def bhF (i k : Nat) (v : Int) (f : Nat → Int) (q : Nat) : Int := if i ≤ q ∧ q < i + k then v + ((q : Int) - i) else f q
theorem leftbehind_ok {l : List Int} {i a b : Nat} {p : Int} (h : Cr l i a b p) : ∃ room across by_ behind, m_leftbehind l i a b = some ((room, (across, (by_, behind))), true) ∧ across.length ≤ 4 ∧ chkTo room = true ∧ room.length = l.length ∧ chkAll behind = true ∧ behind.length = l.length := by
  obtain ⟨hp1, hp2, hp3⟩ := h.p
  have hs := h.short
  have ha := h.ha
  have hb := h.hb
  have hab := h.hab
  have hln := h.len
  have hc : m_clone l = some l := clone_eq l (by omega) (by omega)
  have h3 : m_leftbehind_L3 l i a b FUEL 0 l = some l := loopT (fun n (s : Int × List Int) => m_leftbehind_L3 l i a b n s.1 s.2) (a + b) (fun k => ((k : Int), l)) (0, l) l rfl (fuel_of (by omega)) (fun n k hk => by
    show m_leftbehind_L3 l i a b (n + 1) k l = m_leftbehind_L3 l i a b n ((k + 1 : Nat) : Int) l
    have hr := h.run k hk
    rw [m_leftbehind_L3, cdt (decide_eq_true (by omega)), Int.toNat_natCast, hp1, gdt (by simp [inI64, inB]; omega), gdt (by simp [inI64]; omega), show ((i : Int) + k).toNat = i + k by omega, set_same (by omega) hr]
    rfl) (fun n => by
    show m_leftbehind_L3 l i a b (n + 1) ((a + b : Nat) : Int) l = _
    rw [m_leftbehind_L3, cdf (decide_eq_false (by omega))])
  have h7 : m_leftbehind_L7 l FUEL ((i : Int) + a + b) (p + 2 * a + b) l = some (frR l (i + a + b) (p + 2 * a + b) (l.length - (i + a + b)), fl l.length (rmB l (i + a + b) (p + 2 * a + b) (l.length - (i + a + b)))) :=
    loopT (fun n (s : Int × Int × List Int) => m_leftbehind_L7 l n s.1 s.2.1 s.2.2) (l.length - (i + a + b)) (fun m => (((i + a + b + m : Nat) : Int), frR l (i + a + b) (p + 2 * a + b) m, fl l.length (rmB l (i + a + b) (p + 2 * a + b) m))) (_, _, l) _
      (by
        have e1 : ((i + a + b + 0 : Nat) : Int) = (i : Int) + a + b := by omega
        have e2 : fl l.length (rmB l (i + a + b) (p + 2 * a + b) 0) = l := by
          conv => rhs; rw [fl_of l]
          unfold fl
          refine List.map_congr_left fun q _ => ?_
          unfold rmB
          rw [if_neg (by omega)]
        rw [e1, e2]
        rfl) (fuel_of (by omega)) (fun n m hm => by
      show m_leftbehind_L7 l (n + 1) ((i + a + b + m : Nat) : Int) (frR l (i + a + b) (p + 2 * a + b) m) (fl l.length (rmB l (i + a + b) (p + 2 * a + b) m)) = m_leftbehind_L7 l n ((i + a + b + (m + 1) : Nat) : Int) (frR l (i + a + b) (p + 2 * a + b) (m + 1)) (fl l.length (rmB l (i + a + b) (p + 2 * a + b) (m + 1)))
      obtain ⟨g1, g2, g3⟩ := pl_bounds h m (by omega)
      have g4 := h.get (i + a + b + m) (by omega)
      have hlb : m_lbk (l.getD (i + a + b + m) 0) (frR l (i + a + b) (p + 2 * a + b) m) = some (plR l (i + a + b) (p + 2 * a + b) m, frR l (i + a + b) (p + 2 * a + b) (m + 1)) := by
        unfold m_lbk
        rw [show (if l.getD (i + a + b + m) 0 < frR l (i + a + b) (p + 2 * a + b) m then frR l (i + a + b) (p + 2 * a + b) m else l.getD (i + a + b + m) 0) = plR l (i + a + b) (p + 2 * a + b) m from rfl, gdt (by simp [inI64]; omega)]
        rfl
      rw [m_leftbehind_L7, cdt (decide_eq_true (by omega)), Int.toNat_natCast, gdt (by simp [inB]; omega), hlb, Option.bind_some, gdt (by simp [inB, fl_len]; omega), gdt (by simp [inI64]; omega)]
      rw [fl_set (g := rmB l (i + a + b) (p + 2 * a + b) (m + 1)) (by omega) (by unfold rmB; rw [if_pos (by omega), Nat.add_sub_cancel_left]) (fun q hq => by
        unfold rmB
        by_cases hq2 : i + a + b ≤ q ∧ q < i + a + b + m
        · rw [if_pos hq2, if_pos (by omega)]
        · rw [if_neg hq2, if_neg (by omega)])]
      rfl) (fun n => by
      show m_leftbehind_L7 l (n + 1) ((i + a + b + (l.length - (i + a + b)) : Nat) : Int) _ _ = _
      rw [m_leftbehind_L7, cdf (decide_eq_false (by omega))])
  obtain ⟨f0, hf0⟩ : ∃ f0, p + 2 * a + b = f0 := ⟨_, rfl⟩
  obtain ⟨e, he⟩ : ∃ e, i + a + b = e := ⟨_, rfl⟩
  have hfr := fr_bounds h (l.length - (i + a + b)) (by omega)
  have hlast := h.get (l.length - 1) (by omega)
  have hfr2 := hfr.2 _ rfl
  rw [show i + a + b + (l.length - (i + a + b)) - 1 = l.length - 1 by omega] at hfr2
  have hpl := fun m hm => pl_bounds h m hm
  rw [hf0, he] at h7 hfr hfr2 hpl
  -- where all are when there is room
  have rm_ok : ∀ q, q < l.length → 13 ≤ rmB l e f0 (l.length - e) q ∧ rmB l e f0 (l.length - e) q ≤ 40 ∧ (e ≤ q → f0 ≤ rmB l e f0 (l.length - e) q) := fun q hq => by
    unfold rmB
    split
    · rename_i hc
      have := hpl (q - e) (by omega)
      rw [show e + (q - e) = q by omega] at this
      have := h.get q hq
      omega
    · have := h.get q hq
      refine ⟨by omega, by omega, fun h => by omega⟩
  have rm_pw : ∀ q, q + 1 < l.length → rmB l e f0 (l.length - e) q < rmB l e f0 (l.length - e) (q + 1) := fun q hq => by
    unfold rmB
    by_cases h1 : e ≤ q
    · rw [if_pos (by omega), if_pos (by omega)]
      have h2 := hpl (q + 1 - e) (by omega)
      rw [show q + 1 - e = (q - e) + 1 by omega] at h2 ⊢
      have h4 : frR l e f0 (q - e + 1) = plR l e f0 (q - e) + 1 := rfl
      omega
    · rw [if_neg (by omega)]
      by_cases h2 : e ≤ q + 1
      · rw [if_pos (by omega)]
        have h3 := hpl (q + 1 - e) (by omega)
        have h4 := h.run (a + b - 1) (by omega)
        rw [show i + (a + b - 1) = q by omega] at h4
        omega
      · rw [if_neg (by omega)]
        exact pw_get h.pw q (q + 1) (by omega) hq
  have hrl := fl_len l.length (rmB l e f0 (l.length - e))
  have h15 : m_leftbehind_L15 l i a b FUEL 0 (fl l.length (rmB l e f0 (l.length - e))) = some (fl l.length (bhF i (a + b) (p + a) (rmB l e f0 (l.length - e)))) :=
    loopT (fun n (s : Int × List Int) => m_leftbehind_L15 l i a b n s.1 s.2) (a + b) (fun k => ((k : Int), fl l.length (bhF i k (p + a) (rmB l e f0 (l.length - e))))) (0, _) _ (by
      congr 1
      unfold fl
      refine List.map_congr_left fun q _ => ?_
      unfold bhF
      rw [if_neg (by omega)]) (fuel_of (by omega)) (fun n k hk => by
      show m_leftbehind_L15 l i a b (n + 1) k (fl l.length (bhF i k (p + a) _)) = m_leftbehind_L15 l i a b n ((k + 1 : Nat) : Int) (fl l.length (bhF i (k + 1) (p + a) _))
      rw [m_leftbehind_L15, cdt (decide_eq_true (by omega)), Int.toNat_natCast, hp1, gdt (by simp [inI64, inB, fl_len]; omega), gdt (by simp [inI64]; omega), show ((i : Int) + k).toNat = i + k by omega]
      rw [fl_set (g := bhF i (k + 1) (p + a) (rmB l e f0 (l.length - e))) (by omega) (by unfold bhF; rw [if_pos (by omega)]; omega) (fun q hq => by
        unfold bhF
        by_cases hq2 : i ≤ q ∧ q < i + k
        · rw [if_pos hq2, if_pos (by omega)]
        · rw [if_neg hq2, if_neg (by omega)])]
      rfl) (fun n => by
      show m_leftbehind_L15 l i a b (n + 1) ((a + b : Nat) : Int) _ = _
      rw [m_leftbehind_L15, cdf (decide_eq_false (by omega))])
  have hcut : ∀ k, 0 < k → i + k ≤ l.length → m_clone (((fl l.length (rmB l e f0 (l.length - e))).take (i + k)).drop i) = some (((fl l.length (rmB l e f0 (l.length - e))).take (i + k)).drop i) := fun k h0 hk => clone_eq _ (by simp [fl_len]; omega) (by simp [fl_len]; omega)
  refine ⟨fl l.length (rmB l e f0 (l.length - e)), ((fl l.length (rmB l e f0 (l.length - e))).take (i + a)).drop i, (a : Int) + b, fl l.length (bhF i (a + b) (p + a) (rmB l e f0 (l.length - e))), ?_, by simp [fl_len]; omega, pw_to (pw_le (fl_pw rm_pw)) (fl_mem fun q hq => by have := rm_ok q hq; omega), hrl, pw_all (fl_pw fun q hq => ?_) (fl_mem fun q hq => ?_), fl_len _ _⟩
  · unfold m_leftbehind
    rw [gdt (by simp [inB]; omega), hc, Option.bind_some, gdt (by simp [inI64]; omega), gdt (by simp [inI64]; omega), h3, Option.bind_some, Int.toNat_natCast, hp1, gdt (by simp [inI64]; omega), gdt (by simp [inI64]; omega), hf0, h7, Option.bind_some]
    rw [gdt (by simp [inI64, fl_len]; omega), show ((i : Int) + a).toNat = i + a by omega, hcut a (by omega) (by omega), Option.bind_some, clone_eq _ (by rw [hrl]; omega) (by rw [hrl]; omega), Option.bind_some, gdt (by simp [inI64]; omega), h15, Option.bind_some, gdt (by simp [inI64]; omega), decide_eq_true (by omega)]
  · unfold bhF
    have := rm_ok q (by omega)
    have h5 := rm_ok (q + 1) hq
    by_cases h1 : i ≤ q ∧ q < i + (a + b)
    · rw [if_pos h1]
      by_cases h2 : q + 1 < i + (a + b)
      · rw [if_pos (by omega)]; omega
      · rw [if_neg (by omega)]
        have := h5.2.2 (by omega)
        omega
    · rw [if_neg h1]
      by_cases h2 : i ≤ q + 1 ∧ q + 1 < i + (a + b)
      · rw [if_pos h2]
        have h6 := pw_get h.pw q (q + 1) (by omega) hq
        have h7 : rmB l e f0 (l.length - e) q = l.getD q 0 := by unfold rmB; rw [if_neg (by omega)]
        rw [show q + 1 = i by omega, hp1] at h6
        rw [h7]
        omega
      · rw [if_neg h2]
        exact rm_pw q hq
  · unfold bhF
    have := rm_ok q hq
    split <;> omega
end Go.Proofs.YtihcolehefloeaaDoor

/- Courses, plain: cables, the other way; crossing. -/
namespace Go.Proofs.YtihcolehefloeaaDoor
open Go.RowKit
def frL (l : List Int) (i : Nat) (f0 : Int) : Nat → Int
  | 0 => f0
  | m + 1 => (if frL l i f0 m < l.getD (i - 1 - m) 0 then frL l i f0 m else l.getD (i - 1 - m) 0) - 1
def plL (l : List Int) (i : Nat) (f0 : Int) (m : Nat) : Int := if frL l i f0 m < l.getD (i - 1 - m) 0 then frL l i f0 m else l.getD (i - 1 - m) 0
theorem frL_bounds {l : List Int} {i a b : Nat} {p : Int} (h : Cr l i a b p) : ∀ m, m ≤ i → frL l i (p - b - 1) m ≤ p - b - 1 - m ∧ ∀ q, l.getD (i - m) 0 = q → q - 1 - b ≤ frL l i (p - b - 1) m
  | 0, _ => by
    have := h.p.1
    refine ⟨by simp [frL], fun q hq => ?_⟩
    rw [Nat.sub_zero, this] at hq
    simp only [frL]
    omega
  | m + 1, hm => by
    obtain ⟨h1, h2⟩ := frL_bounds h m (by omega)
    have h3 := h2 _ rfl
    have h4 := pw_get h.pw (i - (m + 1)) (i - m) (by omega) (by have := h.len; have := h.ha; omega)
    refine ⟨?_, fun q hq => ?_⟩
    · unfold frL
      split <;> omega
    · unfold frL
      rw [show i - 1 - m = i - (m + 1) by omega, hq]
      rw [hq] at h4
      split <;> omega
theorem plL_bounds {l : List Int} {i a b : Nat} {p : Int} (h : Cr l i a b p) (m : Nat) (hm : m < i) : plL l i (p - b - 1) m ≤ p - b - 1 - m ∧ l.getD (i - 1 - m) 0 - b ≤ plL l i (p - b - 1) m ∧ plL l i (p - b - 1) m ≤ frL l i (p - b - 1) m := by
  obtain ⟨h1, h2⟩ := frL_bounds h m (by omega)
  have h3 := h2 _ rfl
  have h4 := pw_get h.pw (i - 1 - m) (i - m) (by omega) (by have := h.len; have := h.ha; omega)
  unfold plL
  split <;> omega
def rmL (l : List Int) (i : Nat) (f0 : Int) (m q : Nat) : Int := if i - m ≤ q ∧ q < i then plL l i f0 (i - 1 - q) else l.getD q 0
theorem leftinfront_ok {l : List Int} {i a b : Nat} {p : Int} (h : Cr l i a b p) : ∃ room across by_ behind, m_leftinfront l i a b = some ((room, (across, (by_, behind))), true) ∧ across.length ≤ 4 ∧ chkTo room = true ∧ room.length = l.length ∧ chkAll behind = true ∧ behind.length = l.length := by
  obtain ⟨hp1, hp2, hp3⟩ := h.p
  have hs := h.short
  have ha := h.ha
  have hb := h.hb
  have hab := h.hab
  have hln := h.len
  have hc : m_clone l = some l := clone_eq l (by omega) (by omega)
  have hq : l.getD (((i : Int) + a + b) - 1).toNat 0 = p + a + b - 1 := by
    have := h.run (a + b - 1) (by omega)
    rw [show (((i : Int) + a + b) - 1).toNat = i + (a + b - 1) by omega, this]
    omega
  have h3 : m_leftinfront_L3 l i a b FUEL 0 l = some l := loopT (fun n (s : Int × List Int) => m_leftinfront_L3 l i a b n s.1 s.2) (a + b) (fun k => ((k : Int), l)) (0, l) l rfl (fuel_of (by omega)) (fun n k hk => by
    show m_leftinfront_L3 l i a b (n + 1) k l = m_leftinfront_L3 l i a b n ((k + 1 : Nat) : Int) l
    have hr := h.run k hk
    rw [m_leftinfront_L3, cdt (decide_eq_true (by omega)), hq, gdt (by simp [inI64, inB]; omega), gdt (by simp [inI64]; omega), show ((i : Int) + k).toNat = i + k by omega, set_same (by omega) (by rw [hr]; omega)]
    rfl) (fun n => by
    show m_leftinfront_L3 l i a b (n + 1) ((a + b : Nat) : Int) l = _
    rw [m_leftinfront_L3, cdf (decide_eq_false (by omega))])
  obtain ⟨f0, hf0⟩ : ∃ f0, p - b - 1 = f0 := ⟨_, rfl⟩
  have hfr := frL_bounds h i (Nat.le_refl _)
  have hfr2 := hfr.2 _ rfl
  have hfirst := h.get 0 (by omega)
  rw [Nat.sub_self] at hfr2
  have hpl := fun m hm => plL_bounds h m hm
  have hfrb := fun m hm => frL_bounds h m hm
  rw [hf0] at hfr hfr2 hpl hfrb
  have h7 : m_leftinfront_L7 l FUEL ((i : Int) - 1) f0 l = some (frL l i f0 i, fl l.length (rmL l i f0 i)) :=
    loopT (fun n (s : Int × Int × List Int) => m_leftinfront_L7 l n s.1 s.2.1 s.2.2) i (fun m => ((i : Int) - 1 - (m : Int), frL l i f0 m, fl l.length (rmL l i f0 m))) (_, _, l) _
      (by
        have e1 : (i : Int) - 1 - ((0 : Nat) : Int) = (i : Int) - 1 := by omega
        have e2 : fl l.length (rmL l i f0 0) = l := by
          conv => rhs; rw [fl_of l]
          unfold fl
          refine List.map_congr_left fun q _ => ?_
          unfold rmL
          rw [if_neg (by omega)]
        rw [e1, e2]
        rfl) (fuel_of (by omega)) (fun n m hm => by
      show m_leftinfront_L7 l (n + 1) ((i : Int) - 1 - (m : Int)) (frL l i f0 m) (fl l.length (rmL l i f0 m)) = m_leftinfront_L7 l n ((i : Int) - 1 - ((m + 1 : Nat) : Int)) (frL l i f0 (m + 1)) (fl l.length (rmL l i f0 (m + 1)))
      obtain ⟨g1, g2, g3⟩ := hpl m hm
      have g4 := h.get (i - 1 - m) (by omega)
      have g5 := (hfrb m (by omega)).2 _ rfl
      have g6 := h.get (i - m) (by omega)
      have g7 := (hfrb m (by omega)).1
      have et : ((i : Int) - 1 - (m : Int)).toNat = i - 1 - m := by omega
      have hlb : m_lfk (l.getD (i - 1 - m) 0) (frL l i f0 m) = some (plL l i f0 m, frL l i f0 (m + 1)) := by
        unfold m_lfk
        rw [show (if frL l i f0 m < l.getD (i - 1 - m) 0 then frL l i f0 m else l.getD (i - 1 - m) 0) = plL l i f0 m from rfl, gdt (by simp [inI64]; omega)]
        rfl
      rw [m_leftinfront_L7, cdt (decide_eq_true (by omega)), et, gdt (by simp [inB]; omega), hlb, Option.bind_some, gdt (by simp [inB, fl_len]; omega), gdt (by simp [inI64]; omega)]
      rw [fl_set (g := rmL l i f0 (m + 1)) (by omega) (by unfold rmL; rw [if_pos (by omega), show i - 1 - (i - 1 - m) = m by omega]) (fun q hq => by
        unfold rmL
        by_cases hq2 : i - m ≤ q ∧ q < i
        · rw [if_pos hq2, if_pos (by omega)]
        · rw [if_neg hq2, if_neg (by omega)]), show (i : Int) - 1 - (m : Int) - 1 = (i : Int) - 1 - ((m + 1 : Nat) : Int) by omega]) (fun n => by
      show m_leftinfront_L7 l (n + 1) ((i : Int) - 1 - (i : Int)) _ _ = _
      rw [m_leftinfront_L7, cdf (decide_eq_false (by omega))])
  have rm_ok : ∀ q, q < l.length → 10 ≤ rmL l i f0 i q ∧ rmL l i f0 i q ≤ 28 ∧ (q < i → rmL l i f0 i q ≤ f0) := fun q hq => by
    unfold rmL
    split
    · rename_i hc
      have := hpl (i - 1 - q) (by omega)
      rw [show i - 1 - (i - 1 - q) = q by omega] at this
      have := h.get q hq
      omega
    · have := h.get q hq
      refine ⟨by omega, by omega, fun h => by omega⟩
  have rm_pw : ∀ q, q + 1 < l.length → rmL l i f0 i q < rmL l i f0 i (q + 1) := fun q hq => by
    unfold rmL
    by_cases h1 : q + 1 < i
    · rw [if_pos (by omega), if_pos (by omega)]
      have h2 := hpl (i - 1 - q) (by omega)
      rw [show i - 1 - q = (i - 1 - (q + 1)) + 1 by omega] at h2 ⊢
      have h4 : frL l i f0 (i - 1 - (q + 1) + 1) = plL l i f0 (i - 1 - (q + 1)) - 1 := rfl
      omega
    · rw [if_neg (show ¬ (i - i ≤ q + 1 ∧ q + 1 < i) by omega)]
      by_cases h2 : q < i
      · rw [if_pos (by omega)]
        have h3 := hpl (i - 1 - q) (by omega)
        rw [show q + 1 = i by omega, hp1]
        omega
      · rw [if_neg (by omega)]
        exact pw_get h.pw q (q + 1) (by omega) hq
  have hrl := fl_len l.length (rmL l i f0 i)
  have h15 : m_leftinfront_L15 l i a b FUEL 0 (fl l.length (rmL l i f0 i)) = some (fl l.length (bhF i (a + b) (p - b) (rmL l i f0 i))) :=
    loopT (fun n (s : Int × List Int) => m_leftinfront_L15 l i a b n s.1 s.2) (a + b) (fun k => ((k : Int), fl l.length (bhF i k (p - b) (rmL l i f0 i)))) (0, _) _ (by
      congr 1
      unfold fl
      refine List.map_congr_left fun q _ => ?_
      unfold bhF
      rw [if_neg (by omega)]) (fuel_of (by omega)) (fun n k hk => by
      show m_leftinfront_L15 l i a b (n + 1) k (fl l.length (bhF i k (p - b) _)) = m_leftinfront_L15 l i a b n ((k + 1 : Nat) : Int) (fl l.length (bhF i (k + 1) (p - b) _))
      rw [m_leftinfront_L15, cdt (decide_eq_true (by omega)), hq, gdt (by simp [inI64, inB, fl_len]; omega), gdt (by simp [inI64]; omega), show ((i : Int) + k).toNat = i + k by omega]
      rw [fl_set (g := bhF i (k + 1) (p - b) (rmL l i f0 i)) (by omega) (by unfold bhF; rw [if_pos (by omega)]; omega) (fun q hq => by
        unfold bhF
        by_cases hq2 : i ≤ q ∧ q < i + k
        · rw [if_pos hq2, if_pos (by omega)]
        · rw [if_neg hq2, if_neg (by omega)])]
      rfl) (fun n => by
      show m_leftinfront_L15 l i a b (n + 1) ((a + b : Nat) : Int) _ = _
      rw [m_leftinfront_L15, cdf (decide_eq_false (by omega))])
  refine ⟨fl l.length (rmL l i f0 i), ((fl l.length (rmL l i f0 i)).take (i + a + b)).drop (i + a), (0 : Int) - ((a : Int) + b), fl l.length (bhF i (a + b) (p - b) (rmL l i f0 i)), ?_, by simp [fl_len]; omega, pw_to (pw_le (fl_pw rm_pw)) (fl_mem fun q hq => by have := rm_ok q hq; omega), hrl, pw_all (fl_pw fun q hq => ?_) (fl_mem fun q hq => ?_), fl_len _ _⟩
  · unfold m_leftinfront
    rw [gdt (by simp [inI64, inB]; omega), hc, Option.bind_some, gdt (by simp [inI64]; omega), gdt (by simp [inI64]; omega), h3, Option.bind_some, hq, gdt (by simp [inI64]; omega), gdt (by simp [inI64]; omega), show p + a + b - 1 - a - 2 * (b : Int) = f0 by omega, h7, Option.bind_some]
    rw [gdt (by simp [inI64, fl_len]; omega), show ((i : Int) + a).toNat = i + a by omega, show ((i : Int) + a + b).toNat = i + a + b by omega, clone_eq _ (by simp [fl_len]; omega) (by simp [fl_len]; omega), Option.bind_some, clone_eq _ (by rw [hrl]; omega) (by rw [hrl]; omega), Option.bind_some, gdt (by simp [inI64]; omega), h15, Option.bind_some, gdt (by simp [inI64]; omega), decide_eq_true (by omega)]
  · unfold bhF
    have := rm_ok q (by omega)
    have h5 := rm_ok (q + 1) hq
    by_cases h1 : i ≤ q ∧ q < i + (a + b)
    · rw [if_pos h1]
      by_cases h2 : q + 1 < i + (a + b)
      · rw [if_pos (by omega)]; omega
      · rw [if_neg (by omega)]
        have h6 := pw_get h.pw q (q + 1) (by omega) hq
        have h8 := h.run (a + b - 1) (by omega)
        rw [show i + (a + b - 1) = q by omega] at h8
        have h7 : rmL l i f0 i (q + 1) = l.getD (q + 1) 0 := by unfold rmL; rw [if_neg (by omega)]
        omega
    · rw [if_neg h1]
      by_cases h2 : i ≤ q + 1 ∧ q + 1 < i + (a + b)
      · rw [if_pos h2]
        have := this.2.2 (by omega)
        omega
      · rw [if_neg h2]
        exact rm_pw q hq
  · unfold bhF
    have := rm_ok q hq
    split <;> omega
theorem xf_N (bed : Int) (hb : 0 ≤ bed) (l : List Int) : AllN (l.map fun k => ((7 : Int), (0 : Int), (bed, k), (0 : Int), (0 : Int))) := fun z hz => by
  obtain ⟨k, _, rfl⟩ := List.mem_map.1 hz
  exact ⟨by show (0 : Int) ≤ 7; omega, Int.le_refl 0, hb, Int.le_refl 0⟩
theorem rack_N (r : Int) : AllN [((3 : Int), (0 : Int), ((0 : Int), (0 : Int)), (0 : Int), r)] := fun z hz => by
  simp only [List.mem_singleton] at hz
  subst hz
  exact ⟨by show (0 : Int) ≤ 3; omega, Int.le_refl 0, Int.le_refl 0, Int.le_refl 0⟩
/-- A crossing has a plan. -/
theorem cross_ok {l : List Int} {i a b : Nat} {p : Int} (h : Cr l i a b p) (f : Bool) : ∃ ops, m_cross l i a b f = some (ops, 0) ∧ ops.length ≤ 900000 ∧ AllN ops := by
  have hs := h.short
  have hch := check_eq l (by omega)
  rw [h.all, if_pos rfl] at hch
  have hto : chkTo l = true := pw_to (pw_le h.pw) fun x hx => by have := h.mem x hx; omega
  have hln := h.len
  have hsz := cbsizes_eq a b h.ha h.hb h.hab
  cases f with
  | true =>
    obtain ⟨room, ac, by_, bh, e, h1, h2, h3, h4, h5⟩ := leftinfront_ok h
    have p1 := plan_len l room h.all h2 h3
    have p2 := plan_len bh l h4 hto h5.symm
    refine ⟨(((planOf l room ++ ac.map fun k => (7, 0, (0, k), 0, 0)) ++ [(3, 0, (0, 0), 0, by_)] ++ ac.map fun k => (7, 0, (1, k), 0, 0)) ++ [(3, 0, (0, 0), 0, 0)]) ++ planOf bh l, ?_, by simp only [List.length_append, List.length_map, List.length_singleton]; omega, ((((plan_N _ _).append (xf_N 0 (by omega) _)).append (rack_N _)).append (xf_N 1 (by omega) _)).append (rack_N _) |>.append (plan_N _ _)⟩
    unfold m_cross
    rw [hch, Option.bind_some, cdf (by simp), hsz, Option.bind_some, cdf (by simp), gdt (by simp [inI64]; omega), cdf (by simp; omega), cdt rfl, e, Option.bind_some, cdf (by simp)]
    rw [shift_eq l room h.all h2 h3, Option.bind_some, cdf (by simp), crossT_eq _ _ _ (by dsimp only; omega) (by dsimp only; omega), Option.bind_some, gdt (by simp [fitB]; omega), crossT_eq _ _ _ (by dsimp only; omega) (by simp; omega), Option.bind_some, gdt (by simp [fitB]; omega)]
    rw [shift_eq bh l h4 hto h5.symm, Option.bind_some, cdf (by simp), gdt (by simp [fitB]; omega)]
    rfl
  | false =>
    obtain ⟨room, ac, by_, bh, e, h1, h2, h3, h4, h5⟩ := leftbehind_ok h
    have p1 := plan_len l room h.all h2 h3
    have p2 := plan_len bh l h4 hto h5.symm
    refine ⟨(((planOf l room ++ ac.map fun k => (7, 0, (0, k), 0, 0)) ++ [(3, 0, (0, 0), 0, by_)] ++ ac.map fun k => (7, 0, (1, k), 0, 0)) ++ [(3, 0, (0, 0), 0, 0)]) ++ planOf bh l, ?_, by simp only [List.length_append, List.length_map, List.length_singleton]; omega, ((((plan_N _ _).append (xf_N 0 (by omega) _)).append (rack_N _)).append (xf_N 1 (by omega) _)).append (rack_N _) |>.append (plan_N _ _)⟩
    unfold m_cross
    rw [hch, Option.bind_some, cdf (by simp), hsz, Option.bind_some, cdf (by simp), gdt (by simp [inI64]; omega), cdf (by simp; omega), cdf rfl, e, Option.bind_some, cdf (by simp)]
    rw [shift_eq l room h.all h2 h3, Option.bind_some, cdf (by simp), crossT_eq _ _ _ (by dsimp only; omega) (by dsimp only; omega), Option.bind_some, gdt (by simp [fitB]; omega), crossT_eq _ _ _ (by dsimp only; omega) (by simp; omega), Option.bind_some, gdt (by simp [fitB]; omega)]
    rw [shift_eq bh l h4 hto h5.symm, Option.bind_some, cdf (by simp), gdt (by simp [fitB]; omega)]
    rfl
end Go.Proofs.YtihcolehefloeaaDoor

/- Courses, plain: layouts; preparing a row. -/
namespace Go.Proofs.YtihcolehefloeaaDoor
open Go.RowKit
abbrev LoT := List (Int × Int) × Int × Int × Int × Int × Int × Int
def sides (x : LoT) : List Int := [x.2.1, x.2.2.1, x.2.2.2.1, x.2.2.2.2.1, x.2.2.2.2.2.1, x.2.2.2.2.2.2]
def ndOk (l : List (Int × Int)) (i : Nat) : Bool := decide ((l.getD i (0, 0)).1 ≤ 1) && (decide (13 ≤ (l.getD i (0, 0)).2) && (decide ((l.getD i (0, 0)).2 ≤ 28) && (decide (i = 0) || decide ((l.getD (i - 1) (0, 0)).2 < (l.getD i (0, 0)).2))))
def ndsOk (l : List (Int × Int)) : Bool := (List.range l.length).all (ndOk l)
def sdOk (x : LoT) (i : Nat) : Bool := decide ((sides x).getD i 0 ≤ 2)
def sdsOk (x : LoT) : Bool := (List.range 6).all (sdOk x)
def loErr (x : LoT) : Int := if x.1.length < 1 ∨ 16 < x.1.length then 1 else if ndsOk x.1 then (if sdsOk x then 0 else 1) else 1
theorem nd_step (x : LoT) : ∀ n k, k < x.1.length → x.1.length ≤ 1000 → ndOk x.1 k = true → m_cocheck_L2 x (n + 1) k = m_cocheck_L2 x n (k + 1) := fun n k hk hl h => by
  simp only [ndOk, Bool.and_eq_true, Bool.or_eq_true, decide_eq_true_eq] at h
  obtain ⟨h1, h2, h3, h4⟩ := h
  have e : gNd.zero = ((0, 0) : Int × Int) := rfl
  rw [m_cocheck_L2, cdt (decide_eq_true (by omega)), Int.toNat_natCast, e, gdt (by simp [inB]; omega), show ((k : Int) - 1).toNat = k - 1 by omega]
  rw [decide_eq_false (show ¬ 1 < (x.1.getD k (0, 0)).1 by omega), decide_eq_false (show ¬ (x.1.getD k (0, 0)).2 < 13 by omega), decide_eq_false (show ¬ 29 ≤ (x.1.getD k (0, 0)).2 by omega)]
  by_cases h0 : k = 0
  · subst h0
    rw [gdt (by simp), cdf (by simp), gdt (by simp [inI64])]
  · have h5 : (x.1.getD (k - 1) (0, 0)).2 < (x.1.getD k (0, 0)).2 := h4.resolve_left h0
    rw [gdt (by simp [inI64, inB]; omega), decide_eq_false (show ¬ (x.1.getD k (0, 0)).2 ≤ (x.1.getD (k - 1) (0, 0)).2 by omega), cdf (by simp), gdt (by simp [inI64]; omega)]
theorem nd_stop (x : LoT) : ∀ n k, k < x.1.length → x.1.length ≤ 1000 → ndOk x.1 k = false → m_cocheck_L2 x (n + 1) k = some (.inr 1) := fun n k hk hl h => by
  have e : gNd.zero = ((0, 0) : Int × Int) := rfl
  rw [m_cocheck_L2, cdt (decide_eq_true (by omega)), Int.toNat_natCast, e, gdt (by simp [inB]; omega), show ((k : Int) - 1).toNat = k - 1 by omega]
  by_cases h1 : (x.1.getD k (0, 0)).1 ≤ 1 ∧ 13 ≤ (x.1.getD k (0, 0)).2 ∧ (x.1.getD k (0, 0)).2 ≤ 28
  · rw [decide_eq_false (show ¬ 1 < (x.1.getD k (0, 0)).1 by omega), decide_eq_false (show ¬ (x.1.getD k (0, 0)).2 < 13 by omega), decide_eq_false (show ¬ 29 ≤ (x.1.getD k (0, 0)).2 by omega)]
    simp only [ndOk, Bool.and_eq_false_iff, Bool.or_eq_false_iff, decide_eq_false_iff_not] at h
    have h0 : k ≠ 0 ∧ ¬ (x.1.getD (k - 1) (0, 0)).2 < (x.1.getD k (0, 0)).2 := by
      rcases h with h | h | h | h
      · omega
      · omega
      · omega
      · exact h
    rw [gdt (by simp [inI64, inB]; omega), decide_eq_true (show (x.1.getD k (0, 0)).2 ≤ (x.1.getD (k - 1) (0, 0)).2 by omega), decide_eq_true (show (0 : Int) < k by omega), cdt (by simp)]
  · have e2 : (cond (cond (decide ((1 : Int) < (x.1.getD k (0, 0)).1)) true (decide ((x.1.getD k (0, 0)).2 < (13 : Int)))) true (decide ((29 : Int) ≤ (x.1.getD k (0, 0)).2))) = true := by
      simp only [Bool.cond_true_left, Bool.or_eq_true, decide_eq_true_eq]
      omega
    rw [e2, gdt (by simp), cdt (by simp)]
theorem cocheck_eq (x : LoT) : m_cocheck x = some (loErr x) := by
  unfold m_cocheck loErr
  by_cases h1 : x.1.length < 1 ∨ 16 < x.1.length
  · rw [if_pos h1, cdt (by simp only [Bool.cond_true_left, Bool.or_eq_true, decide_eq_true_eq]; omega)]
  · rw [if_neg h1, cdf (by simp only [Bool.cond_true_left, Bool.or_eq_false_iff, decide_eq_false_iff_not]; omega)]
    by_cases h : ∀ k, k < x.1.length → ndOk x.1 k = true
    · have e : ndsOk x.1 = true := by rw [ndsOk, List.all_eq_true]; intro i hi; exact h i (by simpa using hi)
      have := loop0 (fun n i (s : Unit) => m_cocheck_L2 x n i) x.1.length (fun _ => ()) (.inl ()) (fuel_of (by omega)) (fun n k hk => nd_step x n k hk (by omega) (h k hk)) (fun n => by
        show m_cocheck_L2 x (n + 1) x.1.length = some (.inl ())
        rw [m_cocheck_L2, cdf (by simp)])
      rw [this, e, if_pos rfl, Option.bind_some]
      dsimp only [sm]
      have step : ∀ n k, k < 6 → sdOk x k = true → m_cocheck_L7 x (n + 1) k = m_cocheck_L7 x n (k + 1) := fun n k hk h => by
        have h2 : (sides x).getD k 0 ≤ 2 := of_decide_eq_true h
        rw [m_cocheck_L7, cdt (decide_eq_true (by omega)), gdt (by simp [inB]; omega), Int.toNat_natCast, cdf (decide_eq_false (by show ¬ 2 < (sides x).getD k 0; omega)), gdt (by simp [inI64]; omega)]
      by_cases h6 : ∀ k, k < 6 → sdOk x k = true
      · have e6 : sdsOk x = true := by rw [sdsOk, List.all_eq_true]; intro i hi; exact h6 i (by simpa using hi)
        have := loop0 (fun n i (s : Unit) => m_cocheck_L7 x n i) 6 (fun _ => ()) (.inl ()) (fuel_of (by omega)) (fun n k hk => step n k hk (h6 k hk)) (fun n => by
          show m_cocheck_L7 x (n + 1) ((6 : Nat) : Int) = some (.inl ())
          rw [m_cocheck_L7, cdf (by simp)])
        rw [this, e6]; rfl
      · obtain ⟨j, hj, hb, hg⟩ := first_bad (sdOk x) _ h6
        have e6 : sdsOk x = false := by
          rw [sdsOk, List.all_eq_false]
          exact ⟨j, by simpa using hj, by simp [hb]⟩
        have hb2 : ¬ (sides x).getD j 0 ≤ 2 := of_decide_eq_false hb
        have := loop0 (fun n i (s : Unit) => m_cocheck_L7 x n i) j (fun _ => ()) (.inr 1) (fuel_of (by omega)) (fun n k hk => step n k (by omega) (hg k hk)) (fun n => by
          show m_cocheck_L7 x (n + 1) j = some (.inr 1)
          rw [m_cocheck_L7, cdt (decide_eq_true (by omega)), gdt (by simp [inB]; omega), Int.toNat_natCast, cdt (decide_eq_true (by show 2 < (sides x).getD j 0; omega))])
        rw [this, e6]; rfl
    · obtain ⟨j, hj, hb, hg⟩ := first_bad (ndOk x.1) _ h
      have e : ndsOk x.1 = false := by
        rw [ndsOk, List.all_eq_false]
        exact ⟨j, by simpa using hj, by simp [hb]⟩
      have := loop0 (fun n i (s : Unit) => m_cocheck_L2 x n i) j (fun _ => ()) (.inr 1) (fuel_of (by omega)) (fun n k hk => nd_step x n k (by omega) (by omega) (hg k hk)) (fun n => nd_stop x n j hj (by omega) hb)
      rw [this, e]; rfl
/-- The places of the slots. -/
def fromL (x : LoT) : List Int := x.1.map (·.2)
theorem nds_get {l : List (Int × Int)} (h : ndsOk l = true) (i : Nat) (hi : i < l.length) : ndOk l i = true := List.all_eq_true.1 h i (by simpa using hi)
theorem fromL_get (x : LoT) (i : Nat) (hi : i < x.1.length) : (fromL x).getD i 0 = (x.1.getD i (0, 0)).2 := by
  rw [List.getD_eq_getElem?_getD, List.getD_eq_getElem?_getD, fromL, List.getElem?_map, List.getElem?_eq_getElem hi]
  rfl
theorem from_all {x : LoT} (h : ndsOk x.1 = true) : chkAll (fromL x) = true := by
  rw [chkAll, List.all_eq_true]
  intro i hi
  have hi2 : i < x.1.length := by simpa [fromL] using hi
  have h1 := nds_get h i hi2
  simp only [ndOk, Bool.and_eq_true, Bool.or_eq_true, decide_eq_true_eq] at h1
  simp only [okAt, Bool.and_eq_true, Bool.or_eq_true, decide_eq_true_eq, Int.toNat_natCast]
  rw [fromL_get x i hi2, show ((i : Int) - 1).toNat = i - 1 by omega, fromL_get x (i - 1) (by omega)]
  omega
def backN (n : Int × Int) : List OpT := if n.1 = 1 then [(7, 0, n, 0, 0)] else []
/-- The slots of the back bed come to the front bed. -/
def frontP (l : List (Int × Int)) : List OpT := l.flatMap backN
theorem front_eq (l : List (Int × Int)) (hl : l.length ≤ 1000) (h : ndsOk l = true) : m_front l = some (frontP l, 0) := by
  have e : gNd.zero = ((0, 0) : Int × Int) := rfl
  unfold m_front
  have h2 := loop0 (fun n i (s : Unit) => m_front_L2 l n i) l.length (fun _ => ()) (.inl ()) (fuel_of (by omega)) (fun n k hk => by
    show m_front_L2 l (n + 1) k = m_front_L2 l n (k + 1)
    have h1 := nds_get h k hk
    simp only [ndOk, Bool.and_eq_true, Bool.or_eq_true, decide_eq_true_eq] at h1
    obtain ⟨h1, h2, h3, h4⟩ := h1
    rw [m_front_L2, cdt (decide_eq_true (by omega)), Int.toNat_natCast, e, gdt (by simp [inB]; omega), show ((k : Int) - 1).toNat = k - 1 by omega]
    rw [decide_eq_false (show ¬ 1 < (l.getD k (0, 0)).1 by omega), decide_eq_false (show ¬ (l.getD k (0, 0)).2 < 1 by omega), decide_eq_false (show ¬ 40 < (l.getD k (0, 0)).2 by omega)]
    by_cases h0 : k = 0
    · subst h0
      rw [gdt (by simp), cdf (by simp), gdt (by simp [inI64])]
    · have h5 : (l.getD (k - 1) (0, 0)).2 < (l.getD k (0, 0)).2 := h4.resolve_left h0
      rw [gdt (by simp [inI64, inB]; omega), decide_eq_false (show ¬ (l.getD k (0, 0)).2 ≤ (l.getD (k - 1) (0, 0)).2 by omega), cdf (by simp), gdt (by simp [inI64]; omega)]) (fun n => by
    show m_front_L2 l (n + 1) l.length = some (.inl ())
    rw [m_front_L2, cdf (by simp)])
  have hfl : ∀ k, (frontP (l.take k)).length ≤ k := fun k => by
    induction k with
    | zero => simp [frontP]
    | succ k ih =>
      by_cases hk : k < l.length
      · rw [take_d l (0, 0) k hk, frontP, List.flatMap_append, List.length_append]
        have : (List.flatMap backN [l.getD k (0, 0)]).length ≤ 1 := by
          simp only [List.flatMap_cons, List.flatMap_nil, List.append_nil, backN]
          split <;> simp
        have h3 : (List.flatMap backN (l.take k)).length ≤ k := ih
        omega
      · have : l.take (k + 1) = l.take k := by rw [List.take_of_length_le (by omega), List.take_of_length_le (by omega)]
        rw [this]
        omega
  have h9 := loopT (fun n (s : Int × List OpT) => m_front_L9 l n s.1 s.2) l.length (fun k => ((k : Int), frontP (l.take k))) (0, []) (frontP l) (by simp [frontP]) (fuel_of (by omega)) (fun n k hk => by
    show m_front_L9 l (n + 1) k (frontP (l.take k)) = m_front_L9 l n ((k + 1 : Nat) : Int) (frontP (l.take (k + 1)))
    have := hfl k
    rw [m_front_L9, cdt (decide_eq_true (by omega)), Int.toNat_natCast, e, gdt (by simp [inB]; omega), take_d l (0, 0) k hk, frontP, frontP, List.flatMap_append]
    by_cases hb : (l.getD k (0, 0)).1 = 1
    · rw [cdt (decide_eq_true hb)]
      have hx : m_xput 0 (List.flatMap backN (l.take k)) [(7, 0, l.getD k (0, 0), 0, 0)] = some (List.flatMap backN (l.take k) ++ [(7, 0, l.getD k (0, 0), 0, 0)]) := by
        unfold m_xput
        rw [gdt (by simp only [fitB, List.length_singleton, Bool.and_eq_true, decide_eq_true_eq]; have h3 : (List.flatMap backN (l.take k)).length ≤ k := this; omega)]
      rw [hx, Option.bind_some, gdt (by simp [inI64]; omega)]
      simp only [List.flatMap_cons, List.flatMap_nil, List.append_nil, backN, if_pos hb]
      rfl
    · rw [cdf (decide_eq_false hb), gdt (by simp [inI64]; omega)]
      simp only [List.flatMap_cons, List.flatMap_nil, List.append_nil, backN, if_neg hb]
      rfl) (fun n => by
    show m_front_L9 l (n + 1) l.length _ = _
    rw [m_front_L9, cdf (by simp), List.take_length])
  rw [h2, Option.bind_some]
  dsimp only [sm]
  dsimp only at h9
  rw [h9]
  rfl
theorem front_len (l : List (Int × Int)) : (frontP l).length ≤ l.length := by
  induction l with
  | nil => simp [frontP]
  | cons n l ih =>
    have h1 : (backN n).length ≤ 1 := by unfold backN; split <;> simp
    have h2 : (List.flatMap backN l).length ≤ l.length := ih
    simp only [frontP, List.flatMap_cons, List.length_append, List.length_cons]
    omega
theorem prep7 (x : LoT) (hl : x.1.length ≤ 1000) : m_prepare_L7 x FUEL 0 (List.replicate (x.1.length : Int).toNat 0) = some (fromL x) :=
  loopT (fun n (s : Int × List Int) => m_prepare_L7 x n s.1 s.2) x.1.length (fun k => ((k : Int), fl x.1.length (fun i => if i < k then (x.1.getD i (0, 0)).2 else 0))) (0, _) (fromL x)
    (by
      congr 1
      rw [Int.toNat_natCast]
      refine List.ext_getElem? fun k => ?_
      by_cases h : k < x.1.length <;> simp [fl, List.getElem?_replicate, h]) (fuel_of (by omega)) (fun n k hk => by
    show m_prepare_L7 x (n + 1) k (fl x.1.length _) = m_prepare_L7 x n ((k + 1 : Nat) : Int) (fl x.1.length (fun i => if i < k + 1 then (x.1.getD i (0, 0)).2 else 0))
    have e : gNd.zero = ((0, 0) : Int × Int) := rfl
    rw [m_prepare_L7, cdt (decide_eq_true (by omega)), Int.toNat_natCast, e, gdt (by simp [inB]; omega), gdt (by simp [inB, fl_len]; omega), gdt (by simp [inI64]; omega)]
    rw [fl_set (g := fun i => if i < k + 1 then (x.1.getD i (0, 0)).2 else 0) hk (by simp) (fun i hi => by
      by_cases h1 : i < k
      · simp only [if_pos h1, if_pos (show i < k + 1 by omega)]
      · simp only [if_neg h1, if_neg (show ¬ i < k + 1 by omega)])]
    rfl) (fun n => by
    show m_prepare_L7 x (n + 1) x.1.length _ = _
    rw [m_prepare_L7, cdf (by simp)]
    congr 1
    refine List.ext_getElem? fun i => ?_
    by_cases h : i < x.1.length
    · simp [fl, fromL, h]
    · simp [fl, fromL, h])
end Go.Proofs.YtihcolehefloeaaDoor

/- Courses, plain: preparing a row, as a whole. -/
namespace Go.Proofs.YtihcolehefloeaaDoor
open Go.RowKit
/-- The plan that crosses the slots of the stitch k. -/
def cableAt (l : List StT) (k : Nat) : List OpT := if (l.getD k zS).1 = 8 then ((m_cross (heldTo l l.length) (heldTo l k).length (l.getD k zS).2.2.1 (l.getD k zS).2.2.2.1 (l.getD k zS).2.2.2.2).getD ([], 0)).1 else []
def cableTo (l : List StT) : Nat → List OpT
  | 0 => []
  | k + 1 => cableTo l k ++ cableAt l k
def purlAt (l : List StT) (k : Nat) : List OpT := if bedOf (l.getD k zS) = 1 then [(7, 0, (0, nx l k), 0, 0)] else []
def purlTo (l : List StT) : Nat → List OpT
  | 0 => []
  | k + 1 => purlTo l k ++ purlAt l k
def madeL (l : List StT) : List (List (Int × Int)) := (List.range l.length).map (madeAt l)
theorem madeL_get (l : List StT) (k : Nat) (hk : k < l.length) : (madeL l).getD k [] = madeAt l k := by
  rw [List.getD_eq_getElem?_getD, madeL, List.getElem?_map, List.getElem?_range hk]
  rfl
theorem madeL_len (l : List StT) : (madeL l).length = l.length := by simp [madeL]
theorem madeAt_get (l : List StT) (k j : Nat) (hj : (j : Int) < make (l.getD k zS)) : (madeAt l k).getD j (0, 0) = (bedOf (l.getD k zS), nx l k + j) := by
  rw [List.getD_eq_getElem?_getD, madeAt, List.getElem?_map, List.getElem?_range (by omega)]
  rfl
theorem madeAt_len (l : List StT) (k : Nat) : (madeAt l k).length = (make (l.getD k zS)).toNat := by simp [madeAt]
/-- A row that is accepted. -/
structure Row (l : List StT) : Prop where
  len : 1 ≤ l.length ∧ l.length ≤ 16
  all : l.all stOk = true
  needs : 1 ≤ sumTo need l l.length ∧ sumTo need l l.length ≤ 16
  makes : 1 ≤ sumTo make l l.length ∧ sumTo make l l.length ≤ 16
theorem row_of {l : List StT} (h : rowErr l = 0) : Row l := by
  unfold rowErr at h
  split at h
  · cases h
  · split at h
    · cases h
    · split at h
      · split at h
        · rename_i h1 h2 h3 h4
          exact ⟨by omega, h3, by omega, by omega⟩
        · cases h
      · cases h
theorem row_zero {l : List StT} (h : Row l) : rowErr l = 0 := by
  have h1 := h.len
  unfold rowErr
  rw [if_neg (by omega), if_neg (by omega), if_pos h.all, if_pos ⟨h.needs.1, h.needs.2, h.makes.1, h.makes.2⟩]
theorem Row.nx_le {l : List StT} (h : Row l) (k : Nat) (hk : k ≤ l.length) : 13 ≤ nx l k ∧ nx l k ≤ 29 := by
  have h1 := sumTo_mono make make_le l k l.length hk (Nat.le_refl _)
  have h2 := sumTo_le make make_le l k hk
  have := h.makes
  unfold nx
  omega
theorem cable_need {s : StT} (h : stOk s = true) (h8 : s.1 = 8) : need s = s.2.2.1 + s.2.2.2.1 ∧ make s = s.2.2.1 + s.2.2.2.1 := by
  unfold need make
  rw [if_pos h, if_pos h, if_pos h8, if_neg (by omega), if_neg (by omega)]
  exact ⟨rfl, rfl⟩
theorem row_cross {l : List StT} (h : Row l) {k : Nat} (hk : k < l.length) (h8 : (l.getD k zS).1 = 8) : m_cross (heldTo l l.length) (heldTo l k).length (l.getD k zS).2.2.1 (l.getD k zS).2.2.2.1 (l.getD k zS).2.2.2.2 = some (cableAt l k, 0) ∧ (cableAt l k).length ≤ 900000 ∧ AllN (cableAt l k) := by
  have hok := all_get h.all k hk
  obtain ⟨_, _, _, _, hc⟩ := stOk_facts hok
  obtain ⟨c1, c2, c3⟩ := hc h8
  obtain ⟨n1, n2⟩ := cable_need hok h8
  obtain ⟨a, ha⟩ : ∃ a : Nat, (l.getD k zS).2.2.1 = (a : Int) := ⟨_, (Int.toNat_of_nonneg (by omega)).symm⟩
  obtain ⟨b, hb⟩ : ∃ b : Nat, (l.getD k zS).2.2.2.1 = (b : Int) := ⟨_, (Int.toNat_of_nonneg (by omega)).symm⟩
  have hget := fun j hj => held_get l (m := l.length) hk (by omega) j hj
  have hcr : Cr (heldTo l l.length) (heldTo l k).length a b (nx l k) := ⟨heldTo_pw _ (Nat.le_refl _), fun x hx => by
    have h1 := heldTo_mem _ (Nat.le_refl _) x hx
    have h2 := h.nx_le l.length (Nat.le_refl _)
    omega, by
    have := (hget (a + b - 1) (by omega)).2
    omega, fun j hj => (hget j (by omega)).1, by omega, by omega, by omega⟩
  obtain ⟨ops, e, h1, h2⟩ := cross_ok hcr (l.getD k zS).2.2.2.2
  have e2 : cableAt l k = ops := by
    unfold cableAt
    rw [if_pos h8, ha, hb, e]
    rfl
  rw [e2, ha, hb]
  exact ⟨e, h1, h2⟩
theorem cableAt_ok {l : List StT} (h : Row l) {k : Nat} (hk : k < l.length) : (cableAt l k).length ≤ 900000 ∧ AllN (cableAt l k) := by
  by_cases h8 : (l.getD k zS).1 = 8
  · exact (row_cross h hk h8).2
  · unfold cableAt
    rw [if_neg h8]
    exact ⟨by simp, fun z hz => by cases hz⟩
theorem cableTo_ok {l : List StT} (h : Row l) : ∀ k, k ≤ l.length → (cableTo l k).length ≤ 900000 * k ∧ AllN (cableTo l k)
  | 0, _ => ⟨by simp [cableTo], fun z hz => by cases hz⟩
  | k + 1, hk => by
    have h1 := cableTo_ok h k (by omega)
    have h2 := cableAt_ok h (show k < l.length by omega)
    rw [cableTo, List.length_append]
    exact ⟨by omega, h1.2.append h2.2⟩
theorem purlAt_ok (l : List StT) (k : Nat) : (purlAt l k).length ≤ 1 ∧ AllN (purlAt l k) := by
  unfold purlAt
  split
  · exact ⟨by simp, fun z hz => by
      simp only [List.mem_singleton] at hz
      subst hz
      exact ⟨by show (0 : Int) ≤ 7; omega, Int.le_refl 0, Int.le_refl 0, Int.le_refl 0⟩⟩
  · exact ⟨by simp, fun z hz => by cases hz⟩
theorem purlTo_ok (l : List StT) : ∀ k, (purlTo l k).length ≤ k ∧ AllN (purlTo l k)
  | 0 => ⟨by simp [purlTo], fun z hz => by cases hz⟩
  | k + 1 => by
    have h1 := purlTo_ok l k
    have h2 := purlAt_ok l k
    rw [purlTo, List.length_append]
    exact ⟨by omega, h1.2.append h2.2⟩
theorem prep16 {l : List StT} (h : Row l) (c : Nat) (to : List Int) (o0 : List OpT) (ho : o0.length ≤ 1000000) : m_prepare_L16 l (madeL l, c, to) (heldTo l l.length) FUEL 0 o0 = some (.inl (o0 ++ cableTo l l.length)) :=
  loopT (fun n (s : Int × List OpT) => m_prepare_L16 l (madeL l, c, to) (heldTo l l.length) n s.1 s.2) l.length (fun k => ((k : Int), o0 ++ cableTo l k)) (0, o0) _ (by simp [cableTo]) (fuel_of (by have := h.len; omega)) (fun n k hk => by
    show m_prepare_L16 l (madeL l, c, to) (heldTo l l.length) (n + 1) k (o0 ++ cableTo l k) = m_prepare_L16 l (madeL l, c, to) (heldTo l l.length) n ((k + 1 : Nat) : Int) (o0 ++ cableTo l (k + 1))
    have hl := h.len
    have hc := (cableTo_ok h k (by omega)).1
    have hc2 := (cableAt_ok h hk).1
    have hok := all_get h.all k hk
    have hhl : (heldTo l l.length).length ≤ 1000 := by
      have := chk_len (heldTo l l.length) (pw_all (heldTo_pw _ (Nat.le_refl _)) fun x hx => by
        have h1 := heldTo_mem _ (Nat.le_refl _) x hx
        have h2 := h.nx_le l.length (Nat.le_refl _)
        omega)
      omega
    rw [m_prepare_L16, cdt (decide_eq_true (by omega)), gdt (by simp [inB]; omega), Int.toNat_natCast, cableTo]
    by_cases h8 : (l.getD k zS).1 = 8
    · obtain ⟨e, _, _⟩ := row_cross h hk h8
      obtain ⟨_, _, _, _, hcb⟩ := stOk_facts hok
      obtain ⟨n1, n2⟩ := cable_need hok h8
      have hcb' := hcb h8
      have hg := held_get l (m := l.length) hk (by omega) 0 (by omega)
      have e0 : (madeAt l k).getD (0 : Int).toNat gNd.zero = (bedOf (l.getD k zS), nx l k + ((0 : Nat) : Int)) := madeAt_get l k 0 (by omega)
      rw [cdf (by rw [decide_eq_true h8]; rfl), gdt (by
        rw [madeL_get l k hk]
        simp only [inB, madeL_len, madeAt_len, Bool.and_eq_true, decide_eq_true_eq]
        omega)]
      rw [show (madeL l, c, to).1.getD k [] = madeAt l k from madeL_get l k hk, e0]
      dsimp only
      rw [← hg.1, index_eq _ _ hg.2 hhl (heldTo_pw _ (Nat.le_refl _)), Option.bind_some, Nat.add_zero, e, Option.bind_some, cdf (by simp), gdt (by simp only [fitB, List.length_append, Bool.and_eq_true, decide_eq_true_eq]; omega), gdt (by simp [inI64]; omega)]
      rw [List.append_assoc]
      rfl
    · have e : cableAt l k = [] := by unfold cableAt; rw [if_neg h8]
      rw [cdt (by rw [decide_eq_false h8]; rfl), gdt (by simp [inI64]; omega), e, List.append_nil]
      rfl) (fun n => by
    show m_prepare_L16 l (madeL l, c, to) (heldTo l l.length) (n + 1) l.length _ = _
    rw [m_prepare_L16, cdf (by simp)])
theorem prep25 {l : List StT} (h : Row l) (c : Nat) (to : List Int) (o0 : List OpT) (ho : o0.length ≤ 20000000) : m_prepare_L25 l (madeL l, c, to) FUEL 0 o0 = some (o0 ++ purlTo l l.length) :=
  loopT (fun n (s : Int × List OpT) => m_prepare_L25 l (madeL l, c, to) n s.1 s.2) l.length (fun k => ((k : Int), o0 ++ purlTo l k)) (0, o0) _ (by simp [purlTo]) (fuel_of (by have := h.len; omega)) (fun n k hk => by
    show m_prepare_L25 l (madeL l, c, to) (n + 1) k (o0 ++ purlTo l k) = m_prepare_L25 l (madeL l, c, to) n ((k + 1 : Nat) : Int) (o0 ++ purlTo l (k + 1))
    have hl := h.len
    have hc := (purlTo_ok l k).1
    have hok := all_get h.all k hk
    have hm := make_pos hok
    have e0 : (madeAt l k).getD (0 : Int).toNat gNd.zero = (bedOf (l.getD k zS), nx l k + ((0 : Nat) : Int)) := madeAt_get l k 0 (by omega)
    rw [m_prepare_L25, cdt (decide_eq_true (by omega)), gdt (by simp [inB]; omega), Int.toNat_natCast, stbed_eq, Option.bind_some, purlTo, purlAt]
    by_cases hb : bedOf (l.getD k zS) = 1
    · rw [cdt (decide_eq_true hb), if_pos hb, show (madeL l, c, to).1.getD k [] = madeAt l k from madeL_get l k hk, e0]
      rw [gdt (by
        simp only [inB, madeL_len, madeAt_len, fitB, List.length_append, List.length_singleton, Bool.and_eq_true, decide_eq_true_eq]
        omega), gdt (by simp [inI64]; omega)]
      rw [List.append_assoc]
      simp
    · rw [cdf (decide_eq_false hb), if_neg hb, gdt (by simp [inI64]; omega), List.append_nil]
      rfl) (fun n => by
    show m_prepare_L25 l (madeL l, c, to) (n + 1) l.length _ = _
    rw [m_prepare_L25, cdf (by simp)])
/-- The program that prepares a row. -/
def prepOps (x : LoT) (l : List StT) : List OpT := (frontP x.1 ++ planOf (fromL x) (toTo l l.length)) ++ cableTo l l.length ++ purlTo l l.length
structure Lo (x : LoT) : Prop where
  len : 1 ≤ x.1.length ∧ x.1.length ≤ 16
  nds : ndsOk x.1 = true
  sds : sdsOk x = true
theorem lo_of {x : LoT} (h : loErr x = 0) : Lo x := by
  unfold loErr at h
  split at h
  · cases h
  · split at h
    · split at h
      · rename_i h1 h2 h3
        exact ⟨by omega, h2, h3⟩
      · cases h
    · cases h
theorem lo_zero {x : LoT} (h : Lo x) : loErr x = 0 := by
  have h1 := h.len
  unfold loErr
  rw [if_neg (by omega), if_pos h.nds, if_pos h.sds]
theorem toTo_need {l : List StT} : ∀ k, k ≤ l.length → ((toTo l k).length : Int) = sumTo need l k
  | 0, _ => by simp [toTo, sumTo]
  | k + 1, hk => by
    have := toTo_need (l := l) k (by omega)
    have := need_le (l.getD k zS)
    rw [toTo, List.length_append, sumTo_succ need l k (by omega)]
    simp only [toAt1, List.length_map, List.length_range]
    omega
theorem to_ok {l : List StT} (h : Row l) : chkTo (toTo l l.length) = true := pw_to (toTo_pw h.all _ (Nat.le_refl _)) fun x hx => by
  have h1 := toTo_mem h.all _ (Nat.le_refl _) x hx
  have h2 := h.nx_le l.length (Nat.le_refl _)
  omega
theorem from_len (x : LoT) : (fromL x).length = x.1.length := by simp [fromL]
theorem plan_ok {x : LoT} {l : List StT} (hx : Lo x) (h : Row l) (hn : sumTo need l l.length = x.1.length) : (planOf (fromL x) (toTo l l.length)).length ≤ 400000 :=
  plan_len _ _ (from_all hx.nds) (to_ok h) (by have := toTo_need (l := l) _ (Nat.le_refl _); rw [from_len]; omega)
theorem prep_len {x : LoT} {l : List StT} (hx : Lo x) (h : Row l) (hn : sumTo need l l.length = x.1.length) : (prepOps x l).length ≤ 15000000 := by
  have h1 := plan_ok hx h hn
  have h2 := (cableTo_ok h _ (Nat.le_refl _)).1
  have h3 := (purlTo_ok l l.length).1
  have h4 := front_len x.1
  have h5 := h.len
  have h6 := hx.len
  simp only [prepOps, List.length_append]
  omega
theorem prepare_ok {x : LoT} {l : List StT} (hx : Lo x) (h : Row l) (hn : sumTo need l l.length = x.1.length) : m_prepare x l = some (prepOps x l, madeL l, l.length, 0) := by
  have h1 := plan_ok hx h hn
  have h2 := (cableTo_ok h _ (Nat.le_refl _)).1
  have h4 := front_len x.1
  have h5 := h.len
  have h6 := hx.len
  have hlen : (toTo l l.length).length = (fromL x).length := by have := toTo_need (l := l) _ (Nat.le_refl _); rw [from_len]; omega
  unfold m_prepare
  rw [cocheck_eq, lo_zero hx, Option.bind_some, cdf (by simp), chrow_eq, row_zero h, Option.bind_some, cdf (by simp), chneeds_eq l (by omega), Option.bind_some, cdf (by rw [decide_eq_true hn]; rfl)]
  rw [goals_eq l h5.2, Option.bind_some, front_eq x.1 (by omega) hx.nds, Option.bind_some, cdf (by simp), gdt (by simp; omega), prep7 x (by omega), Option.bind_some]
  show Option.bind (m_shift (fromL x) (toTo l l.length)) _ = _
  rw [shift_eq _ _ (from_all hx.nds) (to_ok h) hlen, Option.bind_some, cdf (by simp), gdt (by simp only [fitB, Bool.and_eq_true, decide_eq_true_eq]; omega)]
  show Option.bind (some (Lib.compact (toTo l l.length))) _ = _
  rw [Option.bind_some, compact_to h.all _ (Nat.le_refl _)]
  show Option.bind (m_prepare_L16 l (madeL l, l.length, toTo l l.length) (heldTo l l.length) FUEL 0 (frontP x.1 ++ planOf (fromL x) (toTo l l.length))) _ = _
  rw [prep16 h _ _ _ (by rw [List.length_append]; omega), Option.bind_some]
  dsimp only [sm]
  show Option.bind (m_prepare_L25 l (madeL l, l.length, toTo l l.length) FUEL 0 _) _ = _
  rw [prep25 h _ _ _ (by simp only [List.length_append]; omega)]
  rfl
end Go.Proofs.YtihcolehefloeaaDoor

/- Courses, plain: the work of a yarn; which yarns there are; slots side by side. -/
namespace Go.Proofs.YtihcolehefloeaaDoor
open Go.RowKit
theorem wrap8 (x : Int) (h : 0 ≤ x ∧ x ≤ 255) : IntKind.wrap .u8 x = x := by
  simp only [IntKind.wrap, IntKind.bits, IntKind.signed, Bool.false_and, Bool.false_eq_true, if_false]
  omega
theorem coput_eq (d y : Int) (ops : List OpT) (k e : Int) (n : Int × Int) (h : ops.length ≤ 100000000) : m_coput d y ops k e n = some (ops ++ [(k, e, n, y, 0)]) := by
  unfold m_coput
  rw [gdt (by simp only [fitB, List.length_singleton, Bool.and_eq_true, decide_eq_true_eq]; omega)]
/-- The yarn goes past everything. -/
def pastOp (y d : Int) : OpT := (6, d, (if d = 1 then (0, 40) else (1, 1)), y, 0)
theorem copast_eq (d y : Int) (ops : List OpT) (e : Int) (h : ops.length ≤ 100000000) : m_copast d y ops e = some (ops ++ [pastOp y e]) := by
  unfold m_copast pastOp
  by_cases h1 : e = 1
  · rw [cdt (decide_eq_true h1), Option.bind_some, coput_eq _ _ _ _ _ _ h, if_pos h1]; rfl
  · rw [cdf (decide_eq_false h1), Option.bind_some, coput_eq _ _ _ _ _ _ h, if_neg h1]; rfl
/-- In the direction of the row. -/
def dirL {α : Type} (d : Int) (l : List α) : List α := if d = 0 then l.reverse else l
theorem dirL_len {α : Type} (d : Int) (l : List α) : (dirL d l).length = l.length := by unfold dirL; split <;> simp
/-- The index in the direction of the row. -/
def dirI (d : Int) (n k : Nat) : Nat := if d = 0 then n - 1 - k else k
theorem dirL_get {α : Type} (d : Int) (l : List α) (z : α) (k : Nat) (hk : k < l.length) : (dirL d l).getD k z = l.getD (dirI d l.length k) z := by
  unfold dirL dirI
  split
  · rw [List.getD_eq_getElem?_getD, List.getD_eq_getElem?_getD, List.getElem?_reverse hk]
  · rfl
theorem dirI_lt {d : Int} {n k : Nat} (hk : k < n) : dirI d n k < n := by unfold dirI; split <;> omega
def knitOps (d y : Int) (ns : List (Int × Int)) : List OpT := (dirL d ns).map fun n => (4, d, n, y, 0)
def tuckOps (d y : Int) (ns : List (Int × Int)) : List OpT := ns.map fun n => (5, d, n, y, 0)
theorem dir_idx (d : Int) (n k : Nat) (hk : k < n) (hn : n ≤ 1000) {α : Type} (f : Int → Option α) : (Option.bind (cond (decide (d = (0 : Int))) (gd ((inI64 ((n : Int) - (1 : Int))) && (inI64 (((n : Int) - (1 : Int)) - (k : Int)))) <| some (((n : Int) - (1 : Int)) - (k : Int))) (some (k : Int))) f) = f (dirI d n k : Nat) := by
  unfold dirI
  by_cases h0 : d = 0
  · rw [cdt (decide_eq_true h0), gdt (by simp [inI64]; omega), Option.bind_some, if_pos h0]
    congr 1
    omega
  · rw [cdf (decide_eq_false h0), Option.bind_some, if_neg h0]
theorem coknit_eq (d y : Int) (ops : List OpT) (ns : List (Int × Int)) (h1 : ns.length ≤ 1000) (h2 : ops.length ≤ 90000000) : m_coknit d y ops ns = some (ops ++ knitOps d y ns) := by
  unfold m_coknit
  have := loopT (fun n (s : Int × List OpT) => m_coknit_L2 d y ns n s.1 s.2) ns.length (fun k => ((k : Int), ops ++ ((dirL d ns).take k).map fun n => (4, d, n, y, 0))) (0, ops) (ops ++ knitOps d y ns) (by simp) (fuel_of (by omega)) (fun n k hk => by
    show m_coknit_L2 d y ns (n + 1) k (ops ++ ((dirL d ns).take k).map fun n => (4, d, n, y, 0)) = m_coknit_L2 d y ns n ((k + 1 : Nat) : Int) (ops ++ ((dirL d ns).take (k + 1)).map fun n => (4, d, n, y, 0))
    have hd := dirI_lt (d := d) hk
    rw [m_coknit_L2, cdt (decide_eq_true (by omega)), dir_idx d ns.length k hk h1, gdt (by simp [inB]; omega), Int.toNat_natCast, coput_eq _ _ _ _ _ _ (by simp; omega), Option.bind_some, gdt (by simp [inI64]; omega), take_d (dirL d ns) (0, 0) k (by rw [dirL_len]; exact hk), dirL_get d ns (0, 0) k hk]
    simp only [List.map_append, List.append_assoc]
    rfl) (fun n => by
    show m_coknit_L2 d y ns (n + 1) ns.length _ = _
    rw [m_coknit_L2, cdf (by simp), ← dirL_len d ns, List.take_length]
    rfl)
  dsimp only at this
  rw [this]
  rfl
theorem cotuck_eq (d y : Int) (ops : List OpT) (ns : List (Int × Int)) (h1 : ns.length ≤ 1000) (h2 : ops.length ≤ 90000000) : m_cotuck d y ops ns = some (ops ++ tuckOps d y ns) := by
  unfold m_cotuck
  have := loopT (fun n (s : Int × List OpT) => m_cotuck_L2 d y ns n s.1 s.2) ns.length (fun k => ((k : Int), ops ++ (ns.take k).map fun n => (5, d, n, y, 0))) (0, ops) (ops ++ tuckOps d y ns) (by simp) (fuel_of (by omega)) (fun n k hk => by
    show m_cotuck_L2 d y ns (n + 1) k (ops ++ (ns.take k).map fun n => (5, d, n, y, 0)) = m_cotuck_L2 d y ns n ((k + 1 : Nat) : Int) (ops ++ (ns.take (k + 1)).map fun n => (5, d, n, y, 0))
    rw [m_cotuck_L2, cdt (decide_eq_true (by omega)), gdt (by simp [inB]; omega), Int.toNat_natCast, coput_eq _ _ _ _ _ _ (by simp; omega), Option.bind_some, gdt (by simp [inI64]; omega), take_d ns (0, 0) k hk]
    simp only [List.map_append, List.append_assoc]
    rfl) (fun n => by
    show m_cotuck_L2 d y ns (n + 1) ns.length _ = _
    rw [m_cotuck_L2, cdf (by simp), List.take_length]
    rfl)
  dsimp only at this
  rw [this]
  rfl
/-- What a yarn does with a stitch. -/
def workOf (d y : Int) (s : StT) (ns : List (Int × Int)) : List OpT := if s.1 = 7 then [] else if s.1 = 6 then tuckOps d y ns else knitOps d y ns
def workAt (d y : Int) (l : List StT) (k : Nat) : List OpT := if (l.getD (dirI d l.length k) zS).2.1 = y then workOf d y (l.getD (dirI d l.length k) zS) (madeAt l (dirI d l.length k)) else []
def workTo (d y : Int) (l : List StT) : Nat → List OpT
  | 0 => []
  | k + 1 => workTo d y l k ++ workAt d y l k
theorem knitOps_len (d y : Int) (ns : List (Int × Int)) : (knitOps d y ns).length = ns.length := by simp [knitOps, dirL_len]
theorem workAt_len (d y : Int) (l : List StT) (k : Nat) : (workAt d y l k).length ≤ 4 := by
  have h1 := make_le (l.getD (dirI d l.length k) zS)
  have h2 := madeAt_len l (dirI d l.length k)
  unfold workAt
  split
  · unfold workOf
    split
    · simp
    · split
      · simp only [tuckOps, List.length_map]; omega
      · rw [knitOps_len]; omega
  · simp
theorem workTo_len (d y : Int) (l : List StT) : ∀ k, (workTo d y l k).length ≤ 4 * k
  | 0 => by simp [workTo]
  | k + 1 => by
    have h1 := workTo_len d y l k
    have h2 := workAt_len d y l k
    rw [workTo, List.length_append]
    omega
theorem cowork_eq (d y : Int) (ops : List OpT) {l : List StT} (h : Row l) (h2 : ops.length ≤ 80000000) : m_cowork d y ops l (madeL l) = some (ops ++ workTo d y l l.length) := by
  have hl := h.len
  unfold m_cowork
  have := loopT (fun n (s : Int × List OpT) => m_cowork_L2 d y l (madeL l) n s.1 s.2) l.length (fun k => ((k : Int), ops ++ workTo d y l k)) (0, ops) (ops ++ workTo d y l l.length) (by simp [workTo]) (fuel_of (by omega)) (fun n k hk => by
    show m_cowork_L2 d y l (madeL l) (n + 1) k (ops ++ workTo d y l k) = m_cowork_L2 d y l (madeL l) n ((k + 1 : Nat) : Int) (ops ++ workTo d y l (k + 1))
    obtain ⟨i, hi⟩ : ∃ i, dirI d l.length k = i := ⟨_, rfl⟩
    have hd : i < l.length := by rw [← hi]; exact dirI_lt hk
    have hw := workTo_len d y l k
    have hok := all_get h.all i hd
    obtain ⟨k1, k2, _, _, _⟩ := stOk_facts hok
    have hml := madeAt_len l i
    have hmk := make_le (l.getD i zS)
    have hB : inB ((k : Nat) + 1 : Int) 1 = inB ((k : Nat) + 1 : Int) 1 := rfl
    have g1 : inB (i : Int) l.length = true := by simp [inB]; omega
    have g2 : inB (i : Int) (madeL l).length = true := by rw [madeL_len]; exact g1
    have hmg := madeL_get l i hd
    have hkn := coknit_eq d y (ops ++ workTo d y l k) (madeAt l i) (by omega) (by rw [List.length_append]; omega)
    have htu := cotuck_eq d y (ops ++ workTo d y l k) (madeAt l i) (by omega) (by rw [List.length_append]; omega)
    have hn : inI64 ((k : Int) + 1) = true := by simp [inI64]; omega
    rw [m_cowork_L2, cdt (decide_eq_true (by omega)), dir_idx d l.length k hk (by omega), hi, gdt g1, Int.toNat_natCast, workTo, workAt, hi, hmg]
    have hfin : ∀ q : List OpT, m_cowork_L2 d y l (madeL l) n ((k : Int) + 1) ((ops ++ workTo d y l k) ++ q) = m_cowork_L2 d y l (madeL l) n ((k + 1 : Nat) : Int) (ops ++ (workTo d y l k ++ q)) := fun q => by rw [List.append_assoc]; rfl
    by_cases hy : (l.getD i zS).2.1 = y
    · rw [cdt (decide_eq_true hy), if_pos hy, cdf (decide_eq_false (show ¬ (l.getD i zS).1 = 0 by omega)), ← hfin]
      have g3 : inB (l.getD i zS).1 9 = true := by simp only [inB, Bool.and_eq_true, decide_eq_true_eq]; omega
      have g4 : (inB (i : Int) l.length && inB (l.getD i zS).1 9 && inB (i : Int) (madeL l).length) = true := by rw [g1, g2, g3]; rfl
      unfold workOf
      by_cases q1 : (l.getD i zS).1 = 1
      · rw [cdt (decide_eq_true q1), gdt g4, hkn, Option.bind_some, gdt hn, if_neg (by omega), if_neg (by omega)]
      rw [cdf (decide_eq_false q1)]
      by_cases q2 : (l.getD i zS).1 = 2
      · rw [cdt (decide_eq_true q2), gdt g4, hkn, Option.bind_some, gdt hn, if_neg (by omega), if_neg (by omega)]
      rw [cdf (decide_eq_false q2)]
      by_cases q3 : (l.getD i zS).1 = 3
      · rw [cdt (decide_eq_true q3), gdt g4, hkn, Option.bind_some, gdt hn, if_neg (by omega), if_neg (by omega)]
      rw [cdf (decide_eq_false q3)]
      by_cases q4 : (l.getD i zS).1 = 4
      · rw [cdt (decide_eq_true q4), gdt g4, hkn, Option.bind_some, gdt hn, if_neg (by omega), if_neg (by omega)]
      rw [cdf (decide_eq_false q4)]
      by_cases q5 : (l.getD i zS).1 = 5
      · rw [cdt (decide_eq_true q5), gdt g4, hkn, Option.bind_some, gdt hn, if_neg (by omega), if_neg (by omega)]
      rw [cdf (decide_eq_false q5)]
      by_cases q6 : (l.getD i zS).1 = 6
      · rw [cdt (decide_eq_true q6), gdt g4, htu, Option.bind_some, gdt hn, if_neg (by omega), if_pos q6]
      rw [cdf (decide_eq_false q6)]
      by_cases q7 : (l.getD i zS).1 = 7
      · rw [cdt (decide_eq_true q7), gdt g4, if_pos q7, List.append_nil]
        show Option.bind (some ()) _ = _
        rw [Option.bind_some, gdt hn]
      rw [cdf (decide_eq_false q7), cdt (decide_eq_true (show (l.getD i zS).1 = 8 by omega)), gdt g4, hkn, Option.bind_some, gdt hn, if_neg q7, if_neg q6]
    · rw [cdf (decide_eq_false hy), if_neg hy, gdt hn, ← hfin, List.append_nil]) (fun n => by
    show m_cowork_L2 d y l (madeL l) (n + 1) l.length _ = _
    rw [m_cowork_L2, cdf (by simp)])
  dsimp only at this
  rw [this]
  rfl
/-- Slots of all stitches, one behind the other. -/
theorem concat_eq (M : List (List (Int × Int))) (h1 : M.length ≤ 100) (h2 : ∀ k, k < M.length → (M.getD k []).length ≤ 100) : m_concat M = some M.flatten := by
  have hb : ∀ k, k ≤ M.length → ((M.take k).flatten).length ≤ 100 * k := by
    intro k
    induction k with
    | zero => intro _; simp
    | succ k ih =>
      intro hk
      have := ih (by omega)
      have := h2 k (by omega)
      rw [take_d M [] k (by omega), List.flatten_append, List.length_append]
      simp only [List.flatten_cons, List.flatten_nil, List.append_nil]
      omega
  have hs : ∀ k, k < M.length → (M.take (k + 1)).flatten = (M.take k).flatten ++ M.getD k [] := fun k hk => by
    rw [take_d M [] k hk, List.flatten_append]
    simp
  unfold m_concat
  have e1 := loopT (fun n (s : Int × Int) => m_concat_L2 M n s.1 s.2) M.length (fun k => ((((M.take k).flatten).length : Int), (k : Int))) (0, 0) ((M.flatten.length : Nat) : Int) (by simp) (fuel_of (by omega)) (fun n k hk => by
    show m_concat_L2 M (n + 1) ((((M.take k).flatten).length : Int)) k = m_concat_L2 M n ((((M.take (k + 1)).flatten).length : Int)) ((k + 1 : Nat) : Int)
    have := hb k (by omega)
    have := h2 k hk
    rw [m_concat_L2, cdt (decide_eq_true (by omega)), gdt (by simp [inB]; omega), Int.toNat_natCast, gdt (by simp [inI64, -List.getD_eq_getElem?_getD, -List.length_flatten]; omega), cdf (decide_eq_false (by omega)), gdt (by simp [inI64]; omega), hs k hk, List.length_append]
    rfl) (fun n => by
    show m_concat_L2 M (n + 1) _ M.length = _
    rw [m_concat_L2, cdf (by simp), List.take_length])
  have e2 := loopT (fun n (s : Int × List (Int × Int)) => m_concat_L8 M n s.1 s.2) M.length (fun k => ((k : Int), (M.take k).flatten)) (0, []) M.flatten (by simp) (fuel_of (by omega)) (fun n k hk => by
    show m_concat_L8 M (n + 1) k ((M.take k).flatten) = m_concat_L8 M n ((k + 1 : Nat) : Int) ((M.take (k + 1)).flatten)
    have := hb k (by omega)
    have := h2 k hk
    rw [m_concat_L8, cdt (decide_eq_true (by omega)), gdt (by simp [inB]; omega), Int.toNat_natCast, gdt (by simp only [fitB, Bool.and_eq_true, decide_eq_true_eq]; omega), gdt (by simp [inI64]; omega), hs k hk]
    rfl) (fun n => by
    show m_concat_L8 M (n + 1) M.length _ = _
    rw [m_concat_L8, cdf (by simp), List.take_length])
  have hall := hb M.length (Nat.le_refl _)
  rw [List.take_length] at hall
  have hg : m_growN ((M.flatten.length : Nat) : Int) = some [] := by
    unfold m_growN
    rw [gdt (by simp only [Bool.and_eq_true, decide_eq_true_eq]; omega)]
  dsimp only at e1 e2
  rw [e1, Option.bind_some, hg, Option.bind_some, e2]
  rfl
def usedY (l : List StT) (y : Nat) : Bool := l.any fun s => decide (s.2.1 = (y : Int))
def yarnsL (l : List StT) : List Int := ((List.range 256).filter (usedY l)).map fun y : Nat => (y : Int)
theorem yarns_eq {l : List StT} (h : Row l) : ∃ c, m_chyarns [l] = some (yarnsL l, c) := by
  have hl := h.len
  have hyb : ∀ k, k < l.length → 1 ≤ (l.getD k zS).2.1 ∧ (l.getD k zS).2.1 ≤ 6 := fun k hk => by
    have := stOk_facts (all_get h.all k hk)
    omega
  have hstep : ∀ k (c : Int), k < l.length → 0 ≤ c ∧ c ≤ k → ∃ c' : Int, (0 ≤ c' ∧ c' ≤ k + 1) ∧ ∀ n, m_chyarns_L4 [l] 0 (n + 1) c k ((List.range 256).map (usedY (l.take k))) = m_chyarns_L4 [l] 0 n c' ((k + 1 : Nat) : Int) ((List.range 256).map (usedY (l.take (k + 1)))) := fun k c hk hc => by
    obtain ⟨y, hy⟩ : ∃ y : Nat, (l.getD k zS).2.1 = (y : Int) := ⟨_, (Int.toNat_of_nonneg (by have := hyb k hk; omega)).symm⟩
    have hy2 := hyb k hk
    have hu : ∀ q, usedY (l.take (k + 1)) q = (usedY (l.take k) q || decide (y = q)) := fun q => by
      unfold usedY
      rw [take_d l zS k hk, List.any_append]
      simp only [List.any_cons, List.any_nil, Bool.or_false, hy]
      congr 1
      by_cases e : y = q
      · simp [e]
      · rw [decide_eq_false e, decide_eq_false (by omega)]
    have hg : ((List.range 256).map (usedY (l.take k))).getD y false = usedY (l.take k) y := by
      rw [List.getD_eq_getElem?_getD, List.getElem?_map, List.getElem?_range (by omega)]
      rfl
    have hpre : ∀ n, m_chyarns_L4 [l] 0 (n + 1) c k ((List.range 256).map (usedY (l.take k))) = cond (!(usedY (l.take k) y)) (m_chyarns_L4 [l] 0 n (c + 1) ((k + 1 : Nat) : Int) (((List.range 256).map (usedY (l.take k))).set y true)) (m_chyarns_L4 [l] 0 n c ((k + 1 : Nat) : Int) ((List.range 256).map (usedY (l.take k)))) := fun n => by
      rw [m_chyarns_L4]
      show cond (decide ((k : Int) < (l.length : Int))) _ _ = _
      rw [cdt (decide_eq_true (by omega))]
      show gd (inB (k : Int) l.length) (gd (inB (l.getD (k : Int).toNat zS).2.1 256 && decide ((l.getD (k : Int).toNat zS).2.1.toNat < ((List.range 256).map (usedY (l.take k))).length)) (cond (!(((List.range 256).map (usedY (l.take k))).getD (l.getD (k : Int).toNat zS).2.1.toNat false)) (gd (inB (l.getD (k : Int).toNat zS).2.1 256 && decide ((l.getD (k : Int).toNat zS).2.1.toNat < ((List.range 256).map (usedY (l.take k))).length)) (gd (inI64 (c + 1)) (gd (inI64 ((k : Int) + 1)) (m_chyarns_L4 [l] 0 n (c + 1) ((k : Int) + 1) (((List.range 256).map (usedY (l.take k))).set (l.getD (k : Int).toNat zS).2.1.toNat true))))) (gd (inI64 ((k : Int) + 1)) (m_chyarns_L4 [l] 0 n c ((k : Int) + 1) ((List.range 256).map (usedY (l.take k))))))) = _
      rw [Int.toNat_natCast, hy, Int.toNat_natCast, gdt (by simp [inB]; omega), gdt (by simp [inB]; omega), hg, gdt (by simp [inB]; omega), gdt (by simp [inI64]; omega), gdt (by simp [inI64]; omega), gdt (by simp [inI64]; omega)]
      rfl
    cases hb : usedY (l.take k) y with
    | true =>
      refine ⟨c, by omega, fun n => ?_⟩
      rw [hpre, hb]
      show m_chyarns_L4 [l] 0 n c _ _ = _
      congr 1
      refine List.map_congr_left fun q _ => ?_
      rw [hu]
      by_cases e : y = q
      · rw [← e, hb]; rfl
      · rw [decide_eq_false e, Bool.or_false]
    | false =>
      refine ⟨c + 1, by omega, fun n => ?_⟩
      rw [hpre, hb]
      show m_chyarns_L4 [l] 0 n (c + 1) _ _ = _
      congr 1
      exact map_set 256 y _ _ true (by omega) (by rw [hu, decide_eq_true rfl, Bool.or_true]) (fun q hq => by rw [hu, decide_eq_false (fun e => hq e.symm), Bool.or_false])
  have h4 : ∃ c : Int, (0 ≤ c ∧ c ≤ l.length) ∧ m_chyarns_L4 [l] 0 FUEL 0 0 (List.replicate 256 false) = some (c, (List.range 256).map (usedY l)) := by
    have hrun : ∀ k, k ≤ l.length → ∀ c : Int, 0 ≤ c ∧ c ≤ (l.length - k : Nat) → ∀ n, k < n → ∃ c' : Int, (0 ≤ c' ∧ c' ≤ l.length) ∧ m_chyarns_L4 [l] 0 n c ((l.length - k : Nat) : Int) ((List.range 256).map (usedY (l.take (l.length - k)))) = some (c', (List.range 256).map (usedY l)) := by
      intro k
      induction k with
      | zero =>
        intro _ c hc n hn
        obtain ⟨n, rfl⟩ : ∃ m, n = m + 1 := ⟨n - 1, by omega⟩
        refine ⟨c, by omega, ?_⟩
        rw [Nat.sub_zero, List.take_length, m_chyarns_L4]
        show cond (decide ((l.length : Int) < (l.length : Int))) _ _ = _
        rw [cdf (by simp)]
      | succ k ih =>
        intro hk c hc n hn
        obtain ⟨n, rfl⟩ : ∃ m, n = m + 1 := ⟨n - 1, by omega⟩
        obtain ⟨c', hc', e⟩ := hstep (l.length - (k + 1)) c (by omega) hc
        rw [e]
        have e2 : l.length - (k + 1) + 1 = l.length - k := by omega
        rw [e2]
        exact ih (by omega) c' (by omega) n (by omega)
    have := hrun l.length (Nat.le_refl _) 0 (by omega) FUEL (fuel_of (by omega))
    rw [Nat.sub_self] at this
    have e : (List.range 256).map (usedY (l.take 0)) = List.replicate 256 false := by
      refine List.ext_getElem? fun q => ?_
      by_cases hq : q < 256
      · rw [List.getElem?_map, List.getElem?_range hq, List.getElem?_replicate, if_pos hq]; rfl
      · rw [List.getElem?_map, List.getElem?_eq_none (by simp only [List.length_range]; omega), List.getElem?_replicate, if_neg hq]; rfl
    rw [e] at this
    exact this
  obtain ⟨c, hc, e4⟩ := h4
  have e2 : m_chyarns_L2 [l] FUEL 0 0 (List.replicate 256 false) = some (c, (List.range 256).map (usedY l)) := by
    have hF : FUEL = (FUEL - 2) + 1 + 1 := by have := fuel_of (n := 10) (by omega); omega
    rw [hF, m_chyarns_L2]
    show cond (decide ((0 : Int) < 1)) (gd (inB 0 1) (Option.bind (m_chyarns_L4 [l] 0 FUEL 0 0 (List.replicate 256 false)) _)) _ = _
    rw [cdt (by decide), gdt (by decide), e4, Option.bind_some, gdt (by decide), m_chyarns_L2]
    show cond (decide ((0 : Int) + 1 < 1)) _ _ = _
    rw [cdf (by decide)]
  have e14 : ∃ q, m_chyarns_L14 (c, (List.range 256).map (usedY l)) FUEL 0 [] (some c.toNat) = some (yarnsL l, q) := by
    have hcap : ∃ sp : Nat → Option Nat, sp 0 = some c.toNat ∧ ∀ k, sp (k + 1) = if usedY l k then none else sp k :=
      ⟨fun k => Nat.rec (some c.toNat) (fun k q => if usedY l k then none else q) k, rfl, fun k => rfl⟩
    obtain ⟨sp, hs0, hs1⟩ := hcap
    refine ⟨sp 256, ?_⟩
    refine loopT (fun n (s : Int × List Int × Option Nat) => m_chyarns_L14 (c, (List.range 256).map (usedY l)) n s.1 s.2.1 s.2.2) 256 (fun k => ((k : Int), ((List.range k).filter (usedY l)).map (fun y : Nat => (y : Int)), sp k)) (0, [], some c.toNat) _ (by rw [hs0]; rfl) (fuel_of (by omega)) (fun n k hk => ?_) (fun n => ?_)
    · show m_chyarns_L14 (c, (List.range 256).map (usedY l)) (n + 1) k (((List.range k).filter (usedY l)).map (fun y : Nat => (y : Int))) (sp k) = m_chyarns_L14 (c, (List.range 256).map (usedY l)) n ((k + 1 : Nat) : Int) (((List.range (k + 1)).filter (usedY l)).map (fun y : Nat => (y : Int))) (sp (k + 1))
      have hg : ((List.range 256).map (usedY l)).getD k false = usedY l k := by
        rw [List.getD_eq_getElem?_getD, List.getElem?_map, List.getElem?_range hk]
        rfl
      have hlen : (((List.range k).filter (usedY l)).map (fun y : Nat => (y : Int))).length ≤ k := by
        rw [List.length_map]
        exact Nat.le_trans (List.length_filter_le _ _) (by simp)
      rw [m_chyarns_L14, cdt (decide_eq_true (by omega)), gdt (by simp [inB]; omega), Int.toNat_natCast, hs1, List.range_succ (n := k), List.filter_append]
      dsimp only
      rw [hg]
      cases hb : usedY l k with
      | true =>
        rw [cond_true, gdt (by simp only [fitB, List.length_singleton, Bool.and_eq_true, decide_eq_true_eq]; omega), gdt (by simp [inI64]; omega), wrap8 _ (by omega)]
        simp [hb]
      | false =>
        rw [cond_false, gdt (by simp [inI64]; omega)]
        simp [hb]
    · show m_chyarns_L14 (c, (List.range 256).map (usedY l)) (n + 1) ((256 : Nat) : Int) _ (sp 256) = _
      rw [m_chyarns_L14, cdf (by simp)]
      rfl
  obtain ⟨q, e14⟩ := e14
  refine ⟨q, ?_⟩
  unfold m_chyarns
  rw [e2, Option.bind_some]
  dsimp only
  rw [gdt (by simp only [Bool.and_eq_true, decide_eq_true_eq]; omega), gdt (by simp), e14]
  rfl
end Go.Proofs.YtihcolehefloeaaDoor

/- Courses, plain: a row's program. -/
namespace Go.Proofs.YtihcolehefloeaaDoor
open Go.RowKit
theorem yarnsL_mem {l : List StT} (h : Row l) {y : Int} (hy : y ∈ yarnsL l) : 1 ≤ y ∧ y ≤ 6 := by
  obtain ⟨q, hq, rfl⟩ := List.mem_map.1 hy
  have h2 := (List.mem_filter.1 hq).2
  obtain ⟨s, hs, h3⟩ := List.any_eq_true.1 h2
  have h4 := of_decide_eq_true h3
  have := stOk_facts (List.all_eq_true.1 h.all s hs)
  omega
theorem yarnsL_get {l : List StT} (h : Row l) (j : Nat) (hj : j < (yarnsL l).length) : 1 ≤ (yarnsL l).getD j 0 ∧ (yarnsL l).getD j 0 ≤ 6 := yarnsL_mem h (mem_get j hj)
theorem yarnsL_len (l : List StT) : (yarnsL l).length ≤ 256 := by
  unfold yarnsL
  rw [List.length_map]
  exact Nat.le_trans (List.length_filter_le _ _) (by simp)
def enD (d : Int) : Int := if d = 0 then 1 else 2
def beD (d : Int) : Int := if d = 0 then 2 else 1
def siD (d : Int) : Int := if d = 0 then 1 else 0
def preOps (x : LoT) (d y : Int) : List OpT := if (sides x).getD (y - 1).toNat 0 = 0 then [(1, siD d, (0, 0), y, 0)] else if (sides x).getD (y - 1).toNat 0 = enD d then [pastOp y (siD d)] else []
def yarnOps (x : LoT) (l : List StT) (d y : Int) : List OpT := (preOps x d y ++ workTo d y l l.length) ++ [pastOp y d]
def opsToY (x : LoT) (l : List StT) (d : Int) : Nat → List OpT
  | 0 => prepOps x l
  | j + 1 => opsToY x l d j ++ yarnOps x l d ((yarnsL l).getD j 0)
def sideAt (x : LoT) (l : List StT) (d : Int) (j i : Nat) : Int := if ((yarnsL l).take j).any (fun y => decide (y = (i : Int) + 1)) then enD d else (sides x).getD i 0
theorem yarnOps_len (x : LoT) {l : List StT} (h : Row l) (d y : Int) : (yarnOps x l d y).length ≤ 66 := by
  have h1 := workTo_len d y l l.length
  have h2 := h.len
  have h3 : (preOps x d y).length ≤ 1 := by unfold preOps; split <;> (try split) <;> simp
  simp only [yarnOps, List.length_append, List.length_singleton]
  omega
theorem opsToY_len {x : LoT} {l : List StT} (hx : Lo x) (h : Row l) (hn : sumTo need l l.length = x.1.length) (d : Int) : ∀ j, (opsToY x l d j).length ≤ 15000000 + 66 * j
  | 0 => prep_len hx h hn
  | j + 1 => by
    have h1 := opsToY_len hx h hn d j
    have h2 := yarnOps_len x h d ((yarnsL l).getD j 0)
    rw [opsToY, List.length_append]
    omega
theorem sideAt_succ (x : LoT) {l : List StT} (h : Row l) (d : Int) (j i : Nat) (hj : j < (yarnsL l).length) : cond (Nat.beq ((yarnsL l).getD j 0 - 1).toNat i) (enD d) (sideAt x l d j i) = sideAt x l d (j + 1) i := by
  have hy := yarnsL_get h j hj
  unfold sideAt
  rw [take_d (yarnsL l) 0 j hj, List.any_append]
  simp only [List.any_cons, List.any_nil, Bool.or_false]
  cases hb : Nat.beq ((yarnsL l).getD j 0 - 1).toNat i with
  | true =>
    have := Nat.eq_of_beq_eq_true hb
    rw [decide_eq_true (show (yarnsL l).getD j 0 = (i : Int) + 1 by omega), Bool.or_true, if_pos rfl]
    rfl
  | false =>
    have h2 : ((yarnsL l).getD j 0 - 1).toNat ≠ i := fun e => by rw [e, Nat.beq_refl] at hb; cases hb
    rw [decide_eq_false (show ¬ (yarnsL l).getD j 0 = (i : Int) + 1 by omega), Bool.or_false]
    rfl
/-- The program of a row. -/
def courseOps (x : LoT) (l : List StT) (d : Int) : List OpT := opsToY x l d (yarnsL l).length
theorem course_ok {x : LoT} {l : List StT} (hx : Lo x) (h : Row l) (hn : sumTo need l l.length = x.1.length) (d : Int) (hd : d = 0 ∨ d = 1) :
    m_course x l d = some (courseOps x l d, ((madeL l).flatten, sideAt x l d (yarnsL l).length 0, sideAt x l d (yarnsL l).length 1, sideAt x l d (yarnsL l).length 2, sideAt x l d (yarnsL l).length 3, sideAt x l d (yarnsL l).length 4, sideAt x l d (yarnsL l).length 5), 0) := by
  have hl := h.len
  have hyl := yarnsL_len l
  obtain ⟨c, hyq⟩ := yarns_eq h
  have hml : ∀ k, k < (madeL l).length → ((madeL l).getD k []).length ≤ 100 := fun k hk => by
    rw [madeL_len] at hk
    have := make_le (l.getD k zS)
    rw [madeL_get l k hk, madeAt_len]
    omega
  have hpr := prepare_ok hx h hn
  have ho2 : cond (decide (d = (0 : Int))) (some ((2 : Int), (1 : Int), (1 : Int))) (some ((1 : Int), (2 : Int), (0 : Int))) = some (beD d, enD d, siD d) := by
    unfold beD enD siD
    rcases hd with rfl | rfl <;> rfl
  have hL := loopT (fun n (s : Int × Int × Int × Int × Int × Int × Int × Int × List OpT) => m_course_L9 x l d (prepOps x l, madeL l, l.length, 0) (beD d, enD d, siD d) (yarnsL l, c) n s.1 s.2.1 s.2.2.1 s.2.2.2.1 s.2.2.2.2.1 s.2.2.2.2.2.1 s.2.2.2.2.2.2.1 s.2.2.2.2.2.2.2.1 s.2.2.2.2.2.2.2.2) (yarnsL l).length
    (fun j => ((j : Int), sideAt x l d j 0, sideAt x l d j 1, sideAt x l d j 2, sideAt x l d j 3, sideAt x l d j 4, sideAt x l d j 5, (if j = 0 then 0 else (yarnsL l).getD (j - 1) 0), opsToY x l d j))
    (0, x.2.1, x.2.2.1, x.2.2.2.1, x.2.2.2.2.1, x.2.2.2.2.2.1, x.2.2.2.2.2.2, 0, prepOps x l)
    (sideAt x l d (yarnsL l).length 0, sideAt x l d (yarnsL l).length 1, sideAt x l d (yarnsL l).length 2, sideAt x l d (yarnsL l).length 3, sideAt x l d (yarnsL l).length 4, sideAt x l d (yarnsL l).length 5, (if (yarnsL l).length = 0 then 0 else (yarnsL l).getD ((yarnsL l).length - 1) 0), courseOps x l d)
    rfl (fuel_of (by omega)) (fun n j hj => by
      show m_course_L9 x l d (prepOps x l, madeL l, l.length, 0) (beD d, enD d, siD d) (yarnsL l, c) (n + 1) j (sideAt x l d j 0) (sideAt x l d j 1) (sideAt x l d j 2) (sideAt x l d j 3) (sideAt x l d j 4) (sideAt x l d j 5) (if j = 0 then 0 else (yarnsL l).getD (j - 1) 0) (opsToY x l d j) =
        m_course_L9 x l d (prepOps x l, madeL l, l.length, 0) (beD d, enD d, siD d) (yarnsL l, c) n ((j + 1 : Nat) : Int) (sideAt x l d (j + 1) 0) (sideAt x l d (j + 1) 1) (sideAt x l d (j + 1) 2) (sideAt x l d (j + 1) 3) (sideAt x l d (j + 1) 4) (sideAt x l d (j + 1) 5) ((yarnsL l).getD j 0) (opsToY x l d (j + 1))
      have hy := yarnsL_get h j hj
      have hol := opsToY_len hx h hn d j
      have hwl := workTo_len d ((yarnsL l).getD j 0) l l.length
      obtain ⟨y, hyy⟩ : ∃ y, (yarnsL l).getD j 0 = y := ⟨_, rfl⟩
      have hw : IntKind.wrap .u8 (y - 1) = y - 1 := wrap8 _ (by omega)
      have hpl : (preOps x d y).length ≤ 1 := by unfold preOps; split <;> (try split) <;> simp
      have hpre : (cond (decide (((sides x).getD (y - 1).toNat 0) = (0 : Int))) (gd ((fitB 40 ((opsToY x l d j).length + [((1 : Int), (siD d, (((0 : Int), (0 : Int)), (y, (0 : Int)))))].length))) <|
          some (opsToY x l d j ++ [((1 : Int), (siD d, (((0 : Int), (0 : Int)), (y, (0 : Int)))))])) (cond (decide (((sides x).getD (y - 1).toNat 0) = enD d)) (Option.bind (m_copast d y (opsToY x l d j) (siD d)) fun r12 => some r12) (cond (decide (((sides x).getD (y - 1).toNat 0) = beD d)) (some (opsToY x l d j)) (some (opsToY x l d j))))) = some (opsToY x l d j ++ preOps x d y) := by
        unfold preOps
        by_cases h0 : (sides x).getD (y - 1).toNat 0 = 0
        · rw [cdt (decide_eq_true h0), if_pos h0, gdt (by simp only [fitB, List.length_singleton, Bool.and_eq_true, decide_eq_true_eq]; omega)]
        · rw [cdf (decide_eq_false h0), if_neg h0]
          by_cases h1 : (sides x).getD (y - 1).toNat 0 = enD d
          · rw [cdt (decide_eq_true h1), if_pos h1, copast_eq _ _ _ _ (by omega)]
            rfl
          · rw [cdf (decide_eq_false h1), if_neg h1, List.append_nil]
            cases decide ((sides x).getD (y - 1).toNat 0 = beD d) <;> rfl
      rw [m_course_L9]
      dsimp only
      rw [cdt (decide_eq_true (by omega)), gdt (by simp [inB]; omega), Int.toNat_natCast, hyy, hw, gdt (by simp [inB]; omega)]
      show Option.bind (cond (decide (((sides x).getD (y - 1).toNat 0) = (0 : Int))) _ (cond (decide (((sides x).getD (y - 1).toNat 0) = enD d)) _ (cond (decide (((sides x).getD (y - 1).toNat 0) = beD d)) _ _))) _ = _
      rw [hpre, Option.bind_some, cowork_eq d y _ h (by rw [List.length_append]; omega), Option.bind_some, copast_eq _ _ _ _ (by rw [hyy] at hwl; simp only [List.length_append]; omega), Option.bind_some, gdt (by simp [inB]; omega), gdt (by simp [inI64]; omega)]
      have hs := fun i => sideAt_succ x h d j i hj
      rw [hyy] at hs
      rw [hs 0, hs 1, hs 2, hs 3, hs 4, hs 5, opsToY, hyy, yarnOps]
      simp only [List.append_assoc]
      rfl) (fun n => by
      show m_course_L9 x l d (prepOps x l, madeL l, l.length, 0) (beD d, enD d, siD d) (yarnsL l, c) (n + 1) ((yarnsL l).length : Int) _ _ _ _ _ _ _ _ = _
      rw [m_course_L9, cdf (by simp)]
      rfl)
  unfold m_course
  rw [hpr, Option.bind_some, cdf (by simp), cdf (by rcases hd with rfl | rfl <;> rfl), ho2, Option.bind_some, concat_eq _ (by rw [madeL_len]; omega) hml, Option.bind_some]
  have hcl : m_clipn (madeL l).flatten = some ((madeL l).flatten, (madeL l).flatten.length) := by
    unfold m_clipn
    rw [gdt (by simp only [Bool.and_eq_true, decide_eq_true_eq]; omega), Int.toNat_natCast, List.take_length]
  rw [hcl, Option.bind_some, hyq, Option.bind_some]
  dsimp only at hL
  rw [hL]
  rfl
end Go.Proofs.YtihcolehefloeaaDoor
