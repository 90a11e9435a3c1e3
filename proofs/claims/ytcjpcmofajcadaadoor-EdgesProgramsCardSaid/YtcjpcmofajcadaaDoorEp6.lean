/- EdgesPrograms: for every S of layer 27, any yarn and whichever yarns leave, whatever the memory and the order that Go leaves open, the law returns true, and its arguments read as before. The listed package-level variables start as the program's text lays them (the card ties them). -/
import Derived.Test.YtcjpcmofajcadaaDoorEp5
import Derived.IntWalk
set_option linter.unusedSimpArgs false
set_option linter.unusedVariables false
/- Model of EdgesPrograms, printed by tr.py. -/
namespace Go.Proofs.YtcjpcmofajcadaaDoor
set_option linter.unusedSimpArgs false
set_option linter.unusedVariables false
open Go.RowKit
def m_edgesPrograms_L5 (a1 : Int) (r1 : (List Int)) : Nat → Int → (List OpT) → (List OpT) → (Option Nat) → Option ((List OpT) × (List OpT) × (Option Nat))
  | 0, _, _, _, _ => none
  | n + 1, v5_0, v5_1, v5_2, v5_3 =>
    cond (decide (v5_0 < (r1.length : Int))) (gd ((inB v5_0 r1.length)) <|
    gd ((fitB 40 (v5_2.length + [((4 : Int), ((1 : Int), (((0 : Int), (r1.getD v5_0.toNat 0)), ((IntKind.wrap .u8 ((1 : Int) + (Int.tmod a1 (6 : Int)))), (0 : Int)))))].length))) <|
    cond (decide ((0 : Int) < v5_0)) (gd ((inI64 (v5_0 - (1 : Int))) && (inB (v5_0 - (1 : Int)) r1.length) && (inB v5_0 r1.length)) <|
    Option.bind (m_shift [(r1.getD (v5_0 - (1 : Int)).toNat 0)] [(r1.getD v5_0.toNat 0)]) fun r6 =>
    gd ((fitB 40 (v5_1.length + r6.1.length))) <|
    gd ((fitB 40 ((v5_1 ++ r6.1).length + [((4 : Int), ((1 : Int), (((0 : Int), (r1.getD v5_0.toNat 0)), ((IntKind.wrap .u8 ((1 : Int) + (Int.tmod a1 (6 : Int)))), (0 : Int)))))].length))) <|
    gd ((inI64 (v5_0 + (1 : Int)))) <|
    m_edgesPrograms_L5 a1 r1 n (v5_0 + (1 : Int)) ((v5_1 ++ r6.1) ++ [((4 : Int), ((1 : Int), (((0 : Int), (r1.getD v5_0.toNat 0)), ((IntKind.wrap .u8 ((1 : Int) + (Int.tmod a1 (6 : Int)))), (0 : Int)))))]) (v5_2 ++ [((4 : Int), ((1 : Int), (((0 : Int), (r1.getD v5_0.toNat 0)), ((IntKind.wrap .u8 ((1 : Int) + (Int.tmod a1 (6 : Int)))), (0 : Int)))))]) none) (gd ((fitB 40 (v5_1.length + [((4 : Int), ((1 : Int), (((0 : Int), (r1.getD v5_0.toNat 0)), ((IntKind.wrap .u8 ((1 : Int) + (Int.tmod a1 (6 : Int)))), (0 : Int)))))].length))) <|
    gd ((inI64 (v5_0 + (1 : Int)))) <|
    m_edgesPrograms_L5 a1 r1 n (v5_0 + (1 : Int)) (v5_1 ++ [((4 : Int), ((1 : Int), (((0 : Int), (r1.getD v5_0.toNat 0)), ((IntKind.wrap .u8 ((1 : Int) + (Int.tmod a1 (6 : Int)))), (0 : Int)))))]) (v5_2 ++ [((4 : Int), ((1 : Int), (((0 : Int), (r1.getD v5_0.toNat 0)), ((IntKind.wrap .u8 ((1 : Int) + (Int.tmod a1 (6 : Int)))), (0 : Int)))))]) none)) (some (v5_1, v5_2, v5_3))
def m_edgesPrograms_L16 (a2 : Int) : Nat → (List UInt8) → Int → (List Int) → Option ((List UInt8) × (List Int))
  | 0, _, _, _ => none
  | n + 1, v16_0, v16_1, v16_2 =>
    cond (decide (v16_1 < (6 : Int))) (gd ((decide (0 ≤ v16_1))) <|
    cond (decide ((Int.tmod (Int.fdiv a2 (2 ^ (min v16_1.toNat (IntKind.bits .u8)))) (2 : Int)) = (1 : Int))) (Option.bind (cond (decide ((0 : Int) < (v16_2.length : Int))) (gd ((decide (v16_0.length + [59, 32].length ≤ 140737488355328))) <|
    some (v16_0 ++ [59, 32])) (some v16_0)) fun o17 =>
    gd ((inI64 (v16_1 + (1 : Int))) && (fitB 1 (v16_2.length + [(IntKind.wrap .u8 (v16_1 + (1 : Int)))].length))) <|
    gd ((inI64 (v16_1 + (1 : Int)))) <|
    Option.bind (m_optext ((2 : Int), ((0 : Int), (((0 : Int), (0 : Int)), ((IntKind.wrap .u8 (v16_1 + (1 : Int))), (0 : Int)))))) fun r19 =>
    gd ((decide (o17.length + r19.length ≤ 140737488355328))) <|
    gd ((inI64 (v16_1 + (1 : Int)))) <|
    m_edgesPrograms_L16 a2 n (o17 ++ r19) (v16_1 + (1 : Int)) (v16_2 ++ [(IntKind.wrap .u8 (v16_1 + (1 : Int)))])) (gd ((inI64 (v16_1 + (1 : Int)))) <|
    m_edgesPrograms_L16 a2 n v16_0 (v16_1 + (1 : Int)) v16_2)) (some (v16_0, v16_2))
def m_edgesPrograms (a0 : (List (Int × (Int × Int)))) (a1 : Int) (a2 : Int) : Option (Bool) :=
    Option.bind (m_places a0) fun r1 =>
    Option.bind (m_caston (IntKind.wrap .u8 ((1 : Int) + (Int.tmod a1 (6 : Int)))) r1) fun r2 =>
    Option.bind (m_bindoff (IntKind.wrap .u8 ((1 : Int) + (Int.tmod a1 (6 : Int)))) r1) fun r3 =>
    Option.bind (m_edgesPrograms_L5 a1 r1 FUEL (0 : Int) ([] : List OpT) [((1 : Int), ((0 : Int), (((0 : Int), (0 : Int)), ((IntKind.wrap .u8 ((1 : Int) + (Int.tmod a1 (6 : Int)))), (0 : Int)))))] (some 1)) fun o4 =>
    gd ((fitB 40 (o4.2.1.length + [((6 : Int), ((1 : Int), (((0 : Int), (40 : Int)), ((IntKind.wrap .u8 ((1 : Int) + (Int.tmod a1 (6 : Int)))), (0 : Int)))))].length))) <|
    gd ((inI64 ((r1.length : Int) - (1 : Int))) && (inB ((r1.length : Int) - (1 : Int)) r1.length) && (fitB 40 (o4.1.length + [((8 : Int), ((0 : Int), (((0 : Int), (r1.getD ((r1.length : Int) - (1 : Int)).toNat 0)), ((0 : Int), (0 : Int)))))].length))) <|
    Option.bind (m_edgesPrograms_L16 a2 FUEL ([] : List UInt8) (0 : Int) ([] : List Int)) fun o15 =>
    Option.bind (m_leave o15.2) fun r26 =>
    Option.bind (cond (cond (cond (decide (r2.2 = (0 : Int))) (decide (r3.2 = (0 : Int))) false) (decide (r26.2.2 = (0 : Int))) false) (m_text29 r2.1) (some default)) fun r27 =>
    Option.bind (cond (cond (cond (decide (r2.2 = (0 : Int))) (decide (r3.2 = (0 : Int))) false) (decide (r26.2.2 = (0 : Int))) false) (m_text29 (o4.2.1 ++ [((6 : Int), ((1 : Int), (((0 : Int), (40 : Int)), ((IntKind.wrap .u8 ((1 : Int) + (Int.tmod a1 (6 : Int)))), (0 : Int)))))])) (some default)) fun r28 =>
    Option.bind (cond (cond (cond (cond (decide (r2.2 = (0 : Int))) (decide (r3.2 = (0 : Int))) false) (decide (r26.2.2 = (0 : Int))) false) (r27 == r28) false) (m_text29 r3.1) (some default)) fun r29 =>
    Option.bind (cond (cond (cond (cond (decide (r2.2 = (0 : Int))) (decide (r3.2 = (0 : Int))) false) (decide (r26.2.2 = (0 : Int))) false) (r27 == r28) false) (m_text29 (o4.1 ++ [((8 : Int), ((0 : Int), (((0 : Int), (r1.getD ((r1.length : Int) - (1 : Int)).toNat 0)), ((0 : Int), (0 : Int)))))])) (some default)) fun r30 =>
    Option.bind (cond (cond (cond (cond (cond (decide (r2.2 = (0 : Int))) (decide (r3.2 = (0 : Int))) false) (decide (r26.2.2 = (0 : Int))) false) (r27 == r28) false) (r29 == r30) false) (m_text29 r26.1) (some default)) fun r31 =>
    Option.bind (cond (cond (cond (cond (cond (cond (cond (decide (r2.2 = (0 : Int))) (decide (r3.2 = (0 : Int))) false) (decide (r26.2.2 = (0 : Int))) false) (r27 == r28) false) (r29 == r30) false) (r31 == o15.1) false) (decide ((r26.2.1 : Int) = (r26.1.length : Int))) false) (m_lives29) (some default)) fun r32 =>
    some (cond (cond (cond (cond (cond (cond (cond (decide (r2.2 = (0 : Int))) (decide (r3.2 = (0 : Int))) false) (decide (r26.2.2 = (0 : Int))) false) (r27 == r28) false) (r29 == r30) false) (r31 == o15.1) false) (decide ((r26.2.1 : Int) = (r26.1.length : Int))) false) r32 false)
set_option maxRecDepth 20000 in
set_option maxHeartbeats 4000000 in
theorem w_edgesPrograms (a0 : (List (Int × (Int × Int)))) (a1 : Int) (a2 : Int) (c0 : Option Nat) (r : (Bool)) (h : m_edgesPrograms a0 a1 a2 = some r) : AC cx 6 [.c (.lst g3 a0 c0), .c (.val (.int .u8 a1)), .c (.val (.int .u8 a2))] [] (fun sv h => sv = .a (.c (.val (.bool r))) ∧ h = []) := by
  unfold m_edgesPrograms at h
  refine ac_body tt_ok Tryd.func6 rfl Tryd.ntmps6 rfl rfl (res := [.tmp 6]) rfl ?_
  refine ax_seq ?_
  refine ax_region ?_
  refine al_run tt_ok rfl rfl ?_
  refine ax_seq ?_
  obtain ⟨r1, hr1, h⟩ := bd h
  refine ax_region ?_
  refine al_upto tt_ok rfl rfl ?_
  refine al_callP (w_places _ c0 r1 hr1) rfl ⟨rfl, rfl⟩ rfl Tryd.func19 rfl rfl rfl rfl rfl rfl ?_
  refine al_run tt_ok rfl rfl ?_
  refine ax_seq ?_
  refine ax_region ?_
  refine al_run tt_ok rfl rfl ?_
  refine ax_seq ?_
  obtain ⟨r2, hr2, h⟩ := bd h
  refine ax_region ?_
  refine al_upto tt_ok rfl rfl ?_
  refine al_callP (w_caston _ _ none r2 hr2) rfl ⟨rfl, rfl⟩ rfl Tryd.func20 rfl rfl rfl rfl rfl rfl ?_
  refine al_run tt_ok rfl rfl ?_
  refine ax_seq ?_
  obtain ⟨r3, hr3, h⟩ := bd h
  refine ax_region ?_
  refine al_upto tt_ok rfl rfl ?_
  refine al_callP (w_bindoff _ _ none r3 hr3) rfl ⟨rfl, rfl⟩ rfl Tryd.func21 rfl rfl rfl rfl rfl rfl ?_
  refine al_run tt_ok rfl rfl ?_
  refine ax_seq ?_
  refine ax_region ?_
  refine al_run tt_ok rfl rfl ?_
  refine ax_seq ?_
  refine ax_region ?_
  refine al_run tt_ok rfl rfl ?_
  refine ax_weak (Wk.nil 14 14 55 gOp rfl rfl) ?_
  refine ax_seq ?_
  refine ax_seq ?_
  refine ax_region ?_
  refine al_run tt_ok rfl rfl ?_
  obtain ⟨o4, ho4, hk4⟩ := bd h
  refine ax_cutS (fun o4 : (List OpT) × (List OpT) × (Option Nat) => ⟨[(2, .a (.c (.val (.int .u8 a2)))), (7, .a (.c (.lst (.int .i64) r1 none))), (8, .a (.c (.val (.int .u8 (IntKind.wrap .u8 ((1 : Int) + (Int.tmod a1 (6 : Int)))))))), (9, .a (.c (.lst gOp r2.1 none))), (10, .a (.c (.val (.int .i64 r2.2)))), (11, .a (.c (.lst gOp r3.1 (some r3.1.length)))), (12, .a (.c (.val (.int .i64 r3.2)))), (13, .a (.c (.sl 43))), (14, .a (.c (.sl 14)))], [(14, .row 55 gOp o4.1 none), (43, .row 55 gOp o4.2.1 o4.2.2)]⟩) (fun o' => o4 = o') ?_ ?_
  ·
    have h := ho4
    refine ax_block ?_
    refine ax_weak (st' := ⟨[(15, _), (2, _), (7, _), (8, _), (9, _), (10, _), (11, _), (12, _), (13, _), (14, _)], [(14, _), (43, _)]⟩) (Wk.sub (SubL.cons rfl (SubL.cons rfl (SubL.cons rfl (SubL.cons rfl (SubL.cons rfl (SubL.cons rfl (SubL.cons rfl (SubL.cons rfl (SubL.cons rfl (SubL.cons rfl SubL.nil)))))))))) (SubH.cons rfl rfl (SubH.cons rfl rfl SubH.nil))) ?_
    refine ax_loopL (fun y : Nat × Int × (List OpT) × (List OpT) × (Option Nat) => [(15, .a (.c (.val (.int .i64 y.2.1))))]) (fun y : Nat × Int × (List OpT) × (List OpT) × (Option Nat) => [(14, .row 55 gOp y.2.2.1 none), (43, .row 55 gOp y.2.2.2.1 y.2.2.2.2)]) (fun y : Nat × Int × (List OpT) × (List OpT) × (Option Nat) => m_edgesPrograms_L5 a1 r1 y.1 y.2.1 y.2.2.1 y.2.2.2.1 y.2.2.2.2 = some o4) (fun y : Nat × Int × (List OpT) × (List OpT) × (Option Nat) => y.1) (FUEL, (0 : Int), ([] : List OpT), [((1 : Int), ((0 : Int), (((0 : Int), (0 : Int)), ((IntKind.wrap .u8 ((1 : Int) + (Int.tmod a1 (6 : Int)))), (0 : Int)))))], (some 1)) h ?_
    rintro ⟨n, v5_0, v5_1, v5_2, v5_3⟩ h
    replace h : m_edgesPrograms_L5 a1 r1 n v5_0 v5_1 v5_2 v5_3 = some o4 := h
    rcases n with _ | n
    · cases (show (none : Option _) = some _ from h)
    rw [m_edgesPrograms_L5] at h
    refine ax_seq ?_
    refine ax_seq ?_
    refine ax_region ?_
    refine al_run tt_ok rfl rfl ?_
    refine ax_cond rfl rfl (fun hc => ?_) (fun hc => ?_)
    ·
      replace h := cond_t hc h
      refine ax_skip ?_
      refine ax_seq ?_
      refine ax_block ?_
      refine ax_seq ?_
      obtain ⟨hg14, h⟩ := gd_some h
      refine ax_region ?_
      refine al_run tt_ok rfl (by first | (simp only [hg14, Bool.and_true, Bool.true_and, Bool.or_true, Bool.true_or, Bool.not_true, Bool.not_false, Bool.or_false, Bool.false_or, Bool.and_self, Bool.not_or_self, Bool.or_self, decide_true, cond_true, cond_false]; done) | (simp_all; done) | (simp only [hg14, Bool.and_true, Bool.true_and, Bool.or_true, Bool.true_or, Bool.not_true, Bool.not_false, Bool.or_false, Bool.false_or, Bool.and_self, Bool.not_or_self, Bool.or_self, decide_true, cond_true, cond_false]; rfl)) ?_
      refine ax_seq ?_
      obtain ⟨hg13, h⟩ := gd_some h
      refine ax_region ?_
      refine al_run tt_ok rfl (by first | (simp only [hg13, Bool.and_true, Bool.true_and, Bool.or_true, Bool.true_or, Bool.not_true, Bool.not_false, Bool.or_false, Bool.false_or, Bool.and_self, Bool.not_or_self, Bool.or_self, decide_true, cond_true, cond_false]; done) | (simp_all; done) | (simp only [hg13, Bool.and_true, Bool.true_and, Bool.or_true, Bool.true_or, Bool.not_true, Bool.not_false, Bool.or_false, Bool.false_or, Bool.and_self, Bool.not_or_self, Bool.or_self, decide_true, cond_true, cond_false]; rfl)) ?_
      refine ax_seq ?_
      refine ax_seq ?_
      refine ax_region ?_
      refine al_run tt_ok rfl rfl ?_
      refine ax_cond rfl rfl (fun hc => ?_) (fun hc => ?_)
      ·
        replace h := cond_t hc h
        refine ax_seq ?_
        obtain ⟨hg10, h⟩ := gd_some h
        simp only [Bool.and_eq_true] at hg10
        obtain ⟨⟨hg10_0, hg10_1⟩, hg10_2⟩ := hg10
        obtain ⟨r6, hr6, h⟩ := bd h
        apply ax_cut
        ·
          refine ax_draw [] (by kernel_rfl) rfl (N := 17) ?_
          refine ad_run (fuel := 8) (ds' := ⟨#[true, true, true, true, true, false, true, true, true, true, false, false, false, false, false, false, false], true, true, true⟩) tt_ok [(0, 0), (1, 0), (2, 0), (3, 0), (4, 1), (6, 0), (7, 0), (8, 0), (9, 1)] (by kernel_rfl) rfl (by first | (simp only [hg10_0, hg10_1, hg10_2, Bool.and_true, Bool.true_and, Bool.or_true, Bool.true_or, Bool.not_true, Bool.not_false, Bool.or_false, Bool.false_or, Bool.and_self, Bool.not_or_self, Bool.or_self, decide_true, cond_true, cond_false]; done) | (simp_all; done) | (simp only [hg10_0, hg10_1, hg10_2, Bool.and_true, Bool.true_and, Bool.or_true, Bool.true_or, Bool.not_true, Bool.not_false, Bool.or_false, Bool.false_or, Bool.and_self, Bool.not_or_self, Bool.or_self, decide_true, cond_true, cond_false]; rfl)) ?_
          refine ad_ready (by kernel_rfl) (ads_cons (i := 5) ?_ (ads_cons (i := 10) ?_ ads_nil))
          ·
            refine ado_step tt_ok (i := 5) rfl rfl rfl (by first | (simp only [hg10_0, hg10_1, hg10_2, Bool.and_true, Bool.true_and, Bool.or_true, Bool.true_or, Bool.not_true, Bool.not_false, Bool.or_false, Bool.false_or, Bool.and_self, Bool.not_or_self, Bool.or_self, decide_true, cond_true, cond_false]; done) | (simp_all; done) | (simp only [hg10_0, hg10_1, hg10_2, Bool.and_true, Bool.true_and, Bool.or_true, Bool.true_or, Bool.not_true, Bool.not_false, Bool.or_false, Bool.false_or, Bool.and_self, Bool.not_or_self, Bool.or_self, decide_true, cond_true, cond_false]; rfl)) rfl ?_
            refine ad_run (fuel := 6) (ds' := ⟨#[true, true, true, true, true, true, true, true, true, true, true, false, false, false, false, false, false], false, false, true⟩) tt_ok [(10, 2)] (by kernel_rfl) rfl (by first | (simp only [hg10_0, hg10_1, hg10_2, Bool.and_true, Bool.true_and, Bool.or_true, Bool.true_or, Bool.not_true, Bool.not_false, Bool.or_false, Bool.false_or, Bool.and_self, Bool.not_or_self, Bool.or_self, decide_true, cond_true, cond_false]; done) | (simp_all; done) | (simp only [hg10_0, hg10_1, hg10_2, Bool.and_true, Bool.true_and, Bool.or_true, Bool.true_or, Bool.not_true, Bool.not_false, Bool.or_false, Bool.false_or, Bool.and_self, Bool.not_or_self, Bool.or_self, decide_true, cond_true, cond_false]; rfl)) ?_
            refine ad_frz 69 rfl ?_
            refine ad_frz 74 rfl ?_
            refine ad_ready (by kernel_rfl) (ads_cons (i := 11) ?_ ads_nil)
            refine ado_of rfl ?_
            refine adx_call (i := 11) (listed' := #[true, true, true, true, true, true, true, true, true, true, true, true, false, false, false, false, false]) (pre' := false) [] (w_shift _ _ (some 1) (some 1) r6 hr6) rfl rfl rfl rfl ⟨rfl, rfl⟩ rfl Tryd.func11 rfl rfl rfl rfl rfl rfl PassH.nil ?_
            rintro _ _ ⟨rfl, rfl⟩
            refine ⟨_, _, rfl, rfl, ?_⟩
            refine ad_run (fuel := 0) (ds' := ⟨#[true, true, true, true, true, true, true, true, true, true, true, true, true, true, true, true, true], false, false, false⟩) tt_ok [(12, 0), (13, 0), (14, 0), (15, 0), (16, 0)] (by kernel_rfl) rfl (by first | (simp only [hg10_0, hg10_1, hg10_2, Bool.and_true, Bool.true_and, Bool.or_true, Bool.true_or, Bool.not_true, Bool.not_false, Bool.or_false, Bool.false_or, Bool.and_self, Bool.not_or_self, Bool.or_self, decide_true, cond_true, cond_false]; done) | (simp_all; done) | (simp only [hg10_0, hg10_1, hg10_2, Bool.and_true, Bool.true_and, Bool.or_true, Bool.true_or, Bool.not_true, Bool.not_false, Bool.or_false, Bool.false_or, Bool.and_self, Bool.not_or_self, Bool.or_self, decide_true, cond_true, cond_false]; rfl)) ?_
            refine ad_done (by kernel_rfl) ?_
            exact ⟨rfl, Wk.sub (st' := ⟨[(2, _), (7, _), (8, _), (9, _), (10, _), (11, _), (12, _), (13, _), (14, _), (15, _), (16, _), (17, _)], [(14, _), (16, _), (43, _)]⟩) (SubL.cons rfl (SubL.cons rfl (SubL.cons rfl (SubL.cons rfl (SubL.cons rfl (SubL.cons rfl (SubL.cons rfl (SubL.cons rfl (SubL.cons rfl (SubL.cons rfl (SubL.cons rfl (SubL.cons rfl SubL.nil)))))))))))) (SubH.cons rfl rfl (SubH.cons rfl rfl (SubH.cons rfl rfl SubH.nil)))⟩
          ·
            refine ado_step tt_ok (i := 10) rfl rfl rfl (by first | (simp only [hg10_0, hg10_1, hg10_2, Bool.and_true, Bool.true_and, Bool.or_true, Bool.true_or, Bool.not_true, Bool.not_false, Bool.or_false, Bool.false_or, Bool.and_self, Bool.not_or_self, Bool.or_self, decide_true, cond_true, cond_false]; done) | (simp_all; done) | (simp only [hg10_0, hg10_1, hg10_2, Bool.and_true, Bool.true_and, Bool.or_true, Bool.true_or, Bool.not_true, Bool.not_false, Bool.or_false, Bool.false_or, Bool.and_self, Bool.not_or_self, Bool.or_self, decide_true, cond_true, cond_false]; rfl)) rfl ?_
            refine ad_run (fuel := 6) (ds' := ⟨#[true, true, true, true, true, true, true, true, true, true, true, false, false, false, false, false, false], false, false, true⟩) tt_ok [(5, 2)] (by kernel_rfl) rfl (by first | (simp only [hg10_0, hg10_1, hg10_2, Bool.and_true, Bool.true_and, Bool.or_true, Bool.true_or, Bool.not_true, Bool.not_false, Bool.or_false, Bool.false_or, Bool.and_self, Bool.not_or_self, Bool.or_self, decide_true, cond_true, cond_false]; done) | (simp_all; done) | (simp only [hg10_0, hg10_1, hg10_2, Bool.and_true, Bool.true_and, Bool.or_true, Bool.true_or, Bool.not_true, Bool.not_false, Bool.or_false, Bool.false_or, Bool.and_self, Bool.not_or_self, Bool.or_self, decide_true, cond_true, cond_false]; rfl)) ?_
            refine ad_frz 69 rfl ?_
            refine ad_frz 74 rfl ?_
            refine ad_ready (by kernel_rfl) (ads_cons (i := 11) ?_ ads_nil)
            refine ado_of rfl ?_
            refine adx_call (i := 11) (listed' := #[true, true, true, true, true, true, true, true, true, true, true, true, false, false, false, false, false]) (pre' := false) [] (w_shift _ _ (some 1) (some 1) r6 hr6) rfl rfl rfl rfl ⟨rfl, rfl⟩ rfl Tryd.func11 rfl rfl rfl rfl rfl rfl PassH.nil ?_
            rintro _ _ ⟨rfl, rfl⟩
            refine ⟨_, _, rfl, rfl, ?_⟩
            refine ad_run (fuel := 0) (ds' := ⟨#[true, true, true, true, true, true, true, true, true, true, true, true, true, true, true, true, true], false, false, false⟩) tt_ok [(12, 0), (13, 0), (14, 0), (15, 0), (16, 0)] (by kernel_rfl) rfl (by first | (simp only [hg10_0, hg10_1, hg10_2, Bool.and_true, Bool.true_and, Bool.or_true, Bool.true_or, Bool.not_true, Bool.not_false, Bool.or_false, Bool.false_or, Bool.and_self, Bool.not_or_self, Bool.or_self, decide_true, cond_true, cond_false]; done) | (simp_all; done) | (simp only [hg10_0, hg10_1, hg10_2, Bool.and_true, Bool.true_and, Bool.or_true, Bool.true_or, Bool.not_true, Bool.not_false, Bool.or_false, Bool.false_or, Bool.and_self, Bool.not_or_self, Bool.or_self, decide_true, cond_true, cond_false]; rfl)) ?_
            refine ad_done (by kernel_rfl) ?_
            exact ⟨rfl, Wk.sub (st' := ⟨[(2, _), (7, _), (8, _), (9, _), (10, _), (11, _), (12, _), (13, _), (14, _), (15, _), (16, _), (17, _)], [(14, _), (16, _), (43, _)]⟩) (SubL.cons rfl (SubL.cons rfl (SubL.cons rfl (SubL.cons rfl (SubL.cons rfl (SubL.cons rfl (SubL.cons rfl (SubL.cons rfl (SubL.cons rfl (SubL.cons rfl (SubL.cons rfl (SubL.cons rfl SubL.nil)))))))))))) (SubH.cons rfl rfl (SubH.cons rfl rfl (SubH.cons rfl rfl SubH.nil)))⟩
        obtain ⟨hg9, h⟩ := gd_some h
        refine ax_region ?_
        refine al_run tt_ok rfl (by first | (simp only [hg9, Bool.and_true, Bool.true_and, Bool.or_true, Bool.true_or, Bool.not_true, Bool.not_false, Bool.or_false, Bool.false_or, Bool.and_self, Bool.not_or_self, Bool.or_self, decide_true, cond_true, cond_false]; done) | (simp_all; done) | (simp only [hg9, Bool.and_true, Bool.true_and, Bool.or_true, Bool.true_or, Bool.not_true, Bool.not_false, Bool.or_false, Bool.false_or, Bool.and_self, Bool.not_or_self, Bool.or_self, decide_true, cond_true, cond_false]; rfl)) ?_
        obtain ⟨hg8, h⟩ := gd_some h
        refine ax_region ?_
        refine al_run tt_ok rfl (by first | (simp only [hg8, Bool.and_true, Bool.true_and, Bool.or_true, Bool.true_or, Bool.not_true, Bool.not_false, Bool.or_false, Bool.false_or, Bool.and_self, Bool.not_or_self, Bool.or_self, decide_true, cond_true, cond_false]; done) | (simp_all; done) | (simp only [hg8, Bool.and_true, Bool.true_and, Bool.or_true, Bool.true_or, Bool.not_true, Bool.not_false, Bool.or_false, Bool.false_or, Bool.and_self, Bool.not_or_self, Bool.or_self, decide_true, cond_true, cond_false]; rfl)) ?_
        obtain ⟨hg7, h⟩ := gd_some h
        refine ax_region ?_
        refine al_run tt_ok rfl (by first | (simp only [hg7, Bool.and_true, Bool.true_and, Bool.or_true, Bool.true_or, Bool.not_true, Bool.not_false, Bool.or_false, Bool.false_or, Bool.and_self, Bool.not_or_self, Bool.or_self, decide_true, cond_true, cond_false]; done) | (simp_all; done) | (simp only [hg7, Bool.and_true, Bool.true_and, Bool.or_true, Bool.true_or, Bool.not_true, Bool.not_false, Bool.or_false, Bool.false_or, Bool.and_self, Bool.not_or_self, Bool.or_self, decide_true, cond_true, cond_false]; rfl)) ?_
        refine ⟨(n, _, _, _, _), h, Nat.lt_succ_self _, (Wk.sub (SubL.cons rfl (SubL.cons rfl (SubL.cons rfl (SubL.cons rfl (SubL.cons rfl (SubL.cons rfl (SubL.cons rfl (SubL.cons rfl (SubL.cons rfl (SubL.cons rfl SubL.nil)))))))))) (SubH.cons rfl rfl (SubH.cons rfl rfl SubH.nil)))⟩
      ·
        replace h := cond_f hc h
        refine ax_skip ?_
        obtain ⟨hg12, h⟩ := gd_some h
        refine ax_region ?_
        refine al_run tt_ok rfl (by first | (simp only [hg12, Bool.and_true, Bool.true_and, Bool.or_true, Bool.true_or, Bool.not_true, Bool.not_false, Bool.or_false, Bool.false_or, Bool.and_self, Bool.not_or_self, Bool.or_self, decide_true, cond_true, cond_false]; done) | (simp_all; done) | (simp only [hg12, Bool.and_true, Bool.true_and, Bool.or_true, Bool.true_or, Bool.not_true, Bool.not_false, Bool.or_false, Bool.false_or, Bool.and_self, Bool.not_or_self, Bool.or_self, decide_true, cond_true, cond_false]; rfl)) ?_
        obtain ⟨hg11, h⟩ := gd_some h
        refine ax_region ?_
        refine al_run tt_ok rfl (by first | (simp only [hg11, Bool.and_true, Bool.true_and, Bool.or_true, Bool.true_or, Bool.not_true, Bool.not_false, Bool.or_false, Bool.false_or, Bool.and_self, Bool.not_or_self, Bool.or_self, decide_true, cond_true, cond_false]; done) | (simp_all; done) | (simp only [hg11, Bool.and_true, Bool.true_and, Bool.or_true, Bool.true_or, Bool.not_true, Bool.not_false, Bool.or_false, Bool.false_or, Bool.and_self, Bool.not_or_self, Bool.or_self, decide_true, cond_true, cond_false]; rfl)) ?_
        refine ⟨(n, _, _, _, _), h, Nat.lt_succ_self _, (Wk.sub (SubL.cons rfl (SubL.cons rfl (SubL.cons rfl (SubL.cons rfl (SubL.cons rfl (SubL.cons rfl (SubL.cons rfl (SubL.cons rfl (SubL.cons rfl (SubL.cons rfl SubL.nil)))))))))) (SubH.cons rfl rfl (SubH.cons rfl rfl SubH.nil)))⟩
    ·
      replace h := cond_f hc h
      refine ax_exit ?_
      exact ⟨_, (Option.some.inj h).symm, (Wk.sub (SubL.cons rfl (SubL.cons rfl (SubL.cons rfl (SubL.cons rfl (SubL.cons rfl (SubL.cons rfl (SubL.cons rfl (SubL.cons rfl (SubL.cons rfl SubL.nil))))))))) (SubH.cons rfl rfl (SubH.cons rfl rfl SubH.nil)))⟩
  ·
    rintro _ rfl
    have h := hk4
    refine ax_seq ?_
    obtain ⟨hg55, h⟩ := gd_some h
    refine ax_region ?_
    refine al_run tt_ok rfl (by first | (simp only [hg55, Bool.and_true, Bool.true_and, Bool.or_true, Bool.true_or, Bool.not_true, Bool.not_false, Bool.or_false, Bool.false_or, Bool.and_self, Bool.not_or_self, Bool.or_self, decide_true, cond_true, cond_false]; done) | (simp_all; done) | (simp only [hg55, Bool.and_true, Bool.true_and, Bool.or_true, Bool.true_or, Bool.not_true, Bool.not_false, Bool.or_false, Bool.false_or, Bool.and_self, Bool.not_or_self, Bool.or_self, decide_true, cond_true, cond_false]; rfl)) ?_
    refine ax_seq ?_
    obtain ⟨hg54, h⟩ := gd_some h
    simp only [Bool.and_eq_true] at hg54
    obtain ⟨⟨hg54_0, hg54_1⟩, hg54_2⟩ := hg54
    refine ax_region ?_
    refine al_run tt_ok rfl (by first | (simp only [hg54_0, hg54_1, hg54_2, Bool.and_true, Bool.true_and, Bool.or_true, Bool.true_or, Bool.not_true, Bool.not_false, Bool.or_false, Bool.false_or, Bool.and_self, Bool.not_or_self, Bool.or_self, decide_true, cond_true, cond_false]; done) | (simp_all; done) | (simp only [hg54_0, hg54_1, hg54_2, Bool.and_true, Bool.true_and, Bool.or_true, Bool.true_or, Bool.not_true, Bool.not_false, Bool.or_false, Bool.false_or, Bool.and_self, Bool.not_or_self, Bool.or_self, decide_true, cond_true, cond_false]; rfl)) ?_
    refine ax_seq ?_
    refine ax_region ?_
    refine al_run tt_ok rfl rfl ?_
    refine ax_weak (Wk.nil 19 19 5 (.int .u8) rfl rfl) ?_
    refine ax_seq ?_
    refine ax_region ?_
    refine al_run tt_ok rfl rfl ?_
    refine ax_seq ?_
    refine ax_seq ?_
    refine ax_region ?_
    refine al_run tt_ok rfl rfl ?_
    obtain ⟨o15, ho15, hk15⟩ := bd h
    refine ax_cutS (fun o15 : (List UInt8) × (List Int) => ⟨[(9, .a (.c (.lst gOp r2.1 none))), (10, .a (.c (.val (.int .i64 r2.2)))), (11, .a (.c (.lst gOp r3.1 (some r3.1.length)))), (12, .a (.c (.val (.int .i64 r3.2)))), (13, .a (.c (.sl 43))), (14, .a (.c (.sl 14))), (19, .a (.c (.sl 19))), (20, .a (.c (.str o15.1)))], [(14, .row 55 gOp (o4.1 ++ [((8 : Int), ((0 : Int), (((0 : Int), (r1.getD ((r1.length : Int) - (1 : Int)).toNat 0)), ((0 : Int), (0 : Int)))))]) none), (19, .row 5 (.int .u8) o15.2 none), (43, .row 55 gOp (o4.2.1 ++ [((6 : Int), ((1 : Int), (((0 : Int), (40 : Int)), ((IntKind.wrap .u8 ((1 : Int) + (Int.tmod a1 (6 : Int)))), (0 : Int)))))]) none)]⟩) (fun o' => o15 = o') ?_ ?_
    ·
      have h := ho15
      refine ax_block ?_
      refine ax_weak (st' := ⟨[(20, _), (21, _), (2, _), (9, _), (10, _), (11, _), (12, _), (13, _), (14, _), (19, _)], [(19, _), (14, _), (43, _)]⟩) (Wk.sub (SubL.cons rfl (SubL.cons rfl (SubL.cons rfl (SubL.cons rfl (SubL.cons rfl (SubL.cons rfl (SubL.cons rfl (SubL.cons rfl (SubL.cons rfl (SubL.cons rfl SubL.nil)))))))))) (SubH.cons rfl rfl (SubH.cons rfl rfl (SubH.cons rfl rfl SubH.nil)))) ?_
      refine ax_loopL (fun y : Nat × (List UInt8) × Int × (List Int) => [(20, .a (.c (.str y.2.1))), (21, .a (.c (.val (.int .i64 y.2.2.1))))]) (fun y : Nat × (List UInt8) × Int × (List Int) => [(19, .row 5 (.int .u8) y.2.2.2 none)]) (fun y : Nat × (List UInt8) × Int × (List Int) => m_edgesPrograms_L16 a2 y.1 y.2.1 y.2.2.1 y.2.2.2 = some o15) (fun y : Nat × (List UInt8) × Int × (List Int) => y.1) (FUEL, ([] : List UInt8), (0 : Int), ([] : List Int)) h ?_
      rintro ⟨n, v16_0, v16_1, v16_2⟩ h
      replace h : m_edgesPrograms_L16 a2 n v16_0 v16_1 v16_2 = some o15 := h
      rcases n with _ | n
      · cases (show (none : Option _) = some _ from h)
      rw [m_edgesPrograms_L16] at h
      refine ax_seq ?_
      refine ax_seq ?_
      refine ax_region ?_
      refine al_run tt_ok rfl rfl ?_
      refine ax_cond rfl rfl (fun hc => ?_) (fun hc => ?_)
      ·
        replace h := cond_t hc h
        refine ax_skip ?_
        refine ax_seq ?_
        refine ax_block ?_
        refine ax_seq ?_
        obtain ⟨hg25, h⟩ := gd_some h
        refine ax_region ?_
        refine al_run tt_ok rfl (by first | (simp only [hg25, Bool.and_true, Bool.true_and, Bool.or_true, Bool.true_or, Bool.not_true, Bool.not_false, Bool.or_false, Bool.false_or, Bool.and_self, Bool.not_or_self, Bool.or_self, decide_true, cond_true, cond_false]; done) | (simp_all; done) | (simp only [hg25, Bool.and_true, Bool.true_and, Bool.or_true, Bool.true_or, Bool.not_true, Bool.not_false, Bool.or_false, Bool.false_or, Bool.and_self, Bool.not_or_self, Bool.or_self, decide_true, cond_true, cond_false]; rfl)) ?_
        refine ax_cond rfl rfl (fun hc => ?_) (fun hc => ?_)
        ·
          replace h := cond_t hc h
          refine ax_seq ?_
          refine ax_seq ?_
          refine ax_region ?_
          refine al_run tt_ok rfl rfl ?_
          obtain ⟨o17, ho17, hk17⟩ := bd h
          refine ax_cutS (fun o17 : (List UInt8) => ⟨[(2, .a (.c (.val (.int .u8 a2)))), (9, .a (.c (.lst gOp r2.1 none))), (10, .a (.c (.val (.int .i64 r2.2)))), (11, .a (.c (.lst gOp r3.1 (some r3.1.length)))), (12, .a (.c (.val (.int .i64 r3.2)))), (13, .a (.c (.sl 43))), (14, .a (.c (.sl 14))), (19, .a (.c (.sl 19))), (20, .a (.c (.str o17))), (21, .a (.c (.val (.int .i64 v16_1))))], [(14, .row 55 gOp (o4.1 ++ [((8 : Int), ((0 : Int), (((0 : Int), (r1.getD ((r1.length : Int) - (1 : Int)).toNat 0)), ((0 : Int), (0 : Int)))))]) none), (19, .row 5 (.int .u8) v16_2 none), (43, .row 55 gOp (o4.2.1 ++ [((6 : Int), ((1 : Int), (((0 : Int), (40 : Int)), ((IntKind.wrap .u8 ((1 : Int) + (Int.tmod a1 (6 : Int)))), (0 : Int)))))]) none)]⟩) (fun o' => o17 = o') ?_ ?_
          ·
            have h := ho17
            refine ax_cond rfl rfl (fun hc => ?_) (fun hc => ?_)
            ·
              replace h := cond_t hc h
              obtain ⟨hg18, h⟩ := gd_some h
              refine ax_region ?_
              refine al_run tt_ok rfl (by first | (simp only [hg18, Bool.and_true, Bool.true_and, Bool.or_true, Bool.true_or, Bool.not_true, Bool.not_false, Bool.or_false, Bool.false_or, Bool.and_self, Bool.not_or_self, Bool.or_self, decide_true, cond_true, cond_false]; done) | (simp_all; done) | (simp only [hg18, Bool.and_true, Bool.true_and, Bool.or_true, Bool.true_or, Bool.not_true, Bool.not_false, Bool.or_false, Bool.false_or, Bool.and_self, Bool.not_or_self, Bool.or_self, decide_true, cond_true, cond_false]; rfl)) ?_
              exact ⟨_, (Option.some.inj h).symm, (Wk.sub (SubL.cons rfl (SubL.cons rfl (SubL.cons rfl (SubL.cons rfl (SubL.cons rfl (SubL.cons rfl (SubL.cons rfl (SubL.cons rfl (SubL.cons rfl (SubL.cons rfl SubL.nil)))))))))) (SubH.cons rfl rfl (SubH.cons rfl rfl (SubH.cons rfl rfl SubH.nil))))⟩
            ·
              replace h := cond_f hc h
              refine ax_skip ?_
              exact ⟨_, (Option.some.inj h).symm, (Wk.sub (SubL.cons rfl (SubL.cons rfl (SubL.cons rfl (SubL.cons rfl (SubL.cons rfl (SubL.cons rfl (SubL.cons rfl (SubL.cons rfl (SubL.cons rfl (SubL.cons rfl SubL.nil)))))))))) (SubH.cons rfl rfl (SubH.cons rfl rfl (SubH.cons rfl rfl SubH.nil))))⟩
          ·
            rintro _ rfl
            have h := hk17
            refine ax_seq ?_
            obtain ⟨hg23, h⟩ := gd_some h
            simp only [Bool.and_eq_true] at hg23
            obtain ⟨hg23_0, hg23_1⟩ := hg23
            refine ax_region ?_
            refine al_run tt_ok rfl (by first | (simp only [hg23_0, hg23_1, Bool.and_true, Bool.true_and, Bool.or_true, Bool.true_or, Bool.not_true, Bool.not_false, Bool.or_false, Bool.false_or, Bool.and_self, Bool.not_or_self, Bool.or_self, decide_true, cond_true, cond_false]; done) | (simp_all; done) | (simp only [hg23_0, hg23_1, Bool.and_true, Bool.true_and, Bool.or_true, Bool.true_or, Bool.not_true, Bool.not_false, Bool.or_false, Bool.false_or, Bool.and_self, Bool.not_or_self, Bool.or_self, decide_true, cond_true, cond_false]; rfl)) ?_
            obtain ⟨hg21, h⟩ := gd_some h
            obtain ⟨r19, hr19, h⟩ := bd h
            obtain ⟨hg22, h⟩ := gd_some h
            refine ax_region ?_
            refine al_upto tt_ok rfl (by first | (simp only [hg21, hg22, Bool.and_true, Bool.true_and, Bool.or_true, Bool.true_or, Bool.not_true, Bool.not_false, Bool.or_false, Bool.false_or, Bool.and_self, Bool.not_or_self, Bool.or_self, decide_true, cond_true, cond_false]; done) | (simp_all; done) | (simp only [hg21, hg22, Bool.and_true, Bool.true_and, Bool.or_true, Bool.true_or, Bool.not_true, Bool.not_false, Bool.or_false, Bool.false_or, Bool.and_self, Bool.not_or_self, Bool.or_self, decide_true, cond_true, cond_false]; rfl)) ?_
            refine al_callP (w_optext _  r19 hr19) rfl ⟨rfl, rfl⟩ rfl Tryd.func22 rfl rfl rfl (by first | (simp only [hg21, hg22, Bool.and_true, Bool.true_and, Bool.or_true, Bool.true_or, Bool.not_true, Bool.not_false, Bool.or_false, Bool.false_or, Bool.and_self, Bool.not_or_self, Bool.or_self, decide_true, cond_true, cond_false]; done) | (simp_all; done) | (simp only [hg21, hg22, Bool.and_true, Bool.true_and, Bool.or_true, Bool.true_or, Bool.not_true, Bool.not_false, Bool.or_false, Bool.false_or, Bool.and_self, Bool.not_or_self, Bool.or_self, decide_true, cond_true, cond_false]; rfl)) rfl rfl ?_
            refine al_run tt_ok rfl (by first | (simp only [hg21, hg22, Bool.and_true, Bool.true_and, Bool.or_true, Bool.true_or, Bool.not_true, Bool.not_false, Bool.or_false, Bool.false_or, Bool.and_self, Bool.not_or_self, Bool.or_self, decide_true, cond_true, cond_false]; done) | (simp_all; done) | (simp only [hg21, hg22, Bool.and_true, Bool.true_and, Bool.or_true, Bool.true_or, Bool.not_true, Bool.not_false, Bool.or_false, Bool.false_or, Bool.and_self, Bool.not_or_self, Bool.or_self, decide_true, cond_true, cond_false]; rfl)) ?_
            obtain ⟨hg20, h⟩ := gd_some h
            refine ax_region ?_
            refine al_run tt_ok rfl (by first | (simp only [hg20, Bool.and_true, Bool.true_and, Bool.or_true, Bool.true_or, Bool.not_true, Bool.not_false, Bool.or_false, Bool.false_or, Bool.and_self, Bool.not_or_self, Bool.or_self, decide_true, cond_true, cond_false]; done) | (simp_all; done) | (simp only [hg20, Bool.and_true, Bool.true_and, Bool.or_true, Bool.true_or, Bool.not_true, Bool.not_false, Bool.or_false, Bool.false_or, Bool.and_self, Bool.not_or_self, Bool.or_self, decide_true, cond_true, cond_false]; rfl)) ?_
            refine ⟨(n, _, _, _), h, Nat.lt_succ_self _, (Wk.sub (SubL.cons rfl (SubL.cons rfl (SubL.cons rfl (SubL.cons rfl (SubL.cons rfl (SubL.cons rfl (SubL.cons rfl (SubL.cons rfl (SubL.cons rfl (SubL.cons rfl SubL.nil)))))))))) (SubH.cons rfl rfl (SubH.cons rfl rfl (SubH.cons rfl rfl SubH.nil))))⟩
        ·
          replace h := cond_f hc h
          refine ax_skip ?_
          obtain ⟨hg24, h⟩ := gd_some h
          refine ax_region ?_
          refine al_run tt_ok rfl (by first | (simp only [hg24, Bool.and_true, Bool.true_and, Bool.or_true, Bool.true_or, Bool.not_true, Bool.not_false, Bool.or_false, Bool.false_or, Bool.and_self, Bool.not_or_self, Bool.or_self, decide_true, cond_true, cond_false]; done) | (simp_all; done) | (simp only [hg24, Bool.and_true, Bool.true_and, Bool.or_true, Bool.true_or, Bool.not_true, Bool.not_false, Bool.or_false, Bool.false_or, Bool.and_self, Bool.not_or_self, Bool.or_self, decide_true, cond_true, cond_false]; rfl)) ?_
          refine ⟨(n, _, _, _), h, Nat.lt_succ_self _, (Wk.sub (SubL.cons rfl (SubL.cons rfl (SubL.cons rfl (SubL.cons rfl (SubL.cons rfl (SubL.cons rfl (SubL.cons rfl (SubL.cons rfl (SubL.cons rfl (SubL.cons rfl SubL.nil)))))))))) (SubH.cons rfl rfl (SubH.cons rfl rfl (SubH.cons rfl rfl SubH.nil))))⟩
      ·
        replace h := cond_f hc h
        refine ax_exit ?_
        exact ⟨_, (Option.some.inj h).symm, (Wk.sub (SubL.cons rfl (SubL.cons rfl (SubL.cons rfl (SubL.cons rfl (SubL.cons rfl (SubL.cons rfl (SubL.cons rfl (SubL.cons rfl SubL.nil)))))))) (SubH.cons rfl rfl (SubH.cons rfl rfl (SubH.cons rfl rfl SubH.nil))))⟩
    ·
      rintro _ rfl
      have h := hk15
      refine ax_seq ?_
      obtain ⟨r26, hr26, h⟩ := bd h
      refine ax_region ?_
      refine al_upto tt_ok rfl rfl ?_
      refine al_weak (Wk.frz (id := 19) rfl) ?_
      refine al_callP (w_leave _ none r26 hr26) rfl ⟨rfl, rfl⟩ rfl Tryd.func23 rfl rfl rfl rfl rfl rfl ?_
      refine al_run tt_ok rfl rfl ?_
      refine ax_seq ?_
      obtain ⟨r27, hr27, h⟩ := bd h
      obtain ⟨r28, hr28, h⟩ := bd h
      obtain ⟨r29, hr29, h⟩ := bd h
      obtain ⟨r30, hr30, h⟩ := bd h
      obtain ⟨r31, hr31, h⟩ := bd h
      obtain ⟨r32, hr32, h⟩ := bd h
      refine ax_region ?_
      refine al_upto tt_ok rfl (by first | (generalize (decide ((r26.2.1 : Int) = (r26.1.length : Int))) = b0; generalize (decide (r26.2.2 = (0 : Int))) = b1; generalize (decide (r2.2 = (0 : Int))) = b2; generalize (decide (r3.2 = (0 : Int))) = b3; generalize (r31 == o15.1) = b4; generalize (r27 == r28) = b5; generalize (r29 == r30) = b6; revert b0 b1 b2 b3 b4 b5 b6; decide) | (simp only [Bool.and_true, Bool.true_and, Bool.or_true, Bool.true_or, Bool.not_true, Bool.not_false, Bool.or_false, Bool.false_or, Bool.and_self, Bool.not_or_self, Bool.or_self, decide_true, cond_true, cond_false]; done) | (simp_all; done) | (simp only [Bool.and_true, Bool.true_and, Bool.or_true, Bool.true_or, Bool.not_true, Bool.not_false, Bool.or_false, Bool.false_or, Bool.and_self, Bool.not_or_self, Bool.or_self, decide_true, cond_true, cond_false]; rfl)) ?_
      refine al_guard (.c (.str r27)) rfl rfl rfl rfl rfl (fun hq33 => ?_) (fun hq33 => ?_)
      ·
        replace hr27 := cond_t hq33 hr27
        try simp only [Bool.and_true, Bool.true_and, Bool.and_false, Bool.false_and, Bool.not_true, Bool.not_false, cond_true, cond_false, Bool.false_eq_true, Bool.true_eq_false] at hq33
        all_goals
          refine al_callP (w_text29 _ none r27 hr27) rfl ⟨rfl, rfl⟩ rfl Tryd.func24 rfl rfl rfl (by first | (simp only [hq33, Bool.and_true, Bool.true_and, Bool.or_true, Bool.true_or, Bool.not_true, Bool.not_false, Bool.or_false, Bool.false_or, Bool.and_self, Bool.not_or_self, Bool.or_self, decide_true, cond_true, cond_false]; done) | (revert hq33; generalize (decide ((r26.2.1 : Int) = (r26.1.length : Int))) = b0; generalize (decide (r26.2.2 = (0 : Int))) = b1; generalize (decide (r2.2 = (0 : Int))) = b2; generalize (decide (r3.2 = (0 : Int))) = b3; generalize (r31 == o15.1) = b4; generalize (r27 == r28) = b5; generalize (r29 == r30) = b6; revert b0 b1 b2 b3 b4 b5 b6; decide) | (simp_all; done) | (simp only [hq33, Bool.and_true, Bool.true_and, Bool.or_true, Bool.true_or, Bool.not_true, Bool.not_false, Bool.or_false, Bool.false_or, Bool.and_self, Bool.not_or_self, Bool.or_self, decide_true, cond_true, cond_false]; rfl)) rfl rfl ?_
          refine al_upto tt_ok rfl (by first | (simp only [hq33, Bool.and_true, Bool.true_and, Bool.or_true, Bool.true_or, Bool.not_true, Bool.not_false, Bool.or_false, Bool.false_or, Bool.and_self, Bool.not_or_self, Bool.or_self, decide_true, cond_true, cond_false]; done) | (revert hq33; generalize (decide ((r26.2.1 : Int) = (r26.1.length : Int))) = b0; generalize (decide (r26.2.2 = (0 : Int))) = b1; generalize (decide (r2.2 = (0 : Int))) = b2; generalize (decide (r3.2 = (0 : Int))) = b3; generalize (r31 == o15.1) = b4; generalize (r27 == r28) = b5; generalize (r29 == r30) = b6; revert b0 b1 b2 b3 b4 b5 b6; decide) | (simp_all; done) | (simp only [hq33, Bool.and_true, Bool.true_and, Bool.or_true, Bool.true_or, Bool.not_true, Bool.not_false, Bool.or_false, Bool.false_or, Bool.and_self, Bool.not_or_self, Bool.or_self, decide_true, cond_true, cond_false]; rfl)) ?_
          refine al_weak (Wk.frz (id := 43) rfl) ?_
          refine al_guard (.c (.str r28)) rfl rfl rfl rfl rfl (fun hq34 => ?_) (fun hq34 => ?_)
          ·
            replace hr28 := cond_t hq34 hr28
            try simp only [hq33, Bool.and_true, Bool.true_and, Bool.and_false, Bool.false_and, Bool.not_true, Bool.not_false, cond_true, cond_false, Bool.false_eq_true, Bool.true_eq_false] at hq34
            all_goals
              refine al_callP (w_text29 _ none r28 hr28) rfl ⟨rfl, rfl⟩ rfl Tryd.func24 rfl rfl rfl (by first | (simp only [hq33, hq34, Bool.and_true, Bool.true_and, Bool.or_true, Bool.true_or, Bool.not_true, Bool.not_false, Bool.or_false, Bool.false_or, Bool.and_self, Bool.not_or_self, Bool.or_self, decide_true, cond_true, cond_false]; done) | (revert hq33 hq34; generalize (decide ((r26.2.1 : Int) = (r26.1.length : Int))) = b0; generalize (decide (r26.2.2 = (0 : Int))) = b1; generalize (decide (r2.2 = (0 : Int))) = b2; generalize (decide (r3.2 = (0 : Int))) = b3; generalize (r31 == o15.1) = b4; generalize (r27 == r28) = b5; generalize (r29 == r30) = b6; revert b0 b1 b2 b3 b4 b5 b6; decide) | (simp_all; done) | (simp only [hq33, hq34, Bool.and_true, Bool.true_and, Bool.or_true, Bool.true_or, Bool.not_true, Bool.not_false, Bool.or_false, Bool.false_or, Bool.and_self, Bool.not_or_self, Bool.or_self, decide_true, cond_true, cond_false]; rfl)) rfl rfl ?_
              refine al_upto tt_ok rfl (by first | (simp only [hq33, hq34, Bool.and_true, Bool.true_and, Bool.or_true, Bool.true_or, Bool.not_true, Bool.not_false, Bool.or_false, Bool.false_or, Bool.and_self, Bool.not_or_self, Bool.or_self, decide_true, cond_true, cond_false]; done) | (revert hq33 hq34; generalize (decide ((r26.2.1 : Int) = (r26.1.length : Int))) = b0; generalize (decide (r26.2.2 = (0 : Int))) = b1; generalize (decide (r2.2 = (0 : Int))) = b2; generalize (decide (r3.2 = (0 : Int))) = b3; generalize (r31 == o15.1) = b4; generalize (r27 == r28) = b5; generalize (r29 == r30) = b6; revert b0 b1 b2 b3 b4 b5 b6; decide) | (simp_all; done) | (simp only [hq33, hq34, Bool.and_true, Bool.true_and, Bool.or_true, Bool.true_or, Bool.not_true, Bool.not_false, Bool.or_false, Bool.false_or, Bool.and_self, Bool.not_or_self, Bool.or_self, decide_true, cond_true, cond_false]; rfl)) ?_
              refine al_guard (.c (.str r29)) rfl rfl rfl rfl rfl (fun hq35 => ?_) (fun hq35 => ?_)
              ·
                replace hr29 := cond_t hq35 hr29
                try simp only [hq33, hq34, Bool.and_true, Bool.true_and, Bool.and_false, Bool.false_and, Bool.not_true, Bool.not_false, cond_true, cond_false, Bool.false_eq_true, Bool.true_eq_false] at hq35
                all_goals
                  refine al_callP (w_text29 _ (some r3.1.length) r29 hr29) rfl ⟨rfl, rfl⟩ rfl Tryd.func24 rfl rfl rfl (by first | (simp only [hq33, hq34, hq35, Bool.and_true, Bool.true_and, Bool.or_true, Bool.true_or, Bool.not_true, Bool.not_false, Bool.or_false, Bool.false_or, Bool.and_self, Bool.not_or_self, Bool.or_self, decide_true, cond_true, cond_false]; done) | (revert hq33 hq34 hq35; generalize (decide ((r26.2.1 : Int) = (r26.1.length : Int))) = b0; generalize (decide (r26.2.2 = (0 : Int))) = b1; generalize (decide (r2.2 = (0 : Int))) = b2; generalize (decide (r3.2 = (0 : Int))) = b3; generalize (r31 == o15.1) = b4; generalize (r27 == r28) = b5; generalize (r29 == r30) = b6; revert b0 b1 b2 b3 b4 b5 b6; decide) | (simp_all; done) | (simp only [hq33, hq34, hq35, Bool.and_true, Bool.true_and, Bool.or_true, Bool.true_or, Bool.not_true, Bool.not_false, Bool.or_false, Bool.false_or, Bool.and_self, Bool.not_or_self, Bool.or_self, decide_true, cond_true, cond_false]; rfl)) rfl rfl ?_
                  refine al_upto tt_ok rfl (by first | (simp only [hq33, hq34, hq35, Bool.and_true, Bool.true_and, Bool.or_true, Bool.true_or, Bool.not_true, Bool.not_false, Bool.or_false, Bool.false_or, Bool.and_self, Bool.not_or_self, Bool.or_self, decide_true, cond_true, cond_false]; done) | (revert hq33 hq34 hq35; generalize (decide ((r26.2.1 : Int) = (r26.1.length : Int))) = b0; generalize (decide (r26.2.2 = (0 : Int))) = b1; generalize (decide (r2.2 = (0 : Int))) = b2; generalize (decide (r3.2 = (0 : Int))) = b3; generalize (r31 == o15.1) = b4; generalize (r27 == r28) = b5; generalize (r29 == r30) = b6; revert b0 b1 b2 b3 b4 b5 b6; decide) | (simp_all; done) | (simp only [hq33, hq34, hq35, Bool.and_true, Bool.true_and, Bool.or_true, Bool.true_or, Bool.not_true, Bool.not_false, Bool.or_false, Bool.false_or, Bool.and_self, Bool.not_or_self, Bool.or_self, decide_true, cond_true, cond_false]; rfl)) ?_
                  refine al_weak (Wk.frz (id := 14) rfl) ?_
                  refine al_guard (.c (.str r30)) rfl rfl rfl rfl rfl (fun hq36 => ?_) (fun hq36 => ?_)
                  ·
                    replace hr30 := cond_t hq36 hr30
                    try simp only [hq33, hq34, hq35, Bool.and_true, Bool.true_and, Bool.and_false, Bool.false_and, Bool.not_true, Bool.not_false, cond_true, cond_false, Bool.false_eq_true, Bool.true_eq_false] at hq36
                    all_goals
                      refine al_callP (w_text29 _ none r30 hr30) rfl ⟨rfl, rfl⟩ rfl Tryd.func24 rfl rfl rfl (by first | (simp only [hq33, hq34, hq35, hq36, Bool.and_true, Bool.true_and, Bool.or_true, Bool.true_or, Bool.not_true, Bool.not_false, Bool.or_false, Bool.false_or, Bool.and_self, Bool.not_or_self, Bool.or_self, decide_true, cond_true, cond_false]; done) | (revert hq33 hq34 hq35 hq36; generalize (decide ((r26.2.1 : Int) = (r26.1.length : Int))) = b0; generalize (decide (r26.2.2 = (0 : Int))) = b1; generalize (decide (r2.2 = (0 : Int))) = b2; generalize (decide (r3.2 = (0 : Int))) = b3; generalize (r31 == o15.1) = b4; generalize (r27 == r28) = b5; generalize (r29 == r30) = b6; revert b0 b1 b2 b3 b4 b5 b6; decide) | (simp_all; done) | (simp only [hq33, hq34, hq35, hq36, Bool.and_true, Bool.true_and, Bool.or_true, Bool.true_or, Bool.not_true, Bool.not_false, Bool.or_false, Bool.false_or, Bool.and_self, Bool.not_or_self, Bool.or_self, decide_true, cond_true, cond_false]; rfl)) rfl rfl ?_
                      refine al_upto tt_ok rfl (by first | (simp only [hq33, hq34, hq35, hq36, Bool.and_true, Bool.true_and, Bool.or_true, Bool.true_or, Bool.not_true, Bool.not_false, Bool.or_false, Bool.false_or, Bool.and_self, Bool.not_or_self, Bool.or_self, decide_true, cond_true, cond_false]; done) | (revert hq33 hq34 hq35 hq36; generalize (decide ((r26.2.1 : Int) = (r26.1.length : Int))) = b0; generalize (decide (r26.2.2 = (0 : Int))) = b1; generalize (decide (r2.2 = (0 : Int))) = b2; generalize (decide (r3.2 = (0 : Int))) = b3; generalize (r31 == o15.1) = b4; generalize (r27 == r28) = b5; generalize (r29 == r30) = b6; revert b0 b1 b2 b3 b4 b5 b6; decide) | (simp_all; done) | (simp only [hq33, hq34, hq35, hq36, Bool.and_true, Bool.true_and, Bool.or_true, Bool.true_or, Bool.not_true, Bool.not_false, Bool.or_false, Bool.false_or, Bool.and_self, Bool.not_or_self, Bool.or_self, decide_true, cond_true, cond_false]; rfl)) ?_
                      refine al_guard (.c (.str r31)) rfl rfl rfl rfl rfl (fun hq37 => ?_) (fun hq37 => ?_)
                      ·
                        replace hr31 := cond_t hq37 hr31
                        try simp only [hq33, hq34, hq35, hq36, Bool.and_true, Bool.true_and, Bool.and_false, Bool.false_and, Bool.not_true, Bool.not_false, cond_true, cond_false, Bool.false_eq_true, Bool.true_eq_false] at hq37
                        all_goals
                          refine al_callP (w_text29 _ (some r26.2.1) r31 hr31) rfl ⟨rfl, rfl⟩ rfl Tryd.func24 rfl rfl rfl (by first | (simp only [hq33, hq34, hq35, hq36, hq37, Bool.and_true, Bool.true_and, Bool.or_true, Bool.true_or, Bool.not_true, Bool.not_false, Bool.or_false, Bool.false_or, Bool.and_self, Bool.not_or_self, Bool.or_self, decide_true, cond_true, cond_false]; done) | (revert hq33 hq34 hq35 hq36 hq37; generalize (decide ((r26.2.1 : Int) = (r26.1.length : Int))) = b0; generalize (decide (r26.2.2 = (0 : Int))) = b1; generalize (decide (r2.2 = (0 : Int))) = b2; generalize (decide (r3.2 = (0 : Int))) = b3; generalize (r31 == o15.1) = b4; generalize (r27 == r28) = b5; generalize (r29 == r30) = b6; revert b0 b1 b2 b3 b4 b5 b6; decide) | (simp_all; done) | (simp only [hq33, hq34, hq35, hq36, hq37, Bool.and_true, Bool.true_and, Bool.or_true, Bool.true_or, Bool.not_true, Bool.not_false, Bool.or_false, Bool.false_or, Bool.and_self, Bool.not_or_self, Bool.or_self, decide_true, cond_true, cond_false]; rfl)) rfl rfl ?_
                          refine al_upto tt_ok rfl (by first | (simp only [hq33, hq34, hq35, hq36, hq37, Bool.and_true, Bool.true_and, Bool.or_true, Bool.true_or, Bool.not_true, Bool.not_false, Bool.or_false, Bool.false_or, Bool.and_self, Bool.not_or_self, Bool.or_self, decide_true, cond_true, cond_false]; done) | (revert hq33 hq34 hq35 hq36 hq37; generalize (decide ((r26.2.1 : Int) = (r26.1.length : Int))) = b0; generalize (decide (r26.2.2 = (0 : Int))) = b1; generalize (decide (r2.2 = (0 : Int))) = b2; generalize (decide (r3.2 = (0 : Int))) = b3; generalize (r31 == o15.1) = b4; generalize (r27 == r28) = b5; generalize (r29 == r30) = b6; revert b0 b1 b2 b3 b4 b5 b6; decide) | (simp_all; done) | (simp only [hq33, hq34, hq35, hq36, hq37, Bool.and_true, Bool.true_and, Bool.or_true, Bool.true_or, Bool.not_true, Bool.not_false, Bool.or_false, Bool.false_or, Bool.and_self, Bool.not_or_self, Bool.or_self, decide_true, cond_true, cond_false]; rfl)) ?_
                          refine al_guard (.c (.val (.bool r32))) rfl rfl rfl rfl rfl (fun hq38 => ?_) (fun hq38 => ?_)
                          ·
                            replace hr32 := cond_t hq38 hr32
                            try simp only [hq33, hq34, hq35, hq36, hq37, Bool.and_true, Bool.true_and, Bool.and_false, Bool.false_and, Bool.not_true, Bool.not_false, cond_true, cond_false, Bool.false_eq_true, Bool.true_eq_false] at hq38
                            all_goals
                              refine al_callP (w_lives29   r32 hr32) rfl ⟨rfl, rfl⟩ rfl Tryd.func25 rfl rfl rfl (by first | (simp only [hq33, hq34, hq35, hq36, hq37, hq38, Bool.and_true, Bool.true_and, Bool.or_true, Bool.true_or, Bool.not_true, Bool.not_false, Bool.or_false, Bool.false_or, Bool.and_self, Bool.not_or_self, Bool.or_self, decide_true, cond_true, cond_false]; done) | (revert hq33 hq34 hq35 hq36 hq37 hq38; generalize (decide ((r26.2.1 : Int) = (r26.1.length : Int))) = b0; generalize (decide (r26.2.2 = (0 : Int))) = b1; generalize (decide (r2.2 = (0 : Int))) = b2; generalize (decide (r3.2 = (0 : Int))) = b3; generalize (r31 == o15.1) = b4; generalize (r27 == r28) = b5; generalize (r29 == r30) = b6; revert b0 b1 b2 b3 b4 b5 b6; decide) | (simp_all; done) | (simp only [hq33, hq34, hq35, hq36, hq37, hq38, Bool.and_true, Bool.true_and, Bool.or_true, Bool.true_or, Bool.not_true, Bool.not_false, Bool.or_false, Bool.false_or, Bool.and_self, Bool.not_or_self, Bool.or_self, decide_true, cond_true, cond_false]; rfl)) rfl rfl ?_
                              refine al_run tt_ok rfl (by first | (simp only [hq33, hq34, hq35, hq36, hq37, hq38, Bool.and_true, Bool.true_and, Bool.or_true, Bool.true_or, Bool.not_true, Bool.not_false, Bool.or_false, Bool.false_or, Bool.and_self, Bool.not_or_self, Bool.or_self, decide_true, cond_true, cond_false]; done) | (revert hq33 hq34 hq35 hq36 hq37 hq38; generalize (decide ((r26.2.1 : Int) = (r26.1.length : Int))) = b0; generalize (decide (r26.2.2 = (0 : Int))) = b1; generalize (decide (r2.2 = (0 : Int))) = b2; generalize (decide (r3.2 = (0 : Int))) = b3; generalize (r31 == o15.1) = b4; generalize (r27 == r28) = b5; generalize (r29 == r30) = b6; revert b0 b1 b2 b3 b4 b5 b6; decide) | (simp_all; done) | (simp only [hq33, hq34, hq35, hq36, hq37, hq38, Bool.and_true, Bool.true_and, Bool.or_true, Bool.true_or, Bool.not_true, Bool.not_false, Bool.or_false, Bool.false_or, Bool.and_self, Bool.not_or_self, Bool.or_self, decide_true, cond_true, cond_false]; rfl)) ?_
                              refine ax_ret ?_
                              obtain rfl := Option.some.inj h
                              refine ⟨_, (Wk.sub (st' := ⟨[(6, _)], []⟩) (SubL.cons rfl SubL.nil) SubH.nil), _, _, rfl, rfl, ?_⟩
                              exact ⟨rfl, rfl⟩
                          ·
                            try simp only [hq33, hq34, hq35, hq36, hq37, Bool.and_true, Bool.true_and, Bool.and_false, Bool.false_and, Bool.not_true, Bool.not_false, cond_true, cond_false, Bool.false_eq_true, Bool.true_eq_false] at hq38
                            all_goals
                              refine al_run tt_ok rfl (by first | (simp only [hq33, hq34, hq35, hq36, hq37, hq38, Bool.and_true, Bool.true_and, Bool.or_true, Bool.true_or, Bool.not_true, Bool.not_false, Bool.or_false, Bool.false_or, Bool.and_self, Bool.not_or_self, Bool.or_self, decide_true, cond_true, cond_false]; done) | (revert hq33 hq34 hq35 hq36 hq37 hq38; generalize (decide ((r26.2.1 : Int) = (r26.1.length : Int))) = b0; generalize (decide (r26.2.2 = (0 : Int))) = b1; generalize (decide (r2.2 = (0 : Int))) = b2; generalize (decide (r3.2 = (0 : Int))) = b3; generalize (r31 == o15.1) = b4; generalize (r27 == r28) = b5; generalize (r29 == r30) = b6; revert b0 b1 b2 b3 b4 b5 b6; decide) | (simp_all; done) | (simp only [hq33, hq34, hq35, hq36, hq37, hq38, Bool.and_true, Bool.true_and, Bool.or_true, Bool.true_or, Bool.not_true, Bool.not_false, Bool.or_false, Bool.false_or, Bool.and_self, Bool.not_or_self, Bool.or_self, decide_true, cond_true, cond_false]; rfl)) ?_
                              refine ax_ret ?_
                              obtain rfl := Option.some.inj h
                              refine ⟨_, (Wk.sub (st' := ⟨[(6, _)], []⟩) (SubL.cons rfl SubL.nil) SubH.nil), _, _, rfl, rfl, ?_⟩
                              exact ⟨rfl, rfl⟩
                      ·
                        try simp only [hq33, hq34, hq35, hq36, Bool.and_true, Bool.true_and, Bool.and_false, Bool.false_and, Bool.not_true, Bool.not_false, cond_true, cond_false, Bool.false_eq_true, Bool.true_eq_false] at hq37
                        all_goals
                          refine al_upto tt_ok rfl (by first | (simp only [hq33, hq34, hq35, hq36, hq37, Bool.and_true, Bool.true_and, Bool.or_true, Bool.true_or, Bool.not_true, Bool.not_false, Bool.or_false, Bool.false_or, Bool.and_self, Bool.not_or_self, Bool.or_self, decide_true, cond_true, cond_false]; done) | (revert hq33 hq34 hq35 hq36 hq37; generalize (decide ((r26.2.1 : Int) = (r26.1.length : Int))) = b0; generalize (decide (r26.2.2 = (0 : Int))) = b1; generalize (decide (r2.2 = (0 : Int))) = b2; generalize (decide (r3.2 = (0 : Int))) = b3; generalize (r31 == o15.1) = b4; generalize (r27 == r28) = b5; generalize (r29 == r30) = b6; revert b0 b1 b2 b3 b4 b5 b6; decide) | (simp_all; done) | (simp only [hq33, hq34, hq35, hq36, hq37, Bool.and_true, Bool.true_and, Bool.or_true, Bool.true_or, Bool.not_true, Bool.not_false, Bool.or_false, Bool.false_or, Bool.and_self, Bool.not_or_self, Bool.or_self, decide_true, cond_true, cond_false]; rfl)) ?_
                          refine al_guard (.c (.val (.bool r32))) rfl rfl rfl rfl rfl (fun hq39 => ?_) (fun hq39 => ?_)
                          ·
                            exfalso; simp only [hq33, hq34, hq35, hq36, hq37, Bool.and_true, Bool.true_and, Bool.and_false, Bool.false_and, Bool.not_true, Bool.not_false, cond_true, cond_false, Bool.false_eq_true, Bool.true_eq_false] at hq39
                          ·
                            try simp only [hq33, hq34, hq35, hq36, hq37, Bool.and_true, Bool.true_and, Bool.and_false, Bool.false_and, Bool.not_true, Bool.not_false, cond_true, cond_false, Bool.false_eq_true, Bool.true_eq_false] at hq39
                            all_goals
                              refine al_run tt_ok rfl (by first | (simp only [hq33, hq34, hq35, hq36, hq37, hq39, Bool.and_true, Bool.true_and, Bool.or_true, Bool.true_or, Bool.not_true, Bool.not_false, Bool.or_false, Bool.false_or, Bool.and_self, Bool.not_or_self, Bool.or_self, decide_true, cond_true, cond_false]; done) | (revert hq33 hq34 hq35 hq36 hq37 hq39; generalize (decide ((r26.2.1 : Int) = (r26.1.length : Int))) = b0; generalize (decide (r26.2.2 = (0 : Int))) = b1; generalize (decide (r2.2 = (0 : Int))) = b2; generalize (decide (r3.2 = (0 : Int))) = b3; generalize (r31 == o15.1) = b4; generalize (r27 == r28) = b5; generalize (r29 == r30) = b6; revert b0 b1 b2 b3 b4 b5 b6; decide) | (simp_all; done) | (simp only [hq33, hq34, hq35, hq36, hq37, hq39, Bool.and_true, Bool.true_and, Bool.or_true, Bool.true_or, Bool.not_true, Bool.not_false, Bool.or_false, Bool.false_or, Bool.and_self, Bool.not_or_self, Bool.or_self, decide_true, cond_true, cond_false]; rfl)) ?_
                              refine ax_ret ?_
                              obtain rfl := Option.some.inj h
                              refine ⟨_, (Wk.sub (st' := ⟨[(6, _)], []⟩) (SubL.cons rfl SubL.nil) SubH.nil), _, _, rfl, rfl, ?_⟩
                              exact ⟨rfl, rfl⟩
                  ·
                    try simp only [hq33, hq34, hq35, Bool.and_true, Bool.true_and, Bool.and_false, Bool.false_and, Bool.not_true, Bool.not_false, cond_true, cond_false, Bool.false_eq_true, Bool.true_eq_false] at hq36
                    all_goals
                      refine al_upto tt_ok rfl (by first | (simp only [hq33, hq34, hq35, hq36, Bool.and_true, Bool.true_and, Bool.or_true, Bool.true_or, Bool.not_true, Bool.not_false, Bool.or_false, Bool.false_or, Bool.and_self, Bool.not_or_self, Bool.or_self, decide_true, cond_true, cond_false]; done) | (revert hq33 hq34 hq35 hq36; generalize (decide ((r26.2.1 : Int) = (r26.1.length : Int))) = b0; generalize (decide (r26.2.2 = (0 : Int))) = b1; generalize (decide (r2.2 = (0 : Int))) = b2; generalize (decide (r3.2 = (0 : Int))) = b3; generalize (r31 == o15.1) = b4; generalize (r27 == r28) = b5; generalize (r29 == r30) = b6; revert b0 b1 b2 b3 b4 b5 b6; decide) | (simp_all; done) | (simp only [hq33, hq34, hq35, hq36, Bool.and_true, Bool.true_and, Bool.or_true, Bool.true_or, Bool.not_true, Bool.not_false, Bool.or_false, Bool.false_or, Bool.and_self, Bool.not_or_self, Bool.or_self, decide_true, cond_true, cond_false]; rfl)) ?_
                      refine al_guard (.c (.str r31)) rfl rfl rfl rfl rfl (fun hq40 => ?_) (fun hq40 => ?_)
                      ·
                        exfalso; simp only [hq33, hq34, hq35, hq36, Bool.and_true, Bool.true_and, Bool.and_false, Bool.false_and, Bool.not_true, Bool.not_false, cond_true, cond_false, Bool.false_eq_true, Bool.true_eq_false] at hq40
                      ·
                        try simp only [hq33, hq34, hq35, hq36, Bool.and_true, Bool.true_and, Bool.and_false, Bool.false_and, Bool.not_true, Bool.not_false, cond_true, cond_false, Bool.false_eq_true, Bool.true_eq_false] at hq40
                        all_goals
                          refine al_upto tt_ok rfl (by first | (simp only [hq33, hq34, hq35, hq36, hq40, Bool.and_true, Bool.true_and, Bool.or_true, Bool.true_or, Bool.not_true, Bool.not_false, Bool.or_false, Bool.false_or, Bool.and_self, Bool.not_or_self, Bool.or_self, decide_true, cond_true, cond_false]; done) | (revert hq33 hq34 hq35 hq36 hq40; generalize (decide ((r26.2.1 : Int) = (r26.1.length : Int))) = b0; generalize (decide (r26.2.2 = (0 : Int))) = b1; generalize (decide (r2.2 = (0 : Int))) = b2; generalize (decide (r3.2 = (0 : Int))) = b3; generalize (r31 == o15.1) = b4; generalize (r27 == r28) = b5; generalize (r29 == r30) = b6; revert b0 b1 b2 b3 b4 b5 b6; decide) | (simp_all; done) | (simp only [hq33, hq34, hq35, hq36, hq40, Bool.and_true, Bool.true_and, Bool.or_true, Bool.true_or, Bool.not_true, Bool.not_false, Bool.or_false, Bool.false_or, Bool.and_self, Bool.not_or_self, Bool.or_self, decide_true, cond_true, cond_false]; rfl)) ?_
                          refine al_guard (.c (.val (.bool r32))) rfl rfl rfl rfl rfl (fun hq41 => ?_) (fun hq41 => ?_)
                          ·
                            exfalso; simp only [hq33, hq34, hq35, hq36, hq40, Bool.and_true, Bool.true_and, Bool.and_false, Bool.false_and, Bool.not_true, Bool.not_false, cond_true, cond_false, Bool.false_eq_true, Bool.true_eq_false] at hq41
                          ·
                            try simp only [hq33, hq34, hq35, hq36, hq40, Bool.and_true, Bool.true_and, Bool.and_false, Bool.false_and, Bool.not_true, Bool.not_false, cond_true, cond_false, Bool.false_eq_true, Bool.true_eq_false] at hq41
                            all_goals
                              refine al_run tt_ok rfl (by first | (simp only [hq33, hq34, hq35, hq36, hq40, hq41, Bool.and_true, Bool.true_and, Bool.or_true, Bool.true_or, Bool.not_true, Bool.not_false, Bool.or_false, Bool.false_or, Bool.and_self, Bool.not_or_self, Bool.or_self, decide_true, cond_true, cond_false]; done) | (revert hq33 hq34 hq35 hq36 hq40 hq41; generalize (decide ((r26.2.1 : Int) = (r26.1.length : Int))) = b0; generalize (decide (r26.2.2 = (0 : Int))) = b1; generalize (decide (r2.2 = (0 : Int))) = b2; generalize (decide (r3.2 = (0 : Int))) = b3; generalize (r31 == o15.1) = b4; generalize (r27 == r28) = b5; generalize (r29 == r30) = b6; revert b0 b1 b2 b3 b4 b5 b6; decide) | (simp_all; done) | (simp only [hq33, hq34, hq35, hq36, hq40, hq41, Bool.and_true, Bool.true_and, Bool.or_true, Bool.true_or, Bool.not_true, Bool.not_false, Bool.or_false, Bool.false_or, Bool.and_self, Bool.not_or_self, Bool.or_self, decide_true, cond_true, cond_false]; rfl)) ?_
                              refine ax_ret ?_
                              obtain rfl := Option.some.inj h
                              refine ⟨_, (Wk.sub (st' := ⟨[(6, _)], []⟩) (SubL.cons rfl SubL.nil) SubH.nil), _, _, rfl, rfl, ?_⟩
                              exact ⟨rfl, rfl⟩
              ·
                try simp only [hq33, hq34, Bool.and_true, Bool.true_and, Bool.and_false, Bool.false_and, Bool.not_true, Bool.not_false, cond_true, cond_false, Bool.false_eq_true, Bool.true_eq_false] at hq35
                all_goals
                  refine al_upto tt_ok rfl (by first | (simp only [hq33, hq34, hq35, Bool.and_true, Bool.true_and, Bool.or_true, Bool.true_or, Bool.not_true, Bool.not_false, Bool.or_false, Bool.false_or, Bool.and_self, Bool.not_or_self, Bool.or_self, decide_true, cond_true, cond_false]; done) | (revert hq33 hq34 hq35; generalize (decide ((r26.2.1 : Int) = (r26.1.length : Int))) = b0; generalize (decide (r26.2.2 = (0 : Int))) = b1; generalize (decide (r2.2 = (0 : Int))) = b2; generalize (decide (r3.2 = (0 : Int))) = b3; generalize (r31 == o15.1) = b4; generalize (r27 == r28) = b5; generalize (r29 == r30) = b6; revert b0 b1 b2 b3 b4 b5 b6; decide) | (simp_all; done) | (simp only [hq33, hq34, hq35, Bool.and_true, Bool.true_and, Bool.or_true, Bool.true_or, Bool.not_true, Bool.not_false, Bool.or_false, Bool.false_or, Bool.and_self, Bool.not_or_self, Bool.or_self, decide_true, cond_true, cond_false]; rfl)) ?_
                  refine al_weak (Wk.frz (id := 14) rfl) ?_
                  refine al_guard (.c (.str r30)) rfl rfl rfl rfl rfl (fun hq42 => ?_) (fun hq42 => ?_)
                  ·
                    exfalso; simp only [hq33, hq34, hq35, Bool.and_true, Bool.true_and, Bool.and_false, Bool.false_and, Bool.not_true, Bool.not_false, cond_true, cond_false, Bool.false_eq_true, Bool.true_eq_false] at hq42
                  ·
                    try simp only [hq33, hq34, hq35, Bool.and_true, Bool.true_and, Bool.and_false, Bool.false_and, Bool.not_true, Bool.not_false, cond_true, cond_false, Bool.false_eq_true, Bool.true_eq_false] at hq42
                    all_goals
                      refine al_upto tt_ok rfl (by first | (simp only [hq33, hq34, hq35, hq42, Bool.and_true, Bool.true_and, Bool.or_true, Bool.true_or, Bool.not_true, Bool.not_false, Bool.or_false, Bool.false_or, Bool.and_self, Bool.not_or_self, Bool.or_self, decide_true, cond_true, cond_false]; done) | (revert hq33 hq34 hq35 hq42; generalize (decide ((r26.2.1 : Int) = (r26.1.length : Int))) = b0; generalize (decide (r26.2.2 = (0 : Int))) = b1; generalize (decide (r2.2 = (0 : Int))) = b2; generalize (decide (r3.2 = (0 : Int))) = b3; generalize (r31 == o15.1) = b4; generalize (r27 == r28) = b5; generalize (r29 == r30) = b6; revert b0 b1 b2 b3 b4 b5 b6; decide) | (simp_all; done) | (simp only [hq33, hq34, hq35, hq42, Bool.and_true, Bool.true_and, Bool.or_true, Bool.true_or, Bool.not_true, Bool.not_false, Bool.or_false, Bool.false_or, Bool.and_self, Bool.not_or_self, Bool.or_self, decide_true, cond_true, cond_false]; rfl)) ?_
                      refine al_guard (.c (.str r31)) rfl rfl rfl rfl rfl (fun hq43 => ?_) (fun hq43 => ?_)
                      ·
                        exfalso; simp only [hq33, hq34, hq35, hq42, Bool.and_true, Bool.true_and, Bool.and_false, Bool.false_and, Bool.not_true, Bool.not_false, cond_true, cond_false, Bool.false_eq_true, Bool.true_eq_false] at hq43
                      ·
                        try simp only [hq33, hq34, hq35, hq42, Bool.and_true, Bool.true_and, Bool.and_false, Bool.false_and, Bool.not_true, Bool.not_false, cond_true, cond_false, Bool.false_eq_true, Bool.true_eq_false] at hq43
                        all_goals
                          refine al_upto tt_ok rfl (by first | (simp only [hq33, hq34, hq35, hq42, hq43, Bool.and_true, Bool.true_and, Bool.or_true, Bool.true_or, Bool.not_true, Bool.not_false, Bool.or_false, Bool.false_or, Bool.and_self, Bool.not_or_self, Bool.or_self, decide_true, cond_true, cond_false]; done) | (revert hq33 hq34 hq35 hq42 hq43; generalize (decide ((r26.2.1 : Int) = (r26.1.length : Int))) = b0; generalize (decide (r26.2.2 = (0 : Int))) = b1; generalize (decide (r2.2 = (0 : Int))) = b2; generalize (decide (r3.2 = (0 : Int))) = b3; generalize (r31 == o15.1) = b4; generalize (r27 == r28) = b5; generalize (r29 == r30) = b6; revert b0 b1 b2 b3 b4 b5 b6; decide) | (simp_all; done) | (simp only [hq33, hq34, hq35, hq42, hq43, Bool.and_true, Bool.true_and, Bool.or_true, Bool.true_or, Bool.not_true, Bool.not_false, Bool.or_false, Bool.false_or, Bool.and_self, Bool.not_or_self, Bool.or_self, decide_true, cond_true, cond_false]; rfl)) ?_
                          refine al_guard (.c (.val (.bool r32))) rfl rfl rfl rfl rfl (fun hq44 => ?_) (fun hq44 => ?_)
                          ·
                            exfalso; simp only [hq33, hq34, hq35, hq42, hq43, Bool.and_true, Bool.true_and, Bool.and_false, Bool.false_and, Bool.not_true, Bool.not_false, cond_true, cond_false, Bool.false_eq_true, Bool.true_eq_false] at hq44
                          ·
                            try simp only [hq33, hq34, hq35, hq42, hq43, Bool.and_true, Bool.true_and, Bool.and_false, Bool.false_and, Bool.not_true, Bool.not_false, cond_true, cond_false, Bool.false_eq_true, Bool.true_eq_false] at hq44
                            all_goals
                              refine al_run tt_ok rfl (by first | (simp only [hq33, hq34, hq35, hq42, hq43, hq44, Bool.and_true, Bool.true_and, Bool.or_true, Bool.true_or, Bool.not_true, Bool.not_false, Bool.or_false, Bool.false_or, Bool.and_self, Bool.not_or_self, Bool.or_self, decide_true, cond_true, cond_false]; done) | (revert hq33 hq34 hq35 hq42 hq43 hq44; generalize (decide ((r26.2.1 : Int) = (r26.1.length : Int))) = b0; generalize (decide (r26.2.2 = (0 : Int))) = b1; generalize (decide (r2.2 = (0 : Int))) = b2; generalize (decide (r3.2 = (0 : Int))) = b3; generalize (r31 == o15.1) = b4; generalize (r27 == r28) = b5; generalize (r29 == r30) = b6; revert b0 b1 b2 b3 b4 b5 b6; decide) | (simp_all; done) | (simp only [hq33, hq34, hq35, hq42, hq43, hq44, Bool.and_true, Bool.true_and, Bool.or_true, Bool.true_or, Bool.not_true, Bool.not_false, Bool.or_false, Bool.false_or, Bool.and_self, Bool.not_or_self, Bool.or_self, decide_true, cond_true, cond_false]; rfl)) ?_
                              refine ax_ret ?_
                              obtain rfl := Option.some.inj h
                              refine ⟨_, (Wk.sub (st' := ⟨[(6, _)], []⟩) (SubL.cons rfl SubL.nil) SubH.nil), _, _, rfl, rfl, ?_⟩
                              exact ⟨rfl, rfl⟩
          ·
            try simp only [hq33, Bool.and_true, Bool.true_and, Bool.and_false, Bool.false_and, Bool.not_true, Bool.not_false, cond_true, cond_false, Bool.false_eq_true, Bool.true_eq_false] at hq34
            all_goals
              refine al_upto tt_ok rfl (by first | (simp only [hq33, hq34, Bool.and_true, Bool.true_and, Bool.or_true, Bool.true_or, Bool.not_true, Bool.not_false, Bool.or_false, Bool.false_or, Bool.and_self, Bool.not_or_self, Bool.or_self, decide_true, cond_true, cond_false]; done) | (revert hq33 hq34; generalize (decide ((r26.2.1 : Int) = (r26.1.length : Int))) = b0; generalize (decide (r26.2.2 = (0 : Int))) = b1; generalize (decide (r2.2 = (0 : Int))) = b2; generalize (decide (r3.2 = (0 : Int))) = b3; generalize (r31 == o15.1) = b4; generalize (r27 == r28) = b5; generalize (r29 == r30) = b6; revert b0 b1 b2 b3 b4 b5 b6; decide) | (simp_all; done) | (simp only [hq33, hq34, Bool.and_true, Bool.true_and, Bool.or_true, Bool.true_or, Bool.not_true, Bool.not_false, Bool.or_false, Bool.false_or, Bool.and_self, Bool.not_or_self, Bool.or_self, decide_true, cond_true, cond_false]; rfl)) ?_
              refine al_guard (.c (.str r29)) rfl rfl rfl rfl rfl (fun hq45 => ?_) (fun hq45 => ?_)
              ·
                exfalso; simp only [hq33, hq34, Bool.and_true, Bool.true_and, Bool.and_false, Bool.false_and, Bool.not_true, Bool.not_false, cond_true, cond_false, Bool.false_eq_true, Bool.true_eq_false] at hq45
              ·
                try simp only [hq33, hq34, Bool.and_true, Bool.true_and, Bool.and_false, Bool.false_and, Bool.not_true, Bool.not_false, cond_true, cond_false, Bool.false_eq_true, Bool.true_eq_false] at hq45
                all_goals
                  refine al_upto tt_ok rfl (by first | (simp only [hq33, hq34, hq45, Bool.and_true, Bool.true_and, Bool.or_true, Bool.true_or, Bool.not_true, Bool.not_false, Bool.or_false, Bool.false_or, Bool.and_self, Bool.not_or_self, Bool.or_self, decide_true, cond_true, cond_false]; done) | (revert hq33 hq34 hq45; generalize (decide ((r26.2.1 : Int) = (r26.1.length : Int))) = b0; generalize (decide (r26.2.2 = (0 : Int))) = b1; generalize (decide (r2.2 = (0 : Int))) = b2; generalize (decide (r3.2 = (0 : Int))) = b3; generalize (r31 == o15.1) = b4; generalize (r27 == r28) = b5; generalize (r29 == r30) = b6; revert b0 b1 b2 b3 b4 b5 b6; decide) | (simp_all; done) | (simp only [hq33, hq34, hq45, Bool.and_true, Bool.true_and, Bool.or_true, Bool.true_or, Bool.not_true, Bool.not_false, Bool.or_false, Bool.false_or, Bool.and_self, Bool.not_or_self, Bool.or_self, decide_true, cond_true, cond_false]; rfl)) ?_
                  refine al_weak (Wk.frz (id := 14) rfl) ?_
                  refine al_guard (.c (.str r30)) rfl rfl rfl rfl rfl (fun hq46 => ?_) (fun hq46 => ?_)
                  ·
                    exfalso; simp only [hq33, hq34, hq45, Bool.and_true, Bool.true_and, Bool.and_false, Bool.false_and, Bool.not_true, Bool.not_false, cond_true, cond_false, Bool.false_eq_true, Bool.true_eq_false] at hq46
                  ·
                    try simp only [hq33, hq34, hq45, Bool.and_true, Bool.true_and, Bool.and_false, Bool.false_and, Bool.not_true, Bool.not_false, cond_true, cond_false, Bool.false_eq_true, Bool.true_eq_false] at hq46
                    all_goals
                      refine al_upto tt_ok rfl (by first | (simp only [hq33, hq34, hq45, hq46, Bool.and_true, Bool.true_and, Bool.or_true, Bool.true_or, Bool.not_true, Bool.not_false, Bool.or_false, Bool.false_or, Bool.and_self, Bool.not_or_self, Bool.or_self, decide_true, cond_true, cond_false]; done) | (revert hq33 hq34 hq45 hq46; generalize (decide ((r26.2.1 : Int) = (r26.1.length : Int))) = b0; generalize (decide (r26.2.2 = (0 : Int))) = b1; generalize (decide (r2.2 = (0 : Int))) = b2; generalize (decide (r3.2 = (0 : Int))) = b3; generalize (r31 == o15.1) = b4; generalize (r27 == r28) = b5; generalize (r29 == r30) = b6; revert b0 b1 b2 b3 b4 b5 b6; decide) | (simp_all; done) | (simp only [hq33, hq34, hq45, hq46, Bool.and_true, Bool.true_and, Bool.or_true, Bool.true_or, Bool.not_true, Bool.not_false, Bool.or_false, Bool.false_or, Bool.and_self, Bool.not_or_self, Bool.or_self, decide_true, cond_true, cond_false]; rfl)) ?_
                      refine al_guard (.c (.str r31)) rfl rfl rfl rfl rfl (fun hq47 => ?_) (fun hq47 => ?_)
                      ·
                        exfalso; simp only [hq33, hq34, hq45, hq46, Bool.and_true, Bool.true_and, Bool.and_false, Bool.false_and, Bool.not_true, Bool.not_false, cond_true, cond_false, Bool.false_eq_true, Bool.true_eq_false] at hq47
                      ·
                        try simp only [hq33, hq34, hq45, hq46, Bool.and_true, Bool.true_and, Bool.and_false, Bool.false_and, Bool.not_true, Bool.not_false, cond_true, cond_false, Bool.false_eq_true, Bool.true_eq_false] at hq47
                        all_goals
                          refine al_upto tt_ok rfl (by first | (simp only [hq33, hq34, hq45, hq46, hq47, Bool.and_true, Bool.true_and, Bool.or_true, Bool.true_or, Bool.not_true, Bool.not_false, Bool.or_false, Bool.false_or, Bool.and_self, Bool.not_or_self, Bool.or_self, decide_true, cond_true, cond_false]; done) | (revert hq33 hq34 hq45 hq46 hq47; generalize (decide ((r26.2.1 : Int) = (r26.1.length : Int))) = b0; generalize (decide (r26.2.2 = (0 : Int))) = b1; generalize (decide (r2.2 = (0 : Int))) = b2; generalize (decide (r3.2 = (0 : Int))) = b3; generalize (r31 == o15.1) = b4; generalize (r27 == r28) = b5; generalize (r29 == r30) = b6; revert b0 b1 b2 b3 b4 b5 b6; decide) | (simp_all; done) | (simp only [hq33, hq34, hq45, hq46, hq47, Bool.and_true, Bool.true_and, Bool.or_true, Bool.true_or, Bool.not_true, Bool.not_false, Bool.or_false, Bool.false_or, Bool.and_self, Bool.not_or_self, Bool.or_self, decide_true, cond_true, cond_false]; rfl)) ?_
                          refine al_guard (.c (.val (.bool r32))) rfl rfl rfl rfl rfl (fun hq48 => ?_) (fun hq48 => ?_)
                          ·
                            exfalso; simp only [hq33, hq34, hq45, hq46, hq47, Bool.and_true, Bool.true_and, Bool.and_false, Bool.false_and, Bool.not_true, Bool.not_false, cond_true, cond_false, Bool.false_eq_true, Bool.true_eq_false] at hq48
                          ·
                            try simp only [hq33, hq34, hq45, hq46, hq47, Bool.and_true, Bool.true_and, Bool.and_false, Bool.false_and, Bool.not_true, Bool.not_false, cond_true, cond_false, Bool.false_eq_true, Bool.true_eq_false] at hq48
                            all_goals
                              refine al_run tt_ok rfl (by first | (simp only [hq33, hq34, hq45, hq46, hq47, hq48, Bool.and_true, Bool.true_and, Bool.or_true, Bool.true_or, Bool.not_true, Bool.not_false, Bool.or_false, Bool.false_or, Bool.and_self, Bool.not_or_self, Bool.or_self, decide_true, cond_true, cond_false]; done) | (revert hq33 hq34 hq45 hq46 hq47 hq48; generalize (decide ((r26.2.1 : Int) = (r26.1.length : Int))) = b0; generalize (decide (r26.2.2 = (0 : Int))) = b1; generalize (decide (r2.2 = (0 : Int))) = b2; generalize (decide (r3.2 = (0 : Int))) = b3; generalize (r31 == o15.1) = b4; generalize (r27 == r28) = b5; generalize (r29 == r30) = b6; revert b0 b1 b2 b3 b4 b5 b6; decide) | (simp_all; done) | (simp only [hq33, hq34, hq45, hq46, hq47, hq48, Bool.and_true, Bool.true_and, Bool.or_true, Bool.true_or, Bool.not_true, Bool.not_false, Bool.or_false, Bool.false_or, Bool.and_self, Bool.not_or_self, Bool.or_self, decide_true, cond_true, cond_false]; rfl)) ?_
                              refine ax_ret ?_
                              obtain rfl := Option.some.inj h
                              refine ⟨_, (Wk.sub (st' := ⟨[(6, _)], []⟩) (SubL.cons rfl SubL.nil) SubH.nil), _, _, rfl, rfl, ?_⟩
                              exact ⟨rfl, rfl⟩
      ·
        try simp only [Bool.and_true, Bool.true_and, Bool.and_false, Bool.false_and, Bool.not_true, Bool.not_false, cond_true, cond_false, Bool.false_eq_true, Bool.true_eq_false] at hq33
        all_goals
          refine al_upto tt_ok rfl (by first | (simp only [hq33, Bool.and_true, Bool.true_and, Bool.or_true, Bool.true_or, Bool.not_true, Bool.not_false, Bool.or_false, Bool.false_or, Bool.and_self, Bool.not_or_self, Bool.or_self, decide_true, cond_true, cond_false]; done) | (revert hq33; generalize (decide ((r26.2.1 : Int) = (r26.1.length : Int))) = b0; generalize (decide (r26.2.2 = (0 : Int))) = b1; generalize (decide (r2.2 = (0 : Int))) = b2; generalize (decide (r3.2 = (0 : Int))) = b3; generalize (r31 == o15.1) = b4; generalize (r27 == r28) = b5; generalize (r29 == r30) = b6; revert b0 b1 b2 b3 b4 b5 b6; decide) | (simp_all; done) | (simp only [hq33, Bool.and_true, Bool.true_and, Bool.or_true, Bool.true_or, Bool.not_true, Bool.not_false, Bool.or_false, Bool.false_or, Bool.and_self, Bool.not_or_self, Bool.or_self, decide_true, cond_true, cond_false]; rfl)) ?_
          refine al_weak (Wk.frz (id := 43) rfl) ?_
          refine al_guard (.c (.str r28)) rfl rfl rfl rfl rfl (fun hq49 => ?_) (fun hq49 => ?_)
          ·
            exfalso; simp only [hq33, Bool.and_true, Bool.true_and, Bool.and_false, Bool.false_and, Bool.not_true, Bool.not_false, cond_true, cond_false, Bool.false_eq_true, Bool.true_eq_false] at hq49
          ·
            try simp only [hq33, Bool.and_true, Bool.true_and, Bool.and_false, Bool.false_and, Bool.not_true, Bool.not_false, cond_true, cond_false, Bool.false_eq_true, Bool.true_eq_false] at hq49
            all_goals
              refine al_upto tt_ok rfl (by first | (simp only [hq33, hq49, Bool.and_true, Bool.true_and, Bool.or_true, Bool.true_or, Bool.not_true, Bool.not_false, Bool.or_false, Bool.false_or, Bool.and_self, Bool.not_or_self, Bool.or_self, decide_true, cond_true, cond_false]; done) | (revert hq33 hq49; generalize (decide ((r26.2.1 : Int) = (r26.1.length : Int))) = b0; generalize (decide (r26.2.2 = (0 : Int))) = b1; generalize (decide (r2.2 = (0 : Int))) = b2; generalize (decide (r3.2 = (0 : Int))) = b3; generalize (r31 == o15.1) = b4; generalize (r27 == r28) = b5; generalize (r29 == r30) = b6; revert b0 b1 b2 b3 b4 b5 b6; decide) | (simp_all; done) | (simp only [hq33, hq49, Bool.and_true, Bool.true_and, Bool.or_true, Bool.true_or, Bool.not_true, Bool.not_false, Bool.or_false, Bool.false_or, Bool.and_self, Bool.not_or_self, Bool.or_self, decide_true, cond_true, cond_false]; rfl)) ?_
              refine al_guard (.c (.str r29)) rfl rfl rfl rfl rfl (fun hq50 => ?_) (fun hq50 => ?_)
              ·
                exfalso; simp only [hq33, hq49, Bool.and_true, Bool.true_and, Bool.and_false, Bool.false_and, Bool.not_true, Bool.not_false, cond_true, cond_false, Bool.false_eq_true, Bool.true_eq_false] at hq50
              ·
                try simp only [hq33, hq49, Bool.and_true, Bool.true_and, Bool.and_false, Bool.false_and, Bool.not_true, Bool.not_false, cond_true, cond_false, Bool.false_eq_true, Bool.true_eq_false] at hq50
                all_goals
                  refine al_upto tt_ok rfl (by first | (simp only [hq33, hq49, hq50, Bool.and_true, Bool.true_and, Bool.or_true, Bool.true_or, Bool.not_true, Bool.not_false, Bool.or_false, Bool.false_or, Bool.and_self, Bool.not_or_self, Bool.or_self, decide_true, cond_true, cond_false]; done) | (revert hq33 hq49 hq50; generalize (decide ((r26.2.1 : Int) = (r26.1.length : Int))) = b0; generalize (decide (r26.2.2 = (0 : Int))) = b1; generalize (decide (r2.2 = (0 : Int))) = b2; generalize (decide (r3.2 = (0 : Int))) = b3; generalize (r31 == o15.1) = b4; generalize (r27 == r28) = b5; generalize (r29 == r30) = b6; revert b0 b1 b2 b3 b4 b5 b6; decide) | (simp_all; done) | (simp only [hq33, hq49, hq50, Bool.and_true, Bool.true_and, Bool.or_true, Bool.true_or, Bool.not_true, Bool.not_false, Bool.or_false, Bool.false_or, Bool.and_self, Bool.not_or_self, Bool.or_self, decide_true, cond_true, cond_false]; rfl)) ?_
                  refine al_weak (Wk.frz (id := 14) rfl) ?_
                  refine al_guard (.c (.str r30)) rfl rfl rfl rfl rfl (fun hq51 => ?_) (fun hq51 => ?_)
                  ·
                    exfalso; simp only [hq33, hq49, hq50, Bool.and_true, Bool.true_and, Bool.and_false, Bool.false_and, Bool.not_true, Bool.not_false, cond_true, cond_false, Bool.false_eq_true, Bool.true_eq_false] at hq51
                  ·
                    try simp only [hq33, hq49, hq50, Bool.and_true, Bool.true_and, Bool.and_false, Bool.false_and, Bool.not_true, Bool.not_false, cond_true, cond_false, Bool.false_eq_true, Bool.true_eq_false] at hq51
                    all_goals
                      refine al_upto tt_ok rfl (by first | (simp only [hq33, hq49, hq50, hq51, Bool.and_true, Bool.true_and, Bool.or_true, Bool.true_or, Bool.not_true, Bool.not_false, Bool.or_false, Bool.false_or, Bool.and_self, Bool.not_or_self, Bool.or_self, decide_true, cond_true, cond_false]; done) | (revert hq33 hq49 hq50 hq51; generalize (decide ((r26.2.1 : Int) = (r26.1.length : Int))) = b0; generalize (decide (r26.2.2 = (0 : Int))) = b1; generalize (decide (r2.2 = (0 : Int))) = b2; generalize (decide (r3.2 = (0 : Int))) = b3; generalize (r31 == o15.1) = b4; generalize (r27 == r28) = b5; generalize (r29 == r30) = b6; revert b0 b1 b2 b3 b4 b5 b6; decide) | (simp_all; done) | (simp only [hq33, hq49, hq50, hq51, Bool.and_true, Bool.true_and, Bool.or_true, Bool.true_or, Bool.not_true, Bool.not_false, Bool.or_false, Bool.false_or, Bool.and_self, Bool.not_or_self, Bool.or_self, decide_true, cond_true, cond_false]; rfl)) ?_
                      refine al_guard (.c (.str r31)) rfl rfl rfl rfl rfl (fun hq52 => ?_) (fun hq52 => ?_)
                      ·
                        exfalso; simp only [hq33, hq49, hq50, hq51, Bool.and_true, Bool.true_and, Bool.and_false, Bool.false_and, Bool.not_true, Bool.not_false, cond_true, cond_false, Bool.false_eq_true, Bool.true_eq_false] at hq52
                      ·
                        try simp only [hq33, hq49, hq50, hq51, Bool.and_true, Bool.true_and, Bool.and_false, Bool.false_and, Bool.not_true, Bool.not_false, cond_true, cond_false, Bool.false_eq_true, Bool.true_eq_false] at hq52
                        all_goals
                          refine al_upto tt_ok rfl (by first | (simp only [hq33, hq49, hq50, hq51, hq52, Bool.and_true, Bool.true_and, Bool.or_true, Bool.true_or, Bool.not_true, Bool.not_false, Bool.or_false, Bool.false_or, Bool.and_self, Bool.not_or_self, Bool.or_self, decide_true, cond_true, cond_false]; done) | (revert hq33 hq49 hq50 hq51 hq52; generalize (decide ((r26.2.1 : Int) = (r26.1.length : Int))) = b0; generalize (decide (r26.2.2 = (0 : Int))) = b1; generalize (decide (r2.2 = (0 : Int))) = b2; generalize (decide (r3.2 = (0 : Int))) = b3; generalize (r31 == o15.1) = b4; generalize (r27 == r28) = b5; generalize (r29 == r30) = b6; revert b0 b1 b2 b3 b4 b5 b6; decide) | (simp_all; done) | (simp only [hq33, hq49, hq50, hq51, hq52, Bool.and_true, Bool.true_and, Bool.or_true, Bool.true_or, Bool.not_true, Bool.not_false, Bool.or_false, Bool.false_or, Bool.and_self, Bool.not_or_self, Bool.or_self, decide_true, cond_true, cond_false]; rfl)) ?_
                          refine al_guard (.c (.val (.bool r32))) rfl rfl rfl rfl rfl (fun hq53 => ?_) (fun hq53 => ?_)
                          ·
                            exfalso; simp only [hq33, hq49, hq50, hq51, hq52, Bool.and_true, Bool.true_and, Bool.and_false, Bool.false_and, Bool.not_true, Bool.not_false, cond_true, cond_false, Bool.false_eq_true, Bool.true_eq_false] at hq53
                          ·
                            try simp only [hq33, hq49, hq50, hq51, hq52, Bool.and_true, Bool.true_and, Bool.and_false, Bool.false_and, Bool.not_true, Bool.not_false, cond_true, cond_false, Bool.false_eq_true, Bool.true_eq_false] at hq53
                            all_goals
                              refine al_run tt_ok rfl (by first | (simp only [hq33, hq49, hq50, hq51, hq52, hq53, Bool.and_true, Bool.true_and, Bool.or_true, Bool.true_or, Bool.not_true, Bool.not_false, Bool.or_false, Bool.false_or, Bool.and_self, Bool.not_or_self, Bool.or_self, decide_true, cond_true, cond_false]; done) | (revert hq33 hq49 hq50 hq51 hq52 hq53; generalize (decide ((r26.2.1 : Int) = (r26.1.length : Int))) = b0; generalize (decide (r26.2.2 = (0 : Int))) = b1; generalize (decide (r2.2 = (0 : Int))) = b2; generalize (decide (r3.2 = (0 : Int))) = b3; generalize (r31 == o15.1) = b4; generalize (r27 == r28) = b5; generalize (r29 == r30) = b6; revert b0 b1 b2 b3 b4 b5 b6; decide) | (simp_all; done) | (simp only [hq33, hq49, hq50, hq51, hq52, hq53, Bool.and_true, Bool.true_and, Bool.or_true, Bool.true_or, Bool.not_true, Bool.not_false, Bool.or_false, Bool.false_or, Bool.and_self, Bool.not_or_self, Bool.or_self, decide_true, cond_true, cond_false]; rfl)) ?_
                              refine ax_ret ?_
                              obtain rfl := Option.some.inj h
                              refine ⟨_, (Wk.sub (st' := ⟨[(6, _)], []⟩) (SubL.cons rfl SubL.nil) SubH.nil), _, _, rfl, rfl, ?_⟩
                              exact ⟨rfl, rfl⟩
end Go.Proofs.YtcjpcmofajcadaaDoor

/- Plain facts: texts of operations, places, EdgesPrograms. -/
namespace Go.Proofs.YtcjpcmofajcadaaDoor
open Go.RowKit
def AllN (o : List OpT) : Prop := ∀ z ∈ o, OpN z
theorem AllN.append {a b : List OpT} (h : AllN a) (k : AllN b) : AllN (a ++ b) := fun z hz => (List.mem_append.1 hz).elim (h z) (k z)
theorem turn_N {o : List OpT} (h : AllN o) (a b : Int) : AllN (turnOps o a b) := by
  unfold turnOps
  split
  · exact h
  · exact h.append fun z hz => by
      simp only [List.mem_singleton] at hz
      subst hz
      exact ⟨by show (0 : Int) ≤ 3; omega, Int.le_refl 0, Int.le_refl 0, Int.le_refl 0⟩
theorem xfers_N (b r : Int) (hb : 0 ≤ b) (l : List Int) : AllN (xfers b r l) := fun z hz => by
  obtain ⟨k, _, rfl⟩ := List.mem_map.1 hz
  exact ⟨by show (0 : Int) ≤ 7; omega, Int.le_refl 0, hb, Int.le_refl 0⟩
theorem moveF_N : ∀ (f : Nat) (o : List OpT) (rk : Int) (l : List Int) (d : Int), AllN o → AllN (moveF f o rk l d).1
  | 0, _, _, _, _, h => h
  | f + 1, o, rk, l, d, h => by
    unfold moveF
    split
    · exact h
    · exact moveF_N f _ _ _ _ ((turn_N ((turn_N h _ _).append (xfers_N 0 0 (by omega) l)) _ _).append (xfers_N 1 _ (by omega) l))
theorem moveAll_N (o : List OpT) (rk : Int) (l : List Int) (d : Int) (h : AllN o) : AllN (moveAll o rk l d).1 := moveF_N _ o rk l d h
theorem st1_N (fr to : List Int) : ∀ i, AllN (st1 fr to i).1.1
  | 0 => fun z hz => by simp [st1] at hz
  | i + 1 => by
    unfold st1
    split
    · exact moveAll_N _ _ _ _ (st1_N fr to i)
    · exact st1_N fr to i
theorem fold_N (st : List OpT × Int → Int → List OpT × Int) (hst : ∀ p i, AllN p.1 → AllN (st p i).1) : ∀ (L : List Int) (p : List OpT × Int), AllN p.1 → AllN (L.foldl st p).1
  | [], _, h => h
  | x :: L, p, h => fold_N st hst L _ (hst p x h)
theorem plan_N (fr to : List Int) : AllN (planOf fr to) := by
  unfold planOf planAB
  refine turn_N (fold_N _ (fun p i h => ?_) _ _ (fold_N _ (fun p i h => ?_) _ _ (st1_N fr to _))) _ _
  · unfold stepDn; split
    · exact moveAll_N _ _ _ _ h
    · exact h
  · unfold stepUp; split
    · exact moveAll_N _ _ _ _ h
    · exact h
theorem optext_eq (o : OpT) (h : OpN o) : m_optext o = some (textT o) := by
  unfold m_optext
  rw [gd_t]
  obtain ⟨h1, h2, h3, h4⟩ := h
  simp [opNB, h1, h2, h3, h4]
theorem getD_N {l : List OpT} (h : AllN l) (k : Nat) (hk : k < l.length) : OpN (l.getD k gOp.zero) := h _ (by
  rw [List.getD_eq_getElem?_getD, List.getElem?_eq_getElem hk]
  exact List.getElem_mem hk)
theorem text29_eq (l : List OpT) (hl : l.length ≤ 1000000) (hn : AllN l) : m_text29 l = some (textL l) := by
  have hF : l.length < FUEL := fuel_of hl
  have hL : m_text29_L2 l FUEL [] 0 = some (tx l l.length) := loopS (fun n i s => m_text29_L2 l n s i) l.length (fun k => tx l k) [] (tx l l.length) rfl hF (fun n k hk => by
    show m_text29_L2 l (n + 1) (tx l k) k = m_text29_L2 l n (tx l (k + 1)) (k + 1)
    have h1 := tx_len l k
    have h2 := textT_len (l.getD k gOp.zero)
    have h3 := optext_eq _ (getD_N hn k hk)
    rw [m_text29_L2, tx, Int.toNat_natCast, h3]
    by_cases h0 : 0 < k
    · rw [if_pos h0]
      simp (disch := ((try simp [inB, inI64, fitB, -List.getD_eq_getElem?_getD]); try omega; done)) only [gdt, cdt, cdf, Option.bind_some]
    · rw [if_neg h0]
      simp (disch := ((try simp [inB, inI64, fitB, -List.getD_eq_getElem?_getD]); try omega; done)) only [gdt, cdt, cdf, Option.bind_some]) (fun n => by
    show m_text29_L2 l (n + 1) (tx l l.length) l.length = _
    rw [m_text29_L2, cdf (by simp)])
  unfold m_text29
  rw [hL]
  rfl
/-- The slots of a law's S. -/
theorem sof_eq (x : List (Int × Int × Int)) (hx : ∀ z ∈ x, 0 ≤ z.1 ∧ 0 ≤ z.2.1 ∧ 0 ≤ z.2.2) : ∀ (n : Nat) (i a b st : Int) (fr lo to : List Int), SInv i a b st fr lo to → (8 - i).toNat < n →
    ∃ fr' lo' to', m_sof_L2 x false n a b st i fr lo to = some (fr', lo', to') ∧ SOk fr' lo' to'
  | 0, _, _, _, _, _, _, _, _, h => by omega
  | n + 1, i, a, b, st, fr, lo, to, hI, hn => by
    have hi0 := hI.i0
    have hi8 := hI.i8
    have ha0 := hI.a0
    have ha40 := hI.a40
    have hb0 := hI.b0
    have hb40 := hI.b40
    have hs0 := hI.s0
    have hs40 := hI.s40
    have hfl := hI.len
    have hll := hI.ok.llen
    have htl := hI.ok.len
    rw [m_sof_L2]
    by_cases hc : i < x.length ∧ i < 8
    · obtain ⟨hlt1, hlt2⟩ := hc
      have hz := hx (x.getD i.toNat g3.zero) (by
        rw [List.getD_eq_getElem?_getD, List.getElem?_eq_getElem (by omega)]
        exact List.getElem_mem (by omega))
      obtain ⟨hz1, hz2, hz3⟩ := hz
      have hm1 := tmod_small _ 6 hz1 (by omega)
      have hm2 := tmod_small _ 2 hz2 (by omega)
      have hm3 := tmod_small _ 6 hz3 (by omega)
      generalize Int.tmod (x.getD i.toNat g3.zero).1 6 = d at *
      generalize Int.tmod (x.getD i.toNat g3.zero).2.1 2 = e at *
      generalize Int.tmod (x.getD i.toNat g3.zero).2.2 6 = s at *
      simp (disch := ((try simp [inB, inI64, fitB, -List.getD_eq_getElem?_getD]); try omega; done)) only [gdt, cdt, cdf, Option.bind_some]
      by_cases h40 : 40 < a + 1 + d ∨ 40 < b + (s + 1)
      · simp (disch := ((try simp [inB, inI64, fitB, -List.getD_eq_getElem?_getD]); try omega; done)) only [gdt, cdt, cdf, Option.bind_some]
        exact ⟨fr, lo, to, rfl, hI.ok⟩
      · simp (disch := ((try simp [inB, inI64, fitB, -List.getD_eq_getElem?_getD]); try omega; done)) only [gdt, cdt, cdf, Option.bind_some]
        exact sof_eq x hx n (i + 1) (a + 1 + d) (b + (s + 1)) (0 + (1 + e)) _ _ _ (hI.next hlt2 d (1 + e) (s + 1) (0 + (1 + e)) hm1.1 (by omega) (by omega) (by omega) (by omega) (by omega) (by omega)) (by omega)
    · simp (disch := ((try simp [inB, inI64, fitB, -List.getD_eq_getElem?_getD]); try omega; done)) only [gdt, cdt, cdf, Option.bind_some]
      exact ⟨fr, lo, to, rfl, hI.ok⟩
end Go.Proofs.YtcjpcmofajcadaaDoor

/- EdgesPrograms, plain. -/
namespace Go.Proofs.YtcjpcmofajcadaaDoor
open Go.RowKit
theorem chkAll_take (l : List Int) (k : Nat) (h : chkAll l = true) : chkAll (l.take k) = true := by
  rw [chkAll, List.all_eq_true] at h ⊢
  intro i hi
  simp only [List.length_take, List.mem_range] at hi
  have h5 := h i (by simp; omega)
  have e : ∀ j : Nat, j < k → (l.take k).getD j 0 = l.getD j 0 := fun j hj => by
    rw [List.getD_eq_getElem?_getD, List.getD_eq_getElem?_getD, List.getElem?_take, if_pos hj]
  simp only [okAt, Int.toNat_natCast, Bool.and_eq_true, Bool.or_eq_true, decide_eq_true_eq] at h5 ⊢
  rw [e i (by omega), e ((i : Int) - 1).toNat (by omega)]
  exact h5
theorem trim_eq : ∀ (n : Nat) (l : List Int), l.length < n → l.length ≤ 1000000 → ∃ k, k ≤ l.length ∧ m_places_L3 n l = some (l.take k) ∧ (0 < k → l.getD (k - 1) 0 ≤ 39)
  | 0, l, h, _ => by omega
  | n + 1, l, h, hl => by
    have e : ((l.length : Int) - 1).toNat = l.length - 1 := by omega
    rw [m_places_L3, e]
    by_cases hc : 0 < l.length ∧ 39 < l.getD (l.length - 1) 0
    · obtain ⟨h1, h2⟩ := hc
      simp (disch := ((try simp [inB, inI64, fitB, -List.getD_eq_getElem?_getD]); try omega; done)) only [gdt, cdt, cdf, Option.bind_some]
      have hlen : (l.take (l.length - 1)).length = l.length - 1 := by simp
      obtain ⟨k, hk1, hk2, hk3⟩ := trim_eq n (l.take (l.length - 1)) (by omega) (by omega)
      refine ⟨k, by omega, ?_, fun h0 => ?_⟩
      · rw [hk2, List.take_take, Nat.min_eq_left (by omega)]
      · have := hk3 h0
        rw [List.getD_eq_getElem?_getD, List.getElem?_take, if_pos (by omega)] at this
        rw [List.getD_eq_getElem?_getD]
        exact this
    · refine ⟨l.length, Nat.le_refl _, ?_, fun h0 => by omega⟩
      rw [List.take_length]
      by_cases hp : 0 < l.length
      · simp (disch := ((try simp [inB, inI64, fitB, -List.getD_eq_getElem?_getD]); try omega; done)) only [gdt, cdt, cdf, Option.bind_some]
      · have hl0 : l = [] := by simpa using hp
        subst hl0
        rfl
theorem places_eq (x : List (Int × Int × Int)) (hx : ∀ z ∈ x, 0 ≤ z.1 ∧ 0 ≤ z.2.1 ∧ 0 ≤ z.2.2) : ∃ l, m_places x = some l ∧ chkAll l = true ∧ 0 < l.length ∧ l.length ≤ 8 ∧ l.getD (l.length - 1) 0 ≤ 39 := by
  obtain ⟨fr, lo, to, hs, hok⟩ := sof_eq x hx FUEL 0 0 0 0 [] [] [] ⟨⟨rfl, rfl, rfl, rfl, by simp, by simp⟩, by simp, by simp, rfl, by simp, by simp, by simp, by simp, by simp, by simp, by simp, by simp, by simp⟩ (Nat.lt_of_le_of_lt (by decide) (fuel_of (n := 1000000) (Nat.le_refl _)))
  have h8 := hok.le
  obtain ⟨k, hk1, hk2, hk3⟩ := trim_eq FUEL fr (fuel_of (Nat.le_trans h8 (by decide))) (Nat.le_trans h8 (by decide))
  unfold m_places m_sof
  rw [hs, Option.bind_some, Option.bind_some]
  dsimp only
  rw [hk2, Option.bind_some]
  have hlen : (fr.take k).length = k := by simp; omega
  by_cases h0 : k = 0
  · refine ⟨[7], ?_, by decide, by decide, by decide, by decide⟩
    rw [cdt (by rw [hlen, h0]; rfl)]
  · refine ⟨fr.take k, ?_, chkAll_take _ _ hok.hfr, by omega, by omega, ?_⟩
    · rw [cdf (by rw [hlen]; simp; omega)]
    · rw [hlen, List.getD_eq_getElem?_getD, List.getElem?_take, if_pos (by omega), ← List.getD_eq_getElem?_getD]
      exact hk3 (by omega)
theorem castOps_N (y : Int) (hy : 0 ≤ y) (l : List Int) : AllN (castOps y l) := fun z hz => by
  rcases List.mem_cons.1 hz with rfl | hz
  · exact ⟨by show (0 : Int) ≤ 1; omega, Int.le_refl 0, Int.le_refl 0, hy⟩
  · obtain ⟨k, _, rfl⟩ := List.mem_map.1 hz
    exact ⟨by show (0 : Int) ≤ 4; omega, by show (0 : Int) ≤ 1; omega, Int.le_refl 0, hy⟩
theorem castOp_N (kd k y : Int) (hk : 0 ≤ kd) (hy : 0 ≤ y) : AllN [castOp kd k y] := fun z hz => by
  simp only [List.mem_singleton] at hz
  subst hz
  exact ⟨hk, by show (0 : Int) ≤ 1; omega, Int.le_refl 0, hy⟩
theorem bindTo_N (y : Int) (hy : 0 ≤ y) (l : List Int) : ∀ k, AllN (bindTo y l k)
  | 0 => fun z hz => by simp [bindTo] at hz
  | k + 1 => by
    unfold bindTo
    refine AllN.append ?_ (castOp_N 4 _ y (by omega) hy)
    split
    · exact (bindTo_N y hy l k).append (plan_N _ _)
    · exact bindTo_N y hy l k
theorem bindPlan_N (y : Int) (hy : 0 ≤ y) (l : List Int) : AllN (bindPlan y l) := (bindTo_N y hy l _).append fun z hz => by
  simp only [List.mem_singleton] at hz
  subst hz
  exact ⟨by show (0 : Int) ≤ 8; omega, Int.le_refl 0, Int.le_refl 0, Int.le_refl 0⟩
/-- What the law makes of the bits of a number. -/
def l16ok (a : Int) : Bool := match m_edgesPrograms_L16 a FUEL [] 0 [] with
  | some (g, o) => lvAll o && decide (o.length ≤ 10) && (m_text29 (o.map outOp) == some g)
  | none => false
set_option maxRecDepth 100000 in
theorem l16_all : (List.range 256).all (fun i => l16ok (i : Int)) = true := by kernel_rfl
theorem edgesPrograms_eq (x : List (Int × Int × Int)) (yarn lv : Int) (hx : ∀ z ∈ x, 0 ≤ z.1 ∧ 0 ≤ z.2.1 ∧ 0 ≤ z.2.2) (hy : 0 ≤ yarn) (h0 : 0 ≤ lv) (h1 : lv ≤ 255) : m_edgesPrograms x yarn lv = some true := by
  obtain ⟨l, hpl, hc, hp, hl8, h39⟩ := places_eq x hx
  have hl : l.length ≤ 1000000 := Nat.le_trans hl8 (by decide)
  have hF : l.length < FUEL := fuel_of hl
  have hm := tmod_small yarn 6 hy (by omega)
  have hyw : IntKind.wrap .u8 ((1 : Int) + Int.tmod yarn 6) = 1 + Int.tmod yarn 6 := IntWalk.u8_in _ (by omega)
  obtain ⟨y, ey⟩ : ∃ y, y = 1 + Int.tmod yarn 6 := ⟨_, rfl⟩
  rw [← ey] at hyw
  have hy1 : 1 ≤ y := by omega
  have hy6 : y ≤ 6 := by omega
  have hok : eOk y l = true := by simp [eOk, hy1, hy6, hc, hp]
  have e1 : ((l.length : Int) - 1).toNat = l.length - 1 := by omega
  have hb := bindTo_len y l hc l.length (Nat.le_refl _)
  have hL5 : m_edgesPrograms_L5 yarn l FUEL 0 [] [((1 : Int), ((0 : Int), (((0 : Int), (0 : Int)), (y, (0 : Int)))))] (some 1) = some (bindTo y l l.length, castOps y l, if l.length = 0 then some 1 else none) :=
    loopS (fun n i (s : List OpT × List OpT × Option Nat) => m_edgesPrograms_L5 yarn l n i s.1 s.2.1 s.2.2) l.length (fun k => (bindTo y l k, castOps y (l.take k), if k = 0 then some 1 else none)) ([], [((1 : Int), ((0 : Int), (((0 : Int), (0 : Int)), (y, (0 : Int)))))], some 1) _ rfl hF (fun n k hk => by
      show m_edgesPrograms_L5 yarn l (n + 1) k (bindTo y l k) (castOps y (l.take k)) (if k = 0 then some 1 else none) = m_edgesPrograms_L5 yarn l n (k + 1) (bindTo y l (k + 1)) (castOps y (l.take (k + 1))) (if k + 1 = 0 then some 1 else none)
      have hbk := bindTo_len y l hc k (by omega)
      rw [m_edgesPrograms_L5, ← ey, hyw, bindTo, take_s l 0 k hk, if_neg (Nat.succ_ne_zero k)]
      by_cases hk0 : 0 < k
      · have e2 : ((k : Int) - 1).toNat = k - 1 := by omega
        have hs := shift_one _ _ (chk_at hc (k - 1) (by omega)) (chk_at hc k hk)
        have hpo := plan_one _ _ (chk_at hc (k - 1) (by omega)) (chk_at hc k hk)
        rw [e2, Int.toNat_natCast, hs, if_pos hk0]
        simp (disch := ((try simp [inB, inI64, fitB, -List.getD_eq_getElem?_getD, castOps]); try omega; done)) only [gdt, cdt, cdf, Option.bind_some]
        simp [castOps, castOp]
      · rw [if_neg hk0]
        simp (disch := ((try simp [inB, inI64, fitB, -List.getD_eq_getElem?_getD, castOps]); try omega; done)) only [gdt, cdt, cdf, Option.bind_some]
        simp [castOps, castOp]) (fun n => by
      show m_edgesPrograms_L5 yarn l (n + 1) l.length (bindTo y l l.length) (castOps y (l.take l.length)) _ = _
      rw [m_edgesPrograms_L5, cdf (by simp), List.take_length])
  have h16 : l16ok lv = true := by
    have := List.all_eq_true.1 l16_all lv.toNat (by simp; omega)
    rw [Int.toNat_of_nonneg h0] at this
    exact this
  unfold l16ok at h16
  split at h16
  · rename_i g o ho
    simp only [Bool.and_eq_true, decide_eq_true_eq, beq_iff_eq] at h16
    obtain ⟨⟨hlv, hol⟩, hg⟩ := h16
    unfold m_edgesPrograms
    rw [hpl, Option.bind_some, ← ey, hyw, caston_eq y l hl, bindoff_eq y l hl, hL5, ho]
    have ht1 := text29_eq (castPlan y l) (by simp [castPlan, castOps]; omega) ((castOps_N y (by omega) l).append (castOp_N 6 40 y (by omega) (by omega)))
    have ht2 := text29_eq (bindPlan y l) (by simp [bindPlan]; omega) (bindPlan_N y (by omega) l)
    have hlo := leave_eq o (Nat.le_trans hol (by decide))
    rw [hlv, if_pos rfl] at hlo
    have ec : castOps y l ++ [((6 : Int), ((1 : Int), (((0 : Int), (40 : Int)), (y, (0 : Int)))))] = castPlan y l := rfl
    have eb : bindTo y l l.length ++ [((8 : Int), ((0 : Int), (((0 : Int), l.getD (l.length - 1) 0), ((0 : Int), (0 : Int)))))] = bindPlan y l := rfl
    have en : ¬ l.getD (l.length - 1) 0 = 40 := by omega
    rw [hok, if_neg (by simp), if_neg en, if_neg (by simp), e1]
    simp only [Option.bind_some]
    rw [gd_t (by simp [fitB, castOps]; omega), gd_t (by simp [inI64, inB, fitB]; omega)]
    simp only [Option.bind_some, hlo, ec, eb, ht1, ht2, hg, lives29_eq, eq_self, decide_true, cond_true, beq_self_eq_true, List.length_map]
  · cases h16
end Go.Proofs.YtcjpcmofajcadaaDoor

/- EdgesPrograms: for every S of layer 27, any yarn and whichever yarns leave, whatever the memory and the order that Go leaves open, the law returns true, and its arguments read as before. The listed package-level variables start as the program's text lays them (the card ties them). -/
namespace Go.Proofs.YtcjpcmofajcadaaDoor
set_option linter.unusedSimpArgs false
set_option linter.unusedVariables false
open Go.ChangeShapes Go.WideShapes Go.ChangeAt Go.WideElems Go.RowKit
theorem u8max : IntKind.u8.max = 255 := rfl
theorem u8min : IntKind.u8.min = 0 := rfl
theorem door_met_edgesPrograms (os : Os) (args : Array Value) : laidMetH Tryd.prog Rows.edgesProgramsRow.laid ((World.doorLaid Tryd.prog 400 os).forCall (fun _ _ => 0) ⟨#[], args, []⟩).memory :=
  laidMetH_of_parts3 (fuel := 8) (laidMet_of_run' 8 (by kernel_rfl) (by kernel_rfl)) (by kernel_rfl) (by kernel_rfl)
theorem read_edgesPrograms : ∀ t ∈ Tryd.f6.params.toList, Tryd.prog.readableRec t = true ∧ t < Tryd.prog.types.size := by
  rw [Tryd.params6]
  intro t ht
  simp only [List.mem_cons, List.not_mem_nil, or_false] at ht
  rcases ht with rfl | rfl | rfl <;> exact ⟨by kernel_rfl, of_decide_eq_true (by kernel_rfl)⟩
set_option maxRecDepth 100000 in
theorem edgesPrograms_lifted (os : Os) (started : os.Started) (H : Type) (enc : TypeId × Value → H) :
    ReturnsInHanded {} Tryd.checked os 6 .any (fun w args => (Rows.edgesProgramsSpec.pre enc Tryd.prog Tryd.f6 [] false w args ∧ laidMetH Tryd.prog Rows.edgesProgramsRow.laid w) ∧ sizedMet enc Tryd.prog Tryd.f6 (OpenSpec.ofChange Rows.edgesProgramsSpec) false w args)
      (Rows.edgesProgramsSpec.post enc Tryd.prog Tryd.f6 false true false false) := by
  refine returnsInHanded_of_change_and (C := Tryd.checked) (X := fun w _ => laidMetH Tryd.prog Rows.edgesProgramsRow.laid w) (fun _ _ _ hh h => h.of_heap hh) Tryd.own started (by kernel_rfl) Tryd.func6
    (ChangeSpec.witness_shaped (enc := enc) (C := Tryd.checked) (os := os) (X := fun w _ => laidMetH Tryd.prog Rows.edgesProgramsRow.laid w) false (World.doorLaid Tryd.prog 400 os) #[.slice none 0 0, .int .u8 0, .int .u8 0] 8 rfl (World.shaped_of_RefB (by kernel_rfl) (by kernel_rfl)) (by kernel_rfl) (by kernel_rfl) (by kernel_rfl) (door_met_edgesPrograms os _)) ?_
  intro W base args ds gs before hval0 hW _ _ hL _
  have hval : ∀ (j : Nat) t v, Tryd.f6.params[j]? = some t → args[j]? = some v → Value.okWide Tryd.prog W .any base t v := hval0
  have hW' := hW
  obtain ⟨p, q, hA0, hV, rfl, hfz, hnd⟩ := hW
  have hA : DataW.TrodAll enc Tryd.prog W 0 (fun _ => true) true Tryd.f6.params.toList args.toList ds p := hA0
  rw [Tryd.params6] at hA hval
  obtain ⟨v0, v1, v2, d0, d1, d2, p0, p1, p2, rfl, rfl, rfl, h0, h1, h2⟩ := trodAll_three hA
  obtain ⟨rfl, rfl⟩ := trodVars_none hV
  obtain ⟨x0, hx0, hv0⟩ := open_sl (g := g3) (by decide) Tryd.underlying23 (by kernel_rfl) (dec_arr3 Tryd.underlying72 Tryd.underlying5 (by kernel_rfl) (by kernel_rfl)) (hval 0 23 v0 rfl rfl) h0
  obtain ⟨x1, rfl, rfl, rfl, hw1⟩ := open_int Tryd.underlying5 (hval 1 5 v1 rfl rfl) h1
  have hx1 := wf_range hw1
  obtain ⟨x2, rfl, rfl, rfl, hw2⟩ := open_int Tryd.underlying5 (hval 2 5 v2 rfl rfl) h2
  have hx2 := wf_range hw2
  have hlaw := AC.law (W := W) (w_edgesPrograms x0 x1 x2 none true (edgesPrograms_eq x0 x1 x2 hx0 (by have := hx1.1; rw [u8min] at this; exact this) (by have := hx2.1; rw [u8min] at this; exact this) (by have := hx2.2; rw [u8max] at this; exact this))) (globs_ok hL) (vs := [v0, .int .u8 x1, .int .u8 x2]) ⟨v0, _, rfl, hv0 _, .int .u8 x1, _, rfl, rfl, .int .u8 x2, _, rfl, rfl, rfl⟩
  refine Calls.mono hlaw fun e W' ⟨v, he, hv, hw⟩ => ?_
  subst hv
  exact ⟨_, he, post_law hW' rfl rfl (by kernel_rfl) Tryd.underlying4 Tryd.laidOut read_edgesPrograms hw⟩
theorem edgesPrograms_row : Rows.EdgesProgramsSaid :=
  OpenClaim.holds_of_wide 6 Tryd.f6 rfl rfl rfl rfl rfl rfl rfl ⟨rfl, rfl, rfl, rfl, rfl⟩ rfl rfl rfl rfl rfl (by kernel_rfl) Tryd.func6 (by kernel_rfl)
    (of_decide_eq_true (by kernel_rfl)) (by unfold Func.isWrapper; first | (rw [if_pos (by decide +kernel)]; kernel_rfl) | (rw [if_neg (by decide +kernel)]; exact ⟨rfl, rfl⟩))
    (fun os started H enc _ => edgesPrograms_lifted os started H enc)
theorem edgesPrograms_holds : Rows.EdgesProgramsCardSaid :=
  Claim7.holds_tied_plain_at .later [] [.data, .data, .data, .data, .data] true Rows.edgesProgramsCard.stood.harness false
    edgesPrograms_row (fun _ h => by cases h) (by kernel_rfl) (fun _ h => by cases h) edgesPrograms_row_tie rfl ⟨rfl, rfl⟩ (by kernel_rfl) rfl
    (fun f fn hf hfn => by
      obtain rfl : f = 6 := Option.some.inj (hf.symm.trans (by kernel_rfl))
      obtain rfl : fn = Tryd.f6 := (Option.some.inj (Tryd.func6.symm.trans hfn)).symm
      exact ⟨by kernel_rfl, fun j t ht => by
        rw [Tryd.params6] at ht
        have hm : t ∈ [23, 5, 5] := by simpa using Array.mem_of_getElem? ht
        have hall : ([23, 5, 5].all fun u => !Tryd.prog.wantsStandIn u) = true := by kernel_rfl
        exact (show Tryd.prog.wantsStandIn t = false by simpa using List.all_eq_true.1 hall t hm)⟩)
    (by kernel_rfl)
end Go.Proofs.YtcjpcmofajcadaaDoor
