/- RoundsPlan: for every U of layer 21, whatever the memory and the order that Go leaves open, the law returns true, and its argument reads as before. Conditions: none beyond the row's own (the listed package-level variables start as the program's text lays them; the card ties them). -/
import Derived.Test.YtcjpcmofajcadaaDoorRp5
import Derived.IntWalk
set_option linter.unusedSimpArgs false
set_option linter.unusedVariables false
/- rounds.compile. -/
namespace Go.Proofs.YtcjpcmofajcadaaDoor
set_option linter.unusedSimpArgs false
set_option linter.unusedVariables false
open Go.RowKit
def m_compile_L7 (a0 : (Int × (List Int))) (v3_0 : Int) : Nat → Int → (List OpT) → Option ((List OpT))
  | 0, _, _ => none
  | n + 1, v7_0, v7_1 =>
    cond (decide (v7_0 < a0.1)) (Option.bind (m_knit (0 : Int) v7_0 (1 : Int) v7_1 (a0.2.getD v3_0.toNat 0)) fun r8 =>
    gd ((inI64 (v7_0 + (1 : Int)))) <|
    m_compile_L7 a0 v3_0 n (v7_0 + (1 : Int)) r8) (some v7_1)
def m_compile_L11 (a0 : (Int × (List Int))) (v3_0 : Int) : Nat → Int → (List OpT) → Option ((List OpT))
  | 0, _, _ => none
  | n + 1, v11_0, v11_1 =>
    cond (decide (v11_0 < a0.1)) (gd ((inI64 (a0.1 - (1 : Int))) && (inI64 ((a0.1 - (1 : Int)) - v11_0))) <|
    Option.bind (m_knit (1 : Int) ((a0.1 - (1 : Int)) - v11_0) (0 : Int) v11_1 (a0.2.getD v3_0.toNat 0)) fun r12 =>
    gd ((inI64 (v11_0 + (1 : Int)))) <|
    m_compile_L11 a0 v3_0 n (v11_0 + (1 : Int)) r12) (some v11_1)
def m_compile_L3 (a0 : (Int × (List Int))) : Nat → Int → (List OpT) → (List Int) → (Option Nat) → (List (Int × Bool)) → Option ((List OpT) × (List Int) × (Option Nat) × (List (Int × Bool)))
  | 0, _, _, _, _, _ => none
  | n + 1, v3_0, v3_1, v3_2, v3_3, v3_4 =>
    cond (decide (v3_0 < (a0.2.length : Int))) (gd ((inB v3_0 a0.2.length)) <|
    gd ((fitB 8 (v3_2.length + [(v3_1.length : Int)].length))) <|
    Option.bind (cond (!((mget (.int .u8) .bool v3_4 (a0.2.getD v3_0.toNat 0)).getD false)) (gd ((fitB 40 (v3_1.length + [((1 : Int), ((0 : Int), (((0 : Int), (0 : Int)), ((a0.2.getD v3_0.toNat 0), (0 : Int)))))].length))) <|
    some ((v3_1 ++ [((1 : Int), ((0 : Int), (((0 : Int), (0 : Int)), ((a0.2.getD v3_0.toNat 0), (0 : Int)))))]), (mset (.int .u8) .bool v3_4 (a0.2.getD v3_0.toNat 0) true))) (some (v3_1, v3_4))) fun o4 =>
    Option.bind (m_compile_L7 a0 v3_0 FUEL (0 : Int) o4.1) fun o6 =>
    Option.bind (m_compile_L11 a0 v3_0 FUEL (0 : Int) o6) fun o10 =>
    gd ((inI64 (v3_0 + (1 : Int)))) <|
    m_compile_L3 a0 n (v3_0 + (1 : Int)) o10 (v3_2 ++ [(v3_1.length : Int)]) (capUp v3_3 (v3_2.length + [(v3_1.length : Int)].length)) o4.2) (some (v3_1, v3_2, v3_3, v3_4))
def m_compile_L19 (a0 : (Int × (List Int))) : Nat → Int → (List OpT) → (List Int) → Option ((List OpT) × (List Int))
  | 0, _, _, _ => none
  | n + 1, v19_0, v19_1, v19_2 =>
    cond (decide (v19_0 < ((List.replicate a0.1.toNat (0 : Int)).length : Int))) (gd ((inI64 ((13 : Int) + v19_0)) && (inB v19_0 v19_2.length) && (decide (v19_0.toNat < v19_2.length))) <|
    gd ((inB v19_0 (v19_2.set v19_0.toNat ((13 : Int) + v19_0)).length) && (decide (v19_0.toNat < (v19_2.set v19_0.toNat ((13 : Int) + v19_0)).length)) && (fitB 40 (v19_1.length + [((7 : Int), ((0 : Int), (((1 : Int), ((v19_2.set v19_0.toNat ((13 : Int) + v19_0)).getD v19_0.toNat 0)), ((0 : Int), (0 : Int)))))].length))) <|
    gd ((inI64 (v19_0 + (1 : Int)))) <|
    m_compile_L19 a0 n (v19_0 + (1 : Int)) (v19_1 ++ [((7 : Int), ((0 : Int), (((1 : Int), ((v19_2.set v19_0.toNat ((13 : Int) + v19_0)).getD v19_0.toNat 0)), ((0 : Int), (0 : Int)))))]) (v19_2.set v19_0.toNat ((13 : Int) + v19_0))) (some (v19_1, v19_2))
def m_compile_L26B  (e26 : Int × Bool) (v26_0 : List Int) : Option ((List Int)) :=
    gd ((fitB 1 (v26_0.length + [e26.1].length))) <|
    some (v26_0 ++ [e26.1])
def m_compile_L26  : List (Int × Bool) → (List Int) → Option ((List Int))
  | [], v26_0 =>
    some v26_0
  | e :: q, v26_0 =>
    Option.bind (m_compile_L26B e v26_0) fun o => m_compile_L26 q o
def m_compile (a0 : (Int × (List Int))) : Option ((List OpT) × (List Int) × (Option Nat) × Int) :=
    Option.bind (m_tcheck a0) fun r1 =>
    cond (!(decide (r1 = (0 : Int)))) (some (([] : List OpT), ([] : List Int), (some 0), r1)) (gd ((inI64 ((a0.2.length : Int) + (1 : Int))) && (decide ((0 : Int) ≤ ((a0.2.length : Int) + (1 : Int)))) && (decide ((8 : Int) * ((a0.2.length : Int) + (1 : Int)) ≤ 140737488355328)) && (decide (((a0.2.length : Int) + (1 : Int)) ≤ 140737488355328))) <|
    Option.bind (m_compile_L3 a0 FUEL (0 : Int) ([] : List OpT) ([] : List Int) (some ((a0.2.length : Int) + (1 : Int)).toNat) ([] : List (Int × Bool))) fun o2 =>
    gd ((fitB 8 (o2.2.1.length + [(o2.1.length : Int)].length))) <|
    gd ((decide (0 ≤ a0.1)) && (decide ((8 : Int) * a0.1 ≤ 140737488355328)) && (decide (a0.1 ≤ 140737488355328))) <|
    Option.bind (m_compile_L19 a0 FUEL (0 : Int) o2.1 (List.replicate a0.1.toNat (0 : Int))) fun o18 =>
    gd ((inI64 ((a0.2.length : Int) - (1 : Int))) && (inB ((a0.2.length : Int) - (1 : Int)) a0.2.length)) <|
    Option.bind (m_bindoff (a0.2.getD ((a0.2.length : Int) - (1 : Int)).toNat 0) o18.2) fun r23 =>
    cond (!(decide (r23.2 = (0 : Int)))) (some (([] : List OpT), ([] : List Int), (some 0), r23.2)) (dem o2.2.2.2 (fun q => Option.bind (m_compile_L26 q ([] : List Int)) fun o25 =>
    Option.bind (m_sort8 o25) fun r28 =>
    Option.bind (m_leave r28) fun r29 =>
    cond (!(decide (r29.2.2 = (0 : Int)))) (some (([] : List OpT), ([] : List Int), (some 0), r29.2.2)) (gd ((fitB 40 (o18.1.length + r23.1.length)) && (fitB 40 ((o18.1 ++ r23.1).length + r29.1.length))) <|
    Option.bind (m_clip ((o18.1 ++ r23.1) ++ r29.1)) fun r30 =>
    some (r30, (o2.2.1 ++ [(o2.1.length : Int)]), (capUp o2.2.2.1 (o2.2.1.length + [(o2.1.length : Int)].length)), (0 : Int))))))
set_option maxRecDepth 20000 in
set_option maxHeartbeats 4000000 in
theorem w_compile (a0 : (Int × (List Int))) (c0 : Option Nat) (r : ((List OpT) × (List Int) × (Option Nat) × Int)) (h : m_compile a0 = some r) : AC cx 48 [.agg [.val (.int .i64 a0.1), .lst (.int .u8) a0.2 c0]] [] (fun sv h => sv = .tup [.c (.lst gOp r.1 (some r.1.length)), .c (.lst (.int .i64) r.2.1 r.2.2.1), .c (.val (.int .i64 r.2.2.2))] ∧ h = []) := by
  unfold m_compile at h
  refine ac_body tt_ok Tryd.func48 rfl Tryd.ntmps48 rfl rfl (res := [.tmp 2, .tmp 3, .tmp 4]) rfl ?_
  refine ax_seq ?_
  refine ax_region ?_
  refine al_run tt_ok rfl rfl ?_
  refine ax_seq ?_
  refine ax_seq ?_
  obtain ⟨r1, hr1, h⟩ := bd h
  refine ax_region ?_
  refine al_upto tt_ok rfl rfl ?_
  refine al_callP (w_tcheck _ c0 r1 hr1) rfl ⟨rfl, rfl⟩ rfl Tryd.func58 rfl rfl rfl rfl rfl rfl ?_
  refine al_run tt_ok rfl rfl ?_
  refine ax_seq ?_
  refine ax_region ?_
  refine al_run tt_ok rfl rfl ?_
  refine ax_cond rfl rfl (fun hc => ?_) (fun hc => ?_)
  ·
   replace h := cond_t hc h
   refine ax_seq ?_
   refine ax_region ?_
   refine al_run tt_ok rfl rfl ?_
   refine ax_ret ?_
   obtain rfl := Option.some.inj h
   refine ⟨_, (Wk.trans (Wk.lst0 2 gOp rfl) (Wk.trans (Wk.lst0 3 (.int .i64) rfl) (Wk.sub (st' := ⟨[(2, _), (3, _), (4, _)], []⟩) (SubL.cons rfl (SubL.cons rfl (SubL.cons rfl SubL.nil))) SubH.nil))), _, _, rfl, rfl, ?_⟩
   exact ⟨rfl, rfl⟩
  ·
   replace h := cond_f hc h
   refine ax_skip ?_
   refine ax_seq ?_
   refine ax_region ?_
   refine al_run tt_ok rfl rfl ?_
   refine ax_weak (Wk.nilC 6 0 23 55 gOp rfl) ?_
   refine ax_seq ?_
   obtain ⟨hG35, h⟩ := gd_some h
   simp only [Bool.and_eq_true] at hG35
   obtain ⟨⟨⟨hG35_0, hG35_1⟩, hG35_2⟩, hG35_3⟩ := hG35
   refine ax_region ?_
   refine al_run tt_ok rfl (by first | (simp only [hG35_0, hG35_1, hG35_2, hG35_3, ob, decide_true, cond_true, cond_false]; done) | (simp_all; done) | (simp only [hG35_0, hG35_1, hG35_2, hG35_3, ob, decide_true, cond_true, cond_false]; rfl)) ?_
   refine ax_seq ?_
   refine ax_region ?_
   refine al_makeMap (.int .u8) .bool rfl ⟨rfl, rfl⟩ rfl ?_
   refine al_run tt_ok rfl rfl ?_
   refine ax_seq ?_
   refine ax_seq ?_
   refine ax_region ?_
   refine al_run tt_ok rfl rfl ?_
   obtain ⟨o2, ho2, hk2⟩ := bd h
   refine ax_cutS (fun o2 : (List OpT) × (List Int) × (Option Nat) × (List (Int × Bool)) => ⟨[(1, .a (.c (.ptr 1 0))), (6, .a (.c (.ptr 6 0))), (7, .a (.c (.sl 30))), (8, .a (.c (.mref 31)))], [(1, .cells 63 [.val (.int .i64 a0.1), .lst (.int .u8) a0.2 c0]), (6, .cells 27 [.sl 23]), (23, .row 55 gOp o2.1 none), (30, .row 3 (.int .i64) o2.2.1 o2.2.2.1), (31, .mp (.int .u8) .bool o2.2.2.2 none)]⟩) (fun o' => o2 = o') ?_ ?_
   ·
    have h := ho2
    refine ax_block ?_
    refine ax_weak (st' := ⟨[(35, _), (1, _), (6, _), (7, _), (8, _), (33, _), (34, _)], [(23, _), (30, _), (31, _), (1, _), (6, _)]⟩) (Wk.sub (SubL.cons rfl (SubL.cons rfl (SubL.cons rfl (SubL.cons rfl (SubL.cons rfl (SubL.cons rfl (SubL.cons rfl SubL.nil))))))) (SubH.cons rfl rfl (SubH.cons rfl rfl (SubH.cons rfl rfl (SubH.cons rfl rfl (SubH.cons rfl rfl SubH.nil)))))) ?_
    refine ax_loopL (fun y : Nat × Int × (List OpT) × (List Int) × (Option Nat) × (List (Int × Bool)) => [(35, .a (.c (.val (.int .i64 y.2.1))))]) (fun y : Nat × Int × (List OpT) × (List Int) × (Option Nat) × (List (Int × Bool)) => [(23, .row 55 gOp y.2.2.1 none), (30, .row 3 (.int .i64) y.2.2.2.1 y.2.2.2.2.1), (31, .mp (.int .u8) .bool y.2.2.2.2.2 none)]) (fun y : Nat × Int × (List OpT) × (List Int) × (Option Nat) × (List (Int × Bool)) => m_compile_L3 a0 y.1 y.2.1 y.2.2.1 y.2.2.2.1 y.2.2.2.2.1 y.2.2.2.2.2 = some o2) (fun y : Nat × Int × (List OpT) × (List Int) × (Option Nat) × (List (Int × Bool)) => y.1) (FUEL, (0 : Int), ([] : List OpT), ([] : List Int), (some ((a0.2.length : Int) + (1 : Int)).toNat), ([] : List (Int × Bool))) h ?_
    rintro ⟨n, v3_0, v3_1, v3_2, v3_3, v3_4⟩ h
    replace h : m_compile_L3 a0 n v3_0 v3_1 v3_2 v3_3 v3_4 = some o2 := h
    rcases n with _ | n
    · cases (show (none : Option _) = some _ from h)
    rw [m_compile_L3] at h
    try dsimp only
    refine ax_seq ?_
    refine ax_region ?_
    refine al_run tt_ok rfl rfl ?_
    refine ax_seq ?_
    refine ax_cond rfl rfl (fun hc => ?_) (fun hc => ?_)
    ·
     replace h := cond_t hc h
     refine ax_skip ?_
     refine ax_seq ?_
     refine ax_block ?_
     refine ax_seq ?_
     obtain ⟨hG17, h⟩ := gd_some h
     refine ax_region ?_
     refine al_run tt_ok rfl (by first | (simp only [hG17, ob, decide_true, cond_true, cond_false]; done) | (simp_all; done) | (simp only [hG17, ob, decide_true, cond_true, cond_false]; rfl)) ?_
     refine ax_seq ?_
     obtain ⟨hG16, h⟩ := gd_some h
     refine ax_region ?_
     refine al_upN 4 tt_ok rfl (by first | (simp only [hG16, ob, decide_true, cond_true, cond_false]; done) | (simp_all; done) | (simp only [hG16, ob, decide_true, cond_true, cond_false]; rfl)) ?_
     refine al_appendC tt_ok rfl ⟨rfl, rfl⟩ rfl rfl rfl rfl rfl (by first | (simp only [hG16, ob, decide_true, cond_true, cond_false]; done) | (simp_all; done) | (simp only [hG16, ob, decide_true, cond_true, cond_false]; rfl)) rfl (by first | (simp only [hG16, ob, decide_true, cond_true, cond_false]; done) | (simp_all; done) | (simp only [hG16, ob, decide_true, cond_true, cond_false]; rfl)) rfl rfl rfl (by first | (simp only [hG16, ob, decide_true, cond_true, cond_false]; done) | (simp_all; done) | (simp only [hG16, ob, decide_true, cond_true, cond_false]; rfl)) ?_
     refine al_run tt_ok rfl (by first | (simp only [hG16, ob, decide_true, cond_true, cond_false]; done) | (simp_all; done) | (simp only [hG16, ob, decide_true, cond_true, cond_false]; rfl)) ?_
     refine ax_seq ?_
     refine ax_seq ?_
     refine ax_region ?_
     refine al_upN 2 tt_ok rfl rfl ?_
     refine al_lookup (gv := .bool) tt_ok rfl ⟨rfl, rfl⟩ rfl rfl rfl rfl rfl rfl (fun _ _ => rfl) rfl rfl rfl rfl rfl ?_
     refine al_run tt_ok rfl rfl ?_
     obtain ⟨o4, ho4, hk4⟩ := bd h
     refine ax_cutS (fun o4 : (List OpT) × (List (Int × Bool)) => ⟨[(1, .a (.c (.ptr 1 0))), (6, .a (.c (.ptr 6 0))), (7, .a (.c (.sl 30))), (8, .a (.c (.mref 31))), (10, .a (.c (.ptr 10 0))), (33, .a (.c (.lst (.int .u8) a0.2 c0))), (34, .a (.c (.val (.int .i64 (a0.2.length : Int))))), (35, .a (.c (.val (.int .i64 v3_0))))], [(1, .cells 63 [.val (.int .i64 a0.1), .lst (.int .u8) a0.2 c0]), (6, .cells 27 [.sl 23]), (10, .cells 5 [.val (.int .u8 (a0.2.getD v3_0.toNat 0))]), (23, .row 55 gOp o4.1 none), (30, .row 3 (.int .i64) (v3_2 ++ [(v3_1.length : Int)]) (capUp v3_3 (v3_2.length + [(v3_1.length : Int)].length))), (31, .mp (.int .u8) .bool o4.2 none)]⟩) (fun o' => o4 = o') ?_ ?_
     ·
      have h := ho4
      refine ax_cond rfl rfl (fun hc => ?_) (fun hc => ?_)
      ·
       replace h := cond_t hc h
       refine ax_seq ?_
       obtain ⟨hG5, h⟩ := gd_some h
       refine ax_region ?_
       refine al_run tt_ok rfl (by first | (simp only [hG5, ob, decide_true, cond_true, cond_false]; done) | (simp_all; done) | (simp only [hG5, ob, decide_true, cond_true, cond_false]; rfl)) ?_
       refine ax_region ?_
       refine al_upN 2 tt_ok rfl rfl ?_
       refine al_mapset (gv := .bool) tt_ok rfl ⟨rfl, rfl⟩ rfl rfl rfl rfl rfl rfl rfl rfl rfl rfl rfl rfl rfl ?_
       refine al_run tt_ok rfl rfl ?_
       exact ⟨_, (Option.some.inj h).symm, (Wk.sub (SubL.cons rfl (SubL.cons rfl (SubL.cons rfl (SubL.cons rfl (SubL.cons rfl (SubL.cons rfl (SubL.cons rfl (SubL.cons rfl SubL.nil)))))))) (SubH.cons rfl rfl (SubH.cons rfl rfl (SubH.cons rfl rfl (SubH.cons rfl rfl (SubH.cons rfl rfl (SubH.cons rfl rfl SubH.nil)))))))⟩
      ·
       replace h := cond_f hc h
       refine ax_skip ?_
       exact ⟨_, (Option.some.inj h).symm, (Wk.sub (SubL.cons rfl (SubL.cons rfl (SubL.cons rfl (SubL.cons rfl (SubL.cons rfl (SubL.cons rfl (SubL.cons rfl (SubL.cons rfl SubL.nil)))))))) (SubH.cons rfl rfl (SubH.cons rfl rfl (SubH.cons rfl rfl (SubH.cons rfl rfl (SubH.cons rfl rfl (SubH.cons rfl rfl SubH.nil)))))))⟩
     ·
      rintro _ rfl
      have h := hk4
      refine ax_seq ?_
      refine ax_region ?_
      refine al_run tt_ok rfl rfl ?_
      refine ax_seq ?_
      refine ax_seq ?_
      refine ax_region ?_
      refine al_run tt_ok rfl rfl ?_
      obtain ⟨o6, ho6, hk6⟩ := bd h
      refine ax_cutS (fun o6 : (List OpT) => ⟨[(1, .a (.c (.ptr 1 0))), (6, .a (.c (.ptr 6 0))), (7, .a (.c (.sl 30))), (8, .a (.c (.mref 31))), (11, .a (.c (.fn 59 [.id 6, .id 10]))), (33, .a (.c (.lst (.int .u8) a0.2 c0))), (34, .a (.c (.val (.int .i64 (a0.2.length : Int))))), (35, .a (.c (.val (.int .i64 v3_0))))], [(1, .cells 63 [.val (.int .i64 a0.1), .lst (.int .u8) a0.2 c0]), (6, .cells 27 [.sl 23]), (10, .cells 5 [.val (.int .u8 (a0.2.getD v3_0.toNat 0))]), (23, .row 55 gOp o6 none), (30, .row 3 (.int .i64) (v3_2 ++ [(v3_1.length : Int)]) (capUp v3_3 (v3_2.length + [(v3_1.length : Int)].length))), (31, .mp (.int .u8) .bool o4.2 none)]⟩) (fun o' => o6 = o') ?_ ?_
      ·
       have h := ho6
       refine ax_block ?_
       refine ax_weak (st' := ⟨[(58, _), (1, _), (6, _), (7, _), (8, _), (11, _), (33, _), (34, _), (35, _), (57, _)], [(23, _), (1, _), (6, _), (10, _), (30, _), (31, _)]⟩) (Wk.sub (SubL.cons rfl (SubL.cons rfl (SubL.cons rfl (SubL.cons rfl (SubL.cons rfl (SubL.cons rfl (SubL.cons rfl (SubL.cons rfl (SubL.cons rfl (SubL.cons rfl SubL.nil)))))))))) (SubH.cons rfl rfl (SubH.cons rfl rfl (SubH.cons rfl rfl (SubH.cons rfl rfl (SubH.cons rfl rfl (SubH.cons rfl rfl SubH.nil))))))) ?_
       refine ax_loopL (fun y : Nat × Int × (List OpT) => [(58, .a (.c (.val (.int .i64 y.2.1))))]) (fun y : Nat × Int × (List OpT) => [(23, .row 55 gOp y.2.2 none)]) (fun y : Nat × Int × (List OpT) => m_compile_L7 a0 v3_0 y.1 y.2.1 y.2.2 = some o6) (fun y : Nat × Int × (List OpT) => y.1) (FUEL, (0 : Int), o4.1) h ?_
       rintro ⟨n, v7_0, v7_1⟩ h
       replace h : m_compile_L7 a0 v3_0 n v7_0 v7_1 = some o6 := h
       rcases n with _ | n
       · cases (show (none : Option _) = some _ from h)
       rw [m_compile_L7] at h
       try dsimp only
       refine ax_seq ?_
       refine ax_region ?_
       refine al_run tt_ok rfl rfl ?_
       refine ax_seq ?_
       refine ax_cond rfl rfl (fun hc => ?_) (fun hc => ?_)
       ·
        replace h := cond_t hc h
        refine ax_skip ?_
        refine ax_seq ?_
        refine ax_block ?_
        refine ax_seq ?_
        refine ax_region ?_
        refine al_run tt_ok rfl rfl ?_
        obtain ⟨r8, hr8, h⟩ := bd h
        refine ax_region ?_
        refine al_upto tt_ok rfl rfl ?_
        refine al_callV [(1000000, 6), (1000001, 23), (1000002, 10)] (w_knit _ _ _ _ _ none r8 hr8) rfl ⟨rfl, rfl⟩ rfl rfl Tryd.func59 rfl rfl rfl rfl rfl rfl (PassH.cons rfl rfl rfl (PassH.cons rfl rfl rfl (PassH.cons rfl rfl rfl PassH.nil))) ?_
        rintro _ _ ⟨rfl, rfl⟩
        refine ⟨_, _, rfl, rfl, ?_⟩
        refine al_run tt_ok rfl rfl ?_
        obtain ⟨hG9, h⟩ := gd_some h
        refine ax_region ?_
        refine al_run tt_ok rfl (by first | (simp only [hG9, ob, decide_true, cond_true, cond_false]; done) | (simp_all; done) | (simp only [hG9, ob, decide_true, cond_true, cond_false]; rfl)) ?_
        refine ⟨(n, _, _), h, Nat.lt_succ_self _, (Wk.sub (SubL.cons rfl (SubL.cons rfl (SubL.cons rfl (SubL.cons rfl (SubL.cons rfl (SubL.cons rfl (SubL.cons rfl (SubL.cons rfl (SubL.cons rfl (SubL.cons rfl SubL.nil)))))))))) (SubH.cons rfl rfl (SubH.cons rfl rfl (SubH.cons rfl rfl (SubH.cons rfl rfl (SubH.cons rfl rfl (SubH.cons rfl rfl SubH.nil)))))))⟩
       ·
        replace h := cond_f hc h
        refine ax_exit ?_
        exact ⟨_, (Option.some.inj h).symm, (Wk.sub (SubL.cons rfl (SubL.cons rfl (SubL.cons rfl (SubL.cons rfl (SubL.cons rfl (SubL.cons rfl (SubL.cons rfl (SubL.cons rfl SubL.nil)))))))) (SubH.cons rfl rfl (SubH.cons rfl rfl (SubH.cons rfl rfl (SubH.cons rfl rfl (SubH.cons rfl rfl (SubH.cons rfl rfl SubH.nil)))))))⟩
      ·
       rintro _ rfl
       have h := hk6
       refine ax_seq ?_
       refine ax_region ?_
       refine al_run tt_ok rfl rfl ?_
       obtain ⟨o10, ho10, hk10⟩ := bd h
       refine ax_cutS (fun o10 : (List OpT) => ⟨[(1, .a (.c (.ptr 1 0))), (6, .a (.c (.ptr 6 0))), (7, .a (.c (.sl 30))), (8, .a (.c (.mref 31))), (33, .a (.c (.lst (.int .u8) a0.2 c0))), (34, .a (.c (.val (.int .i64 (a0.2.length : Int))))), (35, .a (.c (.val (.int .i64 v3_0))))], [(1, .cells 63 [.val (.int .i64 a0.1), .lst (.int .u8) a0.2 c0]), (6, .cells 27 [.sl 23]), (23, .row 55 gOp o10 none), (30, .row 3 (.int .i64) (v3_2 ++ [(v3_1.length : Int)]) (capUp v3_3 (v3_2.length + [(v3_1.length : Int)].length))), (31, .mp (.int .u8) .bool o4.2 none)]⟩) (fun o' => o10 = o') ?_ ?_
       ·
        have h := ho10
        refine ax_block ?_
        refine ax_weak (st' := ⟨[(67, _), (1, _), (6, _), (7, _), (8, _), (11, _), (33, _), (34, _), (35, _), (66, _)], [(23, _), (1, _), (6, _), (10, _), (30, _), (31, _)]⟩) (Wk.sub (SubL.cons rfl (SubL.cons rfl (SubL.cons rfl (SubL.cons rfl (SubL.cons rfl (SubL.cons rfl (SubL.cons rfl (SubL.cons rfl (SubL.cons rfl (SubL.cons rfl SubL.nil)))))))))) (SubH.cons rfl rfl (SubH.cons rfl rfl (SubH.cons rfl rfl (SubH.cons rfl rfl (SubH.cons rfl rfl (SubH.cons rfl rfl SubH.nil))))))) ?_
        refine ax_loopL (fun y : Nat × Int × (List OpT) => [(67, .a (.c (.val (.int .i64 y.2.1))))]) (fun y : Nat × Int × (List OpT) => [(23, .row 55 gOp y.2.2 none)]) (fun y : Nat × Int × (List OpT) => m_compile_L11 a0 v3_0 y.1 y.2.1 y.2.2 = some o10) (fun y : Nat × Int × (List OpT) => y.1) (FUEL, (0 : Int), o6) h ?_
        rintro ⟨n, v11_0, v11_1⟩ h
        replace h : m_compile_L11 a0 v3_0 n v11_0 v11_1 = some o10 := h
        rcases n with _ | n
        · cases (show (none : Option _) = some _ from h)
        rw [m_compile_L11] at h
        try dsimp only
        refine ax_seq ?_
        refine ax_region ?_
        refine al_run tt_ok rfl rfl ?_
        refine ax_seq ?_
        refine ax_cond rfl rfl (fun hc => ?_) (fun hc => ?_)
        ·
         replace h := cond_t hc h
         refine ax_skip ?_
         refine ax_seq ?_
         refine ax_block ?_
         refine ax_seq ?_
         refine ax_region ?_
         refine al_run tt_ok rfl rfl ?_
         obtain ⟨hG14, h⟩ := gd_some h
         simp only [Bool.and_eq_true] at hG14
         obtain ⟨hG14_0, hG14_1⟩ := hG14
         obtain ⟨r12, hr12, h⟩ := bd h
         refine ax_region ?_
         refine al_upto tt_ok rfl (by first | (simp only [hG14_0, hG14_1, ob, decide_true, cond_true, cond_false]; done) | (simp_all; done) | (simp only [hG14_0, hG14_1, ob, decide_true, cond_true, cond_false]; rfl)) ?_
         refine al_callV [(1000000, 6), (1000001, 23), (1000002, 10)] (w_knit _ _ _ _ _ none r12 hr12) rfl ⟨rfl, rfl⟩ rfl rfl Tryd.func59 rfl rfl rfl (by first | (simp only [hG14_0, hG14_1, ob, decide_true, cond_true, cond_false]; done) | (simp_all; done) | (simp only [hG14_0, hG14_1, ob, decide_true, cond_true, cond_false]; rfl)) rfl rfl (PassH.cons rfl rfl rfl (PassH.cons rfl rfl rfl (PassH.cons rfl rfl rfl PassH.nil))) ?_
         rintro _ _ ⟨rfl, rfl⟩
         refine ⟨_, _, rfl, rfl, ?_⟩
         refine al_run tt_ok rfl (by first | (simp only [hG14_0, hG14_1, ob, decide_true, cond_true, cond_false]; done) | (simp_all; done) | (simp only [hG14_0, hG14_1, ob, decide_true, cond_true, cond_false]; rfl)) ?_
         obtain ⟨hG13, h⟩ := gd_some h
         refine ax_region ?_
         refine al_run tt_ok rfl (by first | (simp only [hG13, ob, decide_true, cond_true, cond_false]; done) | (simp_all; done) | (simp only [hG13, ob, decide_true, cond_true, cond_false]; rfl)) ?_
         refine ⟨(n, _, _), h, Nat.lt_succ_self _, (Wk.sub (SubL.cons rfl (SubL.cons rfl (SubL.cons rfl (SubL.cons rfl (SubL.cons rfl (SubL.cons rfl (SubL.cons rfl (SubL.cons rfl (SubL.cons rfl (SubL.cons rfl SubL.nil)))))))))) (SubH.cons rfl rfl (SubH.cons rfl rfl (SubH.cons rfl rfl (SubH.cons rfl rfl (SubH.cons rfl rfl (SubH.cons rfl rfl SubH.nil)))))))⟩
        ·
         replace h := cond_f hc h
         refine ax_exit ?_
         exact ⟨_, (Option.some.inj h).symm, (Wk.sub (SubL.cons rfl (SubL.cons rfl (SubL.cons rfl (SubL.cons rfl (SubL.cons rfl (SubL.cons rfl (SubL.cons rfl SubL.nil))))))) (SubH.cons rfl rfl (SubH.cons rfl rfl (SubH.cons rfl rfl (SubH.cons rfl rfl (SubH.cons rfl rfl SubH.nil))))))⟩
       ·
        rintro _ rfl
        have h := hk10
        obtain ⟨hG15, h⟩ := gd_some h
        refine ax_region ?_
        refine al_run tt_ok rfl (by first | (simp only [hG15, ob, decide_true, cond_true, cond_false]; done) | (simp_all; done) | (simp only [hG15, ob, decide_true, cond_true, cond_false]; rfl)) ?_
        refine ⟨(n, _, _, _, _, _), h, Nat.lt_succ_self _, (Wk.sub (SubL.cons rfl (SubL.cons rfl (SubL.cons rfl (SubL.cons rfl (SubL.cons rfl (SubL.cons rfl (SubL.cons rfl SubL.nil))))))) (SubH.cons rfl rfl (SubH.cons rfl rfl (SubH.cons rfl rfl (SubH.cons rfl rfl (SubH.cons rfl rfl SubH.nil))))))⟩
    ·
     replace h := cond_f hc h
     refine ax_exit ?_
     exact ⟨_, (Option.some.inj h).symm, (Wk.sub (SubL.cons rfl (SubL.cons rfl (SubL.cons rfl (SubL.cons rfl SubL.nil)))) (SubH.cons rfl rfl (SubH.cons rfl rfl (SubH.cons rfl rfl (SubH.cons rfl rfl (SubH.cons rfl rfl SubH.nil))))))⟩
   ·
    rintro _ rfl
    have h := hk2
    refine ax_seq ?_
    obtain ⟨hG34, h⟩ := gd_some h
    refine ax_region ?_
    refine al_upN 4 tt_ok rfl (by first | (simp only [hG34, ob, decide_true, cond_true, cond_false]; done) | (simp_all; done) | (simp only [hG34, ob, decide_true, cond_true, cond_false]; rfl)) ?_
    refine al_appendC tt_ok rfl ⟨rfl, rfl⟩ rfl rfl rfl rfl rfl (by first | (simp only [hG34, ob, decide_true, cond_true, cond_false]; done) | (simp_all; done) | (simp only [hG34, ob, decide_true, cond_true, cond_false]; rfl)) rfl (by first | (simp only [hG34, ob, decide_true, cond_true, cond_false]; done) | (simp_all; done) | (simp only [hG34, ob, decide_true, cond_true, cond_false]; rfl)) rfl rfl rfl (by first | (simp only [hG34, ob, decide_true, cond_true, cond_false]; done) | (simp_all; done) | (simp only [hG34, ob, decide_true, cond_true, cond_false]; rfl)) ?_
    refine al_run tt_ok rfl (by first | (simp only [hG34, ob, decide_true, cond_true, cond_false]; done) | (simp_all; done) | (simp only [hG34, ob, decide_true, cond_true, cond_false]; rfl)) ?_
    refine ax_seq ?_
    obtain ⟨hG33, h⟩ := gd_some h
    simp only [Bool.and_eq_true] at hG33
    obtain ⟨⟨hG33_0, hG33_1⟩, hG33_2⟩ := hG33
    refine ax_region ?_
    refine al_run tt_ok rfl (by first | (simp only [hG33_0, hG33_1, hG33_2, ob, decide_true, cond_true, cond_false]; done) | (simp_all; done) | (simp only [hG33_0, hG33_1, hG33_2, ob, decide_true, cond_true, cond_false]; rfl)) ?_
    refine ax_seq ?_
    refine ax_seq ?_
    refine ax_region ?_
    refine al_run tt_ok rfl rfl ?_
    obtain ⟨o18, ho18, hk18⟩ := bd h
    refine ax_cutS (fun o18 : (List OpT) × (List Int) => ⟨[(1, .a (.c (.ptr 1 0))), (6, .a (.c (.ptr 6 0))), (7, .a (.c (.sl 30))), (8, .a (.c (.mref 31))), (14, .a (.c (.sl 86)))], [(1, .cells 63 [.val (.int .i64 a0.1), .lst (.int .u8) a0.2 c0]), (6, .cells 27 [.sl 23]), (23, .row 55 gOp o18.1 none), (30, .row 3 (.int .i64) (o2.2.1 ++ [(o2.1.length : Int)]) (capUp o2.2.2.1 (o2.2.1.length + [(o2.1.length : Int)].length))), (31, .mp (.int .u8) .bool o2.2.2.2 none), (86, .row 3 (.int .i64) o18.2 (some a0.1.toNat))]⟩) (fun o' => o18 = o') ?_ ?_
    ·
     have h := ho18
     refine ax_block ?_
     refine ax_weak (st' := ⟨[(89, _), (1, _), (6, _), (7, _), (8, _), (14, _), (88, _)], [(23, _), (86, _), (1, _), (6, _), (30, _), (31, _)]⟩) (Wk.sub (SubL.cons rfl (SubL.cons rfl (SubL.cons rfl (SubL.cons rfl (SubL.cons rfl (SubL.cons rfl (SubL.cons rfl SubL.nil))))))) (SubH.cons rfl rfl (SubH.cons rfl rfl (SubH.cons rfl rfl (SubH.cons rfl rfl (SubH.cons rfl rfl (SubH.cons rfl rfl SubH.nil))))))) ?_
     refine ax_loopL (fun y : Nat × Int × (List OpT) × (List Int) => [(89, .a (.c (.val (.int .i64 y.2.1))))]) (fun y : Nat × Int × (List OpT) × (List Int) => [(23, .row 55 gOp y.2.2.1 none), (86, .row 3 (.int .i64) y.2.2.2 (some a0.1.toNat))]) (fun y : Nat × Int × (List OpT) × (List Int) => m_compile_L19 a0 y.1 y.2.1 y.2.2.1 y.2.2.2 = some o18) (fun y : Nat × Int × (List OpT) × (List Int) => y.1) (FUEL, (0 : Int), o2.1, (List.replicate a0.1.toNat (0 : Int))) h ?_
     rintro ⟨n, v19_0, v19_1, v19_2⟩ h
     replace h : m_compile_L19 a0 n v19_0 v19_1 v19_2 = some o18 := h
     rcases n with _ | n
     · cases (show (none : Option _) = some _ from h)
     rw [m_compile_L19] at h
     try dsimp only
     refine ax_seq ?_
     refine ax_region ?_
     refine al_run tt_ok rfl rfl ?_
     refine ax_seq ?_
     refine ax_cond rfl rfl (fun hc => ?_) (fun hc => ?_)
     ·
      replace h := cond_t hc h
      refine ax_skip ?_
      refine ax_seq ?_
      refine ax_block ?_
      refine ax_seq ?_
      refine ax_region ?_
      refine al_run tt_ok rfl rfl ?_
      refine ax_seq ?_
      obtain ⟨hG22, h⟩ := gd_some h
      simp only [Bool.and_eq_true] at hG22
      obtain ⟨⟨hG22_0, hG22_1⟩, hG22_2⟩ := hG22
      refine ax_region ?_
      refine al_run tt_ok rfl (by first | (simp only [hG22_0, hG22_1, hG22_2, ob, decide_true, cond_true, cond_false]; done) | (simp_all; done) | (simp only [hG22_0, hG22_1, hG22_2, ob, decide_true, cond_true, cond_false]; rfl)) ?_
      obtain ⟨hG21, h⟩ := gd_some h
      simp only [Bool.and_eq_true] at hG21
      obtain ⟨⟨hG21_0, hG21_1⟩, hG21_2⟩ := hG21
      refine ax_draw [1, 2, 3, 4, 5, 6, 7] (by kernel_rfl) rfl (N := 10) ?_
      refine ad_run (fuel := 0) (ds' := ⟨#[true, true, true, true, true, true, true, true, true, true], false, false, true⟩) tt_ok [(0, 3), (1, 0), (2, 0), (3, 0), (4, 4), (5, 0), (6, 0), (7, 4), (8, 2), (9, 2)] (by kernel_rfl) rfl (by first | (simp only [hG21_0, hG21_1, hG21_2, ob, decide_true, cond_true, cond_false]; done) | (simp_all; done) | (simp only [hG21_0, hG21_1, hG21_2, ob, decide_true, cond_true, cond_false]; rfl)) ?_
      refine ad_done (by kernel_rfl) ?_
      obtain ⟨hG20, h⟩ := gd_some h
      refine ax_region ?_
      refine al_run tt_ok rfl (by first | (simp only [hG20, ob, decide_true, cond_true, cond_false]; done) | (simp_all; done) | (simp only [hG20, ob, decide_true, cond_true, cond_false]; rfl)) ?_
      refine ⟨(n, _, _, _), h, Nat.lt_succ_self _, (Wk.sub (SubL.cons rfl (SubL.cons rfl (SubL.cons rfl (SubL.cons rfl (SubL.cons rfl (SubL.cons rfl (SubL.cons rfl SubL.nil))))))) (SubH.cons rfl rfl (SubH.cons rfl rfl (SubH.cons rfl rfl (SubH.cons rfl rfl (SubH.cons rfl rfl (SubH.cons rfl rfl SubH.nil)))))))⟩
     ·
      replace h := cond_f hc h
      refine ax_exit ?_
      exact ⟨_, (Option.some.inj h).symm, (Wk.sub (SubL.cons rfl (SubL.cons rfl (SubL.cons rfl (SubL.cons rfl (SubL.cons rfl SubL.nil))))) (SubH.cons rfl rfl (SubH.cons rfl rfl (SubH.cons rfl rfl (SubH.cons rfl rfl (SubH.cons rfl rfl (SubH.cons rfl rfl SubH.nil)))))))⟩
    ·
     rintro _ rfl
     have h := hk18
     refine ax_seq ?_
     obtain ⟨hG32, h⟩ := gd_some h
     simp only [Bool.and_eq_true] at hG32
     obtain ⟨hG32_0, hG32_1⟩ := hG32
     obtain ⟨r23, hr23, h⟩ := bd h
     refine ax_region ?_
     refine al_upto tt_ok rfl (by first | (simp only [hG32_0, hG32_1, ob, decide_true, cond_true, cond_false]; done) | (simp_all; done) | (simp only [hG32_0, hG32_1, ob, decide_true, cond_true, cond_false]; rfl)) ?_
     refine al_weak (Wk.frz (id := 86) rfl) ?_
     refine al_callP (w_bindoff _ _ (some a0.1.toNat) r23 hr23) rfl ⟨rfl, rfl⟩ rfl Tryd.func21 rfl rfl rfl (by first | (simp only [hG32_0, hG32_1, ob, decide_true, cond_true, cond_false]; done) | (simp_all; done) | (simp only [hG32_0, hG32_1, ob, decide_true, cond_true, cond_false]; rfl)) rfl rfl ?_
     refine al_run tt_ok rfl (by first | (simp only [hG32_0, hG32_1, ob, decide_true, cond_true, cond_false]; done) | (simp_all; done) | (simp only [hG32_0, hG32_1, ob, decide_true, cond_true, cond_false]; rfl)) ?_
     refine ax_seq ?_
     refine ax_seq ?_
     refine ax_region ?_
     refine al_run tt_ok rfl rfl ?_
     refine ax_cond rfl rfl (fun hc => ?_) (fun hc => ?_)
     ·
      replace h := cond_t hc h
      refine ax_seq ?_
      refine ax_region ?_
      refine al_run tt_ok rfl rfl ?_
      refine ax_ret ?_
      obtain rfl := Option.some.inj h
      refine ⟨_, (Wk.trans (Wk.lst0 2 gOp rfl) (Wk.trans (Wk.lst0 3 (.int .i64) rfl) (Wk.sub (st' := ⟨[(2, _), (3, _), (4, _)], []⟩) (SubL.cons rfl (SubL.cons rfl (SubL.cons rfl SubL.nil))) SubH.nil))), _, _, rfl, rfl, ?_⟩
      exact ⟨rfl, rfl⟩
     ·
      replace h := cond_f hc h
      refine ax_skip ?_
      refine ax_seq ?_
      refine ax_region ?_
      refine al_run tt_ok rfl rfl ?_
      refine ax_weak (Wk.nil 18 18 5 (.int .u8) rfl rfl) ?_
      refine ax_seq ?_
      refine ax_seq ?_
      refine ax_region ?_
      refine al_upN 1 tt_ok rfl rfl ?_
      refine al_open 31 rfl (fun es24 ck24 hst24 hln24 => ?_)
      refine al_range tt_ok rfl ⟨rfl, rfl⟩ rfl rfl rfl rfl rfl rfl ?_
      refine al_run tt_ok rfl rfl ?_
      obtain ⟨P25, hP25, h⟩ := dem_split h
      refine ax_cutS (fun o25 : (List Int) => ⟨[(6, .a (.c (.ptr 6 0))), (7, .a (.c (.sl 30))), (16, .a (.c (.lst gOp r23.1 (some r23.1.length)))), (18, .a (.c (.sl 18)))], [(6, .cells 27 [.sl 23]), (18, .row 5 (.int .u8) o25 none), (23, .row 55 gOp o18.1 none), (30, .row 3 (.int .i64) (o2.2.1 ++ [(o2.1.length : Int)]) (capUp o2.2.2.1 (o2.2.1.length + [(o2.1.length : Int)].length)))]⟩) P25 ?_ ?_
      ·
       refine ax_block ?_
       refine ax_weak (st' := ⟨[(6, _), (7, _), (16, _), (18, _), (124, _)], [(18, _), (124, _), (6, _), (23, _), (30, _), (31, _)]⟩) (Wk.sub (SubL.cons rfl (SubL.cons rfl (SubL.cons rfl (SubL.cons rfl (SubL.cons rfl SubL.nil))))) (SubH.cons rfl rfl (SubH.cons rfl rfl (SubH.cons rfl rfl (SubH.cons rfl rfl (SubH.cons rfl rfl (SubH.cons rfl rfl SubH.nil))))))) ?_
       refine ax_loopL (fun y : List Nat × (List Int) => []) (fun y : List Nat × (List Int) => [(18, .row 5 (.int .u8) y.2 none), (124, .it 31 es24 ck24 y.1)]) (fun y : List Nat × (List Int) => (∀ j ∈ y.1, j < es24.length) ∧ ∀ q, q.Perm (leftP o2.2.2.2 y.1) → ∃ o, m_compile_L26 q y.2 = some o ∧ P25 o) (fun y : List Nat × (List Int) => (leftN o2.2.2.2.length y.1).length) (([] : List Nat), ([] : List Int)) ⟨(by intro j hj; cases hj), (by intro q hq; dsimp only at hq ⊢; rw [leftP_nil] at hq; exact h q hq)⟩ ?_
       rintro ⟨ps26, v26_0⟩ ⟨hps26, h⟩
       replace hps26 : ∀ j ∈ ps26, j < es24.length := hps26
       replace h : ∀ q, q.Perm (leftP o2.2.2.2 ps26) → ∃ o, m_compile_L26 q v26_0 = some o ∧ P25 o := h
       try dsimp only
       refine ax_seq ?_
       refine ax_region ?_
       refine al_next rfl ⟨rfl, rfl⟩ rfl rfl rfl rfl hst24 hps26 (fun hall => ?_) (fun j26 hj26 hjn26 => ?_)
       ·
        obtain ⟨o, h, hPo⟩ := h [] (by rw [leftP_done (by rw [← hln24]; exact hall)])
        rw [m_compile_L26] at h
        refine al_run tt_ok rfl rfl ?_
        refine ax_seq ?_
        refine ax_cond rfl rfl (fun hc => ?_) (fun hc => ?_)
        · cases hc
        ·
         refine ax_exit ?_
         obtain rfl := Option.some.inj h
         exact ⟨_, hPo, (Wk.sub (SubL.cons rfl (SubL.cons rfl (SubL.cons rfl (SubL.cons rfl SubL.nil)))) (SubH.cons rfl rfl (SubH.cons rfl rfl (SubH.cons rfl rfl (SubH.cons rfl rfl SubH.nil)))))⟩
       ·
        obtain ⟨e26, hx26⟩ : ∃ x, o2.2.2.2[j26]? = some x := ⟨_, List.getElem?_eq_getElem (by rw [← hln24]; exact hj26)⟩
        have hs := fun q (hp : q.Perm (leftP o2.2.2.2 (ps26 ++ [j26]))) => h (e26 :: q) ((hp.cons e26).trans (leftP_step hx26 hjn26))
        obtain ⟨o1, h1, _⟩ := hs _ (List.Perm.refl _)
        rw [m_compile_L26] at h1
        obtain ⟨s1, hb, _⟩ := bd h1
        have hal26 : ∀ q, q.Perm (leftP o2.2.2.2 (ps26 ++ [j26])) → ∃ o, m_compile_L26 q s1 = some o ∧ P25 o := fun q hp => by
          obtain ⟨o2, h2, hp2⟩ := hs q hp
          rw [m_compile_L26] at h2
          obtain ⟨s2, e2, h3⟩ := bd h2
          rw [hb] at e2
          cases e2
          exact ⟨o2, h3, hp2⟩
        clear hs h1
        replace h := hb
        clear hb
        unfold m_compile_L26B at h
        refine al_run tt_ok rfl rfl ?_
        refine ax_seq ?_
        refine ax_cond rfl rfl (fun hc => ?_) (fun hc => ?_)
        ·
         refine ax_skip ?_
         refine ax_block ?_
         refine ax_seq ?_
         refine ax_region ?_
         refine al_entry rfl ⟨rfl, rfl⟩ rfl rfl rfl rfl hst24 hx26 rfl rfl ?_
         refine al_run tt_ok rfl rfl ?_
         obtain ⟨hG27, h⟩ := gd_some h
         refine ax_region ?_
         refine al_run tt_ok rfl (by first | (simp only [hG27, ob, decide_true, cond_true, cond_false]; done) | (simp_all; done) | (simp only [hG27, ob, decide_true, cond_true, cond_false]; rfl)) ?_
         obtain rfl := Option.some.inj h
         refine ⟨(ps26 ++ [j26], _), ⟨fun i hi => ?_, hal26⟩, leftN_lt (by rw [← hln24]; exact hj26) hjn26, (Wk.sub (SubL.cons rfl (SubL.cons rfl (SubL.cons rfl (SubL.cons rfl (SubL.cons rfl SubL.nil))))) (SubH.cons rfl rfl (SubH.cons rfl rfl (SubH.cons rfl rfl (SubH.cons rfl rfl (SubH.cons rfl rfl (SubH.cons rfl rfl SubH.nil)))))))⟩
         rcases List.mem_append.1 hi with hi | hi
         · exact hps26 i hi
         · rw [List.mem_singleton.1 hi]; exact hj26
        · cases hc
      ·
       intro o25 hPo
       have h := hP25 o25 hPo
       try dsimp only at h
       refine ax_seq ?_
       obtain ⟨r28, hr28, h⟩ := bd h
       refine ax_region ?_
       refine al_upto tt_ok rfl rfl ?_
       refine al_call [(2000000, 18)] (w_sort8 _ none r28 hr28) rfl ⟨rfl, rfl⟩ rfl Tryd.func60 rfl rfl rfl rfl rfl rfl (PassH.cons rfl rfl rfl PassH.nil) ?_
       rintro _ _ ⟨rfl, rfl⟩
       refine ⟨_, _, rfl, rfl, ?_⟩
       refine al_run tt_ok rfl rfl ?_
       refine ax_seq ?_
       obtain ⟨r29, hr29, h⟩ := bd h
       refine ax_region ?_
       refine al_upto tt_ok rfl rfl ?_
       refine al_weak (Wk.frz (id := 18) rfl) ?_
       refine al_callP (w_leave _ none r29 hr29) rfl ⟨rfl, rfl⟩ rfl Tryd.func23 rfl rfl rfl rfl rfl rfl ?_
       refine al_run tt_ok rfl rfl ?_
       refine ax_seq ?_
       refine ax_seq ?_
       refine ax_region ?_
       refine al_run tt_ok rfl rfl ?_
       refine ax_cond rfl rfl (fun hc => ?_) (fun hc => ?_)
       ·
        replace h := cond_t hc h
        refine ax_seq ?_
        refine ax_region ?_
        refine al_run tt_ok rfl rfl ?_
        refine ax_ret ?_
        obtain rfl := Option.some.inj h
        refine ⟨_, (Wk.trans (Wk.lst0 2 gOp rfl) (Wk.trans (Wk.lst0 3 (.int .i64) rfl) (Wk.sub (st' := ⟨[(2, _), (3, _), (4, _)], []⟩) (SubL.cons rfl (SubL.cons rfl (SubL.cons rfl SubL.nil))) SubH.nil))), _, _, rfl, rfl, ?_⟩
        exact ⟨rfl, rfl⟩
       ·
        replace h := cond_f hc h
        refine ax_skip ?_
        refine ax_seq ?_
        obtain ⟨hG31, h⟩ := gd_some h
        simp only [Bool.and_eq_true] at hG31
        obtain ⟨hG31_0, hG31_1⟩ := hG31
        obtain ⟨r30, hr30, h⟩ := bd h
        refine ax_region ?_
        refine al_upto tt_ok rfl (by first | (simp only [hG31_0, hG31_1, ob, decide_true, cond_true, cond_false]; done) | (simp_all; done) | (simp only [hG31_0, hG31_1, ob, decide_true, cond_true, cond_false]; rfl)) ?_
        refine al_weak (Wk.frz (id := 23) rfl) ?_
        refine al_callP (w_clip _ none r30 hr30) rfl ⟨rfl, rfl⟩ rfl Tryd.func36 rfl rfl rfl (by first | (simp only [hG31_0, hG31_1, ob, decide_true, cond_true, cond_false]; done) | (simp_all; done) | (simp only [hG31_0, hG31_1, ob, decide_true, cond_true, cond_false]; rfl)) rfl rfl ?_
        refine al_run tt_ok rfl (by first | (simp only [hG31_0, hG31_1, ob, decide_true, cond_true, cond_false]; done) | (simp_all; done) | (simp only [hG31_0, hG31_1, ob, decide_true, cond_true, cond_false]; rfl)) ?_
        refine ax_ret ?_
        obtain rfl := Option.some.inj h
        refine ⟨_, (Wk.trans (Wk.frz (id := 30) rfl) (Wk.sub (st' := ⟨[(2, _), (3, _), (4, _)], []⟩) (SubL.cons rfl (SubL.cons rfl (SubL.cons rfl SubL.nil))) SubH.nil)), _, _, rfl, rfl, ?_⟩
        exact ⟨rfl, rfl⟩
def m_rcompile (a0 : (Int × (List Int))) : Option ((List OpT) × Int) :=
    Option.bind (m_compile a0) fun r1 =>
    some (r1.1, r1.2.2.2)
set_option maxRecDepth 20000 in
set_option maxHeartbeats 4000000 in
theorem w_rcompile (a0 : (Int × (List Int))) (c0 : Option Nat) (r : ((List OpT) × Int)) (h : m_rcompile a0 = some r) : AC cx 27 [.agg [.val (.int .i64 a0.1), .lst (.int .u8) a0.2 c0]] [] (fun sv h => sv = .tup [.c (.lst gOp r.1 (some r.1.length)), .c (.val (.int .i64 r.2))] ∧ h = []) := by
  unfold m_rcompile at h
  refine ac_body tt_ok Tryd.func27 rfl Tryd.ntmps27 rfl rfl (res := [.tmp 2, .tmp 3]) rfl ?_
  refine ax_seq ?_
  refine ax_region ?_
  refine al_run tt_ok rfl rfl ?_
  refine ax_seq ?_
  obtain ⟨r1, hr1, h⟩ := bd h
  refine ax_region ?_
  refine al_upto tt_ok rfl rfl ?_
  refine al_callP (w_compile _ c0 r1 hr1) rfl ⟨rfl, rfl⟩ rfl Tryd.func48 rfl rfl rfl rfl rfl rfl ?_
  refine al_run tt_ok rfl rfl ?_
  refine ax_seq ?_
  refine ax_region ?_
  refine al_run tt_ok rfl rfl ?_
  refine ax_ret ?_
  obtain rfl := Option.some.inj h
  refine ⟨_, (Wk.sub (st' := ⟨[(2, _), (3, _)], []⟩) (SubL.cons rfl (SubL.cons rfl SubL.nil)) SubH.nil), _, _, rfl, rfl, ?_⟩
  exact ⟨rfl, rfl⟩
def m_rrounds (a0 : (Int × (List Int))) : Option ((List Int) × (Option Nat) × Int) :=
    Option.bind (m_compile a0) fun r1 =>
    some (r1.2.1, r1.2.2.1, r1.2.2.2)
set_option maxRecDepth 20000 in
set_option maxHeartbeats 4000000 in
theorem w_rrounds (a0 : (Int × (List Int))) (c0 : Option Nat) (r : ((List Int) × (Option Nat) × Int)) (h : m_rrounds a0 = some r) : AC cx 28 [.agg [.val (.int .i64 a0.1), .lst (.int .u8) a0.2 c0]] [] (fun sv h => sv = .tup [.c (.lst (.int .i64) r.1 r.2.1), .c (.val (.int .i64 r.2.2))] ∧ h = []) := by
  unfold m_rrounds at h
  refine ac_body tt_ok Tryd.func28 rfl Tryd.ntmps28 rfl rfl (res := [.tmp 2, .tmp 3]) rfl ?_
  refine ax_seq ?_
  refine ax_region ?_
  refine al_run tt_ok rfl rfl ?_
  refine ax_seq ?_
  obtain ⟨r1, hr1, h⟩ := bd h
  refine ax_region ?_
  refine al_upto tt_ok rfl rfl ?_
  refine al_callP (w_compile _ c0 r1 hr1) rfl ⟨rfl, rfl⟩ rfl Tryd.func48 rfl rfl rfl rfl rfl rfl ?_
  refine al_run tt_ok rfl rfl ?_
  refine ax_seq ?_
  refine ax_region ?_
  refine al_run tt_ok rfl rfl ?_
  refine ax_ret ?_
  obtain rfl := Option.some.inj h
  refine ⟨_, (Wk.sub (st' := ⟨[(2, _), (3, _)], []⟩) (SubL.cons rfl (SubL.cons rfl SubL.nil)) SubH.nil), _, _, rfl, rfl, ?_⟩
  exact ⟨rfl, rfl⟩
end Go.Proofs.YtcjpcmofajcadaaDoor

/- RoundsErrors: models. -/
namespace Go.Proofs.YtcjpcmofajcadaaDoor
set_option linter.unusedSimpArgs false
set_option linter.unusedVariables false
open Go.RowKit
def m_text32_L2 (a0 : (List OpT)) : Nat → (List UInt8) → Int → Option ((List UInt8))
  | 0, _, _ => none
  | n + 1, v2_0, v2_1 =>
    cond (decide (v2_1 < (a0.length : Int))) (Option.bind (cond (decide ((0 : Int) < v2_1)) (gd ((decide (v2_0.length + ([59, 32] : List UInt8).length ≤ 140737488355328))) <|
    some (v2_0 ++ ([59, 32] : List UInt8))) (some v2_0)) fun o3 =>
    gd ((inB v2_1 a0.length)) <|
    Option.bind (m_optext (a0.getD v2_1.toNat gOp.zero)) fun r5 =>
    gd ((decide (o3.length + r5.length ≤ 140737488355328))) <|
    gd ((inI64 (v2_1 + (1 : Int)))) <|
    m_text32_L2 a0 n (o3 ++ r5) (v2_1 + (1 : Int))) (some v2_0)
def m_text32 (a0 : (List OpT)) : Option ((List UInt8)) :=
    Option.bind (m_text32_L2 a0 FUEL ([] : List UInt8) (0 : Int)) fun o1 =>
    some o1
set_option maxRecDepth 20000 in
set_option maxHeartbeats 4000000 in
theorem w_text32 (a0 : (List OpT)) (c0 : Option Nat) (r : ((List UInt8))) (h : m_text32 a0 = some r) : AC cx 29 [.c (.lst gOp a0 c0)] [] (fun sv h => sv = .a (.c (.str r)) ∧ h = []) := by
  unfold m_text32 at h
  refine ac_body tt_ok Tryd.func29 rfl Tryd.ntmps29 rfl rfl (res := [.tmp 2]) rfl ?_
  refine ax_seq ?_
  refine ax_region ?_
  refine al_run tt_ok rfl rfl ?_
  refine ax_seq ?_
  refine ax_region ?_
  refine al_run tt_ok rfl rfl ?_
  refine ax_seq ?_
  refine ax_seq ?_
  refine ax_region ?_
  refine al_run tt_ok rfl rfl ?_
  obtain ⟨o1, ho1, hk1⟩ := bd h
  refine ax_cutS (fun o1 : (List UInt8) => ⟨[(3, .a (.c (.str o1)))], []⟩) (fun o' => o1 = o') ?_ ?_
  ·
   have h := ho1
   refine ax_block ?_
   refine ax_weak (st' := ⟨[(3, _), (4, _), (0, _)], []⟩) (Wk.sub (SubL.cons rfl (SubL.cons rfl (SubL.cons rfl SubL.nil))) SubH.nil) ?_
   refine ax_loopL (fun y : Nat × (List UInt8) × Int => [(3, .a (.c (.str y.2.1))), (4, .a (.c (.val (.int .i64 y.2.2))))]) (fun y : Nat × (List UInt8) × Int => []) (fun y : Nat × (List UInt8) × Int => m_text32_L2 a0 y.1 y.2.1 y.2.2 = some o1) (fun y : Nat × (List UInt8) × Int => y.1) (FUEL, ([] : List UInt8), (0 : Int)) h ?_
   rintro ⟨n, v2_0, v2_1⟩ h
   replace h : m_text32_L2 a0 n v2_0 v2_1 = some o1 := h
   rcases n with _ | n
   · cases (show (none : Option _) = some _ from h)
   rw [m_text32_L2] at h
   try dsimp only
   refine ax_seq ?_
   refine ax_seq ?_
   refine ax_region ?_
   refine al_run tt_ok rfl rfl ?_
   refine ax_cond rfl rfl (fun hc => ?_) (fun hc => ?_)
   ·
    replace h := cond_t hc h
    refine ax_skip ?_
    refine ax_seq ?_
    refine ax_block ?_
    refine ax_seq ?_
    refine ax_seq ?_
    refine ax_region ?_
    refine al_run tt_ok rfl rfl ?_
    obtain ⟨o3, ho3, hk3⟩ := bd h
    refine ax_cutS (fun o3 : (List UInt8) => ⟨[(0, .a (.c (.lst gOp a0 c0))), (3, .a (.c (.str o3))), (4, .a (.c (.val (.int .i64 v2_1))))], []⟩) (fun o' => o3 = o') ?_ ?_
    ·
     have h := ho3
     refine ax_cond rfl rfl (fun hc => ?_) (fun hc => ?_)
     ·
      replace h := cond_t hc h
      obtain ⟨hG4, h⟩ := gd_some h
      refine ax_region ?_
      refine al_run tt_ok rfl (by first | (simp only [hG4, ob, decide_true, cond_true, cond_false]; done) | (simp_all; done) | (simp only [hG4, ob, decide_true, cond_true, cond_false]; rfl)) ?_
      exact ⟨_, (Option.some.inj h).symm, (Wk.sub (SubL.cons rfl (SubL.cons rfl (SubL.cons rfl SubL.nil))) SubH.nil)⟩
     ·
      replace h := cond_f hc h
      refine ax_skip ?_
      exact ⟨_, (Option.some.inj h).symm, (Wk.sub (SubL.cons rfl (SubL.cons rfl (SubL.cons rfl SubL.nil))) SubH.nil)⟩
    ·
     rintro _ rfl
     have h := hk3
     obtain ⟨hG7, h⟩ := gd_some h
     obtain ⟨r5, hr5, h⟩ := bd h
     obtain ⟨hG8, h⟩ := gd_some h
     refine ax_region ?_
     refine al_upto tt_ok rfl (by first | (simp only [hG7, hG8, ob, decide_true, cond_true, cond_false]; done) | (simp_all; done) | (simp only [hG7, hG8, ob, decide_true, cond_true, cond_false]; rfl)) ?_
     refine al_callP (w_optext _  r5 hr5) rfl ⟨rfl, rfl⟩ rfl Tryd.func22 rfl rfl rfl (by first | (simp only [hG7, hG8, ob, decide_true, cond_true, cond_false]; done) | (simp_all; done) | (simp only [hG7, hG8, ob, decide_true, cond_true, cond_false]; rfl)) rfl rfl ?_
     refine al_run tt_ok rfl (by first | (simp only [hG7, hG8, ob, decide_true, cond_true, cond_false]; done) | (simp_all; done) | (simp only [hG7, hG8, ob, decide_true, cond_true, cond_false]; rfl)) ?_
     obtain ⟨hG6, h⟩ := gd_some h
     refine ax_region ?_
     refine al_run tt_ok rfl (by first | (simp only [hG6, ob, decide_true, cond_true, cond_false]; done) | (simp_all; done) | (simp only [hG6, ob, decide_true, cond_true, cond_false]; rfl)) ?_
     refine ⟨(n, _, _), h, Nat.lt_succ_self _, (Wk.sub (SubL.cons rfl (SubL.cons rfl (SubL.cons rfl SubL.nil))) SubH.nil)⟩
   ·
    replace h := cond_f hc h
    refine ax_exit ?_
    exact ⟨_, (Option.some.inj h).symm, (Wk.sub (SubL.cons rfl SubL.nil) SubH.nil)⟩
  ·
   rintro _ rfl
   have h := hk1
   refine ax_seq ?_
   refine ax_region ?_
   refine al_run tt_ok rfl rfl ?_
   refine ax_ret ?_
   obtain rfl := Option.some.inj h
   refine ⟨_, (Wk.sub (st' := ⟨[(2, _)], []⟩) (SubL.cons rfl SubL.nil) SubH.nil), _, _, rfl, rfl, ?_⟩
   exact ⟨rfl, rfl⟩
def m_numbers32_L2 (a0 : (List Int)) (a1 : (List Int)) : Nat → Int → Option ((Unit) ⊕ (Bool))
  | 0, _ => none
  | n + 1, v2_0 =>
    cond (decide (v2_0 < (a0.length : Int))) (gd ((inB v2_0 a0.length) && (inB v2_0 a1.length)) <|
    cond (!(decide ((a0.getD v2_0.toNat 0) = (a1.getD v2_0.toNat 0)))) (some (.inr false)) (gd ((inI64 (v2_0 + (1 : Int)))) <|
    m_numbers32_L2 a0 a1 n (v2_0 + (1 : Int)))) (some (.inl ()))
def m_numbers32 (a0 : (List Int)) (a1 : (List Int)) : Option (Bool) :=
    cond (!(decide ((a0.length : Int) = (a1.length : Int)))) (some false) (Option.bind (m_numbers32_L2 a0 a1 FUEL (0 : Int)) fun o1 =>
    sm o1 (fun o1 =>
    some true) (fun q => some q))
set_option maxRecDepth 20000 in
set_option maxHeartbeats 4000000 in
theorem w_numbers32 (a0 : (List Int)) (a1 : (List Int)) (c0 c1 : Option Nat) (r : (Bool)) (h : m_numbers32 a0 a1 = some r) : AC cx 30 [.c (.lst (.int .i64) a0 c0), .c (.lst (.int .i64) a1 c1)] [] (fun sv h => sv = .a (.c (.val (.bool r))) ∧ h = []) := by
  unfold m_numbers32 at h
  refine ac_body tt_ok Tryd.func30 rfl Tryd.ntmps30 rfl rfl (res := [.tmp 4]) rfl ?_
  refine ax_seq ?_
  refine ax_region ?_
  refine al_run tt_ok rfl rfl ?_
  refine ax_seq ?_
  refine ax_seq ?_
  refine ax_region ?_
  refine al_run tt_ok rfl rfl ?_
  refine ax_cond rfl rfl (fun hc => ?_) (fun hc => ?_)
  ·
   replace h := cond_t hc h
   refine ax_seq ?_
   refine ax_region ?_
   refine al_run tt_ok rfl rfl ?_
   refine ax_ret ?_
   obtain rfl := Option.some.inj h
   refine ⟨_, (Wk.sub (st' := ⟨[(4, _)], []⟩) (SubL.cons rfl SubL.nil) SubH.nil), _, _, rfl, rfl, ?_⟩
   exact ⟨rfl, rfl⟩
  ·
   replace h := cond_f hc h
   refine ax_skip ?_
   refine ax_seq ?_
   refine ax_seq ?_
   refine ax_region ?_
   refine al_run tt_ok rfl rfl ?_
   obtain ⟨o1, ho1, hk1⟩ := bd h
   refine ax_cutS (fun o1 : Unit => ⟨[], []⟩) (fun o' => Sum.inl o' = o1) ?_ ?_
   ·
    have h := ho1
    refine ax_block ?_
    refine ax_weak (st' := ⟨[(5, _), (0, _), (1, _)], []⟩) (Wk.sub (SubL.cons rfl (SubL.cons rfl (SubL.cons rfl SubL.nil))) SubH.nil) ?_
    refine ax_loopL (fun y : Nat × Int => [(5, .a (.c (.val (.int .i64 y.2))))]) (fun y : Nat × Int => []) (fun y : Nat × Int => m_numbers32_L2 a0 a1 y.1 y.2 = some o1) (fun y : Nat × Int => y.1) (FUEL, (0 : Int)) h ?_
    rintro ⟨n, v2_0⟩ h
    replace h : m_numbers32_L2 a0 a1 n v2_0 = some o1 := h
    rcases n with _ | n
    · cases (show (none : Option _) = some _ from h)
    rw [m_numbers32_L2] at h
    try dsimp only
    refine ax_seq ?_
    refine ax_seq ?_
    refine ax_region ?_
    refine al_run tt_ok rfl rfl ?_
    refine ax_cond rfl rfl (fun hc => ?_) (fun hc => ?_)
    ·
     replace h := cond_t hc h
     refine ax_skip ?_
     refine ax_seq ?_
     refine ax_block ?_
     refine ax_seq ?_
     obtain ⟨hG4, h⟩ := gd_some h
     simp only [Bool.and_eq_true] at hG4
     obtain ⟨hG4_0, hG4_1⟩ := hG4
     refine ax_draw [] (by kernel_rfl) rfl (N := 9) ?_
     refine ad_run (fuel := 0) (ds' := ⟨#[true, true, true, true, true, true, true, true, true], true, true, true⟩) tt_ok [(0, 0), (1, 0), (2, 0), (3, 1), (4, 0), (5, 0), (6, 0), (7, 1), (8, 0)] (by kernel_rfl) rfl (by first | (simp only [hG4_0, hG4_1, ob, decide_true, cond_true, cond_false]; done) | (simp_all; done) | (simp only [hG4_0, hG4_1, ob, decide_true, cond_true, cond_false]; rfl)) ?_
     refine ad_done (by kernel_rfl) ?_
     refine ax_cond rfl rfl (fun hc => ?_) (fun hc => ?_)
     ·
      replace h := cond_t hc h
      refine ax_seq ?_
      refine ax_region ?_
      refine al_run tt_ok rfl rfl ?_
      refine ax_ret ?_
      obtain rfl := Option.some.inj h
      have h := hk1
      dsimp only [sm] at h
      obtain rfl := Option.some.inj h
      refine ⟨_, (Wk.sub (st' := ⟨[(4, _)], []⟩) (SubL.cons rfl SubL.nil) SubH.nil), _, _, rfl, rfl, ?_⟩
      exact ⟨rfl, rfl⟩
     ·
      replace h := cond_f hc h
      refine ax_skip ?_
      obtain ⟨hG3, h⟩ := gd_some h
      refine ax_region ?_
      refine al_run tt_ok rfl (by first | (simp only [hG3, ob, decide_true, cond_true, cond_false]; done) | (simp_all; done) | (simp only [hG3, ob, decide_true, cond_true, cond_false]; rfl)) ?_
      refine ⟨(n, _), h, Nat.lt_succ_self _, (Wk.sub (SubL.cons rfl (SubL.cons rfl (SubL.cons rfl SubL.nil))) SubH.nil)⟩
    ·
     replace h := cond_f hc h
     refine ax_exit ?_
     exact ⟨_, Option.some.inj h, (Wk.sub SubL.nil SubH.nil)⟩
   ·
    rintro o1 rfl
    have h := hk1
    dsimp only [sm] at h
    refine ax_seq ?_
    refine ax_region ?_
    refine al_run tt_ok rfl rfl ?_
    refine ax_ret ?_
    obtain rfl := Option.some.inj h
    refine ⟨_, (Wk.sub (st' := ⟨[(4, _)], []⟩) (SubL.cons rfl SubL.nil) SubH.nil), _, _, rfl, rfl, ?_⟩
    exact ⟨rfl, rfl⟩
def s_lives32_1 : List UInt8 := [105, 110, 32, 49, 32, 108, 101, 102, 116, 59, 32, 107, 110, 105, 116, 32, 114, 105, 103, 104, 116, 32, 102, 49, 51, 32, 49, 59, 32, 107, 110, 105, 116, 32, 114, 105, 103, 104, 116, 32, 102, 49, 52, 32, 49, 59, 32, 107, 110, 105, 116, 32, 108, 101, 102, 116, 32, 98, 49, 52, 32, 49, 59, 32, 107, 110, 105, 116, 32, 108, 101, 102, 116, 32, 98, 49, 51, 32, 49, 59, 32, 120, 102, 101, 114, 32, 98, 49, 51, 59, 32, 120, 102, 101, 114, 32, 98, 49, 52, 59, 32, 107, 110, 105, 116, 32, 114, 105, 103, 104, 116, 32, 102, 49, 51, 32, 49, 59, 32, 120, 102, 101, 114, 32, 102, 49, 51, 59, 32, 114, 97, 99, 107, 32, 49, 59, 32, 120, 102, 101, 114, 32, 98, 49, 51, 59, 32, 114, 97, 99, 107, 32, 48, 59, 32, 107, 110, 105, 116, 32, 114, 105, 103, 104, 116, 32, 102, 49, 52, 32, 49, 59, 32, 100, 114, 111, 112, 32, 102, 49, 52, 59, 32, 111, 117, 116, 32, 49]
def m_lives32  : Option (Bool) :=
    Option.bind (m_rcompile ((2 : Int), [(1 : Int)])) fun r1 =>
    Option.bind (m_rrounds ((2 : Int), [(1 : Int)])) fun r2 =>
    Option.bind (m_rrounds ((2 : Int), [(1 : Int), (2 : Int), (1 : Int)])) fun r3 =>
    Option.bind (cond (cond (cond (decide (r1.2 = (0 : Int))) (decide (r2.2.2 = (0 : Int))) false) (decide (r3.2.2 = (0 : Int))) false) (m_text32 r1.1) (some default)) fun r4 =>
    Option.bind (cond (cond (cond (cond (decide (r1.2 = (0 : Int))) (decide (r2.2.2 = (0 : Int))) false) (decide (r3.2.2 = (0 : Int))) false) (r4 == s_lives32_1) false) (m_numbers32 r2.1 [(0 : Int), (5 : Int)]) (some default)) fun r5 =>
    Option.bind (cond (cond (cond (cond (cond (decide (r1.2 = (0 : Int))) (decide (r2.2.2 = (0 : Int))) false) (decide (r3.2.2 = (0 : Int))) false) (r4 == s_lives32_1) false) r5 false) (m_numbers32 r3.1 [(0 : Int), (5 : Int), (10 : Int), (14 : Int)]) (some default)) fun r6 =>
    some (cond (cond (cond (cond (cond (decide (r1.2 = (0 : Int))) (decide (r2.2.2 = (0 : Int))) false) (decide (r3.2.2 = (0 : Int))) false) (r4 == s_lives32_1) false) r5 false) r6 false)
set_option maxRecDepth 20000 in
set_option maxHeartbeats 4000000 in
theorem w_lives32  (r : (Bool)) (h : m_lives32  = some r) : AC cx 31 [] [] (fun sv h => sv = .a (.c (.val (.bool r))) ∧ h = []) := by
  unfold m_lives32 at h
  refine ac_body tt_ok Tryd.func31 rfl Tryd.ntmps31 rfl rfl (res := [.tmp 0]) rfl ?_
  refine ax_seq ?_
  refine ax_region ?_
  refine al_run tt_ok rfl rfl ?_
  refine ax_seq ?_
  refine ax_region ?_
  refine al_run tt_ok rfl rfl ?_
  refine ax_seq ?_
  obtain ⟨r1, hr1, h⟩ := bd h
  refine ax_region ?_
  refine al_upto tt_ok rfl rfl ?_
  refine al_weak (Wk.frz (id := 8) rfl) ?_
  refine al_callP (w_rcompile _ (some 1) r1 hr1) rfl ⟨rfl, rfl⟩ rfl Tryd.func27 rfl rfl rfl rfl rfl rfl ?_
  refine al_run tt_ok rfl rfl ?_
  refine ax_seq ?_
  obtain ⟨r2, hr2, h⟩ := bd h
  refine ax_region ?_
  refine al_upto tt_ok rfl rfl ?_
  refine al_callP (w_rrounds _ (some 1) r2 hr2) rfl ⟨rfl, rfl⟩ rfl Tryd.func28 rfl rfl rfl rfl rfl rfl ?_
  refine al_run tt_ok rfl rfl ?_
  refine ax_seq ?_
  refine ax_region ?_
  refine al_run tt_ok rfl rfl ?_
  refine ax_seq ?_
  obtain ⟨r3, hr3, h⟩ := bd h
  refine ax_region ?_
  refine al_upto tt_ok rfl rfl ?_
  refine al_weak (Wk.frz (id := 20) rfl) ?_
  refine al_callP (w_rrounds _ (some 3) r3 hr3) rfl ⟨rfl, rfl⟩ rfl Tryd.func28 rfl rfl rfl rfl rfl rfl ?_
  refine al_run tt_ok rfl rfl ?_
  refine ax_seq ?_
  obtain ⟨r4, hr4, h⟩ := bd h
  obtain ⟨r5, hr5, h⟩ := bd h
  obtain ⟨r6, hr6, h⟩ := bd h
  refine ax_region ?_
  refine al_upto tt_ok rfl (by first | (generalize (decide (r2.2.2 = (0 : Int))) = b0; generalize (decide (r3.2.2 = (0 : Int))) = b1; generalize (decide (r1.2 = (0 : Int))) = b2; generalize (r4 == s_lives32_1) = b3; generalize r5 = b4; revert b0 b1 b2 b3 b4; decide) | (simp only [ob, decide_true, cond_true, cond_false]; done) | (simp_all; done) | (simp only [ob, decide_true, cond_true, cond_false]; rfl)) ?_
  refine al_guard (.c (.str r4)) rfl rfl rfl rfl rfl (fun hq7 => ?_) (fun hq7 => ?_)
  ·
   replace hr4 := cond_t hq7 hr4
   try simp only [ob2, cond_true, cond_false] at hq7
   all_goals
    refine al_callP (w_text32 _ (some r1.1.length) r4 hr4) rfl ⟨rfl, rfl⟩ rfl Tryd.func29 rfl rfl rfl (by first | (simp only [hq7, ob, decide_true, cond_true, cond_false]; done) | (revert hq7; generalize (decide (r2.2.2 = (0 : Int))) = b0; generalize (decide (r3.2.2 = (0 : Int))) = b1; generalize (decide (r1.2 = (0 : Int))) = b2; generalize (r4 == s_lives32_1) = b3; generalize r5 = b4; revert b0 b1 b2 b3 b4; decide) | (simp_all; done) | (simp only [hq7, ob, decide_true, cond_true, cond_false]; rfl)) rfl rfl ?_
    refine al_upto tt_ok rfl (by first | (simp only [hq7, ob, decide_true, cond_true, cond_false]; done) | (revert hq7; generalize (decide (r2.2.2 = (0 : Int))) = b0; generalize (decide (r3.2.2 = (0 : Int))) = b1; generalize (decide (r1.2 = (0 : Int))) = b2; generalize (r4 == s_lives32_1) = b3; generalize r5 = b4; revert b0 b1 b2 b3 b4; decide) | (simp_all; done) | (simp only [hq7, ob, decide_true, cond_true, cond_false]; rfl)) ?_
    refine al_guard (.c (.lst (.int .i64) [(0 : Int), (5 : Int)] (some 2))) rfl rfl rfl rfl rfl (fun hq8 => ?_) (fun hq8 => ?_)
    ·
     try simp only [hq7, ob2, cond_true, cond_false] at hq8
     all_goals
      refine al_one tt_ok rfl (by first | (simp only [hq7, hq8, ob, decide_true, cond_true, cond_false]; done) | (revert hq7 hq8; generalize (decide (r2.2.2 = (0 : Int))) = b0; generalize (decide (r3.2.2 = (0 : Int))) = b1; generalize (decide (r1.2 = (0 : Int))) = b2; generalize (r4 == s_lives32_1) = b3; generalize r5 = b4; revert b0 b1 b2 b3 b4; decide) | (simp_all; done) | (simp only [hq7, hq8, ob, decide_true, cond_true, cond_false]; rfl)) ?_
      refine al_weak (Wk.frz (id := 44) rfl) ?_
      refine al_guard (.c (.val (.bool r5))) rfl rfl rfl rfl rfl (fun hq9 => ?_) (fun hq9 => ?_)
      ·
       replace hr5 := cond_t hq9 hr5
       try simp only [hq7, hq8, ob2, cond_true, cond_false] at hq9
       all_goals
        refine al_callP (w_numbers32 _ _ r2.2.1 (some 2) r5 hr5) rfl ⟨rfl, rfl⟩ rfl Tryd.func30 rfl rfl rfl (by first | (simp only [hq7, hq8, hq9, ob, decide_true, cond_true, cond_false]; done) | (revert hq7 hq8 hq9; generalize (decide (r2.2.2 = (0 : Int))) = b0; generalize (decide (r3.2.2 = (0 : Int))) = b1; generalize (decide (r1.2 = (0 : Int))) = b2; generalize (r4 == s_lives32_1) = b3; generalize r5 = b4; revert b0 b1 b2 b3 b4; decide) | (simp_all; done) | (simp only [hq7, hq8, hq9, ob, decide_true, cond_true, cond_false]; rfl)) rfl rfl ?_
        refine al_upto tt_ok rfl (by first | (simp only [hq7, hq8, hq9, ob, decide_true, cond_true, cond_false]; done) | (revert hq7 hq8 hq9; generalize (decide (r2.2.2 = (0 : Int))) = b0; generalize (decide (r3.2.2 = (0 : Int))) = b1; generalize (decide (r1.2 = (0 : Int))) = b2; generalize (r4 == s_lives32_1) = b3; generalize r5 = b4; revert b0 b1 b2 b3 b4; decide) | (simp_all; done) | (simp only [hq7, hq8, hq9, ob, decide_true, cond_true, cond_false]; rfl)) ?_
        refine al_guard (.c (.lst (.int .i64) [(0 : Int), (5 : Int), (10 : Int), (14 : Int)] (some 4))) rfl rfl rfl rfl rfl (fun hq10 => ?_) (fun hq10 => ?_)
        ·
         try simp only [hq7, hq8, hq9, ob2, cond_true, cond_false] at hq10
         all_goals
          refine al_one tt_ok rfl (by first | (simp only [hq7, hq8, hq9, hq10, ob, decide_true, cond_true, cond_false]; done) | (revert hq7 hq8 hq9 hq10; generalize (decide (r2.2.2 = (0 : Int))) = b0; generalize (decide (r3.2.2 = (0 : Int))) = b1; generalize (decide (r1.2 = (0 : Int))) = b2; generalize (r4 == s_lives32_1) = b3; generalize r5 = b4; revert b0 b1 b2 b3 b4; decide) | (simp_all; done) | (simp only [hq7, hq8, hq9, hq10, ob, decide_true, cond_true, cond_false]; rfl)) ?_
          refine al_weak (Wk.frz (id := 49) rfl) ?_
          refine al_guard (.c (.val (.bool r6))) rfl rfl rfl rfl rfl (fun hq11 => ?_) (fun hq11 => ?_)
          ·
           replace hr6 := cond_t hq11 hr6
           try simp only [hq7, hq8, hq9, hq10, ob2, cond_true, cond_false] at hq11
           all_goals
            refine al_callP (w_numbers32 _ _ r3.2.1 (some 4) r6 hr6) rfl ⟨rfl, rfl⟩ rfl Tryd.func30 rfl rfl rfl (by first | (simp only [hq7, hq8, hq9, hq10, hq11, ob, decide_true, cond_true, cond_false]; done) | (revert hq7 hq8 hq9 hq10 hq11; generalize (decide (r2.2.2 = (0 : Int))) = b0; generalize (decide (r3.2.2 = (0 : Int))) = b1; generalize (decide (r1.2 = (0 : Int))) = b2; generalize (r4 == s_lives32_1) = b3; generalize r5 = b4; revert b0 b1 b2 b3 b4; decide) | (simp_all; done) | (simp only [hq7, hq8, hq9, hq10, hq11, ob, decide_true, cond_true, cond_false]; rfl)) rfl rfl ?_
            refine al_run tt_ok rfl (by first | (simp only [hq7, hq8, hq9, hq10, hq11, ob, decide_true, cond_true, cond_false]; done) | (revert hq7 hq8 hq9 hq10 hq11; generalize (decide (r2.2.2 = (0 : Int))) = b0; generalize (decide (r3.2.2 = (0 : Int))) = b1; generalize (decide (r1.2 = (0 : Int))) = b2; generalize (r4 == s_lives32_1) = b3; generalize r5 = b4; revert b0 b1 b2 b3 b4; decide) | (simp_all; done) | (simp only [hq7, hq8, hq9, hq10, hq11, ob, decide_true, cond_true, cond_false]; rfl)) ?_
            refine ax_ret ?_
            obtain rfl := Option.some.inj h
            refine ⟨_, (Wk.sub (st' := ⟨[(0, _)], []⟩) (SubL.cons rfl SubL.nil) SubH.nil), _, _, rfl, rfl, ?_⟩
            exact ⟨rfl, rfl⟩
          ·
           exfalso; simp only [hq7, hq8, hq9, hq10, ob2, cond_true, cond_false] at hq11
        ·
         try simp only [hq7, hq8, hq9, ob2, cond_true, cond_false] at hq10
         all_goals
          refine al_guard (.c (.val (.bool r6))) rfl rfl rfl rfl rfl (fun hq12 => ?_) (fun hq12 => ?_)
          ·
           exfalso; simp only [hq7, hq8, hq9, hq10, ob2, cond_true, cond_false] at hq12
          ·
           try simp only [hq7, hq8, hq9, hq10, ob2, cond_true, cond_false] at hq12
           all_goals
            refine al_run tt_ok rfl (by first | (simp only [hq7, hq8, hq9, hq10, hq12, ob, decide_true, cond_true, cond_false]; done) | (revert hq7 hq8 hq9 hq10 hq12; generalize (decide (r2.2.2 = (0 : Int))) = b0; generalize (decide (r3.2.2 = (0 : Int))) = b1; generalize (decide (r1.2 = (0 : Int))) = b2; generalize (r4 == s_lives32_1) = b3; generalize r5 = b4; revert b0 b1 b2 b3 b4; decide) | (simp_all; done) | (simp only [hq7, hq8, hq9, hq10, hq12, ob, decide_true, cond_true, cond_false]; rfl)) ?_
            refine ax_ret ?_
            obtain rfl := Option.some.inj h
            refine ⟨_, (Wk.sub (st' := ⟨[(0, _)], []⟩) (SubL.cons rfl SubL.nil) SubH.nil), _, _, rfl, rfl, ?_⟩
            exact ⟨rfl, rfl⟩
      ·
       exfalso; simp only [hq7, hq8, ob2, cond_true, cond_false] at hq9
    ·
     try simp only [hq7, ob2, cond_true, cond_false] at hq8
     all_goals
      refine al_guard (.c (.val (.bool r5))) rfl rfl rfl rfl rfl (fun hq13 => ?_) (fun hq13 => ?_)
      ·
       exfalso; simp only [hq7, hq8, ob2, cond_true, cond_false] at hq13
      ·
       try simp only [hq7, hq8, ob2, cond_true, cond_false] at hq13
       all_goals
        refine al_upto tt_ok rfl (by first | (simp only [hq7, hq8, hq13, ob, decide_true, cond_true, cond_false]; done) | (revert hq7 hq8 hq13; generalize (decide (r2.2.2 = (0 : Int))) = b0; generalize (decide (r3.2.2 = (0 : Int))) = b1; generalize (decide (r1.2 = (0 : Int))) = b2; generalize (r4 == s_lives32_1) = b3; generalize r5 = b4; revert b0 b1 b2 b3 b4; decide) | (simp_all; done) | (simp only [hq7, hq8, hq13, ob, decide_true, cond_true, cond_false]; rfl)) ?_
        refine al_guard (.c (.lst (.int .i64) [(0 : Int), (5 : Int), (10 : Int), (14 : Int)] (some 4))) rfl rfl rfl rfl rfl (fun hq14 => ?_) (fun hq14 => ?_)
        ·
         exfalso; simp only [hq7, hq8, hq13, ob2, cond_true, cond_false] at hq14
        ·
         try simp only [hq7, hq8, hq13, ob2, cond_true, cond_false] at hq14
         all_goals
          refine al_guard (.c (.val (.bool r6))) rfl rfl rfl rfl rfl (fun hq15 => ?_) (fun hq15 => ?_)
          ·
           exfalso; simp only [hq7, hq8, hq13, hq14, ob2, cond_true, cond_false] at hq15
          ·
           try simp only [hq7, hq8, hq13, hq14, ob2, cond_true, cond_false] at hq15
           all_goals
            refine al_run tt_ok rfl (by first | (simp only [hq7, hq8, hq13, hq14, hq15, ob, decide_true, cond_true, cond_false]; done) | (revert hq7 hq8 hq13 hq14 hq15; generalize (decide (r2.2.2 = (0 : Int))) = b0; generalize (decide (r3.2.2 = (0 : Int))) = b1; generalize (decide (r1.2 = (0 : Int))) = b2; generalize (r4 == s_lives32_1) = b3; generalize r5 = b4; revert b0 b1 b2 b3 b4; decide) | (simp_all; done) | (simp only [hq7, hq8, hq13, hq14, hq15, ob, decide_true, cond_true, cond_false]; rfl)) ?_
            refine ax_ret ?_
            obtain rfl := Option.some.inj h
            refine ⟨_, (Wk.sub (st' := ⟨[(0, _)], []⟩) (SubL.cons rfl SubL.nil) SubH.nil), _, _, rfl, rfl, ?_⟩
            exact ⟨rfl, rfl⟩
  ·
   try simp only [ob2, cond_true, cond_false] at hq7
   all_goals
    refine al_upto tt_ok rfl (by first | (simp only [hq7, ob, decide_true, cond_true, cond_false]; done) | (revert hq7; generalize (decide (r2.2.2 = (0 : Int))) = b0; generalize (decide (r3.2.2 = (0 : Int))) = b1; generalize (decide (r1.2 = (0 : Int))) = b2; generalize (r4 == s_lives32_1) = b3; generalize r5 = b4; revert b0 b1 b2 b3 b4; decide) | (simp_all; done) | (simp only [hq7, ob, decide_true, cond_true, cond_false]; rfl)) ?_
    refine al_guard (.c (.lst (.int .i64) [(0 : Int), (5 : Int)] (some 2))) rfl rfl rfl rfl rfl (fun hq16 => ?_) (fun hq16 => ?_)
    ·
     exfalso; simp only [hq7, ob2, cond_true, cond_false] at hq16
    ·
     try simp only [hq7, ob2, cond_true, cond_false] at hq16
     all_goals
      refine al_guard (.c (.val (.bool r5))) rfl rfl rfl rfl rfl (fun hq17 => ?_) (fun hq17 => ?_)
      ·
       exfalso; simp only [hq7, hq16, ob2, cond_true, cond_false] at hq17
      ·
       try simp only [hq7, hq16, ob2, cond_true, cond_false] at hq17
       all_goals
        refine al_upto tt_ok rfl (by first | (simp only [hq7, hq16, hq17, ob, decide_true, cond_true, cond_false]; done) | (revert hq7 hq16 hq17; generalize (decide (r2.2.2 = (0 : Int))) = b0; generalize (decide (r3.2.2 = (0 : Int))) = b1; generalize (decide (r1.2 = (0 : Int))) = b2; generalize (r4 == s_lives32_1) = b3; generalize r5 = b4; revert b0 b1 b2 b3 b4; decide) | (simp_all; done) | (simp only [hq7, hq16, hq17, ob, decide_true, cond_true, cond_false]; rfl)) ?_
        refine al_guard (.c (.lst (.int .i64) [(0 : Int), (5 : Int), (10 : Int), (14 : Int)] (some 4))) rfl rfl rfl rfl rfl (fun hq18 => ?_) (fun hq18 => ?_)
        ·
         exfalso; simp only [hq7, hq16, hq17, ob2, cond_true, cond_false] at hq18
        ·
         try simp only [hq7, hq16, hq17, ob2, cond_true, cond_false] at hq18
         all_goals
          refine al_guard (.c (.val (.bool r6))) rfl rfl rfl rfl rfl (fun hq19 => ?_) (fun hq19 => ?_)
          ·
           exfalso; simp only [hq7, hq16, hq17, hq18, ob2, cond_true, cond_false] at hq19
          ·
           try simp only [hq7, hq16, hq17, hq18, ob2, cond_true, cond_false] at hq19
           all_goals
            refine al_run tt_ok rfl (by first | (simp only [hq7, hq16, hq17, hq18, hq19, ob, decide_true, cond_true, cond_false]; done) | (revert hq7 hq16 hq17 hq18 hq19; generalize (decide (r2.2.2 = (0 : Int))) = b0; generalize (decide (r3.2.2 = (0 : Int))) = b1; generalize (decide (r1.2 = (0 : Int))) = b2; generalize (r4 == s_lives32_1) = b3; generalize r5 = b4; revert b0 b1 b2 b3 b4; decide) | (simp_all; done) | (simp only [hq7, hq16, hq17, hq18, hq19, ob, decide_true, cond_true, cond_false]; rfl)) ?_
            refine ax_ret ?_
            obtain rfl := Option.some.inj h
            refine ⟨_, (Wk.sub (st' := ⟨[(0, _)], []⟩) (SubL.cons rfl SubL.nil) SubH.nil), _, _, rfl, rfl, ?_⟩
            exact ⟨rfl, rfl⟩
def m_roundsErrors_L3 (a0 : (Int × (List Int))) : Nat → Int → Int → Option (Int)
  | 0, _, _ => none
  | n + 1, v3_0, v3_1 =>
    cond (decide (v3_1 < (a0.2.length : Int))) (gd ((inB v3_1 a0.2.length) && (!(!(decide ((a0.2.getD v3_1.toNat 0) < (1 : Int)))) || (inB v3_1 a0.2.length))) <|
    cond (cond (decide ((a0.2.getD v3_1.toNat 0) < (1 : Int))) true (decide ((6 : Int) < (a0.2.getD v3_1.toNat 0)))) (gd ((inI64 (v3_1 + (1 : Int)))) <|
    m_roundsErrors_L3 a0 n (1 : Int) (v3_1 + (1 : Int))) (gd ((inI64 (v3_1 + (1 : Int)))) <|
    m_roundsErrors_L3 a0 n v3_0 (v3_1 + (1 : Int)))) (some v3_0)
def m_roundsErrors (a0 : (Int × (List Int))) : Option (Bool) :=
    cond (decide ((40 : Int) < (a0.2.length : Int))) (Option.bind (m_lives32) fun r1 =>
    some r1) (Option.bind (m_roundsErrors_L3 a0 FUEL (0 : Int) (0 : Int)) fun o2 =>
    Option.bind (cond (cond (decide (a0.1 < (1 : Int))) true (decide ((a0.2.length : Int) = (0 : Int)))) (some (1 : Int)) (some o2)) fun o7 =>
    Option.bind (cond (cond (decide ((16 : Int) < a0.1)) true (decide ((31 : Int) < (a0.2.length : Int)))) (some (3 : Int)) (some o7)) fun o8 =>
    Option.bind (m_rcompile a0) fun r9 =>
    Option.bind (m_rrounds a0) fun r10 =>
    gd ((!((cond (decide (r9.2 = o8)) (decide (r10.2.2 = o8)) false) && !(decide (r9.2 = (0 : Int)))) || (inI64 ((r9.1.length : Int) + (r10.1.length : Int))))) <|
    Option.bind (cond (cond (cond (decide (r9.2 = o8)) (decide (r10.2.2 = o8)) false) (cond (decide (r9.2 = (0 : Int))) true (decide (((r9.1.length : Int) + (r10.1.length : Int)) = (0 : Int)))) false) (m_lives32) (some default)) fun r11 =>
    some (cond (cond (cond (decide (r9.2 = o8)) (decide (r10.2.2 = o8)) false) (cond (decide (r9.2 = (0 : Int))) true (decide (((r9.1.length : Int) + (r10.1.length : Int)) = (0 : Int)))) false) r11 false))
set_option maxRecDepth 20000 in
set_option maxHeartbeats 4000000 in
theorem w_roundsErrors (a0 : (Int × (List Int))) (c0 : Option Nat) (r : (Bool)) (h : m_roundsErrors a0 = some r) : AC cx 9 [.agg [.val (.int .i64 a0.1), .lst (.int .u8) a0.2 c0]] [] (fun sv h => sv = .a (.c (.val (.bool r))) ∧ h = []) := by
  unfold m_roundsErrors at h
  refine ac_body tt_ok Tryd.func9 rfl Tryd.ntmps9 rfl rfl (res := [.tmp 2]) rfl ?_
  refine ax_seq ?_
  refine ax_region ?_
  refine al_run tt_ok rfl rfl ?_
  refine ax_seq ?_
  refine ax_seq ?_
  refine ax_region ?_
  refine al_run tt_ok rfl rfl ?_
  refine ax_cond rfl rfl (fun hc => ?_) (fun hc => ?_)
  ·
   replace h := cond_t hc h
   refine ax_seq ?_
   obtain ⟨r1, hr1, h⟩ := bd h
   refine ax_region ?_
   refine al_callP (w_lives32   r1 hr1) rfl ⟨rfl, rfl⟩ rfl Tryd.func31 rfl rfl rfl rfl rfl rfl ?_
   refine al_run tt_ok rfl rfl ?_
   refine ax_ret ?_
   obtain rfl := Option.some.inj h
   refine ⟨_, (Wk.sub (st' := ⟨[(2, _)], []⟩) (SubL.cons rfl SubL.nil) SubH.nil), _, _, rfl, rfl, ?_⟩
   exact ⟨rfl, rfl⟩
  ·
   replace h := cond_f hc h
   refine ax_skip ?_
   refine ax_seq ?_
   refine ax_region ?_
   refine al_run tt_ok rfl rfl ?_
   refine ax_seq ?_
   refine ax_seq ?_
   refine ax_region ?_
   refine al_run tt_ok rfl rfl ?_
   obtain ⟨o2, ho2, hk2⟩ := bd h
   refine ax_cutS (fun o2 : Int => ⟨[(1, .a (.c (.ptr 1 0))), (3, .a (.c (.val (.int .i64 o2))))], [(1, .cells 63 [.val (.int .i64 a0.1), .lst (.int .u8) a0.2 c0])]⟩) (fun o' => o2 = o') ?_ ?_
   ·
    have h := ho2
    refine ax_block ?_
    refine ax_weak (st' := ⟨[(3, _), (4, _), (1, _)], [(1, _)]⟩) (Wk.sub (SubL.cons rfl (SubL.cons rfl (SubL.cons rfl SubL.nil))) (SubH.cons rfl rfl SubH.nil)) ?_
    refine ax_loopL (fun y : Nat × Int × Int => [(3, .a (.c (.val (.int .i64 y.2.1)))), (4, .a (.c (.val (.int .i64 y.2.2))))]) (fun y : Nat × Int × Int => []) (fun y : Nat × Int × Int => m_roundsErrors_L3 a0 y.1 y.2.1 y.2.2 = some o2) (fun y : Nat × Int × Int => y.1) (FUEL, (0 : Int), (0 : Int)) h ?_
    rintro ⟨n, v3_0, v3_1⟩ h
    replace h : m_roundsErrors_L3 a0 n v3_0 v3_1 = some o2 := h
    rcases n with _ | n
    · cases (show (none : Option _) = some _ from h)
    rw [m_roundsErrors_L3] at h
    try dsimp only
    refine ax_seq ?_
    refine ax_seq ?_
    refine ax_region ?_
    refine al_run tt_ok rfl rfl ?_
    refine ax_cond rfl rfl (fun hc => ?_) (fun hc => ?_)
    ·
     replace h := cond_t hc h
     refine ax_skip ?_
     refine ax_seq ?_
     refine ax_block ?_
     refine ax_seq ?_
     obtain ⟨hG6, h⟩ := gd_some h
     simp only [Bool.and_eq_true] at hG6
     obtain ⟨hG6_0, hG6_1⟩ := hG6
     refine ax_region ?_
     refine al_run tt_ok rfl (by first | (revert hG6_0 hG6_1; generalize (decide ((a0.2.getD v3_1.toNat 0) < (1 : Int))) = b0; generalize (inB v3_1 a0.2.length) = b1; revert b0 b1; decide) | (simp only [hG6_0, hG6_1, ob, decide_true, cond_true, cond_false]; done) | (simp_all; done) | (simp only [hG6_0, hG6_1, ob, decide_true, cond_true, cond_false]; rfl)) ?_
     refine ax_cond rfl rfl (fun hc => ?_) (fun hc => ?_)
     ·
      replace h := cond_t hc h
      refine ax_region ?_
      refine al_run tt_ok rfl rfl ?_
      obtain ⟨hG4, h⟩ := gd_some h
      refine ax_region ?_
      refine al_run tt_ok rfl (by first | (simp only [hG4, ob, decide_true, cond_true, cond_false]; done) | (simp_all; done) | (simp only [hG4, ob, decide_true, cond_true, cond_false]; rfl)) ?_
      refine ⟨(n, _, _), h, Nat.lt_succ_self _, (Wk.sub (SubL.cons rfl (SubL.cons rfl (SubL.cons rfl SubL.nil))) (SubH.cons rfl rfl SubH.nil))⟩
     ·
      replace h := cond_f hc h
      refine ax_skip ?_
      obtain ⟨hG5, h⟩ := gd_some h
      refine ax_region ?_
      refine al_run tt_ok rfl (by first | (simp only [hG5, ob, decide_true, cond_true, cond_false]; done) | (simp_all; done) | (simp only [hG5, ob, decide_true, cond_true, cond_false]; rfl)) ?_
      refine ⟨(n, _, _), h, Nat.lt_succ_self _, (Wk.sub (SubL.cons rfl (SubL.cons rfl (SubL.cons rfl SubL.nil))) (SubH.cons rfl rfl SubH.nil))⟩
    ·
     replace h := cond_f hc h
     refine ax_exit ?_
     exact ⟨_, (Option.some.inj h).symm, (Wk.sub (SubL.cons rfl (SubL.cons rfl SubL.nil)) (SubH.cons rfl rfl SubH.nil))⟩
   ·
    rintro _ rfl
    have h := hk2
    refine ax_seq ?_
    refine ax_seq ?_
    refine ax_region ?_
    refine al_run tt_ok rfl (by first | (generalize (decide (a0.1 < (1 : Int))) = b0; revert b0; decide) | (simp only [ob, decide_true, cond_true, cond_false]; done) | (simp_all; done) | (simp only [ob, decide_true, cond_true, cond_false]; rfl)) ?_
    obtain ⟨o7, ho7, hk7⟩ := bd h
    refine ax_cutS (fun o7 : Int => ⟨[(1, .a (.c (.ptr 1 0))), (3, .a (.c (.val (.int .i64 o7))))], [(1, .cells 63 [.val (.int .i64 a0.1), .lst (.int .u8) a0.2 c0])]⟩) (fun o' => o7 = o') ?_ ?_
    ·
     have h := ho7
     refine ax_cond rfl rfl (fun hc => ?_) (fun hc => ?_)
     ·
      replace h := cond_t hc h
      refine ax_region ?_
      refine al_run tt_ok rfl rfl ?_
      exact ⟨_, (Option.some.inj h).symm, (Wk.sub (SubL.cons rfl (SubL.cons rfl SubL.nil)) (SubH.cons rfl rfl SubH.nil))⟩
     ·
      replace h := cond_f hc h
      refine ax_skip ?_
      exact ⟨_, (Option.some.inj h).symm, (Wk.sub (SubL.cons rfl (SubL.cons rfl SubL.nil)) (SubH.cons rfl rfl SubH.nil))⟩
    ·
     rintro _ rfl
     have h := hk7
     refine ax_seq ?_
     refine ax_seq ?_
     refine ax_region ?_
     refine al_run tt_ok rfl (by first | (generalize (decide ((16 : Int) < a0.1)) = b0; revert b0; decide) | (simp only [ob, decide_true, cond_true, cond_false]; done) | (simp_all; done) | (simp only [ob, decide_true, cond_true, cond_false]; rfl)) ?_
     obtain ⟨o8, ho8, hk8⟩ := bd h
     refine ax_cutS (fun o8 : Int => ⟨[(1, .a (.c (.ptr 1 0))), (3, .a (.c (.val (.int .i64 o8))))], [(1, .cells 63 [.val (.int .i64 a0.1), .lst (.int .u8) a0.2 c0])]⟩) (fun o' => o8 = o') ?_ ?_
     ·
      have h := ho8
      refine ax_cond rfl rfl (fun hc => ?_) (fun hc => ?_)
      ·
       replace h := cond_t hc h
       refine ax_region ?_
       refine al_run tt_ok rfl rfl ?_
       exact ⟨_, (Option.some.inj h).symm, (Wk.sub (SubL.cons rfl (SubL.cons rfl SubL.nil)) (SubH.cons rfl rfl SubH.nil))⟩
      ·
       replace h := cond_f hc h
       refine ax_skip ?_
       exact ⟨_, (Option.some.inj h).symm, (Wk.sub (SubL.cons rfl (SubL.cons rfl SubL.nil)) (SubH.cons rfl rfl SubH.nil))⟩
     ·
      rintro _ rfl
      have h := hk8
      refine ax_seq ?_
      obtain ⟨r9, hr9, h⟩ := bd h
      refine ax_region ?_
      refine al_upto tt_ok rfl rfl ?_
      refine al_callP (w_rcompile _ c0 r9 hr9) rfl ⟨rfl, rfl⟩ rfl Tryd.func27 rfl rfl rfl rfl rfl rfl ?_
      refine al_run tt_ok rfl rfl ?_
      refine ax_seq ?_
      obtain ⟨r10, hr10, h⟩ := bd h
      refine ax_region ?_
      refine al_upto tt_ok rfl rfl ?_
      refine al_callP (w_rrounds _ c0 r10 hr10) rfl ⟨rfl, rfl⟩ rfl Tryd.func28 rfl rfl rfl rfl rfl rfl ?_
      refine al_run tt_ok rfl rfl ?_
      refine ax_seq ?_
      obtain ⟨hG12, h⟩ := gd_some h
      obtain ⟨r11, hr11, h⟩ := bd h
      refine ax_region ?_
      refine al_upto tt_ok rfl (by first | (revert hG12; generalize (decide (((r9.1.length : Int) + (r10.1.length : Int)) = (0 : Int))) = b0; generalize (inI64 ((r9.1.length : Int) + (r10.1.length : Int))) = b1; generalize (decide (r9.2 = (0 : Int))) = b2; generalize (decide (r10.2.2 = o8)) = b3; generalize (decide (r9.2 = o8)) = b4; revert b0 b1 b2 b3 b4; decide) | (simp only [hG12, ob, decide_true, cond_true, cond_false]; done) | (simp_all; done) | (simp only [hG12, ob, decide_true, cond_true, cond_false]; rfl)) ?_
      refine al_guard (.c (.val (.bool r11))) rfl rfl rfl rfl rfl (fun hq13 => ?_) (fun hq13 => ?_)
      ·
       replace hr11 := cond_t hq13 hr11
       try simp only [ob2, cond_true, cond_false] at hq13
       all_goals
        refine al_callP (w_lives32   r11 hr11) rfl ⟨rfl, rfl⟩ rfl Tryd.func31 rfl rfl rfl (by first | (simp only [hG12, hq13, ob, decide_true, cond_true, cond_false]; done) | (revert hG12 hq13; generalize (decide (((r9.1.length : Int) + (r10.1.length : Int)) = (0 : Int))) = b0; generalize (inI64 ((r9.1.length : Int) + (r10.1.length : Int))) = b1; generalize (decide (r9.2 = (0 : Int))) = b2; generalize (decide (r10.2.2 = o8)) = b3; generalize (decide (r9.2 = o8)) = b4; revert b0 b1 b2 b3 b4; decide) | (simp_all; done) | (simp only [hG12, hq13, ob, decide_true, cond_true, cond_false]; rfl)) rfl rfl ?_
        refine al_run tt_ok rfl (by first | (simp only [hG12, hq13, ob, decide_true, cond_true, cond_false]; done) | (revert hG12 hq13; generalize (decide (((r9.1.length : Int) + (r10.1.length : Int)) = (0 : Int))) = b0; generalize (inI64 ((r9.1.length : Int) + (r10.1.length : Int))) = b1; generalize (decide (r9.2 = (0 : Int))) = b2; generalize (decide (r10.2.2 = o8)) = b3; generalize (decide (r9.2 = o8)) = b4; revert b0 b1 b2 b3 b4; decide) | (simp_all; done) | (simp only [hG12, hq13, ob, decide_true, cond_true, cond_false]; rfl)) ?_
        refine ax_ret ?_
        obtain rfl := Option.some.inj h
        refine ⟨_, (Wk.sub (st' := ⟨[(2, _)], []⟩) (SubL.cons rfl SubL.nil) SubH.nil), _, _, rfl, rfl, ?_⟩
        exact ⟨rfl, rfl⟩
      ·
       try simp only [ob2, cond_true, cond_false] at hq13
       all_goals
        refine al_run tt_ok rfl (by first | (simp only [hG12, hq13, ob, decide_true, cond_true, cond_false]; done) | (revert hG12 hq13; generalize (decide (((r9.1.length : Int) + (r10.1.length : Int)) = (0 : Int))) = b0; generalize (inI64 ((r9.1.length : Int) + (r10.1.length : Int))) = b1; generalize (decide (r9.2 = (0 : Int))) = b2; generalize (decide (r10.2.2 = o8)) = b3; generalize (decide (r9.2 = o8)) = b4; revert b0 b1 b2 b3 b4; decide) | (simp_all; done) | (simp only [hG12, hq13, ob, decide_true, cond_true, cond_false]; rfl)) ?_
        refine ax_ret ?_
        obtain rfl := Option.some.inj h
        refine ⟨_, (Wk.sub (st' := ⟨[(2, _)], []⟩) (SubL.cons rfl SubL.nil) SubH.nil), _, _, rfl, rfl, ?_⟩
        exact ⟨rfl, rfl⟩
end Go.Proofs.YtcjpcmofajcadaaDoor

/- Plain facts: loops of models. -/
namespace Go.Proofs.YtcjpcmofajcadaaDoor
open Go.RowKit
theorem fuel_of {n : Nat} (h : n ≤ 1000000) : n < FUEL := by unfold FUEL; omega
/-- A loop whose state is known at every round. -/
theorem loop_inv {S O : Type} (L : Nat → Int → S → Option O) (N : Nat) (sp : Nat → S) (r : O)
    (hs : ∀ n k, k < N → L (n + 1) (k : Int) (sp k) = L n ((k : Int) + 1) (sp (k + 1)))
    (he : ∀ n, L (n + 1) (N : Int) (sp N) = some r) : ∀ n k, k ≤ N → N - k < n → L n (k : Int) (sp k) = some r := by
  intro n
  induction n with
  | zero => intro k _ h; omega
  | succ n ih =>
    intro k hk hn
    by_cases e : k = N
    · subst e; exact he n
    · rw [hs n k (by omega)]
      have := ih (k + 1) (by omega) (by omega)
      rw [show (((k + 1 : Nat)) : Int) = (k : Int) + 1 by omega] at this
      exact this
theorem loop0 {S O : Type} (L : Nat → Int → S → Option O) (N : Nat) (sp : Nat → S) (r : O) (hN : N < FUEL)
    (hs : ∀ n k, k < N → L (n + 1) (k : Int) (sp k) = L n ((k : Int) + 1) (sp (k + 1)))
    (he : ∀ n, L (n + 1) (N : Int) (sp N) = some r) : L FUEL 0 (sp 0) = some r := loop_inv L N sp r hs he FUEL 0 (Nat.zero_le _) (by omega)
theorem loopS {S O : Type} (L : Nat → Int → S → Option O) (N : Nat) (sp : Nat → S) (s0 : S) (r : O) (h0 : sp 0 = s0) (hN : N < FUEL)
    (hs : ∀ n k, k < N → L (n + 1) (k : Int) (sp k) = L n ((k : Int) + 1) (sp (k + 1)))
    (he : ∀ n, L (n + 1) (N : Int) (sp N) = some r) : L FUEL 0 s0 = some r := by
  rw [← h0]
  exact loop0 L N sp r hN hs he
theorem gdt {α : Type} {c : Bool} {k : Option α} (h : c = true) : gd c k = k := gd_t h
theorem cdt {α : Type} {c : Bool} {x y : α} (h : c = true) : cond c x y = x := by rw [h]; rfl
theorem cdf {α : Type} {c : Bool} {x y : α} (h : c = false) : cond c x y = y := by rw [h]; rfl
/-- The first place where something does not hold. -/
theorem first_bad (p : Nat → Bool) (N : Nat) (h : ¬ ∀ k, k < N → p k = true) : ∃ j, j < N ∧ p j = false ∧ ∀ k, k < j → p k = true := by
  induction N with
  | zero => exact absurd (fun k hk => absurd hk (Nat.not_lt_zero _)) h
  | succ N ih =>
    by_cases hN : ∀ k, k < N → p k = true
    · refine ⟨N, by omega, ?_, hN⟩
      cases hp : p N with
      | false => rfl
      | true => exact absurd (fun k hk => by by_cases e : k = N; exact e ▸ hp; exact hN k (by omega)) h
    · obtain ⟨j, h1, h2⟩ := ih hN
      exact ⟨j, by omega, h2⟩
theorem tmod_small (z m : Int) (h0 : 0 ≤ z) (hm : 0 < m) : 0 ≤ z.tmod m ∧ z.tmod m < m := by
  rw [Int.tmod_eq_emod_of_nonneg h0]
  exact ⟨Int.emod_nonneg _ (by omega), Int.emod_lt_of_pos _ hm⟩
end Go.Proofs.YtcjpcmofajcadaaDoor

/- Plain facts about the models of edges. -/
namespace Go.Proofs.YtcjpcmofajcadaaDoor
open Go.RowKit
theorem check_eq (l : List Int) (hl : l.length ≤ 1000000) : m_check l = some (if chkAll l then 0 else 1) := by
  have hF : l.length < FUEL := fuel_of (by omega)
  unfold m_check
  have step : ∀ n k, k < l.length → okAt l k = true → m_check_L2 l (n + 1) k = m_check_L2 l n (k + 1) := fun n k hk h => by
    simp [okAt, -List.getD_eq_getElem?_getD] at h
    rw [m_check_L2]
    simp (disch := ((try simp [inB, inI64, fitB, -List.getD_eq_getElem?_getD]); try omega; done)) only [gdt, cdt, cdf, Option.bind_some]
  by_cases h : ∀ k, k < l.length → okAt l k = true
  · have e : chkAll l = true := by rw [chkAll, List.all_eq_true]; intro i hi; exact h i (by simpa using hi)
    have := loop0 (fun n i (s : Unit) => m_check_L2 l n i) l.length (fun _ => ()) (.inl ()) hF (fun n k hk => step n k hk (h k hk)) (fun n => by
      show m_check_L2 l (n + 1) l.length = some (.inl ())
      rw [m_check_L2]
      simp)
    rw [this, e]; rfl
  · obtain ⟨j, hj, hb, hg⟩ := first_bad (fun k => okAt l k) _ h
    have e : chkAll l = false := by
      rw [chkAll, List.all_eq_false]
      exact ⟨j, by simpa using hj, by simpa using hb⟩
    have := loop0 (fun n i (s : Unit) => m_check_L2 l n i) j (fun _ => ()) (.inr 1) (by omega) (fun n k hk => step n k (by omega) (hg k hk)) (fun n => by
      show m_check_L2 l (n + 1) j = some (.inr 1)
      simp [okAt, -List.getD_eq_getElem?_getD] at hb
      rw [m_check_L2]
      simp (disch := ((try simp [inB, inI64, fitB, -List.getD_eq_getElem?_getD]); try omega; done)) only [gdt, cdt, cdf, Option.bind_some])
    rw [this, e]; rfl
def eOk (y : Int) (l : List Int) : Bool := decide (1 ≤ y) && decide (y ≤ 6) && chkAll l && decide (0 < l.length)
theorem echeck_eq (y : Int) (l : List Int) (hl : l.length ≤ 1000000) : m_echeck y l = some (if eOk y l then 0 else 1) := by
  unfold m_echeck
  rw [check_eq l hl]
  by_cases hy : y < 1 ∨ 6 < y
  · have e : eOk y l = false := by
      simp only [eOk, Bool.and_eq_false_iff, decide_eq_false_iff_not]
      omega
    simp (disch := ((try simp [inB, inI64, fitB, -List.getD_eq_getElem?_getD]); try omega; done)) only [gdt, cdt, cdf, Option.bind_some]
    rw [e]; rfl
  · have e : eOk y l = (chkAll l && decide (0 < l.length)) := by
      have h1 : 1 ≤ y := by omega
      have h2 : y ≤ 6 := by omega
      simp [eOk, h1, h2]
    simp (disch := ((try simp [inB, inI64, fitB, -List.getD_eq_getElem?_getD]); try omega; done)) only [gdt, cdt, cdf, Option.bind_some]
    rw [e]
    cases chkAll l <;> by_cases h3 : l = [] <;> simp [h3, hy, List.length_pos_iff] <;> omega
def castOp (kd k y : Int) : OpT := (kd, 1, (0, k), y, 0)
def castOps (y : Int) (l : List Int) : List OpT := (1, 0, (0, 0), y, 0) :: l.map fun k => castOp 4 k y
def castPlan (y : Int) (l : List Int) : List OpT := castOps y l ++ [castOp 6 40 y]
theorem take_s {α : Type} (l : List α) (z : α) (k : Nat) (h : k < l.length) : l.take (k + 1) = l.take k ++ [l.getD k z] := by
  rw [List.take_succ_eq_append_getElem h, List.getD_eq_getElem?_getD, List.getElem?_eq_getElem h]
  rfl
theorem eOk_facts {y : Int} {l : List Int} (h : eOk y l = true) : 1 ≤ y ∧ y ≤ 6 ∧ chkAll l = true ∧ 0 < l.length := by
  simp only [eOk, Bool.and_eq_true, decide_eq_true_eq] at h
  exact ⟨h.1.1.1, h.1.1.2, h.1.2, h.2⟩
theorem caston_eq (y : Int) (l : List Int) (hl : l.length ≤ 1000000) : m_caston y l = some (if eOk y l = false then ([], 1) else if l.getD (l.length - 1) 0 = 40 then ([], 15) else (castPlan y l, 0)) := by
  have hF : l.length < FUEL := fuel_of (by omega)
  unfold m_caston
  rw [echeck_eq y l hl, Option.bind_some]
  cases he : eOk y l with
  | false => rfl
  | true =>
    obtain ⟨_, _, _, hp⟩ := eOk_facts he
    have e1 : ((l.length : Int) - 1).toNat = l.length - 1 := by omega
    have hL := loop0 (fun n i s => m_caston_L3 y l n i s) l.length (fun k => castOps y (l.take k)) (castOps y l) hF (fun n k hk => by
      show m_caston_L3 y l (n + 1) k (castOps y (l.take k)) = m_caston_L3 y l n (k + 1) (castOps y (l.take (k + 1)))
      rw [m_caston_L3, take_s l 0 k hk]
      simp (disch := ((try simp [inB, inI64, fitB, -List.getD_eq_getElem?_getD, castOps]); try omega; done)) only [gdt, cdt, cdf, Option.bind_some, m_past]
      simp [castOps, castOp]) (fun n => by
      show m_caston_L3 y l (n + 1) l.length (castOps y (l.take l.length)) = _
      rw [m_caston_L3, List.take_length]
      simp)
    rw [e1]
    by_cases h40 : l.getD (l.length - 1) 0 = 40
    · simp (disch := ((try simp [inB, inI64, fitB, -List.getD_eq_getElem?_getD]); try omega; done)) only [gdt, cdt, cdf, Option.bind_some]
      rw [if_neg (by simp), if_pos h40]
    · simp (disch := ((try simp [inB, inI64, fitB, -List.getD_eq_getElem?_getD]); try omega; done)) only [gdt, cdt, cdf, Option.bind_some]
      rw [show (([] : List OpT) ++ [((1 : Int), ((0 : Int), (((0 : Int), (0 : Int)), (y, (0 : Int)))))]) = castOps y (l.take 0) from rfl, hL]
      simp (disch := ((try simp [inB, inI64, fitB, -List.getD_eq_getElem?_getD, castOps]); try omega; done)) only [gdt, cdt, cdf, Option.bind_some, m_past]
      rw [if_neg (by simp), if_neg h40]
      rfl
end Go.Proofs.YtcjpcmofajcadaaDoor

/- Plain facts about the models of edges: BindOff, Leave, EdgesErrors. -/
namespace Go.Proofs.YtcjpcmofajcadaaDoor
open Go.RowKit
theorem chk_one (a : Int) (h : 1 ≤ a ∧ a ≤ 40) : chkAll [a] = true := by
  simp [chkAll, okAt, List.range_succ]; omega
theorem to_one (a : Int) (h : 1 ≤ a ∧ a ≤ 40) : chkTo [a] = true := by
  simp [chkTo, toAt, List.range_succ]; omega
theorem starts_one (a d : Int) : startsOf [a] [d] = [0] := by simp [startsOf, stF]
/-- The plan of one slot is short. -/
theorem plan_one (a b : Int) (ha : 1 ≤ a ∧ a ≤ 40) (hb : 1 ≤ b ∧ b ≤ 40) : (planOf [a] [b]).length ≤ 7000 := by
  have e : planOf [a] [b] = planAB ([], 0) [a] [b - a] := by simp [planOf, st1]
  have hs : Small [a] [b - a] := by
    refine ⟨fun k hk => ?_, fun d hd => ?_, rfl, by simp⟩
    · simp only [List.mem_singleton] at hk; omega
    · simp only [List.mem_singleton] at hd; omega
  have h0 : PB 0 (([] : List OpT), (0 : Int)) := ⟨by simp, by simp, by simp⟩
  have h1 := stepUp_PB _ _ hs 0 (by omega) (by simp) h0
  have h2 := stepDn_PB _ _ hs 0 (by omega) (by simp) h1
  rw [e, planAB, starts_one]
  have h3 := turnOps_le (stepDn [a] [b - a] (stepUp [a] [b - a] ([], 0) 0) 0).1 (stepDn [a] [b - a] (stepUp [a] [b - a] ([], 0) 0) 0).2 0
  have h4 := h2.1
  show (turnOps (stepDn [a] [b - a] (stepUp [a] [b - a] ([], 0) 0) 0).1 (stepDn [a] [b - a] (stepUp [a] [b - a] ([], 0) 0) 0).2 0).length ≤ 7000
  omega
theorem shift_one (a b : Int) (ha : 1 ≤ a ∧ a ≤ 40) (hb : 1 ≤ b ∧ b ≤ 40) : m_shift [a] [b] = some (planOf [a] [b], 0) := by
  have e : shErr [a] [b] = 0 := by
    rw [shErr, if_neg (by rw [chk_one a ha]; simp), if_neg (by simp), if_neg (by rw [to_one b hb]; simp)]
  unfold m_shift
  rw [planR, e, if_pos rfl]
  rfl
theorem seg_one (l : List Int) (k : Nat) (h : k < l.length) : (l.take (k + 1)).drop k = [l.getD k 0] := by
  rw [take_s l 0 k h, List.drop_append_of_le_length (by simp; omega)]
  simp
/-- The binding off of the first slots. -/
def bindTo (y : Int) (l : List Int) : Nat → List OpT
  | 0 => []
  | i + 1 => (if 0 < i then bindTo y l i ++ planOf [l.getD (i - 1) 0] [l.getD i 0] else bindTo y l i) ++ [castOp 4 (l.getD i 0) y]
def bindPlan (y : Int) (l : List Int) : List OpT := bindTo y l l.length ++ [(8, 0, (0, l.getD (l.length - 1) 0), 0, 0)]
theorem chk_at {l : List Int} (h : chkAll l = true) (k : Nat) (hk : k < l.length) : 1 ≤ l.getD k 0 ∧ l.getD k 0 ≤ 40 := by
  have := chk_mem l h k (by omega) (by omega)
  simpa only [Int.toNat_natCast] using this
theorem bindTo_len (y : Int) (l : List Int) (h : chkAll l = true) : ∀ k, k ≤ l.length → (bindTo y l k).length ≤ 7001 * k
  | 0, _ => by simp [bindTo]
  | k + 1, hk => by
    have ih := bindTo_len y l h k (by omega)
    unfold bindTo
    split
    · have := plan_one _ _ (chk_at h (k - 1) (by omega)) (chk_at h k (by omega))
      simp only [List.length_append, List.length_singleton]
      omega
    · simp only [List.length_append, List.length_singleton]
      omega
theorem bindoff_eq (y : Int) (l : List Int) (hl : l.length ≤ 1000000) : m_bindoff y l = some (if eOk y l = false then ([], 1) else (bindPlan y l, 0)) := by
  have hF : l.length < FUEL := fuel_of (by omega)
  unfold m_bindoff
  rw [echeck_eq y l hl, Option.bind_some]
  cases he : eOk y l with
  | false => rfl
  | true =>
    obtain ⟨_, _, hc, hp⟩ := eOk_facts he
    have h40 := chk_len l hc
    have e1 : ((l.length : Int) - 1).toNat = l.length - 1 := by omega
    have hb := bindTo_len y l hc l.length (Nat.le_refl _)
    have hL := loop0 (fun n i s => m_bindoff_L3 y l n i s) l.length (fun k => bindTo y l k) (.inl (bindTo y l l.length)) hF (fun n k hk => by
      show m_bindoff_L3 y l (n + 1) k (bindTo y l k) = m_bindoff_L3 y l n (k + 1) (bindTo y l (k + 1))
      have hbk := bindTo_len y l hc k (by omega)
      rw [m_bindoff_L3, bindTo]
      by_cases h0 : 0 < k
      · have e2 : ((k : Int) - 1).toNat = k - 1 := by omega
        have e3 : ((k : Int) + 1).toNat = k + 1 := by omega
        have hp := plan_one _ _ (chk_at hc (k - 1) (by omega)) (chk_at hc k hk)
        have hs := shift_one _ _ (chk_at hc (k - 1) (by omega)) (chk_at hc k hk)
        have hs1 := seg_one l (k - 1) (by omega)
        rw [show k - 1 + 1 = k by omega] at hs1
        rw [e2, e3, Int.toNat_natCast, hs1, seg_one l k hk, hs, if_pos h0]
        simp (disch := ((try simp [inB, inI64, fitB, -List.getD_eq_getElem?_getD]); try omega; done)) only [gdt, cdt, cdf, Option.bind_some, m_needle, sm]
        simp [castOp]
      · rw [if_neg h0]
        simp (disch := ((try simp [inB, inI64, fitB, -List.getD_eq_getElem?_getD]); try omega; done)) only [gdt, cdt, cdf, Option.bind_some, m_needle, sm]
        simp [castOp]) (fun n => by
      show m_bindoff_L3 y l (n + 1) l.length (bindTo y l l.length) = _
      rw [m_bindoff_L3]
      simp)
    have hL' : m_bindoff_L3 y l FUEL 0 [] = some (.inl (bindTo y l l.length)) := hL
    simp (disch := ((try simp [inB, inI64, fitB, -List.getD_eq_getElem?_getD]); try omega; done)) only [gdt, cdt, cdf, Option.bind_some, hL']
    simp (disch := ((try simp [inB, inI64, fitB, -List.getD_eq_getElem?_getD]); try omega; done)) only [gdt, cdt, cdf, Option.bind_some, m_needle, sm, m_clip]
    rw [if_neg (by simp), bindPlan, e1]
def lvAt (l : List Int) (i : Nat) : Bool := decide (1 ≤ l.getD i 0) && decide (l.getD i 0 ≤ 6) && (decide (i = 0) || decide (l.getD (i - 1) 0 < l.getD i 0))
def lvAll (l : List Int) : Bool := (List.range l.length).all (lvAt l)
def outOp (y : Int) : OpT := (2, 0, (0, 0), y, 0)
theorem set_fill {α : Type} (A : List α) (z x : α) (m : Nat) (hm : 0 < m) : (A ++ List.replicate m z).set A.length x = (A ++ [x]) ++ List.replicate (m - 1) z := by
  obtain ⟨q, rfl⟩ : ∃ q, m = q + 1 := ⟨m - 1, by omega⟩
  rw [List.set_append_right (h := Nat.le_refl _), Nat.sub_self, List.replicate_succ, List.set_cons_zero, Nat.add_sub_cancel, List.append_assoc]
  rfl
theorem leave_eq (l : List Int) (hl : l.length ≤ 1000000) : m_leave l = some (if lvAll l then (l.map outOp, l.length, 0) else ([], 0, 1)) := by
  have hF : l.length < FUEL := fuel_of (by omega)
  unfold m_leave
  have step : ∀ n k, k < l.length → lvAt l k = true → m_leave_L2 l (n + 1) k = m_leave_L2 l n (k + 1) := fun n k hk h => by
    simp [lvAt, -List.getD_eq_getElem?_getD] at h
    rw [m_leave_L2]
    simp (disch := ((try simp [inB, inI64, fitB, -List.getD_eq_getElem?_getD]); try omega; done)) only [gdt, cdt, cdf, Option.bind_some]
  by_cases h : ∀ k, k < l.length → lvAt l k = true
  · have e : lvAll l = true := by rw [lvAll, List.all_eq_true]; intro i hi; exact h i (by simpa using hi)
    have := loop0 (fun n i (s : Unit) => m_leave_L2 l n i) l.length (fun _ => ()) (.inl ()) hF (fun n k hk => step n k hk (h k hk)) (fun n => by
      show m_leave_L2 l (n + 1) l.length = some (.inl ())
      rw [m_leave_L2]
      simp)
    rw [this, e]
    have h2 := loop0 (fun n i s => m_leave_L7 l n i s) l.length (fun k => (l.take k).map outOp ++ List.replicate (l.length - k) gOp.zero) (l.map outOp) hF (fun n k hk => by
      show m_leave_L7 l (n + 1) k ((l.take k).map outOp ++ List.replicate (l.length - k) gOp.zero) = m_leave_L7 l n (k + 1) ((l.take (k + 1)).map outOp ++ List.replicate (l.length - (k + 1)) gOp.zero)
      have hlen : ((l.take k).map outOp).length = k := by simp; omega
      have hset := set_fill ((l.take k).map outOp) gOp.zero (outOp (l.getD k 0)) (l.length - k) (by omega)
      rw [hlen] at hset
      rw [m_leave_L7, take_s l 0 k hk]
      simp (disch := ((try simp [inB, inI64, fitB, -List.getD_eq_getElem?_getD]); try omega; done)) only [gdt, cdt, cdf, Option.bind_some]
      rw [Int.toNat_natCast, show ((2 : Int), ((0 : Int), (((0 : Int), (0 : Int)), (l.getD k 0, (0 : Int))))) = outOp (l.getD k 0) from rfl, hset, List.map_append, show l.length - (k + 1) = l.length - k - 1 by omega]
      rfl) (fun n => by
      show m_leave_L7 l (n + 1) l.length ((l.take l.length).map outOp ++ List.replicate (l.length - l.length) gOp.zero) = _
      rw [m_leave_L7, List.take_length, Nat.sub_self]
      simp)
    rw [show (l.take 0).map outOp ++ List.replicate (l.length - 0) gOp.zero = List.replicate l.length gOp.zero by simp] at h2
    simp (disch := ((try simp [inB, inI64, fitB, -List.getD_eq_getElem?_getD]); try omega; done)) only [gdt, cdt, cdf, Option.bind_some, sm, Int.toNat_natCast]
    rw [h2]
    rfl
  · obtain ⟨j, hj, hb, hg⟩ := first_bad (lvAt l) _ h
    have e : lvAll l = false := by
      rw [lvAll, List.all_eq_false]
      exact ⟨j, by simpa using hj, by simpa using hb⟩
    have := loop0 (fun n i (s : Unit) => m_leave_L2 l n i) j (fun _ => ()) (.inr ([], 0, 1)) (by omega) (fun n k hk => step n k (by omega) (hg k hk)) (fun n => by
      show m_leave_L2 l (n + 1) j = some (.inr ([], 0, 1))
      simp [lvAt, -List.getD_eq_getElem?_getD] at hb
      rw [m_leave_L2]
      simp (disch := ((try simp [inB, inI64, fitB, -List.getD_eq_getElem?_getD]); try omega; done)) only [gdt, cdt, cdf, Option.bind_some])
    rw [this, e]; rfl
end Go.Proofs.YtcjpcmofajcadaaDoor

/- slices.Sort of distinct numbers from 1 to 6: all of them, by the kernel (50 s). -/
namespace Go.Proofs.YtcjpcmofajcadaaDoor
open Go.RowKit
/-- The numbers from 1 to 6 for which something holds. -/
def selN (p : Int → Bool) : List Int := [1, 2, 3, 4, 5, 6].filter p
def maskOk (m : Nat) : Bool := (perms (selN fun y => m.testBit (y.toNat - 1))).all fun q => m_sort8 q == some (selN fun y => m.testBit (y.toNat - 1))
theorem masks_ok : (List.range 64).all maskOk = true := by kernel_rfl
end Go.Proofs.YtcjpcmofajcadaaDoor

/- slices.Sort of distinct numbers from 1 to 6. -/
namespace Go.Proofs.YtcjpcmofajcadaaDoor
open Go.RowKit
def maskOf (b1 b2 b3 b4 b5 b6 : Bool) : Nat := b1.toNat + 2 * b2.toNat + 4 * b3.toNat + 8 * b4.toNat + 16 * b5.toNat + 32 * b6.toNat
theorem mask_bits : ∀ b1 b2 b3 b4 b5 b6 : Bool, maskOf b1 b2 b3 b4 b5 b6 < 64 ∧ (maskOf b1 b2 b3 b4 b5 b6).testBit 0 = b1 ∧ (maskOf b1 b2 b3 b4 b5 b6).testBit 1 = b2 ∧ (maskOf b1 b2 b3 b4 b5 b6).testBit 2 = b3 ∧ (maskOf b1 b2 b3 b4 b5 b6).testBit 3 = b4 ∧ (maskOf b1 b2 b3 b4 b5 b6).testBit 4 = b5 ∧ (maskOf b1 b2 b3 b4 b5 b6).testBit 5 = b6 := by decide
theorem sort_eq (q : List Int) (hn : q.Nodup) (hq : ∀ y ∈ q, 1 ≤ y ∧ y ≤ 6) : m_sort8 q = some (selN fun y => q.elem y) := by
  obtain ⟨h0, h1, h2, h3, h4, h5, h6⟩ := mask_bits (q.elem 1) (q.elem 2) (q.elem 3) (q.elem 4) (q.elem 5) (q.elem 6)
  generalize maskOf (q.elem 1) (q.elem 2) (q.elem 3) (q.elem 4) (q.elem 5) (q.elem 6) = m at *
  have e : (selN fun y => m.testBit (y.toNat - 1)) = selN fun y => q.elem y := by
    unfold selN
    refine List.filter_congr fun y hy => ?_
    simp only [List.mem_cons, List.not_mem_nil, or_false] at hy
    rcases hy with rfl | rfl | rfl | rfl | rfl | rfl
    · exact h1
    · exact h2
    · exact h3
    · exact h4
    · exact h5
    · exact h6
  have hm : maskOk m = true := List.all_eq_true.1 masks_ok m (by simpa using h0)
  unfold maskOk at hm
  rw [e] at hm
  have hp : q.Perm (selN fun y => q.elem y) := by
    refine (List.perm_ext_iff_of_nodup hn (List.Pairwise.sublist List.filter_sublist (by decide))).2 fun y => ?_
    simp only [selN, List.mem_filter, List.elem_eq_mem, decide_eq_true_eq]
    constructor
    · intro h
      have := hq y h
      refine ⟨?_, h⟩
      simp only [List.mem_cons, List.not_mem_nil, or_false]
      omega
    · exact fun h => h.2
  have := List.all_eq_true.1 hm q (mem_perms hp)
  simpa using this
end Go.Proofs.YtcjpcmofajcadaaDoor

/- RoundsErrors, plain. -/
namespace Go.Proofs.YtcjpcmofajcadaaDoor
open Go.RowKit
theorem lives32_eq : m_lives32 = some true := by kernel_rfl
def yAt (l : List Int) (i : Nat) : Bool := decide (1 ≤ l.getD i 0) && decide (l.getD i 0 ≤ 6)
def yAll (l : List Int) : Bool := (List.range l.length).all (yAt l)
def tErr (w : Int) (l : List Int) : Int := if 16 < w ∨ 31 < l.length then 3 else if w < 1 ∨ l.length < 1 then 1 else if yAll l then 0 else 1
theorem tcheck_eq (w : Int) (l : List Int) : m_tcheck (w, l) = some (tErr w l) := by
  unfold m_tcheck tErr
  by_cases h1 : 16 < w ∨ 31 < l.length
  · rw [if_pos h1]
    simp (disch := ((try simp [inB, inI64, fitB, -List.getD_eq_getElem?_getD]); try omega; done)) only [gdt, cdt, cdf, Option.bind_some]
  · rw [if_neg h1]
    by_cases h2 : w < 1 ∨ l.length < 1
    · rw [if_pos h2]
      simp (disch := ((try simp [inB, inI64, fitB, -List.getD_eq_getElem?_getD]); try omega; done)) only [gdt, cdt, cdf, Option.bind_some]
    · rw [if_neg h2]
      have hl : l.length ≤ 31 := by omega
      have hF : l.length < FUEL := fuel_of (Nat.le_trans hl (by decide))
      simp (disch := ((try simp [inB, inI64, fitB, -List.getD_eq_getElem?_getD]); try omega; done)) only [gdt, cdt, cdf, Option.bind_some]
      have step : ∀ n k, k < l.length → yAt l k = true → m_tcheck_L2 (w, l) (n + 1) k = m_tcheck_L2 (w, l) n (k + 1) := fun n k hk h => by
        simp [yAt, -List.getD_eq_getElem?_getD] at h
        rw [m_tcheck_L2]
        simp (disch := ((try simp [inB, inI64, fitB, -List.getD_eq_getElem?_getD]); try omega; done)) only [gdt, cdt, cdf, Option.bind_some]
      by_cases h : ∀ k, k < l.length → yAt l k = true
      · have e : yAll l = true := by rw [yAll, List.all_eq_true]; intro i hi; exact h i (by simpa using hi)
        have := loop0 (fun n i (s : Unit) => m_tcheck_L2 (w, l) n i) l.length (fun _ => ()) (.inl ()) hF (fun n k hk => step n k hk (h k hk)) (fun n => by
          show m_tcheck_L2 (w, l) (n + 1) l.length = some (.inl ())
          rw [m_tcheck_L2, cdf (by simp)])
        rw [this, e]; rfl
      · obtain ⟨j, hj, hb, hg⟩ := first_bad (yAt l) _ h
        have e : yAll l = false := by
          rw [yAll, List.all_eq_false]
          exact ⟨j, by simpa using hj, by simpa using hb⟩
        have := loop0 (fun n i (s : Unit) => m_tcheck_L2 (w, l) n i) j (fun _ => ()) (.inr 1) (by omega) (fun n k hk => step n k (by omega) (hg k hk)) (fun n => by
          show m_tcheck_L2 (w, l) (n + 1) j = some (.inr 1)
          simp [yAt, -List.getD_eq_getElem?_getD] at hb
          rw [m_tcheck_L2]
          simp (disch := ((try simp [inB, inI64, fitB, -List.getD_eq_getElem?_getD]); try omega; done)) only [gdt, cdt, cdf, Option.bind_some])
        rw [this, e]; rfl
/-- One half of a round. -/
def halfF (y : Int) (k : Nat) : List OpT := (List.range k).map fun (i : Nat) => ((4 : Int), (1 : Int), ((0 : Int), 13 + (i : Int)), y, (0 : Int))
def halfB (w : Int) (y : Int) (k : Nat) : List OpT := (List.range k).map fun (i : Nat) => ((4 : Int), (0 : Int), ((1 : Int), 13 + (w - 1 - (i : Int))), y, (0 : Int))
theorem knit_eq (b i d : Int) (ops : List OpT) (y : Int) (h1 : -1000 ≤ i ∧ i ≤ 1000) (h2 : ops.length ≤ 1000000) : m_knit b i d ops y = some (ops ++ [(4, d, (b, 13 + i), y, 0)]) := by
  unfold m_knit
  simp (disch := ((try simp [inB, inI64, fitB, -List.getD_eq_getElem?_getD]); try omega; done)) only [gdt, cdt, cdf, Option.bind_some]
theorem half7 (w : Int) (rs : List Int) (v : Int) (ops : List OpT) (hw : 1 ≤ w ∧ w ≤ 16) (hl : ops.length ≤ 900000) : m_compile_L7 (w, rs) v FUEL 0 ops = some (ops ++ halfF (rs.getD v.toNat 0) w.toNat) :=
  loopS (fun n i s => m_compile_L7 (w, rs) v n i s) w.toNat (fun k => ops ++ halfF (rs.getD v.toNat 0) k) ops _ (by simp [halfF]) (fuel_of (Nat.le_trans (show w.toNat ≤ 16 by omega) (by decide))) (fun n k hk => by
    show m_compile_L7 (w, rs) v (n + 1) k (ops ++ halfF (rs.getD v.toNat 0) k) = m_compile_L7 (w, rs) v n (k + 1) (ops ++ halfF (rs.getD v.toNat 0) (k + 1))
    rw [m_compile_L7, knit_eq _ _ _ _ _ (by omega) (by simp [halfF]; omega)]
    simp (disch := ((try simp [inB, inI64, fitB, -List.getD_eq_getElem?_getD]); try omega; done)) only [gdt, cdt, cdf, Option.bind_some]
    simp [halfF, List.range_succ]) (fun n => by
    show m_compile_L7 (w, rs) v (n + 1) w.toNat (ops ++ halfF (rs.getD v.toNat 0) w.toNat) = _
    rw [m_compile_L7, cdf (by simp; omega)])
theorem half11 (w : Int) (rs : List Int) (v : Int) (ops : List OpT) (hw : 1 ≤ w ∧ w ≤ 16) (hl : ops.length ≤ 900000) : m_compile_L11 (w, rs) v FUEL 0 ops = some (ops ++ halfB w (rs.getD v.toNat 0) w.toNat) :=
  loopS (fun n i s => m_compile_L11 (w, rs) v n i s) w.toNat (fun k => ops ++ halfB w (rs.getD v.toNat 0) k) ops _ (by simp [halfB]) (fuel_of (Nat.le_trans (show w.toNat ≤ 16 by omega) (by decide))) (fun n k hk => by
    show m_compile_L11 (w, rs) v (n + 1) k (ops ++ halfB w (rs.getD v.toNat 0) k) = m_compile_L11 (w, rs) v n (k + 1) (ops ++ halfB w (rs.getD v.toNat 0) (k + 1))
    rw [m_compile_L11, knit_eq _ _ _ _ _ (by omega) (by simp [halfB]; omega)]
    simp (disch := ((try simp [inB, inI64, fitB, -List.getD_eq_getElem?_getD]); try omega; done)) only [gdt, cdt, cdf, Option.bind_some]
    simp [halfB, List.range_succ]) (fun n => by
    show m_compile_L11 (w, rs) v (n + 1) w.toNat (ops ++ halfB w (rs.getD v.toNat 0) w.toNat) = _
    rw [m_compile_L11, cdf (by simp; omega)])
end Go.Proofs.YtcjpcmofajcadaaDoor

/- rounds.compile: the rounds. -/
namespace Go.Proofs.YtcjpcmofajcadaaDoor
open Go.RowKit
/-- The yarns in the order in which they come in. -/
def keysTo (rs : List Int) : Nat → List Int
  | 0 => []
  | k + 1 => if (keysTo rs k).elem (rs.getD k 0) then keysTo rs k else keysTo rs k ++ [rs.getD k 0]
theorem keys_nodup (rs : List Int) : ∀ k, (keysTo rs k).Nodup
  | 0 => List.Pairwise.nil
  | k + 1 => by
    unfold keysTo
    split
    · exact keys_nodup rs k
    · rename_i h
      rw [List.nodup_append]
      refine ⟨keys_nodup rs k, by simp, fun a ha b hb e => ?_⟩
      simp only [List.mem_singleton] at hb
      subst hb; subst e
      exact h (by simpa using ha)
theorem keys_mem (rs : List Int) (p : Int → Prop) (hp : ∀ i, i < rs.length → p (rs.getD i 0)) : ∀ k, k ≤ rs.length → ∀ y ∈ keysTo rs k, p y
  | 0, _, y, hy => by simp [keysTo] at hy
  | k + 1, hk, y, hy => by
    unfold keysTo at hy
    split at hy
    · exact keys_mem rs p hp k (by omega) y hy
    · rcases List.mem_append.1 hy with hy | hy
      · exact keys_mem rs p hp k (by omega) y hy
      · simp only [List.mem_singleton] at hy
        subst hy
        exact hp k (by omega)
abbrev kb (l : List Int) : List (Int × Bool) := l.map fun y => (y, true)
theorem mget_kb (y : Int) : ∀ l : List Int, mget (.int .u8) .bool (kb l) y = if l.elem y then some true else none
  | [] => rfl
  | x :: l => by
    show mget (.int .u8) .bool ((x, true) :: kb l) y = _
    unfold mget
    by_cases h : x = y
    · subst h
      simp [GTy.beq]
    · have e : (GTy.int .u8).beq x y = false := by simp [GTy.beq, h]
      rw [e]
      dsimp only
      rw [mget_kb y l]
      simp [Ne.symm h]
theorem mset_kb (y : Int) : ∀ l : List Int, l.elem y = false → mset (.int .u8) .bool (kb l) y true = kb (l ++ [y])
  | [], _ => rfl
  | x :: l, h => by
    show mset (.int .u8) .bool ((x, true) :: kb l) y true = _
    unfold mset
    have hx : x ≠ y := fun e => by subst e; simp at h
    have e : (GTy.int .u8).beq x y = false := by simp [GTy.beq, hx]
    rw [e]
    dsimp only
    rw [mset_kb y l (by simp at h ⊢; exact h.2)]
    rfl
def opsTo (w : Int) (rs : List Int) : Nat → List OpT
  | 0 => []
  | k + 1 => ((opsTo w rs k ++ (if (keysTo rs k).elem (rs.getD k 0) then [] else [(1, 0, (0, 0), rs.getD k 0, 0)])) ++ halfF (rs.getD k 0) w.toNat) ++ halfB w (rs.getD k 0) w.toNat
def begTo (w : Int) (rs : List Int) : Nat → List Int
  | 0 => []
  | k + 1 => begTo w rs k ++ [((opsTo w rs k).length : Int)]
theorem opsTo_len (w : Int) (rs : List Int) (hw : 1 ≤ w ∧ w ≤ 16) : ∀ k, (opsTo w rs k).length ≤ 40 * k
  | 0 => by simp [opsTo]
  | k + 1 => by
    have ih := opsTo_len w rs hw k
    unfold opsTo
    split <;> simp [halfF, halfB] <;> omega
theorem begTo_len (w : Int) (rs : List Int) : ∀ k, (begTo w rs k).length = k
  | 0 => rfl
  | k + 1 => by simp [begTo, begTo_len w rs k]
end Go.Proofs.YtcjpcmofajcadaaDoor

/- rounds.compile: its first loop. -/
namespace Go.Proofs.YtcjpcmofajcadaaDoor
open Go.RowKit
theorem L3_eq (w : Int) (rs : List Int) (m : Nat) (hm : rs.length ≤ m) (hw : 1 ≤ w ∧ w ≤ 16) (hr : rs.length ≤ 31) : m_compile_L3 (w, rs) FUEL 0 [] [] (some m) [] = some (opsTo w rs rs.length, begTo w rs rs.length, some m, kb (keysTo rs rs.length)) :=
  loopS (fun n i (s : List OpT × List Int × Option Nat × List (Int × Bool)) => m_compile_L3 (w, rs) n i s.1 s.2.1 s.2.2.1 s.2.2.2) rs.length (fun k => (opsTo w rs k, begTo w rs k, some m, kb (keysTo rs k))) ([], [], some m, []) _ rfl (fuel_of (Nat.le_trans hr (by decide))) (fun n k hk => by
    show m_compile_L3 (w, rs) (n + 1) k (opsTo w rs k) (begTo w rs k) (some m) (kb (keysTo rs k)) = m_compile_L3 (w, rs) n (k + 1) (opsTo w rs (k + 1)) (begTo w rs (k + 1)) (some m) (kb (keysTo rs (k + 1)))
    have h1 := opsTo_len w rs hw k
    have h2 := begTo_len w rs k
    rw [m_compile_L3, Int.toNat_natCast, mget_kb, opsTo, begTo, keysTo, show capUp (some m) ((begTo w rs k).length + [((opsTo w rs k).length : Int)].length) = some m by rw [h2, capUp, cdt (Nat.ble_eq_true_of_le (by simp; omega))]]
    cases he : (keysTo rs k).elem (rs.getD k 0)
    · have h7 := half7 w rs k (opsTo w rs k ++ [((1 : Int), ((0 : Int), (((0 : Int), (0 : Int)), (rs.getD k 0, (0 : Int)))))]) hw (by simp; omega)
      have h11 := half11 w rs k ((opsTo w rs k ++ [((1 : Int), ((0 : Int), (((0 : Int), (0 : Int)), (rs.getD k 0, (0 : Int)))))]) ++ halfF (rs.getD k 0) w.toNat) hw (by simp [halfF]; omega)
      rw [Int.toNat_natCast] at h7 h11
      have hs := mset_kb (rs.getD k 0) (keysTo rs k) he
      simp only [Bool.false_eq_true, if_false, Option.getD_none]
      simp (disch := ((try simp [inB, inI64, fitB, -List.getD_eq_getElem?_getD]); try omega; done)) only [gdt, cdt, cdf, Option.bind_some, hs, h7, h11]
    · have h7 := half7 w rs k (opsTo w rs k) hw (by omega)
      have h11 := half11 w rs k (opsTo w rs k ++ halfF (rs.getD k 0) w.toNat) hw (by simp [halfF]; omega)
      rw [Int.toNat_natCast] at h7 h11
      simp only [if_true, Option.getD_some, List.append_nil]
      simp (disch := ((try simp [inB, inI64, fitB, -List.getD_eq_getElem?_getD]); try omega; done)) only [gdt, cdt, cdf, Option.bind_some, h7, h11]) (fun n => by
    show m_compile_L3 (w, rs) (n + 1) rs.length (opsTo w rs rs.length) (begTo w rs rs.length) (some m) (kb (keysTo rs rs.length)) = _
    rw [m_compile_L3, cdf (by simp)])
end Go.Proofs.YtcjpcmofajcadaaDoor

/- rounds.compile: the rest. -/
namespace Go.Proofs.YtcjpcmofajcadaaDoor
open Go.RowKit
def atL (k : Nat) : List Int := (List.range k).map fun (i : Nat) => 13 + (i : Int)
def xfB (k : Nat) : List OpT := (List.range k).map fun (i : Nat) => ((7 : Int), (0 : Int), ((1 : Int), 13 + (i : Int)), (0 : Int), (0 : Int))
theorem L19_eq (w : Int) (rs : List Int) (ops : List OpT) (hw : 1 ≤ w ∧ w ≤ 16) (hl : ops.length ≤ 900000) : m_compile_L19 (w, rs) FUEL 0 ops (List.replicate w.toNat (0 : Int)) = some (ops ++ xfB w.toNat, atL w.toNat) :=
  loopS (fun n i (s : List OpT × List Int) => m_compile_L19 (w, rs) n i s.1 s.2) w.toNat (fun k => (ops ++ xfB k, atL k ++ List.replicate (w.toNat - k) 0)) (ops, List.replicate w.toNat (0 : Int)) _ (by simp [xfB, atL]) (fuel_of (Nat.le_trans (show w.toNat ≤ 16 by omega) (by decide))) (fun n k hk => by
    show m_compile_L19 (w, rs) (n + 1) k (ops ++ xfB k) (atL k ++ List.replicate (w.toNat - k) 0) = m_compile_L19 (w, rs) n (k + 1) (ops ++ xfB (k + 1)) (atL (k + 1) ++ List.replicate (w.toNat - (k + 1)) 0)
    have hlen : (atL k).length = k := by simp [atL]
    have hset := set_fill (atL k) (0 : Int) (13 + (k : Int)) (w.toNat - k) (by omega)
    rw [hlen] at hset
    have hget : ((atL k ++ [13 + (k : Int)]) ++ List.replicate (w.toNat - k - 1) 0).getD k 0 = 13 + (k : Int) := by
      rw [List.getD_eq_getElem?_getD, List.getElem?_append_left (by simp [atL]), List.getElem?_append_right (by simp [atL])]
      simp [atL]
    rw [m_compile_L19, Int.toNat_natCast, hset, hget, List.length_replicate]
    simp (disch := ((try simp [inB, inI64, fitB, -List.getD_eq_getElem?_getD, atL, xfB]); try omega; done)) only [gdt, cdt, cdf, Option.bind_some]
    simp [atL, xfB, List.range_succ, Nat.sub_sub]) (fun n => by
    show m_compile_L19 (w, rs) (n + 1) w.toNat (ops ++ xfB w.toNat) (atL w.toNat ++ List.replicate (w.toNat - w.toNat) 0) = _
    rw [m_compile_L19, cdf (by simp), Nat.sub_self]
    simp)
theorem L26_eq : ∀ (q : List (Int × Bool)) (acc : List Int), acc.length + q.length ≤ 1000 → m_compile_L26 q acc = some (acc ++ q.map (·.1))
  | [], acc, _ => by simp [m_compile_L26]
  | e :: q, acc, h => by
    simp only [List.length_cons] at h
    rw [m_compile_L26, m_compile_L26B]
    simp (disch := ((try simp [inB, inI64, fitB, -List.getD_eq_getElem?_getD]); try omega; done)) only [gdt, cdt, cdf, Option.bind_some]
    rw [L26_eq q (acc ++ [e.1]) (by simp; omega)]
    simp
theorem lv_sel (p : Int → Bool) : lvAll (selN p) = true := by
  unfold selN
  simp only [List.filter]
  generalize p 1 = b1
  generalize p 2 = b2
  generalize p 3 = b3
  generalize p 4 = b4
  generalize p 5 = b5
  generalize p 6 = b6
  revert b1 b2 b3 b4 b5 b6
  decide
end Go.Proofs.YtcjpcmofajcadaaDoor

/- rounds.compile; RoundsErrors, plain. -/
namespace Go.Proofs.YtcjpcmofajcadaaDoor
open Go.RowKit
theorem tErr_zero {w : Int} {rs : List Int} (h : tErr w rs = 0) : (1 ≤ w ∧ w ≤ 16) ∧ (1 ≤ rs.length ∧ rs.length ≤ 31) ∧ ∀ i, i < rs.length → 1 ≤ rs.getD i 0 ∧ rs.getD i 0 ≤ 6 := by
  unfold tErr at h
  split at h
  · cases h
  · split at h
    · cases h
    · split at h
      · rename_i h1 h2 h3
        refine ⟨by omega, by omega, fun i hi => ?_⟩
        have := List.all_eq_true.1 h3 i (by simpa using hi)
        simpa only [yAt, Bool.and_eq_true, decide_eq_true_eq] using this
      · cases h
theorem atL_get (n i : Nat) (h : i < n) : (atL n).getD i 0 = 13 + (i : Int) := by
  rw [List.getD_eq_getElem?_getD]
  simp [atL, h]
theorem atL_ok (n : Nat) (h : n ≤ 16) : chkAll (atL n) = true := by
  rw [chkAll, List.all_eq_true]
  intro i hi
  have hi2 : i < n := by simpa [atL] using hi
  simp only [okAt, Bool.and_eq_true, Bool.or_eq_true, decide_eq_true_eq, Int.toNat_natCast]
  rw [atL_get n i hi2]
  refine ⟨by omega, ?_⟩
  by_cases h0 : i = 0
  · left; omega
  · right
    rw [show ((i : Int) - 1).toNat = i - 1 by omega, atL_get n (i - 1) (by omega)]
    omega
/-- The program of a tube. -/
def tubeOps (w : Int) (rs : List Int) : List OpT := ((opsTo w rs rs.length ++ xfB w.toNat) ++ bindPlan (rs.getD (rs.length - 1) 0) (atL w.toNat)) ++ (selN fun y => (keysTo rs rs.length).elem y).map outOp
theorem selN_len (p : Int → Bool) : (selN p).length ≤ 6 := by
  unfold selN
  exact Nat.le_trans (List.length_filter_le _ _) (by decide)
theorem compile_ok (w : Int) (rs : List Int) (h : tErr w rs = 0) : m_compile (w, rs) = some (tubeOps w rs, begTo w rs rs.length ++ [((opsTo w rs rs.length).length : Int)], some (rs.length + 1), 0) := by
  obtain ⟨hw, hr, hy⟩ := tErr_zero h
  have hol := opsTo_len w rs hw rs.length
  have hbl := begTo_len w rs rs.length
  have hat := atL_ok w.toNat (by omega)
  have hatl : (atL w.toNat).length = w.toNat := by simp [atL]
  have e1 : ((rs.length : Int) - 1).toNat = rs.length - 1 := by omega
  have hyl := hy (rs.length - 1) (by omega)
  have hok : eOk (rs.getD (rs.length - 1) 0) (atL w.toNat) = true := by
    simp only [eOk, Bool.and_eq_true, decide_eq_true_eq]
    exact ⟨⟨hyl, hat⟩, by omega⟩
  have hbo := bindoff_eq (rs.getD (rs.length - 1) 0) (atL w.toNat) (by rw [hatl]; omega)
  rw [hok, if_neg (by simp)] at hbo
  have hbp : (bindPlan (rs.getD (rs.length - 1) 0) (atL w.toNat)).length ≤ 200000 := by
    have := bindTo_len (rs.getD (rs.length - 1) 0) (atL w.toNat) hat (atL w.toNat).length (Nat.le_refl _)
    rw [hatl] at this
    simp only [bindPlan, List.length_append, List.length_singleton, hatl]
    omega
  have hxl : (xfB w.toNat).length ≤ 16 := by simp [xfB]; omega
  have hkn := keys_nodup rs rs.length
  have hkm := keys_mem rs (fun y => 1 ≤ y ∧ y ≤ 6) hy rs.length (Nat.le_refl _)
  have hsl := selN_len (fun y => (keysTo rs rs.length).elem y)
  unfold m_compile
  rw [tcheck_eq, h, Option.bind_some]
  dsimp only
  rw [show ((rs.length : Int) + 1).toNat = rs.length + 1 by omega, L3_eq w rs _ (by omega) hw hr.2]
  simp (disch := ((try simp [inB, inI64, fitB, -List.getD_eq_getElem?_getD]); try omega; done)) only [gdt, cdt, cdf, Option.bind_some]
  rw [L19_eq w rs _ hw (by omega)]
  simp (disch := ((try simp [inB, inI64, fitB, -List.getD_eq_getElem?_getD]); try omega; done)) only [gdt, cdt, cdf, Option.bind_some]
  rw [e1, hbo]
  simp (disch := ((try simp [inB, inI64, fitB, -List.getD_eq_getElem?_getD]); try omega; done)) only [gdt, cdt, cdf, Option.bind_some]
  apply dem_eq
  intro q hq
  have hql : (q.map (·.1)).Perm (keysTo rs rs.length) := by
    have := hq.map (·.1)
    simpa [kb, List.map_map, Function.comp_def] using this
  have hkl : (keysTo rs rs.length).length ≤ 6 := by
    have hp : (keysTo rs rs.length).Perm (selN fun y => (keysTo rs rs.length).elem y) := by
      refine (List.perm_ext_iff_of_nodup hkn (List.Pairwise.sublist List.filter_sublist (by decide))).2 fun y => ?_
      simp only [selN, List.mem_filter, List.elem_eq_mem, decide_eq_true_eq]
      refine ⟨fun hy2 => ⟨?_, hy2⟩, fun hy2 => hy2.2⟩
      have := hkm y hy2
      simp only [List.mem_cons, List.not_mem_nil, or_false]
      omega
    rw [hp.length_eq]
    exact hsl
  have hqn : q.length ≤ 6 := by
    have := hql.length_eq
    rw [List.length_map] at this
    omega
  rw [L26_eq q [] (by simp; omega), Option.bind_some, List.nil_append, sort_eq (q.map (·.1)) (hql.nodup_iff.2 hkn) (fun y hy2 => hkm y (hql.mem_iff.1 hy2)), Option.bind_some]
  have hsame : (selN fun y => (q.map (·.1)).elem y) = selN fun y => (keysTo rs rs.length).elem y := by
    unfold selN
    refine List.filter_congr fun y _ => ?_
    simp only [List.elem_eq_mem]
    exact decide_eq_decide.2 hql.mem_iff
  rw [hsame, leave_eq _ (Nat.le_trans hsl (by decide)), lv_sel, if_pos rfl, Option.bind_some]
  simp only [m_clip, Option.bind_some]
  rw [cdf (by simp), gd_t (by simp only [fitB, List.length_append, List.length_map, Bool.and_eq_true, decide_eq_true_eq]; omega), capUp, cdt (Nat.ble_eq_true_of_le (by simp; omega))]
  rfl
theorem compile_err (w : Int) (rs : List Int) (h : ¬ tErr w rs = 0) : m_compile (w, rs) = some ([], [], some 0, tErr w rs) := by
  unfold m_compile
  rw [tcheck_eq, Option.bind_some, cdt (by simp [h])]
theorem roundsErrors_eq (w : Int) (rs : List Int) : m_roundsErrors (w, rs) = some true := by
  unfold m_roundsErrors
  rw [lives32_eq]
  by_cases hl : 40 < rs.length
  · simp (disch := ((try simp [inB, inI64, fitB, -List.getD_eq_getElem?_getD]); try omega; done)) only [gdt, cdt, cdf, Option.bind_some]
  · have hl2 : rs.length ≤ 40 := by omega
    have hF : rs.length < FUEL := fuel_of (Nat.le_trans hl2 (by decide))
    have h3 : m_roundsErrors_L3 (w, rs) FUEL 0 0 = some (if yAll rs then 0 else 1) := loopS (fun n i s => m_roundsErrors_L3 (w, rs) n s i) rs.length (fun k => errTo (yAt rs) k) 0 (if yAll rs then 0 else 1) rfl hF (fun n k hk => by
      show m_roundsErrors_L3 (w, rs) (n + 1) (errTo (yAt rs) k) k = m_roundsErrors_L3 (w, rs) n (errTo (yAt rs) (k + 1)) (k + 1)
      rw [m_roundsErrors_L3, errTo]
      cases h : yAt rs k
      · simp [yAt, -List.getD_eq_getElem?_getD] at h
        simp (disch := ((try simp [inB, inI64, fitB, -List.getD_eq_getElem?_getD]); try omega; done)) only [gdt, cdt, cdf, Option.bind_some]
        rfl
      · simp [yAt, -List.getD_eq_getElem?_getD] at h
        simp (disch := ((try simp [inB, inI64, fitB, -List.getD_eq_getElem?_getD]); try omega; done)) only [gdt, cdt, cdf, Option.bind_some]
        rfl) (fun n => by
      show m_roundsErrors_L3 (w, rs) (n + 1) (errTo (yAt rs) rs.length) rs.length = _
      rw [m_roundsErrors_L3, cdf (by simp), errTo_eq]
      rfl)
    rw [h3]
    have e : Option.bind (cond (cond (decide (w < (1 : Int))) true (decide ((rs.length : Int) = (0 : Int)))) (some (1 : Int)) (some (if yAll rs = true then 0 else 1))) (fun o7 => cond (cond (decide ((16 : Int) < w)) true (decide ((31 : Int) < (rs.length : Int)))) (some (3 : Int)) (some o7)) = some (tErr w rs) := by
      have eA : cond (decide (w < (1 : Int))) true (decide ((rs.length : Int) = (0 : Int))) = decide (w < 1 ∨ rs.length < 1) := by
        by_cases a : w < 1
        · rw [decide_eq_true a, decide_eq_true (Or.inl a)]
          rfl
        · rw [decide_eq_false a, cond_false]
          exact decide_eq_decide.2 (by omega)
      have eB : cond (decide ((16 : Int) < w)) true (decide ((31 : Int) < (rs.length : Int))) = decide (16 < w ∨ 31 < rs.length) := by
        by_cases a : 16 < w
        · rw [decide_eq_true a, decide_eq_true (Or.inl a)]
          rfl
        · rw [decide_eq_false a, cond_false]
          exact decide_eq_decide.2 (by omega)
      rw [eA, eB]
      unfold tErr
      by_cases h1 : 16 < w ∨ 31 < rs.length
      · rw [if_pos h1, decide_eq_true h1]
        by_cases h2 : w < 1 ∨ rs.length < 1
        · rw [decide_eq_true h2]
          rfl
        · rw [decide_eq_false h2]
          rfl
      · rw [if_neg h1, decide_eq_false h1]
        by_cases h2 : w < 1 ∨ rs.length < 1
        · rw [if_pos h2, decide_eq_true h2]
          rfl
        · rw [if_neg h2, decide_eq_false h2]
          rfl
    rw [cdf (by simp; omega), Option.bind_some]
    rw [← Option.bind_assoc, e, Option.bind_some]
    unfold m_rcompile m_rrounds
    by_cases h : tErr w rs = 0
    · rw [compile_ok w rs h, h]
      rfl
    · rw [compile_err w rs h]
      simp [h, inI64]
      try rfl
end Go.Proofs.YtcjpcmofajcadaaDoor

/- RoundsPlan: models. -/
namespace Go.Proofs.YtcjpcmofajcadaaDoor
set_option linter.unusedSimpArgs false
set_option linter.unusedVariables false
open Go.RowKit
def m_uof_L4 (a0 : (Int × (List Int))) : Nat → Int → (List Int) → Option ((List Int))
  | 0, _, _ => none
  | n + 1, v4_0, v4_1 =>
    cond (cond (decide (v4_0 < (a0.2.length : Int))) (decide (v4_0 < (8 : Int))) false) (gd ((inB v4_0 a0.2.length) && (fitB 1 (v4_1.length + [(IntKind.wrap .u8 ((1 : Int) + (Int.tmod (a0.2.getD v4_0.toNat 0) (3 : Int))))].length))) <|
    gd ((inI64 (v4_0 + (1 : Int)))) <|
    m_uof_L4 a0 n (v4_0 + (1 : Int)) (v4_1 ++ [(IntKind.wrap .u8 ((1 : Int) + (Int.tmod (a0.2.getD v4_0.toNat 0) (3 : Int))))])) (some v4_1)
def m_uof (a0 : (Int × (List Int))) : Option ((Int × (List Int))) :=
    gd ((inI64 (Int.tmod a0.1 (8 : Int))) && (inI64 ((1 : Int) + (Int.tmod a0.1 (8 : Int))))) <|
    Option.bind (m_uof_L4 a0 FUEL (0 : Int) ([] : List Int)) fun o3 =>
    cond (decide ((o3.length : Int) = (0 : Int))) (some (((1 : Int) + (Int.tmod a0.1 (8 : Int))), [(1 : Int)])) (some (((1 : Int) + (Int.tmod a0.1 (8 : Int))), o3))
set_option maxRecDepth 20000 in
set_option maxHeartbeats 4000000 in
theorem w_uof (a0 : (Int × (List Int))) (c0 : Option Nat) (r : ((Int × (List Int)))) (h : m_uof a0 = some r) : AC cx 26 [.agg [.val (.int .u8 a0.1), .lst (.int .u8) a0.2 c0]] [] (fun sv h => sv = .a (.agg [.val (.int .i64 r.1), .lst (.int .u8) r.2 none]) ∧ h = []) := by
  apply AC.forgetV
  unfold m_uof at h
  refine ac_body tt_ok Tryd.func26 rfl Tryd.ntmps26 rfl rfl (res := [.cell 2 63]) rfl ?_
  refine ax_seq ?_
  refine ax_region ?_
  refine al_run tt_ok rfl rfl ?_
  refine ax_seq ?_
  obtain ⟨hG7, h⟩ := gd_some h
  simp only [Bool.and_eq_true] at hG7
  obtain ⟨hG7_0, hG7_1⟩ := hG7
  refine ax_region ?_
  refine al_run tt_ok rfl (by first | (simp only [hG7_0, hG7_1, ob, decide_true, cond_true, cond_false]; done) | (simp_all; done) | (simp only [hG7_0, hG7_1, ob, decide_true, cond_true, cond_false]; rfl)) ?_
  refine ax_seq ?_
  refine ax_seq ?_
  refine ax_region ?_
  refine al_run tt_ok rfl rfl ?_
  refine ax_weak (Wk.nilC 3 1 7 5 (.int .u8) rfl) ?_
  obtain ⟨o3, ho3, hk3⟩ := bd h
  refine ax_cutS (fun o3 : (List Int) => ⟨[(2, .a (.c (.ptr 2 0))), (3, .a (.c (.ptr 3 0)))], [(2, .cells 63 [.val (.int .i64 (0 : Int)), .val (.slice none 0 0)]), (3, .cells 63 [.val (.int .i64 ((1 : Int) + (Int.tmod a0.1 (8 : Int)))), .sl 7]), (7, .row 5 (.int .u8) o3 none)]⟩) (fun o' => o3 = o') ?_ ?_
  ·
   have h := ho3
   refine ax_block ?_
   refine ax_weak (st' := ⟨[(4, _), (1, _), (2, _), (3, _)], [(7, _), (1, _), (2, _), (3, _)]⟩) (Wk.sub (SubL.cons rfl (SubL.cons rfl (SubL.cons rfl (SubL.cons rfl SubL.nil)))) (SubH.cons rfl rfl (SubH.cons rfl rfl (SubH.cons rfl rfl (SubH.cons rfl rfl SubH.nil))))) ?_
   refine ax_loopL (fun y : Nat × Int × (List Int) => [(4, .a (.c (.val (.int .i64 y.2.1))))]) (fun y : Nat × Int × (List Int) => [(7, .row 5 (.int .u8) y.2.2 none)]) (fun y : Nat × Int × (List Int) => m_uof_L4 a0 y.1 y.2.1 y.2.2 = some o3) (fun y : Nat × Int × (List Int) => y.1) (FUEL, (0 : Int), ([] : List Int)) h ?_
   rintro ⟨n, v4_0, v4_1⟩ h
   replace h : m_uof_L4 a0 n v4_0 v4_1 = some o3 := h
   rcases n with _ | n
   · cases (show (none : Option _) = some _ from h)
   rw [m_uof_L4] at h
   try dsimp only
   refine ax_seq ?_
   refine ax_seq ?_
   refine ax_region ?_
   refine al_run tt_ok rfl (by first | (generalize (decide (v4_0 < (a0.2.length : Int))) = b0; revert b0; decide) | (simp only [ob, decide_true, cond_true, cond_false]; done) | (simp_all; done) | (simp only [ob, decide_true, cond_true, cond_false]; rfl)) ?_
   refine ax_cond rfl rfl (fun hc => ?_) (fun hc => ?_)
   ·
    replace h := cond_t hc h
    refine ax_skip ?_
    refine ax_seq ?_
    refine ax_block ?_
    obtain ⟨hG6, h⟩ := gd_some h
    simp only [Bool.and_eq_true] at hG6
    obtain ⟨hG6_0, hG6_1⟩ := hG6
    refine ax_draw [2, 3, 4, 5, 6, 7, 8, 9] (by kernel_rfl) rfl (N := 13) ?_
    refine ad_run (fuel := 0) (ds' := ⟨#[true, true, true, true, true, true, true, true, true, true, true, true, true], false, false, true⟩) tt_ok [(0, 0), (1, 3), (2, 0), (3, 3), (4, 0), (5, 0), (6, 1), (7, 0), (8, 0), (9, 4), (10, 2), (11, 0), (12, 2)] (by kernel_rfl) rfl (by first | (simp only [hG6_0, hG6_1, ob, decide_true, cond_true, cond_false]; done) | (simp_all; done) | (simp only [hG6_0, hG6_1, ob, decide_true, cond_true, cond_false]; rfl)) ?_
    refine ad_done (by kernel_rfl) ?_
    obtain ⟨hG5, h⟩ := gd_some h
    refine ax_region ?_
    refine al_run tt_ok rfl (by first | (simp only [hG5, ob, decide_true, cond_true, cond_false]; done) | (simp_all; done) | (simp only [hG5, ob, decide_true, cond_true, cond_false]; rfl)) ?_
    refine ⟨(n, _, _), h, Nat.lt_succ_self _, (Wk.sub (SubL.cons rfl (SubL.cons rfl (SubL.cons rfl (SubL.cons rfl SubL.nil)))) (SubH.cons rfl rfl (SubH.cons rfl rfl (SubH.cons rfl rfl (SubH.cons rfl rfl SubH.nil)))))⟩
   ·
    replace h := cond_f hc h
    refine ax_exit ?_
    exact ⟨_, (Option.some.inj h).symm, (Wk.sub (SubL.cons rfl (SubL.cons rfl SubL.nil)) (SubH.cons rfl rfl (SubH.cons rfl rfl (SubH.cons rfl rfl SubH.nil))))⟩
  ·
   rintro _ rfl
   have h := hk3
   refine ax_seq ?_
   refine ax_seq ?_
   refine ax_region ?_
   refine al_run tt_ok rfl rfl ?_
   refine ax_cond rfl rfl (fun hc => ?_) (fun hc => ?_)
   ·
    replace h := cond_t hc h
    refine ax_region ?_
    refine al_run tt_ok rfl rfl ?_
    refine ax_seq ?_
    refine ax_region ?_
    refine al_run tt_ok rfl rfl ?_
    refine ax_ret ?_
    obtain rfl := Option.some.inj h
    refine ⟨_, (Wk.trans (Wk.frz (id := 38) rfl) (Wk.trans (Wk.dataB 2 (.pair (.int .i64) (.sl (.int .u8))) rfl rfl rfl rfl) (Wk.sub (st' := ⟨[(2, _)], [(2, _)]⟩) (SubL.cons rfl SubL.nil) (SubH.cons rfl rfl SubH.nil)))), _, _, rfl, rfl, ?_⟩
    exact rfl
   ·
    replace h := cond_f hc h
    refine ax_skip ?_
    refine ax_seq ?_
    refine ax_region ?_
    refine al_run tt_ok rfl rfl ?_
    refine ax_ret ?_
    obtain rfl := Option.some.inj h
    refine ⟨_, (Wk.trans (Wk.frz (id := 7) rfl) (Wk.sub (st' := ⟨[(2, _)], [(2, _)]⟩) (SubL.cons rfl SubL.nil) (SubH.cons rfl rfl SubH.nil))), _, _, rfl, rfl, ?_⟩
    exact rfl
def m_roundsPlan_L3 (r1 : (Int × (List Int))) : Nat → Int → (List Int) → Option ((List Int))
  | 0, _, _ => none
  | n + 1, v3_0, v3_1 =>
    cond (decide (v3_0 < r1.1)) (gd ((inI64 ((13 : Int) + v3_0)) && (fitB 8 (v3_1.length + [((13 : Int) + v3_0)].length))) <|
    gd ((inI64 (v3_0 + (1 : Int)))) <|
    m_roundsPlan_L3 r1 n (v3_0 + (1 : Int)) (v3_1 ++ [((13 : Int) + v3_0)])) (some v3_1)
def m_roundsPlan_L11 (r1 : (Int × (List Int))) (v7_0 : Int) : Nat → Int → (List OpT) → Option ((List OpT))
  | 0, _, _ => none
  | n + 1, v11_0, v11_1 =>
    cond (decide (v11_0 < r1.1)) (gd ((inI64 ((13 : Int) + v11_0)) && (fitB 40 (v11_1.length + [((4 : Int), ((1 : Int), (((0 : Int), ((13 : Int) + v11_0)), ((r1.2.getD v7_0.toNat 0), (0 : Int)))))].length))) <|
    gd ((inI64 (v11_0 + (1 : Int)))) <|
    m_roundsPlan_L11 r1 v7_0 n (v11_0 + (1 : Int)) (v11_1 ++ [((4 : Int), ((1 : Int), (((0 : Int), ((13 : Int) + v11_0)), ((r1.2.getD v7_0.toNat 0), (0 : Int)))))])) (some v11_1)
def m_roundsPlan_L15 (r1 : (Int × (List Int))) (v7_0 : Int) : Nat → Int → (List OpT) → Option ((List OpT))
  | 0, _, _ => none
  | n + 1, v15_0, v15_1 =>
    cond (decide ((0 : Int) ≤ v15_0)) (gd ((inI64 ((13 : Int) + v15_0)) && (fitB 40 (v15_1.length + [((4 : Int), ((0 : Int), (((1 : Int), ((13 : Int) + v15_0)), ((r1.2.getD v7_0.toNat 0), (0 : Int)))))].length))) <|
    gd ((inI64 (v15_0 - (1 : Int)))) <|
    m_roundsPlan_L15 r1 v7_0 n (v15_0 - (1 : Int)) (v15_1 ++ [((4 : Int), ((0 : Int), (((1 : Int), ((13 : Int) + v15_0)), ((r1.2.getD v7_0.toNat 0), (0 : Int)))))])) (some v15_1)
def m_roundsPlan_L7 (r1 : (Int × (List Int))) : Nat → Int → (List OpT) → (List Int) → (List Bool) → Option ((List OpT) × (List Int) × (List Bool))
  | 0, _, _, _, _ => none
  | n + 1, v7_0, v7_1, v7_2, v7_3 =>
    cond (decide (v7_0 < (r1.2.length : Int))) (gd ((fitB 8 (v7_2.length + [(v7_1.length : Int)].length))) <|
    gd ((inB v7_0 r1.2.length)) <|
    gd ((inB (Int.tmod (r1.2.getD v7_0.toNat 0) (7 : Int)) 7) && (decide ((Int.tmod (r1.2.getD v7_0.toNat 0) (7 : Int)).toNat < v7_3.length))) <|
    Option.bind (cond (!(v7_3.getD (Int.tmod (r1.2.getD v7_0.toNat 0) (7 : Int)).toNat false)) (gd ((fitB 40 (v7_1.length + [((1 : Int), ((0 : Int), (((0 : Int), (0 : Int)), ((r1.2.getD v7_0.toNat 0), (0 : Int)))))].length))) <|
    some (v7_1 ++ [((1 : Int), ((0 : Int), (((0 : Int), (0 : Int)), ((r1.2.getD v7_0.toNat 0), (0 : Int)))))])) (some v7_1)) fun o8 =>
    gd ((inB (Int.tmod (r1.2.getD v7_0.toNat 0) (7 : Int)) 7) && (decide ((Int.tmod (r1.2.getD v7_0.toNat 0) (7 : Int)).toNat < v7_3.length))) <|
    Option.bind (m_roundsPlan_L11 r1 v7_0 FUEL (0 : Int) o8) fun o10 =>
    gd ((inI64 (r1.1 - (1 : Int)))) <|
    Option.bind (m_roundsPlan_L15 r1 v7_0 FUEL (r1.1 - (1 : Int)) o10) fun o14 =>
    gd ((inI64 (v7_0 + (1 : Int)))) <|
    m_roundsPlan_L7 r1 n (v7_0 + (1 : Int)) o14 (v7_2 ++ [(v7_1.length : Int)]) (v7_3.set (Int.tmod (r1.2.getD v7_0.toNat 0) (7 : Int)).toNat true)) (some (v7_1, v7_2, v7_3))
def m_roundsPlan_L25 (r1 : (Int × (List Int))) : Nat → Int → (List OpT) → Option ((List OpT))
  | 0, _, _ => none
  | n + 1, v25_0, v25_1 =>
    cond (decide (v25_0 < r1.1)) (gd ((inI64 ((13 : Int) + v25_0)) && (fitB 40 (v25_1.length + [((7 : Int), ((0 : Int), (((1 : Int), ((13 : Int) + v25_0)), ((0 : Int), (0 : Int)))))].length))) <|
    gd ((inI64 (v25_0 + (1 : Int)))) <|
    m_roundsPlan_L25 r1 n (v25_0 + (1 : Int)) (v25_1 ++ [((7 : Int), ((0 : Int), (((1 : Int), ((13 : Int) + v25_0)), ((0 : Int), (0 : Int)))))])) (some v25_1)
def m_roundsPlan_L30 (o6 : (List OpT) × (List Int) × (List Bool)) : Nat → Int → (List OpT) → Option ((List OpT))
  | 0, _, _ => none
  | n + 1, v30_0, v30_1 =>
    cond (decide (v30_0 < (7 : Int))) (gd ((inB v30_0 7) && (decide (v30_0.toNat < o6.2.2.length))) <|
    cond (o6.2.2.getD v30_0.toNat false) (gd ((fitB 40 (v30_1.length + [((2 : Int), ((0 : Int), (((0 : Int), (0 : Int)), (v30_0, (0 : Int)))))].length))) <|
    m_roundsPlan_L30 o6 n (IntKind.wrap .u8 (v30_0 + (1 : Int))) (v30_1 ++ [((2 : Int), ((0 : Int), (((0 : Int), (0 : Int)), (v30_0, (0 : Int)))))])) (m_roundsPlan_L30 o6 n (IntKind.wrap .u8 (v30_0 + (1 : Int))) v30_1)) (some v30_1)
def m_roundsPlan (a0 : (Int × (List Int))) : Option (Bool) :=
    Option.bind (m_uof a0) fun r1 =>
    Option.bind (m_roundsPlan_L3 r1 FUEL (0 : Int) ([] : List Int)) fun o2 =>
    Option.bind (m_roundsPlan_L7 r1 FUEL (0 : Int) ([] : List OpT) ([] : List Int) (List.replicate 7 (false : Bool))) fun o6 =>
    gd ((fitB 8 (o6.2.1.length + [(o6.1.length : Int)].length))) <|
    Option.bind (m_roundsPlan_L25 r1 FUEL (0 : Int) o6.1) fun o24 =>
    gd ((inI64 ((r1.2.length : Int) - (1 : Int))) && (inB ((r1.2.length : Int) - (1 : Int)) r1.2.length)) <|
    Option.bind (m_bindoff (r1.2.getD ((r1.2.length : Int) - (1 : Int)).toNat 0) o2) fun r28 =>
    gd ((fitB 40 (o24.length + r28.1.length))) <|
    Option.bind (m_roundsPlan_L30 o6 FUEL (1 : Int) (o24 ++ r28.1)) fun o29 =>
    Option.bind (m_rcompile r1) fun r33 =>
    Option.bind (m_rrounds r1) fun r34 =>
    Option.bind (cond (cond (cond (decide (r28.2 = (0 : Int))) (decide (r33.2 = (0 : Int))) false) (decide (r34.2.2 = (0 : Int))) false) (m_text32 r33.1) (some default)) fun r35 =>
    Option.bind (cond (cond (cond (decide (r28.2 = (0 : Int))) (decide (r33.2 = (0 : Int))) false) (decide (r34.2.2 = (0 : Int))) false) (m_text32 o29) (some default)) fun r36 =>
    Option.bind (cond (cond (cond (cond (decide (r28.2 = (0 : Int))) (decide (r33.2 = (0 : Int))) false) (decide (r34.2.2 = (0 : Int))) false) (r35 == r36) false) (m_numbers32 r34.1 (o6.2.1 ++ [(o6.1.length : Int)])) (some default)) fun r37 =>
    gd ((!(cond (cond (cond (cond (decide (r28.2 = (0 : Int))) (decide (r33.2 = (0 : Int))) false) (decide (r34.2.2 = (0 : Int))) false) (r35 == r36) false) r37 false) || (r34.2.1.isSome))) <|
    Option.bind (cond (cond (cond (cond (cond (cond (decide (r28.2 = (0 : Int))) (decide (r33.2 = (0 : Int))) false) (decide (r34.2.2 = (0 : Int))) false) (r35 == r36) false) r37 false) (decide (((r34.2.1.getD 0 : Nat) : Int) = (r34.1.length : Int))) false) (m_lives32) (some default)) fun r38 =>
    some (cond (cond (cond (cond (cond (cond (decide (r28.2 = (0 : Int))) (decide (r33.2 = (0 : Int))) false) (decide (r34.2.2 = (0 : Int))) false) (r35 == r36) false) r37 false) (decide (((r34.2.1.getD 0 : Nat) : Int) = (r34.1.length : Int))) false) r38 false)
set_option maxRecDepth 20000 in
set_option maxHeartbeats 4000000 in
theorem w_roundsPlan (a0 : (Int × (List Int))) (c0 : Option Nat) (r : (Bool)) (h : m_roundsPlan a0 = some r) : AC cx 8 [.agg [.val (.int .u8 a0.1), .lst (.int .u8) a0.2 c0]] [] (fun sv h => sv = .a (.c (.val (.bool r))) ∧ h = []) := by
  unfold m_roundsPlan at h
  refine ac_body tt_ok Tryd.func8 rfl Tryd.ntmps8 rfl rfl (res := [.tmp 2]) rfl ?_
  refine ax_seq ?_
  refine ax_region ?_
  refine al_run tt_ok rfl rfl ?_
  refine ax_seq ?_
  obtain ⟨r1, hr1, h⟩ := bd h
  refine ax_region ?_
  refine al_upto tt_ok rfl rfl ?_
  refine al_callP (w_uof _ c0 r1 hr1) rfl ⟨rfl, rfl⟩ rfl Tryd.func26 rfl rfl rfl rfl rfl rfl ?_
  refine al_run tt_ok rfl rfl ?_
  refine ax_seq ?_
  refine ax_region ?_
  refine al_run tt_ok rfl rfl ?_
  refine ax_weak (Wk.nil 4 4 55 gOp rfl rfl) ?_
  refine ax_seq ?_
  refine ax_region ?_
  refine al_run tt_ok rfl rfl ?_
  refine ax_weak (Wk.nil 5 5 3 (.int .i64) rfl rfl) ?_
  refine ax_weak (Wk.nil 6 6 3 (.int .i64) rfl rfl) ?_
  refine ax_seq ?_
  refine ax_region ?_
  refine al_one tt_ok rfl rfl ?_
  refine al_weak (Wk.arr 7 .bool 7 (List.replicate 7 (false : Bool)) rfl rfl rfl rfl rfl (by decide)) ?_
  refine al_run tt_ok rfl rfl ?_
  refine ax_seq ?_
  refine ax_seq ?_
  refine ax_region ?_
  refine al_run tt_ok rfl rfl ?_
  obtain ⟨o2, ho2, hk2⟩ := bd h
  refine ax_cutS (fun o2 : (List Int) => ⟨[(3, .a (.c (.ptr 3 0))), (4, .a (.c (.sl 4))), (5, .a (.c (.sl 5))), (6, .a (.c (.sl 6))), (7, .a (.c (.elt 7 1 0 0)))], [(3, .cells 63 [.val (.int .i64 r1.1), .lst (.int .u8) r1.2 none]), (4, .row 55 gOp ([] : List OpT) none), (5, .row 3 (.int .i64) ([] : List Int) none), (6, .row 3 (.int .i64) o2 none), (7, .row 65 .bool (List.replicate 7 (false : Bool)) (some 7))]⟩) (fun o' => o2 = o') ?_ ?_
  ·
   have h := ho2
   refine ax_block ?_
   refine ax_weak (st' := ⟨[(8, _), (3, _), (4, _), (5, _), (6, _), (7, _)], [(6, _), (3, _), (4, _), (5, _), (7, _)]⟩) (Wk.sub (SubL.cons rfl (SubL.cons rfl (SubL.cons rfl (SubL.cons rfl (SubL.cons rfl (SubL.cons rfl SubL.nil)))))) (SubH.cons rfl rfl (SubH.cons rfl rfl (SubH.cons rfl rfl (SubH.cons rfl rfl (SubH.cons rfl rfl SubH.nil)))))) ?_
   refine ax_loopL (fun y : Nat × Int × (List Int) => [(8, .a (.c (.val (.int .i64 y.2.1))))]) (fun y : Nat × Int × (List Int) => [(6, .row 3 (.int .i64) y.2.2 none)]) (fun y : Nat × Int × (List Int) => m_roundsPlan_L3 r1 y.1 y.2.1 y.2.2 = some o2) (fun y : Nat × Int × (List Int) => y.1) (FUEL, (0 : Int), ([] : List Int)) h ?_
   rintro ⟨n, v3_0, v3_1⟩ h
   replace h : m_roundsPlan_L3 r1 n v3_0 v3_1 = some o2 := h
   rcases n with _ | n
   · cases (show (none : Option _) = some _ from h)
   rw [m_roundsPlan_L3] at h
   try dsimp only
   refine ax_seq ?_
   refine ax_seq ?_
   refine ax_region ?_
   refine al_run tt_ok rfl rfl ?_
   refine ax_cond rfl rfl (fun hc => ?_) (fun hc => ?_)
   ·
    replace h := cond_t hc h
    refine ax_skip ?_
    refine ax_seq ?_
    refine ax_block ?_
    obtain ⟨hG5, h⟩ := gd_some h
    simp only [Bool.and_eq_true] at hG5
    obtain ⟨hG5_0, hG5_1⟩ := hG5
    refine ax_region ?_
    refine al_run tt_ok rfl (by first | (simp only [hG5_0, hG5_1, ob, decide_true, cond_true, cond_false]; done) | (simp_all; done) | (simp only [hG5_0, hG5_1, ob, decide_true, cond_true, cond_false]; rfl)) ?_
    obtain ⟨hG4, h⟩ := gd_some h
    refine ax_region ?_
    refine al_run tt_ok rfl (by first | (simp only [hG4, ob, decide_true, cond_true, cond_false]; done) | (simp_all; done) | (simp only [hG4, ob, decide_true, cond_true, cond_false]; rfl)) ?_
    refine ⟨(n, _, _), h, Nat.lt_succ_self _, (Wk.sub (SubL.cons rfl (SubL.cons rfl (SubL.cons rfl (SubL.cons rfl (SubL.cons rfl (SubL.cons rfl SubL.nil)))))) (SubH.cons rfl rfl (SubH.cons rfl rfl (SubH.cons rfl rfl (SubH.cons rfl rfl (SubH.cons rfl rfl SubH.nil))))))⟩
   ·
    replace h := cond_f hc h
    refine ax_exit ?_
    exact ⟨_, (Option.some.inj h).symm, (Wk.sub (SubL.cons rfl (SubL.cons rfl (SubL.cons rfl (SubL.cons rfl (SubL.cons rfl SubL.nil))))) (SubH.cons rfl rfl (SubH.cons rfl rfl (SubH.cons rfl rfl (SubH.cons rfl rfl (SubH.cons rfl rfl SubH.nil))))))⟩
  ·
   rintro _ rfl
   have h := hk2
   refine ax_seq ?_
   refine ax_seq ?_
   refine ax_region ?_
   refine al_run tt_ok rfl rfl ?_
   obtain ⟨o6, ho6, hk6⟩ := bd h
   refine ax_cutS (fun o6 : (List OpT) × (List Int) × (List Bool) => ⟨[(3, .a (.c (.ptr 3 0))), (4, .a (.c (.sl 4))), (5, .a (.c (.sl 5))), (6, .a (.c (.sl 6))), (7, .a (.c (.elt 7 1 0 0)))], [(3, .cells 63 [.val (.int .i64 r1.1), .lst (.int .u8) r1.2 none]), (4, .row 55 gOp o6.1 none), (5, .row 3 (.int .i64) o6.2.1 none), (6, .row 3 (.int .i64) o2 none), (7, .row 65 .bool o6.2.2 (some 7))]⟩) (fun o' => o6 = o') ?_ ?_
   ·
    have h := ho6
    refine ax_block ?_
    refine ax_weak (st' := ⟨[(9, _), (3, _), (4, _), (5, _), (6, _), (7, _)], [(4, _), (5, _), (7, _), (3, _), (6, _)]⟩) (Wk.sub (SubL.cons rfl (SubL.cons rfl (SubL.cons rfl (SubL.cons rfl (SubL.cons rfl (SubL.cons rfl SubL.nil)))))) (SubH.cons rfl rfl (SubH.cons rfl rfl (SubH.cons rfl rfl (SubH.cons rfl rfl (SubH.cons rfl rfl SubH.nil)))))) ?_
    refine ax_loopL (fun y : Nat × Int × (List OpT) × (List Int) × (List Bool) => [(9, .a (.c (.val (.int .i64 y.2.1))))]) (fun y : Nat × Int × (List OpT) × (List Int) × (List Bool) => [(4, .row 55 gOp y.2.2.1 none), (5, .row 3 (.int .i64) y.2.2.2.1 none), (7, .row 65 .bool y.2.2.2.2 (some 7))]) (fun y : Nat × Int × (List OpT) × (List Int) × (List Bool) => m_roundsPlan_L7 r1 y.1 y.2.1 y.2.2.1 y.2.2.2.1 y.2.2.2.2 = some o6) (fun y : Nat × Int × (List OpT) × (List Int) × (List Bool) => y.1) (FUEL, (0 : Int), ([] : List OpT), ([] : List Int), (List.replicate 7 (false : Bool))) h ?_
    rintro ⟨n, v7_0, v7_1, v7_2, v7_3⟩ h
    replace h : m_roundsPlan_L7 r1 n v7_0 v7_1 v7_2 v7_3 = some o6 := h
    rcases n with _ | n
    · cases (show (none : Option _) = some _ from h)
    rw [m_roundsPlan_L7] at h
    try dsimp only
    refine ax_seq ?_
    refine ax_seq ?_
    refine ax_region ?_
    refine al_run tt_ok rfl rfl ?_
    refine ax_cond rfl rfl (fun hc => ?_) (fun hc => ?_)
    ·
     replace h := cond_t hc h
     refine ax_skip ?_
     refine ax_seq ?_
     refine ax_block ?_
     refine ax_seq ?_
     obtain ⟨hG23, h⟩ := gd_some h
     refine ax_region ?_
     refine al_run tt_ok rfl (by first | (simp only [hG23, ob, decide_true, cond_true, cond_false]; done) | (simp_all; done) | (simp only [hG23, ob, decide_true, cond_true, cond_false]; rfl)) ?_
     refine ax_seq ?_
     obtain ⟨hG22, h⟩ := gd_some h
     refine ax_region ?_
     refine al_run tt_ok rfl (by first | (simp only [hG22, ob, decide_true, cond_true, cond_false]; done) | (simp_all; done) | (simp only [hG22, ob, decide_true, cond_true, cond_false]; rfl)) ?_
     refine ax_seq ?_
     refine ax_seq ?_
     obtain ⟨hG21, h⟩ := gd_some h
     simp only [Bool.and_eq_true] at hG21
     obtain ⟨hG21_0, hG21_1⟩ := hG21
     refine ax_region ?_
     refine al_run tt_ok rfl (by first | (simp only [hG21_0, hG21_1, ob, decide_true, cond_true, cond_false]; done) | (simp_all; done) | (simp only [hG21_0, hG21_1, ob, decide_true, cond_true, cond_false]; rfl)) ?_
     obtain ⟨o8, ho8, hk8⟩ := bd h
     refine ax_cutS (fun o8 : (List OpT) => ⟨[(3, .a (.c (.ptr 3 0))), (4, .a (.c (.sl 4))), (5, .a (.c (.sl 5))), (6, .a (.c (.sl 6))), (7, .a (.c (.elt 7 1 0 0))), (9, .a (.c (.val (.int .i64 v7_0)))), (10, .a (.c (.val (.int .u8 (r1.2.getD v7_0.toNat 0)))))], [(3, .cells 63 [.val (.int .i64 r1.1), .lst (.int .u8) r1.2 none]), (4, .row 55 gOp o8 none), (5, .row 3 (.int .i64) (v7_2 ++ [(v7_1.length : Int)]) none), (6, .row 3 (.int .i64) o2 none), (7, .row 65 .bool v7_3 (some 7))]⟩) (fun o' => o8 = o') ?_ ?_
     ·
      have h := ho8
      refine ax_cond rfl rfl (fun hc => ?_) (fun hc => ?_)
      ·
       replace h := cond_t hc h
       obtain ⟨hG9, h⟩ := gd_some h
       refine ax_region ?_
       refine al_run tt_ok rfl (by first | (simp only [hG9, ob, decide_true, cond_true, cond_false]; done) | (simp_all; done) | (simp only [hG9, ob, decide_true, cond_true, cond_false]; rfl)) ?_
       exact ⟨_, (Option.some.inj h).symm, (Wk.sub (SubL.cons rfl (SubL.cons rfl (SubL.cons rfl (SubL.cons rfl (SubL.cons rfl (SubL.cons rfl (SubL.cons rfl SubL.nil))))))) (SubH.cons rfl rfl (SubH.cons rfl rfl (SubH.cons rfl rfl (SubH.cons rfl rfl (SubH.cons rfl rfl SubH.nil))))))⟩
      ·
       replace h := cond_f hc h
       refine ax_skip ?_
       exact ⟨_, (Option.some.inj h).symm, (Wk.sub (SubL.cons rfl (SubL.cons rfl (SubL.cons rfl (SubL.cons rfl (SubL.cons rfl (SubL.cons rfl (SubL.cons rfl SubL.nil))))))) (SubH.cons rfl rfl (SubH.cons rfl rfl (SubH.cons rfl rfl (SubH.cons rfl rfl (SubH.cons rfl rfl SubH.nil))))))⟩
     ·
      rintro _ rfl
      have h := hk8
      refine ax_seq ?_
      obtain ⟨hG20, h⟩ := gd_some h
      simp only [Bool.and_eq_true] at hG20
      obtain ⟨hG20_0, hG20_1⟩ := hG20
      refine ax_region ?_
      refine al_run tt_ok rfl (by first | (simp only [hG20_0, hG20_1, ob, decide_true, cond_true, cond_false]; done) | (simp_all; done) | (simp only [hG20_0, hG20_1, ob, decide_true, cond_true, cond_false]; rfl)) ?_
      refine ax_seq ?_
      refine ax_seq ?_
      refine ax_region ?_
      refine al_run tt_ok rfl rfl ?_
      obtain ⟨o10, ho10, hk10⟩ := bd h
      refine ax_cutS (fun o10 : (List OpT) => ⟨[(3, .a (.c (.ptr 3 0))), (4, .a (.c (.sl 4))), (5, .a (.c (.sl 5))), (6, .a (.c (.sl 6))), (7, .a (.c (.elt 7 1 0 0))), (9, .a (.c (.val (.int .i64 v7_0)))), (10, .a (.c (.val (.int .u8 (r1.2.getD v7_0.toNat 0)))))], [(3, .cells 63 [.val (.int .i64 r1.1), .lst (.int .u8) r1.2 none]), (4, .row 55 gOp o10 none), (5, .row 3 (.int .i64) (v7_2 ++ [(v7_1.length : Int)]) none), (6, .row 3 (.int .i64) o2 none), (7, .row 65 .bool (v7_3.set (Int.tmod (r1.2.getD v7_0.toNat 0) (7 : Int)).toNat true) (some 7))]⟩) (fun o' => o10 = o') ?_ ?_
      ·
       have h := ho10
       refine ax_block ?_
       refine ax_weak (st' := ⟨[(11, _), (3, _), (4, _), (5, _), (6, _), (7, _), (9, _), (10, _)], [(4, _), (3, _), (5, _), (6, _), (7, _)]⟩) (Wk.sub (SubL.cons rfl (SubL.cons rfl (SubL.cons rfl (SubL.cons rfl (SubL.cons rfl (SubL.cons rfl (SubL.cons rfl (SubL.cons rfl SubL.nil)))))))) (SubH.cons rfl rfl (SubH.cons rfl rfl (SubH.cons rfl rfl (SubH.cons rfl rfl (SubH.cons rfl rfl SubH.nil)))))) ?_
       refine ax_loopL (fun y : Nat × Int × (List OpT) => [(11, .a (.c (.val (.int .i64 y.2.1))))]) (fun y : Nat × Int × (List OpT) => [(4, .row 55 gOp y.2.2 none)]) (fun y : Nat × Int × (List OpT) => m_roundsPlan_L11 r1 v7_0 y.1 y.2.1 y.2.2 = some o10) (fun y : Nat × Int × (List OpT) => y.1) (FUEL, (0 : Int), o8) h ?_
       rintro ⟨n, v11_0, v11_1⟩ h
       replace h : m_roundsPlan_L11 r1 v7_0 n v11_0 v11_1 = some o10 := h
       rcases n with _ | n
       · cases (show (none : Option _) = some _ from h)
       rw [m_roundsPlan_L11] at h
       try dsimp only
       refine ax_seq ?_
       refine ax_seq ?_
       refine ax_region ?_
       refine al_run tt_ok rfl rfl ?_
       refine ax_cond rfl rfl (fun hc => ?_) (fun hc => ?_)
       ·
        replace h := cond_t hc h
        refine ax_skip ?_
        refine ax_seq ?_
        refine ax_block ?_
        obtain ⟨hG13, h⟩ := gd_some h
        simp only [Bool.and_eq_true] at hG13
        obtain ⟨hG13_0, hG13_1⟩ := hG13
        refine ax_region ?_
        refine al_run tt_ok rfl (by first | (simp only [hG13_0, hG13_1, ob, decide_true, cond_true, cond_false]; done) | (simp_all; done) | (simp only [hG13_0, hG13_1, ob, decide_true, cond_true, cond_false]; rfl)) ?_
        obtain ⟨hG12, h⟩ := gd_some h
        refine ax_region ?_
        refine al_run tt_ok rfl (by first | (simp only [hG12, ob, decide_true, cond_true, cond_false]; done) | (simp_all; done) | (simp only [hG12, ob, decide_true, cond_true, cond_false]; rfl)) ?_
        refine ⟨(n, _, _), h, Nat.lt_succ_self _, (Wk.sub (SubL.cons rfl (SubL.cons rfl (SubL.cons rfl (SubL.cons rfl (SubL.cons rfl (SubL.cons rfl (SubL.cons rfl (SubL.cons rfl SubL.nil)))))))) (SubH.cons rfl rfl (SubH.cons rfl rfl (SubH.cons rfl rfl (SubH.cons rfl rfl (SubH.cons rfl rfl SubH.nil))))))⟩
       ·
        replace h := cond_f hc h
        refine ax_exit ?_
        exact ⟨_, (Option.some.inj h).symm, (Wk.sub (SubL.cons rfl (SubL.cons rfl (SubL.cons rfl (SubL.cons rfl (SubL.cons rfl (SubL.cons rfl (SubL.cons rfl SubL.nil))))))) (SubH.cons rfl rfl (SubH.cons rfl rfl (SubH.cons rfl rfl (SubH.cons rfl rfl (SubH.cons rfl rfl SubH.nil))))))⟩
      ·
       rintro _ rfl
       have h := hk10
       refine ax_seq ?_
       obtain ⟨hG19, h⟩ := gd_some h
       refine ax_region ?_
       refine al_run tt_ok rfl (by first | (simp only [hG19, ob, decide_true, cond_true, cond_false]; done) | (simp_all; done) | (simp only [hG19, ob, decide_true, cond_true, cond_false]; rfl)) ?_
       obtain ⟨o14, ho14, hk14⟩ := bd h
       refine ax_cutS (fun o14 : (List OpT) => ⟨[(3, .a (.c (.ptr 3 0))), (4, .a (.c (.sl 4))), (5, .a (.c (.sl 5))), (6, .a (.c (.sl 6))), (7, .a (.c (.elt 7 1 0 0))), (9, .a (.c (.val (.int .i64 v7_0))))], [(3, .cells 63 [.val (.int .i64 r1.1), .lst (.int .u8) r1.2 none]), (4, .row 55 gOp o14 none), (5, .row 3 (.int .i64) (v7_2 ++ [(v7_1.length : Int)]) none), (6, .row 3 (.int .i64) o2 none), (7, .row 65 .bool (v7_3.set (Int.tmod (r1.2.getD v7_0.toNat 0) (7 : Int)).toNat true) (some 7))]⟩) (fun o' => o14 = o') ?_ ?_
       ·
        have h := ho14
        refine ax_block ?_
        refine ax_weak (st' := ⟨[(12, _), (3, _), (4, _), (5, _), (6, _), (7, _), (9, _), (10, _)], [(4, _), (3, _), (5, _), (6, _), (7, _)]⟩) (Wk.sub (SubL.cons rfl (SubL.cons rfl (SubL.cons rfl (SubL.cons rfl (SubL.cons rfl (SubL.cons rfl (SubL.cons rfl (SubL.cons rfl SubL.nil)))))))) (SubH.cons rfl rfl (SubH.cons rfl rfl (SubH.cons rfl rfl (SubH.cons rfl rfl (SubH.cons rfl rfl SubH.nil)))))) ?_
        refine ax_loopL (fun y : Nat × Int × (List OpT) => [(12, .a (.c (.val (.int .i64 y.2.1))))]) (fun y : Nat × Int × (List OpT) => [(4, .row 55 gOp y.2.2 none)]) (fun y : Nat × Int × (List OpT) => m_roundsPlan_L15 r1 v7_0 y.1 y.2.1 y.2.2 = some o14) (fun y : Nat × Int × (List OpT) => y.1) (FUEL, (r1.1 - (1 : Int)), o10) h ?_
        rintro ⟨n, v15_0, v15_1⟩ h
        replace h : m_roundsPlan_L15 r1 v7_0 n v15_0 v15_1 = some o14 := h
        rcases n with _ | n
        · cases (show (none : Option _) = some _ from h)
        rw [m_roundsPlan_L15] at h
        try dsimp only
        refine ax_seq ?_
        refine ax_seq ?_
        refine ax_region ?_
        refine al_run tt_ok rfl rfl ?_
        refine ax_cond rfl rfl (fun hc => ?_) (fun hc => ?_)
        ·
         replace h := cond_t hc h
         refine ax_skip ?_
         refine ax_seq ?_
         refine ax_block ?_
         obtain ⟨hG17, h⟩ := gd_some h
         simp only [Bool.and_eq_true] at hG17
         obtain ⟨hG17_0, hG17_1⟩ := hG17
         refine ax_region ?_
         refine al_run tt_ok rfl (by first | (simp only [hG17_0, hG17_1, ob, decide_true, cond_true, cond_false]; done) | (simp_all; done) | (simp only [hG17_0, hG17_1, ob, decide_true, cond_true, cond_false]; rfl)) ?_
         obtain ⟨hG16, h⟩ := gd_some h
         refine ax_region ?_
         refine al_run tt_ok rfl (by first | (simp only [hG16, ob, decide_true, cond_true, cond_false]; done) | (simp_all; done) | (simp only [hG16, ob, decide_true, cond_true, cond_false]; rfl)) ?_
         refine ⟨(n, _, _), h, Nat.lt_succ_self _, (Wk.sub (SubL.cons rfl (SubL.cons rfl (SubL.cons rfl (SubL.cons rfl (SubL.cons rfl (SubL.cons rfl (SubL.cons rfl (SubL.cons rfl SubL.nil)))))))) (SubH.cons rfl rfl (SubH.cons rfl rfl (SubH.cons rfl rfl (SubH.cons rfl rfl (SubH.cons rfl rfl SubH.nil))))))⟩
        ·
         replace h := cond_f hc h
         refine ax_exit ?_
         exact ⟨_, (Option.some.inj h).symm, (Wk.sub (SubL.cons rfl (SubL.cons rfl (SubL.cons rfl (SubL.cons rfl (SubL.cons rfl (SubL.cons rfl SubL.nil)))))) (SubH.cons rfl rfl (SubH.cons rfl rfl (SubH.cons rfl rfl (SubH.cons rfl rfl (SubH.cons rfl rfl SubH.nil))))))⟩
       ·
        rintro _ rfl
        have h := hk14
        obtain ⟨hG18, h⟩ := gd_some h
        refine ax_region ?_
        refine al_run tt_ok rfl (by first | (simp only [hG18, ob, decide_true, cond_true, cond_false]; done) | (simp_all; done) | (simp only [hG18, ob, decide_true, cond_true, cond_false]; rfl)) ?_
        refine ⟨(n, _, _, _, _), h, Nat.lt_succ_self _, (Wk.sub (SubL.cons rfl (SubL.cons rfl (SubL.cons rfl (SubL.cons rfl (SubL.cons rfl (SubL.cons rfl SubL.nil)))))) (SubH.cons rfl rfl (SubH.cons rfl rfl (SubH.cons rfl rfl (SubH.cons rfl rfl (SubH.cons rfl rfl SubH.nil))))))⟩
    ·
     replace h := cond_f hc h
     refine ax_exit ?_
     exact ⟨_, (Option.some.inj h).symm, (Wk.sub (SubL.cons rfl (SubL.cons rfl (SubL.cons rfl (SubL.cons rfl (SubL.cons rfl SubL.nil))))) (SubH.cons rfl rfl (SubH.cons rfl rfl (SubH.cons rfl rfl (SubH.cons rfl rfl (SubH.cons rfl rfl SubH.nil))))))⟩
   ·
    rintro _ rfl
    have h := hk6
    refine ax_seq ?_
    obtain ⟨hG50, h⟩ := gd_some h
    refine ax_region ?_
    refine al_run tt_ok rfl (by first | (simp only [hG50, ob, decide_true, cond_true, cond_false]; done) | (simp_all; done) | (simp only [hG50, ob, decide_true, cond_true, cond_false]; rfl)) ?_
    refine ax_seq ?_
    refine ax_seq ?_
    refine ax_region ?_
    refine al_run tt_ok rfl rfl ?_
    obtain ⟨o24, ho24, hk24⟩ := bd h
    refine ax_cutS (fun o24 : (List OpT) => ⟨[(3, .a (.c (.ptr 3 0))), (4, .a (.c (.sl 4))), (5, .a (.c (.sl 5))), (6, .a (.c (.sl 6))), (7, .a (.c (.elt 7 1 0 0)))], [(3, .cells 63 [.val (.int .i64 r1.1), .lst (.int .u8) r1.2 none]), (4, .row 55 gOp o24 none), (5, .row 3 (.int .i64) (o6.2.1 ++ [(o6.1.length : Int)]) none), (6, .row 3 (.int .i64) o2 none), (7, .row 65 .bool o6.2.2 (some 7))]⟩) (fun o' => o24 = o') ?_ ?_
    ·
     have h := ho24
     refine ax_block ?_
     refine ax_weak (st' := ⟨[(13, _), (3, _), (4, _), (5, _), (6, _), (7, _)], [(4, _), (3, _), (5, _), (6, _), (7, _)]⟩) (Wk.sub (SubL.cons rfl (SubL.cons rfl (SubL.cons rfl (SubL.cons rfl (SubL.cons rfl (SubL.cons rfl SubL.nil)))))) (SubH.cons rfl rfl (SubH.cons rfl rfl (SubH.cons rfl rfl (SubH.cons rfl rfl (SubH.cons rfl rfl SubH.nil)))))) ?_
     refine ax_loopL (fun y : Nat × Int × (List OpT) => [(13, .a (.c (.val (.int .i64 y.2.1))))]) (fun y : Nat × Int × (List OpT) => [(4, .row 55 gOp y.2.2 none)]) (fun y : Nat × Int × (List OpT) => m_roundsPlan_L25 r1 y.1 y.2.1 y.2.2 = some o24) (fun y : Nat × Int × (List OpT) => y.1) (FUEL, (0 : Int), o6.1) h ?_
     rintro ⟨n, v25_0, v25_1⟩ h
     replace h : m_roundsPlan_L25 r1 n v25_0 v25_1 = some o24 := h
     rcases n with _ | n
     · cases (show (none : Option _) = some _ from h)
     rw [m_roundsPlan_L25] at h
     try dsimp only
     refine ax_seq ?_
     refine ax_seq ?_
     refine ax_region ?_
     refine al_run tt_ok rfl rfl ?_
     refine ax_cond rfl rfl (fun hc => ?_) (fun hc => ?_)
     ·
      replace h := cond_t hc h
      refine ax_skip ?_
      refine ax_seq ?_
      refine ax_block ?_
      obtain ⟨hG27, h⟩ := gd_some h
      simp only [Bool.and_eq_true] at hG27
      obtain ⟨hG27_0, hG27_1⟩ := hG27
      refine ax_region ?_
      refine al_run tt_ok rfl (by first | (simp only [hG27_0, hG27_1, ob, decide_true, cond_true, cond_false]; done) | (simp_all; done) | (simp only [hG27_0, hG27_1, ob, decide_true, cond_true, cond_false]; rfl)) ?_
      obtain ⟨hG26, h⟩ := gd_some h
      refine ax_region ?_
      refine al_run tt_ok rfl (by first | (simp only [hG26, ob, decide_true, cond_true, cond_false]; done) | (simp_all; done) | (simp only [hG26, ob, decide_true, cond_true, cond_false]; rfl)) ?_
      refine ⟨(n, _, _), h, Nat.lt_succ_self _, (Wk.sub (SubL.cons rfl (SubL.cons rfl (SubL.cons rfl (SubL.cons rfl (SubL.cons rfl (SubL.cons rfl SubL.nil)))))) (SubH.cons rfl rfl (SubH.cons rfl rfl (SubH.cons rfl rfl (SubH.cons rfl rfl (SubH.cons rfl rfl SubH.nil))))))⟩
     ·
      replace h := cond_f hc h
      refine ax_exit ?_
      exact ⟨_, (Option.some.inj h).symm, (Wk.sub (SubL.cons rfl (SubL.cons rfl (SubL.cons rfl (SubL.cons rfl (SubL.cons rfl SubL.nil))))) (SubH.cons rfl rfl (SubH.cons rfl rfl (SubH.cons rfl rfl (SubH.cons rfl rfl (SubH.cons rfl rfl SubH.nil))))))⟩
    ·
     rintro _ rfl
     have h := hk24
     refine ax_seq ?_
     obtain ⟨hG49, h⟩ := gd_some h
     simp only [Bool.and_eq_true] at hG49
     obtain ⟨hG49_0, hG49_1⟩ := hG49
     obtain ⟨r28, hr28, h⟩ := bd h
     refine ax_region ?_
     refine al_upto tt_ok rfl (by first | (simp only [hG49_0, hG49_1, ob, decide_true, cond_true, cond_false]; done) | (simp_all; done) | (simp only [hG49_0, hG49_1, ob, decide_true, cond_true, cond_false]; rfl)) ?_
     refine al_weak (Wk.frz (id := 6) rfl) ?_
     refine al_callP (w_bindoff _ _ none r28 hr28) rfl ⟨rfl, rfl⟩ rfl Tryd.func21 rfl rfl rfl (by first | (simp only [hG49_0, hG49_1, ob, decide_true, cond_true, cond_false]; done) | (simp_all; done) | (simp only [hG49_0, hG49_1, ob, decide_true, cond_true, cond_false]; rfl)) rfl rfl ?_
     refine al_run tt_ok rfl (by first | (simp only [hG49_0, hG49_1, ob, decide_true, cond_true, cond_false]; done) | (simp_all; done) | (simp only [hG49_0, hG49_1, ob, decide_true, cond_true, cond_false]; rfl)) ?_
     refine ax_seq ?_
     obtain ⟨hG48, h⟩ := gd_some h
     refine ax_region ?_
     refine al_run tt_ok rfl (by first | (simp only [hG48, ob, decide_true, cond_true, cond_false]; done) | (simp_all; done) | (simp only [hG48, ob, decide_true, cond_true, cond_false]; rfl)) ?_
     refine ax_seq ?_
     refine ax_seq ?_
     refine ax_region ?_
     refine al_run tt_ok rfl rfl ?_
     obtain ⟨o29, ho29, hk29⟩ := bd h
     refine ax_cutS (fun o29 : (List OpT) => ⟨[(3, .a (.c (.ptr 3 0))), (4, .a (.c (.sl 4))), (5, .a (.c (.sl 5))), (15, .a (.c (.val (.int .i64 r28.2))))], [(3, .cells 63 [.val (.int .i64 r1.1), .lst (.int .u8) r1.2 none]), (4, .row 55 gOp o29 none), (5, .row 3 (.int .i64) (o6.2.1 ++ [(o6.1.length : Int)]) none)]⟩) (fun o' => o29 = o') ?_ ?_
     ·
      have h := ho29
      refine ax_block ?_
      refine ax_weak (st' := ⟨[(16, _), (3, _), (4, _), (5, _), (7, _), (15, _)], [(4, _), (3, _), (5, _), (7, _)]⟩) (Wk.sub (SubL.cons rfl (SubL.cons rfl (SubL.cons rfl (SubL.cons rfl (SubL.cons rfl (SubL.cons rfl SubL.nil)))))) (SubH.cons rfl rfl (SubH.cons rfl rfl (SubH.cons rfl rfl (SubH.cons rfl rfl SubH.nil))))) ?_
      refine ax_loopL (fun y : Nat × Int × (List OpT) => [(16, .a (.c (.val (.int .u8 y.2.1))))]) (fun y : Nat × Int × (List OpT) => [(4, .row 55 gOp y.2.2 none)]) (fun y : Nat × Int × (List OpT) => m_roundsPlan_L30 o6 y.1 y.2.1 y.2.2 = some o29) (fun y : Nat × Int × (List OpT) => y.1) (FUEL, (1 : Int), (o24 ++ r28.1)) h ?_
      rintro ⟨n, v30_0, v30_1⟩ h
      replace h : m_roundsPlan_L30 o6 n v30_0 v30_1 = some o29 := h
      rcases n with _ | n
      · cases (show (none : Option _) = some _ from h)
      rw [m_roundsPlan_L30] at h
      try dsimp only
      refine ax_seq ?_
      refine ax_seq ?_
      refine ax_region ?_
      refine al_run tt_ok rfl rfl ?_
      refine ax_cond rfl rfl (fun hc => ?_) (fun hc => ?_)
      ·
       replace h := cond_t hc h
       refine ax_skip ?_
       refine ax_seq ?_
       refine ax_block ?_
       refine ax_seq ?_
       obtain ⟨hG32, h⟩ := gd_some h
       simp only [Bool.and_eq_true] at hG32
       obtain ⟨hG32_0, hG32_1⟩ := hG32
       refine ax_region ?_
       refine al_run tt_ok rfl (by first | (simp only [hG32_0, hG32_1, ob, decide_true, cond_true, cond_false]; done) | (simp_all; done) | (simp only [hG32_0, hG32_1, ob, decide_true, cond_true, cond_false]; rfl)) ?_
       refine ax_cond rfl rfl (fun hc => ?_) (fun hc => ?_)
       ·
        replace h := cond_t hc h
        obtain ⟨hG31, h⟩ := gd_some h
        refine ax_region ?_
        refine al_run tt_ok rfl (by first | (simp only [hG31, ob, decide_true, cond_true, cond_false]; done) | (simp_all; done) | (simp only [hG31, ob, decide_true, cond_true, cond_false]; rfl)) ?_
        refine ax_region ?_
        refine al_run tt_ok rfl rfl ?_
        refine ⟨(n, _, _), h, Nat.lt_succ_self _, (Wk.sub (SubL.cons rfl (SubL.cons rfl (SubL.cons rfl (SubL.cons rfl (SubL.cons rfl (SubL.cons rfl SubL.nil)))))) (SubH.cons rfl rfl (SubH.cons rfl rfl (SubH.cons rfl rfl (SubH.cons rfl rfl SubH.nil)))))⟩
       ·
        replace h := cond_f hc h
        refine ax_skip ?_
        refine ax_region ?_
        refine al_run tt_ok rfl rfl ?_
        refine ⟨(n, _, _), h, Nat.lt_succ_self _, (Wk.sub (SubL.cons rfl (SubL.cons rfl (SubL.cons rfl (SubL.cons rfl (SubL.cons rfl (SubL.cons rfl SubL.nil)))))) (SubH.cons rfl rfl (SubH.cons rfl rfl (SubH.cons rfl rfl (SubH.cons rfl rfl SubH.nil)))))⟩
      ·
       replace h := cond_f hc h
       refine ax_exit ?_
       exact ⟨_, (Option.some.inj h).symm, (Wk.sub (SubL.cons rfl (SubL.cons rfl (SubL.cons rfl (SubL.cons rfl SubL.nil)))) (SubH.cons rfl rfl (SubH.cons rfl rfl (SubH.cons rfl rfl SubH.nil))))⟩
     ·
      rintro _ rfl
      have h := hk29
      refine ax_seq ?_
      obtain ⟨r33, hr33, h⟩ := bd h
      refine ax_region ?_
      refine al_upto tt_ok rfl rfl ?_
      refine al_callP (w_rcompile _ none r33 hr33) rfl ⟨rfl, rfl⟩ rfl Tryd.func27 rfl rfl rfl rfl rfl rfl ?_
      refine al_run tt_ok rfl rfl ?_
      refine ax_seq ?_
      obtain ⟨r34, hr34, h⟩ := bd h
      refine ax_region ?_
      refine al_upto tt_ok rfl rfl ?_
      refine al_callP (w_rrounds _ none r34 hr34) rfl ⟨rfl, rfl⟩ rfl Tryd.func28 rfl rfl rfl rfl rfl rfl ?_
      refine al_run tt_ok rfl rfl ?_
      refine ax_seq ?_
      obtain ⟨r35, hr35, h⟩ := bd h
      obtain ⟨r36, hr36, h⟩ := bd h
      obtain ⟨r37, hr37, h⟩ := bd h
      obtain ⟨hG39, h⟩ := gd_some h
      obtain ⟨r38, hr38, h⟩ := bd h
      refine ax_region ?_
      refine al_upto tt_ok rfl (by first | (revert hG39; generalize (decide (((r34.2.1.getD 0 : Nat) : Int) = (r34.1.length : Int))) = b0; generalize (decide (r34.2.2 = (0 : Int))) = b1; generalize (decide (r28.2 = (0 : Int))) = b2; generalize (decide (r33.2 = (0 : Int))) = b3; generalize (r34.2.1.isSome) = b4; generalize (r35 == r36) = b5; generalize r37 = b6; cases b0 <;> cases b1 <;> cases b2 <;> cases b3 <;> cases b4 <;> cases b5 <;> cases b6 <;> decide) | (simp only [hG39, ob, decide_true, cond_true, cond_false]; done) | (simp_all; done) | (simp only [hG39, ob, decide_true, cond_true, cond_false]; rfl)) ?_
      refine al_guard (.c (.str r35)) rfl rfl rfl rfl rfl (fun hq40 => ?_) (fun hq40 => ?_)
      ·
       replace hr35 := cond_t hq40 hr35
       try simp only [ob2, cond_true, cond_false] at hq40
       all_goals
        refine al_callP (w_text32 _ (some r33.1.length) r35 hr35) rfl ⟨rfl, rfl⟩ rfl Tryd.func29 rfl rfl rfl (by first | (simp only [hG39, hq40, ob, decide_true, cond_true, cond_false]; done) | (revert hG39 hq40; generalize (decide (((r34.2.1.getD 0 : Nat) : Int) = (r34.1.length : Int))) = b0; generalize (decide (r34.2.2 = (0 : Int))) = b1; generalize (decide (r28.2 = (0 : Int))) = b2; generalize (decide (r33.2 = (0 : Int))) = b3; generalize (r34.2.1.isSome) = b4; generalize (r35 == r36) = b5; generalize r37 = b6; cases b0 <;> cases b1 <;> cases b2 <;> cases b3 <;> cases b4 <;> cases b5 <;> cases b6 <;> decide) | (simp_all; done) | (simp only [hG39, hq40, ob, decide_true, cond_true, cond_false]; rfl)) rfl rfl ?_
        refine al_upto tt_ok rfl (by first | (simp only [hG39, hq40, ob, decide_true, cond_true, cond_false]; done) | (revert hG39 hq40; generalize (decide (((r34.2.1.getD 0 : Nat) : Int) = (r34.1.length : Int))) = b0; generalize (decide (r34.2.2 = (0 : Int))) = b1; generalize (decide (r28.2 = (0 : Int))) = b2; generalize (decide (r33.2 = (0 : Int))) = b3; generalize (r34.2.1.isSome) = b4; generalize (r35 == r36) = b5; generalize r37 = b6; cases b0 <;> cases b1 <;> cases b2 <;> cases b3 <;> cases b4 <;> cases b5 <;> cases b6 <;> decide) | (simp_all; done) | (simp only [hG39, hq40, ob, decide_true, cond_true, cond_false]; rfl)) ?_
        refine al_weak (Wk.frz (id := 4) rfl) ?_
        refine al_guard (.c (.str r36)) rfl rfl rfl rfl rfl (fun hq41 => ?_) (fun hq41 => ?_)
        ·
         replace hr36 := cond_t hq41 hr36
         try simp only [hq40, ob2, cond_true, cond_false] at hq41
         all_goals
          refine al_callP (w_text32 _ none r36 hr36) rfl ⟨rfl, rfl⟩ rfl Tryd.func29 rfl rfl rfl (by first | (simp only [hG39, hq40, hq41, ob, decide_true, cond_true, cond_false]; done) | (revert hG39 hq40 hq41; generalize (decide (((r34.2.1.getD 0 : Nat) : Int) = (r34.1.length : Int))) = b0; generalize (decide (r34.2.2 = (0 : Int))) = b1; generalize (decide (r28.2 = (0 : Int))) = b2; generalize (decide (r33.2 = (0 : Int))) = b3; generalize (r34.2.1.isSome) = b4; generalize (r35 == r36) = b5; generalize r37 = b6; cases b0 <;> cases b1 <;> cases b2 <;> cases b3 <;> cases b4 <;> cases b5 <;> cases b6 <;> decide) | (simp_all; done) | (simp only [hG39, hq40, hq41, ob, decide_true, cond_true, cond_false]; rfl)) rfl rfl ?_
          refine al_upto tt_ok rfl (by first | (simp only [hG39, hq40, hq41, ob, decide_true, cond_true, cond_false]; done) | (revert hG39 hq40 hq41; generalize (decide (((r34.2.1.getD 0 : Nat) : Int) = (r34.1.length : Int))) = b0; generalize (decide (r34.2.2 = (0 : Int))) = b1; generalize (decide (r28.2 = (0 : Int))) = b2; generalize (decide (r33.2 = (0 : Int))) = b3; generalize (r34.2.1.isSome) = b4; generalize (r35 == r36) = b5; generalize r37 = b6; cases b0 <;> cases b1 <;> cases b2 <;> cases b3 <;> cases b4 <;> cases b5 <;> cases b6 <;> decide) | (simp_all; done) | (simp only [hG39, hq40, hq41, ob, decide_true, cond_true, cond_false]; rfl)) ?_
          refine al_weak (Wk.frz (id := 5) rfl) ?_
          refine al_guard (.c (.val (.bool r37))) rfl rfl rfl rfl rfl (fun hq42 => ?_) (fun hq42 => ?_)
          ·
           replace hr37 := cond_t hq42 hr37
           try simp only [hq40, hq41, ob2, cond_true, cond_false] at hq42
           all_goals
            refine al_callP (w_numbers32 _ _ r34.2.1 none r37 hr37) rfl ⟨rfl, rfl⟩ rfl Tryd.func30 rfl rfl rfl (by first | (simp only [hG39, hq40, hq41, hq42, ob, decide_true, cond_true, cond_false]; done) | (revert hG39 hq40 hq41 hq42; generalize (decide (((r34.2.1.getD 0 : Nat) : Int) = (r34.1.length : Int))) = b0; generalize (decide (r34.2.2 = (0 : Int))) = b1; generalize (decide (r28.2 = (0 : Int))) = b2; generalize (decide (r33.2 = (0 : Int))) = b3; generalize (r34.2.1.isSome) = b4; generalize (r35 == r36) = b5; generalize r37 = b6; cases b0 <;> cases b1 <;> cases b2 <;> cases b3 <;> cases b4 <;> cases b5 <;> cases b6 <;> decide) | (simp_all; done) | (simp only [hG39, hq40, hq41, hq42, ob, decide_true, cond_true, cond_false]; rfl)) rfl rfl ?_
            refine al_upto tt_ok rfl (by first | (simp only [hG39, hq40, hq41, hq42, ob, decide_true, cond_true, cond_false]; done) | (revert hG39 hq40 hq41 hq42; generalize (decide (((r34.2.1.getD 0 : Nat) : Int) = (r34.1.length : Int))) = b0; generalize (decide (r34.2.2 = (0 : Int))) = b1; generalize (decide (r28.2 = (0 : Int))) = b2; generalize (decide (r33.2 = (0 : Int))) = b3; generalize (r34.2.1.isSome) = b4; generalize (r35 == r36) = b5; generalize r37 = b6; cases b0 <;> cases b1 <;> cases b2 <;> cases b3 <;> cases b4 <;> cases b5 <;> cases b6 <;> decide) | (simp_all; done) | (simp only [hG39, hq40, hq41, hq42, ob, decide_true, cond_true, cond_false]; rfl)) ?_
            refine al_guard (.c (.val (.bool r38))) rfl rfl rfl rfl rfl (fun hq43 => ?_) (fun hq43 => ?_)
            ·
             replace hr38 := cond_t hq43 hr38
             try simp only [hq40, hq41, hq42, ob2, cond_true, cond_false] at hq43
             all_goals
              refine al_callP (w_lives32   r38 hr38) rfl ⟨rfl, rfl⟩ rfl Tryd.func31 rfl rfl rfl (by first | (simp only [hG39, hq40, hq41, hq42, hq43, ob, decide_true, cond_true, cond_false]; done) | (revert hG39 hq40 hq41 hq42 hq43; generalize (decide (((r34.2.1.getD 0 : Nat) : Int) = (r34.1.length : Int))) = b0; generalize (decide (r34.2.2 = (0 : Int))) = b1; generalize (decide (r28.2 = (0 : Int))) = b2; generalize (decide (r33.2 = (0 : Int))) = b3; generalize (r34.2.1.isSome) = b4; generalize (r35 == r36) = b5; generalize r37 = b6; cases b0 <;> cases b1 <;> cases b2 <;> cases b3 <;> cases b4 <;> cases b5 <;> cases b6 <;> decide) | (simp_all; done) | (simp only [hG39, hq40, hq41, hq42, hq43, ob, decide_true, cond_true, cond_false]; rfl)) rfl rfl ?_
              refine al_run tt_ok rfl (by first | (simp only [hG39, hq40, hq41, hq42, hq43, ob, decide_true, cond_true, cond_false]; done) | (revert hG39 hq40 hq41 hq42 hq43; generalize (decide (((r34.2.1.getD 0 : Nat) : Int) = (r34.1.length : Int))) = b0; generalize (decide (r34.2.2 = (0 : Int))) = b1; generalize (decide (r28.2 = (0 : Int))) = b2; generalize (decide (r33.2 = (0 : Int))) = b3; generalize (r34.2.1.isSome) = b4; generalize (r35 == r36) = b5; generalize r37 = b6; cases b0 <;> cases b1 <;> cases b2 <;> cases b3 <;> cases b4 <;> cases b5 <;> cases b6 <;> decide) | (simp_all; done) | (simp only [hG39, hq40, hq41, hq42, hq43, ob, decide_true, cond_true, cond_false]; rfl)) ?_
              refine ax_ret ?_
              obtain rfl := Option.some.inj h
              refine ⟨_, (Wk.sub (st' := ⟨[(2, _)], []⟩) (SubL.cons rfl SubL.nil) SubH.nil), _, _, rfl, rfl, ?_⟩
              exact ⟨rfl, rfl⟩
            ·
             try simp only [hq40, hq41, hq42, ob2, cond_true, cond_false] at hq43
             all_goals
              refine al_run tt_ok rfl (by first | (simp only [hG39, hq40, hq41, hq42, hq43, ob, decide_true, cond_true, cond_false]; done) | (revert hG39 hq40 hq41 hq42 hq43; generalize (decide (((r34.2.1.getD 0 : Nat) : Int) = (r34.1.length : Int))) = b0; generalize (decide (r34.2.2 = (0 : Int))) = b1; generalize (decide (r28.2 = (0 : Int))) = b2; generalize (decide (r33.2 = (0 : Int))) = b3; generalize (r34.2.1.isSome) = b4; generalize (r35 == r36) = b5; generalize r37 = b6; cases b0 <;> cases b1 <;> cases b2 <;> cases b3 <;> cases b4 <;> cases b5 <;> cases b6 <;> decide) | (simp_all; done) | (simp only [hG39, hq40, hq41, hq42, hq43, ob, decide_true, cond_true, cond_false]; rfl)) ?_
              refine ax_ret ?_
              obtain rfl := Option.some.inj h
              refine ⟨_, (Wk.sub (st' := ⟨[(2, _)], []⟩) (SubL.cons rfl SubL.nil) SubH.nil), _, _, rfl, rfl, ?_⟩
              exact ⟨rfl, rfl⟩
          ·
           try simp only [hq40, hq41, ob2, cond_true, cond_false] at hq42
           all_goals
            refine al_upto tt_ok rfl (by first | (simp only [hG39, hq40, hq41, hq42, ob, decide_true, cond_true, cond_false]; done) | (revert hG39 hq40 hq41 hq42; generalize (decide (((r34.2.1.getD 0 : Nat) : Int) = (r34.1.length : Int))) = b0; generalize (decide (r34.2.2 = (0 : Int))) = b1; generalize (decide (r28.2 = (0 : Int))) = b2; generalize (decide (r33.2 = (0 : Int))) = b3; generalize (r34.2.1.isSome) = b4; generalize (r35 == r36) = b5; generalize r37 = b6; cases b0 <;> cases b1 <;> cases b2 <;> cases b3 <;> cases b4 <;> cases b5 <;> cases b6 <;> decide) | (simp_all; done) | (simp only [hG39, hq40, hq41, hq42, ob, decide_true, cond_true, cond_false]; rfl)) ?_
            refine al_guard (.c (.val (.bool r38))) rfl rfl rfl rfl rfl (fun hq44 => ?_) (fun hq44 => ?_)
            ·
             exfalso; simp only [hq40, hq41, hq42, ob2, cond_true, cond_false] at hq44
            ·
             try simp only [hq40, hq41, hq42, ob2, cond_true, cond_false] at hq44
             all_goals
              refine al_run tt_ok rfl (by first | (simp only [hG39, hq40, hq41, hq42, hq44, ob, decide_true, cond_true, cond_false]; done) | (revert hG39 hq40 hq41 hq42 hq44; generalize (decide (((r34.2.1.getD 0 : Nat) : Int) = (r34.1.length : Int))) = b0; generalize (decide (r34.2.2 = (0 : Int))) = b1; generalize (decide (r28.2 = (0 : Int))) = b2; generalize (decide (r33.2 = (0 : Int))) = b3; generalize (r34.2.1.isSome) = b4; generalize (r35 == r36) = b5; generalize r37 = b6; cases b0 <;> cases b1 <;> cases b2 <;> cases b3 <;> cases b4 <;> cases b5 <;> cases b6 <;> decide) | (simp_all; done) | (simp only [hG39, hq40, hq41, hq42, hq44, ob, decide_true, cond_true, cond_false]; rfl)) ?_
              refine ax_ret ?_
              obtain rfl := Option.some.inj h
              refine ⟨_, (Wk.sub (st' := ⟨[(2, _)], []⟩) (SubL.cons rfl SubL.nil) SubH.nil), _, _, rfl, rfl, ?_⟩
              exact ⟨rfl, rfl⟩
        ·
         exfalso; simp only [hq40, ob2, cond_true, cond_false] at hq41
      ·
       try simp only [ob2, cond_true, cond_false] at hq40
       all_goals
        refine al_upto tt_ok rfl (by first | (simp only [hG39, hq40, ob, decide_true, cond_true, cond_false]; done) | (revert hG39 hq40; generalize (decide (((r34.2.1.getD 0 : Nat) : Int) = (r34.1.length : Int))) = b0; generalize (decide (r34.2.2 = (0 : Int))) = b1; generalize (decide (r28.2 = (0 : Int))) = b2; generalize (decide (r33.2 = (0 : Int))) = b3; generalize (r34.2.1.isSome) = b4; generalize (r35 == r36) = b5; generalize r37 = b6; cases b0 <;> cases b1 <;> cases b2 <;> cases b3 <;> cases b4 <;> cases b5 <;> cases b6 <;> decide) | (simp_all; done) | (simp only [hG39, hq40, ob, decide_true, cond_true, cond_false]; rfl)) ?_
        refine al_weak (Wk.frz (id := 4) rfl) ?_
        refine al_guard (.c (.str r36)) rfl rfl rfl rfl rfl (fun hq45 => ?_) (fun hq45 => ?_)
        ·
         exfalso; simp only [hq40, ob2, cond_true, cond_false] at hq45
        ·
         try simp only [hq40, ob2, cond_true, cond_false] at hq45
         all_goals
          refine al_upto tt_ok rfl (by first | (simp only [hG39, hq40, hq45, ob, decide_true, cond_true, cond_false]; done) | (revert hG39 hq40 hq45; generalize (decide (((r34.2.1.getD 0 : Nat) : Int) = (r34.1.length : Int))) = b0; generalize (decide (r34.2.2 = (0 : Int))) = b1; generalize (decide (r28.2 = (0 : Int))) = b2; generalize (decide (r33.2 = (0 : Int))) = b3; generalize (r34.2.1.isSome) = b4; generalize (r35 == r36) = b5; generalize r37 = b6; cases b0 <;> cases b1 <;> cases b2 <;> cases b3 <;> cases b4 <;> cases b5 <;> cases b6 <;> decide) | (simp_all; done) | (simp only [hG39, hq40, hq45, ob, decide_true, cond_true, cond_false]; rfl)) ?_
          refine al_weak (Wk.frz (id := 5) rfl) ?_
          refine al_guard (.c (.val (.bool r37))) rfl rfl rfl rfl rfl (fun hq46 => ?_) (fun hq46 => ?_)
          ·
           exfalso; simp only [hq40, hq45, ob2, cond_true, cond_false] at hq46
          ·
           try simp only [hq40, hq45, ob2, cond_true, cond_false] at hq46
           all_goals
            refine al_upto tt_ok rfl (by first | (simp only [hG39, hq40, hq45, hq46, ob, decide_true, cond_true, cond_false]; done) | (revert hG39 hq40 hq45 hq46; generalize (decide (((r34.2.1.getD 0 : Nat) : Int) = (r34.1.length : Int))) = b0; generalize (decide (r34.2.2 = (0 : Int))) = b1; generalize (decide (r28.2 = (0 : Int))) = b2; generalize (decide (r33.2 = (0 : Int))) = b3; generalize (r34.2.1.isSome) = b4; generalize (r35 == r36) = b5; generalize r37 = b6; cases b0 <;> cases b1 <;> cases b2 <;> cases b3 <;> cases b4 <;> cases b5 <;> cases b6 <;> decide) | (simp_all; done) | (simp only [hG39, hq40, hq45, hq46, ob, decide_true, cond_true, cond_false]; rfl)) ?_
            refine al_guard (.c (.val (.bool r38))) rfl rfl rfl rfl rfl (fun hq47 => ?_) (fun hq47 => ?_)
            ·
             exfalso; simp only [hq40, hq45, hq46, ob2, cond_true, cond_false] at hq47
            ·
             try simp only [hq40, hq45, hq46, ob2, cond_true, cond_false] at hq47
             all_goals
              refine al_run tt_ok rfl (by first | (simp only [hG39, hq40, hq45, hq46, hq47, ob, decide_true, cond_true, cond_false]; done) | (revert hG39 hq40 hq45 hq46 hq47; generalize (decide (((r34.2.1.getD 0 : Nat) : Int) = (r34.1.length : Int))) = b0; generalize (decide (r34.2.2 = (0 : Int))) = b1; generalize (decide (r28.2 = (0 : Int))) = b2; generalize (decide (r33.2 = (0 : Int))) = b3; generalize (r34.2.1.isSome) = b4; generalize (r35 == r36) = b5; generalize r37 = b6; cases b0 <;> cases b1 <;> cases b2 <;> cases b3 <;> cases b4 <;> cases b5 <;> cases b6 <;> decide) | (simp_all; done) | (simp only [hG39, hq40, hq45, hq46, hq47, ob, decide_true, cond_true, cond_false]; rfl)) ?_
              refine ax_ret ?_
              obtain rfl := Option.some.inj h
              refine ⟨_, (Wk.sub (st' := ⟨[(2, _)], []⟩) (SubL.cons rfl SubL.nil) SubH.nil), _, _, rfl, rfl, ?_⟩
              exact ⟨rfl, rfl⟩
end Go.Proofs.YtcjpcmofajcadaaDoor

/- The texts of programs. -/
namespace Go.Proofs.YtcjpcmofajcadaaDoor
open Go.RowKit
/-- The text of the first operations. -/
def tx (l : List OpT) : Nat → List UInt8
  | 0 => []
  | i + 1 => (if 0 < i then tx l i ++ [59, 32] else tx l i) ++ textT (l.getD i (gOp.zero))
def textL (l : List OpT) : List UInt8 := tx l l.length
theorem tx_len (l : List OpT) : ∀ i, (tx l i).length ≤ 42 * i
  | 0 => by simp [tx]
  | i + 1 => by
    have h1 := tx_len l i
    have h2 := textT_len (l.getD i gOp.zero)
    unfold tx
    split <;> simp only [List.length_append, List.length_cons, List.length_nil] <;> omega
end Go.Proofs.YtcjpcmofajcadaaDoor

/- Plain facts: operations that have texts. -/
namespace Go.Proofs.YtcjpcmofajcadaaDoor
open Go.RowKit
def AllN (o : List OpT) : Prop := ∀ z ∈ o, OpN z
theorem AllN.append {a b : List OpT} (h : AllN a) (k : AllN b) : AllN (a ++ b) := fun z hz => (List.mem_append.1 hz).elim (h z) (k z)
theorem turn_N {o : List OpT} (h : AllN o) (a b : Int) : AllN (turnOps o a b) := by
  unfold turnOps
  split
  · exact h
  · exact h.append fun z hz => by
      simp only [List.mem_singleton] at hz
      subst hz
      exact ⟨by show (0 : Int) ≤ 3; omega, Int.le_refl 0, Int.le_refl 0, Int.le_refl 0⟩
theorem xfers_N (b r : Int) (hb : 0 ≤ b) (l : List Int) : AllN (xfers b r l) := fun z hz => by
  obtain ⟨k, _, rfl⟩ := List.mem_map.1 hz
  exact ⟨by show (0 : Int) ≤ 7; omega, Int.le_refl 0, hb, Int.le_refl 0⟩
theorem moveF_N : ∀ (f : Nat) (o : List OpT) (rk : Int) (l : List Int) (d : Int), AllN o → AllN (moveF f o rk l d).1
  | 0, _, _, _, _, h => h
  | f + 1, o, rk, l, d, h => by
    unfold moveF
    split
    · exact h
    · exact moveF_N f _ _ _ _ ((turn_N ((turn_N h _ _).append (xfers_N 0 0 (by omega) l)) _ _).append (xfers_N 1 _ (by omega) l))
theorem moveAll_N (o : List OpT) (rk : Int) (l : List Int) (d : Int) (h : AllN o) : AllN (moveAll o rk l d).1 := moveF_N _ o rk l d h
theorem st1_N (fr to : List Int) : ∀ i, AllN (st1 fr to i).1.1
  | 0 => fun z hz => by simp [st1] at hz
  | i + 1 => by
    unfold st1
    split
    · exact moveAll_N _ _ _ _ (st1_N fr to i)
    · exact st1_N fr to i
theorem fold_N (st : List OpT × Int → Int → List OpT × Int) (hst : ∀ p i, AllN p.1 → AllN (st p i).1) : ∀ (L : List Int) (p : List OpT × Int), AllN p.1 → AllN (L.foldl st p).1
  | [], _, h => h
  | x :: L, p, h => fold_N st hst L _ (hst p x h)
theorem plan_N (fr to : List Int) : AllN (planOf fr to) := by
  unfold planOf planAB
  refine turn_N (fold_N _ (fun p i h => ?_) _ _ (fold_N _ (fun p i h => ?_) _ _ (st1_N fr to _))) _ _
  · unfold stepDn; split
    · exact moveAll_N _ _ _ _ h
    · exact h
  · unfold stepUp; split
    · exact moveAll_N _ _ _ _ h
    · exact h
theorem optext_eq (o : OpT) (h : OpN o) : m_optext o = some (textT o) := by
  unfold m_optext
  rw [gd_t]
  obtain ⟨h1, h2, h3, h4⟩ := h
  simp [opNB, h1, h2, h3, h4]
theorem getD_N {l : List OpT} (h : AllN l) (k : Nat) (hk : k < l.length) : OpN (l.getD k gOp.zero) := h _ (by
  rw [List.getD_eq_getElem?_getD, List.getElem?_eq_getElem hk]
  exact List.getElem_mem hk)
theorem castOps_N (y : Int) (hy : 0 ≤ y) (l : List Int) : AllN (castOps y l) := fun z hz => by
  rcases List.mem_cons.1 hz with rfl | hz
  · exact ⟨by show (0 : Int) ≤ 1; omega, Int.le_refl 0, Int.le_refl 0, hy⟩
  · obtain ⟨k, _, rfl⟩ := List.mem_map.1 hz
    exact ⟨by show (0 : Int) ≤ 4; omega, by show (0 : Int) ≤ 1; omega, Int.le_refl 0, hy⟩
theorem castOp_N (kd k y : Int) (hk : 0 ≤ kd) (hy : 0 ≤ y) : AllN [castOp kd k y] := fun z hz => by
  simp only [List.mem_singleton] at hz
  subst hz
  exact ⟨hk, by show (0 : Int) ≤ 1; omega, Int.le_refl 0, hy⟩
theorem bindTo_N (y : Int) (hy : 0 ≤ y) (l : List Int) : ∀ k, AllN (bindTo y l k)
  | 0 => fun z hz => by simp [bindTo] at hz
  | k + 1 => by
    unfold bindTo
    refine AllN.append ?_ (castOp_N 4 _ y (by omega) hy)
    split
    · exact (bindTo_N y hy l k).append (plan_N _ _)
    · exact bindTo_N y hy l k
theorem bindPlan_N (y : Int) (hy : 0 ≤ y) (l : List Int) : AllN (bindPlan y l) := (bindTo_N y hy l _).append fun z hz => by
  simp only [List.mem_singleton] at hz
  subst hz
  exact ⟨by show (0 : Int) ≤ 8; omega, Int.le_refl 0, Int.le_refl 0, Int.le_refl 0⟩
end Go.Proofs.YtcjpcmofajcadaaDoor

/- RoundsPlan, plain. -/
namespace Go.Proofs.YtcjpcmofajcadaaDoor
open Go.RowKit
theorem text32_eq (l : List OpT) (hl : l.length ≤ 1000000) (hn : AllN l) : m_text32 l = some (textL l) := by
  have hF : l.length < FUEL := fuel_of hl
  have hL : m_text32_L2 l FUEL [] 0 = some (tx l l.length) := loopS (fun n i s => m_text32_L2 l n s i) l.length (fun k => tx l k) [] (tx l l.length) rfl hF (fun n k hk => by
    show m_text32_L2 l (n + 1) (tx l k) k = m_text32_L2 l n (tx l (k + 1)) (k + 1)
    have h1 := tx_len l k
    have h2 := textT_len (l.getD k gOp.zero)
    have h3 := optext_eq _ (getD_N hn k hk)
    rw [m_text32_L2, tx, Int.toNat_natCast, h3]
    by_cases h0 : 0 < k
    · rw [if_pos h0]
      simp (disch := ((try simp [inB, inI64, fitB, -List.getD_eq_getElem?_getD]); try omega; done)) only [gdt, cdt, cdf, Option.bind_some]
    · rw [if_neg h0]
      simp (disch := ((try simp [inB, inI64, fitB, -List.getD_eq_getElem?_getD]); try omega; done)) only [gdt, cdt, cdf, Option.bind_some]) (fun n => by
    show m_text32_L2 l (n + 1) (tx l l.length) l.length = _
    rw [m_text32_L2, cdf (by simp)])
  unfold m_text32
  rw [hL]
  rfl
theorem numbers32_self (l : List Int) (hl : l.length ≤ 1000000) : m_numbers32 l l = some true := by
  unfold m_numbers32
  have := loop0 (fun n i (s : Unit) => m_numbers32_L2 l l n i) l.length (fun _ => ()) (.inl ()) (fuel_of hl) (fun n k hk => by
    show m_numbers32_L2 l l (n + 1) k = m_numbers32_L2 l l n (k + 1)
    rw [m_numbers32_L2]
    simp (disch := ((try simp [inB, inI64, fitB, -List.getD_eq_getElem?_getD]); try omega; done)) only [gdt, cdt, cdf, Option.bind_some]) (fun n => by
    show m_numbers32_L2 l l (n + 1) l.length = _
    rw [m_numbers32_L2, cdf (by simp)])
  rw [this]
  simp [cond, sm]
/-! The tube of a law's U. -/
def uW (w : Int) : Int := 1 + Int.tmod w 8
def uT (l : List Int) (k : Nat) : List Int := (l.take k).map fun x => 1 + Int.tmod x 3
def uR (l : List Int) : List Int := if l.length = 0 then [1] else uT l 8
theorem uT_len (l : List Int) (k : Nat) (h : k ≤ l.length) : (uT l k).length = k := by simp [uT]; omega
theorem u_tmod {l : List Int} (hl : ∀ x ∈ l, 0 ≤ x) (k : Nat) (h : k < l.length) : 0 ≤ l.getD k 0 := hl _ (by
  rw [List.getD_eq_getElem?_getD, List.getElem?_eq_getElem h]
  exact List.getElem_mem h)
theorem uof_eq (w : Int) (l : List Int) (hw : 0 ≤ w) (hl : ∀ x ∈ l, 0 ≤ x) : m_uof (w, l) = some (uW w, uR l) := by
  have hm := tmod_small w 8 hw (by omega)
  have e8 : uT l (min l.length 8) = uT l 8 := by
    unfold uT
    congr 1
    by_cases h : l.length ≤ 8
    · rw [Nat.min_eq_left h, List.take_length, List.take_of_length_le h]
    · rw [Nat.min_eq_right (by omega)]
  have hL : m_uof_L4 (w, l) FUEL 0 [] = some (uT l 8) := loopS (fun n i s => m_uof_L4 (w, l) n i s) (min l.length 8) (fun k => uT l k) [] (uT l 8) rfl (fuel_of (Nat.le_trans (Nat.min_le_right _ _) (by decide))) (fun n k hk => by
    show m_uof_L4 (w, l) (n + 1) k (uT l k) = m_uof_L4 (w, l) n (k + 1) (uT l (k + 1))
    have hk1 : k < l.length := by omega
    have h3 := tmod_small (l.getD k 0) 3 (u_tmod hl k hk1) (by omega)
    have hlen := uT_len l k (by omega)
    have hwr : IntKind.wrap .u8 ((1 : Int) + Int.tmod (l.getD k 0) 3) = 1 + Int.tmod (l.getD k 0) 3 := IntWalk.u8_in _ (by omega)
    rw [m_uof_L4, Int.toNat_natCast, hwr]
    simp (disch := ((try simp [inB, inI64, fitB, -List.getD_eq_getElem?_getD]); try omega; done)) only [gdt, cdt, cdf, Option.bind_some]
    rw [uT, uT, take_s l 0 k hk1, List.map_append]
    rfl) (fun n => by
    show m_uof_L4 (w, l) (n + 1) ((min l.length 8 : Nat) : Int) (uT l (min l.length 8)) = _
    rw [m_uof_L4, cdf, e8]
    by_cases h : l.length ≤ 8
    · rw [Nat.min_eq_left h, cdf (by simp)]
    · rw [Nat.min_eq_right (by omega), cdt (by simp; omega)]
      rfl)
  unfold m_uof
  rw [hL]
  by_cases h0 : l.length = 0
  · have e : l = [] := List.eq_nil_of_length_eq_zero h0
    subst e
    simp (disch := ((try simp [inB, inI64, fitB, -List.getD_eq_getElem?_getD, uT]); try omega; done)) only [gdt, cdt, cdf, Option.bind_some]
    rfl
  · have h1 : (uT l 8).length = min 8 l.length := by simp [uT]
    simp (disch := ((try simp [inB, inI64, fitB, -List.getD_eq_getElem?_getD]); try omega; done)) only [gdt, cdt, cdf, Option.bind_some]
    rw [uR, if_neg h0, cdf (by simp only [decide_eq_false_iff_not]; omega)]
    rfl
theorem uR_facts (l : List Int) (hl : ∀ x ∈ l, 0 ≤ x) : 1 ≤ (uR l).length ∧ (uR l).length ≤ 8 ∧ ∀ y ∈ uR l, 1 ≤ y ∧ y ≤ 3 := by
  unfold uR
  split
  · refine ⟨by decide, by decide, fun y hy => ?_⟩
    simp only [List.mem_singleton] at hy
    omega
  · refine ⟨by simp [uT]; omega, by simp [uT]; omega, fun y hy => ?_⟩
    obtain ⟨x, hx, rfl⟩ := List.mem_map.1 hy
    have := tmod_small x 3 (hl x (List.mem_of_mem_take hx)) (by omega)
    omega
theorem u_err (w : Int) (l : List Int) (hw : 0 ≤ w) (hl : ∀ x ∈ l, 0 ≤ x) : tErr (uW w) (uR l) = 0 := by
  have hm := tmod_small w 8 hw (by omega)
  obtain ⟨h1, h2, h3⟩ := uR_facts l hl
  unfold tErr
  rw [if_neg (by unfold uW; omega), if_neg (by unfold uW; omega), if_pos]
  rw [yAll, List.all_eq_true]
  intro i hi
  have hi2 : i < (uR l).length := by simpa using hi
  have := h3 ((uR l).getD i 0) (by
    rw [List.getD_eq_getElem?_getD, List.getElem?_eq_getElem hi2]
    exact List.getElem_mem hi2)
  simp only [yAt, Bool.and_eq_true, decide_eq_true_eq]
  omega
/-! The parts that the law puts together. -/
theorem rp3 (w : Int) (rs : List Int) (hw : 1 ≤ w ∧ w ≤ 16) : m_roundsPlan_L3 (w, rs) FUEL 0 [] = some (atL w.toNat) :=
  loopS (fun n i s => m_roundsPlan_L3 (w, rs) n i s) w.toNat (fun k => atL k) [] _ rfl (fuel_of (Nat.le_trans (show w.toNat ≤ 16 by omega) (by decide))) (fun n k hk => by
    show m_roundsPlan_L3 (w, rs) (n + 1) k (atL k) = m_roundsPlan_L3 (w, rs) n (k + 1) (atL (k + 1))
    have hlen : (atL k).length = k := by simp [atL]
    rw [m_roundsPlan_L3]
    simp (disch := ((try simp [inB, inI64, fitB, -List.getD_eq_getElem?_getD]); try omega; done)) only [gdt, cdt, cdf, Option.bind_some]
    simp [atL, List.range_succ]) (fun n => by
    show m_roundsPlan_L3 (w, rs) (n + 1) w.toNat (atL w.toNat) = _
    rw [m_roundsPlan_L3, cdf (by simp; omega)])
theorem rp11 (w : Int) (rs : List Int) (v : Int) (ops : List OpT) (hw : 1 ≤ w ∧ w ≤ 16) (hl : ops.length ≤ 900000) : m_roundsPlan_L11 (w, rs) v FUEL 0 ops = some (ops ++ halfF (rs.getD v.toNat 0) w.toNat) :=
  loopS (fun n i s => m_roundsPlan_L11 (w, rs) v n i s) w.toNat (fun k => ops ++ halfF (rs.getD v.toNat 0) k) ops _ (by simp [halfF]) (fuel_of (Nat.le_trans (show w.toNat ≤ 16 by omega) (by decide))) (fun n k hk => by
    show m_roundsPlan_L11 (w, rs) v (n + 1) k (ops ++ halfF (rs.getD v.toNat 0) k) = m_roundsPlan_L11 (w, rs) v n (k + 1) (ops ++ halfF (rs.getD v.toNat 0) (k + 1))
    have hlen : (halfF (rs.getD v.toNat 0) k).length = k := by simp [halfF]
    rw [m_roundsPlan_L11]
    simp (disch := ((try simp [inB, inI64, fitB, -List.getD_eq_getElem?_getD]); try omega; done)) only [gdt, cdt, cdf, Option.bind_some]
    simp [halfF, List.range_succ]) (fun n => by
    show m_roundsPlan_L11 (w, rs) v (n + 1) w.toNat (ops ++ halfF (rs.getD v.toNat 0) w.toNat) = _
    rw [m_roundsPlan_L11, cdf (by simp; omega)])
theorem rp15 (w : Int) (rs : List Int) (v : Int) (ops : List OpT) (hw : 1 ≤ w ∧ w ≤ 16) (hl : ops.length ≤ 900000) : m_roundsPlan_L15 (w, rs) v FUEL (w - 1) ops = some (ops ++ halfB w (rs.getD v.toNat 0) w.toNat) := by
  have := loopS (fun n i s => m_roundsPlan_L15 (w, rs) v n (w - 1 - i) s) w.toNat (fun k => ops ++ halfB w (rs.getD v.toNat 0) k) ops (ops ++ halfB w (rs.getD v.toNat 0) w.toNat) (by simp [halfB]) (fuel_of (Nat.le_trans (show w.toNat ≤ 16 by omega) (by decide))) (fun n k hk => by
    show m_roundsPlan_L15 (w, rs) v (n + 1) (w - 1 - k) (ops ++ halfB w (rs.getD v.toNat 0) k) = m_roundsPlan_L15 (w, rs) v n (w - 1 - (k + 1)) (ops ++ halfB w (rs.getD v.toNat 0) (k + 1))
    have hlen : (halfB w (rs.getD v.toNat 0) k).length = k := by simp [halfB]
    rw [m_roundsPlan_L15]
    simp (disch := ((try simp [inB, inI64, fitB, -List.getD_eq_getElem?_getD]); try omega; done)) only [gdt, cdt, cdf, Option.bind_some]
    rw [show w - 1 - (k : Int) - 1 = w - 1 - ((k : Int) + 1) by omega]
    simp [halfB, List.range_succ]) (fun n => by
    show m_roundsPlan_L15 (w, rs) v (n + 1) (w - 1 - w.toNat) (ops ++ halfB w (rs.getD v.toNat 0) w.toNat) = _
    rw [m_roundsPlan_L15, cdf (by simp; omega)])
  rwa [Int.sub_zero] at this
theorem rp25 (w : Int) (rs : List Int) (ops : List OpT) (hw : 1 ≤ w ∧ w ≤ 16) (hl : ops.length ≤ 900000) : m_roundsPlan_L25 (w, rs) FUEL 0 ops = some (ops ++ xfB w.toNat) :=
  loopS (fun n i s => m_roundsPlan_L25 (w, rs) n i s) w.toNat (fun k => ops ++ xfB k) ops _ (by simp [xfB]) (fuel_of (Nat.le_trans (show w.toNat ≤ 16 by omega) (by decide))) (fun n k hk => by
    show m_roundsPlan_L25 (w, rs) (n + 1) k (ops ++ xfB k) = m_roundsPlan_L25 (w, rs) n (k + 1) (ops ++ xfB (k + 1))
    have hlen : (xfB k).length = k := by simp [xfB]
    rw [m_roundsPlan_L25]
    simp (disch := ((try simp [inB, inI64, fitB, -List.getD_eq_getElem?_getD]); try omega; done)) only [gdt, cdt, cdf, Option.bind_some]
    simp [xfB, List.range_succ]) (fun n => by
    show m_roundsPlan_L25 (w, rs) (n + 1) w.toNat (ops ++ xfB w.toNat) = _
    rw [m_roundsPlan_L25, cdf (by simp; omega)])
/-- Which yarns are in. -/
def inL (l : List Int) : List Bool := (List.range 7).map fun (i : Nat) => l.elem (i : Int)
theorem inL_get (l : List Int) (y : Int) (h : 0 ≤ y ∧ y < 7) : (inL l).getD y.toNat false = l.elem y := by
  obtain ⟨k, rfl⟩ : ∃ k : Nat, y = k := ⟨y.toNat, by omega⟩
  rw [Int.toNat_natCast, inL, List.getD_eq_getElem?_getD]
  simp [show k < 7 by omega]
theorem inL_set (l : List Int) (y : Int) (h : 0 ≤ y ∧ y < 7) : (inL l).set y.toNat true = inL (if l.elem y then l else l ++ [y]) := by
  obtain ⟨k, rfl⟩ : ∃ k : Nat, y = k := ⟨y.toNat, by omega⟩
  have e : ∀ i : Nat, (if l.elem (k : Int) then l else l ++ [(k : Int)]).elem (i : Int) = (l.elem (i : Int) || decide (i = k)) := fun i => by
    split
    · rename_i hk
      by_cases hik : i = k
      · subst hik; rw [hk]; rfl
      · simp [hik]
    · simp only [List.elem_eq_mem, List.mem_append, List.mem_singleton, Bool.decide_or]
      congr 1
      exact decide_eq_decide.2 (by omega)
  rw [Int.toNat_natCast]
  apply List.ext_getElem?
  intro i
  rw [List.getElem?_set]
  unfold inL
  simp only [e, List.getElem?_map, List.length_map, List.length_range]
  by_cases hik : k = i
  · subst hik
    simp [show k < 7 by omega]
  · rw [if_neg hik]
    by_cases h7 : i < 7
    · simp [h7, Ne.symm hik]
    · simp [h7]
theorem rp7 (w : Int) (rs : List Int) (hw : 1 ≤ w ∧ w ≤ 16) (hr : rs.length ≤ 31) (hy : ∀ i, i < rs.length → 1 ≤ rs.getD i 0 ∧ rs.getD i 0 ≤ 6) : m_roundsPlan_L7 (w, rs) FUEL 0 [] [] (List.replicate 7 false) = some (opsTo w rs rs.length, begTo w rs rs.length, inL (keysTo rs rs.length)) :=
  loopS (fun n i (s : List OpT × List Int × List Bool) => m_roundsPlan_L7 (w, rs) n i s.1 s.2.1 s.2.2) rs.length (fun k => (opsTo w rs k, begTo w rs k, inL (keysTo rs k))) ([], [], List.replicate 7 false) _ rfl (fuel_of (Nat.le_trans hr (by decide))) (fun n k hk => by
    show m_roundsPlan_L7 (w, rs) (n + 1) k (opsTo w rs k) (begTo w rs k) (inL (keysTo rs k)) = m_roundsPlan_L7 (w, rs) n (k + 1) (opsTo w rs (k + 1)) (begTo w rs (k + 1)) (inL (keysTo rs (k + 1)))
    have h1 := opsTo_len w rs hw k
    have h2 := begTo_len w rs k
    have hyk := hy k hk
    have hlt : Int.tmod (rs.getD k 0) 7 = rs.getD k 0 := Int.tmod_eq_of_lt (by omega) (by omega)
    have hin : (inL (keysTo rs k)).length = 7 := by simp [inL]
    have hg := inL_get (keysTo rs k) (rs.getD k 0) (by omega)
    have hst := inL_set (keysTo rs k) (rs.getD k 0) (by omega)
    rw [m_roundsPlan_L7, Int.toNat_natCast, hlt, hg, hst, opsTo, begTo, keysTo]
    cases he : (keysTo rs k).elem (rs.getD k 0)
    · have h7 := rp11 w rs k (opsTo w rs k ++ [((1 : Int), ((0 : Int), (((0 : Int), (0 : Int)), (rs.getD k 0, (0 : Int)))))]) hw (by simp; omega)
      have h11 := rp15 w rs k ((opsTo w rs k ++ [((1 : Int), ((0 : Int), (((0 : Int), (0 : Int)), (rs.getD k 0, (0 : Int)))))]) ++ halfF (rs.getD k 0) w.toNat) hw (by simp [halfF]; omega)
      rw [Int.toNat_natCast] at h7 h11
      simp only [Bool.false_eq_true, if_false]
      simp (disch := ((try simp [inB, inI64, fitB, -List.getD_eq_getElem?_getD]); try omega; done)) only [gdt, cdt, cdf, Option.bind_some, h7, h11]
    · have h7 := rp11 w rs k (opsTo w rs k) hw (by omega)
      have h11 := rp15 w rs k (opsTo w rs k ++ halfF (rs.getD k 0) w.toNat) hw (by simp [halfF]; omega)
      rw [Int.toNat_natCast] at h7 h11
      simp only [if_true, List.append_nil]
      simp (disch := ((try simp [inB, inI64, fitB, -List.getD_eq_getElem?_getD]); try omega; done)) only [gdt, cdt, cdf, Option.bind_some, h7, h11]) (fun n => by
    show m_roundsPlan_L7 (w, rs) (n + 1) rs.length (opsTo w rs rs.length) (begTo w rs rs.length) (inL (keysTo rs rs.length)) = _
    rw [m_roundsPlan_L7, cdf (by simp)])
theorem rp30s (o : List OpT × List Int × List Bool) (h7 : o.2.2.length = 7) (n : Nat) (y : Int) (hy : 1 ≤ y ∧ y ≤ 6) (ops : List OpT) (hl : ops.length ≤ 900000) : m_roundsPlan_L30 o (n + 1) y ops = m_roundsPlan_L30 o n (y + 1) (ops ++ if o.2.2.getD y.toNat false then [outOp y] else []) := by
  have hwr : IntKind.wrap .u8 (y + (1 : Int)) = y + 1 := IntWalk.u8_in _ (by omega)
  rw [m_roundsPlan_L30, hwr]
  cases hb : o.2.2.getD y.toNat false
  · simp (disch := ((try simp [inB, inI64, fitB, -List.getD_eq_getElem?_getD]); try omega; done)) only [gdt, cdt, cdf, Option.bind_some]
    simp
  · simp (disch := ((try simp [inB, inI64, fitB, -List.getD_eq_getElem?_getD]); try omega; done)) only [gdt, cdt, cdf, Option.bind_some]
    rfl
theorem rp30 (o : List OpT × List Int × List Bool) (l : List Int) (h : o.2.2 = inL l) (ops : List OpT) (hl : ops.length ≤ 800000) : m_roundsPlan_L30 o FUEL 1 ops = some (ops ++ (selN fun y => l.elem y).map outOp) := by
  obtain ⟨n, hn⟩ : ∃ n, FUEL = n + 7 := ⟨FUEL - 7, by have := fuel_of (n := 7) (by decide); omega⟩
  have h7 : o.2.2.length = 7 := by rw [h]; simp [inL]
  rw [hn]
  have hlen : ∀ (ops : List OpT) (b : Bool) (y : Int), (ops ++ if b then [outOp y] else []).length ≤ ops.length + 1 := fun ops b y => by cases b <;> simp
  have g : ∀ y : Int, 0 ≤ y ∧ y < 7 → o.2.2.getD y.toNat false = l.elem y := fun y hy => by rw [h, inL_get l y hy]
  have e : ∀ (n : Nat) (y : Int), 1 ≤ y ∧ y ≤ 6 → ∀ ops : List OpT, ops.length ≤ 900000 → m_roundsPlan_L30 o (n + 1) y ops = m_roundsPlan_L30 o n (y + 1) (ops ++ if l.elem y then [outOp y] else []) := fun n y hy ops hl => by rw [rp30s o h7 n y hy ops hl, g y (by omega)]
  have l1 := hlen ops (l.elem 1) 1
  have l2 := hlen (ops ++ if l.elem 1 then [outOp 1] else []) (l.elem 2) 2
  have l3 := hlen ((ops ++ if l.elem 1 then [outOp 1] else []) ++ if l.elem 2 then [outOp 2] else []) (l.elem 3) 3
  have l4 := hlen (((ops ++ if l.elem 1 then [outOp 1] else []) ++ if l.elem 2 then [outOp 2] else []) ++ if l.elem 3 then [outOp 3] else []) (l.elem 4) 4
  have l5 := hlen ((((ops ++ if l.elem 1 then [outOp 1] else []) ++ if l.elem 2 then [outOp 2] else []) ++ if l.elem 3 then [outOp 3] else []) ++ if l.elem 4 then [outOp 4] else []) (l.elem 5) 5
  rw [e _ 1 (by omega) _ (by omega), e _ (1 + 1) (by omega) _ (by exact Nat.le_trans l1 (by omega)), e _ (1 + 1 + 1) (by omega) _ (by exact Nat.le_trans l2 (by omega)), e _ (1 + 1 + 1 + 1) (by omega) _ (by exact Nat.le_trans l3 (by omega)), e _ (1 + 1 + 1 + 1 + 1) (by omega) _ (by exact Nat.le_trans l4 (by omega)), e _ (1 + 1 + 1 + 1 + 1 + 1) (by omega) _ (by exact Nat.le_trans l5 (by omega)), m_roundsPlan_L30, cdf (by decide)]
  show some ((((((ops ++ if l.elem 1 then [outOp 1] else []) ++ if l.elem 2 then [outOp 2] else []) ++ if l.elem 3 then [outOp 3] else []) ++ if l.elem 4 then [outOp 4] else []) ++ if l.elem 5 then [outOp 5] else []) ++ if l.elem 6 then [outOp 6] else []) = _
  unfold selN
  simp only [List.filter]
  cases l.elem 1 <;> cases l.elem 2 <;> cases l.elem 3 <;> cases l.elem 4 <;> cases l.elem 5 <;> cases l.elem 6 <;> simp
end Go.Proofs.YtcjpcmofajcadaaDoor

/- RoundsPlan, plain: the law. -/
namespace Go.Proofs.YtcjpcmofajcadaaDoor
open Go.RowKit
theorem N_map {α : Type} (f : α → OpT) (l : List α) (h : ∀ x ∈ l, OpN (f x)) : AllN (l.map f) := fun z hz => by
  obtain ⟨x, hx, rfl⟩ := List.mem_map.1 hz
  exact h x hx
theorem op_N (k d b i y r : Int) (hk : 0 ≤ k) (hd : 0 ≤ d) (hb : 0 ≤ b) (hy : 0 ≤ y) : OpN (k, d, (b, i), y, r) := ⟨hk, hd, hb, hy⟩
theorem opsTo_N (w : Int) (rs : List Int) (h : ∀ i, i < rs.length → 0 ≤ rs.getD i 0) : ∀ k, k ≤ rs.length → AllN (opsTo w rs k)
  | 0, _ => fun z hz => by simp [opsTo] at hz
  | k + 1, hk => by
    have hy := h k (by omega)
    unfold opsTo
    refine (((opsTo_N w rs h k (by omega)).append ?_).append (N_map _ _ fun x _ => op_N 4 1 0 _ _ 0 (by omega) (by omega) (by omega) hy)).append (N_map _ _ fun x _ => op_N 4 0 1 _ _ 0 (by omega) (by omega) (by omega) hy)
    split
    · intro z hz; simp at hz
    · intro z hz
      simp only [List.mem_singleton] at hz
      subst hz
      exact op_N 1 0 0 0 _ 0 (by omega) (by omega) (by omega) hy
theorem tube_N (w : Int) (rs : List Int) (h : ∀ i, i < rs.length → 0 ≤ rs.getD i 0) (h0 : 0 < rs.length) : AllN (tubeOps w rs) := by
  unfold tubeOps
  refine (((opsTo_N w rs h _ (Nat.le_refl _)).append (N_map _ _ fun x _ => op_N 7 0 1 _ 0 0 (by omega) (by omega) (by omega) (by omega))).append (bindPlan_N _ (h _ (by omega)) _)).append (N_map _ _ fun y hy => ?_)
  have : 0 ≤ y := by
    have := (List.mem_filter.1 hy).1
    simp only [List.mem_cons, List.not_mem_nil, or_false] at this
    omega
  exact op_N 2 0 0 0 y 0 (by omega) (by omega) (by omega) this
theorem tube_len (w : Int) (rs : List Int) (h : tErr w rs = 0) : (tubeOps w rs).length ≤ 200000 := by
  obtain ⟨hw, hr, hy⟩ := tErr_zero h
  have hol := opsTo_len w rs hw rs.length
  have hatl : (atL w.toNat).length = w.toNat := by simp [atL]
  have hb := bindTo_len (rs.getD (rs.length - 1) 0) (atL w.toNat) (atL_ok w.toNat (by omega)) (atL w.toNat).length (Nat.le_refl _)
  rw [hatl] at hb
  have hxl : (xfB w.toNat).length ≤ 16 := by simp [xfB]; omega
  have hsl := selN_len (fun y => (keysTo rs rs.length).elem y)
  simp only [tubeOps, bindPlan, List.length_append, List.length_singleton, hatl, List.length_map]
  omega
theorem roundsPlan_all (w : Int) (rs : List Int) (a0 : Int × List Int) (hu : m_uof a0 = some (w, rs)) (h : tErr w rs = 0) : m_roundsPlan a0 = some true := by
  obtain ⟨hw, hr, hy⟩ := tErr_zero h
  have hol := opsTo_len w rs hw rs.length
  have hbl := begTo_len w rs rs.length
  have hat := atL_ok w.toNat (by omega)
  have hatl : (atL w.toNat).length = w.toNat := by simp [atL]
  have e1 : ((rs.length : Int) - 1).toNat = rs.length - 1 := by omega
  have hyl := hy (rs.length - 1) (by omega)
  have hok : eOk (rs.getD (rs.length - 1) 0) (atL w.toNat) = true := by
    simp only [eOk, Bool.and_eq_true, decide_eq_true_eq]
    exact ⟨⟨hyl, hat⟩, by omega⟩
  have hbo := bindoff_eq (rs.getD (rs.length - 1) 0) (atL w.toNat) (by rw [hatl]; omega)
  rw [hok, if_neg (by simp)] at hbo
  have hbp : (bindPlan (rs.getD (rs.length - 1) 0) (atL w.toNat)).length ≤ 200000 := by
    have := bindTo_len (rs.getD (rs.length - 1) 0) (atL w.toNat) hat (atL w.toNat).length (Nat.le_refl _)
    rw [hatl] at this
    simp only [bindPlan, List.length_append, List.length_singleton, hatl]
    omega
  have hxl : (xfB w.toNat).length ≤ 16 := by simp [xfB]; omega
  have htl := tube_len w rs h
  have htx := text32_eq (tubeOps w rs) (by omega) (tube_N w rs (fun i hi => by have := hy i hi; omega) (by omega))
  have h30 := rp30 (opsTo w rs rs.length, begTo w rs rs.length, inL (keysTo rs rs.length)) (keysTo rs rs.length) rfl ((opsTo w rs rs.length ++ xfB w.toNat) ++ bindPlan (rs.getD (rs.length - 1) 0) (atL w.toNat)) (by simp only [List.length_append]; omega)
  have hnum := numbers32_self (begTo w rs rs.length ++ [((opsTo w rs rs.length).length : Int)]) (by simp; omega)
  have hc : m_rcompile (w, rs) = some (tubeOps w rs, 0) := by
    unfold m_rcompile
    rw [compile_ok w rs h]
    rfl
  have hd : m_rrounds (w, rs) = some (begTo w rs rs.length ++ [((opsTo w rs rs.length).length : Int)], some (rs.length + 1), 0) := by
    unfold m_rrounds
    rw [compile_ok w rs h]
    rfl
  unfold m_roundsPlan
  rw [hu, Option.bind_some, rp3 w rs hw, Option.bind_some, rp7 w rs hw hr.2 hy, Option.bind_some]
  dsimp only
  rw [gd_t (by simp only [fitB, List.length_append, List.length_singleton, Bool.and_eq_true, decide_eq_true_eq]; omega), rp25 w rs _ hw (by omega), Option.bind_some, e1, hbo]
  simp (disch := ((try simp [inB, inI64, fitB, -List.getD_eq_getElem?_getD]); try omega; done)) only [gdt, cdt, cdf, Option.bind_some, h30, hc, hd]
  rw [show (((opsTo w rs rs.length ++ xfB w.toNat) ++ bindPlan (rs.getD (rs.length - 1) 0) (atL w.toNat)) ++ (selN fun y => (keysTo rs rs.length).elem y).map outOp) = tubeOps w rs from rfl, htx]
  simp (disch := ((try simp [inB, inI64, fitB, -List.getD_eq_getElem?_getD]); try omega; done)) only [gdt, cdt, cdf, Option.bind_some, hnum, lives32_eq]
theorem roundsPlan_eq (w : Int) (l : List Int) (hw : 0 ≤ w) (hl : ∀ x ∈ l, 0 ≤ x) : m_roundsPlan (w, l) = some true := roundsPlan_all (uW w) (uR l) (w, l) (uof_eq w l hw hl) (u_err w l hw hl)
end Go.Proofs.YtcjpcmofajcadaaDoor

/- RoundsPlan: for every U of layer 21, whatever the memory and the order that Go leaves open, the law returns true, and its argument reads as before. The listed package-level variables start as the program's text lays them (the card ties them). -/
namespace Go.Proofs.YtcjpcmofajcadaaDoor
set_option linter.unusedSimpArgs false
set_option linter.unusedVariables false
open Go.ChangeShapes Go.WideShapes Go.ChangeAt Go.WideElems Go.RowKit Go.Joins
theorem u8min : IntKind.u8.min = 0 := rfl
theorem door_met_roundsPlan (os : Os) (args : Array Value) : laidMetH Tryd.prog Rows.roundsPlanRow.laid ((World.doorLaid Tryd.prog 400 os).forCall (fun _ _ => 0) ⟨#[], args, []⟩).memory :=
  laidMetH_of_parts3 (fuel := 8) (laidMet_of_run' 8 (by kernel_rfl) (by kernel_rfl)) (by kernel_rfl) (by kernel_rfl)
theorem read_roundsPlan : ∀ t ∈ Tryd.f8.params.toList, Tryd.prog.readableRec t = true ∧ t < Tryd.prog.types.size := by
  rw [Tryd.params8]
  intro t ht
  simp only [List.mem_cons, List.not_mem_nil, or_false] at ht
  rcases ht with rfl <;> exact ⟨by kernel_rfl, of_decide_eq_true (by kernel_rfl)⟩
set_option maxRecDepth 100000 in
theorem roundsPlan_lifted (os : Os) (started : os.Started) (H : Type) (enc : TypeId × Value → H) :
    ReturnsInHanded {} Tryd.checked os 8 .any (fun w args => (Rows.roundsPlanSpec.pre enc Tryd.prog Tryd.f8 [] false w args ∧ laidMetH Tryd.prog Rows.roundsPlanRow.laid w) ∧ sizedMet enc Tryd.prog Tryd.f8 (OpenSpec.ofChange Rows.roundsPlanSpec) false w args)
      (Rows.roundsPlanSpec.post enc Tryd.prog Tryd.f8 false true false false) := by
  refine returnsInHanded_of_change_and (C := Tryd.checked) (X := fun w _ => laidMetH Tryd.prog Rows.roundsPlanRow.laid w) (fun _ _ _ hh h => h.of_heap hh) Tryd.own started (by kernel_rfl) Tryd.func8
    (ChangeSpec.witness_shaped (enc := enc) (C := Tryd.checked) (os := os) (X := fun w _ => laidMetH Tryd.prog Rows.roundsPlanRow.laid w) false (World.doorLaid Tryd.prog 400 os) #[.agg #[.int .u8 0, .slice none 0 0]] 8 rfl (World.shaped_of_RefB (by kernel_rfl) (by kernel_rfl)) (by kernel_rfl) (by kernel_rfl) (by kernel_rfl) (door_met_roundsPlan os _)) ?_
  intro W base args ds gs before hval0 hW _ _ hL _
  have hval : ∀ (j : Nat) t v, Tryd.f8.params[j]? = some t → args[j]? = some v → Value.okWide Tryd.prog W .any base t v := hval0
  have hW' := hW
  obtain ⟨p, q, hA0, hV, rfl, hfz, hnd⟩ := hW
  have hA : DataW.TrodAll enc Tryd.prog W 0 (fun _ => true) true Tryd.f8.params.toList args.toList ds p := hA0
  rw [Tryd.params8] at hA hval
  obtain ⟨v0, d0, rfl, rfl, h0⟩ := trodAll_one hA
  obtain ⟨rfl, rfl⟩ := trodVars_none hV
  obtain ⟨x0a, x0b, hx0a, hx0b, hv0⟩ := open_st_is (g := (.int .u8)) (by decide) Tryd.underlying61 (by kernel_rfl) (by kernel_rfl) (by kernel_rfl) rfl Tryd.underlying5 Tryd.underlying42 (by kernel_rfl) (dec_int Tryd.underlying5) (hval 0 61 v0 rfl rfl) h0
  have hlaw := AC.law (W := W) (w_roundsPlan (x0a, x0b) none true (roundsPlan_eq x0a x0b (by have := hx0a.1; rw [u8min] at this; exact this) (fun x hx => by have := (hx0b x hx).1; rw [u8min] at this; exact this))) (globs_ok hL) (vs := [v0]) ⟨v0, _, rfl, hv0 _, rfl⟩
  refine Calls.mono hlaw fun e W' ⟨v, he, hv, hw⟩ => ?_
  subst hv
  exact ⟨_, he, post_law hW' rfl rfl (by kernel_rfl) Tryd.underlying4 Tryd.laidOut read_roundsPlan hw⟩
theorem roundsPlan_row : Rows.RoundsPlanSaid :=
  OpenClaim.holds_of_wide 8 Tryd.f8 rfl rfl rfl rfl rfl rfl rfl ⟨rfl, rfl, rfl, rfl, rfl⟩ rfl rfl rfl rfl rfl (by kernel_rfl) Tryd.func8 (by kernel_rfl)
    (of_decide_eq_true (by kernel_rfl)) (by unfold Func.isWrapper; first | (rw [if_pos (by decide +kernel)]; kernel_rfl) | (rw [if_neg (by decide +kernel)]; exact ⟨rfl, rfl⟩))
    (fun os started H enc _ => roundsPlan_lifted os started H enc)
theorem roundsPlan_holds : Rows.RoundsPlanCardSaid :=
  Claim7.holds_tied_plain_at .later [] [.data, .data, .data, .data, .data] true Rows.roundsPlanCard.stood.harness false
    roundsPlan_row (fun _ h => by cases h) (by kernel_rfl) (fun _ h => by cases h) roundsPlan_row_tie rfl ⟨rfl, rfl⟩ (by kernel_rfl) rfl
    (fun f fn hf hfn => by
      obtain rfl : f = 8 := Option.some.inj (hf.symm.trans (by kernel_rfl))
      obtain rfl : fn = Tryd.f8 := (Option.some.inj (Tryd.func8.symm.trans hfn)).symm
      exact ⟨by kernel_rfl, fun j t ht => by
        rw [Tryd.params8] at ht
        have hm : t ∈ [61] := by simpa using Array.mem_of_getElem? ht
        have hall : ([61].all fun u => !Tryd.prog.wantsStandIn u) = true := by kernel_rfl
        exact (show Tryd.prog.wantsStandIn t = false by simpa using List.all_eq_true.1 hall t hm)⟩)
    (by kernel_rfl)
end Go.Proofs.YtcjpcmofajcadaaDoor
