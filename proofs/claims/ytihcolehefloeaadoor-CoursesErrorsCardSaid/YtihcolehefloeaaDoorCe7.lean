/- CoursesErrors: for every layout, every row of stitches and every direction, whatever the memory and the order that Go leaves open, the law returns true, and its arguments read as before. The listed package-level variables start as the program's text lays them (the card ties them). -/
import Derived.Test.YtihcolehefloeaaDoorCe6
set_option linter.unusedSimpArgs false
set_option linter.unusedVariables false
/- The laws of courses: models. -/
namespace Go.Proofs.YtihcolehefloeaaDoor
set_option linter.unusedSimpArgs false
set_option linter.unusedVariables false
open Go.RowKit
def s_lives30_1 : List UInt8 := [59, 32, 107, 110, 105, 116, 32, 108, 101, 102, 116, 32, 102, 49, 52, 32, 49, 59, 32, 107, 110, 105, 116, 32, 108, 101, 102, 116, 32, 102, 49, 51, 32, 49, 59, 32, 109, 105, 115, 115, 32, 108, 101, 102, 116, 32, 98, 49, 32, 49]
def s_lives30_2 : List UInt8 := [107, 110, 105, 116, 32, 108, 101, 102, 116, 32, 102, 49, 52, 32, 49, 59, 32, 107, 110, 105, 116, 32, 108, 101, 102, 116, 32, 102, 49, 51, 32, 49, 59, 32, 109, 105, 115, 115, 32, 108, 101, 102, 116, 32, 98, 49, 32, 49]
def s_lives30_3 : List UInt8 := [120, 102, 101, 114, 32, 102, 49, 52, 59, 32, 107, 110, 105, 116, 32, 108, 101, 102, 116, 32, 98, 49, 52, 32, 49, 59, 32, 107, 110, 105, 116, 32, 108, 101, 102, 116, 32, 102, 49, 51, 32, 49, 59, 32, 109, 105, 115, 115, 32, 108, 101, 102, 116, 32, 98, 49, 32, 49]
def s_lives30_4 : List UInt8 := (List.append [120, 102, 101, 114, 32, 102, 49, 51, 59, 32, 120, 102, 101, 114, 32, 102, 49, 52, 59, 32, 114, 97, 99, 107, 32, 49, 59, 32, 120, 102, 101, 114, 32, 98, 49, 51, 59, 32, 120, 102, 101, 114, 32, 98, 49, 52, 59, 32, 114, 97, 99, 107, 32, 48, 59, 32, 107, 110, 105, 116] [32, 108, 101, 102, 116, 32, 102, 49, 53, 32, 49, 59, 32, 107, 110, 105, 116, 32, 108, 101, 102, 116, 32, 102, 49, 52, 32, 49, 59, 32, 107, 110, 105, 116, 32, 108, 101, 102, 116, 32, 102, 49, 51, 32, 49, 59, 32, 109, 105, 115, 115, 32, 108, 101, 102, 116, 32, 98, 49, 32, 49])
def s_lives30_5 : List UInt8 := (List.append [120, 102, 101, 114, 32, 102, 49, 51, 59, 32, 114, 97, 99, 107, 32, 49, 59, 32, 120, 102, 101, 114, 32, 98, 49, 51, 59, 32, 120, 102, 101, 114, 32, 102, 49, 52, 59, 32, 114, 97, 99, 107, 32] [48, 59, 32, 120, 102, 101, 114, 32, 98, 49, 51, 59, 32, 107, 110, 105, 116, 32, 108, 101, 102, 116, 32, 102, 49, 51, 32, 49, 59, 32, 109, 105, 115, 115, 32, 108, 101, 102, 116, 32, 98, 49, 32, 49])
def s_lives30_6 : List UInt8 := (List.append [107, 110, 105, 116, 32, 108, 101, 102, 116, 32, 102, 49, 52, 32, 49, 59, 32, 109, 105, 115, 115, 32, 108, 101, 102, 116, 32, 98, 49, 32, 49, 59, 32, 105, 110, 32, 50, 32] [114, 105, 103, 104, 116, 59, 32, 107, 110, 105, 116, 32, 108, 101, 102, 116, 32, 102, 49, 51, 32, 50, 59, 32, 109, 105, 115, 115, 32, 108, 101, 102, 116, 32, 98, 49, 32, 50])
theorem ko_lives30_39 : KeyOk Tryd.prog 39 gNd := KeyOk.of tt_ok rfl rfl rfl (by kernel_rfl) (by kernel_rfl)
def m_lives30_L4 (r2 : (List UInt8)) : Nat → Int → Option ((Unit) ⊕ (Bool))
  | 0, _ => none
  | n + 1, v4_0 =>
    cond (decide (v4_0 < ([([107, 32, 107] : List UInt8), ([107, 32, 112] : List UInt8), ([111, 32, 107, 32, 107] : List UInt8), ([47] : List UInt8), ([107, 50, 32, 107] : List UInt8), ([99, 49, 49, 70] : List UInt8)].length : Int))) (gd ((inB v4_0 [([107, 32, 107] : List UInt8), ([107, 32, 112] : List UInt8), ([111, 32, 107, 32, 107] : List UInt8), ([47] : List UInt8), ([107, 50, 32, 107] : List UInt8), ([99, 49, 49, 70] : List UInt8)].length)) <|
    Option.bind (m_row30 ([([107, 32, 107] : List UInt8), ([107, 32, 112] : List UInt8), ([111, 32, 107, 32, 107] : List UInt8), ([47] : List UInt8), ([107, 50, 32, 107] : List UInt8), ([99, 49, 49, 70] : List UInt8)].getD v4_0.toNat [])) fun r5 =>
    Option.bind (m_course ([((0 : Int), (13 : Int)), ((0 : Int), (14 : Int))], ((2 : Int), ((0 : Int), ((0 : Int), ((0 : Int), ((0 : Int), (0 : Int))))))) r5 (0 : Int)) fun r6 =>
    Option.bind (cond (!(decide (r6.2.2 = (0 : Int)))) (some default) (m_text30 r6.1)) fun r7 =>
    gd ((!(!(!(decide (r6.2.2 = (0 : Int))))) || (inB v4_0 [s_lives30_2, s_lives30_3, s_lives30_4, s_lives30_5, s_lives30_6, (r2 ++ s_lives30_1)].length))) <|
    cond (cond (cond (cond (!(decide (r6.2.2 = (0 : Int)))) true (!(r7 == ([s_lives30_2, s_lives30_3, s_lives30_4, s_lives30_5, s_lives30_6, (r2 ++ s_lives30_1)].getD v4_0.toNat [])))) true (!(decide (r6.2.1.2.1 = (1 : Int))))) true (cond (decide (v4_0 = (4 : Int))) (!(decide (r6.2.1.2.2.1 = (1 : Int)))) false)) (some (.inr false)) (gd ((!((decide (v4_0 = (1 : Int))) && !(!(decide ((r6.2.1.1.length : Int) = (2 : Int))))) || (inB (1 : Int) r6.2.1.1.length))) <|
    cond (cond (decide (v4_0 = (1 : Int))) (cond (!(decide ((r6.2.1.1.length : Int) = (2 : Int)))) true (!(GTy.beq gNd (r6.2.1.1.getD (1 : Int).toNat gNd.zero) ((1 : Int), (14 : Int))))) false) (some (.inr false)) (gd ((inI64 (v4_0 + (1 : Int)))) <|
    m_lives30_L4 r2 n (v4_0 + (1 : Int))))) (some (.inl ()))
def m_lives30  : Option (Bool) :=
    Option.bind (m_cross [(13 : Int), (14 : Int)] (0 : Int) (1 : Int) (1 : Int) true) fun r1 =>
    Option.bind (m_text30 r1.1) fun r2 =>
    gd ((decide (r2.length + s_lives30_1.length ≤ 140737488355328))) <|
    Option.bind (m_lives30_L4 r2 FUEL (0 : Int)) fun o3 =>
    sm o3 (fun o3 =>
    some true) (fun q => some q)
set_option maxRecDepth 20000 in
set_option maxHeartbeats 4000000 in
theorem w_lives30  (r : (Bool)) (h : m_lives30  = some r) : AC cx 14 [] [] (fun sv h => sv = .a (.c (.val (.bool r))) ∧ h = []) := by
  unfold m_lives30 at h
  refine ac_body tt_ok Tryd.func14 rfl Tryd.ntmps14 rfl rfl (res := [.tmp 0]) rfl ?_
  refine ax_seq ?_
  refine ax_region ?_
  refine al_run tt_ok rfl rfl ?_
  refine ax_seq ?_
  refine ax_region ?_
  refine al_run tt_ok rfl rfl ?_
  refine ax_weak (Wk.frz (id := 12) rfl) ?_
  refine ax_seq ?_
  obtain ⟨r1, hr1, h⟩ := bd h
  refine ax_region ?_
  refine al_upto tt_ok rfl rfl ?_
  refine al_weak (Wk.frz (id := 16) rfl) ?_
  refine al_callP (w_cross _ _ _ _ _ (some 2) r1 hr1) rfl ⟨rfl, rfl⟩ rfl Tryd.func9 rfl rfl rfl rfl rfl rfl ?_
  refine al_run tt_ok rfl rfl ?_
  refine ax_seq ?_
  refine ax_region ?_
  refine al_run tt_ok rfl rfl ?_
  refine ax_weak (Wk.frz (id := 20) rfl) ?_
  refine ax_seq ?_
  obtain ⟨r2, hr2, h⟩ := bd h
  obtain ⟨hG13, h⟩ := gd_some h
  simp only [s_lives30_1] at hG13
  refine ax_region ?_
  refine al_upto tt_ok rfl (by simp only [hG13, ob, decide_true, cond_true, cond_false]) ?_
  refine al_callP (w_text30 _ (some r1.1.length) r2 hr2) rfl ⟨rfl, rfl⟩ rfl Tryd.func12 rfl rfl rfl (by simp only [hG13, ob, decide_true, cond_true, cond_false]) rfl rfl ?_
  refine al_run tt_ok rfl (by simp_all) ?_
  refine ax_weak (Wk.frz (id := 24) rfl) ?_
  refine ax_weak (Wk.conv (s := 5) (.a (.c (.lst .str [s_lives30_2, s_lives30_3, s_lives30_4, s_lives30_5, s_lives30_6, (r2 ++ s_lives30_1)] (some 6)))) rfl (fun _ _ _ _ hv => hv)) ?_
  refine ax_seq ?_
  refine ax_seq ?_
  refine ax_region ?_
  refine al_run tt_ok rfl rfl ?_
  obtain ⟨o3, ho3, hk3⟩ := bd h
  refine ax_cutS (fun o3 : Unit => ⟨[], []⟩) (fun o' => Sum.inl o' = o3) ?_ ?_
  ·
   have h := ho3
   refine ax_block ?_
   refine ax_weak (Wk.pick [6, 1, 4, 5] [1] rfl rfl) ?_
   refine ax_loopL (fun y : Nat × Int => [(6, .a (.c (.val (.int .i64 y.2))))]) (fun y : Nat × Int => []) (fun y : Nat × Int => m_lives30_L4 r2 y.1 y.2 = some o3) (fun y : Nat × Int => y.1) (FUEL, (0 : Int)) h ?_
   rintro ⟨n, v4_0⟩ h
   replace h : m_lives30_L4 r2 n v4_0 = some o3 := h
   rcases n with _ | n
   · cases (show (none : Option _) = some _ from h)
   rw [m_lives30_L4] at h
   try dsimp only
   refine ax_seq ?_
   refine ax_seq ?_
   refine ax_region ?_
   refine al_run tt_ok rfl rfl ?_
   refine ax_cond rfl rfl (fun hc => ?_) (fun hc => ?_)
   ·
    replace h := cond_t hc h
    refine ax_skip ?_
    refine ax_seq ?_
    refine ax_block ?_
    refine ax_seq ?_
    obtain ⟨hG12, h⟩ := gd_some h
    obtain ⟨r5, hr5, h⟩ := bd h
    obtain ⟨r6, hr6, h⟩ := bd h
    apply ax_cut
    ·
      refine ax_draw [1, 2, 3, 4, 5, 11] (by kernel_rfl) rfl (N := 15) ?_
      refine ad_run (fuel := 10) (ds' := ⟨#[true, true, true, true, true, false, false, false, false, false, false, false, false, false, false], true, true, true⟩) tt_ok [(0, 3), (1, 0), (2, 0), (3, 0), (4, 1)] (by kernel_rfl) rfl (by simp only [hG12, ob, decide_true, cond_true, cond_false]) ?_
      refine ad_ready (by kernel_rfl) (ads_cons (i := 5) ?_ (ads_cons (i := 11) ?_ ads_nil))
      ·
        refine ado_of rfl ?_
        refine adx_call (i := 5) (listed' := #[true, true, true, true, true, true, false, false, false, false, false, false, false, false, false]) (pre' := true) [] (w_row30 _  r5 hr5) rfl rfl rfl rfl ⟨rfl, rfl⟩ rfl Tryd.func43 rfl rfl rfl (by simp only [hG12, ob, decide_true, cond_true, cond_false]) rfl rfl PassH.nil ?_
        rintro _ _ ⟨rfl, rfl⟩
        refine ⟨_, _, rfl, rfl, ?_⟩
        refine ad_ready (by kernel_rfl) (ads_cons (i := 6) ?_ (ads_cons (i := 11) ?_ ads_nil))
        ·
          refine ado_of rfl ?_
          refine adx_call (i := 6) (listed' := #[true, true, true, true, true, true, true, false, false, false, false, false, false, false, false]) (pre' := true) [] (w_course _ _ _ (some 2) none r6 hr6) rfl rfl rfl rfl ⟨rfl, rfl⟩ rfl Tryd.func11 rfl rfl rfl (by simp only [hG12, ob, decide_true, cond_true, cond_false]) rfl rfl PassH.nil ?_
          rintro _ _ ⟨rfl, rfl⟩
          refine ⟨_, _, rfl, rfl, ?_⟩
          refine ad_run (fuel := 0) (ds' := ⟨#[true, true, true, true, true, true, true, true, true, true, true, true, true, true, true], false, false, false⟩) tt_ok [(7, 0), (8, 0), (9, 0), (10, 0), (11, 4), (12, 0), (13, 2), (14, 0)] (by kernel_rfl) rfl (by simp only [hG12, ob, decide_true, cond_true, cond_false]) ?_
          refine ad_done (by kernel_rfl) ?_
          exact ⟨rfl, Wk.pick [1, 4, 5, 6, 7, 8, 9] [1, 8] rfl rfl⟩
        ·
          refine ado_keep tt_ok (i := 11) rfl rfl rfl (by simp only [hG12, ob, decide_true, cond_true, cond_false]) rfl ?_
          refine ad_ready (by kernel_rfl) (ads_cons (i := 6) ?_ ads_nil)
          refine ado_of rfl ?_
          refine adx_call (i := 6) (listed' := #[true, true, true, true, true, true, true, false, false, false, false, true, false, false, false]) (pre' := true) [] (w_course _ _ _ (some 2) none r6 hr6) rfl rfl rfl rfl ⟨rfl, rfl⟩ rfl Tryd.func11 rfl rfl rfl (by simp only [hG12, ob, decide_true, cond_true, cond_false]) rfl rfl PassH.nil ?_
          rintro _ _ ⟨rfl, rfl⟩
          refine ⟨_, _, rfl, rfl, ?_⟩
          refine ad_run (fuel := 0) (ds' := ⟨#[true, true, true, true, true, true, true, true, true, true, true, true, true, true, true], false, false, false⟩) tt_ok [(7, 0), (8, 0), (9, 0), (10, 0), (12, 0), (13, 2), (14, 0)] (by kernel_rfl) rfl (by simp only [hG12, ob, decide_true, cond_true, cond_false]) ?_
          refine ad_done (by kernel_rfl) ?_
          exact ⟨rfl, Wk.pick [1, 4, 5, 6, 7, 8, 9] [1, 8] rfl rfl⟩
      ·
        refine ado_keep tt_ok (i := 11) rfl rfl rfl (by simp only [hG12, ob, decide_true, cond_true, cond_false]) rfl ?_
        refine ad_ready (by kernel_rfl) (ads_cons (i := 5) ?_ ads_nil)
        refine ado_of rfl ?_
        refine adx_call (i := 5) (listed' := #[true, true, true, true, true, true, false, false, false, false, false, true, false, false, false]) (pre' := true) [] (w_row30 _  r5 hr5) rfl rfl rfl rfl ⟨rfl, rfl⟩ rfl Tryd.func43 rfl rfl rfl (by simp only [hG12, ob, decide_true, cond_true, cond_false]) rfl rfl PassH.nil ?_
        rintro _ _ ⟨rfl, rfl⟩
        refine ⟨_, _, rfl, rfl, ?_⟩
        refine ad_ready (by kernel_rfl) (ads_cons (i := 6) ?_ ads_nil)
        refine ado_of rfl ?_
        refine adx_call (i := 6) (listed' := #[true, true, true, true, true, true, true, false, false, false, false, true, false, false, false]) (pre' := true) [] (w_course _ _ _ (some 2) none r6 hr6) rfl rfl rfl rfl ⟨rfl, rfl⟩ rfl Tryd.func11 rfl rfl rfl (by simp only [hG12, ob, decide_true, cond_true, cond_false]) rfl rfl PassH.nil ?_
        rintro _ _ ⟨rfl, rfl⟩
        refine ⟨_, _, rfl, rfl, ?_⟩
        refine ad_run (fuel := 0) (ds' := ⟨#[true, true, true, true, true, true, true, true, true, true, true, true, true, true, true], false, false, false⟩) tt_ok [(7, 0), (8, 0), (9, 0), (10, 0), (12, 0), (13, 2), (14, 0)] (by kernel_rfl) rfl (by simp only [hG12, ob, decide_true, cond_true, cond_false]) ?_
        refine ad_done (by kernel_rfl) ?_
        exact ⟨rfl, Wk.pick [1, 4, 5, 6, 7, 8, 9] [1, 8] rfl rfl⟩
    refine ax_seq ?_
    refine ax_seq ?_
    obtain ⟨r7, hr7, h⟩ := bd h
    obtain ⟨hG11, h⟩ := gd_some h
    simp only [s_lives30_1, s_lives30_2, s_lives30_3, s_lives30_4, s_lives30_5, s_lives30_6] at hG11
    refine ax_draw [] (by kernel_rfl) rfl (N := 27) ?_
    refine ad_run (fuel := 19) (ds' := ⟨#[true, true, true, true, false, true, true, true, true, false, false, false, false, false, false, false, false, false, false, false, false, false, false, false, false, false, false], true, true, true⟩) tt_ok [(0, 0), (1, 0), (2, 0), (3, 0), (5, 0), (6, 0), (7, 0), (8, 1)] (by kernel_rfl) rfl (by exact (by first | (revert hg9 hG11; generalize (r7 == ([s_lives30_2, s_lives30_3, s_lives30_4, s_lives30_5, s_lives30_6, (r2 ++ s_lives30_1)].getD v4_0.toNat [])) = b0; generalize (inB v4_0 [s_lives30_2, s_lives30_3, s_lives30_4, s_lives30_5, s_lives30_6, (r2 ++ s_lives30_1)].length) = b1; generalize (decide (r6.2.1.2.1 = (1 : Int))) = b2; generalize (decide (r6.2.2 = (0 : Int))) = b3; generalize (decide (v4_0 = (4 : Int))) = b4; revert b0 b1 b2 b3 b4; decide) | (simp only [hg9, hG11, ob, decide_true, cond_true, cond_false]; done) | (simp_all; done) | (simp only [hg9, hG11, ob, decide_true, cond_true, cond_false]; rfl))) ?_
    refine ad_ready (by kernel_rfl) (ads_cons (i := 4) ?_ ads_nil)
    refine ado_guard (.c (.str r7)) (i := 4) (listed' := #[true, true, true, true, true, true, true, true, true, false, false, false, false, false, false, false, false, false, false, false, false, false, false, false, false, false, false]) rfl rfl rfl rfl rfl rfl rfl rfl (fun hg9 => ?_) (fun hg9 => ?_)
    ·
      replace hr7 := cond_f hg9 hr7
      refine adx_call (i := 4) (listed' := #[true, true, true, true, true, true, true, true, true, false, false, false, false, false, false, false, false, false, false, false, false, false, false, false, false, false, false]) (pre' := true) [] (w_text30 _ (some r6.1.length) r7 hr7) rfl rfl rfl rfl ⟨rfl, rfl⟩ rfl Tryd.func12 rfl rfl rfl (by exact (by first | (revert hg9 hG11; generalize (r7 == ([s_lives30_2, s_lives30_3, s_lives30_4, s_lives30_5, s_lives30_6, (r2 ++ s_lives30_1)].getD v4_0.toNat [])) = b0; generalize (inB v4_0 [s_lives30_2, s_lives30_3, s_lives30_4, s_lives30_5, s_lives30_6, (r2 ++ s_lives30_1)].length) = b1; generalize (decide (r6.2.1.2.1 = (1 : Int))) = b2; generalize (decide (r6.2.2 = (0 : Int))) = b3; generalize (decide (v4_0 = (4 : Int))) = b4; revert b0 b1 b2 b3 b4; decide) | (simp only [hg9, hG11, ob, decide_true, cond_true, cond_false]; done) | (simp_all; done) | (simp only [hg9, hG11, ob, decide_true, cond_true, cond_false]; rfl))) rfl rfl PassH.nil ?_
      rintro _ _ ⟨rfl, rfl⟩
      refine ⟨_, _, rfl, rfl, ?_⟩
      refine ad_run (fuel := 0) (ds' := ⟨#[true, true, true, true, true, true, true, true, true, true, true, true, true, true, true, true, true, true, true, true, true, true, true, true, true, true, true], false, false, false⟩) tt_ok [(9, 0), (10, 0), (11, 0), (12, 0), (13, 0), (14, 2), (15, 0), (16, 0), (17, 0), (18, 0), (19, 0), (20, 0), (21, 0), (22, 0), (23, 2), (24, 0), (25, 0), (26, 0)] (by kernel_rfl) rfl (by exact (by first | (revert hg9 hG11; generalize (r7 == ([s_lives30_2, s_lives30_3, s_lives30_4, s_lives30_5, s_lives30_6, (r2 ++ s_lives30_1)].getD v4_0.toNat [])) = b0; generalize (inB v4_0 [s_lives30_2, s_lives30_3, s_lives30_4, s_lives30_5, s_lives30_6, (r2 ++ s_lives30_1)].length) = b1; generalize (decide (r6.2.1.2.1 = (1 : Int))) = b2; generalize (decide (r6.2.2 = (0 : Int))) = b3; generalize (decide (v4_0 = (4 : Int))) = b4; revert b0 b1 b2 b3 b4; decide) | (simp only [hg9, hG11, ob, decide_true, cond_true, cond_false]; done) | (simp_all; done) | (simp only [hg9, hG11, ob, decide_true, cond_true, cond_false]; rfl))) ?_
      refine ad_done (by kernel_rfl) ?_
      refine ax_weak (Wk.conv (s := 68) (.a (.c (.val (.bool (cond (cond (cond (!(decide (r6.2.2 = (0 : Int)))) true (!(r7 == ([s_lives30_2, s_lives30_3, s_lives30_4, s_lives30_5, s_lives30_6, (r2 ++ s_lives30_1)].getD v4_0.toNat [])))) true (!(decide (r6.2.1.2.1 = (1 : Int))))) true (cond (decide (v4_0 = (4 : Int))) (!(decide (r6.2.1.2.2.1 = (1 : Int)))) false)))))) rfl (fun _ _ _ _ hv => hv)) ?_
      refine ax_cond rfl rfl (fun hc => ?_) (fun hc => ?_)
      ·
       replace h := cond_t hc h
       refine ax_seq ?_
       refine ax_region ?_
       refine al_run tt_ok rfl rfl ?_
       refine ax_ret ?_
       obtain rfl := Option.some.inj h
       have h := hk3
       dsimp only [sm] at h
       obtain rfl := Option.some.inj h
       refine ⟨_, (Wk.pick [0] [] rfl rfl), _, _, rfl, rfl, ?_⟩
       exact ⟨rfl, rfl⟩
      ·
       replace h := cond_f hc h
       refine ax_skip ?_
       refine ax_seq ?_
       obtain ⟨hG9, h⟩ := gd_some h
       refine ax_region ?_
       refine al_upN 13 tt_ok rfl (by revert hG9; generalize (decide ((r6.2.1.1.length : Int) = (2 : Int))) = b0; generalize (inB (1 : Int) r6.2.1.1.length) = b1; generalize (decide (v4_0 = (1 : Int))) = b2; revert b0 b1 b2; decide) ?_
       refine al_guardM ((decide (v4_0 = (1 : Int))) && !(!(decide ((r6.2.1.1.length : Int) = (2 : Int))))) (.c (.val (.bool (!(GTy.beq gNd (r6.2.1.1.getD (1 : Int).toNat gNd.zero) ((1 : Int), (14 : Int))))))) rfl rfl rfl rfl rfl rfl (fun hq10 => ?_) (fun hq10 => ?_)
       ·
        try simp only [ob2, cond_true, cond_false] at hq10
        all_goals
         refine al_neqA ko_lives30_39 rfl ⟨rfl, rfl⟩ rfl rfl (by simp only [hG9, hq10, ob, decide_true, cond_true, cond_false]) rfl (by simp only [hG9, hq10, ob, decide_true, cond_true, cond_false]) rfl (by simp only [hG9, hq10, ob, decide_true, cond_true, cond_false]) rfl (by simp only [hG9, hq10, ob, decide_true, cond_true, cond_false]) ?_
         refine al_run tt_ok rfl (by simp only [hG9, hq10, ob, decide_true, cond_true, cond_false]) ?_
         refine ax_cond rfl rfl (fun hc => ?_) (fun hc => ?_)
         ·
          replace h := cond_t hc h
          refine ax_seq ?_
          refine ax_region ?_
          refine al_run tt_ok rfl rfl ?_
          refine ax_ret ?_
          obtain rfl := Option.some.inj h
          have h := hk3
          dsimp only [sm] at h
          obtain rfl := Option.some.inj h
          refine ⟨_, (Wk.pick [0] [] rfl rfl), _, _, rfl, rfl, ?_⟩
          exact ⟨rfl, rfl⟩
         ·
          replace h := cond_f hc h
          refine ax_skip ?_
          obtain ⟨hG8, h⟩ := gd_some h
          refine ax_region ?_
          refine al_run tt_ok rfl (by simp only [hG8, ob, decide_true, cond_true, cond_false]) ?_
          refine ⟨(n, _), h, Nat.lt_succ_self _, (Wk.pick [6, 1, 4, 5] [1] rfl rfl)⟩
       ·
        try simp only [ob2, cond_true, cond_false] at hq10
        all_goals
         refine al_run tt_ok rfl (by revert hG9 hq10; generalize (decide ((r6.2.1.1.length : Int) = (2 : Int))) = b0; generalize (inB (1 : Int) r6.2.1.1.length) = b1; generalize (decide (v4_0 = (1 : Int))) = b2; revert b0 b1 b2; decide) ?_
         refine ax_cond rfl rfl (fun hc => ?_) (fun hc => ?_)
         ·
          replace h := cond_t hc h
          refine ax_seq ?_
          refine ax_region ?_
          refine al_run tt_ok rfl rfl ?_
          refine ax_ret ?_
          obtain rfl := Option.some.inj h
          have h := hk3
          dsimp only [sm] at h
          obtain rfl := Option.some.inj h
          refine ⟨_, (Wk.pick [0] [] rfl rfl), _, _, rfl, rfl, ?_⟩
          exact ⟨rfl, rfl⟩
         ·
          replace h := cond_f hc h
          refine ax_skip ?_
          obtain ⟨hG8, h⟩ := gd_some h
          refine ax_region ?_
          refine al_run tt_ok rfl (by simp only [hG8, ob, decide_true, cond_true, cond_false]) ?_
          refine ⟨(n, _), h, Nat.lt_succ_self _, (Wk.pick [6, 1, 4, 5] [1] rfl rfl)⟩
    ·
      refine ad_run (fuel := 0) (ds' := ⟨#[true, true, true, true, true, true, true, true, true, true, true, true, true, true, true, true, true, true, true, true, true, true, true, true, true, true, true], false, false, true⟩) tt_ok [(9, 0), (10, 0), (11, 0), (12, 0), (13, 0), (14, 2), (15, 0), (16, 0), (17, 0), (18, 0), (19, 0), (20, 0), (21, 0), (22, 0), (23, 2), (24, 0), (25, 0), (26, 0)] (by kernel_rfl) rfl (by exact (by first | (revert hg9 hG11; generalize (r7 == ([s_lives30_2, s_lives30_3, s_lives30_4, s_lives30_5, s_lives30_6, (r2 ++ s_lives30_1)].getD v4_0.toNat [])) = b0; generalize (inB v4_0 [s_lives30_2, s_lives30_3, s_lives30_4, s_lives30_5, s_lives30_6, (r2 ++ s_lives30_1)].length) = b1; generalize (decide (r6.2.1.2.1 = (1 : Int))) = b2; generalize (decide (r6.2.2 = (0 : Int))) = b3; generalize (decide (v4_0 = (4 : Int))) = b4; revert b0 b1 b2 b3 b4; decide) | (simp only [hg9, hG11, ob, decide_true, cond_true, cond_false]; done) | (simp_all; done) | (simp only [hg9, hG11, ob, decide_true, cond_true, cond_false]; rfl))) ?_
      refine ad_done (by kernel_rfl) ?_
      refine ax_weak (Wk.conv (s := 68) (.a (.c (.val (.bool (cond (cond (cond (!(decide (r6.2.2 = (0 : Int)))) true (!(r7 == ([s_lives30_2, s_lives30_3, s_lives30_4, s_lives30_5, s_lives30_6, (r2 ++ s_lives30_1)].getD v4_0.toNat [])))) true (!(decide (r6.2.1.2.1 = (1 : Int))))) true (cond (decide (v4_0 = (4 : Int))) (!(decide (r6.2.1.2.2.1 = (1 : Int)))) false)))))) rfl (fun _ _ _ _ hv => hv)) ?_
      refine ax_cond rfl rfl (fun hc => ?_) (fun hc => ?_)
      ·
       replace h := cond_t hc h
       refine ax_seq ?_
       refine ax_region ?_
       refine al_run tt_ok rfl rfl ?_
       refine ax_ret ?_
       obtain rfl := Option.some.inj h
       have h := hk3
       dsimp only [sm] at h
       obtain rfl := Option.some.inj h
       refine ⟨_, (Wk.pick [0] [] rfl rfl), _, _, rfl, rfl, ?_⟩
       exact ⟨rfl, rfl⟩
      ·
       replace h := cond_f hc h
       refine ax_skip ?_
       refine ax_seq ?_
       obtain ⟨hG9, h⟩ := gd_some h
       refine ax_region ?_
       refine al_upN 13 tt_ok rfl (by revert hG9; generalize (decide ((r6.2.1.1.length : Int) = (2 : Int))) = b0; generalize (inB (1 : Int) r6.2.1.1.length) = b1; generalize (decide (v4_0 = (1 : Int))) = b2; revert b0 b1 b2; decide) ?_
       refine al_guardM ((decide (v4_0 = (1 : Int))) && !(!(decide ((r6.2.1.1.length : Int) = (2 : Int))))) (.c (.val (.bool (!(GTy.beq gNd (r6.2.1.1.getD (1 : Int).toNat gNd.zero) ((1 : Int), (14 : Int))))))) rfl rfl rfl rfl rfl rfl (fun hq10 => ?_) (fun hq10 => ?_)
       ·
        try simp only [ob2, cond_true, cond_false] at hq10
        all_goals
         refine al_neqA ko_lives30_39 rfl ⟨rfl, rfl⟩ rfl rfl (by simp only [hG9, hq10, ob, decide_true, cond_true, cond_false]) rfl (by simp only [hG9, hq10, ob, decide_true, cond_true, cond_false]) rfl (by simp only [hG9, hq10, ob, decide_true, cond_true, cond_false]) rfl (by simp only [hG9, hq10, ob, decide_true, cond_true, cond_false]) ?_
         refine al_run tt_ok rfl (by simp only [hG9, hq10, ob, decide_true, cond_true, cond_false]) ?_
         refine ax_cond rfl rfl (fun hc => ?_) (fun hc => ?_)
         ·
          replace h := cond_t hc h
          refine ax_seq ?_
          refine ax_region ?_
          refine al_run tt_ok rfl rfl ?_
          refine ax_ret ?_
          obtain rfl := Option.some.inj h
          have h := hk3
          dsimp only [sm] at h
          obtain rfl := Option.some.inj h
          refine ⟨_, (Wk.pick [0] [] rfl rfl), _, _, rfl, rfl, ?_⟩
          exact ⟨rfl, rfl⟩
         ·
          replace h := cond_f hc h
          refine ax_skip ?_
          obtain ⟨hG8, h⟩ := gd_some h
          refine ax_region ?_
          refine al_run tt_ok rfl (by simp only [hG8, ob, decide_true, cond_true, cond_false]) ?_
          refine ⟨(n, _), h, Nat.lt_succ_self _, (Wk.pick [6, 1, 4, 5] [1] rfl rfl)⟩
       ·
        try simp only [ob2, cond_true, cond_false] at hq10
        all_goals
         refine al_run tt_ok rfl (by revert hG9 hq10; generalize (decide ((r6.2.1.1.length : Int) = (2 : Int))) = b0; generalize (inB (1 : Int) r6.2.1.1.length) = b1; generalize (decide (v4_0 = (1 : Int))) = b2; revert b0 b1 b2; decide) ?_
         refine ax_cond rfl rfl (fun hc => ?_) (fun hc => ?_)
         ·
          replace h := cond_t hc h
          refine ax_seq ?_
          refine ax_region ?_
          refine al_run tt_ok rfl rfl ?_
          refine ax_ret ?_
          obtain rfl := Option.some.inj h
          have h := hk3
          dsimp only [sm] at h
          obtain rfl := Option.some.inj h
          refine ⟨_, (Wk.pick [0] [] rfl rfl), _, _, rfl, rfl, ?_⟩
          exact ⟨rfl, rfl⟩
         ·
          replace h := cond_f hc h
          refine ax_skip ?_
          obtain ⟨hG8, h⟩ := gd_some h
          refine ax_region ?_
          refine al_run tt_ok rfl (by simp only [hG8, ob, decide_true, cond_true, cond_false]) ?_
          refine ⟨(n, _), h, Nat.lt_succ_self _, (Wk.pick [6, 1, 4, 5] [1] rfl rfl)⟩
   ·
    replace h := cond_f hc h
    refine ax_exit ?_
    exact ⟨_, Option.some.inj h, (Wk.pick [] [] rfl rfl)⟩
  ·
   rintro o3 rfl
   have h := hk3
   dsimp only [sm] at h
   refine ax_seq ?_
   refine ax_region ?_
   refine al_run tt_ok rfl rfl ?_
   refine ax_ret ?_
   obtain rfl := Option.some.inj h
   refine ⟨_, (Wk.pick [0] [] rfl rfl), _, _, rfl, rfl, ?_⟩
   exact ⟨rfl, rfl⟩
def m_coursesErrors_L4 (a0 : ((List (Int × Int)) × (Int × (Int × (Int × (Int × (Int × Int))))))) : Nat → Int → Int → Option (Int)
  | 0, _, _ => none
  | n + 1, v4_0, v4_1 =>
    cond (decide (v4_1 < (a0.1.length : Int))) (gd ((inB v4_1 a0.1.length)) <|
    gd ((!((!(cond (cond (decide ((1 : Int) < (a0.1.getD v4_1.toNat gNd.zero).1)) true (decide ((a0.1.getD v4_1.toNat gNd.zero).2 < (13 : Int)))) true (decide ((28 : Int) < (a0.1.getD v4_1.toNat gNd.zero).2)))) && (decide ((0 : Int) < v4_1))) || (inI64 (v4_1 - (1 : Int)))) && (!((!(cond (cond (decide ((1 : Int) < (a0.1.getD v4_1.toNat gNd.zero).1)) true (decide ((a0.1.getD v4_1.toNat gNd.zero).2 < (13 : Int)))) true (decide ((28 : Int) < (a0.1.getD v4_1.toNat gNd.zero).2)))) && (decide ((0 : Int) < v4_1))) || (inB (v4_1 - (1 : Int)) a0.1.length))) <|
    cond (cond (cond (cond (decide ((1 : Int) < (a0.1.getD v4_1.toNat gNd.zero).1)) true (decide ((a0.1.getD v4_1.toNat gNd.zero).2 < (13 : Int)))) true (decide ((28 : Int) < (a0.1.getD v4_1.toNat gNd.zero).2))) true (cond (decide ((0 : Int) < v4_1)) (decide ((a0.1.getD v4_1.toNat gNd.zero).2 ≤ (a0.1.getD (v4_1 - (1 : Int)).toNat gNd.zero).2)) false)) (gd ((inI64 (v4_1 + (1 : Int)))) <|
    m_coursesErrors_L4 a0 n (1 : Int) (v4_1 + (1 : Int))) (gd ((inI64 (v4_1 + (1 : Int)))) <|
    m_coursesErrors_L4 a0 n v4_0 (v4_1 + (1 : Int)))) (some v4_0)
def m_coursesErrors_L10 (a0 : ((List (Int × Int)) × (Int × (Int × (Int × (Int × (Int × Int))))))) : Nat → Int → Int → Option (Int)
  | 0, _, _ => none
  | n + 1, v10_0, v10_1 =>
    cond (decide (v10_1 < (6 : Int))) (gd ((inB v10_1 6)) <|
    cond (decide ((2 : Int) < (([a0.2.1, a0.2.2.1, a0.2.2.2.1, a0.2.2.2.2.1, a0.2.2.2.2.2.1, a0.2.2.2.2.2.2] : List Int).getD v10_1.toNat 0))) (gd ((inI64 (v10_1 + (1 : Int)))) <|
    m_coursesErrors_L10 a0 n (1 : Int) (v10_1 + (1 : Int))) (gd ((inI64 (v10_1 + (1 : Int)))) <|
    m_coursesErrors_L10 a0 n v10_0 (v10_1 + (1 : Int)))) (some v10_0)
def m_coursesErrors (a0 : ((List (Int × Int)) × (Int × (Int × (Int × (Int × (Int × Int))))))) (a1 : (List (Int × (Int × (Int × (Int × Bool)))))) (a2 : Int) : Option (Bool) :=
    cond (cond (decide ((20 : Int) < (a0.1.length : Int))) true (decide ((20 : Int) < (a1.length : Int)))) (Option.bind (m_lives30) fun r1 =>
    some r1) (Option.bind (cond (cond (decide ((a0.1.length : Int) < (1 : Int))) true (decide ((16 : Int) < (a0.1.length : Int)))) (some (1 : Int)) (some (0 : Int))) fun o2 =>
    Option.bind (m_coursesErrors_L4 a0 FUEL o2 (0 : Int)) fun o3 =>
    Option.bind (m_coursesErrors_L10 a0 FUEL o3 (0 : Int)) fun o9 =>
    Option.bind (m_cocheck a0) fun r14 =>
    cond (!(decide (r14 = o9))) (some false) (Option.bind (cond (decide (o9 = (0 : Int))) (Option.bind (m_chrow a1) fun r16 =>
    some r16) (some o9)) fun o15 =>
    Option.bind (cond (decide (o15 = (0 : Int))) (m_chneeds a1) (some default)) fun r17 =>
    Option.bind (cond (cond (decide (o15 = (0 : Int))) (!(decide (r17 = (a0.1.length : Int)))) false) (some (14 : Int)) (some o15)) fun o18 =>
    Option.bind (m_prepare a0 a1) fun r19 =>
    gd ((!((!(!(decide (r19.2.2.2 = o18)))) && (!(decide (r19.2.2.2 = (0 : Int))))) || (inI64 ((r19.1.length : Int) + (r19.2.1.length : Int))))) <|
    cond (cond (!(decide (r19.2.2.2 = o18))) true (cond (!(decide (r19.2.2.2 = (0 : Int)))) (!(decide (((r19.1.length : Int) + (r19.2.1.length : Int)) = (0 : Int)))) false)) (some false) (Option.bind (cond (cond (decide (o18 = (0 : Int))) (decide ((1 : Int) < a2)) false) (some (1 : Int)) (some o18)) fun o20 =>
    Option.bind (m_course a0 a1 a2) fun r21 =>
    gd ((!((decide (r21.2.2 = o20)) && !(decide (r21.2.2 = (0 : Int)))) || (inI64 ((r21.1.length : Int) + (r21.2.1.1.length : Int))))) <|
    Option.bind (cond (cond (decide (r21.2.2 = o20)) (cond (decide (r21.2.2 = (0 : Int))) true (decide (((r21.1.length : Int) + (r21.2.1.1.length : Int)) = (0 : Int)))) false) (m_lives30) (some default)) fun r22 =>
    some (cond (cond (decide (r21.2.2 = o20)) (cond (decide (r21.2.2 = (0 : Int))) true (decide (((r21.1.length : Int) + (r21.2.1.1.length : Int)) = (0 : Int)))) false) r22 false))))
set_option maxRecDepth 20000 in
set_option maxHeartbeats 4000000 in
theorem w_coursesErrors (a0 : ((List (Int × Int)) × (Int × (Int × (Int × (Int × (Int × Int))))))) (a1 : (List (Int × (Int × (Int × (Int × Bool)))))) (a2 : Int) (c0 c1 : Option Nat) (r : (Bool)) (h : m_coursesErrors a0 a1 a2 = some r) : AC cx 4 [.agg [.lst gNd a0.1 c0, .val (.int .u8 a0.2.1), .val (.int .u8 a0.2.2.1), .val (.int .u8 a0.2.2.2.1), .val (.int .u8 a0.2.2.2.2.1), .val (.int .u8 a0.2.2.2.2.2.1), .val (.int .u8 a0.2.2.2.2.2.2)], .c (.lst (.pair (.int .u8) (.pair (.int .u8) (.pair (.int .i64) (.pair (.int .i64) .bool)))) a1 c1), .c (.val (.int .u8 a2))] [] (fun sv h => sv = .a (.c (.val (.bool r))) ∧ h = []) := by
  unfold m_coursesErrors at h
  refine ac_body tt_ok Tryd.func4 rfl Tryd.ntmps4 rfl rfl (res := [.tmp 6]) rfl ?_
  refine ax_seq ?_
  refine ax_region ?_
  refine al_run tt_ok rfl rfl ?_
  refine ax_seq ?_
  refine ax_seq ?_
  refine ax_region ?_
  refine al_run tt_ok rfl (by generalize (decide ((20 : Int) < (a0.1.length : Int))) = b0; revert b0; decide) ?_
  refine ax_cond rfl rfl (fun hc => ?_) (fun hc => ?_)
  ·
   replace h := cond_t hc h
   refine ax_seq ?_
   obtain ⟨r1, hr1, h⟩ := bd h
   refine ax_region ?_
   refine al_callP (w_lives30   r1 hr1) rfl ⟨rfl, rfl⟩ rfl Tryd.func14 rfl rfl rfl rfl rfl rfl ?_
   refine al_run tt_ok rfl rfl ?_
   refine ax_ret ?_
   obtain rfl := Option.some.inj h
   refine ⟨_, (Wk.pick [6] [] rfl rfl), _, _, rfl, rfl, ?_⟩
   exact ⟨rfl, rfl⟩
  ·
   replace h := cond_f hc h
   refine ax_skip ?_
   refine ax_seq ?_
   refine ax_region ?_
   refine al_run tt_ok rfl rfl ?_
   refine ax_seq ?_
   refine ax_seq ?_
   refine ax_region ?_
   refine al_run tt_ok rfl (by generalize (decide ((a0.1.length : Int) < (1 : Int))) = b0; revert b0; decide) ?_
   obtain ⟨o2, ho2, hk2⟩ := bd h
   refine ax_cutS (fun o2 : Int => ⟨[(1, .a (.c (.lst (.pair (.int .u8) (.pair (.int .u8) (.pair (.int .i64) (.pair (.int .i64) .bool)))) a1 c1))), (2, .a (.c (.val (.int .u8 a2)))), (3, .a (.c (.ptr 3 0))), (7, .a (.c (.val (.int .i64 o2))))], [(3, .cells 34 [.lst gNd a0.1 c0, .val (.int .u8 a0.2.1), .val (.int .u8 a0.2.2.1), .val (.int .u8 a0.2.2.2.1), .val (.int .u8 a0.2.2.2.2.1), .val (.int .u8 a0.2.2.2.2.2.1), .val (.int .u8 a0.2.2.2.2.2.2)])]⟩) (fun o' => o2 = o') ?_ ?_
   ·
    have h := ho2
    refine ax_cond rfl rfl (fun hc => ?_) (fun hc => ?_)
    ·
     replace h := cond_t hc h
     refine ax_region ?_
     refine al_run tt_ok rfl rfl ?_
     exact ⟨_, (Option.some.inj h).symm, (Wk.pick [1, 2, 3, 7] [3] rfl rfl)⟩
    ·
     replace h := cond_f hc h
     refine ax_skip ?_
     exact ⟨_, (Option.some.inj h).symm, (Wk.pick [1, 2, 3, 7] [3] rfl rfl)⟩
   ·
    rintro _ rfl
    have h := hk2
    refine ax_seq ?_
    refine ax_seq ?_
    refine ax_region ?_
    refine al_run tt_ok rfl rfl ?_
    obtain ⟨o3, ho3, hk3⟩ := bd h
    refine ax_cutS (fun o3 : Int => ⟨[(1, .a (.c (.lst (.pair (.int .u8) (.pair (.int .u8) (.pair (.int .i64) (.pair (.int .i64) .bool)))) a1 c1))), (2, .a (.c (.val (.int .u8 a2)))), (3, .a (.c (.ptr 3 0))), (7, .a (.c (.val (.int .i64 o3))))], [(3, .cells 34 [.lst gNd a0.1 c0, .val (.int .u8 a0.2.1), .val (.int .u8 a0.2.2.1), .val (.int .u8 a0.2.2.2.1), .val (.int .u8 a0.2.2.2.2.1), .val (.int .u8 a0.2.2.2.2.2.1), .val (.int .u8 a0.2.2.2.2.2.2)])]⟩) (fun o' => o3 = o') ?_ ?_
    ·
     have h := ho3
     refine ax_block ?_
     refine ax_weak (Wk.pick [7, 8, 1, 2, 3] [3] rfl rfl) ?_
     refine ax_loopL (fun y : Nat × Int × Int => [(7, .a (.c (.val (.int .i64 y.2.1)))), (8, .a (.c (.val (.int .i64 y.2.2))))]) (fun y : Nat × Int × Int => []) (fun y : Nat × Int × Int => m_coursesErrors_L4 a0 y.1 y.2.1 y.2.2 = some o3) (fun y : Nat × Int × Int => y.1) (FUEL, o2, (0 : Int)) h ?_
     rintro ⟨n, v4_0, v4_1⟩ h
     replace h : m_coursesErrors_L4 a0 n v4_0 v4_1 = some o3 := h
     rcases n with _ | n
     · cases (show (none : Option _) = some _ from h)
     rw [m_coursesErrors_L4] at h
     try dsimp only
     refine ax_seq ?_
     refine ax_seq ?_
     refine ax_region ?_
     refine al_run tt_ok rfl rfl ?_
     refine ax_cond rfl rfl (fun hc => ?_) (fun hc => ?_)
     ·
      replace h := cond_t hc h
      refine ax_skip ?_
      refine ax_seq ?_
      refine ax_block ?_
      refine ax_seq ?_
      obtain ⟨hG8, h⟩ := gd_some h
      refine ax_region ?_
      refine al_run tt_ok rfl (by simp only [hG8, ob, decide_true, cond_true, cond_false]) ?_
      refine ax_weak (Wk.frzC 9 gNd rfl rfl rfl) ?_
      refine ax_seq ?_
      obtain ⟨hG7, h⟩ := gd_some h
      simp only [Bool.and_eq_true] at hG7
      obtain ⟨hG7_0, hG7_1⟩ := hG7
      refine ax_draw [21, 22] (by kernel_rfl) rfl (N := 29) ?_
      refine ad_run (fuel := 0) (ds' := ⟨#[true, true, true, true, true, true, true, true, true, true, true, true, true, true, true, true, true, true, true, true, true, true, true, true, true, true, true, true, true], true, true, true⟩) tt_ok [(0, 0), (1, 1), (2, 0), (3, 0), (4, 0), (5, 1), (6, 0), (7, 0), (8, 0), (9, 0), (10, 1), (11, 0), (12, 0), (13, 0), (14, 0), (15, 0), (16, 0), (17, 0), (18, 1), (19, 0), (20, 3), (21, 0), (22, 0), (23, 0), (24, 0), (25, 1), (26, 0), (27, 0), (28, 0)] (by kernel_rfl) rfl (by revert hG7_0 hG7_1; generalize (decide ((a0.1.getD v4_1.toNat gNd.zero).2 < (13 : Int))) = b0; generalize (decide ((28 : Int) < (a0.1.getD v4_1.toNat gNd.zero).2)) = b1; generalize (decide ((1 : Int) < (a0.1.getD v4_1.toNat gNd.zero).1)) = b2; generalize (inB (v4_1 - (1 : Int)) a0.1.length) = b3; generalize (decide ((0 : Int) < v4_1)) = b4; generalize (inI64 (v4_1 - (1 : Int))) = b5; cases b0 <;> cases b1 <;> cases b2 <;> cases b3 <;> cases b4 <;> cases b5 <;> decide) ?_
      refine ad_done (by kernel_rfl) ?_
      refine ax_cond rfl rfl (fun hc => ?_) (fun hc => ?_)
      ·
       replace h := cond_t hc h
       refine ax_region ?_
       refine al_run tt_ok rfl rfl ?_
       obtain ⟨hG5, h⟩ := gd_some h
       refine ax_region ?_
       refine al_run tt_ok rfl (by simp only [hG5, ob, decide_true, cond_true, cond_false]) ?_
       refine ⟨(n, _, _), h, Nat.lt_succ_self _, (Wk.pick [7, 8, 1, 2, 3] [3] rfl rfl)⟩
      ·
       replace h := cond_f hc h
       refine ax_skip ?_
       obtain ⟨hG6, h⟩ := gd_some h
       refine ax_region ?_
       refine al_run tt_ok rfl (by simp only [hG6, ob, decide_true, cond_true, cond_false]) ?_
       refine ⟨(n, _, _), h, Nat.lt_succ_self _, (Wk.pick [7, 8, 1, 2, 3] [3] rfl rfl)⟩
     ·
      replace h := cond_f hc h
      refine ax_exit ?_
      exact ⟨_, (Option.some.inj h).symm, (Wk.pick [1, 2, 3, 7] [3] rfl rfl)⟩
    ·
     rintro _ rfl
     have h := hk3
     refine ax_seq ?_
     refine ax_seq ?_
     refine ax_region ?_
     refine al_run tt_ok rfl rfl ?_
     obtain ⟨o9, ho9, hk9⟩ := bd h
     refine ax_cutS (fun o9 : Int => ⟨[(1, .a (.c (.lst (.pair (.int .u8) (.pair (.int .u8) (.pair (.int .i64) (.pair (.int .i64) .bool)))) a1 c1))), (2, .a (.c (.val (.int .u8 a2)))), (3, .a (.c (.ptr 3 0))), (7, .a (.c (.val (.int .i64 o9))))], [(3, .cells 34 [.lst gNd a0.1 c0, .val (.int .u8 a0.2.1), .val (.int .u8 a0.2.2.1), .val (.int .u8 a0.2.2.2.1), .val (.int .u8 a0.2.2.2.2.1), .val (.int .u8 a0.2.2.2.2.2.1), .val (.int .u8 a0.2.2.2.2.2.2)])]⟩) (fun o' => o9 = o') ?_ ?_
     ·
      have h := ho9
      refine ax_block ?_
      refine ax_weak (Wk.pick [7, 10, 1, 2, 3] [3] rfl rfl) ?_
      refine ax_loopL (fun y : Nat × Int × Int => [(7, .a (.c (.val (.int .i64 y.2.1)))), (10, .a (.c (.val (.int .i64 y.2.2))))]) (fun y : Nat × Int × Int => []) (fun y : Nat × Int × Int => m_coursesErrors_L10 a0 y.1 y.2.1 y.2.2 = some o9) (fun y : Nat × Int × Int => y.1) (FUEL, o3, (0 : Int)) h ?_
      rintro ⟨n, v10_0, v10_1⟩ h
      replace h : m_coursesErrors_L10 a0 n v10_0 v10_1 = some o9 := h
      rcases n with _ | n
      · cases (show (none : Option _) = some _ from h)
      rw [m_coursesErrors_L10] at h
      try dsimp only
      refine ax_seq ?_
      refine ax_seq ?_
      refine ax_region ?_
      refine al_run tt_ok rfl rfl ?_
      refine ax_cond rfl rfl (fun hc => ?_) (fun hc => ?_)
      ·
       replace h := cond_t hc h
       refine ax_skip ?_
       refine ax_seq ?_
       refine ax_block ?_
       refine ax_seq ?_
       obtain ⟨hG13, h⟩ := gd_some h
       refine ax_region ?_
       refine al_upN 3 tt_ok rfl (by simp only [hG13, ob, decide_true, cond_true, cond_false]) ?_
       refine al_loadX (.int .u8) 1 6 v10_1 tt_ok rfl ⟨rfl, rfl⟩ rfl rfl rfl rfl rfl rfl (by simp only [hG13, ob, decide_true, cond_true, cond_false]) rfl rfl (by simp only [hG13, ob, decide_true, cond_true, cond_false]) (by simp only [hG13, ob, decide_true, cond_true, cond_false]) rfl ?_
       refine al_run tt_ok rfl (by simp only [hG13, ob, decide_true, cond_true, cond_false]) ?_
       refine ax_cond rfl rfl (fun hc => ?_) (fun hc => ?_)
       ·
        replace h := cond_t hc h
        refine ax_region ?_
        refine al_run tt_ok rfl rfl ?_
        obtain ⟨hG11, h⟩ := gd_some h
        refine ax_region ?_
        refine al_run tt_ok rfl (by simp only [hG11, ob, decide_true, cond_true, cond_false]) ?_
        refine ⟨(n, _, _), h, Nat.lt_succ_self _, (Wk.pick [7, 10, 1, 2, 3] [3] rfl rfl)⟩
       ·
        replace h := cond_f hc h
        refine ax_skip ?_
        obtain ⟨hG12, h⟩ := gd_some h
        refine ax_region ?_
        refine al_run tt_ok rfl (by simp only [hG12, ob, decide_true, cond_true, cond_false]) ?_
        refine ⟨(n, _, _), h, Nat.lt_succ_self _, (Wk.pick [7, 10, 1, 2, 3] [3] rfl rfl)⟩
      ·
       replace h := cond_f hc h
       refine ax_exit ?_
       exact ⟨_, (Option.some.inj h).symm, (Wk.pick [1, 2, 3, 7] [3] rfl rfl)⟩
     ·
      rintro _ rfl
      have h := hk9
      refine ax_seq ?_
      refine ax_seq ?_
      obtain ⟨r14, hr14, h⟩ := bd h
      refine ax_region ?_
      refine al_upto tt_ok rfl rfl ?_
      refine al_callP (w_cocheck _ c0 r14 hr14) rfl ⟨rfl, rfl⟩ rfl Tryd.func15 rfl rfl rfl rfl rfl rfl ?_
      refine al_run tt_ok rfl rfl ?_
      refine ax_cond rfl rfl (fun hc => ?_) (fun hc => ?_)
      ·
       replace h := cond_t hc h
       refine ax_seq ?_
       refine ax_region ?_
       refine al_run tt_ok rfl rfl ?_
       refine ax_ret ?_
       obtain rfl := Option.some.inj h
       refine ⟨_, (Wk.pick [6] [] rfl rfl), _, _, rfl, rfl, ?_⟩
       exact ⟨rfl, rfl⟩
      ·
       replace h := cond_f hc h
       refine ax_skip ?_
       refine ax_seq ?_
       refine ax_seq ?_
       refine ax_region ?_
       refine al_run tt_ok rfl rfl ?_
       obtain ⟨o15, ho15, hk15⟩ := bd h
       refine ax_cutS (fun o15 : Int => ⟨[(1, .a (.c (.lst (.pair (.int .u8) (.pair (.int .u8) (.pair (.int .i64) (.pair (.int .i64) .bool)))) a1 c1))), (2, .a (.c (.val (.int .u8 a2)))), (3, .a (.c (.ptr 3 0))), (7, .a (.c (.val (.int .i64 o15))))], [(3, .cells 34 [.lst gNd a0.1 c0, .val (.int .u8 a0.2.1), .val (.int .u8 a0.2.2.1), .val (.int .u8 a0.2.2.2.1), .val (.int .u8 a0.2.2.2.2.1), .val (.int .u8 a0.2.2.2.2.2.1), .val (.int .u8 a0.2.2.2.2.2.2)])]⟩) (fun o' => o15 = o') ?_ ?_
       ·
        have h := ho15
        refine ax_cond rfl rfl (fun hc => ?_) (fun hc => ?_)
        ·
         replace h := cond_t hc h
         obtain ⟨r16, hr16, h⟩ := bd h
         refine ax_region ?_
         refine al_upto tt_ok rfl rfl ?_
         refine al_callP (w_chrow _ c1 r16 hr16) rfl ⟨rfl, rfl⟩ rfl Tryd.func16 rfl rfl rfl rfl rfl rfl ?_
         refine al_run tt_ok rfl rfl ?_
         exact ⟨_, (Option.some.inj h).symm, (Wk.pick [1, 2, 3, 7] [3] rfl rfl)⟩
        ·
         replace h := cond_f hc h
         refine ax_skip ?_
         exact ⟨_, (Option.some.inj h).symm, (Wk.pick [1, 2, 3, 7] [3] rfl rfl)⟩
       ·
        rintro _ rfl
        have h := hk15
        refine ax_seq ?_
        refine ax_seq ?_
        obtain ⟨r17, hr17, h⟩ := bd h
        refine ax_draw [4] (by kernel_rfl) rfl (N := 10) ?_
        refine ad_run (fuel := 3) (ds' := ⟨#[true, true, true, true, false, true, true, true, false, false], true, true, true⟩) tt_ok [(0, 0), (1, 0), (2, 0), (3, 0), (5, 0), (6, 3), (7, 0)] (by kernel_rfl) rfl (by exact (by first | (generalize (decide (o15 = (0 : Int))) = b0; revert b0; decide) | (simp only [hg21, ob, decide_true, cond_true, cond_false]; done) | (simp_all; done) | (simp only [hg21, ob, decide_true, cond_true, cond_false]; rfl))) ?_
        refine ad_ready (by kernel_rfl) (ads_cons (i := 4) ?_ ads_nil)
        refine ado_guard (.c (.val (.int .i64 r17))) (i := 4) (listed' := #[true, true, true, true, true, true, true, true, false, false]) rfl rfl rfl rfl rfl rfl rfl rfl (fun hg21 => ?_) (fun hg21 => ?_)
        ·
          replace hr17 := cond_t hg21 hr17
          refine adx_call (i := 4) (listed' := #[true, true, true, true, true, true, true, true, false, false]) (pre' := true) [] (w_chneeds _ c1 r17 hr17) rfl rfl rfl rfl ⟨rfl, rfl⟩ rfl Tryd.func7 rfl rfl rfl (by exact (by first | (generalize (decide (o15 = (0 : Int))) = b0; revert b0; decide) | (simp only [hg21, ob, decide_true, cond_true, cond_false]; done) | (simp_all; done) | (simp only [hg21, ob, decide_true, cond_true, cond_false]; rfl))) rfl rfl PassH.nil ?_
          rintro _ _ ⟨rfl, rfl⟩
          refine ⟨_, _, rfl, rfl, ?_⟩
          refine ad_run (fuel := 0) (ds' := ⟨#[true, true, true, true, true, true, true, true, true, true], false, true, false⟩) tt_ok [(8, 0), (9, 0)] (by kernel_rfl) rfl (by exact (by first | (generalize (decide (o15 = (0 : Int))) = b0; revert b0; decide) | (simp only [hg21, ob, decide_true, cond_true, cond_false]; done) | (simp_all; done) | (simp only [hg21, ob, decide_true, cond_true, cond_false]; rfl))) ?_
          refine ad_done (by kernel_rfl) ?_
          obtain ⟨o18, ho18, hk18⟩ := bd h
          refine ax_cutS (fun o18 : Int => ⟨[(1, .a (.c (.lst (.pair (.int .u8) (.pair (.int .u8) (.pair (.int .i64) (.pair (.int .i64) .bool)))) a1 c1))), (2, .a (.c (.val (.int .u8 a2)))), (3, .a (.c (.ptr 3 0))), (7, .a (.c (.val (.int .i64 o18))))], [(3, .cells 34 [.lst gNd a0.1 c0, .val (.int .u8 a0.2.1), .val (.int .u8 a0.2.2.1), .val (.int .u8 a0.2.2.2.1), .val (.int .u8 a0.2.2.2.2.1), .val (.int .u8 a0.2.2.2.2.2.1), .val (.int .u8 a0.2.2.2.2.2.2)])]⟩) (fun o' => o18 = o') ?_ ?_
          ·
           have h := ho18
           refine ax_cond rfl rfl (fun hc => ?_) (fun hc => ?_)
           ·
            replace h := cond_t hc h
            refine ax_region ?_
            refine al_run tt_ok rfl rfl ?_
            exact ⟨_, (Option.some.inj h).symm, (Wk.pick [1, 2, 3, 7] [3] rfl rfl)⟩
           ·
            replace h := cond_f hc h
            refine ax_skip ?_
            exact ⟨_, (Option.some.inj h).symm, (Wk.pick [1, 2, 3, 7] [3] rfl rfl)⟩
          ·
           rintro _ rfl
           have h := hk18
           refine ax_seq ?_
           obtain ⟨r19, hr19, h⟩ := bd h
           refine ax_region ?_
           refine al_upto tt_ok rfl rfl ?_
           refine al_callP (w_prepare _ _ c0 c1 r19 hr19) rfl ⟨rfl, rfl⟩ rfl Tryd.func17 rfl rfl rfl rfl rfl rfl ?_
           refine al_run tt_ok rfl rfl ?_
           refine ax_seq ?_
           refine ax_seq ?_
           obtain ⟨hG25, h⟩ := gd_some h
           refine ax_region ?_
           refine al_run tt_ok rfl (by revert hG25; generalize (inI64 ((r19.1.length : Int) + (r19.2.1.length : Int))) = b0; generalize (decide (r19.2.2.2 = (0 : Int))) = b1; generalize (decide (r19.2.2.2 = o18)) = b2; revert b0 b1 b2; decide) ?_
           refine ax_cond rfl rfl (fun hc => ?_) (fun hc => ?_)
           ·
            replace h := cond_t hc h
            refine ax_seq ?_
            refine ax_region ?_
            refine al_run tt_ok rfl rfl ?_
            refine ax_ret ?_
            obtain rfl := Option.some.inj h
            refine ⟨_, (Wk.pick [6] [] rfl rfl), _, _, rfl, rfl, ?_⟩
            exact ⟨rfl, rfl⟩
           ·
            replace h := cond_f hc h
            refine ax_skip ?_
            refine ax_seq ?_
            refine ax_seq ?_
            refine ax_region ?_
            refine al_run tt_ok rfl (by generalize (decide (o18 = (0 : Int))) = b0; revert b0; decide) ?_
            obtain ⟨o20, ho20, hk20⟩ := bd h
            refine ax_cutS (fun o20 : Int => ⟨[(1, .a (.c (.lst (.pair (.int .u8) (.pair (.int .u8) (.pair (.int .i64) (.pair (.int .i64) .bool)))) a1 c1))), (2, .a (.c (.val (.int .u8 a2)))), (3, .a (.c (.ptr 3 0))), (7, .a (.c (.val (.int .i64 o20))))], [(3, .cells 34 [.lst gNd a0.1 c0, .val (.int .u8 a0.2.1), .val (.int .u8 a0.2.2.1), .val (.int .u8 a0.2.2.2.1), .val (.int .u8 a0.2.2.2.2.1), .val (.int .u8 a0.2.2.2.2.2.1), .val (.int .u8 a0.2.2.2.2.2.2)])]⟩) (fun o' => o20 = o') ?_ ?_
            ·
             have h := ho20
             refine ax_cond rfl rfl (fun hc => ?_) (fun hc => ?_)
             ·
              replace h := cond_t hc h
              refine ax_region ?_
              refine al_run tt_ok rfl rfl ?_
              exact ⟨_, (Option.some.inj h).symm, (Wk.pick [1, 2, 3, 7] [3] rfl rfl)⟩
             ·
              replace h := cond_f hc h
              refine ax_skip ?_
              exact ⟨_, (Option.some.inj h).symm, (Wk.pick [1, 2, 3, 7] [3] rfl rfl)⟩
            ·
             rintro _ rfl
             have h := hk20
             refine ax_seq ?_
             obtain ⟨r21, hr21, h⟩ := bd h
             refine ax_region ?_
             refine al_upto tt_ok rfl rfl ?_
             refine al_callP (w_course _ _ _ c0 c1 r21 hr21) rfl ⟨rfl, rfl⟩ rfl Tryd.func11 rfl rfl rfl rfl rfl rfl ?_
             refine al_run tt_ok rfl rfl ?_
             refine ax_weak (Wk.frzC 15 (.pair (.sl gNd) (.pair (.int .u8) (.pair (.int .u8) (.pair (.int .u8) g3)))) rfl rfl rfl) ?_
             refine ax_seq ?_
             obtain ⟨hG23, h⟩ := gd_some h
             obtain ⟨r22, hr22, h⟩ := bd h
             refine ax_region ?_
             refine al_upto tt_ok rfl (by revert hG23; generalize (decide (((r21.1.length : Int) + (r21.2.1.1.length : Int)) = (0 : Int))) = b0; generalize (inI64 ((r21.1.length : Int) + (r21.2.1.1.length : Int))) = b1; generalize (decide (r21.2.2 = (0 : Int))) = b2; generalize (decide (r21.2.2 = o20)) = b3; revert b0 b1 b2 b3; decide) ?_
             refine al_guard (.c (.val (.bool r22))) rfl rfl rfl rfl rfl (fun hq24 => ?_) (fun hq24 => ?_)
             ·
              replace hr22 := cond_t hq24 hr22
              try simp only [ob2, cond_true, cond_false] at hq24
              all_goals
               refine al_callP (w_lives30   r22 hr22) rfl ⟨rfl, rfl⟩ rfl Tryd.func14 rfl rfl rfl (by simp only [hG23, hq24, ob, decide_true, cond_true, cond_false]) rfl rfl ?_
               refine al_run tt_ok rfl (by simp only [hG23, hq24, ob, decide_true, cond_true, cond_false]) ?_
               refine ax_ret ?_
               obtain rfl := Option.some.inj h
               refine ⟨_, (Wk.pick [6] [] rfl rfl), _, _, rfl, rfl, ?_⟩
               exact ⟨rfl, rfl⟩
             ·
              try simp only [ob2, cond_true, cond_false] at hq24
              all_goals
               refine al_run tt_ok rfl (by simp only [hG23, hq24, ob, decide_true, cond_true, cond_false]) ?_
               refine ax_ret ?_
               obtain rfl := Option.some.inj h
               refine ⟨_, (Wk.pick [6] [] rfl rfl), _, _, rfl, rfl, ?_⟩
               exact ⟨rfl, rfl⟩
        ·
          refine ad_run (fuel := 0) (ds' := ⟨#[true, true, true, true, true, true, true, true, true, true], false, true, true⟩) tt_ok [(8, 0), (9, 0)] (by kernel_rfl) rfl (by exact (by first | (generalize (decide (o15 = (0 : Int))) = b0; revert b0; decide) | (simp only [hg21, ob, decide_true, cond_true, cond_false]; done) | (simp_all; done) | (simp only [hg21, ob, decide_true, cond_true, cond_false]; rfl))) ?_
          refine ad_done (by kernel_rfl) ?_
          obtain ⟨o18, ho18, hk18⟩ := bd h
          refine ax_cutS (fun o18 : Int => ⟨[(1, .a (.c (.lst (.pair (.int .u8) (.pair (.int .u8) (.pair (.int .i64) (.pair (.int .i64) .bool)))) a1 c1))), (2, .a (.c (.val (.int .u8 a2)))), (3, .a (.c (.ptr 3 0))), (7, .a (.c (.val (.int .i64 o18))))], [(3, .cells 34 [.lst gNd a0.1 c0, .val (.int .u8 a0.2.1), .val (.int .u8 a0.2.2.1), .val (.int .u8 a0.2.2.2.1), .val (.int .u8 a0.2.2.2.2.1), .val (.int .u8 a0.2.2.2.2.2.1), .val (.int .u8 a0.2.2.2.2.2.2)])]⟩) (fun o' => o18 = o') ?_ ?_
          ·
           have h := ho18
           refine ax_cond rfl rfl (fun hc => ?_) (fun hc => ?_)
           ·
            replace h := cond_t hc h
            refine ax_region ?_
            refine al_run tt_ok rfl rfl ?_
            exact ⟨_, (Option.some.inj h).symm, (Wk.pick [1, 2, 3, 7] [3] rfl rfl)⟩
           ·
            replace h := cond_f hc h
            refine ax_skip ?_
            exact ⟨_, (Option.some.inj h).symm, (Wk.pick [1, 2, 3, 7] [3] rfl rfl)⟩
          ·
           rintro _ rfl
           have h := hk18
           refine ax_seq ?_
           obtain ⟨r19, hr19, h⟩ := bd h
           refine ax_region ?_
           refine al_upto tt_ok rfl rfl ?_
           refine al_callP (w_prepare _ _ c0 c1 r19 hr19) rfl ⟨rfl, rfl⟩ rfl Tryd.func17 rfl rfl rfl rfl rfl rfl ?_
           refine al_run tt_ok rfl rfl ?_
           refine ax_seq ?_
           refine ax_seq ?_
           obtain ⟨hG25, h⟩ := gd_some h
           refine ax_region ?_
           refine al_run tt_ok rfl (by revert hG25; generalize (inI64 ((r19.1.length : Int) + (r19.2.1.length : Int))) = b0; generalize (decide (r19.2.2.2 = (0 : Int))) = b1; generalize (decide (r19.2.2.2 = o18)) = b2; revert b0 b1 b2; decide) ?_
           refine ax_cond rfl rfl (fun hc => ?_) (fun hc => ?_)
           ·
            replace h := cond_t hc h
            refine ax_seq ?_
            refine ax_region ?_
            refine al_run tt_ok rfl rfl ?_
            refine ax_ret ?_
            obtain rfl := Option.some.inj h
            refine ⟨_, (Wk.pick [6] [] rfl rfl), _, _, rfl, rfl, ?_⟩
            exact ⟨rfl, rfl⟩
           ·
            replace h := cond_f hc h
            refine ax_skip ?_
            refine ax_seq ?_
            refine ax_seq ?_
            refine ax_region ?_
            refine al_run tt_ok rfl (by generalize (decide (o18 = (0 : Int))) = b0; revert b0; decide) ?_
            obtain ⟨o20, ho20, hk20⟩ := bd h
            refine ax_cutS (fun o20 : Int => ⟨[(1, .a (.c (.lst (.pair (.int .u8) (.pair (.int .u8) (.pair (.int .i64) (.pair (.int .i64) .bool)))) a1 c1))), (2, .a (.c (.val (.int .u8 a2)))), (3, .a (.c (.ptr 3 0))), (7, .a (.c (.val (.int .i64 o20))))], [(3, .cells 34 [.lst gNd a0.1 c0, .val (.int .u8 a0.2.1), .val (.int .u8 a0.2.2.1), .val (.int .u8 a0.2.2.2.1), .val (.int .u8 a0.2.2.2.2.1), .val (.int .u8 a0.2.2.2.2.2.1), .val (.int .u8 a0.2.2.2.2.2.2)])]⟩) (fun o' => o20 = o') ?_ ?_
            ·
             have h := ho20
             refine ax_cond rfl rfl (fun hc => ?_) (fun hc => ?_)
             ·
              replace h := cond_t hc h
              refine ax_region ?_
              refine al_run tt_ok rfl rfl ?_
              exact ⟨_, (Option.some.inj h).symm, (Wk.pick [1, 2, 3, 7] [3] rfl rfl)⟩
             ·
              replace h := cond_f hc h
              refine ax_skip ?_
              exact ⟨_, (Option.some.inj h).symm, (Wk.pick [1, 2, 3, 7] [3] rfl rfl)⟩
            ·
             rintro _ rfl
             have h := hk20
             refine ax_seq ?_
             obtain ⟨r21, hr21, h⟩ := bd h
             refine ax_region ?_
             refine al_upto tt_ok rfl rfl ?_
             refine al_callP (w_course _ _ _ c0 c1 r21 hr21) rfl ⟨rfl, rfl⟩ rfl Tryd.func11 rfl rfl rfl rfl rfl rfl ?_
             refine al_run tt_ok rfl rfl ?_
             refine ax_weak (Wk.frzC 15 (.pair (.sl gNd) (.pair (.int .u8) (.pair (.int .u8) (.pair (.int .u8) g3)))) rfl rfl rfl) ?_
             refine ax_seq ?_
             obtain ⟨hG23, h⟩ := gd_some h
             obtain ⟨r22, hr22, h⟩ := bd h
             refine ax_region ?_
             refine al_upto tt_ok rfl (by revert hG23; generalize (decide (((r21.1.length : Int) + (r21.2.1.1.length : Int)) = (0 : Int))) = b0; generalize (inI64 ((r21.1.length : Int) + (r21.2.1.1.length : Int))) = b1; generalize (decide (r21.2.2 = (0 : Int))) = b2; generalize (decide (r21.2.2 = o20)) = b3; revert b0 b1 b2 b3; decide) ?_
             refine al_guard (.c (.val (.bool r22))) rfl rfl rfl rfl rfl (fun hq24 => ?_) (fun hq24 => ?_)
             ·
              replace hr22 := cond_t hq24 hr22
              try simp only [ob2, cond_true, cond_false] at hq24
              all_goals
               refine al_callP (w_lives30   r22 hr22) rfl ⟨rfl, rfl⟩ rfl Tryd.func14 rfl rfl rfl (by simp only [hG23, hq24, ob, decide_true, cond_true, cond_false]) rfl rfl ?_
               refine al_run tt_ok rfl (by simp only [hG23, hq24, ob, decide_true, cond_true, cond_false]) ?_
               refine ax_ret ?_
               obtain rfl := Option.some.inj h
               refine ⟨_, (Wk.pick [6] [] rfl rfl), _, _, rfl, rfl, ?_⟩
               exact ⟨rfl, rfl⟩
             ·
              try simp only [ob2, cond_true, cond_false] at hq24
              all_goals
               refine al_run tt_ok rfl (by simp only [hG23, hq24, ob, decide_true, cond_true, cond_false]) ?_
               refine ax_ret ?_
               obtain rfl := Option.some.inj h
               refine ⟨_, (Wk.pick [6] [] rfl rfl), _, _, rfl, rfl, ?_⟩
               exact ⟨rfl, rfl⟩
end Go.Proofs.YtihcolehefloeaaDoor

/- CoursesErrors, plain. -/
namespace Go.Proofs.YtihcolehefloeaaDoor
open Go.RowKit
theorem lives30_eq : m_lives30 = some true := by kernel_rfl
theorem ce4 (x : LoT) (v : Int) (hl : x.1.length ≤ 1000) : m_coursesErrors_L4 x FUEL v 0 = some (if ndsOk x.1 then v else 1) := by
  have e : gNd.zero = ((0, 0) : Int × Int) := rfl
  have hst : ∀ n k (w : Int), k < x.1.length → m_coursesErrors_L4 x (n + 1) w k = m_coursesErrors_L4 x n (if ndOk x.1 k then w else 1) ((k + 1 : Nat) : Int) := fun n k w hk => by
    rw [m_coursesErrors_L4, cdt (decide_eq_true (by omega)), Int.toNat_natCast, e, gdt (by simp [inB]; omega), show ((k : Int) - 1).toNat = k - 1 by omega]
    by_cases h1 : (x.1.getD k (0, 0)).1 ≤ 1 ∧ 13 ≤ (x.1.getD k (0, 0)).2 ∧ (x.1.getD k (0, 0)).2 ≤ 28
    · rw [decide_eq_false (show ¬ 1 < (x.1.getD k (0, 0)).1 by omega), decide_eq_false (show ¬ (x.1.getD k (0, 0)).2 < 13 by omega), decide_eq_false (show ¬ 28 < (x.1.getD k (0, 0)).2 by omega)]
      have hn : ndOk x.1 k = (decide (k = 0) || decide ((x.1.getD (k - 1) (0, 0)).2 < (x.1.getD k (0, 0)).2)) := by
        unfold ndOk
        rw [decide_eq_true h1.1, decide_eq_true h1.2.1, decide_eq_true h1.2.2]
        rfl
      by_cases h0 : k = 0
      · subst h0
        rw [gdt (by simp), cdf (by simp), gdt (by simp [inI64]), hn]
        rfl
      · rw [gdt (by simp [inI64, inB]; omega), decide_eq_true (show (0 : Int) < k by omega), hn, decide_eq_false h0, Bool.false_or]
        by_cases h5 : (x.1.getD (k - 1) (0, 0)).2 < (x.1.getD k (0, 0)).2
        · rw [decide_eq_false (show ¬ (x.1.getD k (0, 0)).2 ≤ (x.1.getD (k - 1) (0, 0)).2 by omega), cdf (by simp), gdt (by simp [inI64]; omega), decide_eq_true h5]
          rfl
        · rw [decide_eq_true (show (x.1.getD k (0, 0)).2 ≤ (x.1.getD (k - 1) (0, 0)).2 by omega), cdt (by simp), gdt (by simp [inI64]; omega), decide_eq_false h5]
          rfl
    · have hn : ndOk x.1 k = false := by
        simp only [ndOk, Bool.and_eq_false_iff, decide_eq_false_iff_not]
        by_cases q1 : (x.1.getD k (0, 0)).1 ≤ 1
        · by_cases q2 : 13 ≤ (x.1.getD k (0, 0)).2
          · exact .inr (.inr (.inl (by omega)))
          · exact .inr (.inl q2)
        · exact .inl q1
      have e2 : (cond (cond (decide ((1 : Int) < (x.1.getD k (0, 0)).1)) true (decide ((x.1.getD k (0, 0)).2 < (13 : Int)))) true (decide ((28 : Int) < (x.1.getD k (0, 0)).2))) = true := by
        simp only [Bool.cond_true_left, Bool.or_eq_true, decide_eq_true_eq]
        omega
      rw [e2, gdt (by simp), cdt (by simp), gdt (by simp [inI64]; omega), hn]
      rfl
  have := loopT (fun n (s : Int × Int) => m_coursesErrors_L4 x n s.1 s.2) x.1.length (fun k => ((if (List.range k).all (ndOk x.1) then v else 1), (k : Int))) (v, 0) (if ndsOk x.1 then v else 1) rfl (fuel_of (by omega)) (fun n k hk => by
    show m_coursesErrors_L4 x (n + 1) (if (List.range k).all (ndOk x.1) then v else 1) k = m_coursesErrors_L4 x n (if (List.range (k + 1)).all (ndOk x.1) then v else 1) ((k + 1 : Nat) : Int)
    rw [hst n k _ hk, List.range_succ, List.all_append]
    simp only [List.all_cons, List.all_nil, Bool.and_true]
    cases (List.range k).all (ndOk x.1) <;> cases ndOk x.1 k <;> rfl) (fun n => by
    show m_coursesErrors_L4 x (n + 1) _ (x.1.length : Int) = _
    rw [m_coursesErrors_L4, cdf (by simp)]
    rfl)
  exact this
theorem ce10 (x : LoT) (v : Int) : m_coursesErrors_L10 x FUEL v 0 = some (if sdsOk x then v else 1) := by
  have hst : ∀ n (k : Nat) (w : Int), k < 6 → m_coursesErrors_L10 x (n + 1) w k = m_coursesErrors_L10 x n (if sdOk x k then w else 1) ((k + 1 : Nat) : Int) := fun n k w hk => by
    rw [m_coursesErrors_L10, cdt (decide_eq_true (by omega)), gdt (by simp [inB]; omega), Int.toNat_natCast]
    show cond (decide (2 < (sides x).getD k 0)) _ _ = _
    unfold sdOk
    by_cases h : (sides x).getD k 0 ≤ 2
    · rw [cdf (decide_eq_false (by omega)), gdt (by simp [inI64]; omega), decide_eq_true h]; rfl
    · rw [cdt (decide_eq_true (by omega)), gdt (by simp [inI64]; omega), decide_eq_false h]; rfl
  have := loopT (fun n (s : Int × Int) => m_coursesErrors_L10 x n s.1 s.2) 6 (fun k => ((if (List.range k).all (sdOk x) then v else 1), (k : Int))) (v, 0) (if sdsOk x then v else 1) rfl (fuel_of (by omega)) (fun n k hk => by
    show m_coursesErrors_L10 x (n + 1) (if (List.range k).all (sdOk x) then v else 1) k = m_coursesErrors_L10 x n (if (List.range (k + 1)).all (sdOk x) then v else 1) ((k + 1 : Nat) : Int)
    rw [hst n k _ hk, List.range_succ, List.all_append]
    simp only [List.all_cons, List.all_nil, Bool.and_true]
    cases (List.range k).all (sdOk x) <;> cases sdOk x k <;> rfl) (fun n => by
    show m_coursesErrors_L10 x (n + 1) _ ((6 : Nat) : Int) = _
    rw [m_coursesErrors_L10, cdf (by simp)]
    rfl)
  exact this
theorem loErr_01 (x : LoT) : loErr x = 0 ∨ loErr x = 1 := by
  unfold loErr
  split
  · exact .inr rfl
  · split
    · split
      · exact .inl rfl
      · exact .inr rfl
    · exact .inr rfl
theorem prepare_bad {x : LoT} (l : List StT) (h : loErr x ≠ 0) : m_prepare x l = some ([], [], 0, loErr x) := by
  unfold m_prepare
  rw [cocheck_eq, Option.bind_some, cdt (by simpa using h)]
theorem prepare_row {x : LoT} {l : List StT} (h0 : loErr x = 0) (h : rowErr l ≠ 0) : m_prepare x l = some ([], [], 0, rowErr l) := by
  unfold m_prepare
  rw [cocheck_eq, h0, Option.bind_some, cdf (by simp), chrow_eq, Option.bind_some, cdt (by simpa using h)]
theorem prepare_count {x : LoT} {l : List StT} (h0 : loErr x = 0) (h : rowErr l = 0) (hn : sumTo need l l.length ≠ x.1.length) : m_prepare x l = some ([], [], 0, 14) := by
  have hr := row_of h
  unfold m_prepare
  rw [cocheck_eq, h0, Option.bind_some, cdf (by simp), chrow_eq, h, Option.bind_some, cdf (by simp), chneeds_eq l (by have := hr.len; omega), Option.bind_some, cdt (by rw [decide_eq_false hn]; rfl)]
theorem course_bad {x : LoT} {l : List StT} {e : Int} (d : Int) (h : m_prepare x l = some ([], [], 0, e)) (he : e ≠ 0) : m_course x l d = some ([], ([], 0, 0, 0, 0, 0, 0), e) := by
  unfold m_course
  rw [h, Option.bind_some, cdt (by simpa using he)]
theorem course_dir {x : LoT} {l : List StT} (d : Int) {o : List OpT} {m : List (List (Int × Int))} {c : Nat} (h : m_prepare x l = some (o, m, c, 0)) (hd : d ≠ 0 ∧ d ≠ 1) : m_course x l d = some ([], ([], 0, 0, 0, 0, 0, 0), 1) := by
  unfold m_course
  rw [h, Option.bind_some, cdf (by simp), cdt (by simp [hd.1, hd.2])]
theorem coursesErrors_eq (x : LoT) (l : List StT) (d : Int) (hd : 0 ≤ d) : m_coursesErrors x l d = some true := by
  unfold m_coursesErrors
  by_cases h20 : 20 < x.1.length ∨ 20 < l.length
  · rw [cdt (by simp only [Bool.cond_true_left, Bool.or_eq_true, decide_eq_true_eq]; omega), lives30_eq]; rfl
  · rw [cdf (by simp only [Bool.cond_true_left, Bool.or_eq_false_iff, decide_eq_false_iff_not]; omega)]
    have ho2 : cond (cond (decide ((x.1.length : Int) < (1 : Int))) true (decide ((16 : Int) < (x.1.length : Int)))) (some (1 : Int)) (some (0 : Int)) = some (if x.1.length < 1 ∨ 16 < x.1.length then 1 else 0) := by
      by_cases h : x.1.length < 1 ∨ 16 < x.1.length
      · rw [if_pos h, cdt (by simp only [Bool.cond_true_left, Bool.or_eq_true, decide_eq_true_eq]; omega)]
      · rw [if_neg h, cdf (by simp only [Bool.cond_true_left, Bool.or_eq_false_iff, decide_eq_false_iff_not]; omega)]
    have he : (if sdsOk x then (if ndsOk x.1 then (if x.1.length < 1 ∨ 16 < x.1.length then (1 : Int) else 0) else 1) else 1) = loErr x := by
      unfold loErr
      by_cases h : x.1.length < 1 ∨ 16 < x.1.length
      · rw [if_pos h, if_pos h]; split <;> (try split) <;> rfl
      · rw [if_neg h, if_neg h]
        cases ndsOk x.1 <;> cases sdsOk x <;> rfl
    rw [ho2, Option.bind_some, ce4 x _ (by omega), Option.bind_some, ce10, Option.bind_some, he, cocheck_eq, Option.bind_some, cdf (by simp)]
    have fin : ∀ (e : Int), e ≠ 0 → m_prepare x l = some ([], [], 0, e) → ∀ r17 : Int, (Option.bind (m_prepare x l) fun r19 =>
        gd ((!((!(!(decide (r19.2.2.2 = e)))) && (!(decide (r19.2.2.2 = (0 : Int))))) || (inI64 ((r19.1.length : Int) + (r19.2.1.length : Int))))) <|
        cond (cond (!(decide (r19.2.2.2 = e))) true (cond (!(decide (r19.2.2.2 = (0 : Int)))) (!(decide (((r19.1.length : Int) + (r19.2.1.length : Int)) = (0 : Int)))) false)) (some false) (Option.bind (cond (cond (decide (e = (0 : Int))) (decide ((1 : Int) < d)) false) (some (1 : Int)) (some e)) fun o20 =>
        Option.bind (m_course x l d) fun r21 =>
        gd ((!((decide (r21.2.2 = o20)) && !(decide (r21.2.2 = (0 : Int)))) || (inI64 ((r21.1.length : Int) + (r21.2.1.1.length : Int))))) <|
        Option.bind (cond (cond (decide (r21.2.2 = o20)) (cond (decide (r21.2.2 = (0 : Int))) true (decide (((r21.1.length : Int) + (r21.2.1.1.length : Int)) = (0 : Int)))) false) (m_lives30) (some default)) fun r22 =>
        some (cond (cond (decide (r21.2.2 = o20)) (cond (decide (r21.2.2 = (0 : Int))) true (decide (((r21.1.length : Int) + (r21.2.1.1.length : Int)) = (0 : Int)))) false) r22 false))) = some true := fun e hne hp _ => by
      rw [course_bad d hp hne, hp, Option.bind_some, lives30_eq]
      simp [hne, inI64, gd]
    by_cases h0 : loErr x = 0
    · rw [h0, cdt (by simp), chrow_eq, Option.bind_some, Option.bind_some]
      by_cases h1 : rowErr l = 0
      · have hr := row_of h1
        have hx := lo_of h0
        rw [h1, cdt (by simp), chneeds_eq l (by omega), Option.bind_some]
        by_cases hn : sumTo need l l.length = x.1.length
        · have hp := prepare_ok hx hr hn
          have e18 : cond (cond (decide ((0 : Int) = 0)) (!(decide (sumTo need l l.length = (x.1.length : Int)))) false) (some (14 : Int)) (some (0 : Int)) = some 0 := by
            rw [decide_eq_true hn]; rfl
          rw [e18, Option.bind_some, hp, Option.bind_some, gdt (by simp), cdf (by simp)]
          by_cases hd1 : 1 < d
          · have e20 : cond (cond (decide ((0 : Int) = 0)) (decide ((1 : Int) < d)) false) (some (1 : Int)) (some (0 : Int)) = some 1 := by rw [decide_eq_true hd1]; rfl
            rw [e20, Option.bind_some, course_dir d hp (by omega), Option.bind_some, lives30_eq]
            simp [inI64, gd]
          · have e20 : cond (cond (decide ((0 : Int) = 0)) (decide ((1 : Int) < d)) false) (some (1 : Int)) (some (0 : Int)) = some 0 := by rw [decide_eq_false hd1]; rfl
            rw [e20, Option.bind_some, course_ok hx hr hn d (by omega), Option.bind_some, lives30_eq, gdt (by simp)]
            simp
        · have e18 : cond (cond (decide ((0 : Int) = 0)) (!(decide (sumTo need l l.length = (x.1.length : Int)))) false) (some (14 : Int)) (some (0 : Int)) = some 14 := by
            rw [decide_eq_false hn]; rfl
          rw [e18, Option.bind_some]
          exact fin 14 (by omega) (prepare_count h0 h1 hn) 0
      · have e18 : ∀ r17 : Int, cond (cond (decide (rowErr l = 0)) (!(decide (r17 = (x.1.length : Int)))) false) (some (14 : Int)) (some (rowErr l)) = some (rowErr l) := fun r17 => by
          rw [decide_eq_false h1]; rfl
        rw [cdf (decide_eq_false h1), Option.bind_some, e18, Option.bind_some]
        exact fin _ h1 (prepare_row h0 h1) 0
    · have h01 : loErr x = 1 := (loErr_01 x).resolve_left h0
      have e18 : ∀ r17 : Int, cond (cond (decide (loErr x = 0)) (!(decide (r17 = (x.1.length : Int)))) false) (some (14 : Int)) (some (loErr x)) = some (loErr x) := fun r17 => by
        rw [decide_eq_false h0]; rfl
      rw [cdf (decide_eq_false h0), Option.bind_some, cdf (decide_eq_false h0), Option.bind_some, e18, Option.bind_some]
      exact fin _ h0 (prepare_bad l h0) 0
end Go.Proofs.YtihcolehefloeaaDoor

/- CoursesErrors: for every layout, every row of stitches and every direction, whatever the memory and the order that Go leaves open, the law returns true, and its arguments read as before. The listed package-level variables start as the program's text lays them (the card ties them). -/
namespace Go.Proofs.YtihcolehefloeaaDoor
set_option linter.unusedSimpArgs false
set_option linter.unusedVariables false
open Go.ChangeShapes Go.WideShapes Go.ChangeAt Go.WideElems Go.RowKit
theorem u8min : IntKind.u8.min = 0 := rfl
theorem globs_coursesErrors {W : World} (h : laidMetH Tryd.prog Rows.coursesErrorsRow.laid W) : GlobOk cx (fun b => b < W.heap.size) W := by
  rw [MakeChecks.laidMetH_plain _ _ _ (by kernel_rfl)] at h
  obtain ⟨ps, ⟨g0, t0, cs0, f0, p0, q0, hg0, ht0, hv0, hd0, ⟨g1, t1, cs1, f1, p1, q1, hg1, ht1, hv1, hd1, ⟨g2, t2, cs2, f2, p2, q2, hg2, ht2, hv2, hd2, ⟨g3, t3, cs3, f3, p3, q3, hg3, ht3, hv3, hd3, ⟨g4, t4, cs4, f4, p4, q4, hg4, ht4, hv4, hd4, ⟨g5, t5, cs5, f5, p5, q5, hg5, ht5, hv5, hd5, _, _⟩, _⟩, _⟩, _⟩, _⟩, _⟩, _, _⟩ := h
  have e4 := glob_id hg4 (by kernel_rfl : _ = some 0)
  subst e4
  have u4 := type_id ht4 (by kernel_rfl : _ = some 137)
  subst u4
  have c4 := cells_of_strs (zs := wordsL) (n := 9) Tryd.underlying137 Tryd.underlying9 (by kernel_rfl) (by kernel_rfl) hd4
  have e5 := glob_id hg5 (by kernel_rfl : _ = some 1)
  subst e5
  have u5 := type_id ht5 (by kernel_rfl : _ = some 138)
  subst u5
  have c5 := cells_of_strs (zs := dirsL) (n := 2) Tryd.underlying138 Tryd.underlying9 (by kernel_rfl) (by kernel_rfl) hd5
  have e0 := glob_id hg0 (by kernel_rfl : _ = some 2)
  subst e0
  have u0 := type_id ht0 (by kernel_rfl : _ = some 161)
  subst u0
  have c0 := Lib.cells_of_tab (zs := symbolsL) (k := .u8) (n := 8) Tryd.underlying161 Tryd.underlying5 (by kernel_rfl) (by kernel_rfl) hd0
  have e3 := glob_id hg3 (by kernel_rfl : _ = some 3)
  subst e3
  have u3 := type_id ht3 (by kernel_rfl : _ = some 186)
  subst u3
  have c3 := Lib.cells_of_tab (zs := Lib.pow10Tab) (k := .u64) (n := 20) Tryd.underlying186 Tryd.underlying177 (by kernel_rfl) (by kernel_rfl) hd3
  intro i x hx
  have hi : i = 0 ∨ i = 1 ∨ i = 2 ∨ i = 3 := by
    match i, hx with
    | 0, _ => exact .inl rfl
    | 1, _ => exact .inr (.inl rfl)
    | 2, _ => exact .inr (.inr (.inl rfl))
    | 3, _ => exact .inr (.inr (.inr rfl))
    | _ + 4, h => cases h
  rcases hi with rfl | rfl | rfl | rfl
  · cases hx
    exact gr_of hg4 hv4 (by rw [c4]; exact flat_of_strs _)
  · cases hx
    exact gr_of hg5 hv5 (by rw [c5]; exact flat_of_strs _)
  · cases hx
    exact gr_of hg0 hv0 (by rw [c0]; exact flat_of_ints _)
  · cases hx
    exact gr_of hg3 hv3 (by rw [c3]; exact flat_of_ints _)
theorem door_met_coursesErrors (os : Os) (args : Array Value) : laidMetH Tryd.prog Rows.coursesErrorsRow.laid ((World.doorLaid Tryd.prog 400 os).forCall (fun _ _ => 0) ⟨#[], args, []⟩).memory :=
  laidMetH_of_parts3 (fuel := 8) (laidMet_of_run' 8 (by kernel_rfl) (by kernel_rfl)) (by kernel_rfl) (by kernel_rfl)
theorem read_coursesErrors : ∀ t ∈ Tryd.f4.params.toList, Tryd.prog.readableRec t = true ∧ t < Tryd.prog.types.size := by
  rw [Tryd.params4]
  intro t ht
  simp only [List.mem_cons, List.not_mem_nil, or_false] at ht
  rcases ht with rfl | rfl | rfl <;> exact ⟨by kernel_rfl, of_decide_eq_true (by kernel_rfl)⟩
set_option maxRecDepth 100000 in
theorem coursesErrors_lifted (os : Os) (started : os.Started) (H : Type) (enc : TypeId × Value → H) :
    ReturnsInHanded {} Tryd.checked os 4 .any (fun w args => (Rows.coursesErrorsSpec.pre enc Tryd.prog Tryd.f4 [] false w args ∧ laidMetH Tryd.prog Rows.coursesErrorsRow.laid w) ∧ sizedMet enc Tryd.prog Tryd.f4 (OpenSpec.ofChange Rows.coursesErrorsSpec) false w args)
      (Rows.coursesErrorsSpec.post enc Tryd.prog Tryd.f4 false true false false) := by
  refine returnsInHanded_of_change_and (C := Tryd.checked) (X := fun w _ => laidMetH Tryd.prog Rows.coursesErrorsRow.laid w) (fun _ _ _ hh h => h.of_heap hh) Tryd.own started (by kernel_rfl) Tryd.func4
    (ChangeSpec.witness_shaped (enc := enc) (C := Tryd.checked) (os := os) (X := fun w _ => laidMetH Tryd.prog Rows.coursesErrorsRow.laid w) false (World.doorLaid Tryd.prog 400 os) #[.agg #[.slice none 0 0, .int .u8 0, .int .u8 0, .int .u8 0, .int .u8 0, .int .u8 0, .int .u8 0], .slice none 0 0, .int .u8 0] 8 rfl (World.shaped_of_RefB (by kernel_rfl) (by kernel_rfl)) (by kernel_rfl) (by kernel_rfl) (by kernel_rfl) (door_met_coursesErrors os _)) ?_
  intro W base args ds gs before hval0 hW _ _ hL _
  have hval : ∀ (j : Nat) t v, Tryd.f4.params[j]? = some t → args[j]? = some v → Value.okWide Tryd.prog W .any base t v := hval0
  have hW' := hW
  obtain ⟨p, q, hA0, hV, rfl, hfz, hnd⟩ := hW
  have hA : DataW.TrodAll enc Tryd.prog W 0 (fun _ => true) true Tryd.f4.params.toList args.toList ds p := hA0
  rw [Tryd.params4] at hA hval
  obtain ⟨v0, v1, v2, d0, d1, d2, p0, p1, p2, rfl, rfl, rfl, h0, h1, h2⟩ := trodAll_three hA
  obtain ⟨rfl, rfl⟩ := trodVars_none hV
  obtain ⟨x0, hx0, hv0⟩ := open_agg (g := (.pair (.sl gNd) (.pair (.int .u8) (.pair (.int .u8) (.pair (.int .u8) g3))))) tt_ok rfl rfl (by kernel_rfl) (hval 0 34 v0 rfl rfl) h0
  obtain ⟨x1, hx1, hv1⟩ := open_sl (g := (.pair (.int .u8) (.pair (.int .u8) (.pair (.int .i64) (.pair (.int .i64) .bool))))) (by decide) Tryd.underlying36 (by kernel_rfl) (tyG_dec tt_ok 12 48 (.pair (.int .u8) (.pair (.int .u8) (.pair (.int .i64) (.pair (.int .i64) .bool)))) (by kernel_rfl)) (hval 1 36 v1 rfl rfl) h1
  obtain ⟨x2, rfl, rfl, rfl, hw2⟩ := open_int Tryd.underlying5 (hval 2 5 v2 rfl rfl) h2
  have hx2 := wf_range hw2
  have hlaw := AC.law (W := W) (w_coursesErrors x0 x1 x2 none none true (coursesErrors_eq x0 x1 x2 (by have := hx2.1; rw [u8min] at this; exact this))) (globs_coursesErrors hL) (vs := [v0, v1, .int .u8 x2]) ⟨v0, _, rfl, hv0 _ _ rfl, v1, _, rfl, hv1 _, .int .u8 x2, _, rfl, rfl, rfl⟩
  refine Calls.mono hlaw fun e W' ⟨v, he, hv, hw⟩ => ?_
  subst hv
  exact ⟨_, he, post_law hW' rfl rfl (by kernel_rfl) Tryd.underlying4 Tryd.laidOut read_coursesErrors hw⟩
theorem coursesErrors_row : Rows.CoursesErrorsSaid :=
  OpenClaim.holds_of_wide 4 Tryd.f4 rfl rfl rfl rfl rfl rfl rfl ⟨rfl, rfl, rfl, rfl, rfl⟩ rfl rfl rfl rfl rfl (by kernel_rfl) Tryd.func4 (by kernel_rfl)
    (of_decide_eq_true (by kernel_rfl)) (by unfold Func.isWrapper; first | (rw [if_pos (by decide +kernel)]; kernel_rfl) | (rw [if_neg (by decide +kernel)]; exact ⟨rfl, rfl⟩))
    (fun os started H enc _ => coursesErrors_lifted os started H enc)
theorem coursesErrors_holds : Rows.CoursesErrorsCardSaid :=
  Claim7.holds_tied_plain_at .later [] [.data, .data, .data, .data, .data, .data] true Rows.coursesErrorsCard.stood.harness false
    coursesErrors_row (fun _ h => by cases h) (by kernel_rfl) (fun _ h => by cases h) coursesErrors_row_tie rfl ⟨rfl, rfl⟩ (by kernel_rfl) rfl
    (fun f fn hf hfn => by
      obtain rfl : f = 4 := Option.some.inj (hf.symm.trans (by kernel_rfl))
      obtain rfl : fn = Tryd.f4 := (Option.some.inj (Tryd.func4.symm.trans hfn)).symm
      exact ⟨by kernel_rfl, fun j t ht => by
        rw [Tryd.params4] at ht
        have hm : t ∈ [34, 36, 5] := by simpa using Array.mem_of_getElem? ht
        have hall : ([34, 36, 5].all fun u => !Tryd.prog.wantsStandIn u) = true := by kernel_rfl
        exact (show Tryd.prog.wantsStandIn t = false by simpa using List.all_eq_true.1 hall t hm)⟩)
    (by kernel_rfl)
end Go.Proofs.YtihcolehefloeaaDoor
