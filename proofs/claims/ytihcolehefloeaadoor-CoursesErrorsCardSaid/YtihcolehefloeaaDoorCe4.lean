/- Part 4 of 7 of the proof. -/
import Derived.Test.YtihcolehefloeaaDoorCe3
import Derived.Shelf.Slices.CompactI
import Derived.Shelf.Strconv.Itoa3
import Derived.Room.Shelf.Join48
import Derived.Test.YtihcolehefloeaaDoorProg
set_option linter.unusedSimpArgs false
set_option linter.unusedVariables false
/- shifts.Shift: the places to which slots go are a row of the caller's own. -/
namespace Go.Proofs.YtihcolehefloeaaDoor
open Go.RowKit
set_option maxHeartbeats 1000000 in
theorem shift_own (fr to : List Int) (c1 c2 : Option Nat) (h1 : fr.length ≤ 1000000) (h2 : to.length ≤ 1000000) : AC cx 8 [.c (.lst (.int .i64) fr c1), .c (.sl 2000000)] [(2000000, .row 3 (.int .i64) to c2)] (fun sv h => sv = shiftR fr to ∧ h = [(2000000, .row 3 (.int .i64) to c2)]) := by
  refine ac_bodyM tt_ok Tryd.func8 rfl Tryd.ntmps8 rfl rfl (res := [.tmp 4, .tmp 5]) rfl ?_
  refine ax_seq ?_
  refine ax_region ?_
  refine al_run tt_ok rfl rfl ?_
  refine ax_seq ?_
  refine ax_seq ?_
  refine ax_region ?_
  refine al_upto tt_ok rfl rfl ?_
  refine al_callP (check_ok fr c1 (by omega)) rfl ⟨rfl, rfl⟩ rfl Tryd.func26 rfl rfl rfl rfl rfl rfl ?_
  refine al_run tt_ok rfl rfl ?_
  refine ax_seq ?_
  refine ax_region ?_
  refine al_run tt_ok rfl rfl ?_
  refine ax_cond rfl rfl (fun hc2 => ?_) (fun hc2 => ?_)
  ·
    refine ax_seq ?_
    refine ax_region ?_
    refine al_run tt_ok rfl rfl ?_
    refine ax_ret ?_
    refine ⟨rfl, _, Wk.sub (st' := ⟨[(4, _), (5, _)], [(2000000, _)]⟩) (SubL.cons rfl (SubL.cons rfl SubL.nil)) (SubH.cons rfl rfl SubH.nil), _, _, rfl, rfl, ?_⟩
    have hf : chkAll fr = false := by
      cases h : chkAll fr with
      | false => rfl
      | true => rw [h] at hc2; simp at hc2
    rw [shiftR, if_pos hf, hf]
    exact ⟨rfl, rfl⟩
  ·
    refine ax_skip ?_
    refine ax_seq ?_
    refine ax_seq ?_
    have hf : chkAll fr = true := by
      cases h : chkAll fr with
      | true => rfl
      | false => rw [h] at hc2; simp at hc2
    have hf' : ¬ chkAll fr = false := by rw [hf]; simp
    have hfl := chk_len fr hf
    refine ax_region ?_
    refine al_run tt_ok rfl rfl ?_
    refine ax_cond rfl rfl (fun hc4 => ?_) (fun hc4 => ?_)
    ·
      refine ax_seq ?_
      refine ax_region ?_
      refine al_run tt_ok rfl rfl ?_
      refine ax_ret ?_
      refine ⟨rfl, _, Wk.sub (st' := ⟨[(4, _), (5, _)], [(2000000, _)]⟩) (SubL.cons rfl (SubL.cons rfl SubL.nil)) (SubH.cons rfl rfl SubH.nil), _, _, rfl, rfl, ?_⟩
      have hne : to.length ≠ fr.length := by simp at hc4; omega
      rw [shiftR, if_neg hf', if_pos hne]
      exact ⟨rfl, rfl⟩
    ·
      refine ax_skip ?_
      refine ax_seq ?_
      refine ax_seq ?_
      have hlen : to.length = fr.length := by simp at hc4; omega
      refine ax_region ?_
      refine al_run tt_ok rfl rfl ?_
      refine ax_block ?_
      refine ax_weak (st' := ⟨[(33, _), (0, _), (1, _), (31, _), (32, _)], [(2000000, _)]⟩) (Wk.sub (SubL.cons rfl (SubL.cons rfl (SubL.cons rfl (SubL.cons rfl (SubL.cons rfl SubL.nil))))) (SubH.cons rfl rfl SubH.nil)) ?_
      refine ax_loopL (fun x : Int => [(33, .c (.val (.int .i64 x)))]) (fun x : Int => []) (fun x : Int => 0 ≤ x ∧ x ≤ to.length ∧ ∀ i : Nat, i < x → toAt to i = true) (fun x : Int => (to.length - x).toNat) (0) (⟨by omega, by omega, fun i hi => by omega⟩) ?_
      rintro x ⟨hx0, hx1, hx2⟩
      refine ax_seq ?_
      refine ax_region ?_
      refine al_run tt_ok rfl rfl ?_
      refine ax_seq ?_
      refine ax_cond rfl rfl (fun hc7 => ?_) (fun hc7 => ?_)
      ·
        refine ax_skip ?_
        refine ax_seq ?_
        refine ax_block ?_
        refine ax_seq ?_
        have hlt : x < to.length := by simpa using hc7
        refine ax_region ?_
        refine al_run tt_ok rfl (by simp only [inB, inI64, fitB, GTy.zero, Bool.and_eq_true, Bool.or_eq_true, Bool.not_eq_true', Bool.and_true, Bool.true_and, Bool.or_true, Bool.true_or, decide_eq_true_eq, decide_eq_false_iff_not, true_and, and_true]; omega) ?_
        refine ax_seq ?_
        refine ax_region ?_
        refine al_run tt_ok rfl (by simp [inB, inI64, fitB, GTy.zero]; omega) ?_
        refine ax_cond rfl rfl (fun hc9 => ?_) (fun hc9 => ?_)
        ·
          refine ax_seq ?_
          refine ax_region ?_
          refine al_run tt_ok rfl rfl ?_
          refine ax_ret ?_
          refine ⟨rfl, _, Wk.sub (st' := ⟨[(4, _), (5, _)], [(2000000, _)]⟩) (SubL.cons rfl (SubL.cons rfl SubL.nil)) (SubH.cons rfl rfl SubH.nil), _, _, rfl, rfl, ?_⟩
          have ht : chkTo to = false := by
            rw [chkTo, List.all_eq_false]
            refine ⟨x.toNat, by simp; omega, ?_⟩
            rw [toAt, Int.toNat_of_nonneg hx0]
            simp [GTy.zero] at hc9 ⊢
            omega
          rw [shiftR, if_neg hf', if_neg (by omega), if_pos ht]
          exact ⟨rfl, rfl⟩
        ·
          refine ax_skip ?_
          refine ax_region ?_
          refine al_run tt_ok rfl (by simp only [inB, inI64, fitB, GTy.zero, Bool.and_eq_true, Bool.or_eq_true, Bool.not_eq_true', Bool.and_true, Bool.true_and, Bool.or_true, Bool.true_or, decide_eq_true_eq, decide_eq_false_iff_not, true_and, and_true]; omega) ?_
          have hnext : ∀ i : Nat, (i : Int) < x + 1 → toAt to i = true := by
            intro i hi
            by_cases hix : (i : Int) < x
            · exact hx2 i hix
            · have : (i : Int) = x := by omega
              rw [toAt, this]
              simp [GTy.zero] at hc9 ⊢
              omega
          refine ⟨x + 1, ⟨by omega, by omega, fun i hi => hnext i hi⟩, (by dsimp only; omega), Wk.sub (by repeat (first | exact SubL.nil | refine SubL.cons rfl ?_)) (SubH.cons rfl rfl SubH.nil)⟩
      ·
        refine ax_exit ?_
        refine ax_seq ?_
        have ht : chkTo to = true := by
          rw [chkTo, List.all_eq_true]
          intro i hi
          have h5 : ¬ x < to.length := by simpa using hc7
          exact hx2 i (by simp at hi; omega)
        clear hx2 hx1 hx0 hc7
        refine ax_region ?_
        refine al_run tt_ok rfl rfl ?_
        refine ax_mv 9 700009 rfl ?_
        refine ax_weak (Wk.nilC 700009 0 9 45 gOp rfl) ?_
        refine ax_seq ?_
        refine ax_region ?_
        refine al_run tt_ok rfl rfl ?_
        refine ax_weak (Wk.nilC 10 0 12 3 (.int .i64) rfl) ?_
        refine ax_weak (Wk.nilC 11 0 13 3 (.int .i64) rfl) ?_
        refine ax_seq ?_
        refine ax_seq ?_
        refine ax_region ?_
        refine al_run tt_ok rfl rfl ?_
        refine ax_block ?_
        refine ax_weak (st' := ⟨[(60, _), (0, _), (1, _), (9, _), (10, _), (11, _), (58, _), (59, _)], [(700009, _), (9, _), (12, _), (13, _), (10, _), (11, _), (2000000, _)]⟩) (Wk.sub (SubL.cons rfl (SubL.cons rfl (SubL.cons rfl (SubL.cons rfl (SubL.cons rfl (SubL.cons rfl (SubL.cons rfl (SubL.cons rfl SubL.nil)))))))) (SubH.cons rfl rfl (SubH.cons rfl rfl (SubH.cons rfl rfl (SubH.cons rfl rfl (SubH.cons rfl rfl (SubH.cons rfl rfl (SubH.cons rfl rfl SubH.nil)))))))) ?_
        refine ax_loopL (fun y : Int × (List OpT × Int) × (List Int × List Int) => [(60, .c (.val (.int .i64 y.1)))]) (fun y : Int × (List OpT × Int) × (List Int × List Int) => [(700009, .cells 79 [.sl 9, .val (.int .i64 y.2.1.2)]), (9, .row 45 gOp y.2.1.1 none), (12, .row 3 (.int .i64) y.2.2.1 none), (13, .row 3 (.int .i64) y.2.2.2 none), (10, .cells 42 [.sl 12]), (11, .cells 42 [.sl 13])]) (fun y : Int × (List OpT × Int) × (List Int × List Int) => 0 ≤ y.1 ∧ y.1 ≤ fr.length ∧ st1 fr to y.1.toNat = y.2 ∧ y.2.1.1.length ≤ 3280 * y.1.toNat ∧ -2000 ≤ y.2.1.2 ∧ y.2.1.2 ≤ 2000 ∧ y.2.2.1.length ≤ y.1.toNat ∧ y.2.2.2.length = y.2.2.1.length) (fun y : Int × (List OpT × Int) × (List Int × List Int) => (fr.length - y.1).toNat) ((0, (([], 0), ([], [])))) (⟨by simp, by simp, rfl, by simp, by simp, by simp, by simp, by simp⟩) ?_
        rintro ⟨x, ⟨o, rk⟩, at_, by_⟩ ⟨hx0, hx1, hst, hol, hr1, hr2, hal, hbl⟩
        refine ax_seq ?_
        refine ax_region ?_
        refine al_run tt_ok rfl rfl ?_
        refine ax_seq ?_
        refine ax_cond rfl rfl (fun hc15 => ?_) (fun hc15 => ?_)
        ·
          refine ax_skip ?_
          refine ax_seq ?_
          refine ax_block ?_
          refine ax_seq ?_
          dsimp only at hx0 hx1 hst hol hr1 hr2 hal hbl
          have hlt : x < fr.length := by simpa using hc15
          refine ax_region ?_
          refine al_run tt_ok rfl (by simp only [inB, inI64, fitB, GTy.zero, Bool.and_eq_true, Bool.or_eq_true, Bool.not_eq_true', Bool.and_true, Bool.true_and, Bool.or_true, Bool.true_or, decide_eq_true_eq, decide_eq_false_iff_not, true_and, and_true]; omega) ?_
          refine ax_seq ?_
          refine ax_seq ?_
          apply ax_cut
          ·
            refine ax_draw [] (by kernel_rfl) rfl (N := 17) ?_
            refine ad_run (fuel := 4) (ds' := ⟨#[true, true, true, true, true, true, true, true, true, false, true, true, true, true, false, false, false], true, true, true⟩) tt_ok [(0, 0), (1, 0), (2, 0), (3, 0), (4, 0), (5, 0), (6, 0), (7, 0), (8, 0), (10, 0), (11, 0), (12, 0), (13, 0)] (by kernel_rfl) rfl (by simp only [inB, inI64, fitB, GTy.zero, Bool.and_eq_true, Bool.or_eq_true, Bool.not_eq_true', Bool.and_true, Bool.true_and, Bool.or_true, Bool.true_or, decide_eq_true_eq, decide_eq_false_iff_not, true_and, and_true]; omega) ?_
            refine ad_ready (by kernel_rfl) (ads_cons (i := 9) ?_ (ads_cons (i := 14) ?_ ads_nil))
            ·
              refine ado_step tt_ok (i := 9) rfl rfl rfl (by simp only [inB, inI64, fitB, GTy.zero, Bool.and_eq_true, Bool.or_eq_true, Bool.not_eq_true', Bool.and_true, Bool.true_and, Bool.or_true, Bool.true_or, decide_eq_true_eq, decide_eq_false_iff_not, true_and, and_true]; omega) rfl ?_
              refine ad_run (fuel := 0) (ds' := ⟨#[true, true, true, true, true, true, true, true, true, true, true, true, true, true, true, true, true], false, false, true⟩) tt_ok [(14, 2), (15, 0), (16, 0)] (by kernel_rfl) rfl (by simp only [inB, inI64, fitB, GTy.zero, Bool.and_eq_true, Bool.or_eq_true, Bool.not_eq_true', Bool.and_true, Bool.true_and, Bool.or_true, Bool.true_or, decide_eq_true_eq, decide_eq_false_iff_not, true_and, and_true]; omega) ?_
              refine ad_done (by kernel_rfl) ?_
              exact ⟨rfl, Wk.pick [0, 1, 9, 10, 11, 12, 13, 58, 59, 60, 61, 62, 63, 64, 65, 66, 67, 68, 69, 70, 71, 72, 73, 74, 75, 76, 77, 78, 79, 80, 81] [700009, 9, 12, 13, 10, 11, 2000000] rfl rfl⟩
            ·
              refine ado_step tt_ok (i := 14) rfl rfl rfl (by simp only [inB, inI64, fitB, GTy.zero, Bool.and_eq_true, Bool.or_eq_true, Bool.not_eq_true', Bool.and_true, Bool.true_and, Bool.or_true, Bool.true_or, decide_eq_true_eq, decide_eq_false_iff_not, true_and, and_true]; omega) rfl ?_
              refine ad_run (fuel := 0) (ds' := ⟨#[true, true, true, true, true, true, true, true, true, true, true, true, true, true, true, true, true], false, false, true⟩) tt_ok [(9, 2), (15, 0), (16, 0)] (by kernel_rfl) rfl (by simp only [inB, inI64, fitB, GTy.zero, Bool.and_eq_true, Bool.or_eq_true, Bool.not_eq_true', Bool.and_true, Bool.true_and, Bool.or_true, Bool.true_or, decide_eq_true_eq, decide_eq_false_iff_not, true_and, and_true]; omega) ?_
              refine ad_done (by kernel_rfl) ?_
              exact ⟨rfl, Wk.pick [0, 1, 9, 10, 11, 12, 13, 58, 59, 60, 61, 62, 63, 64, 65, 66, 67, 68, 69, 70, 71, 72, 73, 74, 75, 76, 77, 78, 79, 80, 81] [700009, 9, 12, 13, 10, 11, 2000000] rfl rfl⟩
          refine ax_cond rfl rfl (fun hc17 => ?_) (fun hc17 => ?_)
          ·
            refine ax_seq ?_
            have hcc : x + 1 < fr.length ∧ to.getD x.toNat 0 = to.getD (x + 1).toNat 0 := by
              have h5 := hc17
              simp only [GTy.zero, Bool.cond_false_right, Bool.and_eq_true, decide_eq_true_eq] at h5
              exact h5
            have hk1 := chk_mem fr hf x hx0 hlt
            have hk2 := chk_mem fr hf (x + 1) (by omega) hcc.1
            have hseg : (fr.take (x + 1).toNat).drop x.toNat = [fr.getD x.toNat 0] := by
              rw [take_next _ _ hx0 hlt, List.drop_append_of_le_length (by simp; omega)]
              simp
            let nx : Int × (List OpT × Int) × (List Int × List Int) := (x + 1, (moveAll o rk ((fr.take (x + 1).toNat).drop x.toNat) (fr.getD (x + 1).toNat 0 - fr.getD x.toNat 0), (at_, by_)))
            have hn1 : nx.1 = x + 1 := rfl
            have exn : (x + 1).toNat = x.toNat + 1 := by omega
            have hmb := moveAll_bounds o rk ((fr.take (x + 1).toNat).drop x.toNat) (fr.getD (x + 1).toNat 0 - fr.getD x.toNat 0) (by rw [hseg]; intro k hk; simp only [List.mem_singleton] at hk; omega) (by omega) (by rw [hseg]; simp) ⟨hr1, hr2⟩
            have hnx : 0 ≤ nx.1 ∧ nx.1 ≤ fr.length ∧ st1 fr to nx.1.toNat = nx.2 ∧ nx.2.1.1.length ≤ 3280 * nx.1.toNat ∧ -2000 ≤ nx.2.1.2 ∧ nx.2.1.2 ≤ 2000 ∧ nx.2.2.1.length ≤ nx.1.toNat ∧ nx.2.2.2.length = nx.2.2.1.length := by
              refine ⟨by show 0 ≤ x + 1; omega, by show x + 1 ≤ _; omega, ?_, ?_, hmb.2.1, hmb.2.2, ?_, hbl⟩
              · show st1 fr to (x + 1).toNat = (moveAll o rk ((fr.take (x + 1).toNat).drop x.toNat) (fr.getD (x + 1).toNat 0 - fr.getD x.toNat 0), (at_, by_))
                rw [hseg, exn, st1, if_pos ⟨by omega, by rw [← exn]; exact hcc.2⟩, hst]
              · show (moveAll o rk ((fr.take (x + 1).toNat).drop x.toNat) (fr.getD (x + 1).toNat 0 - fr.getD x.toNat 0)).1.length ≤ 3280 * (x + 1).toNat
                omega
              · show at_.length ≤ (x + 1).toNat
                omega
            refine ax_draw [] (by kernel_rfl) rfl (N := 13) ?_
            refine ad_run (fuel := 1) (ds' := ⟨#[true, true, true, true, true, true, true, true, true, true, true, true, false], true, true, true⟩) tt_ok [(0, 0), (1, 0), (2, 0), (3, 0), (4, 0), (5, 0), (6, 0), (7, 0), (8, 0), (9, 1), (10, 0), (11, 0)] (by kernel_rfl) rfl (by simp only [inB, inI64, fitB, GTy.zero, Bool.and_eq_true, Bool.or_eq_true, Bool.not_eq_true', Bool.and_true, Bool.true_and, Bool.or_true, Bool.true_or, decide_eq_true_eq, decide_eq_false_iff_not, true_and, and_true]; omega) ?_
            refine ad_ready (by kernel_rfl) (ads_cons (i := 12) ?_ ads_nil)
            refine ado_of rfl ?_
            refine adx_call (i := 12) (listed' := #[true, true, true, true, true, true, true, true, true, true, true, true, true]) (pre' := false) [(1000000, 700009), (1000001, 9)] (move_ok o rk ((fr.take (x + 1).toNat).drop x.toNat) (fr.getD (x + 1).toNat 0 - fr.getD x.toNat 0) (capLess c1 x.toNat) (by rw [hseg]; simp) (by rw [hseg]; simp) (by omega) (by omega) (by rw [hseg]; intro k hk; simp only [List.mem_singleton] at hk; omega) ⟨hr1, hr2⟩) rfl rfl rfl rfl ⟨rfl, rfl⟩ rfl Tryd.func27 rfl rfl rfl rfl rfl rfl (PassH.cons rfl rfl rfl (PassH.cons rfl rfl rfl PassH.nil)) ?_
            rintro _ _ ⟨rfl, rfl⟩
            refine ⟨_, _, rfl, rfl, ?_⟩
            refine ad_done (by kernel_rfl) ?_
            refine ax_exit ?_
            refine ax_region ?_
            refine al_run tt_ok rfl (by simp only [inB, inI64, fitB, GTy.zero, Bool.and_eq_true, Bool.or_eq_true, Bool.not_eq_true', Bool.and_true, Bool.true_and, Bool.or_true, Bool.true_or, decide_eq_true_eq, decide_eq_false_iff_not, true_and, and_true]; omega) ?_
            refine ⟨nx, hnx, (by dsimp only; omega), Wk.sub (by repeat (first | exact SubL.nil | refine SubL.cons rfl ?_)) (SubH.cons rfl rfl (SubH.cons rfl rfl (SubH.cons rfl rfl (SubH.cons rfl rfl (SubH.cons rfl rfl (SubH.cons rfl rfl (SubH.cons rfl rfl SubH.nil)))))))⟩
          ·
            refine ax_skip ?_
            have hcc : ¬ (x + 1 < fr.length ∧ to.getD x.toNat 0 = to.getD (x + 1).toNat 0) := by
              intro h6
              have h5 := hc17
              simp only [GTy.zero, Bool.cond_false_right, Bool.and_eq_false_iff, decide_eq_false_iff_not] at h5
              rcases h5 with h5 | h5
              · exact h5 h6.1
              · exact h5 h6.2
            have hk1 := chk_mem fr hf x hx0 hlt
            have hk2 := to_mem to ht x hx0 (by omega)
            let nx : Int × (List OpT × Int) × (List Int × List Int) := (x + 1, ((o, rk), (at_ ++ [fr.getD x.toNat 0], by_ ++ [to.getD x.toNat 0 - fr.getD x.toNat 0])))
            have hn1 : nx.1 = x + 1 := rfl
            have exn : (x + 1).toNat = x.toNat + 1 := by omega
            have hnx : 0 ≤ nx.1 ∧ nx.1 ≤ fr.length ∧ st1 fr to nx.1.toNat = nx.2 ∧ nx.2.1.1.length ≤ 3280 * nx.1.toNat ∧ -2000 ≤ nx.2.1.2 ∧ nx.2.1.2 ≤ 2000 ∧ nx.2.2.1.length ≤ nx.1.toNat ∧ nx.2.2.2.length = nx.2.2.1.length := by
              refine ⟨by show 0 ≤ x + 1; omega, by show x + 1 ≤ _; omega, ?_, ?_, hr1, hr2, ?_, ?_⟩
              · show st1 fr to (x + 1).toNat = _
                rw [exn, st1, if_neg (fun h6 => hcc ⟨by omega, by rw [exn]; exact h6.2⟩), hst]
              · show o.length ≤ 3280 * (x + 1).toNat
                omega
              · show (at_ ++ [_]).length ≤ (x + 1).toNat
                rw [List.length_append, List.length_singleton]
                omega
              · show (by_ ++ [_]).length = (at_ ++ [_]).length
                rw [List.length_append, List.length_append, List.length_singleton, List.length_singleton, hbl]
            apply ax_cut
            ·
              refine ax_draw [1, 2, 3, 4, 5, 6, 7, 8, 9, 10, 11] (by kernel_rfl) rfl (N := 15) ?_
              refine ad_run (fuel := 8) (ds' := ⟨#[true, true, false, false, true, true, true, true, false, true, false, false, false, false, false], true, true, true⟩) tt_ok [(0, 3), (1, 0), (4, 3), (5, 0), (6, 0), (7, 0), (9, 0)] (by kernel_rfl) rfl (by simp only [inB, inI64, fitB, GTy.zero, GTy.size, List.length_singleton, Bool.and_eq_true, Bool.or_eq_true, Bool.not_eq_true', Bool.and_true, Bool.true_and, Bool.or_true, Bool.true_or, decide_eq_true_eq, decide_eq_false_iff_not, true_and, and_true]; omega) ?_
              refine ad_ready (by kernel_rfl) (ads_cons (i := 2) ?_ (ads_cons (i := 8) ?_ ads_nil))
              ·
                refine ado_keep tt_ok (i := 2) rfl rfl rfl rfl rfl ?_
                refine ad_ready (by kernel_rfl) (ads_cons (i := 3) ?_ (ads_cons (i := 8) ?_ ads_nil))
                ·
                  refine ado_keep tt_ok (i := 3) rfl rfl rfl (by simp only [inB, inI64, fitB, GTy.zero, GTy.size, List.length_singleton, Bool.and_eq_true, Bool.or_eq_true, Bool.not_eq_true', Bool.and_true, Bool.true_and, Bool.or_true, Bool.true_or, decide_eq_true_eq, decide_eq_false_iff_not, true_and, and_true]; omega) rfl ?_
                  refine ad_run (fuel := 0) (ds' := ⟨#[true, true, true, true, true, true, true, true, true, true, true, true, true, true, true], false, false, true⟩) tt_ok [(8, 4), (10, 0), (11, 4), (12, 2), (13, 2), (14, 2)] (by kernel_rfl) rfl (by simp only [inB, inI64, fitB, GTy.zero, GTy.size, List.length_singleton, Bool.and_eq_true, Bool.or_eq_true, Bool.not_eq_true', Bool.and_true, Bool.true_and, Bool.or_true, Bool.true_or, decide_eq_true_eq, decide_eq_false_iff_not, true_and, and_true]; omega) ?_
                  refine ad_done (by kernel_rfl) ?_
                  exact ⟨rfl, Wk.pick [0, 1, 9, 10, 11, 12, 13, 58, 59, 60, 61, 62, 63, 64, 65, 66, 67, 68, 69, 70, 71, 72, 73, 74, 75, 76, 77, 78, 79, 80, 81, 95, 97, 98, 99, 100, 101, 102, 103, 104, 106, 107] [2000000, 700009, 9, 10, 11, 12, 13] rfl rfl⟩
                ·
                  refine ado_keep tt_ok (i := 8) rfl rfl rfl (by simp only [inB, inI64, fitB, GTy.zero, GTy.size, List.length_singleton, Bool.and_eq_true, Bool.or_eq_true, Bool.not_eq_true', Bool.and_true, Bool.true_and, Bool.or_true, Bool.true_or, decide_eq_true_eq, decide_eq_false_iff_not, true_and, and_true]; omega) rfl ?_
                  refine ad_run (fuel := 5) (ds' := ⟨#[true, true, true, false, true, true, true, true, true, true, true, false, false, false, false], false, true, true⟩) tt_ok [(10, 0)] (by kernel_rfl) rfl (by simp only [inB, inI64, fitB, GTy.zero, GTy.size, List.length_singleton, Bool.and_eq_true, Bool.or_eq_true, Bool.not_eq_true', Bool.and_true, Bool.true_and, Bool.or_true, Bool.true_or, decide_eq_true_eq, decide_eq_false_iff_not, true_and, and_true]; omega) ?_
                  refine ad_ready (by kernel_rfl) (ads_cons (i := 3) ?_ (ads_cons (i := 11) ?_ ads_nil))
                  ·
                    refine ado_keep tt_ok (i := 3) rfl rfl rfl (by simp only [inB, inI64, fitB, GTy.zero, GTy.size, List.length_singleton, Bool.and_eq_true, Bool.or_eq_true, Bool.not_eq_true', Bool.and_true, Bool.true_and, Bool.or_true, Bool.true_or, decide_eq_true_eq, decide_eq_false_iff_not, true_and, and_true]; omega) rfl ?_
                    refine ad_run (fuel := 0) (ds' := ⟨#[true, true, true, true, true, true, true, true, true, true, true, true, true, true, true], false, false, true⟩) tt_ok [(11, 4), (12, 2), (13, 2), (14, 2)] (by kernel_rfl) rfl (by simp only [inB, inI64, fitB, GTy.zero, GTy.size, List.length_singleton, Bool.and_eq_true, Bool.or_eq_true, Bool.not_eq_true', Bool.and_true, Bool.true_and, Bool.or_true, Bool.true_or, decide_eq_true_eq, decide_eq_false_iff_not, true_and, and_true]; omega) ?_
                    refine ad_done (by kernel_rfl) ?_
                    exact ⟨rfl, Wk.pick [0, 1, 9, 10, 11, 12, 13, 58, 59, 60, 61, 62, 63, 64, 65, 66, 67, 68, 69, 70, 71, 72, 73, 74, 75, 76, 77, 78, 79, 80, 81, 95, 97, 98, 99, 100, 101, 102, 103, 104, 106, 107] [2000000, 700009, 9, 10, 11, 12, 13] rfl rfl⟩
                  ·
                    refine ado_keep tt_ok (i := 11) rfl rfl rfl rfl rfl ?_
                    refine ad_run (fuel := 0) (ds' := ⟨#[true, true, true, true, true, true, true, true, true, true, true, true, true, true, true], false, false, true⟩) tt_ok [(3, 4), (12, 2), (13, 2), (14, 2)] (by kernel_rfl) rfl (by simp only [inB, inI64, fitB, GTy.zero, GTy.size, List.length_singleton, Bool.and_eq_true, Bool.or_eq_true, Bool.not_eq_true', Bool.and_true, Bool.true_and, Bool.or_true, Bool.true_or, decide_eq_true_eq, decide_eq_false_iff_not, true_and, and_true]; omega) ?_
                    refine ad_done (by kernel_rfl) ?_
                    exact ⟨rfl, Wk.pick [0, 1, 9, 10, 11, 12, 13, 58, 59, 60, 61, 62, 63, 64, 65, 66, 67, 68, 69, 70, 71, 72, 73, 74, 75, 76, 77, 78, 79, 80, 81, 95, 97, 98, 99, 100, 101, 102, 103, 104, 106, 107] [2000000, 700009, 9, 10, 11, 12, 13] rfl rfl⟩
              ·
                refine ado_keep tt_ok (i := 8) rfl rfl rfl (by simp only [inB, inI64, fitB, GTy.zero, GTy.size, List.length_singleton, Bool.and_eq_true, Bool.or_eq_true, Bool.not_eq_true', Bool.and_true, Bool.true_and, Bool.or_true, Bool.true_or, decide_eq_true_eq, decide_eq_false_iff_not, true_and, and_true]; omega) rfl ?_
                refine ad_run (fuel := 6) (ds' := ⟨#[true, true, false, false, true, true, true, true, true, true, true, false, false, false, false], false, true, true⟩) tt_ok [(10, 0)] (by kernel_rfl) rfl (by simp only [inB, inI64, fitB, GTy.zero, GTy.size, List.length_singleton, Bool.and_eq_true, Bool.or_eq_true, Bool.not_eq_true', Bool.and_true, Bool.true_and, Bool.or_true, Bool.true_or, decide_eq_true_eq, decide_eq_false_iff_not, true_and, and_true]; omega) ?_
                refine ad_ready (by kernel_rfl) (ads_cons (i := 2) ?_ (ads_cons (i := 11) ?_ ads_nil))
                ·
                  refine ado_keep tt_ok (i := 2) rfl rfl rfl rfl rfl ?_
                  refine ad_ready (by kernel_rfl) (ads_cons (i := 3) ?_ (ads_cons (i := 11) ?_ ads_nil))
                  ·
                    refine ado_keep tt_ok (i := 3) rfl rfl rfl (by simp only [inB, inI64, fitB, GTy.zero, GTy.size, List.length_singleton, Bool.and_eq_true, Bool.or_eq_true, Bool.not_eq_true', Bool.and_true, Bool.true_and, Bool.or_true, Bool.true_or, decide_eq_true_eq, decide_eq_false_iff_not, true_and, and_true]; omega) rfl ?_
                    refine ad_run (fuel := 0) (ds' := ⟨#[true, true, true, true, true, true, true, true, true, true, true, true, true, true, true], false, false, true⟩) tt_ok [(11, 4), (12, 2), (13, 2), (14, 2)] (by kernel_rfl) rfl (by simp only [inB, inI64, fitB, GTy.zero, GTy.size, List.length_singleton, Bool.and_eq_true, Bool.or_eq_true, Bool.not_eq_true', Bool.and_true, Bool.true_and, Bool.or_true, Bool.true_or, decide_eq_true_eq, decide_eq_false_iff_not, true_and, and_true]; omega) ?_
                    refine ad_done (by kernel_rfl) ?_
                    exact ⟨rfl, Wk.pick [0, 1, 9, 10, 11, 12, 13, 58, 59, 60, 61, 62, 63, 64, 65, 66, 67, 68, 69, 70, 71, 72, 73, 74, 75, 76, 77, 78, 79, 80, 81, 95, 97, 98, 99, 100, 101, 102, 103, 104, 106, 107] [2000000, 700009, 9, 10, 11, 12, 13] rfl rfl⟩
                  ·
                    refine ado_keep tt_ok (i := 11) rfl rfl rfl rfl rfl ?_
                    refine ad_run (fuel := 0) (ds' := ⟨#[true, true, true, true, true, true, true, true, true, true, true, true, true, true, true], false, false, true⟩) tt_ok [(3, 4), (12, 2), (13, 2), (14, 2)] (by kernel_rfl) rfl (by simp only [inB, inI64, fitB, GTy.zero, GTy.size, List.length_singleton, Bool.and_eq_true, Bool.or_eq_true, Bool.not_eq_true', Bool.and_true, Bool.true_and, Bool.or_true, Bool.true_or, decide_eq_true_eq, decide_eq_false_iff_not, true_and, and_true]; omega) ?_
                    refine ad_done (by kernel_rfl) ?_
                    exact ⟨rfl, Wk.pick [0, 1, 9, 10, 11, 12, 13, 58, 59, 60, 61, 62, 63, 64, 65, 66, 67, 68, 69, 70, 71, 72, 73, 74, 75, 76, 77, 78, 79, 80, 81, 95, 97, 98, 99, 100, 101, 102, 103, 104, 106, 107] [2000000, 700009, 9, 10, 11, 12, 13] rfl rfl⟩
                ·
                  refine ado_keep tt_ok (i := 11) rfl rfl rfl rfl rfl ?_
                  refine ad_run (fuel := 0) (ds' := ⟨#[true, true, true, true, true, true, true, true, true, true, true, true, true, true, true], false, false, true⟩) tt_ok [(2, 4), (3, 4), (12, 2), (13, 2), (14, 2)] (by kernel_rfl) rfl (by simp only [inB, inI64, fitB, GTy.zero, GTy.size, List.length_singleton, Bool.and_eq_true, Bool.or_eq_true, Bool.not_eq_true', Bool.and_true, Bool.true_and, Bool.or_true, Bool.true_or, decide_eq_true_eq, decide_eq_false_iff_not, true_and, and_true]; omega) ?_
                  refine ad_done (by kernel_rfl) ?_
                  exact ⟨rfl, Wk.pick [0, 1, 9, 10, 11, 12, 13, 58, 59, 60, 61, 62, 63, 64, 65, 66, 67, 68, 69, 70, 71, 72, 73, 74, 75, 76, 77, 78, 79, 80, 81, 95, 97, 98, 99, 100, 101, 102, 103, 104, 106, 107] [2000000, 700009, 9, 10, 11, 12, 13] rfl rfl⟩
            refine ax_region ?_
            refine al_run tt_ok rfl (by simp only [inB, inI64, fitB, GTy.zero, Bool.and_eq_true, Bool.or_eq_true, Bool.not_eq_true', Bool.and_true, Bool.true_and, Bool.or_true, Bool.true_or, decide_eq_true_eq, decide_eq_false_iff_not, true_and, and_true]; omega) ?_
            refine ⟨nx, hnx, (by dsimp only; omega), Wk.sub (by repeat (first | exact SubL.nil | refine SubL.cons rfl ?_)) (SubH.cons rfl rfl (SubH.cons rfl rfl (SubH.cons rfl rfl (SubH.cons rfl rfl (SubH.cons rfl rfl (SubH.cons rfl rfl (SubH.cons rfl rfl SubH.nil)))))))⟩
        ·
          refine ax_exit ?_
          refine ax_seq ?_
          dsimp only at hx0 hx1 hst hol hr1 hr2 hal hbl
          have hxe : x = fr.length := by
            have h5 : ¬ x < fr.length := by simpa using hc15
            omega
          have hst' : st1 fr to fr.length = ((o, rk), at_, by_) := by rw [← hst, hxe]; simp
          have hsm : Small at_ by_ := by
            have h7 := st1_small fr to hf ht hlen fr.length (Nat.le_refl _)
            rw [hst'] at h7
            exact ⟨h7.1, h7.2.1, h7.2.2.1, Nat.le_trans h7.2.2.2 hfl⟩
          have hpb : PB 40 (o, rk) := ⟨by dsimp only; omega, hr1, hr2⟩
          have hbl' := hsm.2.2.1
          have hal' := hsm.2.2.2
          clear hst hol hr1 hr2 hal hbl hc15 hx0 hx1 hc4
          refine ax_weak (Wk.frz (id := 12) rfl) ?_
          refine ax_weak (Wk.frz (id := 13) rfl) ?_
          refine ax_weak (Wk.frzC 10 (.sl (.int .i64)) rfl rfl rfl) ?_
          refine ax_weak (Wk.frzC 11 (.sl (.int .i64)) rfl rfl rfl) ?_
          refine ax_region ?_
          refine al_run tt_ok rfl rfl ?_
          refine ax_mv 14 700014 rfl ?_
          refine ax_seq ?_
          refine ax_region ?_
          refine al_run tt_ok rfl rfl ?_
          refine ax_weak (Wk.nil 15 15 3 (.int .i64) rfl rfl) ?_
          refine ax_seq ?_
          refine ax_seq ?_
          refine ax_region ?_
          refine al_run tt_ok rfl rfl ?_
          refine ax_block ?_
          refine ax_weak (st' := ⟨[(16, _), (15, _), (9, _), (10, _), (11, _), (14, _)], [(15, _), (700009, _), (9, _), (700014, _), (2000000, _)]⟩) (Wk.sub (SubL.cons rfl (SubL.cons rfl (SubL.cons rfl (SubL.cons rfl (SubL.cons rfl (SubL.cons rfl SubL.nil)))))) (SubH.cons rfl rfl (SubH.cons rfl rfl (SubH.cons rfl rfl (SubH.cons rfl rfl (SubH.cons rfl rfl SubH.nil)))))) ?_
          refine ax_loopL (fun y : Nat × Int × List Int => [(16, .c (.val (.int .i64 y.2.1))), (15, .c (.sl 15))]) (fun y : Nat × Int × List Int => [(15, .row 3 (.int .i64) y.2.2 none)]) (fun y : Nat × Int × List Int => y.2.2 ++ stF at_ by_ y.1 y.2.1 = startsOf at_ by_ ∧ 0 ≤ y.2.1 ∧ (at_.length : Int) ≤ y.1 + y.2.1 ∧ (∀ k ∈ y.2.2, 0 ≤ k ∧ k < at_.length) ∧ y.2.2.length ≤ y.2.1.toNat ∧ y.2.1 ≤ at_.length) (fun y : Nat × Int × List Int => (at_.length - y.2.1).toNat) ((at_.length, 0, [])) (⟨rfl, by simp, by simp, by simp, by simp, by simp⟩) ?_
          rintro ⟨f, i, l⟩ ⟨hl0, hi0, hfi, hlm, hll, hil⟩
          refine ax_seq ?_
          refine ax_seq ?_
          dsimp only at hl0 hi0 hfi hlm hll hil
          refine ax_region ?_
          refine al_run tt_ok rfl rfl ?_
          refine ax_cond rfl rfl (fun hc24 => ?_) (fun hc24 => ?_)
          ·
            refine ax_skip ?_
            refine ax_seq ?_
            refine ax_block ?_
            have hilt : i < at_.length := by simpa using hc24
            have htb := tog_bounds at_ by_ i hilt
            refine ax_region ?_
            refine al_run tt_ok rfl (by simp [inB, inI64, fitB, GTy.zero]; omega) ?_
            refine ax_region ?_
            refine al_upto tt_ok rfl rfl ?_
            refine al_callV [] (tog_ok at_ by_ i hi0 hilt hbl' (by omega)) rfl ⟨rfl, rfl⟩ rfl rfl Tryd.func28 rfl rfl rfl rfl rfl rfl PassH.nil ?_
            rintro _ _ ⟨rfl, rfl⟩
            refine ⟨_, _, rfl, rfl, ?_⟩
            refine al_run tt_ok rfl rfl ?_
            have hl1 : (l ++ [i]) ++ stF at_ by_ (f - 1) (tog at_ by_ i) = startsOf at_ by_ := by
              rw [← hl0]
              obtain ⟨q, rfl⟩ : ∃ q, f = q + 1 := ⟨f - 1, by omega⟩
              rw [stF, if_pos hilt, Nat.add_sub_cancel, List.append_assoc]
              rfl
            refine ⟨(f - 1, tog at_ by_ i, l ++ [i]), ⟨hl1, by dsimp only; omega, by dsimp only; omega, (by
  intro k hk
  rcases List.mem_append.1 hk with hk | hk
  · exact hlm k hk
  · simp only [List.mem_singleton] at hk; omega), by simp only [List.length_append, List.length_singleton]; omega, htb.2⟩, (by dsimp only; omega), Wk.sub (by repeat (first | exact SubL.nil | refine SubL.cons rfl ?_)) (SubH.cons rfl rfl (SubH.cons rfl rfl (SubH.cons rfl rfl (SubH.cons rfl rfl (SubH.cons rfl rfl SubH.nil)))))⟩
          ·
            refine ax_exit ?_
            refine ax_seq ?_
            refine ax_seq ?_
            have hlst : l = startsOf at_ by_ := by
              have h5 : ¬ i < at_.length := by simpa using hc24
              rw [← hl0]
              cases f with
              | zero => simp [stF]
              | succ q => rw [stF, if_neg h5]; simp
            have hlg : ∀ j : Nat, j < l.length → 0 ≤ l.getD j 0 ∧ l.getD j 0 < at_.length := fun j hj => hlm _ (by
              rw [List.getD_eq_getElem?_getD, List.getElem?_eq_getElem hj]
              exact List.getElem_mem hj)
            have hl40 : l.length ≤ 40 := by omega
            clear hc24 hi0 hfi hll hil hl0
            refine ax_weak (Wk.frz (id := 15) rfl) ?_
            refine ax_region ?_
            refine al_upto tt_ok rfl rfl ?_
            refine al_callP (backward_ok l none) rfl ⟨rfl, rfl⟩ rfl Tryd.func29 rfl rfl rfl rfl rfl rfl ?_
            refine al_run tt_ok rfl rfl ?_
            refine ax_block ?_
            refine ax_weak (st' := ⟨[(9, _), (10, _), (11, _), (14, _), (15, _), (122, _)], [(700009, _), (9, _), (700014, _), (2000000, _)]⟩) (Wk.sub (SubL.cons rfl (SubL.cons rfl (SubL.cons rfl (SubL.cons rfl (SubL.cons rfl (SubL.cons rfl SubL.nil)))))) (SubH.cons rfl rfl (SubH.cons rfl rfl (SubH.cons rfl rfl (SubH.cons rfl rfl SubH.nil))))) ?_
            refine ax_range (β := List OpT × Int) (ms := [(18, 124)]) (pl := [123, 124]) rfl rfl rfl Tryd.func60 rfl rfl (backward_it l (by omega)) (fun _ => rfl) rfl (Asg.region rfl) rfl rfl (fun _ _ y => [(700009, .cells 79 [.sl 9, .val (.int .i64 y.2)]), (9, .row 45 gOp y.1 none), (700014, .cells 81 [.fn 28 [.fz (.sl (.int .i64)) at_, .fz (.sl (.int .i64)) by_]]), (2000000, .row 3 (.int .i64) to c2)]) (fun e pre y => e = .normal ∧ y = pre.foldl (fun p i => stepUp at_ by_ p (l.getD ((i.1 : Int)).toNat 0)) (o, rk) ∧ PB (40 + pre.length) y) (fun _ _ _ => rfl) (o, rk) ⟨rfl, rfl, hpb⟩ rfl ?_ ?_ ?_
            ·
              rintro lb pre z ⟨o2, rk2⟩ ⟨-, hfold, hpb2⟩ hpre
              have hz := hlg z.1 z.2
              have hz1 : (l.getD ((z.1 : Int)).toNat 0) = l.getD z.1 0 := by rw [Int.toNat_natCast]
              rw [← hz1] at hz
              obtain ⟨hz2, hz3⟩ := hz
              have htb := tog_bounds at_ by_ (l.getD ((z.1 : Int)).toNat 0) hz3
              obtain ⟨hg1, hg2, hg3⟩ := seg_facts at_ by_ hsm _ hz2 hz3
              have hbs := by_small at_ by_ hsm (l.getD ((z.1 : Int)).toNat 0).toNat
              have hpb3 := stepUp_PB at_ by_ hsm _ hz2 hz3 hpb2
              have hfold2 : (pre ++ [z]).foldl (fun p i => stepUp at_ by_ p (l.getD ((i.1 : Int)).toNat 0)) (o, rk) = stepUp at_ by_ (o2, rk2) (l.getD ((z.1 : Int)).toNat 0) := by rw [List.foldl_append, ← hfold]; rfl
              have hol2 := hpb2.1
              dsimp only at hol2
              refine ax_block ?_
              refine ax_seq ?_
              refine ax_region ?_
              refine al_run tt_ok rfl (by simp only [inB, inI64, fitB, GTy.zero, Bool.and_eq_true, Bool.or_eq_true, Bool.not_eq_true', Bool.and_true, Bool.true_and, Bool.or_true, Bool.true_or, decide_eq_true_eq, decide_eq_false_iff_not, true_and, and_true]; omega) ?_
              refine ax_cond rfl rfl (fun hc29 => ?_) (fun hc29 => ?_)
              ·
                have hst3 : stepUp at_ by_ (o2, rk2) (l.getD ((z.1 : Int)).toNat 0) = moveAll o2 rk2 (seg at_ by_ (l.getD ((z.1 : Int)).toNat 0)) (by_.getD (l.getD ((z.1 : Int)).toNat 0).toNat 0) := by
                  rw [stepUp, if_pos (by simpa [GTy.zero] using hc29)]
                let nx : List OpT × Int := moveAll o2 rk2 (seg at_ by_ (l.getD ((z.1 : Int)).toNat 0)) (by_.getD (l.getD ((z.1 : Int)).toNat 0).toNat 0)
                have hnx : Exit.normal = Exit.normal ∧ nx = (pre ++ [z]).foldl (fun p i => stepUp at_ by_ p (l.getD ((i.1 : Int)).toNat 0)) (o, rk) ∧ PB (40 + (pre ++ [z]).length) nx := by
                  refine ⟨rfl, by rw [hfold2, hst3], ?_⟩
                  rw [hst3] at hpb3
                  rw [List.length_append, List.length_singleton]
                  exact hpb3
                refine ax_draw [3, 4, 5, 6, 7, 8, 9] (by kernel_rfl) rfl (N := 11) ?_
                refine ad_run (fuel := 3) (ds' := ⟨#[true, true, true, true, false, false, true, true, true, true, false], true, true, true⟩) tt_ok [(0, 1), (1, 0), (2, 3), (3, 0), (6, 1), (7, 0), (8, 0), (9, 1)] (by kernel_rfl) rfl (by simp only [inB, inI64, fitB, GTy.zero, Bool.and_eq_true, Bool.or_eq_true, Bool.not_eq_true', Bool.and_true, Bool.true_and, Bool.or_true, Bool.true_or, decide_eq_true_eq, decide_eq_false_iff_not, true_and, and_true]; omega) ?_
                refine ad_ready (by kernel_rfl) (ads_cons (i := 4) ?_ ads_nil)
                refine ado_of rfl ?_
                refine adx_callV (i := 4) (listed' := #[true, true, true, true, true, false, true, true, true, true, false]) (pre' := true) [] (tog_ok at_ by_ (l.getD ((z.1 : Int)).toNat 0) hz2 hz3 hbl' (by omega)) rfl rfl rfl rfl ⟨rfl, rfl⟩ rfl rfl Tryd.func28 rfl rfl rfl rfl rfl rfl PassH.nil ?_
                rintro _ _ ⟨rfl, rfl⟩
                refine ⟨_, _, rfl, rfl, ?_⟩
                refine ad_run (fuel := 1) (ds' := ⟨#[true, true, true, true, true, true, true, true, true, true, false], false, true, false⟩) tt_ok [(5, 0)] (by kernel_rfl) rfl (by simp only [inB, inI64, fitB, GTy.zero, Bool.and_eq_true, Bool.or_eq_true, Bool.not_eq_true', Bool.and_true, Bool.true_and, Bool.or_true, Bool.true_or, decide_eq_true_eq, decide_eq_false_iff_not, true_and, and_true]; omega) ?_
                refine ad_ready (by kernel_rfl) (ads_cons (i := 10) ?_ ads_nil)
                refine ado_of rfl ?_
                refine adx_call (i := 10) (listed' := #[true, true, true, true, true, true, true, true, true, true, true]) (pre' := false) [(1000000, 700009), (1000001, 9)] (move_ok o2 rk2 (seg at_ by_ (l.getD ((z.1 : Int)).toNat 0)) (by_.getD (l.getD ((z.1 : Int)).toNat 0).toNat 0) (capLess none (l.getD ((z.1 : Int)).toNat 0).toNat) hg1 (by omega) (by omega) (by omega) (fun k hk => by have := hg3 k hk; omega) hpb2.2) rfl rfl rfl rfl ⟨rfl, rfl⟩ rfl Tryd.func27 rfl rfl rfl rfl rfl rfl (PassH.cons rfl rfl rfl (PassH.cons rfl rfl rfl PassH.nil)) ?_
                rintro _ _ ⟨rfl, rfl⟩
                refine ⟨_, _, rfl, rfl, ?_⟩
                refine ad_done (by kernel_rfl) ?_
                refine ⟨rfl, nx, hnx, [], Wk.sub SubL.nil (SubH.cons rfl rfl (SubH.cons rfl rfl (SubH.cons rfl rfl (SubH.cons rfl rfl SubH.nil))))⟩
              ·
                have hst3 : stepUp at_ by_ (o2, rk2) (l.getD ((z.1 : Int)).toNat 0) = (o2, rk2) := by
                  rw [stepUp, if_neg (by simpa [GTy.zero] using hc29)]
                let nx : List OpT × Int := (o2, rk2)
                have hnx : Exit.normal = Exit.normal ∧ nx = (pre ++ [z]).foldl (fun p i => stepUp at_ by_ p (l.getD ((i.1 : Int)).toNat 0)) (o, rk) ∧ PB (40 + (pre ++ [z]).length) nx := by
                  refine ⟨rfl, by rw [hfold2, hst3], ?_⟩
                  rw [hst3] at hpb3
                  rw [List.length_append, List.length_singleton]
                  exact hpb3
                refine ax_skip ?_
                refine ⟨rfl, nx, hnx, [], Wk.sub SubL.nil (SubH.cons rfl rfl (SubH.cons rfl rfl (SubH.cons rfl rfl (SubH.cons rfl rfl SubH.nil))))⟩
            ·
              rintro xs ⟨o2, rk2⟩ hS ⟨-, hfold, hpb2⟩
              have hxl : xs.length = l.length := by
                have := congrArg List.length (show xs.map (·.1) = (List.range l.length).reverse from hS)
                simpa using this
              have hp2 : (o2, rk2) = l.reverse.foldl (stepUp at_ by_) (o, rk) := by
                rw [hfold]
                have e1 : xs.foldl (fun p i => stepUp at_ by_ p (l.getD ((i.1 : Int)).toNat 0)) (o, rk) = (xs.map (·.1)).foldl (fun p i => stepUp at_ by_ p (l.getD i 0)) (o, rk) := by
                  rw [List.foldl_map]
                  rfl
                have e2 : l.reverse = (List.range l.length).reverse.map (fun i => l.getD i 0) := by
                  rw [List.map_reverse]
                  congr 1
                  apply List.ext_getElem
                  · simp
                  · intro i h1 h2
                    simp [List.getD_eq_getElem?_getD, List.getElem?_eq_getElem h1]
                rw [e1, show xs.map (·.1) = (List.range l.length).reverse from hS, e2, List.foldl_map]
              have hpb3 : PB 80 (o2, rk2) := hpb2.mono (by omega)
              refine ax_seq ?_
              refine ax_seq ?_
              refine ax_region ?_
              refine al_run tt_ok rfl rfl ?_
              refine ax_block ?_
              refine ax_weak (st' := ⟨[(143, _), (9, _), (10, _), (11, _), (14, _), (141, _), (142, _)], [(700009, _), (9, _), (700014, _), (2000000, _)]⟩) (Wk.sub (SubL.cons rfl (SubL.cons rfl (SubL.cons rfl (SubL.cons rfl (SubL.cons rfl (SubL.cons rfl (SubL.cons rfl SubL.nil))))))) (SubH.cons rfl rfl (SubH.cons rfl rfl (SubH.cons rfl rfl (SubH.cons rfl rfl SubH.nil))))) ?_
              refine ax_loopL (fun y : Int × (List OpT × Int) => [(143, .c (.val (.int .i64 y.1)))]) (fun y : Int × (List OpT × Int) => [(700009, .cells 79 [.sl 9, .val (.int .i64 y.2.2)]), (9, .row 45 gOp y.2.1 none)]) (fun y : Int × (List OpT × Int) => 0 ≤ y.1 ∧ y.1 ≤ l.length ∧ y.2 = (l.take y.1.toNat).foldl (stepDn at_ by_) (o2, rk2) ∧ PB (80 + y.1.toNat) y.2) (fun y : Int × (List OpT × Int) => (l.length - y.1).toNat) ((0, (o2, rk2))) (⟨by simp, by simp, rfl, hpb3⟩) ?_
              rintro ⟨i, ⟨o3, rk3⟩⟩ ⟨hi0, hi1, hfold3, hpb4⟩
              refine ax_seq ?_
              refine ax_region ?_
              refine al_run tt_ok rfl rfl ?_
              refine ax_seq ?_
              refine ax_cond rfl rfl (fun hc32 => ?_) (fun hc32 => ?_)
              ·
                refine ax_skip ?_
                refine ax_seq ?_
                refine ax_block ?_
                refine ax_seq ?_
                have hilt : i < l.length := by simpa using hc32
                dsimp only at hi0 hi1 hfold3 hpb4
                have hz := hlg i.toNat (by omega)
                obtain ⟨hz2, hz3⟩ := hz
                have htb := tog_bounds at_ by_ (l.getD i.toNat 0) hz3
                obtain ⟨hg1, hg2, hg3⟩ := seg_facts at_ by_ hsm _ hz2 hz3
                have hbs := by_small at_ by_ hsm (l.getD i.toNat 0).toNat
                have hpb5 := stepDn_PB at_ by_ hsm _ hz2 hz3 hpb4
                have hfold4 : (l.take (i + 1).toNat).foldl (stepDn at_ by_) (o2, rk2) = stepDn at_ by_ (o3, rk3) (l.getD i.toNat 0) := by rw [take_next _ _ hi0 hilt, List.foldl_append, ← hfold3]; rfl
                have hol2 := hpb4.1
                dsimp only at hol2
                refine ax_region ?_
                refine al_run tt_ok rfl (by simp only [inB, inI64, fitB, GTy.zero, Bool.and_eq_true, Bool.or_eq_true, Bool.not_eq_true', Bool.and_true, Bool.true_and, Bool.or_true, Bool.true_or, decide_eq_true_eq, decide_eq_false_iff_not, true_and, and_true]; omega) ?_
                refine ax_seq ?_
                refine ax_region ?_
                refine al_run tt_ok rfl (by simp only [inB, inI64, fitB, GTy.zero, Bool.and_eq_true, Bool.or_eq_true, Bool.not_eq_true', Bool.and_true, Bool.true_and, Bool.or_true, Bool.true_or, decide_eq_true_eq, decide_eq_false_iff_not, true_and, and_true]; omega) ?_
                refine ax_cond rfl rfl (fun hc34 => ?_) (fun hc34 => ?_)
                ·
                  have hst3 : stepDn at_ by_ (o3, rk3) (l.getD i.toNat 0) = moveAll o3 rk3 (seg at_ by_ (l.getD i.toNat 0)) (by_.getD (l.getD i.toNat 0).toNat 0) := by
                    rw [stepDn, if_pos (by simpa [GTy.zero] using hc34)]
                  let nx : Int × (List OpT × Int) := (i + 1, moveAll o3 rk3 (seg at_ by_ (l.getD i.toNat 0)) (by_.getD (l.getD i.toNat 0).toNat 0))
                  have hn1 : nx.1 = i + 1 := rfl
                  have hnx : 0 ≤ nx.1 ∧ nx.1 ≤ l.length ∧ nx.2 = (l.take nx.1.toNat).foldl (stepDn at_ by_) (o2, rk2) ∧ PB (80 + nx.1.toNat) nx.2 := by
                    refine ⟨by rw [hn1]; omega, by rw [hn1]; omega, ?_, ?_⟩
                    · rw [hn1, hfold4, hst3]
                    · rw [hst3] at hpb5
                      exact hpb5.mono (by rw [hn1]; omega)
                  refine ax_draw [3, 4, 5, 6, 7, 8, 9] (by kernel_rfl) rfl (N := 11) ?_
                  refine ad_run (fuel := 3) (ds' := ⟨#[true, true, true, true, false, false, true, true, true, true, false], true, true, true⟩) tt_ok [(0, 1), (1, 0), (2, 3), (3, 0), (6, 1), (7, 0), (8, 0), (9, 1)] (by kernel_rfl) rfl (by simp only [inB, inI64, fitB, GTy.zero, Bool.and_eq_true, Bool.or_eq_true, Bool.not_eq_true', Bool.and_true, Bool.true_and, Bool.or_true, Bool.true_or, decide_eq_true_eq, decide_eq_false_iff_not, true_and, and_true]; omega) ?_
                  refine ad_ready (by kernel_rfl) (ads_cons (i := 4) ?_ ads_nil)
                  refine ado_of rfl ?_
                  refine adx_callV (i := 4) (listed' := #[true, true, true, true, true, false, true, true, true, true, false]) (pre' := true) [] (tog_ok at_ by_ (l.getD i.toNat 0) hz2 hz3 hbl' (by omega)) rfl rfl rfl rfl ⟨rfl, rfl⟩ rfl rfl Tryd.func28 rfl rfl rfl rfl rfl rfl PassH.nil ?_
                  rintro _ _ ⟨rfl, rfl⟩
                  refine ⟨_, _, rfl, rfl, ?_⟩
                  refine ad_run (fuel := 1) (ds' := ⟨#[true, true, true, true, true, true, true, true, true, true, false], false, true, false⟩) tt_ok [(5, 0)] (by kernel_rfl) rfl (by simp only [inB, inI64, fitB, GTy.zero, Bool.and_eq_true, Bool.or_eq_true, Bool.not_eq_true', Bool.and_true, Bool.true_and, Bool.or_true, Bool.true_or, decide_eq_true_eq, decide_eq_false_iff_not, true_and, and_true]; omega) ?_
                  refine ad_ready (by kernel_rfl) (ads_cons (i := 10) ?_ ads_nil)
                  refine ado_of rfl ?_
                  refine adx_call (i := 10) (listed' := #[true, true, true, true, true, true, true, true, true, true, true]) (pre' := false) [(1000000, 700009), (1000001, 9)] (move_ok o3 rk3 (seg at_ by_ (l.getD i.toNat 0)) (by_.getD (l.getD i.toNat 0).toNat 0) (capLess none (l.getD i.toNat 0).toNat) hg1 (by omega) (by omega) (by omega) (fun k hk => by have := hg3 k hk; omega) hpb4.2) rfl rfl rfl rfl ⟨rfl, rfl⟩ rfl Tryd.func27 rfl rfl rfl rfl rfl rfl (PassH.cons rfl rfl rfl (PassH.cons rfl rfl rfl PassH.nil)) ?_
                  rintro _ _ ⟨rfl, rfl⟩
                  refine ⟨_, _, rfl, rfl, ?_⟩
                  refine ad_done (by kernel_rfl) ?_
                  refine ax_region ?_
                  refine al_run tt_ok rfl (by simp only [inB, inI64, fitB, GTy.zero, Bool.and_eq_true, Bool.or_eq_true, Bool.not_eq_true', Bool.and_true, Bool.true_and, Bool.or_true, Bool.true_or, decide_eq_true_eq, decide_eq_false_iff_not, true_and, and_true]; omega) ?_
                  refine ⟨nx, hnx, (by dsimp only; omega), Wk.sub (by repeat (first | exact SubL.nil | refine SubL.cons rfl ?_)) (SubH.cons rfl rfl (SubH.cons rfl rfl (SubH.cons rfl rfl (SubH.cons rfl rfl SubH.nil))))⟩
                ·
                  have hst3 : stepDn at_ by_ (o3, rk3) (l.getD i.toNat 0) = (o3, rk3) := by
                    rw [stepDn, if_neg (by simpa [GTy.zero] using hc34)]
                  let nx : Int × (List OpT × Int) := (i + 1, (o3, rk3))
                  have hn1 : nx.1 = i + 1 := rfl
                  have hnx : 0 ≤ nx.1 ∧ nx.1 ≤ l.length ∧ nx.2 = (l.take nx.1.toNat).foldl (stepDn at_ by_) (o2, rk2) ∧ PB (80 + nx.1.toNat) nx.2 := by
                    refine ⟨by rw [hn1]; omega, by rw [hn1]; omega, ?_, ?_⟩
                    · rw [hn1, hfold4, hst3]
                    · rw [hst3] at hpb5
                      exact hpb5.mono (by rw [hn1]; omega)
                  refine ax_skip ?_
                  refine ax_region ?_
                  refine al_run tt_ok rfl (by simp only [inB, inI64, fitB, GTy.zero, Bool.and_eq_true, Bool.or_eq_true, Bool.not_eq_true', Bool.and_true, Bool.true_and, Bool.or_true, Bool.true_or, decide_eq_true_eq, decide_eq_false_iff_not, true_and, and_true]; omega) ?_
                  refine ⟨nx, hnx, (by dsimp only; omega), Wk.sub (by repeat (first | exact SubL.nil | refine SubL.cons rfl ?_)) (SubH.cons rfl rfl (SubH.cons rfl rfl (SubH.cons rfl rfl (SubH.cons rfl rfl SubH.nil))))⟩
              ·
                refine ax_exit ?_
                refine ax_seq ?_
                dsimp only at hi0 hi1 hfold3 hpb4
                have hie : i = l.length := by
                  have h5 : ¬ i < l.length := by simpa using hc32
                  omega
                have hplan : planOf fr to = turnOps o3 rk3 0 := by
                  rw [planOf, hst']
                  have e3 : (o3, rk3) = (startsOf at_ by_).foldl (stepDn at_ by_) ((startsOf at_ by_).reverse.foldl (stepUp at_ by_) (o, rk)) := by
                    rw [hfold3, hie, hp2, ← hlst]
                    simp
                  show turnOps _ _ 0 = _
                  rw [← e3]
                have hol2 := hpb4.1
                dsimp only at hol2
                refine ax_region ?_
                refine al_call [(1000000, 700009), (1000001, 9)] (turn_ok o3 rk3 0 (by omega)) rfl ⟨rfl, rfl⟩ rfl Tryd.func30 rfl rfl rfl rfl rfl rfl (PassH.cons rfl rfl rfl (PassH.cons rfl rfl rfl PassH.nil)) ?_
                rintro _ _ ⟨rfl, rfl⟩
                refine ⟨_, _, rfl, rfl, ?_⟩
                refine al_run tt_ok rfl rfl ?_
                refine ax_seq ?_
                refine ax_weak (Wk.frz (id := 9) rfl) ?_
                refine ax_region ?_
                refine al_upto tt_ok rfl rfl ?_
                refine al_callP (clip_ok _ none) rfl ⟨rfl, rfl⟩ rfl Tryd.func31 rfl rfl rfl rfl rfl rfl ?_
                refine al_run tt_ok rfl rfl ?_
                refine ax_ret ?_
                refine ⟨rfl, _, Wk.sub (st' := ⟨[(4, _), (5, _)], [(2000000, _)]⟩) (SubL.cons rfl (SubL.cons rfl SubL.nil)) (SubH.cons rfl rfl SubH.nil), _, _, rfl, rfl, ?_⟩
                have hto : ¬ chkTo to = false := by rw [ht]; simp
                rw [shiftR, if_neg hf', if_neg (by omega), if_neg hto, hplan]
                exact ⟨rfl, rfl⟩
            ·
              rintro e c xs y he - ⟨rfl, -⟩
              cases he
end Go.Proofs.YtihcolehefloeaaDoor

/- slices.Compact at a row of one's own. -/
namespace Go.Proofs
open Go.Shelf
def Tryd.laysCompact_ren : Go.Shelf.Ren := ⟨fun | 20 => 47 | n => n, fun | 22 => 42 | 3 => 3 | 4 => 4 | 0 => 0 | n => n, fun | n => n⟩
theorem Tryd.laysCompact : Go.Proofs.Lays2.n20 Tryd.prog Tryd.laysCompact_ren := {
  mixed := by kernel_rfl
  f20 := Tryd.func47.trans (congrArg some (by kernel_rfl))
  t0 := Tryd.underlying0
  a0 := Tryd.isAgg0
  z0 := Tryd.sizeOf0
  v0 := Tryd.zeroValue0
  t3 := Tryd.underlying3
  a3 := Tryd.isAgg3
  z3 := Tryd.sizeOf3
  v3 := Tryd.zeroValue3
  t4 := Tryd.underlying4
  a4 := Tryd.isAgg4
  z4 := Tryd.sizeOf4
  v4 := Tryd.zeroValue4
  t22 := Tryd.underlying42
  a22 := Tryd.isAgg42
  z22 := Tryd.sizeOf42
  v22 := Tryd.zeroValue42
  i3 := by kernel_rfl }
end Go.Proofs
namespace Go.Proofs.YtihcolehefloeaaDoor
open Go.RowKit
theorem compactUpTo_le (d : Array Int) (m : Nat) : (Lib.compactUpTo d m).length ≤ m := by
  unfold Lib.compactUpTo
  rw [List.length_map]
  exact Nat.le_trans (List.length_filter_le _ _) (by rw [List.length_range]; exact Nat.le_refl _)
theorem flat_mkInts {B : Nat → Prop} {w : World} {k : IntKind} : ∀ l : List Int, Flat (FR B w (.int k)) l (l.map fun z => Value.int k z)
  | [] => rfl
  | z :: l => ⟨[.int k z], _, rfl, rfl, flat_mkInts l⟩
def m_compact (l : List Int) : Option (List Int) := some (Lib.compact l)
theorem w_compact (a0 : List Int) (c0 : Option Nat) (r : List Int) (hr : m_compact a0 = some r) : AC cx 47 [.c (.sl 1000000)] [(1000000, .row 3 (.int .i64) a0 c0)] (fun sv h => sv = .c (.sl 5) ∧ h = [(5, .row 3 (.int .i64) r none)]) := by
  obtain rfl := Option.some.inj hr
  intro B w0 env vs H W hg ha hh hs
  obtain ⟨ck, H0, rfl, ⟨A, k, xs, hen, rfl, hfl, hcap⟩, hH0⟩ := hh
  have e0 : H0 = [] := hH0
  subst e0
  obtain ⟨v, r2, rfl, ⟨A', c', n', hen', rfl⟩, hr2⟩ := ha
  have e1 : r2 = [] := hr2
  subst e1
  rw [hen] at hen'
  cases hen'
  have hok : Owns W B 3 1 A k a0.length xs := hs.ok _ (List.mem_singleton.2 rfl)
  have hle := Owns.le hok
  have hxs := flat_ints hfl
  let env2 : Nat → Loc := fun j => match Nat.beq j 5 with
    | true => .row A k (Lib.compact a0).length
    | false => env j
  have hpin : ∀ id l, (pinBase ≤ id ∧ ∃ b, l = .blk b) ∨ fixBase ≤ id → env id = l → env2 id = l := fun id l h he => by
    have : Nat.beq id 5 = false := by
      cases hb : Nat.beq id 5 with
      | false => rfl
      | true =>
        have := Nat.eq_of_beq_eq_true hb
        subst this
        rcases h with ⟨h, _⟩ | h
        · exact absurd h (by decide)
        · exact absurd h (by decide)
    show (match Nat.beq id 5 with | true => _ | false => env id) = l
    rw [this]
    exact he
  have fin : ∀ (w' : World), KO (Rest W [Ck.row A k 3 1 a0.length xs]) W w' → Owns w' B 3 1 A k (Lib.compact a0).length ((Lib.compact a0).map fun z => Value.int .i64 z) →
      ACpost cx env B [Ck.row A k 3 1 a0.length xs] W (fun sv h => sv = .c (.sl 5) ∧ h = [(5, .row 3 (.int .i64) (Lib.compact a0) none)]) (.slice A (Lib.compact a0).length k) w' := fun w' hko ho => by
    refine ⟨env2, B, w', [Ck.row A k 3 1 (Lib.compact a0).length ((Lib.compact a0).map fun z => Value.int .i64 z)], .c (.sl 5), _, ⟨rfl, rfl⟩, fun _ h => h, fun _ h => .inl h, hko, ⟨A, k, _, rfl, rfl⟩, ⟨_, _, rfl, ⟨A, k, _, rfl, rfl, flat_mkInts _, fun _ h => by cases h⟩, rfl⟩, ?_, hpin⟩
    refine ⟨KO.refl _ _, fun j hj => Nat.lt_of_lt_of_le (hj.elim (fun h => h.1) (hs.base j)) hko.size, fun c hc => ?_, List.pairwise_singleton _ _⟩
    cases List.mem_singleton.1 hc
    refine Ck.ok.base (c := .row A k 3 1 (Lib.compact a0).length ((Lib.compact a0).map fun z => Value.int .i64 z)) (B := B) ho fun b hb hx => ?_
    exact hx.elim (fun h => h.2 _ (List.mem_singleton.2 rfl) hb) (Ck.ok.lt (c := .row A k 3 1 a0.length xs) hok hb).1
  rcases hok.2 with ⟨rfl, h3, h4⟩ | ⟨b, cur, fr, rfl, hb, hcur, hfr, hn, hk, hcs, htk⟩
  · have ea : a0 = [] := List.eq_nil_of_length_eq_zero h3
    subst ea
    refine Calls.mono (Any.slices_Compact_int_empty Tryd.laysCompact none k W) ?_
    rintro e w' ⟨rfl, rfl⟩
    refine ⟨_, rfl, fin w' (KO.refl _ _) ?_⟩
    exact ⟨rfl, .inl ⟨rfl, rfl, h4⟩⟩
  · have hmax : maxLen ≤ 9223372036854775807 := by decide
    have hlen : xs.length = a0.length := by rw [hxs, List.length_map]
    have hHolds : Sort.Holds (Value.int .i64) W b 0 a0.toArray := fun j hj => by
      have hj' : j < a0.length := by simpa using hj
      constructor
      · rw [Nat.zero_add, hok.cells rfl j (by omega), hxs, List.getElem?_map, List.getElem?_eq_getElem hj']
        simp [hj']
      · simp only [World.frozen?, hcur]
        rcases hfr with h | h
        · simp; omega
        · simp; omega
    refine Calls.mono (Any.slices_Compact_int Tryd.laysCompact b 0 k a0 W hHolds (by omega) hle.1) ?_
    rintro e w' ⟨rfl, q, rfl⟩
    have hcl : (Lib.compact a0).length ≤ a0.length := compactUpTo_le _ _
    refine ⟨_, rfl, fin _ ⟨rfl, rfl, rfl, ?_, fun j hj => ?_⟩ ?_⟩
    · rw [Sort.size_putRow]; exact Nat.le_refl _
    · have hne : b ≠ j := fun e => hj.2 _ (List.mem_singleton.2 rfl) (by rw [← e]; rfl)
      show (W.heap.modify b _)[j]? = _
      rw [Array.getElem?_modify, if_neg hne]
    · refine ⟨by rw [List.length_map, Nat.mul_one], .inr ⟨b, Sort.putCells (Value.int .i64) 0 (Lib.compact a0 ++ List.replicate (a0.length - (Lib.compact a0).length) 0).toArray cur, fr, rfl, hb, ?_, ?_, Nat.le_trans hcl hn, hk, ?_, ?_⟩⟩
      · show (W.heap.modify b _)[b]? = _
        rw [Array.getElem?_modify, if_pos rfl, hcur]
        rfl
      · rw [Sort.putCells, Array.size_mapIdx]; exact hfr
      · rw [Sort.putCells, Array.size_mapIdx]; exact hcs
      · refine List.ext_getElem? fun j => ?_
        rw [List.getElem?_take, Nat.mul_one]
        split
        · rename_i hj
          have hjc : j < cur.size := by rw [hcs]; omega
          rw [Array.getElem?_toList, Sort.putCells, Array.getElem?_mapIdx, Array.getElem?_eq_getElem hjc, Option.map_some, if_pos ⟨Nat.zero_le _, by simp; omega⟩, List.getElem?_map, List.getElem?_eq_getElem hj, Option.map_some]
          congr 2
          rw [Nat.sub_zero, getElem!_pos _ j (by simp; omega)]
          simp [List.getElem_append_left hj]
        · rename_i hj
          rw [List.getElem?_map, List.getElem?_eq_none (by omega)]
          rfl
end Go.Proofs.YtihcolehefloeaaDoor

/- Calls of functions with one bound argument (a method's receiver); a value taken apart. -/
namespace Go.Proofs.YtihcolehefloeaaDoor
open Go.RowKit
section
variable {P : Program} {ops : Array Oper} {o : Oper} {KK : Act → World → Prop} {n : Nat} {D : List Deferred} {L : List (Nat × Value)} {B : Nat → Prop} {w0 : World} {H : List Ck} {a : Act} {w : World} {d : Nat}
theorem run_callB {f : FuncId} {fn : Func} {s : Nat} {p : Value} {xs : List Operand} {ts : Array TypeId} {vs : List Value} (hX : Sym n D L B w0 H a w) (hop : o.op = .call { callee := .value (.tmp s), args := xs.toArray, argTypes := ts })
    (hs : L.lookup s = some (.func (.func f) #[p] #[])) (hfn : P.funcs[f]? = some fn)
    (hn : (fn.name == "runtime.NumGoroutine") = false) (hb : fn.body.isNone = false) (hv : evs L xs = some vs) : (execOp a.eval o).run P w = .ok (.enter f (p :: vs).toArray) w := by
  have e : a.eval (.tmp s) = .func (.func f) #[p] #[] := hX.ev (x := .tmp s) hs
  have hn' : fn.name ≠ "runtime.NumGoroutine" := by simpa using hn
  have hb' : fn.body ≠ none := by intro h; rw [h] at hb; cases hb
  simp [execOp, hop, resolve, e, Deferred.ofValue, invoke, callFunc, program, Sem.run, hfn, hn', hb', hX.st.evs hv]
theorem y_callB {f : FuncId} {fn : Func} {s : Nat} {p : Value} {xs : List Operand} {ts : Array TypeId} {vs : List Value} {R : Value → World → Prop} (hX : Sym n D L B w0 H a w)
    (hop : o.op = .call { callee := .value (.tmp s), args := xs.toArray, argTypes := ts }) (ho : o.guard = none ∧ o.dst = some d) (hd : Nat.blt d n = true) (hs : L.lookup s = some (.func (.func f) #[p] #[]))
    (hfn : P.funcs[f]? = some fn) (hn : (fn.name == "runtime.NumGoroutine") = false) (hb : fn.body.isNone = false) (hv : evs L xs = some vs) (hC : Ret P f (p :: vs).toArray w R)
    (h : ∀ v a' w', R v w' → St n D ((d, v) :: L) a' → KK a' w') : XO P ops o KK a w := by
  refine .inl ⟨by simp [Region.wanted, ho.1], .inr (.inr ⟨f, (p :: vs).toArray, w, run_callB hX hop hs hfn hn hb hv, ?_⟩)⟩
  refine Calls.mono hC ?_
  rintro e w' ⟨v, rfl, hR⟩
  exact ⟨v, rfl, h v _ w' hR (by rw [ho.2]; exact hX.st.put d v (lt_of_blt hd))⟩
end
section
variable {X : Cx} {M : Bool} {n : Nat} {r : Option Nat} {st : ASt} {Q : Exit → ASt → Prop} {ops rest : List Oper} {o : Oper} {d : Nat}
theorem al_callB {f : FuncId} {fn : Func} {s id : Nat} {xs : List Operand} {ts : Array TypeId} {args args' : List SA} {h H1 : Hp} {Qc : SV → Hp → Prop} {c : Bool} (ps : Ps) (hC : AC X f args h Qc) (hop : o.op = .call { callee := .value (.tmp s), args := xs.toArray, argTypes := ts }) (ho : o.guard = none ∧ o.dst = some d) (hd : Nat.blt d n = true)
    (hs : lk st.L s = some (.c (.bfn f id))) (hfn : X.P.funcs[f]? = some fn) (hn : (fn.name == "runtime.NumGoroutine") = false) (hb : fn.body.isNone = false) (hargs : aes X st.L xs = some (c, args')) (hc : c = true) (hren : renAs ps args = some (.c (.ptr id 0) :: args')) (hps : okPs n ps = true) (hpass : PassH ps h st.H H1)
    (hnext : ∀ sv h', Qc sv h' → ∃ sv' h'', sv.ren ps = some sv' ∧ renH ps h' = some h'' ∧ AL X M n r ops rest ⟨(d, sv') :: killL (killJs h ps) st.L, h'' ++ frameH (seconds ps) (killJs h ps) H1⟩ Q) : AL X M n r ops (o :: rest) st Q := by
  rintro R W Bi a w ⟨ks, env, B, w0, H, hM, hA⟩
  obtain ⟨vs, h1, h2⟩ := aes_ok hA hargs hc
  obtain ⟨fv, hf1, b, hbk, rfl⟩ := hA.has _ _ hs
  have he : ∀ i j, lk ps i = some j → env j = (fun i => match lk ps i with | some j => env j | none => Loc.no) i := fun i j hij => by simp only [hij]
  obtain ⟨C1, C2, h3, h4, h5⟩ := PassH.split (env := fun i => match lk ps i with | some j => env j | none => Loc.no) he hpass hA.heap
  have hs' : SH B w0 C1 w := by
    have h6 := (hA.sh.perm (h3.append_right (ks.map mkO))).weak (H' := C1) (by rw [List.append_assoc]; exact List.sublist_append_left _ _)
    exact ⟨⟨h6.below.os, h6.below.tape, h6.below.output, h6.below.size, fun k hk => h6.below.block k (.inr hk)⟩, fun k hk => h6.base k (.inr hk), fun c hc => (h6.ok c hc).base fun b hb hk => ((h6.ok c hc).lt hb).1 (.inr hk), h6.apart⟩
  refine xl_cons (y_callB hA.sym hop ho hd (full_look hf1) hfn hn hb h1 (hC B w0 _ (.pointer (some ⟨b, 0, none⟩) :: vs) C1 w (fun i x hx => hA.glob i x hx) ((SasR.ren he hren).2 ⟨_, _, rfl, ⟨b, hbk, rfl⟩, h2⟩) h4 hs') fun v a' w' hpost hS => ?_)
  obtain ⟨sv, h', hQ, hnx⟩ := hA.called hps h3 h4 h5 hpost hS
  obtain ⟨sv', h'', e1, e2, hAL⟩ := hnext sv h' hQ
  obtain ⟨env', B', w0', H', hA', _, _, _⟩ := hnx sv' h'' e1 e2
  exact hAL R W Bi a' w' ⟨ks, env', B', w0', H', hM, hA'⟩
theorem few_split {α : Type} {b : Bool} {x y : Option α} {r : α} {p : Prop} (h : cond b x y = some r) (h1 : b = true → x = some r → p) (h0 : b = false → y = some r → p) : p := by
  cases b with
  | true => exact h1 rfl h
  | false => exact h0 rfl h
/-- A cell is read through a variable place that is known here. -/
theorem pk_loadJ {sa : SA} (j p : Nat) (z : Int) (hX : X.tt.ok X.P) {t T : TypeId} {te : TE} {x : Operand} {id : Nat} {cs : List SC} {c : SC} {g1 : Bool} (hop : o.op = .load t x) (ht : X.tt.find t = some te) (hag : isAggD te.ti.desc = false)
    (hx : ae X st.L x = some (g1, .c (.ptr id (p + z.toNat * 1)))) (hg1 : g1 = true) (hlk : lk st.H id = some (.cells T cs)) (hz : decide (z = (j : Int)) = true) (hc : nth cs (p + j) = some c) (hsa : SA.c c = sa) : PureOk X st o sa := by
  intro R W Bi n ks env B w0 H a w1 hA
  subst hsa
  rw [of_decide_eq_true hz, Int.toNat_natCast, Nat.mul_one] at hx
  obtain ⟨vx, h1, b, hb, rfl⟩ := hA.ev hx hg1
  obtain ⟨ck, K, ⟨b', vs, hb', rfl, hcs⟩, hfoc⟩ := hA.heap.foc hlk
  rw [hb] at hb'
  cases hb'
  obtain ⟨v, hv, hcr⟩ := hcs.nth hc
  refine ⟨v, hcr, fun w hs => run_load1 hA.stt hop (TT.get hX ht).ti hag h1 ?_⟩
  rw [cel_cell (hs (by rw [hop]; rfl)) hfoc.more]
  exact hv
end
section
variable {X : Cx} {M : Bool} {n : Nat} {st : ASt} {Q : Exit → ASt → Prop} {ops : List Oper} {E : List Nat} {ds : DS} {listed' : Array Bool} {fuel d i : Nat} {o : Oper}
theorem adx_callB {f : FuncId} {fn : Func} {s ib : Nat} {xs : List Operand} {ts : Array TypeId} {args args' : List SA} {h H1 : Hp} {Qc : SV → Hp → Prop} {c pre' : Bool} (ps : Ps) (hC : AC X f args h Qc) (hE : (!E.elem i || pre') = true) (hpr : (ds.pre && ps.isEmpty) = pre') (hl : ds.listed.setIfInBounds i true = listed')
    (hop : o.op = .call { callee := .value (.tmp s), args := xs.toArray, argTypes := ts }) (ho : o.guard = none ∧ o.dst = some d) (hd : Nat.blt d n = true) (hsl : lk st.L s = some (.c (.bfn f ib)))
    (hfn : X.P.funcs[f]? = some fn) (hn : (fn.name == "runtime.NumGoroutine") = false) (hb : fn.body.isNone = false) (hargs : aes X st.L xs = some (c, args')) (hc : c = true) (hren : renAs ps args = some (.c (.ptr ib 0) :: args')) (hps : okPs n ps = true) (hpass : PassH ps h st.H H1)
    (hnext : ∀ sv h', Qc sv h' → ∃ sv' h'', sv.ren ps = some sv' ∧ renH ps h' = some h'' ∧ AD X M n ops E fuel ⟨listed', false, pre', false⟩ ⟨(d, sv') :: killL (killJs h ps) st.L, h'' ++ frameH (seconds ps) (killJs h ps) H1⟩ Q) : ADx X M n ops E fuel ds st Q i o := by
  intro R W Bi B0 w00 CS F ks env B w0 H a w hM hA hD
  obtain ⟨vs, h1, h2⟩ := aes_ok hA hargs hc
  obtain ⟨fv, hf1, b, hbk, rfl⟩ := hA.has _ _ hsl
  have he : ∀ i j, lk ps i = some j → env j = (fun i => match lk ps i with | some j => env j | none => Loc.no) i := fun i j hij => by simp only [hij]
  obtain ⟨C1, C2, h3, h4, h5⟩ := PassH.split (env := fun i => match lk ps i with | some j => env j | none => Loc.no) he hpass hA.heap
  have hs : SH B w0 C1 w := by
    have h6 := (hA.sh.perm (h3.append_right (ks.map mkO))).weak (H' := C1) (by rw [List.append_assoc]; exact List.sublist_append_left _ _)
    exact ⟨⟨h6.below.os, h6.below.tape, h6.below.output, h6.below.size, fun k hk => h6.below.block k (.inr hk)⟩, fun k hk => h6.base k (.inr hk), fun c hc => (h6.ok c hc).base fun b hb hk => ((h6.ok c hc).lt hb).1 (.inr hk), h6.apart⟩
  have hC1 : ps = [] → C1 = [] := fun e => by
    subst e
    cases hpass with
    | nil => exact h4
    | cons hi _ _ _ => cases hi
  refine y_callB hA.sym hop ho hd (full_look hf1) hfn hn hb h1 (hC B w0 _ (.pointer (some ⟨b, 0, none⟩) :: vs) C1 w (fun i x hx => hA.glob i x hx) ((SasR.ren he hren).2 ⟨_, _, rfl, ⟨b, hbk, rfl⟩, h2⟩) h4 hs) fun v a' w' hpost hS => ?_
  obtain ⟨sv, h', hQ, hnx⟩ := hA.called hps h3 h4 h5 hpost hS
  obtain ⟨sv', h'', e1, e2, hAD⟩ := hnext sv h' hQ
  obtain ⟨env', B', w0', H', hA', hsub, hKO, hkeep⟩ := hnx sv' h'' e1 e2
  have hD' : DInv R ⟨listed', false, pre', false⟩ B0 w00 CS F B' w0' H' := ⟨fun h => (by cases h), fun h => by
    have h' : pre' = true := h
    rw [← hpr, Bool.and_eq_true] at h'
    have hps0 : ps = [] := by simpa using h'.2
    obtain ⟨g1, g2, g3, g4⟩ := hD.pre h'.1
    refine ⟨fun c hc => ⟨hkeep hps0 c ?_, (g1 c hc).2⟩, g2, fun k hk => hsub k (g3 k hk), g4.trans ⟨hKO.os, hKO.tape, hKO.output, hKO.size, fun k hk => hKO.block k (hk.imp id (g3 k))⟩⟩
    have := h3.mem_iff.1 (g1 c hc).1
    rw [hC1 hps0] at this
    simpa using this, fun h => (by cases h), fun w hw => hD.frz' w (hKO.trans ⟨hw.os, hw.tape, hw.output, hw.size, fun k hk => hw.block k (hk.imp id (hsub k))⟩)⟩
  rw [hl]
  refine ⟨⟨fun hh => hD'.T ?_ hA', hD'.F hA'⟩, hAD R W Bi B0 w00 CS F ks env' B' w0' H' a' w' hM hA' hD'⟩
  rw [hh] at hE
  exact hE
end
end Go.Proofs.YtihcolehefloeaaDoor

/- Operations under a guard that may not be there itself. -/
namespace Go.Proofs.YtihcolehefloeaaDoor
open Go.RowKit
section
variable {X : Cx} {M : Bool} {n : Nat} {r : Option Nat} {st : ASt} {Q : Exit → ASt → Prop} {ops rest : List Oper} {o : Oper} {d : Nat}
theorem wantM {R : Nat → Prop} {W : World} {Bi : Bk} {ks : List Nat} {env : Nat → Loc} {B : Nat → Prop} {w0 : World} {H : List Ck} {a : Act} {w : World} (hA : AI X R W Bi n ks env B w0 H st a w) {j s : Nat} {want g b : Bool} (hg : o.guard = some (j, want)) (hj : nth (dstsOf ops) j = some (some s)) (hs : lk st.L s = some (.may g (.c (.val (.bool b))))) :
    Region.wanted o (yielded ops.toArray a.tmps) = (g && (b == want)) := by
  obtain ⟨oj, hoj, hsj⟩ := nth_map hj
  have hj' : (ops.toArray[j]?).bind (·.dst) = some s := by simp [hoj, ← hsj]
  obtain ⟨v, h1, h2, h3⟩ := hA.has _ _ hs
  cases g with
  | true =>
    rw [show v = _ from h2 rfl] at h1
    rw [wanted_of hA.sym hg hj' (full_look h1), Bool.true_and]
  | false =>
    rw [h3 rfl] at h1
    rw [unwanted_of hA.sym hg hj' (full_look h1)]
    rfl
theorem al_guardM (G : Bool) (x0 : SA) {j s : Nat} {want g b : Bool} (hg : o.guard = some (j, want)) (hj : nth (dstsOf ops) j = some (some s)) (hs : lk st.L s = some (.may g (.c (.val (.bool b))))) (hG : (match want with | true => g && b | false => g && !b) = G) (hdst : o.dst = some d) (hd : Nat.blt d n = true)
    (h1 : G = true → AL X M n r ops ({ dst := o.dst, op := o.op, type := o.type, pos := o.pos, after := o.after, guard := none } :: rest) st Q) (h0 : G = false → AL X M n r ops rest ⟨(d, .may false x0) :: st.L, st.H⟩ Q) : AL X M n r ops (o :: rest) st Q := by
  rintro R W Bi a w ⟨ks, env, B, w0, H, hM, hA⟩
  have hw := wantM hA hg hj hs
  have hw' : Region.wanted o (yielded ops.toArray a.tmps) = G := by
    rw [hw, ← hG]
    cases want <;> cases b <;> rfl
  clear hw
  cases hb : G with
  | true =>
    have h4 := h1 hb R W Bi a w ⟨ks, env, B, w0, H, hM, hA⟩
    show (if Region.wanted o (yielded ops.toArray a.tmps) then _ else _)
    rw [hw', if_pos hb]
    have h5 : (if Region.wanted { dst := o.dst, op := o.op, type := o.type, pos := o.pos, after := o.after, guard := none } (yielded ops.toArray a.tmps) then _ else _) := h4
    rw [show Region.wanted { dst := o.dst, op := o.op, type := o.type, pos := o.pos, after := o.after, guard := none } (yielded ops.toArray a.tmps) = true by simp [Region.wanted], if_pos rfl] at h5
    exact h5
  | false =>
    have hS : St n (ks.map markOf) ((d, undef) :: full a) (a.put o.dst undef) := by rw [hdst]; exact hA.stt.put d undef (lt_of_blt hd)
    show (if Region.wanted o (yielded ops.toArray a.tmps) then _ else _)
    rw [hw', if_neg (by simp [hb])]
    exact ⟨fun _ _ => trivial, h0 hb R W Bi _ w ⟨ks, env, B, w0, H, hM, hA.set (sv := .may false x0) ⟨fun h => (by cases h), fun _ => rfl⟩ hS⟩⟩
def zV : GTy → Value
  | .pair g h => .agg (g.zeros ++ h.zeros).toArray
  | g => g.zeros.headD undef
theorem zVD {v : Value} (g : GTy) (h : zV g = v) (hu : g.zeros ≠ []) : ∀ B w, VD B w g g.zero v := fun B w => by
  subst h
  cases g with
  | pair g h => exact ⟨_, rfl, FR.zeros (B := B) (w := w) (GTy.pair g h)⟩
  | unit => exact absurd rfl hu
  | int k => rfl
  | bool => rfl
  | str => rfl
  | sl g => exact FR.zeros (B := B) (w := w) (GTy.sl g)
  | csl g => exact FR.zeros (B := B) (w := w) (GTy.csl g)
theorem sk_lookup2 (hX : X.tt.ok X.P) {t kt et : TypeId} {te ke ee : TE} {k : IntKind} {gv : GTy} {u x : Operand} {id : Nat} {l : List (Int × gv.D)} {om : Option (List MapEntry × Nat)} {z : Int} {g : Bool} {sa : SA} (hop : o.op = .lookup t u x true) (ho : o.guard = none ∧ o.dst = some d) (hd : Nat.blt d n = true)
    (ht : X.tt.find t = some te) (hte : te.ti.desc = .map kt et) (hk : X.tt.find kt = some ke) (hke : ke.ti.desc = .int k) (he : X.tt.find et = some ee) (hz : ∀ B w, VD B w gv gv.zero ee.ti.zero)
    (hu : ae X st.L u = some (true, .c (.mref id))) (hx : ae X st.L x = some (g, .c (.val (.int k z)))) (hg : g = true) (hlk : lk st.H id = some (.mp (.int k) gv l om)) (hsa : vSA gv ((mget (.int k) gv l z).getD gv.zero) = some sa) : StepOk X n o st ⟨(d, .tup [sa, .c (.val (.bool (mget (.int k) gv l z).isSome))]) :: st.L, st.H⟩ := by
  intro R W Bi ks env B w0 H a w hA KK lo hnext
  obtain ⟨vu, h1, b, hb, rfl⟩ := hA.ev hu rfl
  obtain ⟨vx, h2, h3⟩ := hA.ev hx hg
  rw [show vx = _ from h3] at h2
  obtain ⟨c, K, ⟨b', es, clock, hb', rfl, hmr, hst, _⟩, hfoc⟩ := hA.heap.foc hlk
  rw [hb] at hb'
  cases hb'
  have hob := (hA.sh.ok _ hfoc.more.mem).2
  have e1 := (TT.get hX ht).ti.1
  rw [hte] at e1
  have e3 := (TT.get hX hk).ti.1
  rw [hke] at e3
  have e5 := TI.run_zero (TT.get hX he).ti w
  have hfin : ∃ v, (Instr.lookup t (.map (some b)) (.int k z) true).run X.P w = .ok (.tuple #[v, .bool (mget (.int k) gv l z).isSome]) w ∧ VD B w0 gv ((mget (.int k) gv l z).getD gv.zero) v := by
    unfold Instr.lookup
    rw [show (10000 : Nat) = 9999 + 1 from rfl]
    simp only [Sem.run_bind, run_underlying e1, Result.andThen_ok, MapKept.run_getObj_map hob, run_checkKey_int e3, Sem.run_pure]
    rcases hmr.findInt (z := z) 0 with ⟨h4, h5⟩ | ⟨y, j, v, h4, h5, h6, _⟩
    · refine ⟨ee.ti.zero, ?_, by rw [h4]; exact hz _ _⟩
      simp [MapKept.run_findKey e3 h5, e5, Result.andThen, h4]
    · refine ⟨v, ?_, by rw [h4]; exact h6⟩
      simp [MapKept.run_findKey e3 h5, Result.andThen, h4]
  obtain ⟨v, hrun, hvd⟩ := hfin
  refine x_value hA.stt ho.1 ho.2 (lt_of_blt hd) (v := .tuple #[v, .bool (mget (.int k) gv l z).isSome]) (w' := w) ?_ fun a' hS => ?_
  · simp [execOp, hop, hA.stt.ev h1, hA.stt.ev h2, hrun]
  · exact hnext a' _ env H (hA.set (sv := .tup [sa, .c (.val (.bool (mget (.int k) gv l z).isSome))]) ⟨[v, .bool (mget (.int k) gv l z).isSome], rfl, v, _, rfl, hvd.sa hsa, _, _, rfl, rfl, rfl⟩ hS)
end
end Go.Proofs.YtihcolehefloeaaDoor

/- operations.Check: models. -/
namespace Go.Proofs.YtihcolehefloeaaDoor
set_option linter.unusedSimpArgs false
set_option linter.unusedVariables false
open Go.RowKit
def m_ndcheck (a0 : (Int × Int)) : Option (Int) :=
    cond (cond (!(decide (a0.1 = (0 : Int)))) (!(decide (a0.1 = (1 : Int)))) false) (some (1 : Int)) (cond (cond (decide (a0.2 < (1 : Int))) true (decide ((40 : Int) < a0.2))) (some (1 : Int)) (some (0 : Int)))
set_option maxRecDepth 20000 in
set_option maxHeartbeats 4000000 in
theorem w_ndcheck (a0 : (Int × Int)) (r : (Int)) (h : m_ndcheck a0 = some r) : AC cx 84 [.agg [.val (.int .u8 a0.1), .val (.int .i64 a0.2)]] [] (fun sv h => sv = .a (.c (.val (.int .i64 r))) ∧ h = []) := by
  unfold m_ndcheck at h
  refine ac_body tt_ok Tryd.func84 rfl Tryd.ntmps84 rfl rfl (res := [.tmp 2]) rfl ?_
  refine ax_seq ?_
  refine ax_region ?_
  refine al_run tt_ok rfl rfl ?_
  refine ax_weak (Wk.frzC 1 gNd rfl rfl rfl) ?_
  refine ax_seq ?_
  refine ax_seq ?_
  refine ax_region ?_
  refine al_run tt_ok rfl (by generalize (decide (a0.1 = (0 : Int))) = b0; revert b0; decide) ?_
  refine ax_cond rfl rfl (fun hc => ?_) (fun hc => ?_)
  ·
   replace h := cond_t hc h
   refine ax_seq ?_
   refine ax_region ?_
   refine al_run tt_ok rfl rfl ?_
   refine ax_ret ?_
   obtain rfl := Option.some.inj h
   refine ⟨_, (Wk.pick [2] [] rfl rfl), _, _, rfl, rfl, ?_⟩
   exact ⟨rfl, rfl⟩
  ·
   replace h := cond_f hc h
   refine ax_skip ?_
   refine ax_seq ?_
   refine ax_seq ?_
   refine ax_region ?_
   refine al_run tt_ok rfl (by generalize (decide (a0.2 < (1 : Int))) = b0; revert b0; decide) ?_
   refine ax_cond rfl rfl (fun hc => ?_) (fun hc => ?_)
   ·
    replace h := cond_t hc h
    refine ax_seq ?_
    refine ax_region ?_
    refine al_run tt_ok rfl rfl ?_
    refine ax_ret ?_
    obtain rfl := Option.some.inj h
    refine ⟨_, (Wk.pick [2] [] rfl rfl), _, _, rfl, rfl, ?_⟩
    exact ⟨rfl, rfl⟩
   ·
    replace h := cond_f hc h
    refine ax_skip ?_
    refine ax_seq ?_
    refine ax_region ?_
    refine al_run tt_ok rfl rfl ?_
    refine ax_ret ?_
    obtain rfl := Option.some.inj h
    refine ⟨_, (Wk.pick [2] [] rfl rfl), _, _, rfl, rfl, ?_⟩
    exact ⟨rfl, rfl⟩
def m_opuses  : Option ((List (Int × (Bool × (Bool × (Bool × Bool)))))) :=
    some (mset (.int .u8) (.pair .bool (.pair .bool (.pair .bool .bool))) (mset (.int .u8) (.pair .bool (.pair .bool (.pair .bool .bool))) (mset (.int .u8) (.pair .bool (.pair .bool (.pair .bool .bool))) (mset (.int .u8) (.pair .bool (.pair .bool (.pair .bool .bool))) (mset (.int .u8) (.pair .bool (.pair .bool (.pair .bool .bool))) (mset (.int .u8) (.pair .bool (.pair .bool (.pair .bool .bool))) (mset (.int .u8) (.pair .bool (.pair .bool (.pair .bool .bool))) (mset (.int .u8) (.pair .bool (.pair .bool (.pair .bool .bool))) ([] : List (Int × (Bool × (Bool × (Bool × Bool))))) (1 : Int) (true, (false, (true, false)))) (2 : Int) (false, (false, (true, false)))) (3 : Int) (false, (false, (false, true)))) (4 : Int) (true, (true, (true, false)))) (5 : Int) (true, (true, (true, false)))) (6 : Int) (true, (true, (true, false)))) (7 : Int) (false, (true, (false, false)))) (8 : Int) (false, (true, (false, false))))
set_option maxRecDepth 20000 in
set_option maxHeartbeats 4000000 in
theorem w_opuses  (r : ((List (Int × (Bool × (Bool × (Bool × Bool))))))) (h : m_opuses  = some r) : AC cx 93 [] [] (fun sv h => sv = .a (.c (.mref 1)) ∧ h = [(1, .mp (.int .u8) (.pair .bool (.pair .bool (.pair .bool .bool))) r none)]) := by
  unfold m_opuses at h
  refine ac_body tt_ok Tryd.func93 rfl Tryd.ntmps93 rfl rfl (res := [.tmp 0]) rfl ?_
  refine ax_seq ?_
  refine ax_region ?_
  refine al_run tt_ok rfl rfl ?_
  refine ax_seq ?_
  refine ax_region ?_
  refine al_makeMap (.int .u8) (.pair .bool (.pair .bool (.pair .bool .bool))) rfl ⟨rfl, rfl⟩ rfl ?_
  refine al_upN 1 tt_ok rfl rfl ?_
  refine al_mapins (gv := (.pair .bool (.pair .bool (.pair .bool .bool)))) tt_ok rfl ⟨rfl, rfl⟩ rfl rfl rfl rfl rfl rfl rfl rfl rfl rfl rfl rfl rfl ?_
  refine al_upN 1 tt_ok rfl rfl ?_
  refine al_mapins (gv := (.pair .bool (.pair .bool (.pair .bool .bool)))) tt_ok rfl ⟨rfl, rfl⟩ rfl rfl rfl rfl rfl rfl rfl rfl rfl rfl rfl rfl rfl ?_
  refine al_upN 1 tt_ok rfl rfl ?_
  refine al_mapins (gv := (.pair .bool (.pair .bool (.pair .bool .bool)))) tt_ok rfl ⟨rfl, rfl⟩ rfl rfl rfl rfl rfl rfl rfl rfl rfl rfl rfl rfl rfl ?_
  refine al_upN 1 tt_ok rfl rfl ?_
  refine al_mapins (gv := (.pair .bool (.pair .bool (.pair .bool .bool)))) tt_ok rfl ⟨rfl, rfl⟩ rfl rfl rfl rfl rfl rfl rfl rfl rfl rfl rfl rfl rfl ?_
  refine al_upN 1 tt_ok rfl rfl ?_
  refine al_mapins (gv := (.pair .bool (.pair .bool (.pair .bool .bool)))) tt_ok rfl ⟨rfl, rfl⟩ rfl rfl rfl rfl rfl rfl rfl rfl rfl rfl rfl rfl rfl ?_
  refine al_upN 1 tt_ok rfl rfl ?_
  refine al_mapins (gv := (.pair .bool (.pair .bool (.pair .bool .bool)))) tt_ok rfl ⟨rfl, rfl⟩ rfl rfl rfl rfl rfl rfl rfl rfl rfl rfl rfl rfl rfl ?_
  refine al_upN 1 tt_ok rfl rfl ?_
  refine al_mapins (gv := (.pair .bool (.pair .bool (.pair .bool .bool)))) tt_ok rfl ⟨rfl, rfl⟩ rfl rfl rfl rfl rfl rfl rfl rfl rfl rfl rfl rfl rfl ?_
  refine al_upN 1 tt_ok rfl rfl ?_
  refine al_mapins (gv := (.pair .bool (.pair .bool (.pair .bool .bool)))) tt_ok rfl ⟨rfl, rfl⟩ rfl rfl rfl rfl rfl rfl rfl rfl rfl rfl rfl rfl rfl ?_
  refine al_run tt_ok rfl rfl ?_
  refine ax_ret ?_
  obtain rfl := Option.some.inj h
  refine ⟨_, (Wk.pick [0] [1] rfl rfl), _, _, rfl, rfl, ?_⟩
  exact ⟨rfl, rfl⟩
theorem ko_opplain_39 : KeyOk Tryd.prog 39 gNd := KeyOk.of tt_ok rfl rfl rfl (by kernel_rfl) (by kernel_rfl)
def m_opplain (a0 : OpT) : Option (Bool) :=
    Option.bind (m_opuses) fun r1 =>
    cond (!((mget (.int .u8) (.pair .bool (.pair .bool (.pair .bool .bool))) r1 a0.1).isSome)) (some false) (cond (cond (cond (cond ((mget (.int .u8) (.pair .bool (.pair .bool (.pair .bool .bool))) r1 a0.1).getD (false, (false, (false, false)))).1 (!(decide (a0.2.1 = (0 : Int)))) false) (!(decide (a0.2.1 = (1 : Int)))) false) true (cond (!((mget (.int .u8) (.pair .bool (.pair .bool (.pair .bool .bool))) r1 a0.1).getD (false, (false, (false, false)))).1) (!(decide (a0.2.1 = (0 : Int)))) false)) (some false) (Option.bind (cond ((mget (.int .u8) (.pair .bool (.pair .bool (.pair .bool .bool))) r1 a0.1).getD (false, (false, (false, false)))).2.1 (m_ndcheck a0.2.2.1) (some default)) fun r2 =>
    cond (cond (cond ((mget (.int .u8) (.pair .bool (.pair .bool (.pair .bool .bool))) r1 a0.1).getD (false, (false, (false, false)))).2.1 (!(decide (r2 = (0 : Int)))) false) true (cond (!((mget (.int .u8) (.pair .bool (.pair .bool (.pair .bool .bool))) r1 a0.1).getD (false, (false, (false, false)))).2.1) (!(GTy.beq gNd a0.2.2.1 ((0 : Int), (0 : Int)))) false)) (some false) (cond (cond (cond ((mget (.int .u8) (.pair .bool (.pair .bool (.pair .bool .bool))) r1 a0.1).getD (false, (false, (false, false)))).2.2.1 (cond (decide (a0.2.2.2.1 < (1 : Int))) true (decide ((6 : Int) < a0.2.2.2.1))) false) true (cond (!((mget (.int .u8) (.pair .bool (.pair .bool (.pair .bool .bool))) r1 a0.1).getD (false, (false, (false, false)))).2.2.1) (!(decide (a0.2.2.2.1 = (0 : Int)))) false)) (some false) (some (cond ((mget (.int .u8) (.pair .bool (.pair .bool (.pair .bool .bool))) r1 a0.1).getD (false, (false, (false, false)))).2.2.2 true (decide (a0.2.2.2.2 = (0 : Int))))))))
set_option maxRecDepth 20000 in
set_option maxHeartbeats 4000000 in
theorem w_opplain (a0 : OpT) (r : (Bool)) (h : m_opplain a0 = some r) : AC cx 82 [.agg [.val (.int .u8 a0.1), .val (.int .u8 a0.2.1), .val (.int .u8 a0.2.2.1.1), .val (.int .i64 a0.2.2.1.2), .val (.int .u8 a0.2.2.2.1), .val (.int .i64 a0.2.2.2.2)]] [] (fun sv h => sv = .a (.c (.val (.bool r))) ∧ h = []) := by
  unfold m_opplain at h
  refine ac_body tt_ok Tryd.func82 rfl Tryd.ntmps82 rfl rfl (res := [.tmp 2]) rfl ?_
  refine ax_seq ?_
  refine ax_region ?_
  refine al_run tt_ok rfl rfl ?_
  refine ax_weak (Wk.frzC 1 gOp rfl rfl rfl) ?_
  refine ax_seq ?_
  obtain ⟨r1, hr1, h⟩ := bd h
  apply ax_cut
  ·
    refine ax_draw [] (by kernel_rfl) rfl (N := 10) ?_
    refine ad_run (fuel := 8) (ds' := ⟨#[false, true, true, false, false, false, false, false, false, false], true, true, true⟩) tt_ok [(1, 0), (2, 1)] (by kernel_rfl) rfl rfl ?_
    refine ad_ready (by kernel_rfl) (ads_cons (i := 0) ?_ (ads_cons (i := 7) ?_ ads_nil))
    ·
      refine ado_of rfl ?_
      refine adx_call (i := 0) (listed' := #[true, true, true, false, false, false, false, false, false, false]) (pre' := false) [(1, 6)] (w_opuses   r1 hr1) rfl rfl rfl rfl ⟨rfl, rfl⟩ rfl Tryd.func93 rfl rfl rfl rfl rfl rfl PassH.nil ?_
      rintro _ _ ⟨rfl, rfl⟩
      refine ⟨_, _, rfl, rfl, ?_⟩
      refine ad_ready (by kernel_rfl) (ads_cons (i := 3) ?_ (ads_cons (i := 7) ?_ ads_nil))
      ·
        refine ado_sk (i := 3) (l' := #[true, true, true, true, false, false, false, false, false, false]) rfl (sk_lookup2 (gv := (.pair .bool (.pair .bool (.pair .bool .bool)))) tt_ok rfl ⟨rfl, rfl⟩ rfl rfl rfl rfl rfl rfl (zVD (.pair .bool (.pair .bool (.pair .bool .bool))) rfl (by decide)) rfl rfl rfl rfl rfl) rfl rfl ?_
        refine ad_run (fuel := 0) (ds' := ⟨#[true, true, true, true, true, true, true, true, true, true], false, false, false⟩) tt_ok [(4, 0), (5, 0), (6, 0), (7, 2), (8, 2), (9, 0)] (by kernel_rfl) rfl rfl ?_
        refine ad_done (by kernel_rfl) ?_
        exact ⟨rfl, Wk.pick [1, 3, 4] [3] rfl rfl⟩
      ·
        refine ado_step tt_ok (i := 7) rfl rfl rfl rfl rfl ?_
        refine ad_ready (by kernel_rfl) (ads_cons (i := 3) ?_ ads_nil)
        refine ado_sk (i := 3) (l' := #[true, true, true, true, false, false, false, true, false, false]) rfl (sk_lookup2 (gv := (.pair .bool (.pair .bool (.pair .bool .bool)))) tt_ok rfl ⟨rfl, rfl⟩ rfl rfl rfl rfl rfl rfl (zVD (.pair .bool (.pair .bool (.pair .bool .bool))) rfl (by decide)) rfl rfl rfl rfl rfl) rfl rfl ?_
        refine ad_run (fuel := 0) (ds' := ⟨#[true, true, true, true, true, true, true, true, true, true], false, false, false⟩) tt_ok [(4, 0), (5, 0), (6, 0), (8, 2), (9, 0)] (by kernel_rfl) rfl rfl ?_
        refine ad_done (by kernel_rfl) ?_
        exact ⟨rfl, Wk.pick [1, 3, 4] [3] rfl rfl⟩
    ·
      refine ado_step tt_ok (i := 7) rfl rfl rfl rfl rfl ?_
      refine ad_ready (by kernel_rfl) (ads_cons (i := 0) ?_ ads_nil)
      refine ado_of rfl ?_
      refine adx_call (i := 0) (listed' := #[true, true, true, false, false, false, false, true, false, false]) (pre' := false) [(1, 6)] (w_opuses   r1 hr1) rfl rfl rfl rfl ⟨rfl, rfl⟩ rfl Tryd.func93 rfl rfl rfl rfl rfl rfl PassH.nil ?_
      rintro _ _ ⟨rfl, rfl⟩
      refine ⟨_, _, rfl, rfl, ?_⟩
      refine ad_ready (by kernel_rfl) (ads_cons (i := 3) ?_ ads_nil)
      refine ado_sk (i := 3) (l' := #[true, true, true, true, false, false, false, true, false, false]) rfl (sk_lookup2 (gv := (.pair .bool (.pair .bool (.pair .bool .bool)))) tt_ok rfl ⟨rfl, rfl⟩ rfl rfl rfl rfl rfl rfl (zVD (.pair .bool (.pair .bool (.pair .bool .bool))) rfl (by decide)) rfl rfl rfl rfl rfl) rfl rfl ?_
      refine ad_run (fuel := 0) (ds' := ⟨#[true, true, true, true, true, true, true, true, true, true], false, false, false⟩) tt_ok [(4, 0), (5, 0), (6, 0), (8, 2), (9, 0)] (by kernel_rfl) rfl rfl ?_
      refine ad_done (by kernel_rfl) ?_
      exact ⟨rfl, Wk.pick [1, 3, 4] [3] rfl rfl⟩
  refine ax_seq ?_
  refine ax_seq ?_
  refine ax_region ?_
  refine al_run tt_ok rfl rfl ?_
  refine ax_cond rfl rfl (fun hc => ?_) (fun hc => ?_)
  ·
   replace h := cond_t hc h
   refine ax_seq ?_
   refine ax_region ?_
   refine al_run tt_ok rfl rfl ?_
   refine ax_ret ?_
   obtain rfl := Option.some.inj h
   refine ⟨_, (Wk.pick [2] [] rfl rfl), _, _, rfl, rfl, ?_⟩
   exact ⟨rfl, rfl⟩
  ·
   replace h := cond_f hc h
   refine ax_skip ?_
   refine ax_seq ?_
   refine ax_seq ?_
   refine ax_region ?_
   refine al_run tt_ok rfl (by generalize ((mget (.int .u8) (.pair .bool (.pair .bool (.pair .bool .bool))) r1 a0.1).getD (false, (false, (false, false)))).1 = b0; generalize (decide (a0.2.1 = (0 : Int))) = b1; generalize (decide (a0.2.1 = (1 : Int))) = b2; revert b0 b1 b2; decide) ?_
   refine ax_cond rfl rfl (fun hc => ?_) (fun hc => ?_)
   ·
    replace h := cond_t hc h
    refine ax_seq ?_
    refine ax_region ?_
    refine al_run tt_ok rfl rfl ?_
    refine ax_ret ?_
    obtain rfl := Option.some.inj h
    refine ⟨_, (Wk.pick [2] [] rfl rfl), _, _, rfl, rfl, ?_⟩
    exact ⟨rfl, rfl⟩
   ·
    replace h := cond_f hc h
    refine ax_skip ?_
    refine ax_seq ?_
    refine ax_seq ?_
    obtain ⟨r2, hr2, h⟩ := bd h
    refine ax_region ?_
    refine al_upto tt_ok rfl (by generalize ((mget (.int .u8) (.pair .bool (.pair .bool (.pair .bool .bool))) r1 a0.1).getD (false, (false, (false, false)))).2.1 = b0; generalize (decide (r2 = (0 : Int))) = b1; revert b0 b1; decide) ?_
    refine al_guard (.c (.val (.int .i64 r2))) rfl rfl rfl rfl rfl (fun hq3 => ?_) (fun hq3 => ?_)
    ·
     replace hr2 := cond_t hq3 hr2
     try simp only [ob2, cond_true, cond_false] at hq3
     all_goals
      refine al_callP (w_ndcheck _  r2 hr2) rfl ⟨rfl, rfl⟩ rfl Tryd.func84 rfl rfl rfl (by simp only [hq3, ob, decide_true, cond_true, cond_false]) rfl rfl ?_
      refine al_upN 10 tt_ok rfl (by simp only [hq3, ob, decide_true, cond_true, cond_false]) ?_
      refine al_guardM ((!(cond ((mget (.int .u8) (.pair .bool (.pair .bool (.pair .bool .bool))) r1 a0.1).getD (false, (false, (false, false)))).2.1 (!(decide (r2 = (0 : Int)))) false)) && (!((mget (.int .u8) (.pair .bool (.pair .bool (.pair .bool .bool))) r1 a0.1).getD (false, (false, (false, false)))).2.1)) (.c (.val (.bool (!(GTy.beq gNd a0.2.2.1 ((0 : Int), (0 : Int))))))) rfl rfl rfl rfl rfl rfl (fun hq4 => ?_) (fun hq4 => ?_)
      ·
       exfalso; simp only [hq3, ob2, cond_true, cond_false] at hq4
      ·
       try simp only [hq3, ob2, cond_true, cond_false] at hq4
       all_goals
        refine al_run tt_ok rfl (by revert hq3 hq4; generalize ((mget (.int .u8) (.pair .bool (.pair .bool (.pair .bool .bool))) r1 a0.1).getD (false, (false, (false, false)))).2.1 = b0; generalize (decide (r2 = (0 : Int))) = b1; revert b0 b1; decide) ?_
        refine ax_cond rfl rfl (fun hc => ?_) (fun hc => ?_)
        ·
         replace h := cond_t hc h
         refine ax_seq ?_
         refine ax_region ?_
         refine al_run tt_ok rfl rfl ?_
         refine ax_ret ?_
         obtain rfl := Option.some.inj h
         refine ⟨_, (Wk.pick [2] [] rfl rfl), _, _, rfl, rfl, ?_⟩
         exact ⟨rfl, rfl⟩
        ·
         replace h := cond_f hc h
         refine ax_skip ?_
         refine ax_seq ?_
         refine ax_seq ?_
         refine ax_region ?_
         refine al_run tt_ok rfl (by generalize ((mget (.int .u8) (.pair .bool (.pair .bool (.pair .bool .bool))) r1 a0.1).getD (false, (false, (false, false)))).2.2.1 = b0; generalize (decide (a0.2.2.2.1 < (1 : Int))) = b1; generalize (decide ((6 : Int) < a0.2.2.2.1)) = b2; revert b0 b1 b2; decide) ?_
         refine ax_cond rfl rfl (fun hc => ?_) (fun hc => ?_)
         ·
          replace h := cond_t hc h
          refine ax_seq ?_
          refine ax_region ?_
          refine al_run tt_ok rfl rfl ?_
          refine ax_ret ?_
          obtain rfl := Option.some.inj h
          refine ⟨_, (Wk.pick [2] [] rfl rfl), _, _, rfl, rfl, ?_⟩
          exact ⟨rfl, rfl⟩
         ·
          replace h := cond_f hc h
          refine ax_skip ?_
          refine ax_seq ?_
          refine ax_region ?_
          refine al_run tt_ok rfl (by generalize ((mget (.int .u8) (.pair .bool (.pair .bool (.pair .bool .bool))) r1 a0.1).getD (false, (false, (false, false)))).2.2.2 = b0; revert b0; decide) ?_
          refine ax_ret ?_
          obtain rfl := Option.some.inj h
          refine ⟨_, (Wk.pick [2] [] rfl rfl), _, _, rfl, rfl, ?_⟩
          exact ⟨rfl, rfl⟩
    ·
     try simp only [ob2, cond_true, cond_false] at hq3
     all_goals
      refine al_upN 10 tt_ok rfl (by simp only [hq3, ob, decide_true, cond_true, cond_false]) ?_
      refine al_guardM ((!(cond ((mget (.int .u8) (.pair .bool (.pair .bool (.pair .bool .bool))) r1 a0.1).getD (false, (false, (false, false)))).2.1 (!(decide (r2 = (0 : Int)))) false)) && (!((mget (.int .u8) (.pair .bool (.pair .bool (.pair .bool .bool))) r1 a0.1).getD (false, (false, (false, false)))).2.1)) (.c (.val (.bool (!(GTy.beq gNd a0.2.2.1 ((0 : Int), (0 : Int))))))) rfl rfl rfl rfl rfl rfl (fun hq5 => ?_) (fun hq5 => ?_)
      ·
       try simp only [hq3, ob2, cond_true, cond_false] at hq5
       all_goals
        refine al_neqA ko_opplain_39 rfl ⟨rfl, rfl⟩ rfl rfl (by simp only [hq3, hq5, ob, decide_true, cond_true, cond_false]) rfl (by simp only [hq3, hq5, ob, decide_true, cond_true, cond_false]) rfl (by simp only [hq3, hq5, ob, decide_true, cond_true, cond_false]) rfl (by simp only [hq3, hq5, ob, decide_true, cond_true, cond_false]) ?_
        refine al_run tt_ok rfl (by simp only [hq3, hq5, ob, decide_true, cond_true, cond_false]) ?_
        refine ax_cond rfl rfl (fun hc => ?_) (fun hc => ?_)
        ·
         replace h := cond_t hc h
         refine ax_seq ?_
         refine ax_region ?_
         refine al_run tt_ok rfl rfl ?_
         refine ax_ret ?_
         obtain rfl := Option.some.inj h
         refine ⟨_, (Wk.pick [2] [] rfl rfl), _, _, rfl, rfl, ?_⟩
         exact ⟨rfl, rfl⟩
        ·
         replace h := cond_f hc h
         refine ax_skip ?_
         refine ax_seq ?_
         refine ax_seq ?_
         refine ax_region ?_
         refine al_run tt_ok rfl (by generalize ((mget (.int .u8) (.pair .bool (.pair .bool (.pair .bool .bool))) r1 a0.1).getD (false, (false, (false, false)))).2.2.1 = b0; generalize (decide (a0.2.2.2.1 < (1 : Int))) = b1; generalize (decide ((6 : Int) < a0.2.2.2.1)) = b2; revert b0 b1 b2; decide) ?_
         refine ax_cond rfl rfl (fun hc => ?_) (fun hc => ?_)
         ·
          replace h := cond_t hc h
          refine ax_seq ?_
          refine ax_region ?_
          refine al_run tt_ok rfl rfl ?_
          refine ax_ret ?_
          obtain rfl := Option.some.inj h
          refine ⟨_, (Wk.pick [2] [] rfl rfl), _, _, rfl, rfl, ?_⟩
          exact ⟨rfl, rfl⟩
         ·
          replace h := cond_f hc h
          refine ax_skip ?_
          refine ax_seq ?_
          refine ax_region ?_
          refine al_run tt_ok rfl (by generalize ((mget (.int .u8) (.pair .bool (.pair .bool (.pair .bool .bool))) r1 a0.1).getD (false, (false, (false, false)))).2.2.2 = b0; revert b0; decide) ?_
          refine ax_ret ?_
          obtain rfl := Option.some.inj h
          refine ⟨_, (Wk.pick [2] [] rfl rfl), _, _, rfl, rfl, ?_⟩
          exact ⟨rfl, rfl⟩
      ·
       exfalso; simp only [hq3, ob2, cond_true, cond_false] at hq5
def m_opcheck (a0 : OpT) : Option (Int) :=
    Option.bind (m_opplain a0) fun r1 =>
    cond (!r1) (some (1 : Int)) (cond (cond (decide (a0.2.2.2.2 < (-4 : Int))) true (decide ((4 : Int) < a0.2.2.2.2))) (some (11 : Int)) (some (0 : Int)))
set_option maxRecDepth 20000 in
set_option maxHeartbeats 4000000 in
theorem w_opcheck (a0 : OpT) (r : (Int)) (h : m_opcheck a0 = some r) : AC cx 69 [.agg [.val (.int .u8 a0.1), .val (.int .u8 a0.2.1), .val (.int .u8 a0.2.2.1.1), .val (.int .i64 a0.2.2.1.2), .val (.int .u8 a0.2.2.2.1), .val (.int .i64 a0.2.2.2.2)]] [] (fun sv h => sv = .a (.c (.val (.int .i64 r))) ∧ h = []) := by
  unfold m_opcheck at h
  refine ac_body tt_ok Tryd.func69 rfl Tryd.ntmps69 rfl rfl (res := [.tmp 2]) rfl ?_
  refine ax_seq ?_
  refine ax_region ?_
  refine al_run tt_ok rfl rfl ?_
  refine ax_weak (Wk.frzC 1 gOp rfl rfl rfl) ?_
  refine ax_seq ?_
  refine ax_seq ?_
  obtain ⟨r1, hr1, h⟩ := bd h
  refine ax_region ?_
  refine al_upto tt_ok rfl rfl ?_
  refine al_callP (w_opplain _  r1 hr1) rfl ⟨rfl, rfl⟩ rfl Tryd.func82 rfl rfl rfl rfl rfl rfl ?_
  refine al_run tt_ok rfl rfl ?_
  refine ax_cond rfl rfl (fun hc => ?_) (fun hc => ?_)
  ·
   replace h := cond_t hc h
   refine ax_seq ?_
   refine ax_region ?_
   refine al_run tt_ok rfl rfl ?_
   refine ax_ret ?_
   obtain rfl := Option.some.inj h
   refine ⟨_, (Wk.pick [2] [] rfl rfl), _, _, rfl, rfl, ?_⟩
   exact ⟨rfl, rfl⟩
  ·
   replace h := cond_f hc h
   refine ax_skip ?_
   refine ax_seq ?_
   refine ax_seq ?_
   refine ax_region ?_
   refine al_run tt_ok rfl (by generalize (decide (a0.2.2.2.2 < (-4 : Int))) = b0; revert b0; decide) ?_
   refine ax_cond rfl rfl (fun hc => ?_) (fun hc => ?_)
   ·
    replace h := cond_t hc h
    refine ax_seq ?_
    refine ax_region ?_
    refine al_run tt_ok rfl rfl ?_
    refine ax_ret ?_
    obtain rfl := Option.some.inj h
    refine ⟨_, (Wk.pick [2] [] rfl rfl), _, _, rfl, rfl, ?_⟩
    exact ⟨rfl, rfl⟩
   ·
    replace h := cond_f hc h
    refine ax_skip ?_
    refine ax_seq ?_
    refine ax_region ?_
    refine al_run tt_ok rfl rfl ?_
    refine ax_ret ?_
    obtain rfl := Option.some.inj h
    refine ⟨_, (Wk.pick [2] [] rfl rfl), _, _, rfl, rfl, ?_⟩
    exact ⟨rfl, rfl⟩
end Go.Proofs.YtihcolehefloeaaDoor

/- Plain facts: loops of models. -/
namespace Go.Proofs.YtihcolehefloeaaDoor
open Go.RowKit
theorem fuel_of {n : Nat} (h : n ≤ 1000000) : n < FUEL := by unfold FUEL; omega
/-- A loop whose state is known at every round. -/
theorem loop_inv {S O : Type} (L : Nat → Int → S → Option O) (N : Nat) (sp : Nat → S) (r : O)
    (hs : ∀ n k, k < N → L (n + 1) (k : Int) (sp k) = L n ((k : Int) + 1) (sp (k + 1)))
    (he : ∀ n, L (n + 1) (N : Int) (sp N) = some r) : ∀ n k, k ≤ N → N - k < n → L n (k : Int) (sp k) = some r := by
  intro n
  induction n with
  | zero => intro k _ h; omega
  | succ n ih =>
    intro k hk hn
    by_cases e : k = N
    · subst e; exact he n
    · rw [hs n k (by omega)]
      have := ih (k + 1) (by omega) (by omega)
      rw [show (((k + 1 : Nat)) : Int) = (k : Int) + 1 by omega] at this
      exact this
theorem loop0 {S O : Type} (L : Nat → Int → S → Option O) (N : Nat) (sp : Nat → S) (r : O) (hN : N < FUEL)
    (hs : ∀ n k, k < N → L (n + 1) (k : Int) (sp k) = L n ((k : Int) + 1) (sp (k + 1)))
    (he : ∀ n, L (n + 1) (N : Int) (sp N) = some r) : L FUEL 0 (sp 0) = some r := loop_inv L N sp r hs he FUEL 0 (Nat.zero_le _) (by omega)
theorem gdt {α : Type} {c : Bool} {k : Option α} (h : c = true) : gd c k = k := gd_t h
theorem cdt {α : Type} {c : Bool} {x y : α} (h : c = true) : cond c x y = x := by rw [h]; rfl
theorem cdf {α : Type} {c : Bool} {x y : α} (h : c = false) : cond c x y = y := by rw [h]; rfl
/-- The first place where something does not hold. -/
theorem first_bad (p : Nat → Bool) (N : Nat) (h : ¬ ∀ k, k < N → p k = true) : ∃ j, j < N ∧ p j = false ∧ ∀ k, k < j → p k = true := by
  induction N with
  | zero => exact absurd (fun k hk => absurd hk (Nat.not_lt_zero _)) h
  | succ N ih =>
    by_cases hN : ∀ k, k < N → p k = true
    · refine ⟨N, by omega, ?_, hN⟩
      cases hp : p N with
      | false => rfl
      | true => exact absurd (fun k hk => by by_cases e : k = N; exact e ▸ hp; exact hN k (by omega)) h
    · obtain ⟨j, h1, h2⟩ := ih hN
      exact ⟨j, by omega, h2⟩
end Go.Proofs.YtihcolehefloeaaDoor

/- Which operations are valid, in plain words. -/
namespace Go.Proofs.YtihcolehefloeaaDoor
open Go.RowKit
structure OpP where
  kind : Nat
  dir : Nat
  bed : Nat
  place : Int
  yarn : Nat
  rack : Int
  deriving DecidableEq
def needleOk (bed : Nat) (place : Int) : Bool := decide (bed ≤ 1) && decide (1 ≤ place) && decide (place ≤ 40)
def needleErr (bed : Nat) (place : Int) : Int := if needleOk bed place then 0 else 1
def there (k : Nat) : Bool := decide (1 ≤ k) && decide (k ≤ 8)
def usesDir (k : Nat) : Bool := k == 1 || k == 4 || k == 5 || k == 6
def usesNeedle (k : Nat) : Bool := k == 4 || k == 5 || k == 6 || k == 7 || k == 8
def usesYarn (k : Nat) : Bool := k == 1 || k == 2 || k == 4 || k == 5 || k == 6
def usesRack (k : Nat) : Bool := k == 3
def dirBad (k d : Nat) : Bool := if usesDir k then decide (1 < d) else decide (0 < d)
def needleBad (k b : Nat) (p : Int) : Bool := if usesNeedle k then !needleOk b p else !(decide (b = 0) && decide (p = 0))
def yarnBad (k y : Nat) : Bool := if usesYarn k then decide (y < 1) || decide (6 < y) else decide (0 < y)
def opPlain (o : OpP) : Bool := there o.kind && !dirBad o.kind o.dir && !needleBad o.kind o.bed o.place && !yarnBad o.kind o.yarn && (usesRack o.kind || decide (o.rack = 0))
def opErr (o : OpP) : Int := if opPlain o then (if o.rack < -4 ∨ 4 < o.rack then 11 else 0) else 1
def toP (o : OpT) : OpP := ⟨o.1.toNat, o.2.1.toNat, o.2.2.1.1.toNat, o.2.2.1.2, o.2.2.2.1.toNat, o.2.2.2.2⟩
/-- Numbers of kind uint8 are not negative. -/
def OpN (o : OpT) : Prop := 0 ≤ o.1 ∧ 0 ≤ o.2.1 ∧ 0 ≤ o.2.2.1.1 ∧ 0 ≤ o.2.2.2.1
abbrev gUse : GTy := .pair .bool (.pair .bool (.pair .bool .bool))
def usesL : List (Int × Bool × Bool × Bool × Bool) := [(1, true, false, true, false), (2, false, false, true, false), (3, false, false, false, true), (4, true, true, true, false), (5, true, true, true, false), (6, true, true, true, false), (7, false, true, false, false), (8, false, true, false, false)]
theorem opuses_eq : m_opuses = some usesL := rfl
theorem mget_uses (k : Nat) : mget (.int .u8) gUse usesL (k : Int) = if there k = true then some (usesDir k, usesNeedle k, usesYarn k, usesRack k) else none := by
  by_cases h : 1 ≤ k ∧ k ≤ 8
  · obtain ⟨h1, h2⟩ := h
    rcases (show k = 1 ∨ k = 2 ∨ k = 3 ∨ k = 4 ∨ k = 5 ∨ k = 6 ∨ k = 7 ∨ k = 8 by omega) with h | h | h | h | h | h | h | h <;> subst h <;> rfl
  · have ht : there k = false := by simp [there]; omega
    have e : ∀ n : Int, 1 ≤ n → n ≤ 8 → (GTy.int IntKind.u8).beq n (k : Int) = false := fun n h1 h2 => beq_eq_false_iff_ne.2 (by omega)
    have e1 := e 1 (by omega) (by omega)
    have e2 := e 2 (by omega) (by omega)
    have e3 := e 3 (by omega) (by omega)
    have e4 := e 4 (by omega) (by omega)
    have e5 := e 5 (by omega) (by omega)
    have e6 := e 6 (by omega) (by omega)
    have e7 := e 7 (by omega) (by omega)
    have e8 := e 8 (by omega) (by omega)
    rw [ht]
    simp [usesL, mget, e1, e2, e3, e4, e5, e6, e7, e8]
theorem ndcheck_eq (b : Nat) (p : Int) : m_ndcheck ((b : Int), p) = some (needleErr b p) := by
  unfold m_ndcheck needleErr needleOk
  dsimp only
  by_cases hb : b ≤ 1
  · rw [cdf (by simp; omega), decide_eq_true hb]
    by_cases h : 1 ≤ p ∧ p ≤ 40
    · rw [cdf (by simp; omega), decide_eq_true h.1, decide_eq_true h.2]; rfl
    · rw [cdt (by simp; omega), if_neg (by simp; omega)]
  · rw [cdt (by simp; omega), decide_eq_false hb]; rfl
theorem nd_zero (b : Nat) (p : Int) : GTy.beq gNd ((b : Int), p) (0, 0) = (decide (b = 0) && decide (p = 0)) := by
  rw [Bool.eq_iff_iff, beq_iff (g := gNd) _ _ rfl]
  simp
theorem opplain_eq (k d b y : Nat) (p r : Int) : m_opplain ((k : Int), (d : Int), ((b : Int), p), (y : Int), r) = some (opPlain ⟨k, d, b, p, y, r⟩) := by
  unfold m_opplain
  rw [opuses_eq, Option.bind_some]
  dsimp only
  have hm := mget_uses k
  have hz : ((false, false, false, false) : Bool × Bool × Bool × Bool) = (false, (false, (false, false))) := rfl
  rw [hm, nd_zero, ndcheck_eq]
  unfold opPlain dirBad needleBad yarnBad
  dsimp only
  cases ht : there k with
  | false => rfl
  | true =>
    have hd0 : decide ((d : Int) = 0) = decide (d = 0) := by rw [decide_eq_decide]; omega
    have hd1 : decide ((d : Int) = 1) = decide (d = 1) := by rw [decide_eq_decide]; omega
    have hy0 : decide ((y : Int) = 0) = decide (y = 0) := by rw [decide_eq_decide]; omega
    have hy1 : decide ((y : Int) < 1) = decide (y < 1) := by rw [decide_eq_decide]; omega
    have hy6 : decide ((6 : Int) < (y : Int)) = decide (6 < y) := by rw [decide_eq_decide]; omega
    rw [hd0, hd1, hy0, hy1, hy6]
    have q1 : decide (1 < d) = (!decide (d = 0) && !decide (d = 1)) := by rw [Bool.eq_iff_iff]; simp; omega
    have q2 : decide (0 < d) = !decide (d = 0) := by rw [Bool.eq_iff_iff]; simp; omega
    have q3 : decide (0 < y) = !decide (y = 0) := by rw [Bool.eq_iff_iff]; simp; omega
    rw [q1, q2, q3]
    have hne : ∀ c : Bool, decide (needleErr b p = 0) = needleOk b p := fun _ => by unfold needleErr; cases needleOk b p <;> rfl
    simp only [if_true, Option.isSome_some, Option.getD_some, Bool.not_true, cond_false]
    generalize decide (d = 0) = d0
    generalize decide (d = 1) = d1
    generalize decide (y = 0) = y0
    generalize decide (y < 1) = y1
    generalize decide (6 < y) = y6
    generalize decide (r = 0) = r0
    generalize (decide (b = 0) && decide (p = 0)) = nz
    cases usesNeedle k with
    | true =>
      simp only [cond_true, Option.bind_some, hne true]
      generalize needleOk b p = no
      generalize usesDir k = u1
      generalize usesYarn k = u3
      generalize usesRack k = u4
      cases u1 <;> cases u3 <;> cases u4 <;> cases d0 <;> cases d1 <;> cases no <;> cases y0 <;> cases y1 <;> cases y6 <;> cases r0 <;> rfl
    | false =>
      simp only [cond_false, Option.bind_some]
      generalize usesDir k = u1
      generalize usesYarn k = u3
      generalize usesRack k = u4
      cases u1 <;> cases u3 <;> cases u4 <;> cases d0 <;> cases d1 <;> cases nz <;> cases y0 <;> cases y1 <;> cases y6 <;> cases r0 <;> rfl
theorem opcheck_eq (o : OpT) (h : OpN o) : m_opcheck o = some (opErr (toP o)) := by
  obtain ⟨g1, g2, g3, g4⟩ := h
  obtain ⟨k, d, ⟨b, p⟩, y, r⟩ := o
  obtain ⟨k, rfl⟩ := Int.eq_ofNat_of_zero_le g1
  obtain ⟨d, rfl⟩ := Int.eq_ofNat_of_zero_le g2
  obtain ⟨b, rfl⟩ := Int.eq_ofNat_of_zero_le g3
  obtain ⟨y, rfl⟩ := Int.eq_ofNat_of_zero_le g4
  unfold m_opcheck
  rw [opplain_eq, Option.bind_some]
  show _ = some (opErr ⟨k, d, b, p, y, r⟩)
  unfold opErr
  cases opPlain ⟨k, d, b, p, y, r⟩ with
  | false => rfl
  | true =>
    rw [if_pos rfl]
    dsimp only
    by_cases hr : r < -4 ∨ 4 < r
    · rw [if_pos hr]
      simp only [Bool.not_true, cond_false]
      rw [show (cond (decide (r < -4)) true (decide (4 < r))) = true by simp; omega]
      rfl
    · rw [if_neg hr]
      simp only [Bool.not_true, cond_false]
      rw [show (cond (decide (r < -4)) true (decide (4 < r))) = false by simp; omega]
      rfl
end Go.Proofs.YtihcolehefloeaaDoor

/- Contracts of Go's library, laid at this program (printed by the kit's lay-plain.mjs). -/
namespace Go.Proofs
open Go.Shelf
def Tryd.laysItoa_ren : Go.Shelf.Ren := ⟨fun | 171 => 70 | 243 => 83 | 246 => 94 | 283 => 100 | 284 => 101 | 285 => 102 | 286 => 103 | 129 => 107 | 317 => 106 | 318 => 108 | 319 => 109 | 320 => 110 | 337 => 111 | 338 => 112 | n => n, fun | 3 => 3 | 9 => 9 | 2 => 2 | 4 => 4 | 171 => 176 | 0 => 0 | 53 => 177 | 37 => 72 | 5 => 5 | 173 => 180 | 212 => 186 | 51 => 187 | 20 => 20 | 213 => 188 | 46 => 190 | 232 => 193 | 233 => 194 | n => n, fun | 17 => 3 | 18 => 5 | 19 => 6 | n => n⟩
theorem Tryd.laysItoa : Go.Proofs.LaysM.n171 Tryd.prog Tryd.laysItoa_ren := {
  mixed := by kernel_rfl
  f129 := Tryd.func107.trans (congrArg some (by kernel_rfl))
  f171 := Tryd.func70.trans (congrArg some (by kernel_rfl))
  f243 := Tryd.func83.trans (congrArg some (by kernel_rfl))
  f246 := Tryd.func94.trans (congrArg some (by kernel_rfl))
  f283 := Tryd.func100.trans (congrArg some (by kernel_rfl))
  f284 := Tryd.func101.trans (congrArg some (by kernel_rfl))
  f285 := Tryd.func102.trans (congrArg some (by kernel_rfl))
  f286 := Tryd.func103.trans (congrArg some (by kernel_rfl))
  f317 := Tryd.func106.trans (congrArg some (by kernel_rfl))
  f318 := Tryd.func108.trans (congrArg some (by kernel_rfl))
  f319 := Tryd.func109.trans (congrArg some (by kernel_rfl))
  f320 := Tryd.func110.trans (congrArg some (by kernel_rfl))
  f337 := Tryd.func111.trans (congrArg some (by kernel_rfl))
  f338 := Tryd.func112.trans (congrArg some (by kernel_rfl))
  t0 := Tryd.underlying0
  a0 := Tryd.isAgg0
  z0 := Tryd.sizeOf0
  v0 := Tryd.zeroValue0
  t2 := Tryd.underlying2
  a2 := Tryd.isAgg2
  z2 := Tryd.sizeOf2
  v2 := Tryd.zeroValue2
  t3 := Tryd.underlying3
  a3 := Tryd.isAgg3
  z3 := Tryd.sizeOf3
  v3 := Tryd.zeroValue3
  t4 := Tryd.underlying4
  a4 := Tryd.isAgg4
  z4 := Tryd.sizeOf4
  v4 := Tryd.zeroValue4
  t5 := Tryd.underlying5
  a5 := Tryd.isAgg5
  z5 := Tryd.sizeOf5
  v5 := Tryd.zeroValue5
  t9 := Tryd.underlying9
  a9 := Tryd.isAgg9
  z9 := Tryd.sizeOf9
  v9 := Tryd.zeroValue9
  t20 := Tryd.underlying20
  a20 := Tryd.isAgg20
  z20 := Tryd.sizeOf20
  v20 := Tryd.zeroValue20
  t37 := Tryd.underlying72
  a37 := Tryd.isAgg72
  z37 := Tryd.sizeOf72
  v37 := Tryd.zeroValue72
  t46 := Tryd.underlying190
  a46 := Tryd.isAgg190
  z46 := Tryd.sizeOf190
  v46 := Tryd.zeroValue190
  t51 := Tryd.underlying187
  a51 := Tryd.isAgg187
  z51 := Tryd.sizeOf187
  v51 := Tryd.zeroValue187
  t53 := Tryd.underlying177
  a53 := Tryd.isAgg177
  z53 := Tryd.sizeOf177
  v53 := Tryd.zeroValue177
  t171 := Tryd.underlying176
  a171 := Tryd.isAgg176
  z171 := Tryd.sizeOf176
  v171 := Tryd.zeroValue176
  t173 := Tryd.underlying180
  a173 := Tryd.isAgg180
  z173 := Tryd.sizeOf180
  v173 := Tryd.zeroValue180
  t212 := Tryd.underlying186
  a212 := Tryd.isAgg186
  z212 := Tryd.sizeOf186
  v212 := Tryd.zeroValue186
  t213 := Tryd.underlying188
  a213 := Tryd.isAgg188
  z213 := Tryd.sizeOf188
  t232 := Tryd.underlying193
  a232 := Tryd.isAgg193
  z232 := Tryd.sizeOf193
  v232 := Tryd.zeroValue193
  t233 := Tryd.underlying194
  a233 := Tryd.isAgg194
  z233 := Tryd.sizeOf194
  v233 := Tryd.zeroValue194
  g17 := by kernel_rfl
  g18 := by kernel_rfl
  g19 := by kernel_rfl
  i0 := by kernel_rfl
  i2 := by kernel_rfl
  i3 := by kernel_rfl
  i4 := by kernel_rfl
  i5 := by kernel_rfl
  i9 := by kernel_rfl
  i20 := by kernel_rfl
  i37 := by kernel_rfl
  i46 := by kernel_rfl
  i51 := by kernel_rfl
  i53 := by kernel_rfl
  i171 := by kernel_rfl
  i173 := by kernel_rfl
  i212 := by kernel_rfl
  i232 := by kernel_rfl
  i233 := by kernel_rfl
  m17 := by kernel_rfl
  m18 := by kernel_rfl
  m19 := by kernel_rfl }
def Tryd.laysJoin_ren : Go.Shelf.Ren := ⟨fun | 156 => 72 | 165 => 85 | 166 => 86 | 169 => 87 | 240 => 95 | 241 => 96 | 276 => 104 | 277 => 105 | n => n, fun | 31 => 101 | 9 => 9 | 3 => 3 | 4 => 4 | 0 => 0 | 20 => 20 | 72 => 155 | 76 => 158 | 70 => 153 | 37 => 72 | 75 => 157 | 127 => 172 | 164 => 182 | 5 => 5 | 80 => 160 | n => n, fun | n => n⟩
theorem Tryd.laysJoin : Go.Proofs.Lays.n156 Tryd.prog Tryd.laysJoin_ren := {
  mixed := by kernel_rfl
  f156 := Tryd.func72.trans (congrArg some (by kernel_rfl))
  f165 := Tryd.func85.trans (congrArg some (by kernel_rfl))
  f166 := Tryd.func86.trans (congrArg some (by kernel_rfl))
  f169 := Tryd.func87.trans (congrArg some (by kernel_rfl))
  f240 := Tryd.func95.trans (congrArg some (by kernel_rfl))
  f241 := Tryd.func96.trans (congrArg some (by kernel_rfl))
  f276 := Tryd.func104.trans (congrArg some (by kernel_rfl))
  f277 := Tryd.func105.trans (congrArg some (by kernel_rfl))
  t0 := Tryd.underlying0
  a0 := Tryd.isAgg0
  z0 := Tryd.sizeOf0
  v0 := Tryd.zeroValue0
  t3 := Tryd.underlying3
  a3 := Tryd.isAgg3
  z3 := Tryd.sizeOf3
  v3 := Tryd.zeroValue3
  t4 := Tryd.underlying4
  a4 := Tryd.isAgg4
  z4 := Tryd.sizeOf4
  v4 := Tryd.zeroValue4
  t9 := Tryd.underlying9
  a9 := Tryd.isAgg9
  z9 := Tryd.sizeOf9
  v9 := Tryd.zeroValue9
  t20 := Tryd.underlying20
  a20 := Tryd.isAgg20
  z20 := Tryd.sizeOf20
  v20 := Tryd.zeroValue20
  t31 := Tryd.underlying101
  a31 := Tryd.isAgg101
  z31 := Tryd.sizeOf101
  v31 := Tryd.zeroValue101
  t37 := Tryd.underlying72
  a37 := Tryd.isAgg72
  z37 := Tryd.sizeOf72
  v37 := Tryd.zeroValue72
  t70 := Tryd.underlying153
  a70 := Tryd.isAgg153
  z70 := Tryd.sizeOf153
  v70 := Tryd.zeroValue153
  t72 := Tryd.underlying155
  a72 := Tryd.isAgg155
  z72 := Tryd.sizeOf155
  v72 := Tryd.zeroValue155
  t75 := Tryd.underlying157
  a75 := Tryd.isAgg157
  z75 := Tryd.sizeOf157
  v75 := Tryd.zeroValue157
  t76 := Tryd.underlying158
  a76 := Tryd.isAgg158
  z76 := Tryd.sizeOf158
  v76 := Tryd.zeroValue158
  t127 := Tryd.underlying172
  a127 := Tryd.isAgg172
  z127 := Tryd.sizeOf172
  v127 := Tryd.zeroValue172
  t164 := Tryd.underlying182
  a164 := Tryd.isAgg182
  z164 := Tryd.sizeOf182
  v164 := Tryd.zeroValue182 }
theorem Tryd.bldExtra : Builder.Extra Tryd.prog Tryd.laysJoin_ren := {
  sizeBuilder := by kernel_rfl
  liesBuilder := by kernel_rfl
  t5 := Tryd.underlying5
  a5 := Tryd.isAgg5
  z5 := Tryd.sizeOf5
  v5 := Tryd.zeroValue5
  infoByte := by kernel_rfl
  cellsByte := by kernel_rfl
  sizeByte := by kernel_rfl
  neB5 := by decide }
end Go.Proofs

/- Texts: strconv.Itoa, strings.Join; operations.Check. -/
namespace Go.Proofs.YtihcolehefloeaaDoor
open Go.RowKit
theorem drewN_heap (w : World) : ∀ k, (w.drewN k).heap = w.heap ∧ (w.drewN k).os = w.os ∧ (w.drewN k).tape = w.tape ∧ (w.drewN k).output = w.output := fun k => ⟨rfl, rfl, rfl, rfl⟩
theorem below_grew (w : World) (k : Nat) (os : Array Obj) : Below w.heap.size w (Sort.grow (w.drewN k) os) := by
  obtain ⟨h1, h2, h3, h4⟩ := drewN_heap w k
  refine ⟨h2, h3, h4, ?_, fun j hj => ?_⟩
  · show w.heap.size ≤ ((w.drewN k).heap ++ os).size
    rw [h1, Array.size_append]; omega
  · show ((w.drewN k).heap ++ os)[j]? = _
    rw [h1, Array.getElem?_append_left hj]
theorem itoa_ok (n : Int) (h0 : -9223372036854775808 ≤ n) (h1 : n ≤ 9223372036854775807) : AC cx 70 [.c (.val (.int .i64 n))] [] (fun sv h => sv = .c (.str (Lib.itoa n)) ∧ h = []) := by
  refine AC.ofRet (v0 := strV (Lib.itoa n)) (fun _ _ _ => rfl) ?_
  rintro env B w0 _ W hg ⟨v, r, rfl, hv, hr⟩ hB
  have e1 : v = _ := hv
  have e2 : r = [] := hr
  subst e1 e2
  refine Calls.mono (Any.strconv_Itoa Tryd.laysItoa n h0 h1 W ((hg 3 _ rfl).tab (by kernel_rfl))) ?_
  rintro e w' ⟨rfl, k, os, rfl⟩
  exact ⟨_, rfl, rfl, below_grew _ _ _⟩
theorem join_ok (l : List (List UInt8)) (cap : Option Nat) (sep : List UInt8) (h0 : 0 < l.length) (h1 : l.length ≤ 1000000) (h2 : (Lib.join l sep).length ≤ 1000000000) : AC cx 72 [.c (.lst .str l cap), .c (.str sep)] [] (fun sv h => sv = .c (.str (Lib.join l sep)) ∧ h = []) := by
  refine AC.ofRet (v0 := strV (Lib.join l sep)) (fun _ _ _ => rfl) ?_
  rintro env B w0 _ W hg ⟨v, r, rfl, ⟨A, c, xs, rfl, hc1, hc2, _, hf, hrd, hrb⟩, v2, r2, rfl, hv2, hr2⟩ hB
  have e1 : v2 = strV sep := hv2
  have e2 : r2 = [] := hr2
  subst e1 e2
  obtain ⟨b, p, e, hcell⟩ := hrd.2 h0
  subst e
  have hxs := flat_strs hf
  have hmap : (l.map fun x => (⟨x.toArray⟩ : ByteArray)).map (·.data.toList) = l := by
    rw [List.map_map]
    exact (List.map_congr_left (fun x _ => rfl)).trans (List.map_id' l)
  have hJ := Any.strings_Join_48 Tryd.laysJoin Tryd.bldExtra b p c (l.map fun x => ⟨x.toArray⟩) ⟨sep.toArray⟩ W (fun j x hx => by
    refine hcell j _ ?_
    rw [hxs]
    rw [List.getElem?_map] at hx ⊢
    cases hl : l[j]? with
    | none => rw [hl] at hx; cases hx
    | some y => rw [hl] at hx; cases hx; rfl) (hB b (hrb b p h0 rfl)) (by rw [List.length_map]; omega) (by rw [List.length_map]; exact hc1) (by rw [hmap]; show (Lib.join l sep).length ≤ _; omega)
  rw [hmap, List.length_map] at hJ
  refine Calls.mono hJ ?_
  rintro e w' ⟨rfl, hb⟩
  exact ⟨_, rfl, rfl, hb⟩
/-- Small numbers. -/
def digS (u : Nat) : List UInt8 := if u < 10 then [UInt8.ofNat (48 + u)] else [UInt8.ofNat (48 + u / 10), UInt8.ofNat (48 + u % 10)]
def itS (n : Int) : List UInt8 := if n < 0 then 45 :: digS n.natAbs else digS n.toNat
theorem digS_eq (u : Nat) (h : u < 100) : Lib.decDigits u = digS u := by
  unfold digS
  split
  · rename_i h1
    rw [Lib.decDigits]
    simp [h1]
  · rename_i h1
    rw [Lib.decDigits]
    simp [h1]
    rw [Lib.decDigits]
    have : u / 10 < 10 := by omega
    simp [this]
theorem itS_eq (n : Int) (h0 : -100 < n) (h1 : n < 100) : Lib.itoa n = itS n := by
  unfold Lib.itoa itS
  rw [digS_eq _ (by omega), digS_eq _ (by omega)]
theorem itS_len (n : Int) : (itS n).length ≤ 3 := by
  unfold itS digS
  repeat' split
  all_goals simp
theorem itoaS_ok (n : Int) (h0 : -100 < n) (h1 : n < 100) : AC cx 70 [.c (.val (.int .i64 n))] [] (fun sv h => sv = .c (.str (itS n)) ∧ h = []) := by
  have := itoa_ok n (by omega) (by omega)
  rw [itS_eq n h0 h1] at this
  exact this
/-- The cells of an operation. -/
abbrev opArg (o : OpT) : SA := .agg [.val (.int .u8 o.1), .val (.int .u8 o.2.1), .val (.int .u8 o.2.2.1.1), .val (.int .i64 o.2.2.1.2), .val (.int .u8 o.2.2.2.1), .val (.int .i64 o.2.2.2.2)]
theorem ncheck_ok (b p : Int) (hb : 0 ≤ b) : AC cx 84 [.agg [.val (.int .u8 b), .val (.int .i64 p)]] [] (fun sv h => sv = .c (.val (.int .i64 (needleErr b.toNat p))) ∧ h = []) :=
  w_ndcheck (b, p) _ (by have := ndcheck_eq b.toNat p; rw [Int.toNat_of_nonneg hb] at this; exact this)
theorem opcheck_ok (o : OpT) (h : OpN o) : AC cx 69 [opArg o] [] (fun sv h => sv = .c (.val (.int .i64 (opErr (toP o)))) ∧ h = []) := w_opcheck o _ (opcheck_eq o h)
def needleT (b p : Int) : List UInt8 := if needleOk b.toNat p then (if b = 0 then 102 :: itS p else 98 :: itS p) else []
theorem needle_bounds {b : Nat} {p : Int} (h : needleOk b p = true) : b ≤ 1 ∧ 1 ≤ p ∧ p ≤ 40 := by
  simp [needleOk] at h
  omega
theorem needleT_len (b p : Int) : (needleT b p).length ≤ 4 := by
  unfold needleT
  split
  · rename_i h
    have := needle_bounds h
    have := itS_len p
    split <;> simp <;> omega
  · simp
theorem ntext_ok (b p : Int) (hb : 0 ≤ b) : AC cx 71 [.agg [.val (.int .u8 b), .val (.int .i64 p)]] [] (fun sv h => sv = .c (.str (needleT b p)) ∧ h = []) := by
  refine ac_body tt_ok Tryd.func71 rfl Tryd.ntmps71 rfl rfl (res := [.tmp 2]) rfl ?_
  refine ax_seq ?_
  refine ax_region ?_
  refine al_run tt_ok rfl rfl ?_
  refine ax_seq ?_
  refine ax_seq ?_
  refine ax_region ?_
  refine al_upto tt_ok rfl rfl ?_
  refine al_callP (ncheck_ok b p hb) rfl ⟨rfl, rfl⟩ rfl Tryd.func84 rfl rfl rfl rfl rfl rfl ?_
  refine al_run tt_ok rfl rfl ?_
  refine ax_cond rfl rfl (fun hc1 => ?_) (fun hc1 => ?_)
  ·
    refine ax_seq ?_
    refine ax_region ?_
    refine al_run tt_ok rfl rfl ?_
    refine ax_ret ?_
    refine ⟨_, Wk.sub (st' := ⟨[(2, _)], []⟩) (SubL.cons rfl SubL.nil) SubH.nil, _, _, rfl, rfl, ?_⟩
    have hf : needleOk b.toNat p = false := by
      cases h : needleOk b.toNat p with
      | false => rfl
      | true => rw [needleErr, h] at hc1; simp at hc1
    rw [needleT, hf]
    exact ⟨rfl, rfl⟩
  ·
    refine ax_skip ?_
    refine ax_seq ?_
    refine ax_seq ?_
    have hf : needleOk b.toNat p = true := by
      cases h : needleOk b.toNat p with
      | true => rfl
      | false => rw [needleErr, h] at hc1; simp at hc1
    have hnb := needle_bounds hf
    have hil := itS_len p
    refine ax_region ?_
    refine al_run tt_ok rfl rfl ?_
    refine ax_cond rfl rfl (fun hc3 => ?_) (fun hc3 => ?_)
    ·
      refine ax_seq ?_
      refine ax_region ?_
      refine al_upto tt_ok rfl rfl ?_
      refine al_callP (itoaS_ok p (by omega) (by omega)) rfl ⟨rfl, rfl⟩ rfl Tryd.func70 rfl rfl rfl rfl rfl rfl ?_
      refine al_run tt_ok rfl (by simp <;> omega) ?_
      refine ax_ret ?_
      refine ⟨_, Wk.sub (st' := ⟨[(2, _)], []⟩) (SubL.cons rfl SubL.nil) SubH.nil, _, _, rfl, rfl, ?_⟩
      rw [needleT, hf, if_pos rfl, if_pos (by simpa using hc3)]
      exact ⟨rfl, rfl⟩
    ·
      refine ax_skip ?_
      refine ax_seq ?_
      refine ax_region ?_
      refine al_upto tt_ok rfl rfl ?_
      refine al_callP (itoaS_ok p (by omega) (by omega)) rfl ⟨rfl, rfl⟩ rfl Tryd.func70 rfl rfl rfl rfl rfl rfl ?_
      refine al_run tt_ok rfl (by simp <;> omega) ?_
      refine ax_ret ?_
      refine ⟨_, Wk.sub (st' := ⟨[(2, _)], []⟩) (SubL.cons rfl SubL.nil) SubH.nil, _, _, rfl, rfl, ?_⟩
      rw [needleT, hf, if_pos rfl, if_neg (by simpa using hc3)]
      exact ⟨rfl, rfl⟩
end Go.Proofs.YtihcolehefloeaaDoor

/- operations.Text. -/
namespace Go.Proofs.YtihcolehefloeaaDoor
open Go.RowKit
def partsT (o : OpT) : List (List UInt8) :=
  wordsL.getD o.1.toNat [] ::
    (if o.1 = 1 then [itS o.2.2.2.1, dirsL.getD o.2.1.toNat []]
    else if o.1 = 2 then [itS o.2.2.2.1]
    else if o.1 = 3 then [itS o.2.2.2.2]
    else if o.1 = 4 ∨ o.1 = 5 ∨ o.1 = 6 then [dirsL.getD o.2.1.toNat [], needleT o.2.2.1.1 o.2.2.1.2, itS o.2.2.2.1]
    else [needleT o.2.2.1.1 o.2.2.1.2])
def textT (o : OpT) : List UInt8 := if opErr (toP o) = 0 then Lib.join (partsT o) [32] else []
theorem opErr_ok (o : OpT) (hn : OpN o) (h : opErr (toP o) = 0) : 1 ≤ o.1 ∧ o.1 ≤ 8 ∧ o.2.1 ≤ 1 ∧ o.2.2.2.1 ≤ 6 ∧ -4 ≤ o.2.2.2.2 ∧ o.2.2.2.2 ≤ 4 := by
  obtain ⟨g1, g2, g3, g4⟩ := hn
  unfold opErr at h
  split at h
  · rename_i hp
    split at h
    · simp at h
    · rename_i hr
      simp only [opPlain, Bool.and_eq_true, Bool.not_eq_true'] at hp
      obtain ⟨⟨⟨⟨p1, p2⟩, p3⟩, p4⟩, p5⟩ := hp
      simp only [there, Bool.and_eq_true, decide_eq_true_eq] at p1
      have q2 : (toP o).dir ≤ 1 := by
        unfold dirBad at p2
        split at p2 <;> simp at p2 <;> omega
      have q4 : (toP o).yarn ≤ 6 := by
        unfold yarnBad at p4
        split at p4 <;> simp at p4 <;> omega
      simp only [toP] at p1 q2 q4 hr
      refine ⟨by omega, by omega, by omega, by omega, by omega, by omega⟩
  · simp at h
theorem word_len (k : Nat) : (wordsL.getD k []).length ≤ 4 := getD_len k
where
  getD_len : ∀ k, (wordsL.getD k []).length ≤ 4
    | 0 | 1 | 2 | 3 | 4 | 5 | 6 | 7 | 8 => by decide
    | _ + 9 => by simp [wordsL]
theorem dir_len (k : Nat) : (dirsL.getD k []).length ≤ 5 := getD_len k
where
  getD_len : ∀ k, (dirsL.getD k []).length ≤ 5
    | 0 | 1 => by decide
    | _ + 2 => by simp [dirsL]
theorem optext_ok (o : OpT) (hn : OpN o) : AC cx 42 [opArg o] [] (fun sv h => sv = .c (.str (textT o)) ∧ h = []) := by
  refine ac_body tt_ok Tryd.func42 rfl Tryd.ntmps42 rfl rfl (res := [.tmp 2]) rfl ?_
  have hn' := hn
  obtain ⟨g1, g2, g3, g4⟩ := hn'
  refine ax_seq ?_
  refine ax_region ?_
  refine al_run tt_ok rfl rfl ?_
  refine ax_seq ?_
  refine ax_seq ?_
  refine ax_region ?_
  refine al_upto tt_ok rfl rfl ?_
  refine al_callP (opcheck_ok o hn) rfl ⟨rfl, rfl⟩ rfl Tryd.func69 rfl rfl rfl rfl rfl rfl ?_
  refine al_run tt_ok rfl rfl ?_
  refine ax_cond rfl rfl (fun hc1 => ?_) (fun hc1 => ?_)
  ·
    refine ax_seq ?_
    refine ax_region ?_
    refine al_run tt_ok rfl rfl ?_
    refine ax_ret ?_
    refine ⟨_, Wk.sub (st' := ⟨[(2, _)], []⟩) (SubL.cons rfl SubL.nil) SubH.nil, _, _, rfl, rfl, ?_⟩
    have hf : opErr (toP o) ≠ 0 := by simpa using hc1
    rw [textT, if_neg hf]
    exact ⟨rfl, rfl⟩
  ·
    refine ax_skip ?_
    refine ax_seq ?_
    have hf : opErr (toP o) = 0 := by simpa using hc1
    obtain ⟨b1, b2, b3, b4, b5, b6⟩ := opErr_ok o hn hf
    have h1 := word_len o.1.toNat
    have h2 := dir_len o.2.1.toNat
    have h3 := itS_len o.2.2.2.1
    have h4 := itS_len o.2.2.2.2
    have h5 := needleT_len o.2.2.1.1 o.2.2.1.2
    have hwl : wordsL.length = 9 := rfl
    have hdl : dirsL.length = 2 := rfl
    refine ax_region ?_
    refine al_upto tt_ok rfl (by simp only [inB, inI64, fitB, GTy.zero, Bool.and_eq_true, Bool.or_eq_true, Bool.not_eq_true', Bool.and_true, Bool.true_and, Bool.or_true, Bool.true_or, decide_eq_true_eq, decide_eq_false_iff_not, true_and, and_true]; omega) ?_
    refine al_callP (itoaS_ok o.2.2.2.1 (by omega) (by omega)) rfl ⟨rfl, rfl⟩ rfl Tryd.func70 rfl rfl rfl rfl rfl rfl ?_
    refine al_run tt_ok rfl rfl ?_
    refine ax_seq ?_
    refine ax_region ?_
    refine al_run tt_ok rfl (by simp only [inB, inI64, fitB, GTy.zero, Bool.and_eq_true, Bool.or_eq_true, Bool.not_eq_true', Bool.and_true, Bool.true_and, Bool.or_true, Bool.true_or, decide_eq_true_eq, decide_eq_false_iff_not, true_and, and_true]; omega) ?_
    refine ax_seq ?_
    refine ax_seq ?_
    refine ax_region ?_
    refine al_run tt_ok rfl rfl ?_
    refine ax_block ?_
    refine ax_seq ?_
    refine ax_region ?_
    refine al_run tt_ok rfl rfl ?_
    refine ax_cond rfl rfl (fun hc6 => ?_) (fun hc6 => ?_)
    ·
      refine ax_region ?_
      refine al_run tt_ok rfl (by simp [inB, inI64, fitB, GTy.zero]; omega) ?_
      refine ax_seq ?_
      first | (exfalso; (simp only [decide_eq_true_eq, decide_eq_false_iff_not] at *; omega); done) | skip
      all_goals
        refine ax_weak (Wk.frz (id := 16) rfl) ?_
        refine ax_region ?_
        refine al_upto tt_ok rfl rfl ?_
        refine al_callP (join_ok _ none [32] (by simp) (by simp) (by simp only [GTy.zero, Lib.join, List.intercalate, List.intersperse, List.flatten_cons, List.flatten_nil, List.cons_append, List.nil_append, List.length_append, List.length_cons, List.length_nil, List.append_nil]; omega)) rfl ⟨rfl, rfl⟩ rfl Tryd.func72 rfl rfl rfl rfl rfl rfl ?_
        refine al_run tt_ok rfl rfl ?_
        refine ax_ret ?_
        refine ⟨_, Wk.sub (st' := ⟨[(2, _)], []⟩) (SubL.cons rfl SubL.nil) SubH.nil, _, _, rfl, rfl, ?_⟩
        refine ⟨?_, rfl⟩
        clear h1 h2 h3 h4 h5 hwl hdl
        simp only [decide_eq_true_eq, decide_eq_false_iff_not] at *
        simp [textT, hf, partsT, *]
        done
    ·
      refine ax_seq ?_
      refine ax_region ?_
      refine al_run tt_ok rfl rfl ?_
      refine ax_cond rfl rfl (fun hc8 => ?_) (fun hc8 => ?_)
      ·
        refine ax_region ?_
        refine al_run tt_ok rfl rfl ?_
        refine ax_seq ?_
        first | (exfalso; (simp only [decide_eq_true_eq, decide_eq_false_iff_not] at *; omega); done) | skip
        all_goals
          refine ax_weak (Wk.frz (id := 16) rfl) ?_
          refine ax_region ?_
          refine al_upto tt_ok rfl rfl ?_
          refine al_callP (join_ok _ none [32] (by simp) (by simp) (by simp only [GTy.zero, Lib.join, List.intercalate, List.intersperse, List.flatten_cons, List.flatten_nil, List.cons_append, List.nil_append, List.length_append, List.length_cons, List.length_nil, List.append_nil]; omega)) rfl ⟨rfl, rfl⟩ rfl Tryd.func72 rfl rfl rfl rfl rfl rfl ?_
          refine al_run tt_ok rfl rfl ?_
          refine ax_ret ?_
          refine ⟨_, Wk.sub (st' := ⟨[(2, _)], []⟩) (SubL.cons rfl SubL.nil) SubH.nil, _, _, rfl, rfl, ?_⟩
          refine ⟨?_, rfl⟩
          clear h1 h2 h3 h4 h5 hwl hdl
          simp only [decide_eq_true_eq, decide_eq_false_iff_not] at *
          simp [textT, hf, partsT, *]
          done
      ·
        refine ax_seq ?_
        refine ax_region ?_
        refine al_run tt_ok rfl rfl ?_
        refine ax_cond rfl rfl (fun hc10 => ?_) (fun hc10 => ?_)
        ·
          refine ax_region ?_
          refine al_upto tt_ok rfl rfl ?_
          refine al_callP (itoaS_ok o.2.2.2.2 (by omega) (by omega)) rfl ⟨rfl, rfl⟩ rfl Tryd.func70 rfl rfl rfl rfl rfl rfl ?_
          refine al_run tt_ok rfl rfl ?_
          refine ax_seq ?_
          first | (exfalso; (simp only [decide_eq_true_eq, decide_eq_false_iff_not] at *; omega); done) | skip
          all_goals
            refine ax_weak (Wk.frz (id := 16) rfl) ?_
            refine ax_region ?_
            refine al_upto tt_ok rfl rfl ?_
            refine al_callP (join_ok _ none [32] (by simp) (by simp) (by simp only [GTy.zero, Lib.join, List.intercalate, List.intersperse, List.flatten_cons, List.flatten_nil, List.cons_append, List.nil_append, List.length_append, List.length_cons, List.length_nil, List.append_nil]; omega)) rfl ⟨rfl, rfl⟩ rfl Tryd.func72 rfl rfl rfl rfl rfl rfl ?_
            refine al_run tt_ok rfl rfl ?_
            refine ax_ret ?_
            refine ⟨_, Wk.sub (st' := ⟨[(2, _)], []⟩) (SubL.cons rfl SubL.nil) SubH.nil, _, _, rfl, rfl, ?_⟩
            refine ⟨?_, rfl⟩
            clear h1 h2 h3 h4 h5 hwl hdl
            simp only [decide_eq_true_eq, decide_eq_false_iff_not] at *
            simp [textT, hf, partsT, *]
            done
        ·
          refine ax_seq ?_
          refine ax_seq ?_
          refine ax_region ?_
          refine al_run tt_ok rfl rfl ?_
          refine ax_cond rfl rfl (fun hc12 => ?_) (fun hc12 => ?_)
          ·
            refine ax_skip ?_
            refine ax_cond rfl rfl (fun hc12 => ?_) (fun hc12 => ?_)
            ·
              first | (exfalso; (simp only [decide_eq_true_eq, decide_eq_false_iff_not] at *; omega); done) | skip
              all_goals
                refine ax_draw [5, 6, 7, 8] (by kernel_rfl) rfl (N := 12) ?_
                refine ad_run (fuel := 4) (ds' := ⟨#[true, true, true, true, true, true, true, false, true, false, false, false], true, true, true⟩) tt_ok [(0, 0), (1, 0), (2, 3), (3, 0), (4, 1), (5, 0), (6, 3), (8, 0)] (by kernel_rfl) rfl (by simp only [inB, inI64, fitB, GTy.zero, Bool.and_eq_true, Bool.or_eq_true, Bool.not_eq_true', Bool.and_true, Bool.true_and, Bool.or_true, Bool.true_or, decide_eq_true_eq, decide_eq_false_iff_not, true_and, and_true]; omega) ?_
                refine ad_ready (by kernel_rfl) (ads_cons (i := 7) ?_ ads_nil)
                refine ado_of rfl ?_
                refine adx_call (i := 7) (listed' := #[true, true, true, true, true, true, true, true, true, false, false, false]) (pre' := true) [] (ntext_ok o.2.2.1.1 o.2.2.1.2 g3) rfl rfl rfl rfl ⟨rfl, rfl⟩ rfl Tryd.func71 rfl rfl rfl rfl rfl rfl PassH.nil ?_
                rintro _ _ ⟨rfl, rfl⟩
                refine ⟨_, _, rfl, rfl, ?_⟩
                refine ad_run (fuel := 0) (ds' := ⟨#[true, true, true, true, true, true, true, true, true, true, true, true], false, false, false⟩) tt_ok [(9, 2), (10, 2), (11, 0)] (by kernel_rfl) rfl rfl ?_
                refine ad_done (by kernel_rfl) ?_
                refine ax_seq ?_
                first | (exfalso; (simp only [decide_eq_true_eq, decide_eq_false_iff_not] at *; omega); done) | skip
                all_goals
                  refine ax_weak (Wk.frz (id := 16) rfl) ?_
                  refine ax_region ?_
                  refine al_upto tt_ok rfl rfl ?_
                  refine al_callP (join_ok _ none [32] (by simp) (by simp) (by simp only [GTy.zero, Lib.join, List.intercalate, List.intersperse, List.flatten_cons, List.flatten_nil, List.cons_append, List.nil_append, List.length_append, List.length_cons, List.length_nil, List.append_nil]; omega)) rfl ⟨rfl, rfl⟩ rfl Tryd.func72 rfl rfl rfl rfl rfl rfl ?_
                  refine al_run tt_ok rfl rfl ?_
                  refine ax_ret ?_
                  refine ⟨_, Wk.sub (st' := ⟨[(2, _)], []⟩) (SubL.cons rfl SubL.nil) SubH.nil, _, _, rfl, rfl, ?_⟩
                  refine ⟨?_, rfl⟩
                  clear h1 h2 h3 h4 h5 hwl hdl
                  simp only [decide_eq_true_eq, decide_eq_false_iff_not] at *
                  simp [textT, hf, partsT, *]
                  done
            ·
              refine ax_seq ?_
              refine ax_seq ?_
              first | (exfalso; (simp only [decide_eq_true_eq, decide_eq_false_iff_not] at *; omega); done) | skip
              all_goals
                refine ax_region ?_
                refine al_run tt_ok rfl (by first | rfl | (simp only [inB, inI64, fitB, GTy.zero, Bool.and_eq_true, Bool.or_eq_true, Bool.not_eq_true', Bool.and_true, Bool.true_and, Bool.or_true, Bool.true_or, decide_eq_true_eq, decide_eq_false_iff_not, true_and, and_true]; omega) | (simp [inB, inI64, fitB, GTy.zero]; omega) | (simp [inB, inI64, fitB, GTy.zero])) ?_
                refine ax_cond rfl rfl (fun hc16 => ?_) (fun hc16 => ?_)
                ·
                  refine ax_skip ?_
                  refine ax_cond rfl rfl (fun hc16 => ?_) (fun hc16 => ?_)
                  ·
                    first | (exfalso; (simp only [decide_eq_true_eq, decide_eq_false_iff_not] at *; omega); done) | skip
                    all_goals
                      refine ax_region ?_
                      refine al_upto tt_ok rfl (by first | rfl | (simp only [inB, inI64, fitB, GTy.zero, Bool.and_eq_true, Bool.or_eq_true, Bool.not_eq_true', Bool.and_true, Bool.true_and, Bool.or_true, Bool.true_or, decide_eq_true_eq, decide_eq_false_iff_not, true_and, and_true]; omega) | (simp [inB, inI64, fitB, GTy.zero]; omega) | (simp [inB, inI64, fitB, GTy.zero])) ?_
                      refine al_callP (ntext_ok o.2.2.1.1 o.2.2.1.2 g3) rfl ⟨rfl, rfl⟩ rfl Tryd.func71 rfl rfl rfl rfl rfl rfl ?_
                      refine al_run tt_ok rfl (by first | rfl | (simp only [inB, inI64, fitB, GTy.zero, Bool.and_eq_true, Bool.or_eq_true, Bool.not_eq_true', Bool.and_true, Bool.true_and, Bool.or_true, Bool.true_or, decide_eq_true_eq, decide_eq_false_iff_not, true_and, and_true]; omega) | (simp [inB, inI64, fitB, GTy.zero]; omega) | (simp [inB, inI64, fitB, GTy.zero])) ?_
                      refine ax_seq ?_
                      first | (exfalso; (simp only [decide_eq_true_eq, decide_eq_false_iff_not] at *; omega); done) | skip
                      all_goals
                        refine ax_weak (Wk.frz (id := 16) rfl) ?_
                        refine ax_region ?_
                        refine al_upto tt_ok rfl (by first | rfl | (simp only [inB, inI64, fitB, GTy.zero, Bool.and_eq_true, Bool.or_eq_true, Bool.not_eq_true', Bool.and_true, Bool.true_and, Bool.or_true, Bool.true_or, decide_eq_true_eq, decide_eq_false_iff_not, true_and, and_true]; omega) | (simp [inB, inI64, fitB, GTy.zero]; omega) | (simp [inB, inI64, fitB, GTy.zero])) ?_
                        refine al_callP (join_ok _ none [32] (by simp) (by simp) (by simp only [GTy.zero, Lib.join, List.intercalate, List.intersperse, List.flatten_cons, List.flatten_nil, List.cons_append, List.nil_append, List.length_append, List.length_cons, List.length_nil, List.append_nil]; omega)) rfl ⟨rfl, rfl⟩ rfl Tryd.func72 rfl rfl rfl rfl rfl rfl ?_
                        refine al_run tt_ok rfl (by first | rfl | (simp only [inB, inI64, fitB, GTy.zero, Bool.and_eq_true, Bool.or_eq_true, Bool.not_eq_true', Bool.and_true, Bool.true_and, Bool.or_true, Bool.true_or, decide_eq_true_eq, decide_eq_false_iff_not, true_and, and_true]; omega) | (simp [inB, inI64, fitB, GTy.zero]; omega) | (simp [inB, inI64, fitB, GTy.zero])) ?_
                        refine ax_ret ?_
                        refine ⟨_, Wk.sub (st' := ⟨[(2, _)], []⟩) (SubL.cons rfl SubL.nil) SubH.nil, _, _, rfl, rfl, ?_⟩
                        refine ⟨?_, rfl⟩
                        clear h1 h2 h3 h4 h5 hwl hdl
                        simp only [decide_eq_true_eq, decide_eq_false_iff_not] at *
                        simp [textT, hf, partsT, *]
                        done
                  ·
                    refine ax_skip ?_
                    refine ax_seq ?_
                    first | (exfalso; (simp only [decide_eq_true_eq, decide_eq_false_iff_not] at *; omega); done) | skip
                    all_goals
                      refine ax_weak (Wk.frz (id := 16) rfl) ?_
                      refine ax_region ?_
                      refine al_upto tt_ok rfl (by first | rfl | (simp only [inB, inI64, fitB, GTy.zero, Bool.and_eq_true, Bool.or_eq_true, Bool.not_eq_true', Bool.and_true, Bool.true_and, Bool.or_true, Bool.true_or, decide_eq_true_eq, decide_eq_false_iff_not, true_and, and_true]; omega) | (simp [inB, inI64, fitB, GTy.zero]; omega) | (simp [inB, inI64, fitB, GTy.zero])) ?_
                      refine al_callP (join_ok _ none [32] (by simp) (by simp) (by simp only [GTy.zero, Lib.join, List.intercalate, List.intersperse, List.flatten_cons, List.flatten_nil, List.cons_append, List.nil_append, List.length_append, List.length_cons, List.length_nil, List.append_nil]; omega)) rfl ⟨rfl, rfl⟩ rfl Tryd.func72 rfl rfl rfl rfl rfl rfl ?_
                      refine al_run tt_ok rfl (by first | rfl | (simp only [inB, inI64, fitB, GTy.zero, Bool.and_eq_true, Bool.or_eq_true, Bool.not_eq_true', Bool.and_true, Bool.true_and, Bool.or_true, Bool.true_or, decide_eq_true_eq, decide_eq_false_iff_not, true_and, and_true]; omega) | (simp [inB, inI64, fitB, GTy.zero]; omega) | (simp [inB, inI64, fitB, GTy.zero])) ?_
                      refine ax_ret ?_
                      refine ⟨_, Wk.sub (st' := ⟨[(2, _)], []⟩) (SubL.cons rfl SubL.nil) SubH.nil, _, _, rfl, rfl, ?_⟩
                      refine ⟨?_, rfl⟩
                      clear h1 h2 h3 h4 h5 hwl hdl
                      simp only [decide_eq_true_eq, decide_eq_false_iff_not] at *
                      simp [textT, hf, partsT, *]
                      done
                ·
                  refine ax_region ?_
                  refine al_run tt_ok rfl (by first | rfl | (simp only [inB, inI64, fitB, GTy.zero, Bool.and_eq_true, Bool.or_eq_true, Bool.not_eq_true', Bool.and_true, Bool.true_and, Bool.or_true, Bool.true_or, decide_eq_true_eq, decide_eq_false_iff_not, true_and, and_true]; omega) | (simp [inB, inI64, fitB, GTy.zero]; omega) | (simp [inB, inI64, fitB, GTy.zero])) ?_
                  refine ax_cond rfl rfl (fun hc17 => ?_) (fun hc17 => ?_)
                  ·
                    first | (exfalso; (simp only [decide_eq_true_eq, decide_eq_false_iff_not] at *; omega); done) | skip
                    all_goals
                      refine ax_region ?_
                      refine al_upto tt_ok rfl (by first | rfl | (simp only [inB, inI64, fitB, GTy.zero, Bool.and_eq_true, Bool.or_eq_true, Bool.not_eq_true', Bool.and_true, Bool.true_and, Bool.or_true, Bool.true_or, decide_eq_true_eq, decide_eq_false_iff_not, true_and, and_true]; omega) | (simp [inB, inI64, fitB, GTy.zero]; omega) | (simp [inB, inI64, fitB, GTy.zero])) ?_
                      refine al_callP (ntext_ok o.2.2.1.1 o.2.2.1.2 g3) rfl ⟨rfl, rfl⟩ rfl Tryd.func71 rfl rfl rfl rfl rfl rfl ?_
                      refine al_run tt_ok rfl (by first | rfl | (simp only [inB, inI64, fitB, GTy.zero, Bool.and_eq_true, Bool.or_eq_true, Bool.not_eq_true', Bool.and_true, Bool.true_and, Bool.or_true, Bool.true_or, decide_eq_true_eq, decide_eq_false_iff_not, true_and, and_true]; omega) | (simp [inB, inI64, fitB, GTy.zero]; omega) | (simp [inB, inI64, fitB, GTy.zero])) ?_
                      refine ax_seq ?_
                      first | (exfalso; (simp only [decide_eq_true_eq, decide_eq_false_iff_not] at *; omega); done) | skip
                      all_goals
                        refine ax_weak (Wk.frz (id := 16) rfl) ?_
                        refine ax_region ?_
                        refine al_upto tt_ok rfl (by first | rfl | (simp only [inB, inI64, fitB, GTy.zero, Bool.and_eq_true, Bool.or_eq_true, Bool.not_eq_true', Bool.and_true, Bool.true_and, Bool.or_true, Bool.true_or, decide_eq_true_eq, decide_eq_false_iff_not, true_and, and_true]; omega) | (simp [inB, inI64, fitB, GTy.zero]; omega) | (simp [inB, inI64, fitB, GTy.zero])) ?_
                        refine al_callP (join_ok _ none [32] (by simp) (by simp) (by simp only [GTy.zero, Lib.join, List.intercalate, List.intersperse, List.flatten_cons, List.flatten_nil, List.cons_append, List.nil_append, List.length_append, List.length_cons, List.length_nil, List.append_nil]; omega)) rfl ⟨rfl, rfl⟩ rfl Tryd.func72 rfl rfl rfl rfl rfl rfl ?_
                        refine al_run tt_ok rfl (by first | rfl | (simp only [inB, inI64, fitB, GTy.zero, Bool.and_eq_true, Bool.or_eq_true, Bool.not_eq_true', Bool.and_true, Bool.true_and, Bool.or_true, Bool.true_or, decide_eq_true_eq, decide_eq_false_iff_not, true_and, and_true]; omega) | (simp [inB, inI64, fitB, GTy.zero]; omega) | (simp [inB, inI64, fitB, GTy.zero])) ?_
                        refine ax_ret ?_
                        refine ⟨_, Wk.sub (st' := ⟨[(2, _)], []⟩) (SubL.cons rfl SubL.nil) SubH.nil, _, _, rfl, rfl, ?_⟩
                        refine ⟨?_, rfl⟩
                        clear h1 h2 h3 h4 h5 hwl hdl
                        simp only [decide_eq_true_eq, decide_eq_false_iff_not] at *
                        simp [textT, hf, partsT, *]
                        done
                  ·
                    refine ax_skip ?_
                    refine ax_seq ?_
                    first | (exfalso; (simp only [decide_eq_true_eq, decide_eq_false_iff_not] at *; omega); done) | skip
                    all_goals
                      refine ax_weak (Wk.frz (id := 16) rfl) ?_
                      refine ax_region ?_
                      refine al_upto tt_ok rfl (by first | rfl | (simp only [inB, inI64, fitB, GTy.zero, Bool.and_eq_true, Bool.or_eq_true, Bool.not_eq_true', Bool.and_true, Bool.true_and, Bool.or_true, Bool.true_or, decide_eq_true_eq, decide_eq_false_iff_not, true_and, and_true]; omega) | (simp [inB, inI64, fitB, GTy.zero]; omega) | (simp [inB, inI64, fitB, GTy.zero])) ?_
                      refine al_callP (join_ok _ none [32] (by simp) (by simp) (by simp only [GTy.zero, Lib.join, List.intercalate, List.intersperse, List.flatten_cons, List.flatten_nil, List.cons_append, List.nil_append, List.length_append, List.length_cons, List.length_nil, List.append_nil]; omega)) rfl ⟨rfl, rfl⟩ rfl Tryd.func72 rfl rfl rfl rfl rfl rfl ?_
                      refine al_run tt_ok rfl (by first | rfl | (simp only [inB, inI64, fitB, GTy.zero, Bool.and_eq_true, Bool.or_eq_true, Bool.not_eq_true', Bool.and_true, Bool.true_and, Bool.or_true, Bool.true_or, decide_eq_true_eq, decide_eq_false_iff_not, true_and, and_true]; omega) | (simp [inB, inI64, fitB, GTy.zero]; omega) | (simp [inB, inI64, fitB, GTy.zero])) ?_
                      refine ax_ret ?_
                      refine ⟨_, Wk.sub (st' := ⟨[(2, _)], []⟩) (SubL.cons rfl SubL.nil) SubH.nil, _, _, rfl, rfl, ?_⟩
                      refine ⟨?_, rfl⟩
                      clear h1 h2 h3 h4 h5 hwl hdl
                      simp only [decide_eq_true_eq, decide_eq_false_iff_not] at *
                      simp [textT, hf, partsT, *]
                      done
          ·
            refine ax_seq ?_
            refine ax_region ?_
            refine al_run tt_ok rfl rfl ?_
            refine ax_cond rfl rfl (fun hc13 => ?_) (fun hc13 => ?_)
            ·
              refine ax_skip ?_
              refine ax_cond rfl rfl (fun hc13 => ?_) (fun hc13 => ?_)
              ·
                first | (exfalso; (simp only [decide_eq_true_eq, decide_eq_false_iff_not] at *; omega); done) | skip
                all_goals
                  refine ax_draw [5, 6, 7, 8] (by kernel_rfl) rfl (N := 12) ?_
                  refine ad_run (fuel := 4) (ds' := ⟨#[true, true, true, true, true, true, true, false, true, false, false, false], true, true, true⟩) tt_ok [(0, 0), (1, 0), (2, 3), (3, 0), (4, 1), (5, 0), (6, 3), (8, 0)] (by kernel_rfl) rfl (by simp only [inB, inI64, fitB, GTy.zero, Bool.and_eq_true, Bool.or_eq_true, Bool.not_eq_true', Bool.and_true, Bool.true_and, Bool.or_true, Bool.true_or, decide_eq_true_eq, decide_eq_false_iff_not, true_and, and_true]; omega) ?_
                  refine ad_ready (by kernel_rfl) (ads_cons (i := 7) ?_ ads_nil)
                  refine ado_of rfl ?_
                  refine adx_call (i := 7) (listed' := #[true, true, true, true, true, true, true, true, true, false, false, false]) (pre' := true) [] (ntext_ok o.2.2.1.1 o.2.2.1.2 g3) rfl rfl rfl rfl ⟨rfl, rfl⟩ rfl Tryd.func71 rfl rfl rfl rfl rfl rfl PassH.nil ?_
                  rintro _ _ ⟨rfl, rfl⟩
                  refine ⟨_, _, rfl, rfl, ?_⟩
                  refine ad_run (fuel := 0) (ds' := ⟨#[true, true, true, true, true, true, true, true, true, true, true, true], false, false, false⟩) tt_ok [(9, 2), (10, 2), (11, 0)] (by kernel_rfl) rfl rfl ?_
                  refine ad_done (by kernel_rfl) ?_
                  refine ax_seq ?_
                  first | (exfalso; (simp only [decide_eq_true_eq, decide_eq_false_iff_not] at *; omega); done) | skip
                  all_goals
                    refine ax_weak (Wk.frz (id := 16) rfl) ?_
                    refine ax_region ?_
                    refine al_upto tt_ok rfl rfl ?_
                    refine al_callP (join_ok _ none [32] (by simp) (by simp) (by simp only [GTy.zero, Lib.join, List.intercalate, List.intersperse, List.flatten_cons, List.flatten_nil, List.cons_append, List.nil_append, List.length_append, List.length_cons, List.length_nil, List.append_nil]; omega)) rfl ⟨rfl, rfl⟩ rfl Tryd.func72 rfl rfl rfl rfl rfl rfl ?_
                    refine al_run tt_ok rfl rfl ?_
                    refine ax_ret ?_
                    refine ⟨_, Wk.sub (st' := ⟨[(2, _)], []⟩) (SubL.cons rfl SubL.nil) SubH.nil, _, _, rfl, rfl, ?_⟩
                    refine ⟨?_, rfl⟩
                    clear h1 h2 h3 h4 h5 hwl hdl
                    simp only [decide_eq_true_eq, decide_eq_false_iff_not] at *
                    simp [textT, hf, partsT, *]
                    done
              ·
                refine ax_seq ?_
                refine ax_seq ?_
                first | (exfalso; (simp only [decide_eq_true_eq, decide_eq_false_iff_not] at *; omega); done) | skip
                all_goals
                  refine ax_region ?_
                  refine al_run tt_ok rfl (by first | rfl | (simp only [inB, inI64, fitB, GTy.zero, Bool.and_eq_true, Bool.or_eq_true, Bool.not_eq_true', Bool.and_true, Bool.true_and, Bool.or_true, Bool.true_or, decide_eq_true_eq, decide_eq_false_iff_not, true_and, and_true]; omega) | (simp [inB, inI64, fitB, GTy.zero]; omega) | (simp [inB, inI64, fitB, GTy.zero])) ?_
                  refine ax_cond rfl rfl (fun hc16 => ?_) (fun hc16 => ?_)
                  ·
                    refine ax_skip ?_
                    refine ax_cond rfl rfl (fun hc16 => ?_) (fun hc16 => ?_)
                    ·
                      first | (exfalso; (simp only [decide_eq_true_eq, decide_eq_false_iff_not] at *; omega); done) | skip
                      all_goals
                        refine ax_region ?_
                        refine al_upto tt_ok rfl (by first | rfl | (simp only [inB, inI64, fitB, GTy.zero, Bool.and_eq_true, Bool.or_eq_true, Bool.not_eq_true', Bool.and_true, Bool.true_and, Bool.or_true, Bool.true_or, decide_eq_true_eq, decide_eq_false_iff_not, true_and, and_true]; omega) | (simp [inB, inI64, fitB, GTy.zero]; omega) | (simp [inB, inI64, fitB, GTy.zero])) ?_
                        refine al_callP (ntext_ok o.2.2.1.1 o.2.2.1.2 g3) rfl ⟨rfl, rfl⟩ rfl Tryd.func71 rfl rfl rfl rfl rfl rfl ?_
                        refine al_run tt_ok rfl (by first | rfl | (simp only [inB, inI64, fitB, GTy.zero, Bool.and_eq_true, Bool.or_eq_true, Bool.not_eq_true', Bool.and_true, Bool.true_and, Bool.or_true, Bool.true_or, decide_eq_true_eq, decide_eq_false_iff_not, true_and, and_true]; omega) | (simp [inB, inI64, fitB, GTy.zero]; omega) | (simp [inB, inI64, fitB, GTy.zero])) ?_
                        refine ax_seq ?_
                        first | (exfalso; (simp only [decide_eq_true_eq, decide_eq_false_iff_not] at *; omega); done) | skip
                        all_goals
                          refine ax_weak (Wk.frz (id := 16) rfl) ?_
                          refine ax_region ?_
                          refine al_upto tt_ok rfl (by first | rfl | (simp only [inB, inI64, fitB, GTy.zero, Bool.and_eq_true, Bool.or_eq_true, Bool.not_eq_true', Bool.and_true, Bool.true_and, Bool.or_true, Bool.true_or, decide_eq_true_eq, decide_eq_false_iff_not, true_and, and_true]; omega) | (simp [inB, inI64, fitB, GTy.zero]; omega) | (simp [inB, inI64, fitB, GTy.zero])) ?_
                          refine al_callP (join_ok _ none [32] (by simp) (by simp) (by simp only [GTy.zero, Lib.join, List.intercalate, List.intersperse, List.flatten_cons, List.flatten_nil, List.cons_append, List.nil_append, List.length_append, List.length_cons, List.length_nil, List.append_nil]; omega)) rfl ⟨rfl, rfl⟩ rfl Tryd.func72 rfl rfl rfl rfl rfl rfl ?_
                          refine al_run tt_ok rfl (by first | rfl | (simp only [inB, inI64, fitB, GTy.zero, Bool.and_eq_true, Bool.or_eq_true, Bool.not_eq_true', Bool.and_true, Bool.true_and, Bool.or_true, Bool.true_or, decide_eq_true_eq, decide_eq_false_iff_not, true_and, and_true]; omega) | (simp [inB, inI64, fitB, GTy.zero]; omega) | (simp [inB, inI64, fitB, GTy.zero])) ?_
                          refine ax_ret ?_
                          refine ⟨_, Wk.sub (st' := ⟨[(2, _)], []⟩) (SubL.cons rfl SubL.nil) SubH.nil, _, _, rfl, rfl, ?_⟩
                          refine ⟨?_, rfl⟩
                          clear h1 h2 h3 h4 h5 hwl hdl
                          simp only [decide_eq_true_eq, decide_eq_false_iff_not] at *
                          simp [textT, hf, partsT, *]
                          done
                    ·
                      refine ax_skip ?_
                      refine ax_seq ?_
                      first | (exfalso; (simp only [decide_eq_true_eq, decide_eq_false_iff_not] at *; omega); done) | skip
                      all_goals
                        refine ax_weak (Wk.frz (id := 16) rfl) ?_
                        refine ax_region ?_
                        refine al_upto tt_ok rfl (by first | rfl | (simp only [inB, inI64, fitB, GTy.zero, Bool.and_eq_true, Bool.or_eq_true, Bool.not_eq_true', Bool.and_true, Bool.true_and, Bool.or_true, Bool.true_or, decide_eq_true_eq, decide_eq_false_iff_not, true_and, and_true]; omega) | (simp [inB, inI64, fitB, GTy.zero]; omega) | (simp [inB, inI64, fitB, GTy.zero])) ?_
                        refine al_callP (join_ok _ none [32] (by simp) (by simp) (by simp only [GTy.zero, Lib.join, List.intercalate, List.intersperse, List.flatten_cons, List.flatten_nil, List.cons_append, List.nil_append, List.length_append, List.length_cons, List.length_nil, List.append_nil]; omega)) rfl ⟨rfl, rfl⟩ rfl Tryd.func72 rfl rfl rfl rfl rfl rfl ?_
                        refine al_run tt_ok rfl (by first | rfl | (simp only [inB, inI64, fitB, GTy.zero, Bool.and_eq_true, Bool.or_eq_true, Bool.not_eq_true', Bool.and_true, Bool.true_and, Bool.or_true, Bool.true_or, decide_eq_true_eq, decide_eq_false_iff_not, true_and, and_true]; omega) | (simp [inB, inI64, fitB, GTy.zero]; omega) | (simp [inB, inI64, fitB, GTy.zero])) ?_
                        refine ax_ret ?_
                        refine ⟨_, Wk.sub (st' := ⟨[(2, _)], []⟩) (SubL.cons rfl SubL.nil) SubH.nil, _, _, rfl, rfl, ?_⟩
                        refine ⟨?_, rfl⟩
                        clear h1 h2 h3 h4 h5 hwl hdl
                        simp only [decide_eq_true_eq, decide_eq_false_iff_not] at *
                        simp [textT, hf, partsT, *]
                        done
                  ·
                    refine ax_region ?_
                    refine al_run tt_ok rfl (by first | rfl | (simp only [inB, inI64, fitB, GTy.zero, Bool.and_eq_true, Bool.or_eq_true, Bool.not_eq_true', Bool.and_true, Bool.true_and, Bool.or_true, Bool.true_or, decide_eq_true_eq, decide_eq_false_iff_not, true_and, and_true]; omega) | (simp [inB, inI64, fitB, GTy.zero]; omega) | (simp [inB, inI64, fitB, GTy.zero])) ?_
                    refine ax_cond rfl rfl (fun hc17 => ?_) (fun hc17 => ?_)
                    ·
                      first | (exfalso; (simp only [decide_eq_true_eq, decide_eq_false_iff_not] at *; omega); done) | skip
                      all_goals
                        refine ax_region ?_
                        refine al_upto tt_ok rfl (by first | rfl | (simp only [inB, inI64, fitB, GTy.zero, Bool.and_eq_true, Bool.or_eq_true, Bool.not_eq_true', Bool.and_true, Bool.true_and, Bool.or_true, Bool.true_or, decide_eq_true_eq, decide_eq_false_iff_not, true_and, and_true]; omega) | (simp [inB, inI64, fitB, GTy.zero]; omega) | (simp [inB, inI64, fitB, GTy.zero])) ?_
                        refine al_callP (ntext_ok o.2.2.1.1 o.2.2.1.2 g3) rfl ⟨rfl, rfl⟩ rfl Tryd.func71 rfl rfl rfl rfl rfl rfl ?_
                        refine al_run tt_ok rfl (by first | rfl | (simp only [inB, inI64, fitB, GTy.zero, Bool.and_eq_true, Bool.or_eq_true, Bool.not_eq_true', Bool.and_true, Bool.true_and, Bool.or_true, Bool.true_or, decide_eq_true_eq, decide_eq_false_iff_not, true_and, and_true]; omega) | (simp [inB, inI64, fitB, GTy.zero]; omega) | (simp [inB, inI64, fitB, GTy.zero])) ?_
                        refine ax_seq ?_
                        first | (exfalso; (simp only [decide_eq_true_eq, decide_eq_false_iff_not] at *; omega); done) | skip
                        all_goals
                          refine ax_weak (Wk.frz (id := 16) rfl) ?_
                          refine ax_region ?_
                          refine al_upto tt_ok rfl (by first | rfl | (simp only [inB, inI64, fitB, GTy.zero, Bool.and_eq_true, Bool.or_eq_true, Bool.not_eq_true', Bool.and_true, Bool.true_and, Bool.or_true, Bool.true_or, decide_eq_true_eq, decide_eq_false_iff_not, true_and, and_true]; omega) | (simp [inB, inI64, fitB, GTy.zero]; omega) | (simp [inB, inI64, fitB, GTy.zero])) ?_
                          refine al_callP (join_ok _ none [32] (by simp) (by simp) (by simp only [GTy.zero, Lib.join, List.intercalate, List.intersperse, List.flatten_cons, List.flatten_nil, List.cons_append, List.nil_append, List.length_append, List.length_cons, List.length_nil, List.append_nil]; omega)) rfl ⟨rfl, rfl⟩ rfl Tryd.func72 rfl rfl rfl rfl rfl rfl ?_
                          refine al_run tt_ok rfl (by first | rfl | (simp only [inB, inI64, fitB, GTy.zero, Bool.and_eq_true, Bool.or_eq_true, Bool.not_eq_true', Bool.and_true, Bool.true_and, Bool.or_true, Bool.true_or, decide_eq_true_eq, decide_eq_false_iff_not, true_and, and_true]; omega) | (simp [inB, inI64, fitB, GTy.zero]; omega) | (simp [inB, inI64, fitB, GTy.zero])) ?_
                          refine ax_ret ?_
                          refine ⟨_, Wk.sub (st' := ⟨[(2, _)], []⟩) (SubL.cons rfl SubL.nil) SubH.nil, _, _, rfl, rfl, ?_⟩
                          refine ⟨?_, rfl⟩
                          clear h1 h2 h3 h4 h5 hwl hdl
                          simp only [decide_eq_true_eq, decide_eq_false_iff_not] at *
                          simp [textT, hf, partsT, *]
                          done
                    ·
                      refine ax_skip ?_
                      refine ax_seq ?_
                      first | (exfalso; (simp only [decide_eq_true_eq, decide_eq_false_iff_not] at *; omega); done) | skip
                      all_goals
                        refine ax_weak (Wk.frz (id := 16) rfl) ?_
                        refine ax_region ?_
                        refine al_upto tt_ok rfl (by first | rfl | (simp only [inB, inI64, fitB, GTy.zero, Bool.and_eq_true, Bool.or_eq_true, Bool.not_eq_true', Bool.and_true, Bool.true_and, Bool.or_true, Bool.true_or, decide_eq_true_eq, decide_eq_false_iff_not, true_and, and_true]; omega) | (simp [inB, inI64, fitB, GTy.zero]; omega) | (simp [inB, inI64, fitB, GTy.zero])) ?_
                        refine al_callP (join_ok _ none [32] (by simp) (by simp) (by simp only [GTy.zero, Lib.join, List.intercalate, List.intersperse, List.flatten_cons, List.flatten_nil, List.cons_append, List.nil_append, List.length_append, List.length_cons, List.length_nil, List.append_nil]; omega)) rfl ⟨rfl, rfl⟩ rfl Tryd.func72 rfl rfl rfl rfl rfl rfl ?_
                        refine al_run tt_ok rfl (by first | rfl | (simp only [inB, inI64, fitB, GTy.zero, Bool.and_eq_true, Bool.or_eq_true, Bool.not_eq_true', Bool.and_true, Bool.true_and, Bool.or_true, Bool.true_or, decide_eq_true_eq, decide_eq_false_iff_not, true_and, and_true]; omega) | (simp [inB, inI64, fitB, GTy.zero]; omega) | (simp [inB, inI64, fitB, GTy.zero])) ?_
                        refine ax_ret ?_
                        refine ⟨_, Wk.sub (st' := ⟨[(2, _)], []⟩) (SubL.cons rfl SubL.nil) SubH.nil, _, _, rfl, rfl, ?_⟩
                        refine ⟨?_, rfl⟩
                        clear h1 h2 h3 h4 h5 hwl hdl
                        simp only [decide_eq_true_eq, decide_eq_false_iff_not] at *
                        simp [textT, hf, partsT, *]
                        done
            ·
              refine ax_region ?_
              refine al_run tt_ok rfl rfl ?_
              refine ax_cond rfl rfl (fun hc14 => ?_) (fun hc14 => ?_)
              ·
                first | (exfalso; (simp only [decide_eq_true_eq, decide_eq_false_iff_not] at *; omega); done) | skip
                all_goals
                  refine ax_draw [5, 6, 7, 8] (by kernel_rfl) rfl (N := 12) ?_
                  refine ad_run (fuel := 4) (ds' := ⟨#[true, true, true, true, true, true, true, false, true, false, false, false], true, true, true⟩) tt_ok [(0, 0), (1, 0), (2, 3), (3, 0), (4, 1), (5, 0), (6, 3), (8, 0)] (by kernel_rfl) rfl (by simp only [inB, inI64, fitB, GTy.zero, Bool.and_eq_true, Bool.or_eq_true, Bool.not_eq_true', Bool.and_true, Bool.true_and, Bool.or_true, Bool.true_or, decide_eq_true_eq, decide_eq_false_iff_not, true_and, and_true]; omega) ?_
                  refine ad_ready (by kernel_rfl) (ads_cons (i := 7) ?_ ads_nil)
                  refine ado_of rfl ?_
                  refine adx_call (i := 7) (listed' := #[true, true, true, true, true, true, true, true, true, false, false, false]) (pre' := true) [] (ntext_ok o.2.2.1.1 o.2.2.1.2 g3) rfl rfl rfl rfl ⟨rfl, rfl⟩ rfl Tryd.func71 rfl rfl rfl rfl rfl rfl PassH.nil ?_
                  rintro _ _ ⟨rfl, rfl⟩
                  refine ⟨_, _, rfl, rfl, ?_⟩
                  refine ad_run (fuel := 0) (ds' := ⟨#[true, true, true, true, true, true, true, true, true, true, true, true], false, false, false⟩) tt_ok [(9, 2), (10, 2), (11, 0)] (by kernel_rfl) rfl rfl ?_
                  refine ad_done (by kernel_rfl) ?_
                  refine ax_seq ?_
                  first | (exfalso; (simp only [decide_eq_true_eq, decide_eq_false_iff_not] at *; omega); done) | skip
                  all_goals
                    refine ax_weak (Wk.frz (id := 16) rfl) ?_
                    refine ax_region ?_
                    refine al_upto tt_ok rfl rfl ?_
                    refine al_callP (join_ok _ none [32] (by simp) (by simp) (by simp only [GTy.zero, Lib.join, List.intercalate, List.intersperse, List.flatten_cons, List.flatten_nil, List.cons_append, List.nil_append, List.length_append, List.length_cons, List.length_nil, List.append_nil]; omega)) rfl ⟨rfl, rfl⟩ rfl Tryd.func72 rfl rfl rfl rfl rfl rfl ?_
                    refine al_run tt_ok rfl rfl ?_
                    refine ax_ret ?_
                    refine ⟨_, Wk.sub (st' := ⟨[(2, _)], []⟩) (SubL.cons rfl SubL.nil) SubH.nil, _, _, rfl, rfl, ?_⟩
                    refine ⟨?_, rfl⟩
                    clear h1 h2 h3 h4 h5 hwl hdl
                    simp only [decide_eq_true_eq, decide_eq_false_iff_not] at *
                    simp [textT, hf, partsT, *]
                    done
              ·
                refine ax_seq ?_
                refine ax_seq ?_
                first | (exfalso; (simp only [decide_eq_true_eq, decide_eq_false_iff_not] at *; omega); done) | skip
                all_goals
                  refine ax_region ?_
                  refine al_run tt_ok rfl rfl ?_
                  refine ax_cond rfl rfl (fun hc16 => ?_) (fun hc16 => ?_)
                  ·
                    refine ax_skip ?_
                    refine ax_cond rfl rfl (fun hc16 => ?_) (fun hc16 => ?_)
                    ·
                      first | (exfalso; (simp only [decide_eq_true_eq, decide_eq_false_iff_not] at *; omega); done) | skip
                      all_goals
                        refine ax_region ?_
                        refine al_upto tt_ok rfl rfl ?_
                        refine al_callP (ntext_ok o.2.2.1.1 o.2.2.1.2 g3) rfl ⟨rfl, rfl⟩ rfl Tryd.func71 rfl rfl rfl rfl rfl rfl ?_
                        refine al_run tt_ok rfl rfl ?_
                        refine ax_seq ?_
                        first | (exfalso; (simp only [decide_eq_true_eq, decide_eq_false_iff_not] at *; omega); done) | skip
                        all_goals
                          refine ax_weak (Wk.frz (id := 16) rfl) ?_
                          refine ax_region ?_
                          refine al_upto tt_ok rfl rfl ?_
                          refine al_callP (join_ok _ none [32] (by simp) (by simp) (by simp only [GTy.zero, Lib.join, List.intercalate, List.intersperse, List.flatten_cons, List.flatten_nil, List.cons_append, List.nil_append, List.length_append, List.length_cons, List.length_nil, List.append_nil]; omega)) rfl ⟨rfl, rfl⟩ rfl Tryd.func72 rfl rfl rfl rfl rfl rfl ?_
                          refine al_run tt_ok rfl rfl ?_
                          refine ax_ret ?_
                          refine ⟨_, Wk.sub (st' := ⟨[(2, _)], []⟩) (SubL.cons rfl SubL.nil) SubH.nil, _, _, rfl, rfl, ?_⟩
                          refine ⟨?_, rfl⟩
                          clear h1 h2 h3 h4 h5 hwl hdl
                          simp only [decide_eq_true_eq, decide_eq_false_iff_not] at *
                          simp [textT, hf, partsT, *]
                          done
                    ·
                      refine ax_skip ?_
                      refine ax_seq ?_
                      first | (exfalso; (simp only [decide_eq_true_eq, decide_eq_false_iff_not] at *; omega); done) | skip
                      all_goals
                        refine ax_weak (Wk.frz (id := 16) rfl) ?_
                        refine ax_region ?_
                        refine al_upto tt_ok rfl (by first | rfl | (simp only [inB, inI64, fitB, GTy.zero, Bool.and_eq_true, Bool.or_eq_true, Bool.not_eq_true', Bool.and_true, Bool.true_and, Bool.or_true, Bool.true_or, decide_eq_true_eq, decide_eq_false_iff_not, true_and, and_true]; omega) | (simp [inB, inI64, fitB, GTy.zero]; omega) | (simp [inB, inI64, fitB, GTy.zero])) ?_
                        refine al_callP (join_ok _ none [32] (by simp) (by simp) (by simp only [GTy.zero, Lib.join, List.intercalate, List.intersperse, List.flatten_cons, List.flatten_nil, List.cons_append, List.nil_append, List.length_append, List.length_cons, List.length_nil, List.append_nil]; omega)) rfl ⟨rfl, rfl⟩ rfl Tryd.func72 rfl rfl rfl rfl rfl rfl ?_
                        refine al_run tt_ok rfl (by first | rfl | (simp only [inB, inI64, fitB, GTy.zero, Bool.and_eq_true, Bool.or_eq_true, Bool.not_eq_true', Bool.and_true, Bool.true_and, Bool.or_true, Bool.true_or, decide_eq_true_eq, decide_eq_false_iff_not, true_and, and_true]; omega) | (simp [inB, inI64, fitB, GTy.zero]; omega) | (simp [inB, inI64, fitB, GTy.zero])) ?_
                        refine ax_ret ?_
                        refine ⟨_, Wk.sub (st' := ⟨[(2, _)], []⟩) (SubL.cons rfl SubL.nil) SubH.nil, _, _, rfl, rfl, ?_⟩
                        refine ⟨?_, rfl⟩
                        clear h1 h2 h3 h4 h5 hwl hdl
                        simp only [decide_eq_true_eq, decide_eq_false_iff_not] at *
                        simp [textT, hf, partsT, *]
                        done
                  ·
                    refine ax_region ?_
                    refine al_run tt_ok rfl rfl ?_
                    refine ax_cond rfl rfl (fun hc17 => ?_) (fun hc17 => ?_)
                    ·
                      first | (exfalso; (simp only [decide_eq_true_eq, decide_eq_false_iff_not] at *; omega); done) | skip
                      all_goals
                        refine ax_region ?_
                        refine al_upto tt_ok rfl rfl ?_
                        refine al_callP (ntext_ok o.2.2.1.1 o.2.2.1.2 g3) rfl ⟨rfl, rfl⟩ rfl Tryd.func71 rfl rfl rfl rfl rfl rfl ?_
                        refine al_run tt_ok rfl rfl ?_
                        refine ax_seq ?_
                        first | (exfalso; (simp only [decide_eq_true_eq, decide_eq_false_iff_not] at *; omega); done) | skip
                        all_goals
                          refine ax_weak (Wk.frz (id := 16) rfl) ?_
                          refine ax_region ?_
                          refine al_upto tt_ok rfl rfl ?_
                          refine al_callP (join_ok _ none [32] (by simp) (by simp) (by simp only [GTy.zero, Lib.join, List.intercalate, List.intersperse, List.flatten_cons, List.flatten_nil, List.cons_append, List.nil_append, List.length_append, List.length_cons, List.length_nil, List.append_nil]; omega)) rfl ⟨rfl, rfl⟩ rfl Tryd.func72 rfl rfl rfl rfl rfl rfl ?_
                          refine al_run tt_ok rfl rfl ?_
                          refine ax_ret ?_
                          refine ⟨_, Wk.sub (st' := ⟨[(2, _)], []⟩) (SubL.cons rfl SubL.nil) SubH.nil, _, _, rfl, rfl, ?_⟩
                          refine ⟨?_, rfl⟩
                          clear h1 h2 h3 h4 h5 hwl hdl
                          simp only [decide_eq_true_eq, decide_eq_false_iff_not] at *
                          simp [textT, hf, partsT, *]
                          done
                    ·
                      refine ax_skip ?_
                      refine ax_seq ?_
                      first | (exfalso; (simp only [decide_eq_true_eq, decide_eq_false_iff_not] at *; omega); done) | skip
                      all_goals
                        refine ax_weak (Wk.frz (id := 16) rfl) ?_
                        refine ax_region ?_
                        refine al_upto tt_ok rfl (by first | rfl | (simp only [inB, inI64, fitB, GTy.zero, Bool.and_eq_true, Bool.or_eq_true, Bool.not_eq_true', Bool.and_true, Bool.true_and, Bool.or_true, Bool.true_or, decide_eq_true_eq, decide_eq_false_iff_not, true_and, and_true]; omega) | (simp [inB, inI64, fitB, GTy.zero]; omega) | (simp [inB, inI64, fitB, GTy.zero])) ?_
                        refine al_callP (join_ok _ none [32] (by simp) (by simp) (by simp only [GTy.zero, Lib.join, List.intercalate, List.intersperse, List.flatten_cons, List.flatten_nil, List.cons_append, List.nil_append, List.length_append, List.length_cons, List.length_nil, List.append_nil]; omega)) rfl ⟨rfl, rfl⟩ rfl Tryd.func72 rfl rfl rfl rfl rfl rfl ?_
                        refine al_run tt_ok rfl (by first | rfl | (simp only [inB, inI64, fitB, GTy.zero, Bool.and_eq_true, Bool.or_eq_true, Bool.not_eq_true', Bool.and_true, Bool.true_and, Bool.or_true, Bool.true_or, decide_eq_true_eq, decide_eq_false_iff_not, true_and, and_true]; omega) | (simp [inB, inI64, fitB, GTy.zero]; omega) | (simp [inB, inI64, fitB, GTy.zero])) ?_
                        refine ax_ret ?_
                        refine ⟨_, Wk.sub (st' := ⟨[(2, _)], []⟩) (SubL.cons rfl SubL.nil) SubH.nil, _, _, rfl, rfl, ?_⟩
                        refine ⟨?_, rfl⟩
                        clear h1 h2 h3 h4 h5 hwl hdl
                        simp only [decide_eq_true_eq, decide_eq_false_iff_not] at *
                        simp [textT, hf, partsT, *]
                        done
end Go.Proofs.YtihcolehefloeaaDoor

/- Models of the functions of edges, printed by tr.py. -/
namespace Go.Proofs.YtihcolehefloeaaDoor
set_option linter.unusedSimpArgs false
set_option linter.unusedVariables false
open Go.RowKit
def m_check_L2 (a0 : (List Int)) : Nat → Int → Option ((Unit) ⊕ (Int))
  | 0, _ => none
  | n + 1, v2_0 =>
    cond (decide (v2_0 < (a0.length : Int))) (gd ((inB v2_0 a0.length)) <|
    gd ((!((!(cond (decide ((a0.getD v2_0.toNat 0) < (1 : Int))) true (decide ((40 : Int) < (a0.getD v2_0.toNat 0))))) && (decide ((0 : Int) < v2_0))) || (inI64 (v2_0 - (1 : Int)))) && (!((!(cond (decide ((a0.getD v2_0.toNat 0) < (1 : Int))) true (decide ((40 : Int) < (a0.getD v2_0.toNat 0))))) && (decide ((0 : Int) < v2_0))) || (inB (v2_0 - (1 : Int)) a0.length))) <|
    cond (cond (cond (decide ((a0.getD v2_0.toNat 0) < (1 : Int))) true (decide ((40 : Int) < (a0.getD v2_0.toNat 0)))) true (cond (decide ((0 : Int) < v2_0)) (decide ((a0.getD v2_0.toNat 0) ≤ (a0.getD (v2_0 - (1 : Int)).toNat 0))) false)) (some (.inr (1 : Int))) (gd ((inI64 (v2_0 + (1 : Int)))) <|
    m_check_L2 a0 n (v2_0 + (1 : Int)))) (some (.inl ()))
def m_check (a0 : (List Int)) : Option (Int) :=
    Option.bind (m_check_L2 a0 FUEL (0 : Int)) fun o1 =>
    sm o1 (fun o1 =>
    some (0 : Int)) (fun q => some q)
set_option maxRecDepth 20000 in
set_option maxHeartbeats 4000000 in
theorem w_check (a0 : (List Int)) (c0 : Option Nat) (r : (Int)) (h : m_check a0 = some r) : AC cx 26 [.c (.lst (.int .i64) a0 c0)] [] (fun sv h => sv = .a (.c (.val (.int .i64 r))) ∧ h = []) := by
  unfold m_check at h
  refine ac_body tt_ok Tryd.func26 rfl Tryd.ntmps26 rfl rfl (res := [.tmp 2]) rfl ?_
  refine ax_seq ?_
  refine ax_region ?_
  refine al_run tt_ok rfl rfl ?_
  refine ax_seq ?_
  refine ax_seq ?_
  refine ax_region ?_
  refine al_run tt_ok rfl rfl ?_
  obtain ⟨o1, ho1, hk1⟩ := bd h
  refine ax_cutS (fun o1 : Unit => ⟨[], []⟩) (fun o' => Sum.inl o' = o1) ?_ ?_
  ·
   have h := ho1
   refine ax_block ?_
   refine ax_weak (Wk.pick [7, 0, 5, 6] [] rfl rfl) ?_
   refine ax_loopL (fun y : Nat × Int => [(7, .a (.c (.val (.int .i64 y.2))))]) (fun y : Nat × Int => []) (fun y : Nat × Int => m_check_L2 a0 y.1 y.2 = some o1) (fun y : Nat × Int => y.1) (FUEL, (0 : Int)) h ?_
   rintro ⟨n, v2_0⟩ h
   replace h : m_check_L2 a0 n v2_0 = some o1 := h
   rcases n with _ | n
   · cases (show (none : Option _) = some _ from h)
   rw [m_check_L2] at h
   try dsimp only
   refine ax_seq ?_
   refine ax_region ?_
   refine al_run tt_ok rfl rfl ?_
   refine ax_seq ?_
   refine ax_cond rfl rfl (fun hc => ?_) (fun hc => ?_)
   ·
    replace h := cond_t hc h
    refine ax_skip ?_
    refine ax_seq ?_
    refine ax_block ?_
    refine ax_seq ?_
    obtain ⟨hG5, h⟩ := gd_some h
    refine ax_region ?_
    refine al_run tt_ok rfl (by simp only [hG5, ob, decide_true, cond_true, cond_false]) ?_
    refine ax_seq ?_
    obtain ⟨hG4, h⟩ := gd_some h
    simp only [Bool.and_eq_true] at hG4
    obtain ⟨hG4_0, hG4_1⟩ := hG4
    refine ax_region ?_
    refine al_run tt_ok rfl (by revert hG4_0 hG4_1; generalize (decide ((40 : Int) < (a0.getD v2_0.toNat 0))) = b0; generalize (decide ((a0.getD v2_0.toNat 0) < (1 : Int))) = b1; generalize (inB (v2_0 - (1 : Int)) a0.length) = b2; generalize (decide ((0 : Int) < v2_0)) = b3; generalize (inI64 (v2_0 - (1 : Int))) = b4; revert b0 b1 b2 b3 b4; decide) ?_
    refine ax_cond rfl rfl (fun hc => ?_) (fun hc => ?_)
    ·
     replace h := cond_t hc h
     refine ax_seq ?_
     refine ax_region ?_
     refine al_run tt_ok rfl rfl ?_
     refine ax_ret ?_
     obtain rfl := Option.some.inj h
     have h := hk1
     dsimp only [sm] at h
     obtain rfl := Option.some.inj h
     refine ⟨_, (Wk.pick [2] [] rfl rfl), _, _, rfl, rfl, ?_⟩
     exact ⟨rfl, rfl⟩
    ·
     replace h := cond_f hc h
     refine ax_skip ?_
     obtain ⟨hG3, h⟩ := gd_some h
     refine ax_region ?_
     refine al_run tt_ok rfl (by simp only [hG3, ob, decide_true, cond_true, cond_false]) ?_
     refine ⟨(n, _), h, Nat.lt_succ_self _, (Wk.pick [7, 0, 5, 6] [] rfl rfl)⟩
   ·
    replace h := cond_f hc h
    refine ax_exit ?_
    exact ⟨_, Option.some.inj h, (Wk.pick [] [] rfl rfl)⟩
  ·
   rintro o1 rfl
   have h := hk1
   dsimp only [sm] at h
   refine ax_seq ?_
   refine ax_region ?_
   refine al_run tt_ok rfl rfl ?_
   refine ax_ret ?_
   obtain rfl := Option.some.inj h
   refine ⟨_, (Wk.pick [2] [] rfl rfl), _, _, rfl, rfl, ?_⟩
   exact ⟨rfl, rfl⟩
end Go.Proofs.YtihcolehefloeaaDoor

/- shifts.Shift: what it returns. -/
namespace Go.Proofs.YtihcolehefloeaaDoor
open Go.RowKit
def shErr (fr to : List Int) : Int := if chkAll fr = false then 1 else if to.length ≠ fr.length then 5 else if chkTo to = false then 1 else 0
def planR (fr to : List Int) : List OpT := if shErr fr to = 0 then planOf fr to else []
theorem shift_all (fr to : List Int) (c1 c2 : Option Nat) (h1 : fr.length ≤ 1000000) (h2 : to.length ≤ 1000000) : AC cx 8 [.c (.lst (.int .i64) fr c1), .c (.lst (.int .i64) to c2)] [] (fun sv h => sv = .tup [.c (.lst gOp (planR fr to) (some (planR fr to).length)), .c (.val (.int .i64 (shErr fr to)))] ∧ h = []) := by
  refine AC.weakV ?_ (shift_ok fr to c1 c2 h1 h2)
  intro env B w v h
  have hn : ∀ z : Int, VR env B w (.tup [.c (.val (.slice none 0 0)), .c (.val (.int .i64 z))]) v → VR env B w (.tup [.c (.lst gOp [] (some 0)), .c (.val (.int .i64 z))]) v := by
    rintro z ⟨vs, e, v1, r, e2, hv, hr⟩
    exact ⟨vs, e, v1, r, e2, nil_lst hv, hr⟩
  unfold shiftR at h
  split at h
  · rename_i g
    have hs : shErr fr to = 1 := by rw [shErr, if_pos g]
    rw [planR, hs, if_neg (by decide)]
    exact hn 1 h
  · rename_i g1
    split at h
    · rename_i g
      have hs : shErr fr to = 5 := by rw [shErr, if_neg g1, if_pos g]
      rw [planR, hs, if_neg (by decide)]
      exact hn 5 h
    · rename_i g2
      split at h
      · rename_i g3
        have hs : shErr fr to = 1 := by rw [shErr, if_neg g1, if_neg g2, if_pos g3]
        rw [planR, hs, if_neg (by decide)]
        exact hn 1 h
      · rename_i g3
        have hs : shErr fr to = 0 := by rw [shErr, if_neg g1, if_neg g2, if_neg g3]
        rw [planR, hs, if_pos rfl]
        exact h
end Go.Proofs.YtihcolehefloeaaDoor

/- Contracts proved by hand, in the form of tr.py. -/
namespace Go.Proofs.YtihcolehefloeaaDoor
set_option linter.unusedSimpArgs false
set_option linter.unusedVariables false
open Go.RowKit
def m_shift (a0 a1 : List Int) : Option (List OpT × Int) := gd (decide (a0.length ≤ 1000000) && decide (a1.length ≤ 1000000)) (some (planR a0 a1, shErr a0 a1))
theorem w_shift (a0 a1 : List Int) (c0 c1 : Option Nat) (r : List OpT × Int) (h : m_shift a0 a1 = some r) : AC cx 8 [.c (.lst (.int .i64) a0 c0), .c (.lst (.int .i64) a1 c1)] [] (fun sv h => sv = .tup [.c (.lst gOp r.1 (some r.1.length)), .c (.val (.int .i64 r.2))] ∧ h = []) := by
  obtain ⟨hg, h⟩ := gd_some h
  simp only [Bool.and_eq_true, decide_eq_true_eq] at hg
  obtain rfl := Option.some.inj h
  exact shift_all a0 a1 c0 c1 hg.1 hg.2
def m_clip (a0 : List OpT) : Option (List OpT) := some a0
theorem w_clip (a0 : List OpT) (c0 : Option Nat) (r : List OpT) (h : m_clip a0 = some r) : AC cx 31 [.c (.lst gOp a0 c0)] [] (fun sv h => sv = .a (.c (.lst gOp r (some r.length))) ∧ h = []) := by
  obtain rfl := Option.some.inj h
  exact clip_ok a0 c0
def opNB (o : OpT) : Bool := decide (0 ≤ o.1) && decide (0 ≤ o.2.1) && decide (0 ≤ o.2.2.1.1) && decide (0 ≤ o.2.2.2.1)
theorem opNB_ok {o : OpT} (h : opNB o = true) : OpN o := by
  simp only [opNB, Bool.and_eq_true, decide_eq_true_eq] at h
  exact ⟨h.1.1.1, h.1.1.2, h.1.2, h.2⟩
def m_optext (a0 : OpT) : Option (List UInt8) := gd (opNB a0) (some (textT a0))
theorem w_optext (a0 : OpT) (r : List UInt8) (h : m_optext a0 = some r) : AC cx 42 [opArg a0] [] (fun sv h => sv = .a (.c (.str r)) ∧ h = []) := by
  obtain ⟨hg, h⟩ := gd_some h
  obtain rfl := Option.some.inj h
  exact optext_ok a0 (opNB_ok hg)
end Go.Proofs.YtihcolehefloeaaDoor

/- Models of the functions of edges and of their laws, printed by tr.py. -/
namespace Go.Proofs.YtihcolehefloeaaDoor
set_option linter.unusedSimpArgs false
set_option linter.unusedVariables false
open Go.RowKit
end Go.Proofs.YtihcolehefloeaaDoor
