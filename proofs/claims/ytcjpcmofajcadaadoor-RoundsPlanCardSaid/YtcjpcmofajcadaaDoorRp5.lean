/- Part 5 of 6 of the proof. -/
import Derived.Test.YtcjpcmofajcadaaDoorRp4
import Derived.Test.YtcjpcmofajcadaaDoorRows
import Derived.LaidMore
import Derived.OpenShut
import Derived.Stop.Joined
import Derived.Test.YtcjpcmofajcadaaDoorCards
import Derived.Test.YtcjpcmofajcadaaDoorTie
import Derived.SevenTiedAt
import Derived.Lib.SmallJoins
import Derived.Maps.RangeRun
set_option linter.unusedSimpArgs false
set_option linter.unusedVariables false
/- operations.Text. -/
namespace Go.Proofs.YtcjpcmofajcadaaDoor
open Go.RowKit
def partsT (o : OpT) : List (List UInt8) :=
  wordsL.getD o.1.toNat [] ::
    (if o.1 = 1 then [itS o.2.2.2.1, dirsL.getD o.2.1.toNat []]
    else if o.1 = 2 then [itS o.2.2.2.1]
    else if o.1 = 3 then [itS o.2.2.2.2]
    else if o.1 = 4 ∨ o.1 = 5 ∨ o.1 = 6 then [dirsL.getD o.2.1.toNat [], needleT o.2.2.1.1 o.2.2.1.2, itS o.2.2.2.1]
    else [needleT o.2.2.1.1 o.2.2.1.2])
def textT (o : OpT) : List UInt8 := if opErr (toP o) = 0 then Lib.join (partsT o) [32] else []
theorem opErr_ok (o : OpT) (hn : OpN o) (h : opErr (toP o) = 0) : 1 ≤ o.1 ∧ o.1 ≤ 8 ∧ o.2.1 ≤ 1 ∧ o.2.2.2.1 ≤ 6 ∧ -4 ≤ o.2.2.2.2 ∧ o.2.2.2.2 ≤ 4 := by
  obtain ⟨g1, g2, g3, g4⟩ := hn
  unfold opErr at h
  split at h
  · rename_i hp
    split at h
    · simp at h
    · rename_i hr
      simp only [opPlain, Bool.and_eq_true, Bool.not_eq_true'] at hp
      obtain ⟨⟨⟨⟨p1, p2⟩, p3⟩, p4⟩, p5⟩ := hp
      simp only [there, Bool.and_eq_true, decide_eq_true_eq] at p1
      have q2 : (toP o).dir ≤ 1 := by
        unfold dirBad at p2
        split at p2 <;> simp at p2 <;> omega
      have q4 : (toP o).yarn ≤ 6 := by
        unfold yarnBad at p4
        split at p4 <;> simp at p4 <;> omega
      simp only [toP] at p1 q2 q4 hr
      refine ⟨by omega, by omega, by omega, by omega, by omega, by omega⟩
  · simp at h
theorem word_len (k : Nat) : (wordsL.getD k []).length ≤ 4 := getD_len k
where
  getD_len : ∀ k, (wordsL.getD k []).length ≤ 4
    | 0 | 1 | 2 | 3 | 4 | 5 | 6 | 7 | 8 => by decide
    | _ + 9 => by simp [wordsL]
theorem dir_len (k : Nat) : (dirsL.getD k []).length ≤ 5 := getD_len k
where
  getD_len : ∀ k, (dirsL.getD k []).length ≤ 5
    | 0 | 1 => by decide
    | _ + 2 => by simp [dirsL]
theorem textT_len (o : OpT) : (textT o).length ≤ 40 := by
  unfold textT
  split
  · have h1 := word_len o.1.toNat
    have h2 := dir_len o.2.1.toNat
    have h3 := itS_len o.2.2.2.1
    have h4 := itS_len o.2.2.2.2
    have h5 := needleT_len o.2.2.1.1 o.2.2.1.2
    unfold partsT
    repeat' split
    all_goals simp only [Lib.join, List.intercalate, List.intersperse, List.flatten_cons, List.flatten_nil, List.length_append, List.length_cons, List.length_nil, List.append_nil]
    all_goals omega
  · simp
theorem optext_ok (o : OpT) (hn : OpN o) : AC cx 22 [opArg o] [] (fun sv h => sv = .c (.str (textT o)) ∧ h = []) := by
  refine ac_body tt_ok Tryd.func22 rfl Tryd.ntmps22 rfl rfl (res := [.tmp 2]) rfl ?_
  have hn' := hn
  obtain ⟨g1, g2, g3, g4⟩ := hn'
  refine ax_seq ?_
  refine ax_region ?_
  refine al_run tt_ok rfl (by first | rfl | (simp only [inB, inI64, fitB, GTy.zero, Bool.and_eq_true, Bool.or_eq_true, Bool.not_eq_true', Bool.and_true, Bool.true_and, Bool.or_true, Bool.true_or, decide_eq_true_eq, decide_eq_false_iff_not, true_and, and_true]; omega) | (simp [inB, inI64, fitB, GTy.zero]; omega) | (simp [inB, inI64, fitB, GTy.zero])) ?_
  refine ax_seq ?_
  refine ax_seq ?_
  refine ax_region ?_
  refine al_upto tt_ok rfl (by first | rfl | (simp only [inB, inI64, fitB, GTy.zero, Bool.and_eq_true, Bool.or_eq_true, Bool.not_eq_true', Bool.and_true, Bool.true_and, Bool.or_true, Bool.true_or, decide_eq_true_eq, decide_eq_false_iff_not, true_and, and_true]; omega) | (simp [inB, inI64, fitB, GTy.zero]; omega) | (simp [inB, inI64, fitB, GTy.zero])) ?_
  refine al_callP (opcheck_ok o hn) rfl ⟨rfl, rfl⟩ rfl Tryd.func44 rfl rfl rfl rfl rfl rfl ?_
  refine al_run tt_ok rfl (by first | rfl | (simp only [inB, inI64, fitB, GTy.zero, Bool.and_eq_true, Bool.or_eq_true, Bool.not_eq_true', Bool.and_true, Bool.true_and, Bool.or_true, Bool.true_or, decide_eq_true_eq, decide_eq_false_iff_not, true_and, and_true]; omega) | (simp [inB, inI64, fitB, GTy.zero]; omega) | (simp [inB, inI64, fitB, GTy.zero])) ?_
  refine ax_cond rfl rfl (fun hc1 => ?_) (fun hc1 => ?_)
  ·
    refine ax_seq ?_
    refine ax_region ?_
    refine al_run tt_ok rfl (by first | rfl | (simp only [inB, inI64, fitB, GTy.zero, Bool.and_eq_true, Bool.or_eq_true, Bool.not_eq_true', Bool.and_true, Bool.true_and, Bool.or_true, Bool.true_or, decide_eq_true_eq, decide_eq_false_iff_not, true_and, and_true]; omega) | (simp [inB, inI64, fitB, GTy.zero]; omega) | (simp [inB, inI64, fitB, GTy.zero])) ?_
    refine ax_ret ?_
    refine ⟨_, Wk.sub (st' := ⟨[(2, _)], []⟩) (SubL.cons rfl SubL.nil) SubH.nil, _, _, rfl, rfl, ?_⟩
    have hf : opErr (toP o) ≠ 0 := by simpa using hc1
    rw [textT, if_neg hf]
    exact ⟨rfl, rfl⟩
  ·
    refine ax_skip ?_
    refine ax_seq ?_
    have hf : opErr (toP o) = 0 := by simpa using hc1
    obtain ⟨b1, b2, b3, b4, b5, b6⟩ := opErr_ok o hn hf
    have h1 := word_len o.1.toNat
    have h2 := dir_len o.2.1.toNat
    have h3 := itS_len o.2.2.2.1
    have h4 := itS_len o.2.2.2.2
    have h5 := needleT_len o.2.2.1.1 o.2.2.1.2
    have hwl : wordsL.length = 9 := rfl
    have hdl : dirsL.length = 2 := rfl
    refine ax_region ?_
    refine al_upto tt_ok rfl (by first | rfl | (simp only [inB, inI64, fitB, GTy.zero, Bool.and_eq_true, Bool.or_eq_true, Bool.not_eq_true', Bool.and_true, Bool.true_and, Bool.or_true, Bool.true_or, decide_eq_true_eq, decide_eq_false_iff_not, true_and, and_true]; omega) | (simp [inB, inI64, fitB, GTy.zero]; omega) | (simp [inB, inI64, fitB, GTy.zero])) ?_
    refine al_callP (itoaS_ok o.2.2.2.1 (by omega) (by omega)) rfl ⟨rfl, rfl⟩ rfl Tryd.func45 rfl rfl rfl rfl rfl rfl ?_
    refine al_run tt_ok rfl (by first | rfl | (simp only [inB, inI64, fitB, GTy.zero, Bool.and_eq_true, Bool.or_eq_true, Bool.not_eq_true', Bool.and_true, Bool.true_and, Bool.or_true, Bool.true_or, decide_eq_true_eq, decide_eq_false_iff_not, true_and, and_true]; omega) | (simp [inB, inI64, fitB, GTy.zero]; omega) | (simp [inB, inI64, fitB, GTy.zero])) ?_
    refine ax_seq ?_
    refine ax_region ?_
    refine al_run tt_ok rfl (by first | rfl | (simp only [inB, inI64, fitB, GTy.zero, Bool.and_eq_true, Bool.or_eq_true, Bool.not_eq_true', Bool.and_true, Bool.true_and, Bool.or_true, Bool.true_or, decide_eq_true_eq, decide_eq_false_iff_not, true_and, and_true]; omega) | (simp [inB, inI64, fitB, GTy.zero]; omega) | (simp [inB, inI64, fitB, GTy.zero])) ?_
    refine ax_seq ?_
    refine ax_seq ?_
    refine ax_region ?_
    refine al_run tt_ok rfl (by first | rfl | (simp only [inB, inI64, fitB, GTy.zero, Bool.and_eq_true, Bool.or_eq_true, Bool.not_eq_true', Bool.and_true, Bool.true_and, Bool.or_true, Bool.true_or, decide_eq_true_eq, decide_eq_false_iff_not, true_and, and_true]; omega) | (simp [inB, inI64, fitB, GTy.zero]; omega) | (simp [inB, inI64, fitB, GTy.zero])) ?_
    refine ax_block ?_
    refine ax_seq ?_
    refine ax_region ?_
    refine al_run tt_ok rfl (by first | rfl | (simp only [inB, inI64, fitB, GTy.zero, Bool.and_eq_true, Bool.or_eq_true, Bool.not_eq_true', Bool.and_true, Bool.true_and, Bool.or_true, Bool.true_or, decide_eq_true_eq, decide_eq_false_iff_not, true_and, and_true]; omega) | (simp [inB, inI64, fitB, GTy.zero]; omega) | (simp [inB, inI64, fitB, GTy.zero])) ?_
    refine ax_cond rfl rfl (fun hc6 => ?_) (fun hc6 => ?_)
    ·
      refine ax_region ?_
      refine al_run tt_ok rfl (by first | rfl | (simp only [inB, inI64, fitB, GTy.zero, Bool.and_eq_true, Bool.or_eq_true, Bool.not_eq_true', Bool.and_true, Bool.true_and, Bool.or_true, Bool.true_or, decide_eq_true_eq, decide_eq_false_iff_not, true_and, and_true]; omega) | (simp [inB, inI64, fitB, GTy.zero]; omega) | (simp [inB, inI64, fitB, GTy.zero])) ?_
      refine ax_seq ?_
      first | (exfalso; (simp only [decide_eq_true_eq, decide_eq_false_iff_not] at *; omega); done) | skip
      all_goals
        refine ax_weak (Wk.frz (id := 16) rfl) ?_
        refine ax_region ?_
        refine al_upto tt_ok rfl (by first | rfl | (simp only [inB, inI64, fitB, GTy.zero, Bool.and_eq_true, Bool.or_eq_true, Bool.not_eq_true', Bool.and_true, Bool.true_and, Bool.or_true, Bool.true_or, decide_eq_true_eq, decide_eq_false_iff_not, true_and, and_true]; omega) | (simp [inB, inI64, fitB, GTy.zero]; omega) | (simp [inB, inI64, fitB, GTy.zero])) ?_
        refine al_callP (join_ok _ none [32] (by simp) (by simp) (by simp only [GTy.zero, Lib.join, List.intercalate, List.intersperse, List.flatten_cons, List.flatten_nil, List.cons_append, List.nil_append, List.length_append, List.length_cons, List.length_nil, List.append_nil]; omega)) rfl ⟨rfl, rfl⟩ rfl Tryd.func47 rfl rfl rfl rfl rfl rfl ?_
        refine al_run tt_ok rfl (by first | rfl | (simp only [inB, inI64, fitB, GTy.zero, Bool.and_eq_true, Bool.or_eq_true, Bool.not_eq_true', Bool.and_true, Bool.true_and, Bool.or_true, Bool.true_or, decide_eq_true_eq, decide_eq_false_iff_not, true_and, and_true]; omega) | (simp [inB, inI64, fitB, GTy.zero]; omega) | (simp [inB, inI64, fitB, GTy.zero])) ?_
        refine ax_ret ?_
        refine ⟨_, Wk.sub (st' := ⟨[(2, _)], []⟩) (SubL.cons rfl SubL.nil) SubH.nil, _, _, rfl, rfl, ?_⟩
        refine ⟨?_, rfl⟩
        clear h1 h2 h3 h4 h5 hwl hdl
        simp only [decide_eq_true_eq, decide_eq_false_iff_not] at *
        simp [textT, hf, partsT, *]
        done
    ·
      refine ax_seq ?_
      refine ax_region ?_
      refine al_run tt_ok rfl (by first | rfl | (simp only [inB, inI64, fitB, GTy.zero, Bool.and_eq_true, Bool.or_eq_true, Bool.not_eq_true', Bool.and_true, Bool.true_and, Bool.or_true, Bool.true_or, decide_eq_true_eq, decide_eq_false_iff_not, true_and, and_true]; omega) | (simp [inB, inI64, fitB, GTy.zero]; omega) | (simp [inB, inI64, fitB, GTy.zero])) ?_
      refine ax_cond rfl rfl (fun hc8 => ?_) (fun hc8 => ?_)
      ·
        refine ax_region ?_
        refine al_run tt_ok rfl (by first | rfl | (simp only [inB, inI64, fitB, GTy.zero, Bool.and_eq_true, Bool.or_eq_true, Bool.not_eq_true', Bool.and_true, Bool.true_and, Bool.or_true, Bool.true_or, decide_eq_true_eq, decide_eq_false_iff_not, true_and, and_true]; omega) | (simp [inB, inI64, fitB, GTy.zero]; omega) | (simp [inB, inI64, fitB, GTy.zero])) ?_
        refine ax_seq ?_
        first | (exfalso; (simp only [decide_eq_true_eq, decide_eq_false_iff_not] at *; omega); done) | skip
        all_goals
          refine ax_weak (Wk.frz (id := 16) rfl) ?_
          refine ax_region ?_
          refine al_upto tt_ok rfl (by first | rfl | (simp only [inB, inI64, fitB, GTy.zero, Bool.and_eq_true, Bool.or_eq_true, Bool.not_eq_true', Bool.and_true, Bool.true_and, Bool.or_true, Bool.true_or, decide_eq_true_eq, decide_eq_false_iff_not, true_and, and_true]; omega) | (simp [inB, inI64, fitB, GTy.zero]; omega) | (simp [inB, inI64, fitB, GTy.zero])) ?_
          refine al_callP (join_ok _ none [32] (by simp) (by simp) (by simp only [GTy.zero, Lib.join, List.intercalate, List.intersperse, List.flatten_cons, List.flatten_nil, List.cons_append, List.nil_append, List.length_append, List.length_cons, List.length_nil, List.append_nil]; omega)) rfl ⟨rfl, rfl⟩ rfl Tryd.func47 rfl rfl rfl rfl rfl rfl ?_
          refine al_run tt_ok rfl (by first | rfl | (simp only [inB, inI64, fitB, GTy.zero, Bool.and_eq_true, Bool.or_eq_true, Bool.not_eq_true', Bool.and_true, Bool.true_and, Bool.or_true, Bool.true_or, decide_eq_true_eq, decide_eq_false_iff_not, true_and, and_true]; omega) | (simp [inB, inI64, fitB, GTy.zero]; omega) | (simp [inB, inI64, fitB, GTy.zero])) ?_
          refine ax_ret ?_
          refine ⟨_, Wk.sub (st' := ⟨[(2, _)], []⟩) (SubL.cons rfl SubL.nil) SubH.nil, _, _, rfl, rfl, ?_⟩
          refine ⟨?_, rfl⟩
          clear h1 h2 h3 h4 h5 hwl hdl
          simp only [decide_eq_true_eq, decide_eq_false_iff_not] at *
          simp [textT, hf, partsT, *]
          done
      ·
        refine ax_seq ?_
        refine ax_region ?_
        refine al_run tt_ok rfl (by first | rfl | (simp only [inB, inI64, fitB, GTy.zero, Bool.and_eq_true, Bool.or_eq_true, Bool.not_eq_true', Bool.and_true, Bool.true_and, Bool.or_true, Bool.true_or, decide_eq_true_eq, decide_eq_false_iff_not, true_and, and_true]; omega) | (simp [inB, inI64, fitB, GTy.zero]; omega) | (simp [inB, inI64, fitB, GTy.zero])) ?_
        refine ax_cond rfl rfl (fun hc10 => ?_) (fun hc10 => ?_)
        ·
          refine ax_region ?_
          refine al_upto tt_ok rfl (by first | rfl | (simp only [inB, inI64, fitB, GTy.zero, Bool.and_eq_true, Bool.or_eq_true, Bool.not_eq_true', Bool.and_true, Bool.true_and, Bool.or_true, Bool.true_or, decide_eq_true_eq, decide_eq_false_iff_not, true_and, and_true]; omega) | (simp [inB, inI64, fitB, GTy.zero]; omega) | (simp [inB, inI64, fitB, GTy.zero])) ?_
          refine al_callP (itoaS_ok o.2.2.2.2 (by omega) (by omega)) rfl ⟨rfl, rfl⟩ rfl Tryd.func45 rfl rfl rfl rfl rfl rfl ?_
          refine al_run tt_ok rfl (by first | rfl | (simp only [inB, inI64, fitB, GTy.zero, Bool.and_eq_true, Bool.or_eq_true, Bool.not_eq_true', Bool.and_true, Bool.true_and, Bool.or_true, Bool.true_or, decide_eq_true_eq, decide_eq_false_iff_not, true_and, and_true]; omega) | (simp [inB, inI64, fitB, GTy.zero]; omega) | (simp [inB, inI64, fitB, GTy.zero])) ?_
          refine ax_seq ?_
          first | (exfalso; (simp only [decide_eq_true_eq, decide_eq_false_iff_not] at *; omega); done) | skip
          all_goals
            refine ax_weak (Wk.frz (id := 16) rfl) ?_
            refine ax_region ?_
            refine al_upto tt_ok rfl (by first | rfl | (simp only [inB, inI64, fitB, GTy.zero, Bool.and_eq_true, Bool.or_eq_true, Bool.not_eq_true', Bool.and_true, Bool.true_and, Bool.or_true, Bool.true_or, decide_eq_true_eq, decide_eq_false_iff_not, true_and, and_true]; omega) | (simp [inB, inI64, fitB, GTy.zero]; omega) | (simp [inB, inI64, fitB, GTy.zero])) ?_
            refine al_callP (join_ok _ none [32] (by simp) (by simp) (by simp only [GTy.zero, Lib.join, List.intercalate, List.intersperse, List.flatten_cons, List.flatten_nil, List.cons_append, List.nil_append, List.length_append, List.length_cons, List.length_nil, List.append_nil]; omega)) rfl ⟨rfl, rfl⟩ rfl Tryd.func47 rfl rfl rfl rfl rfl rfl ?_
            refine al_run tt_ok rfl (by first | rfl | (simp only [inB, inI64, fitB, GTy.zero, Bool.and_eq_true, Bool.or_eq_true, Bool.not_eq_true', Bool.and_true, Bool.true_and, Bool.or_true, Bool.true_or, decide_eq_true_eq, decide_eq_false_iff_not, true_and, and_true]; omega) | (simp [inB, inI64, fitB, GTy.zero]; omega) | (simp [inB, inI64, fitB, GTy.zero])) ?_
            refine ax_ret ?_
            refine ⟨_, Wk.sub (st' := ⟨[(2, _)], []⟩) (SubL.cons rfl SubL.nil) SubH.nil, _, _, rfl, rfl, ?_⟩
            refine ⟨?_, rfl⟩
            clear h1 h2 h3 h4 h5 hwl hdl
            simp only [decide_eq_true_eq, decide_eq_false_iff_not] at *
            simp [textT, hf, partsT, *]
            done
        ·
          refine ax_seq ?_
          refine ax_seq ?_
          refine ax_region ?_
          refine al_run tt_ok rfl (by first | rfl | (simp only [inB, inI64, fitB, GTy.zero, Bool.and_eq_true, Bool.or_eq_true, Bool.not_eq_true', Bool.and_true, Bool.true_and, Bool.or_true, Bool.true_or, decide_eq_true_eq, decide_eq_false_iff_not, true_and, and_true]; omega) | (simp [inB, inI64, fitB, GTy.zero]; omega) | (simp [inB, inI64, fitB, GTy.zero])) ?_
          refine ax_cond rfl rfl (fun hc12 => ?_) (fun hc12 => ?_)
          ·
            refine ax_skip ?_
            refine ax_cond rfl rfl (fun hc12 => ?_) (fun hc12 => ?_)
            ·
              first | (exfalso; (simp only [decide_eq_true_eq, decide_eq_false_iff_not] at *; omega); done) | skip
              all_goals
                refine ax_draw [5, 6, 7, 8] (by kernel_rfl) rfl (N := 12) ?_
                refine ad_run (fuel := 4) (ds' := ⟨#[true, true, true, true, true, true, true, false, true, false, false, false], true, true, true⟩) tt_ok [(0, 0), (1, 0), (2, 3), (3, 0), (4, 1), (5, 0), (6, 3), (8, 0)] (by kernel_rfl) rfl (by first | rfl | (simp only [inB, inI64, fitB, GTy.zero, Bool.and_eq_true, Bool.or_eq_true, Bool.not_eq_true', Bool.and_true, Bool.true_and, Bool.or_true, Bool.true_or, decide_eq_true_eq, decide_eq_false_iff_not, true_and, and_true]; omega) | (simp [inB, inI64, fitB, GTy.zero]; omega) | (simp [inB, inI64, fitB, GTy.zero])) ?_
                refine ad_ready (by kernel_rfl) (ads_cons (i := 7) ?_ ads_nil)
                refine ado_of rfl ?_
                refine adx_call (i := 7) (listed' := #[true, true, true, true, true, true, true, true, true, false, false, false]) (pre' := true) [] (ntext_ok o.2.2.1.1 o.2.2.1.2 g3) rfl rfl rfl rfl ⟨rfl, rfl⟩ rfl Tryd.func46 rfl rfl rfl rfl rfl rfl PassH.nil ?_
                rintro _ _ ⟨rfl, rfl⟩
                refine ⟨_, _, rfl, rfl, ?_⟩
                refine ad_run (fuel := 0) (ds' := ⟨#[true, true, true, true, true, true, true, true, true, true, true, true], false, false, false⟩) tt_ok [(9, 2), (10, 2), (11, 0)] (by kernel_rfl) rfl (by first | rfl | (simp only [inB, inI64, fitB, GTy.zero, Bool.and_eq_true, Bool.or_eq_true, Bool.not_eq_true', Bool.and_true, Bool.true_and, Bool.or_true, Bool.true_or, decide_eq_true_eq, decide_eq_false_iff_not, true_and, and_true]; omega) | (simp [inB, inI64, fitB, GTy.zero]; omega) | (simp [inB, inI64, fitB, GTy.zero])) ?_
                refine ad_done (by kernel_rfl) ?_
                refine ax_seq ?_
                first | (exfalso; (simp only [decide_eq_true_eq, decide_eq_false_iff_not] at *; omega); done) | skip
                all_goals
                  refine ax_weak (Wk.frz (id := 16) rfl) ?_
                  refine ax_region ?_
                  refine al_upto tt_ok rfl (by first | rfl | (simp only [inB, inI64, fitB, GTy.zero, Bool.and_eq_true, Bool.or_eq_true, Bool.not_eq_true', Bool.and_true, Bool.true_and, Bool.or_true, Bool.true_or, decide_eq_true_eq, decide_eq_false_iff_not, true_and, and_true]; omega) | (simp [inB, inI64, fitB, GTy.zero]; omega) | (simp [inB, inI64, fitB, GTy.zero])) ?_
                  refine al_callP (join_ok _ none [32] (by simp) (by simp) (by simp only [GTy.zero, Lib.join, List.intercalate, List.intersperse, List.flatten_cons, List.flatten_nil, List.cons_append, List.nil_append, List.length_append, List.length_cons, List.length_nil, List.append_nil]; omega)) rfl ⟨rfl, rfl⟩ rfl Tryd.func47 rfl rfl rfl rfl rfl rfl ?_
                  refine al_run tt_ok rfl (by first | rfl | (simp only [inB, inI64, fitB, GTy.zero, Bool.and_eq_true, Bool.or_eq_true, Bool.not_eq_true', Bool.and_true, Bool.true_and, Bool.or_true, Bool.true_or, decide_eq_true_eq, decide_eq_false_iff_not, true_and, and_true]; omega) | (simp [inB, inI64, fitB, GTy.zero]; omega) | (simp [inB, inI64, fitB, GTy.zero])) ?_
                  refine ax_ret ?_
                  refine ⟨_, Wk.sub (st' := ⟨[(2, _)], []⟩) (SubL.cons rfl SubL.nil) SubH.nil, _, _, rfl, rfl, ?_⟩
                  refine ⟨?_, rfl⟩
                  clear h1 h2 h3 h4 h5 hwl hdl
                  simp only [decide_eq_true_eq, decide_eq_false_iff_not] at *
                  simp [textT, hf, partsT, *]
                  done
            ·
              refine ax_seq ?_
              refine ax_seq ?_
              first | (exfalso; (simp only [decide_eq_true_eq, decide_eq_false_iff_not] at *; omega); done) | skip
              all_goals
                refine ax_region ?_
                refine al_run tt_ok rfl (by first | rfl | (simp only [inB, inI64, fitB, GTy.zero, Bool.and_eq_true, Bool.or_eq_true, Bool.not_eq_true', Bool.and_true, Bool.true_and, Bool.or_true, Bool.true_or, decide_eq_true_eq, decide_eq_false_iff_not, true_and, and_true]; omega) | (simp [inB, inI64, fitB, GTy.zero]; omega) | (simp [inB, inI64, fitB, GTy.zero])) ?_
                refine ax_cond rfl rfl (fun hc16 => ?_) (fun hc16 => ?_)
                ·
                  refine ax_skip ?_
                  refine ax_cond rfl rfl (fun hc16 => ?_) (fun hc16 => ?_)
                  ·
                    first | (exfalso; (simp only [decide_eq_true_eq, decide_eq_false_iff_not] at *; omega); done) | skip
                    all_goals
                      refine ax_region ?_
                      refine al_upto tt_ok rfl (by first | rfl | (simp only [inB, inI64, fitB, GTy.zero, Bool.and_eq_true, Bool.or_eq_true, Bool.not_eq_true', Bool.and_true, Bool.true_and, Bool.or_true, Bool.true_or, decide_eq_true_eq, decide_eq_false_iff_not, true_and, and_true]; omega) | (simp [inB, inI64, fitB, GTy.zero]; omega) | (simp [inB, inI64, fitB, GTy.zero])) ?_
                      refine al_callP (ntext_ok o.2.2.1.1 o.2.2.1.2 g3) rfl ⟨rfl, rfl⟩ rfl Tryd.func46 rfl rfl rfl rfl rfl rfl ?_
                      refine al_run tt_ok rfl (by first | rfl | (simp only [inB, inI64, fitB, GTy.zero, Bool.and_eq_true, Bool.or_eq_true, Bool.not_eq_true', Bool.and_true, Bool.true_and, Bool.or_true, Bool.true_or, decide_eq_true_eq, decide_eq_false_iff_not, true_and, and_true]; omega) | (simp [inB, inI64, fitB, GTy.zero]; omega) | (simp [inB, inI64, fitB, GTy.zero])) ?_
                      refine ax_seq ?_
                      first | (exfalso; (simp only [decide_eq_true_eq, decide_eq_false_iff_not] at *; omega); done) | skip
                      all_goals
                        refine ax_weak (Wk.frz (id := 16) rfl) ?_
                        refine ax_region ?_
                        refine al_upto tt_ok rfl (by first | rfl | (simp only [inB, inI64, fitB, GTy.zero, Bool.and_eq_true, Bool.or_eq_true, Bool.not_eq_true', Bool.and_true, Bool.true_and, Bool.or_true, Bool.true_or, decide_eq_true_eq, decide_eq_false_iff_not, true_and, and_true]; omega) | (simp [inB, inI64, fitB, GTy.zero]; omega) | (simp [inB, inI64, fitB, GTy.zero])) ?_
                        refine al_callP (join_ok _ none [32] (by simp) (by simp) (by simp only [GTy.zero, Lib.join, List.intercalate, List.intersperse, List.flatten_cons, List.flatten_nil, List.cons_append, List.nil_append, List.length_append, List.length_cons, List.length_nil, List.append_nil]; omega)) rfl ⟨rfl, rfl⟩ rfl Tryd.func47 rfl rfl rfl rfl rfl rfl ?_
                        refine al_run tt_ok rfl (by first | rfl | (simp only [inB, inI64, fitB, GTy.zero, Bool.and_eq_true, Bool.or_eq_true, Bool.not_eq_true', Bool.and_true, Bool.true_and, Bool.or_true, Bool.true_or, decide_eq_true_eq, decide_eq_false_iff_not, true_and, and_true]; omega) | (simp [inB, inI64, fitB, GTy.zero]; omega) | (simp [inB, inI64, fitB, GTy.zero])) ?_
                        refine ax_ret ?_
                        refine ⟨_, Wk.sub (st' := ⟨[(2, _)], []⟩) (SubL.cons rfl SubL.nil) SubH.nil, _, _, rfl, rfl, ?_⟩
                        refine ⟨?_, rfl⟩
                        clear h1 h2 h3 h4 h5 hwl hdl
                        simp only [decide_eq_true_eq, decide_eq_false_iff_not] at *
                        simp [textT, hf, partsT, *]
                        done
                  ·
                    refine ax_skip ?_
                    refine ax_seq ?_
                    first | (exfalso; (simp only [decide_eq_true_eq, decide_eq_false_iff_not] at *; omega); done) | skip
                    all_goals
                      refine ax_weak (Wk.frz (id := 16) rfl) ?_
                      refine ax_region ?_
                      refine al_upto tt_ok rfl (by first | rfl | (simp only [inB, inI64, fitB, GTy.zero, Bool.and_eq_true, Bool.or_eq_true, Bool.not_eq_true', Bool.and_true, Bool.true_and, Bool.or_true, Bool.true_or, decide_eq_true_eq, decide_eq_false_iff_not, true_and, and_true]; omega) | (simp [inB, inI64, fitB, GTy.zero]; omega) | (simp [inB, inI64, fitB, GTy.zero])) ?_
                      refine al_callP (join_ok _ none [32] (by simp) (by simp) (by simp only [GTy.zero, Lib.join, List.intercalate, List.intersperse, List.flatten_cons, List.flatten_nil, List.cons_append, List.nil_append, List.length_append, List.length_cons, List.length_nil, List.append_nil]; omega)) rfl ⟨rfl, rfl⟩ rfl Tryd.func47 rfl rfl rfl rfl rfl rfl ?_
                      refine al_run tt_ok rfl (by first | rfl | (simp only [inB, inI64, fitB, GTy.zero, Bool.and_eq_true, Bool.or_eq_true, Bool.not_eq_true', Bool.and_true, Bool.true_and, Bool.or_true, Bool.true_or, decide_eq_true_eq, decide_eq_false_iff_not, true_and, and_true]; omega) | (simp [inB, inI64, fitB, GTy.zero]; omega) | (simp [inB, inI64, fitB, GTy.zero])) ?_
                      refine ax_ret ?_
                      refine ⟨_, Wk.sub (st' := ⟨[(2, _)], []⟩) (SubL.cons rfl SubL.nil) SubH.nil, _, _, rfl, rfl, ?_⟩
                      refine ⟨?_, rfl⟩
                      clear h1 h2 h3 h4 h5 hwl hdl
                      simp only [decide_eq_true_eq, decide_eq_false_iff_not] at *
                      simp [textT, hf, partsT, *]
                      done
                ·
                  refine ax_region ?_
                  refine al_run tt_ok rfl (by first | rfl | (simp only [inB, inI64, fitB, GTy.zero, Bool.and_eq_true, Bool.or_eq_true, Bool.not_eq_true', Bool.and_true, Bool.true_and, Bool.or_true, Bool.true_or, decide_eq_true_eq, decide_eq_false_iff_not, true_and, and_true]; omega) | (simp [inB, inI64, fitB, GTy.zero]; omega) | (simp [inB, inI64, fitB, GTy.zero])) ?_
                  refine ax_cond rfl rfl (fun hc17 => ?_) (fun hc17 => ?_)
                  ·
                    first | (exfalso; (simp only [decide_eq_true_eq, decide_eq_false_iff_not] at *; omega); done) | skip
                    all_goals
                      refine ax_region ?_
                      refine al_upto tt_ok rfl (by first | rfl | (simp only [inB, inI64, fitB, GTy.zero, Bool.and_eq_true, Bool.or_eq_true, Bool.not_eq_true', Bool.and_true, Bool.true_and, Bool.or_true, Bool.true_or, decide_eq_true_eq, decide_eq_false_iff_not, true_and, and_true]; omega) | (simp [inB, inI64, fitB, GTy.zero]; omega) | (simp [inB, inI64, fitB, GTy.zero])) ?_
                      refine al_callP (ntext_ok o.2.2.1.1 o.2.2.1.2 g3) rfl ⟨rfl, rfl⟩ rfl Tryd.func46 rfl rfl rfl rfl rfl rfl ?_
                      refine al_run tt_ok rfl (by first | rfl | (simp only [inB, inI64, fitB, GTy.zero, Bool.and_eq_true, Bool.or_eq_true, Bool.not_eq_true', Bool.and_true, Bool.true_and, Bool.or_true, Bool.true_or, decide_eq_true_eq, decide_eq_false_iff_not, true_and, and_true]; omega) | (simp [inB, inI64, fitB, GTy.zero]; omega) | (simp [inB, inI64, fitB, GTy.zero])) ?_
                      refine ax_seq ?_
                      first | (exfalso; (simp only [decide_eq_true_eq, decide_eq_false_iff_not] at *; omega); done) | skip
                      all_goals
                        refine ax_weak (Wk.frz (id := 16) rfl) ?_
                        refine ax_region ?_
                        refine al_upto tt_ok rfl (by first | rfl | (simp only [inB, inI64, fitB, GTy.zero, Bool.and_eq_true, Bool.or_eq_true, Bool.not_eq_true', Bool.and_true, Bool.true_and, Bool.or_true, Bool.true_or, decide_eq_true_eq, decide_eq_false_iff_not, true_and, and_true]; omega) | (simp [inB, inI64, fitB, GTy.zero]; omega) | (simp [inB, inI64, fitB, GTy.zero])) ?_
                        refine al_callP (join_ok _ none [32] (by simp) (by simp) (by simp only [GTy.zero, Lib.join, List.intercalate, List.intersperse, List.flatten_cons, List.flatten_nil, List.cons_append, List.nil_append, List.length_append, List.length_cons, List.length_nil, List.append_nil]; omega)) rfl ⟨rfl, rfl⟩ rfl Tryd.func47 rfl rfl rfl rfl rfl rfl ?_
                        refine al_run tt_ok rfl (by first | rfl | (simp only [inB, inI64, fitB, GTy.zero, Bool.and_eq_true, Bool.or_eq_true, Bool.not_eq_true', Bool.and_true, Bool.true_and, Bool.or_true, Bool.true_or, decide_eq_true_eq, decide_eq_false_iff_not, true_and, and_true]; omega) | (simp [inB, inI64, fitB, GTy.zero]; omega) | (simp [inB, inI64, fitB, GTy.zero])) ?_
                        refine ax_ret ?_
                        refine ⟨_, Wk.sub (st' := ⟨[(2, _)], []⟩) (SubL.cons rfl SubL.nil) SubH.nil, _, _, rfl, rfl, ?_⟩
                        refine ⟨?_, rfl⟩
                        clear h1 h2 h3 h4 h5 hwl hdl
                        simp only [decide_eq_true_eq, decide_eq_false_iff_not] at *
                        simp [textT, hf, partsT, *]
                        done
                  ·
                    refine ax_skip ?_
                    refine ax_seq ?_
                    first | (exfalso; (simp only [decide_eq_true_eq, decide_eq_false_iff_not] at *; omega); done) | skip
                    all_goals
                      refine ax_weak (Wk.frz (id := 16) rfl) ?_
                      refine ax_region ?_
                      refine al_upto tt_ok rfl (by first | rfl | (simp only [inB, inI64, fitB, GTy.zero, Bool.and_eq_true, Bool.or_eq_true, Bool.not_eq_true', Bool.and_true, Bool.true_and, Bool.or_true, Bool.true_or, decide_eq_true_eq, decide_eq_false_iff_not, true_and, and_true]; omega) | (simp [inB, inI64, fitB, GTy.zero]; omega) | (simp [inB, inI64, fitB, GTy.zero])) ?_
                      refine al_callP (join_ok _ none [32] (by simp) (by simp) (by simp only [GTy.zero, Lib.join, List.intercalate, List.intersperse, List.flatten_cons, List.flatten_nil, List.cons_append, List.nil_append, List.length_append, List.length_cons, List.length_nil, List.append_nil]; omega)) rfl ⟨rfl, rfl⟩ rfl Tryd.func47 rfl rfl rfl rfl rfl rfl ?_
                      refine al_run tt_ok rfl (by first | rfl | (simp only [inB, inI64, fitB, GTy.zero, Bool.and_eq_true, Bool.or_eq_true, Bool.not_eq_true', Bool.and_true, Bool.true_and, Bool.or_true, Bool.true_or, decide_eq_true_eq, decide_eq_false_iff_not, true_and, and_true]; omega) | (simp [inB, inI64, fitB, GTy.zero]; omega) | (simp [inB, inI64, fitB, GTy.zero])) ?_
                      refine ax_ret ?_
                      refine ⟨_, Wk.sub (st' := ⟨[(2, _)], []⟩) (SubL.cons rfl SubL.nil) SubH.nil, _, _, rfl, rfl, ?_⟩
                      refine ⟨?_, rfl⟩
                      clear h1 h2 h3 h4 h5 hwl hdl
                      simp only [decide_eq_true_eq, decide_eq_false_iff_not] at *
                      simp [textT, hf, partsT, *]
                      done
          ·
            refine ax_seq ?_
            refine ax_region ?_
            refine al_run tt_ok rfl (by first | rfl | (simp only [inB, inI64, fitB, GTy.zero, Bool.and_eq_true, Bool.or_eq_true, Bool.not_eq_true', Bool.and_true, Bool.true_and, Bool.or_true, Bool.true_or, decide_eq_true_eq, decide_eq_false_iff_not, true_and, and_true]; omega) | (simp [inB, inI64, fitB, GTy.zero]; omega) | (simp [inB, inI64, fitB, GTy.zero])) ?_
            refine ax_cond rfl rfl (fun hc13 => ?_) (fun hc13 => ?_)
            ·
              refine ax_skip ?_
              refine ax_cond rfl rfl (fun hc13 => ?_) (fun hc13 => ?_)
              ·
                first | (exfalso; (simp only [decide_eq_true_eq, decide_eq_false_iff_not] at *; omega); done) | skip
                all_goals
                  refine ax_draw [5, 6, 7, 8] (by kernel_rfl) rfl (N := 12) ?_
                  refine ad_run (fuel := 4) (ds' := ⟨#[true, true, true, true, true, true, true, false, true, false, false, false], true, true, true⟩) tt_ok [(0, 0), (1, 0), (2, 3), (3, 0), (4, 1), (5, 0), (6, 3), (8, 0)] (by kernel_rfl) rfl (by first | rfl | (simp only [inB, inI64, fitB, GTy.zero, Bool.and_eq_true, Bool.or_eq_true, Bool.not_eq_true', Bool.and_true, Bool.true_and, Bool.or_true, Bool.true_or, decide_eq_true_eq, decide_eq_false_iff_not, true_and, and_true]; omega) | (simp [inB, inI64, fitB, GTy.zero]; omega) | (simp [inB, inI64, fitB, GTy.zero])) ?_
                  refine ad_ready (by kernel_rfl) (ads_cons (i := 7) ?_ ads_nil)
                  refine ado_of rfl ?_
                  refine adx_call (i := 7) (listed' := #[true, true, true, true, true, true, true, true, true, false, false, false]) (pre' := true) [] (ntext_ok o.2.2.1.1 o.2.2.1.2 g3) rfl rfl rfl rfl ⟨rfl, rfl⟩ rfl Tryd.func46 rfl rfl rfl rfl rfl rfl PassH.nil ?_
                  rintro _ _ ⟨rfl, rfl⟩
                  refine ⟨_, _, rfl, rfl, ?_⟩
                  refine ad_run (fuel := 0) (ds' := ⟨#[true, true, true, true, true, true, true, true, true, true, true, true], false, false, false⟩) tt_ok [(9, 2), (10, 2), (11, 0)] (by kernel_rfl) rfl (by first | rfl | (simp only [inB, inI64, fitB, GTy.zero, Bool.and_eq_true, Bool.or_eq_true, Bool.not_eq_true', Bool.and_true, Bool.true_and, Bool.or_true, Bool.true_or, decide_eq_true_eq, decide_eq_false_iff_not, true_and, and_true]; omega) | (simp [inB, inI64, fitB, GTy.zero]; omega) | (simp [inB, inI64, fitB, GTy.zero])) ?_
                  refine ad_done (by kernel_rfl) ?_
                  refine ax_seq ?_
                  first | (exfalso; (simp only [decide_eq_true_eq, decide_eq_false_iff_not] at *; omega); done) | skip
                  all_goals
                    refine ax_weak (Wk.frz (id := 16) rfl) ?_
                    refine ax_region ?_
                    refine al_upto tt_ok rfl (by first | rfl | (simp only [inB, inI64, fitB, GTy.zero, Bool.and_eq_true, Bool.or_eq_true, Bool.not_eq_true', Bool.and_true, Bool.true_and, Bool.or_true, Bool.true_or, decide_eq_true_eq, decide_eq_false_iff_not, true_and, and_true]; omega) | (simp [inB, inI64, fitB, GTy.zero]; omega) | (simp [inB, inI64, fitB, GTy.zero])) ?_
                    refine al_callP (join_ok _ none [32] (by simp) (by simp) (by simp only [GTy.zero, Lib.join, List.intercalate, List.intersperse, List.flatten_cons, List.flatten_nil, List.cons_append, List.nil_append, List.length_append, List.length_cons, List.length_nil, List.append_nil]; omega)) rfl ⟨rfl, rfl⟩ rfl Tryd.func47 rfl rfl rfl rfl rfl rfl ?_
                    refine al_run tt_ok rfl (by first | rfl | (simp only [inB, inI64, fitB, GTy.zero, Bool.and_eq_true, Bool.or_eq_true, Bool.not_eq_true', Bool.and_true, Bool.true_and, Bool.or_true, Bool.true_or, decide_eq_true_eq, decide_eq_false_iff_not, true_and, and_true]; omega) | (simp [inB, inI64, fitB, GTy.zero]; omega) | (simp [inB, inI64, fitB, GTy.zero])) ?_
                    refine ax_ret ?_
                    refine ⟨_, Wk.sub (st' := ⟨[(2, _)], []⟩) (SubL.cons rfl SubL.nil) SubH.nil, _, _, rfl, rfl, ?_⟩
                    refine ⟨?_, rfl⟩
                    clear h1 h2 h3 h4 h5 hwl hdl
                    simp only [decide_eq_true_eq, decide_eq_false_iff_not] at *
                    simp [textT, hf, partsT, *]
                    done
              ·
                refine ax_seq ?_
                refine ax_seq ?_
                first | (exfalso; (simp only [decide_eq_true_eq, decide_eq_false_iff_not] at *; omega); done) | skip
                all_goals
                  refine ax_region ?_
                  refine al_run tt_ok rfl (by first | rfl | (simp only [inB, inI64, fitB, GTy.zero, Bool.and_eq_true, Bool.or_eq_true, Bool.not_eq_true', Bool.and_true, Bool.true_and, Bool.or_true, Bool.true_or, decide_eq_true_eq, decide_eq_false_iff_not, true_and, and_true]; omega) | (simp [inB, inI64, fitB, GTy.zero]; omega) | (simp [inB, inI64, fitB, GTy.zero])) ?_
                  refine ax_cond rfl rfl (fun hc16 => ?_) (fun hc16 => ?_)
                  ·
                    refine ax_skip ?_
                    refine ax_cond rfl rfl (fun hc16 => ?_) (fun hc16 => ?_)
                    ·
                      first | (exfalso; (simp only [decide_eq_true_eq, decide_eq_false_iff_not] at *; omega); done) | skip
                      all_goals
                        refine ax_region ?_
                        refine al_upto tt_ok rfl (by first | rfl | (simp only [inB, inI64, fitB, GTy.zero, Bool.and_eq_true, Bool.or_eq_true, Bool.not_eq_true', Bool.and_true, Bool.true_and, Bool.or_true, Bool.true_or, decide_eq_true_eq, decide_eq_false_iff_not, true_and, and_true]; omega) | (simp [inB, inI64, fitB, GTy.zero]; omega) | (simp [inB, inI64, fitB, GTy.zero])) ?_
                        refine al_callP (ntext_ok o.2.2.1.1 o.2.2.1.2 g3) rfl ⟨rfl, rfl⟩ rfl Tryd.func46 rfl rfl rfl rfl rfl rfl ?_
                        refine al_run tt_ok rfl (by first | rfl | (simp only [inB, inI64, fitB, GTy.zero, Bool.and_eq_true, Bool.or_eq_true, Bool.not_eq_true', Bool.and_true, Bool.true_and, Bool.or_true, Bool.true_or, decide_eq_true_eq, decide_eq_false_iff_not, true_and, and_true]; omega) | (simp [inB, inI64, fitB, GTy.zero]; omega) | (simp [inB, inI64, fitB, GTy.zero])) ?_
                        refine ax_seq ?_
                        first | (exfalso; (simp only [decide_eq_true_eq, decide_eq_false_iff_not] at *; omega); done) | skip
                        all_goals
                          refine ax_weak (Wk.frz (id := 16) rfl) ?_
                          refine ax_region ?_
                          refine al_upto tt_ok rfl (by first | rfl | (simp only [inB, inI64, fitB, GTy.zero, Bool.and_eq_true, Bool.or_eq_true, Bool.not_eq_true', Bool.and_true, Bool.true_and, Bool.or_true, Bool.true_or, decide_eq_true_eq, decide_eq_false_iff_not, true_and, and_true]; omega) | (simp [inB, inI64, fitB, GTy.zero]; omega) | (simp [inB, inI64, fitB, GTy.zero])) ?_
                          refine al_callP (join_ok _ none [32] (by simp) (by simp) (by simp only [GTy.zero, Lib.join, List.intercalate, List.intersperse, List.flatten_cons, List.flatten_nil, List.cons_append, List.nil_append, List.length_append, List.length_cons, List.length_nil, List.append_nil]; omega)) rfl ⟨rfl, rfl⟩ rfl Tryd.func47 rfl rfl rfl rfl rfl rfl ?_
                          refine al_run tt_ok rfl (by first | rfl | (simp only [inB, inI64, fitB, GTy.zero, Bool.and_eq_true, Bool.or_eq_true, Bool.not_eq_true', Bool.and_true, Bool.true_and, Bool.or_true, Bool.true_or, decide_eq_true_eq, decide_eq_false_iff_not, true_and, and_true]; omega) | (simp [inB, inI64, fitB, GTy.zero]; omega) | (simp [inB, inI64, fitB, GTy.zero])) ?_
                          refine ax_ret ?_
                          refine ⟨_, Wk.sub (st' := ⟨[(2, _)], []⟩) (SubL.cons rfl SubL.nil) SubH.nil, _, _, rfl, rfl, ?_⟩
                          refine ⟨?_, rfl⟩
                          clear h1 h2 h3 h4 h5 hwl hdl
                          simp only [decide_eq_true_eq, decide_eq_false_iff_not] at *
                          simp [textT, hf, partsT, *]
                          done
                    ·
                      refine ax_skip ?_
                      refine ax_seq ?_
                      first | (exfalso; (simp only [decide_eq_true_eq, decide_eq_false_iff_not] at *; omega); done) | skip
                      all_goals
                        refine ax_weak (Wk.frz (id := 16) rfl) ?_
                        refine ax_region ?_
                        refine al_upto tt_ok rfl (by first | rfl | (simp only [inB, inI64, fitB, GTy.zero, Bool.and_eq_true, Bool.or_eq_true, Bool.not_eq_true', Bool.and_true, Bool.true_and, Bool.or_true, Bool.true_or, decide_eq_true_eq, decide_eq_false_iff_not, true_and, and_true]; omega) | (simp [inB, inI64, fitB, GTy.zero]; omega) | (simp [inB, inI64, fitB, GTy.zero])) ?_
                        refine al_callP (join_ok _ none [32] (by simp) (by simp) (by simp only [GTy.zero, Lib.join, List.intercalate, List.intersperse, List.flatten_cons, List.flatten_nil, List.cons_append, List.nil_append, List.length_append, List.length_cons, List.length_nil, List.append_nil]; omega)) rfl ⟨rfl, rfl⟩ rfl Tryd.func47 rfl rfl rfl rfl rfl rfl ?_
                        refine al_run tt_ok rfl (by first | rfl | (simp only [inB, inI64, fitB, GTy.zero, Bool.and_eq_true, Bool.or_eq_true, Bool.not_eq_true', Bool.and_true, Bool.true_and, Bool.or_true, Bool.true_or, decide_eq_true_eq, decide_eq_false_iff_not, true_and, and_true]; omega) | (simp [inB, inI64, fitB, GTy.zero]; omega) | (simp [inB, inI64, fitB, GTy.zero])) ?_
                        refine ax_ret ?_
                        refine ⟨_, Wk.sub (st' := ⟨[(2, _)], []⟩) (SubL.cons rfl SubL.nil) SubH.nil, _, _, rfl, rfl, ?_⟩
                        refine ⟨?_, rfl⟩
                        clear h1 h2 h3 h4 h5 hwl hdl
                        simp only [decide_eq_true_eq, decide_eq_false_iff_not] at *
                        simp [textT, hf, partsT, *]
                        done
                  ·
                    refine ax_region ?_
                    refine al_run tt_ok rfl (by first | rfl | (simp only [inB, inI64, fitB, GTy.zero, Bool.and_eq_true, Bool.or_eq_true, Bool.not_eq_true', Bool.and_true, Bool.true_and, Bool.or_true, Bool.true_or, decide_eq_true_eq, decide_eq_false_iff_not, true_and, and_true]; omega) | (simp [inB, inI64, fitB, GTy.zero]; omega) | (simp [inB, inI64, fitB, GTy.zero])) ?_
                    refine ax_cond rfl rfl (fun hc17 => ?_) (fun hc17 => ?_)
                    ·
                      first | (exfalso; (simp only [decide_eq_true_eq, decide_eq_false_iff_not] at *; omega); done) | skip
                      all_goals
                        refine ax_region ?_
                        refine al_upto tt_ok rfl (by first | rfl | (simp only [inB, inI64, fitB, GTy.zero, Bool.and_eq_true, Bool.or_eq_true, Bool.not_eq_true', Bool.and_true, Bool.true_and, Bool.or_true, Bool.true_or, decide_eq_true_eq, decide_eq_false_iff_not, true_and, and_true]; omega) | (simp [inB, inI64, fitB, GTy.zero]; omega) | (simp [inB, inI64, fitB, GTy.zero])) ?_
                        refine al_callP (ntext_ok o.2.2.1.1 o.2.2.1.2 g3) rfl ⟨rfl, rfl⟩ rfl Tryd.func46 rfl rfl rfl rfl rfl rfl ?_
                        refine al_run tt_ok rfl (by first | rfl | (simp only [inB, inI64, fitB, GTy.zero, Bool.and_eq_true, Bool.or_eq_true, Bool.not_eq_true', Bool.and_true, Bool.true_and, Bool.or_true, Bool.true_or, decide_eq_true_eq, decide_eq_false_iff_not, true_and, and_true]; omega) | (simp [inB, inI64, fitB, GTy.zero]; omega) | (simp [inB, inI64, fitB, GTy.zero])) ?_
                        refine ax_seq ?_
                        first | (exfalso; (simp only [decide_eq_true_eq, decide_eq_false_iff_not] at *; omega); done) | skip
                        all_goals
                          refine ax_weak (Wk.frz (id := 16) rfl) ?_
                          refine ax_region ?_
                          refine al_upto tt_ok rfl (by first | rfl | (simp only [inB, inI64, fitB, GTy.zero, Bool.and_eq_true, Bool.or_eq_true, Bool.not_eq_true', Bool.and_true, Bool.true_and, Bool.or_true, Bool.true_or, decide_eq_true_eq, decide_eq_false_iff_not, true_and, and_true]; omega) | (simp [inB, inI64, fitB, GTy.zero]; omega) | (simp [inB, inI64, fitB, GTy.zero])) ?_
                          refine al_callP (join_ok _ none [32] (by simp) (by simp) (by simp only [GTy.zero, Lib.join, List.intercalate, List.intersperse, List.flatten_cons, List.flatten_nil, List.cons_append, List.nil_append, List.length_append, List.length_cons, List.length_nil, List.append_nil]; omega)) rfl ⟨rfl, rfl⟩ rfl Tryd.func47 rfl rfl rfl rfl rfl rfl ?_
                          refine al_run tt_ok rfl (by first | rfl | (simp only [inB, inI64, fitB, GTy.zero, Bool.and_eq_true, Bool.or_eq_true, Bool.not_eq_true', Bool.and_true, Bool.true_and, Bool.or_true, Bool.true_or, decide_eq_true_eq, decide_eq_false_iff_not, true_and, and_true]; omega) | (simp [inB, inI64, fitB, GTy.zero]; omega) | (simp [inB, inI64, fitB, GTy.zero])) ?_
                          refine ax_ret ?_
                          refine ⟨_, Wk.sub (st' := ⟨[(2, _)], []⟩) (SubL.cons rfl SubL.nil) SubH.nil, _, _, rfl, rfl, ?_⟩
                          refine ⟨?_, rfl⟩
                          clear h1 h2 h3 h4 h5 hwl hdl
                          simp only [decide_eq_true_eq, decide_eq_false_iff_not] at *
                          simp [textT, hf, partsT, *]
                          done
                    ·
                      refine ax_skip ?_
                      refine ax_seq ?_
                      first | (exfalso; (simp only [decide_eq_true_eq, decide_eq_false_iff_not] at *; omega); done) | skip
                      all_goals
                        refine ax_weak (Wk.frz (id := 16) rfl) ?_
                        refine ax_region ?_
                        refine al_upto tt_ok rfl (by first | rfl | (simp only [inB, inI64, fitB, GTy.zero, Bool.and_eq_true, Bool.or_eq_true, Bool.not_eq_true', Bool.and_true, Bool.true_and, Bool.or_true, Bool.true_or, decide_eq_true_eq, decide_eq_false_iff_not, true_and, and_true]; omega) | (simp [inB, inI64, fitB, GTy.zero]; omega) | (simp [inB, inI64, fitB, GTy.zero])) ?_
                        refine al_callP (join_ok _ none [32] (by simp) (by simp) (by simp only [GTy.zero, Lib.join, List.intercalate, List.intersperse, List.flatten_cons, List.flatten_nil, List.cons_append, List.nil_append, List.length_append, List.length_cons, List.length_nil, List.append_nil]; omega)) rfl ⟨rfl, rfl⟩ rfl Tryd.func47 rfl rfl rfl rfl rfl rfl ?_
                        refine al_run tt_ok rfl (by first | rfl | (simp only [inB, inI64, fitB, GTy.zero, Bool.and_eq_true, Bool.or_eq_true, Bool.not_eq_true', Bool.and_true, Bool.true_and, Bool.or_true, Bool.true_or, decide_eq_true_eq, decide_eq_false_iff_not, true_and, and_true]; omega) | (simp [inB, inI64, fitB, GTy.zero]; omega) | (simp [inB, inI64, fitB, GTy.zero])) ?_
                        refine ax_ret ?_
                        refine ⟨_, Wk.sub (st' := ⟨[(2, _)], []⟩) (SubL.cons rfl SubL.nil) SubH.nil, _, _, rfl, rfl, ?_⟩
                        refine ⟨?_, rfl⟩
                        clear h1 h2 h3 h4 h5 hwl hdl
                        simp only [decide_eq_true_eq, decide_eq_false_iff_not] at *
                        simp [textT, hf, partsT, *]
                        done
            ·
              refine ax_region ?_
              refine al_run tt_ok rfl (by first | rfl | (simp only [inB, inI64, fitB, GTy.zero, Bool.and_eq_true, Bool.or_eq_true, Bool.not_eq_true', Bool.and_true, Bool.true_and, Bool.or_true, Bool.true_or, decide_eq_true_eq, decide_eq_false_iff_not, true_and, and_true]; omega) | (simp [inB, inI64, fitB, GTy.zero]; omega) | (simp [inB, inI64, fitB, GTy.zero])) ?_
              refine ax_cond rfl rfl (fun hc14 => ?_) (fun hc14 => ?_)
              ·
                first | (exfalso; (simp only [decide_eq_true_eq, decide_eq_false_iff_not] at *; omega); done) | skip
                all_goals
                  refine ax_draw [5, 6, 7, 8] (by kernel_rfl) rfl (N := 12) ?_
                  refine ad_run (fuel := 4) (ds' := ⟨#[true, true, true, true, true, true, true, false, true, false, false, false], true, true, true⟩) tt_ok [(0, 0), (1, 0), (2, 3), (3, 0), (4, 1), (5, 0), (6, 3), (8, 0)] (by kernel_rfl) rfl (by first | rfl | (simp only [inB, inI64, fitB, GTy.zero, Bool.and_eq_true, Bool.or_eq_true, Bool.not_eq_true', Bool.and_true, Bool.true_and, Bool.or_true, Bool.true_or, decide_eq_true_eq, decide_eq_false_iff_not, true_and, and_true]; omega) | (simp [inB, inI64, fitB, GTy.zero]; omega) | (simp [inB, inI64, fitB, GTy.zero])) ?_
                  refine ad_ready (by kernel_rfl) (ads_cons (i := 7) ?_ ads_nil)
                  refine ado_of rfl ?_
                  refine adx_call (i := 7) (listed' := #[true, true, true, true, true, true, true, true, true, false, false, false]) (pre' := true) [] (ntext_ok o.2.2.1.1 o.2.2.1.2 g3) rfl rfl rfl rfl ⟨rfl, rfl⟩ rfl Tryd.func46 rfl rfl rfl rfl rfl rfl PassH.nil ?_
                  rintro _ _ ⟨rfl, rfl⟩
                  refine ⟨_, _, rfl, rfl, ?_⟩
                  refine ad_run (fuel := 0) (ds' := ⟨#[true, true, true, true, true, true, true, true, true, true, true, true], false, false, false⟩) tt_ok [(9, 2), (10, 2), (11, 0)] (by kernel_rfl) rfl (by first | rfl | (simp only [inB, inI64, fitB, GTy.zero, Bool.and_eq_true, Bool.or_eq_true, Bool.not_eq_true', Bool.and_true, Bool.true_and, Bool.or_true, Bool.true_or, decide_eq_true_eq, decide_eq_false_iff_not, true_and, and_true]; omega) | (simp [inB, inI64, fitB, GTy.zero]; omega) | (simp [inB, inI64, fitB, GTy.zero])) ?_
                  refine ad_done (by kernel_rfl) ?_
                  refine ax_seq ?_
                  first | (exfalso; (simp only [decide_eq_true_eq, decide_eq_false_iff_not] at *; omega); done) | skip
                  all_goals
                    refine ax_weak (Wk.frz (id := 16) rfl) ?_
                    refine ax_region ?_
                    refine al_upto tt_ok rfl (by first | rfl | (simp only [inB, inI64, fitB, GTy.zero, Bool.and_eq_true, Bool.or_eq_true, Bool.not_eq_true', Bool.and_true, Bool.true_and, Bool.or_true, Bool.true_or, decide_eq_true_eq, decide_eq_false_iff_not, true_and, and_true]; omega) | (simp [inB, inI64, fitB, GTy.zero]; omega) | (simp [inB, inI64, fitB, GTy.zero])) ?_
                    refine al_callP (join_ok _ none [32] (by simp) (by simp) (by simp only [GTy.zero, Lib.join, List.intercalate, List.intersperse, List.flatten_cons, List.flatten_nil, List.cons_append, List.nil_append, List.length_append, List.length_cons, List.length_nil, List.append_nil]; omega)) rfl ⟨rfl, rfl⟩ rfl Tryd.func47 rfl rfl rfl rfl rfl rfl ?_
                    refine al_run tt_ok rfl (by first | rfl | (simp only [inB, inI64, fitB, GTy.zero, Bool.and_eq_true, Bool.or_eq_true, Bool.not_eq_true', Bool.and_true, Bool.true_and, Bool.or_true, Bool.true_or, decide_eq_true_eq, decide_eq_false_iff_not, true_and, and_true]; omega) | (simp [inB, inI64, fitB, GTy.zero]; omega) | (simp [inB, inI64, fitB, GTy.zero])) ?_
                    refine ax_ret ?_
                    refine ⟨_, Wk.sub (st' := ⟨[(2, _)], []⟩) (SubL.cons rfl SubL.nil) SubH.nil, _, _, rfl, rfl, ?_⟩
                    refine ⟨?_, rfl⟩
                    clear h1 h2 h3 h4 h5 hwl hdl
                    simp only [decide_eq_true_eq, decide_eq_false_iff_not] at *
                    simp [textT, hf, partsT, *]
                    done
              ·
                refine ax_seq ?_
                refine ax_seq ?_
                first | (exfalso; (simp only [decide_eq_true_eq, decide_eq_false_iff_not] at *; omega); done) | skip
                all_goals
                  refine ax_region ?_
                  refine al_run tt_ok rfl (by first | rfl | (simp only [inB, inI64, fitB, GTy.zero, Bool.and_eq_true, Bool.or_eq_true, Bool.not_eq_true', Bool.and_true, Bool.true_and, Bool.or_true, Bool.true_or, decide_eq_true_eq, decide_eq_false_iff_not, true_and, and_true]; omega) | (simp [inB, inI64, fitB, GTy.zero]; omega) | (simp [inB, inI64, fitB, GTy.zero])) ?_
                  refine ax_cond rfl rfl (fun hc16 => ?_) (fun hc16 => ?_)
                  ·
                    refine ax_skip ?_
                    refine ax_cond rfl rfl (fun hc16 => ?_) (fun hc16 => ?_)
                    ·
                      first | (exfalso; (simp only [decide_eq_true_eq, decide_eq_false_iff_not] at *; omega); done) | skip
                      all_goals
                        refine ax_region ?_
                        refine al_upto tt_ok rfl (by first | rfl | (simp only [inB, inI64, fitB, GTy.zero, Bool.and_eq_true, Bool.or_eq_true, Bool.not_eq_true', Bool.and_true, Bool.true_and, Bool.or_true, Bool.true_or, decide_eq_true_eq, decide_eq_false_iff_not, true_and, and_true]; omega) | (simp [inB, inI64, fitB, GTy.zero]; omega) | (simp [inB, inI64, fitB, GTy.zero])) ?_
                        refine al_callP (ntext_ok o.2.2.1.1 o.2.2.1.2 g3) rfl ⟨rfl, rfl⟩ rfl Tryd.func46 rfl rfl rfl rfl rfl rfl ?_
                        refine al_run tt_ok rfl (by first | rfl | (simp only [inB, inI64, fitB, GTy.zero, Bool.and_eq_true, Bool.or_eq_true, Bool.not_eq_true', Bool.and_true, Bool.true_and, Bool.or_true, Bool.true_or, decide_eq_true_eq, decide_eq_false_iff_not, true_and, and_true]; omega) | (simp [inB, inI64, fitB, GTy.zero]; omega) | (simp [inB, inI64, fitB, GTy.zero])) ?_
                        refine ax_seq ?_
                        first | (exfalso; (simp only [decide_eq_true_eq, decide_eq_false_iff_not] at *; omega); done) | skip
                        all_goals
                          refine ax_weak (Wk.frz (id := 16) rfl) ?_
                          refine ax_region ?_
                          refine al_upto tt_ok rfl (by first | rfl | (simp only [inB, inI64, fitB, GTy.zero, Bool.and_eq_true, Bool.or_eq_true, Bool.not_eq_true', Bool.and_true, Bool.true_and, Bool.or_true, Bool.true_or, decide_eq_true_eq, decide_eq_false_iff_not, true_and, and_true]; omega) | (simp [inB, inI64, fitB, GTy.zero]; omega) | (simp [inB, inI64, fitB, GTy.zero])) ?_
                          refine al_callP (join_ok _ none [32] (by simp) (by simp) (by simp only [GTy.zero, Lib.join, List.intercalate, List.intersperse, List.flatten_cons, List.flatten_nil, List.cons_append, List.nil_append, List.length_append, List.length_cons, List.length_nil, List.append_nil]; omega)) rfl ⟨rfl, rfl⟩ rfl Tryd.func47 rfl rfl rfl rfl rfl rfl ?_
                          refine al_run tt_ok rfl (by first | rfl | (simp only [inB, inI64, fitB, GTy.zero, Bool.and_eq_true, Bool.or_eq_true, Bool.not_eq_true', Bool.and_true, Bool.true_and, Bool.or_true, Bool.true_or, decide_eq_true_eq, decide_eq_false_iff_not, true_and, and_true]; omega) | (simp [inB, inI64, fitB, GTy.zero]; omega) | (simp [inB, inI64, fitB, GTy.zero])) ?_
                          refine ax_ret ?_
                          refine ⟨_, Wk.sub (st' := ⟨[(2, _)], []⟩) (SubL.cons rfl SubL.nil) SubH.nil, _, _, rfl, rfl, ?_⟩
                          refine ⟨?_, rfl⟩
                          clear h1 h2 h3 h4 h5 hwl hdl
                          simp only [decide_eq_true_eq, decide_eq_false_iff_not] at *
                          simp [textT, hf, partsT, *]
                          done
                    ·
                      refine ax_skip ?_
                      refine ax_seq ?_
                      first | (exfalso; (simp only [decide_eq_true_eq, decide_eq_false_iff_not] at *; omega); done) | skip
                      all_goals
                        refine ax_weak (Wk.frz (id := 16) rfl) ?_
                        refine ax_region ?_
                        refine al_upto tt_ok rfl (by first | rfl | (simp only [inB, inI64, fitB, GTy.zero, Bool.and_eq_true, Bool.or_eq_true, Bool.not_eq_true', Bool.and_true, Bool.true_and, Bool.or_true, Bool.true_or, decide_eq_true_eq, decide_eq_false_iff_not, true_and, and_true]; omega) | (simp [inB, inI64, fitB, GTy.zero]; omega) | (simp [inB, inI64, fitB, GTy.zero])) ?_
                        refine al_callP (join_ok _ none [32] (by simp) (by simp) (by simp only [GTy.zero, Lib.join, List.intercalate, List.intersperse, List.flatten_cons, List.flatten_nil, List.cons_append, List.nil_append, List.length_append, List.length_cons, List.length_nil, List.append_nil]; omega)) rfl ⟨rfl, rfl⟩ rfl Tryd.func47 rfl rfl rfl rfl rfl rfl ?_
                        refine al_run tt_ok rfl (by first | rfl | (simp only [inB, inI64, fitB, GTy.zero, Bool.and_eq_true, Bool.or_eq_true, Bool.not_eq_true', Bool.and_true, Bool.true_and, Bool.or_true, Bool.true_or, decide_eq_true_eq, decide_eq_false_iff_not, true_and, and_true]; omega) | (simp [inB, inI64, fitB, GTy.zero]; omega) | (simp [inB, inI64, fitB, GTy.zero])) ?_
                        refine ax_ret ?_
                        refine ⟨_, Wk.sub (st' := ⟨[(2, _)], []⟩) (SubL.cons rfl SubL.nil) SubH.nil, _, _, rfl, rfl, ?_⟩
                        refine ⟨?_, rfl⟩
                        clear h1 h2 h3 h4 h5 hwl hdl
                        simp only [decide_eq_true_eq, decide_eq_false_iff_not] at *
                        simp [textT, hf, partsT, *]
                        done
                  ·
                    refine ax_region ?_
                    refine al_run tt_ok rfl (by first | rfl | (simp only [inB, inI64, fitB, GTy.zero, Bool.and_eq_true, Bool.or_eq_true, Bool.not_eq_true', Bool.and_true, Bool.true_and, Bool.or_true, Bool.true_or, decide_eq_true_eq, decide_eq_false_iff_not, true_and, and_true]; omega) | (simp [inB, inI64, fitB, GTy.zero]; omega) | (simp [inB, inI64, fitB, GTy.zero])) ?_
                    refine ax_cond rfl rfl (fun hc17 => ?_) (fun hc17 => ?_)
                    ·
                      first | (exfalso; (simp only [decide_eq_true_eq, decide_eq_false_iff_not] at *; omega); done) | skip
                      all_goals
                        refine ax_region ?_
                        refine al_upto tt_ok rfl (by first | rfl | (simp only [inB, inI64, fitB, GTy.zero, Bool.and_eq_true, Bool.or_eq_true, Bool.not_eq_true', Bool.and_true, Bool.true_and, Bool.or_true, Bool.true_or, decide_eq_true_eq, decide_eq_false_iff_not, true_and, and_true]; omega) | (simp [inB, inI64, fitB, GTy.zero]; omega) | (simp [inB, inI64, fitB, GTy.zero])) ?_
                        refine al_callP (ntext_ok o.2.2.1.1 o.2.2.1.2 g3) rfl ⟨rfl, rfl⟩ rfl Tryd.func46 rfl rfl rfl rfl rfl rfl ?_
                        refine al_run tt_ok rfl (by first | rfl | (simp only [inB, inI64, fitB, GTy.zero, Bool.and_eq_true, Bool.or_eq_true, Bool.not_eq_true', Bool.and_true, Bool.true_and, Bool.or_true, Bool.true_or, decide_eq_true_eq, decide_eq_false_iff_not, true_and, and_true]; omega) | (simp [inB, inI64, fitB, GTy.zero]; omega) | (simp [inB, inI64, fitB, GTy.zero])) ?_
                        refine ax_seq ?_
                        first | (exfalso; (simp only [decide_eq_true_eq, decide_eq_false_iff_not] at *; omega); done) | skip
                        all_goals
                          refine ax_weak (Wk.frz (id := 16) rfl) ?_
                          refine ax_region ?_
                          refine al_upto tt_ok rfl (by first | rfl | (simp only [inB, inI64, fitB, GTy.zero, Bool.and_eq_true, Bool.or_eq_true, Bool.not_eq_true', Bool.and_true, Bool.true_and, Bool.or_true, Bool.true_or, decide_eq_true_eq, decide_eq_false_iff_not, true_and, and_true]; omega) | (simp [inB, inI64, fitB, GTy.zero]; omega) | (simp [inB, inI64, fitB, GTy.zero])) ?_
                          refine al_callP (join_ok _ none [32] (by simp) (by simp) (by simp only [GTy.zero, Lib.join, List.intercalate, List.intersperse, List.flatten_cons, List.flatten_nil, List.cons_append, List.nil_append, List.length_append, List.length_cons, List.length_nil, List.append_nil]; omega)) rfl ⟨rfl, rfl⟩ rfl Tryd.func47 rfl rfl rfl rfl rfl rfl ?_
                          refine al_run tt_ok rfl (by first | rfl | (simp only [inB, inI64, fitB, GTy.zero, Bool.and_eq_true, Bool.or_eq_true, Bool.not_eq_true', Bool.and_true, Bool.true_and, Bool.or_true, Bool.true_or, decide_eq_true_eq, decide_eq_false_iff_not, true_and, and_true]; omega) | (simp [inB, inI64, fitB, GTy.zero]; omega) | (simp [inB, inI64, fitB, GTy.zero])) ?_
                          refine ax_ret ?_
                          refine ⟨_, Wk.sub (st' := ⟨[(2, _)], []⟩) (SubL.cons rfl SubL.nil) SubH.nil, _, _, rfl, rfl, ?_⟩
                          refine ⟨?_, rfl⟩
                          clear h1 h2 h3 h4 h5 hwl hdl
                          simp only [decide_eq_true_eq, decide_eq_false_iff_not] at *
                          simp [textT, hf, partsT, *]
                          done
                    ·
                      refine ax_skip ?_
                      refine ax_seq ?_
                      first | (exfalso; (simp only [decide_eq_true_eq, decide_eq_false_iff_not] at *; omega); done) | skip
                      all_goals
                        refine ax_weak (Wk.frz (id := 16) rfl) ?_
                        refine ax_region ?_
                        refine al_upto tt_ok rfl (by first | rfl | (simp only [inB, inI64, fitB, GTy.zero, Bool.and_eq_true, Bool.or_eq_true, Bool.not_eq_true', Bool.and_true, Bool.true_and, Bool.or_true, Bool.true_or, decide_eq_true_eq, decide_eq_false_iff_not, true_and, and_true]; omega) | (simp [inB, inI64, fitB, GTy.zero]; omega) | (simp [inB, inI64, fitB, GTy.zero])) ?_
                        refine al_callP (join_ok _ none [32] (by simp) (by simp) (by simp only [GTy.zero, Lib.join, List.intercalate, List.intersperse, List.flatten_cons, List.flatten_nil, List.cons_append, List.nil_append, List.length_append, List.length_cons, List.length_nil, List.append_nil]; omega)) rfl ⟨rfl, rfl⟩ rfl Tryd.func47 rfl rfl rfl rfl rfl rfl ?_
                        refine al_run tt_ok rfl (by first | rfl | (simp only [inB, inI64, fitB, GTy.zero, Bool.and_eq_true, Bool.or_eq_true, Bool.not_eq_true', Bool.and_true, Bool.true_and, Bool.or_true, Bool.true_or, decide_eq_true_eq, decide_eq_false_iff_not, true_and, and_true]; omega) | (simp [inB, inI64, fitB, GTy.zero]; omega) | (simp [inB, inI64, fitB, GTy.zero])) ?_
                        refine ax_ret ?_
                        refine ⟨_, Wk.sub (st' := ⟨[(2, _)], []⟩) (SubL.cons rfl SubL.nil) SubH.nil, _, _, rfl, rfl, ?_⟩
                        refine ⟨?_, rfl⟩
                        clear h1 h2 h3 h4 h5 hwl hdl
                        simp only [decide_eq_true_eq, decide_eq_false_iff_not] at *
                        simp [textT, hf, partsT, *]
                        done
end Go.Proofs.YtcjpcmofajcadaaDoor

/- From a row's conditions to what the walks ask: arguments, package-level variables; back to the row. -/
namespace Go.Proofs.YtcjpcmofajcadaaDoor
open Go.ChangeShapes Go.WideShapes Go.ChangeAt Go.WideElems Go.RowKit
section
variable {H : Type} {enc : TypeId × Value → H} {P : Program} {W : World}
/-- Data of a type can be told from their reading. -/
def DecOk (enc : TypeId × Value → H) (P : Program) (W : World) (t : TypeId) (g : GTy) (R : g.D → Prop) : Prop :=
  ∀ k cs x, DataW.trod enc P W 0 (fun _ => true) true k t cs = some x → ∃ y : g.D, R y ∧ FR (fun b => b < W.heap.size) W g y cs
theorem dec_int {t : TypeId} {k : IntKind} (ht : P.underlying t = some (.int k)) : DecOk enc P W t (.int k) (fun (y : Int) => k.min ≤ y ∧ y ≤ k.max) := fun n cs x h => by
  obtain ⟨z, rfl, _, hw⟩ := DataW.trod_int ht h
  exact ⟨z, by simpa [Lit.wf] using hw, rfl⟩
theorem flat_sub {g : GTy} {R : g.D → Prop} : ∀ l : List { p : g.D × List Value // R p.1 ∧ FR (fun b => b < W.heap.size) W g p.1 p.2 }, Flat (FR (fun b => b < W.heap.size) W g) (l.map (·.1.1)) (l.flatMap (·.1.2))
  | [] => rfl
  | x :: l => ⟨x.1.2, l.flatMap (·.1.2), rfl, x.2.2, flat_sub l⟩
theorem cell_lt {b o : Nat} {v : Value} (h : W.cell? ⟨b, o, none⟩ = some v) : b < W.heap.size := by
  by_cases hb : b < W.heap.size
  · exact hb
  · simp [World.cell?, Array.getElem?_eq_none (by omega : W.heap.size ≤ b)] at h
/-- An argument that is a slice. -/
theorem open_sl {g : GTy} {R : g.D → Prop} (h0 : 0 < g.size) {t e : TypeId} {r : Reach} {b0 : Nat} {v : Value} {d : DataW H} {ps : List MemPlace} (ht : P.underlying t = some (.slice e)) (hc : P.cellsOf e = g.size) (hdec : DecOk enc P W e g R) (hval : Value.okWide P W r b0 t v) (hd : DataW.Trod enc P W 0 (fun _ => true) true t v d ps) :
    ∃ l : List g.D, (∀ x ∈ l, R x) ∧ ∀ env, SaR env (fun b => b < W.heap.size) W (.c (.lst g l none)) v := by
  obtain ⟨A, len, cap, l, rfl, hl, h1, h2, hr⟩ := open_list (α := { p : g.D × List Value // R p.1 ∧ FR (fun b => b < W.heap.size) W g p.1 p.2 }) (f := fun p => p.1.2) (fun x => x.2.2.length) h0 ht hc (fun k cs x h => by
    obtain ⟨y, hy, hf⟩ := hdec k cs x h
    exact ⟨⟨(y, cs), hy, hf⟩, rfl⟩) hval hd
  refine ⟨l.map (·.1.1), fun x hx => ?_, fun env => ?_⟩
  · obtain ⟨p, _, rfl⟩ := List.mem_map.1 hx
    exact p.2.1
  · refine ⟨A, cap, l.flatMap (·.1.2), by rw [List.length_map, hl], by rw [List.length_map, hl]; exact h1, h2, (fun _ h => by cases h), flat_sub l, by rw [List.length_map, hl]; exact hr, fun b p hm e => ?_⟩
    rw [List.length_map] at hm
    obtain ⟨b', p', e', hcell⟩ := hr.2 (by omega)
    rw [e] at e'
    cases e'
    cases hx : (l.flatMap (·.1.2))[0]? with
    | some u => exact cell_lt (hcell 0 u hx)
    | none =>
      exfalso
      have h3 := hr.1
      rw [List.getElem?_eq_none_iff] at hx
      have h4 : 0 < len * g.size := Nat.mul_pos (by omega) h0
      omega
/-- A table of strings. -/
theorem cells_of_strs {base : Nat} {sp : Nat → Bool} {held : Bool} {fuel : Nat} {t e : TypeId} {n : Nat} {cs : List Value} {zs : List (List UInt8)} {p : List MemPlace}
    (ht : P.underlying t = some (.array n e)) (he : P.underlying e = some .string) (hce : P.cellsOf e = 1) (hct : P.cellsOf t = n)
    (h : DataW.trod enc P W base sp held fuel t cs = some (.agg (zs.map fun z => .lit (.string z)), p)) : cs = zs.map strV := by
  obtain ⟨xs, m, _, hx, hlen, hxl, hel⟩ := DataW.trod_array ht h
  have hxs : xs.map (·.1) = zs.map fun z => (DataW.lit (.string z) : DataW H) := by
    have := congrArg Prod.fst hx
    simpa using this.symm
  have hzl : zs.length = n := by
    have := congrArg List.length hxs
    simp at this
    omega
  rw [hce] at hel
  apply List.ext_getElem?
  intro i
  by_cases hi : i < n
  · have h1 := hel i hi
    rw [List.getElem?_eq_getElem (by omega : i < xs.length)] at h1
    obtain ⟨s, hs, hxv, _⟩ := DataW.trod_string he h1
    have h2 : cs[i]? = some (.string s) := by
      have := congrArg (·[0]?) hs
      simpa [List.getElem?_take, List.getElem?_drop] using this
    have h3 : (xs.map (·.1))[i]? = some (DataW.lit (.string s.data.toList) : DataW H) := by
      rw [List.getElem?_map, List.getElem?_eq_getElem (by omega), hxv]
      rfl
    rw [hxs] at h3
    simp only [List.getElem?_map, Option.map_eq_some_iff, DataW.lit.injEq, Lit.string.injEq] at h3
    obtain ⟨z', hz', e2⟩ := h3
    rw [h2, List.getElem?_map, hz', Option.map_some, e2]
    rfl
  · rw [List.getElem?_eq_none (by omega), List.getElem?_eq_none (by simp; omega)]
theorem flat_of_ints {B : Nat → Prop} {k : IntKind} : ∀ l : List Int, Flat (FR B W (.int k)) l (l.map fun z => Value.int k z)
  | [] => rfl
  | x :: l => ⟨[.int k x], _, rfl, rfl, flat_of_ints l⟩
theorem flat_of_strs {B : Nat → Prop} : ∀ l : List (List UInt8), Flat (FR B W .str) l (l.map strV)
  | [] => rfl
  | x :: l => ⟨[strV x], _, rfl, rfl, flat_of_strs l⟩
/-- A variable whose cells are known. -/
theorem gr_of {n : String} {i : Nat} {g : GTy} {l : List g.D} {cs : Array Value} (hg : P.globalNamed n = some i) (hv : W.var? P n = some cs) (hf : Flat (FR (fun b => b < W.heap.size) W g) l cs.toList) : GR (fun b => b < W.heap.size) W i ⟨g, l⟩ := by
  unfold World.var? at hv
  rw [hg, Option.bind_some] at hv
  split at hv
  · rename_i cs' e fr hh
    cases hv
    have hlt : i < W.heap.size := (Array.getElem?_eq_some_iff.1 hh).1
    refine ⟨⟨i, 0, cs.toList, rfl, hlt, hf, fun j u hu => ?_⟩, cs, e, fr, hh, ?_⟩
    · simp only [Nat.zero_add, World.cell?, hh]
      simpa using hu
    · have := FR.flat_length hf
      simpa using this
  · cases hv
theorem glob_id {n : String} {g i : Nat} (h : P.globalNamed n = some g) (hk : P.globalNamed n = some i) : g = i := Option.some.inj (h.symm.trans hk)
theorem type_id {a : Option TypeId} {t u : TypeId} (h : a = some t) (hk : a = some u) : t = u := Option.some.inj (h.symm.trans hk)
end
/-- What a law's contract gives. -/
theorem AC.law {X : Cx} {f : FuncId} {args : List SA} {vs : List Value} {W : World} (h : AC X f args [] (fun sv h => sv = .c (.val (.bool true)) ∧ h = [])) (hg : GlobOk X (fun b => b < W.heap.size) W) (ha : SasR (fun _ => .no) (fun b => b < W.heap.size) W args vs) : Ret X.P f vs.toArray W (fun v w' => v = .bool true ∧ Below W.heap.size W w') := by
  refine (h (fun b => b < W.heap.size) W (fun _ => .no) vs [] W hg ha rfl (SH.start W)).mono ?_
  rintro v w' ⟨env', B', w0', H', sv, h', ⟨rfl, rfl⟩, h1, h2, h3, h4, h5, h6, h7⟩
  have hr : ∀ k, k < W.heap.size → Rest W [] k := fun k hk => ⟨hk, fun c hc => by cases hc⟩
  exact ⟨h4, h6.below.os.trans h3.os, h6.below.tape.trans h3.tape, h6.below.output.trans h3.output, Nat.le_trans h3.size h6.below.size, fun k hk => (h6.below.block k (.inl (hr k hk))).trans (h3.block k (hr k hk))⟩
theorem globs_ok {W : World} (h : laidMetH Tryd.prog Rows.shiftsErrorsRow.laid W) : GlobOk cx (fun b => b < W.heap.size) W := by
  rw [MakeChecks.laidMetH_plain _ _ _ (by kernel_rfl)] at h
  obtain ⟨ps, ⟨g0, t0, cs0, f0, p0, q0, hg0, ht0, hv0, hd0, ⟨g1, t1, cs1, f1, p1, q1, hg1, ht1, hv1, hd1, ⟨g2, t2, cs2, f2, p2, q2, hg2, ht2, hv2, hd2, ⟨g3, t3, cs3, f3, p3, q3, hg3, ht3, hv3, hd3, ⟨g4, t4, cs4, f4, p4, q4, hg4, ht4, hv4, hd4, _, _⟩, _⟩, _⟩, _⟩, _⟩, _, _⟩ := h
  have e2 := glob_id hg2 (by kernel_rfl : _ = some 2)
  have e3 := glob_id hg3 (by kernel_rfl : _ = some 0)
  have e4 := glob_id hg4 (by kernel_rfl : _ = some 1)
  subst e2 e3 e4
  have u2 := type_id ht2 (by kernel_rfl : _ = some 151)
  have u3 := type_id ht3 (by kernel_rfl : _ = some 96)
  have u4 := type_id ht4 (by kernel_rfl : _ = some 97)
  subst u2 u3 u4
  have c2 := Lib.cells_of_tab (zs := Lib.pow10Tab) (k := .u64) (n := 20) Tryd.underlying151 Tryd.underlying131 (by kernel_rfl) (by kernel_rfl) hd2
  have c3 := cells_of_strs (zs := wordsL) (n := 9) Tryd.underlying96 Tryd.underlying9 (by kernel_rfl) (by kernel_rfl) hd3
  have c4 := cells_of_strs (zs := dirsL) (n := 2) Tryd.underlying97 Tryd.underlying9 (by kernel_rfl) (by kernel_rfl) hd4
  intro i x hx
  have hi : i = 0 ∨ i = 1 ∨ i = 2 := by
    match i, hx with
    | 0, _ => exact .inl rfl
    | 1, _ => exact .inr (.inl rfl)
    | 2, _ => exact .inr (.inr rfl)
    | _ + 3, h => cases h
  rcases hi with rfl | rfl | rfl
  · cases hx
    exact gr_of hg3 hv3 (by rw [c3]; exact flat_of_strs _)
  · cases hx
    exact gr_of hg4 hv4 (by rw [c4]; exact flat_of_strs _)
  · cases hx
    exact gr_of hg2 hv2 (by rw [c2]; exact flat_of_ints _)
end Go.Proofs.YtcjpcmofajcadaaDoor

/- What the walks printed by tr.py need: models of functions in Option, and how a walk follows them. -/
namespace Go.Proofs.YtcjpcmofajcadaaDoor
open Go.RowKit
/-- A condition that must hold. -/
def gd {α : Type} (c : Bool) (k : Option α) : Option α := match c with
  | true => k
  | false => none
theorem gd_some {α : Type} {c : Bool} {k : Option α} {r : α} (h : gd c k = some r) : c = true ∧ k = some r := by
  cases c with
  | true => exact ⟨rfl, h⟩
  | false => cases h
theorem gd_t {α : Type} {c : Bool} {k : Option α} (h : c = true) : gd c k = k := by rw [h]; rfl
theorem bd {α β : Type} {x : Option α} {f : α → Option β} {r : β} (h : x.bind f = some r) : ∃ a, x = some a ∧ f a = some r := by
  cases x with
  | none => cases h
  | some a => exact ⟨a, rfl, h⟩
theorem cond_t {α : Type} {b : Bool} {x y z : α} (hb : b = true) (h : cond b x y = z) : x = z := by rw [hb] at h; exact h
theorem cond_f {α : Type} {b : Bool} {x y z : α} (hb : b = false) (h : cond b x y = z) : y = z := by rw [hb] at h; exact h
/-- What a loop gives: a state behind it, or a return. -/
abbrev sm {α β γ : Type} (x : α ⊕ β) (f : α → Option γ) (g : β → Option γ) : Option γ := match x with
  | .inl a => f a
  | .inr b => g b
def FUEL : Nat := 1000000000
def nocapH (id : Nat) : Hp → Hp
  | [] => []
  | (j, .row t g l c) :: r => match Nat.beq j id with
    | true => (j, .row t g l none) :: r
    | false => (j, .row t g l c) :: nocapH id r
  | b :: r => b :: nocapH id r
section
variable {X : Cx} {M : Bool} {n : Nat} {r : Option Nat} {c : Code} {st : ASt} {Q : Exit → ASt → Prop}
def cutQ (X : Cx) (n : Nat) {O : Type} (S : O → ASt) (P : O → Prop) (Q : Exit → ASt → Prop) : Exit → ASt → Prop
  | .normal, s => ∃ o, P o ∧ Wk X n s (S o)
  | e, s => Q e s
theorem ax_cutS {O : Type} (S : O → ASt) (P : O → Prop) (h1 : AX X M n r c st (cutQ X n S P Q)) (h2 : ∀ o, P o → Q .normal (S o)) : AX X M n r c st Q := fun R W Bi a w hA => wpIn_mono (h1 R W Bi a w hA) fun e a w ⟨s, hq, hA'⟩ => by
  cases e with
  | normal =>
    obtain ⟨o, hp, hw⟩ := hq
    exact ⟨S o, h2 o hp, hw _ _ _ _ _ _ hA'⟩
  | _ => exact ⟨s, hq, hA'⟩
/-- What is known of a slot may be told in other words. -/
theorem Wk.conv {s : Nat} {sv : SV} (sv' : SV) (hs : lk st.L s = some sv) (hV : ∀ env B w v, VR env B w sv v → VR env B w sv' v) : Wk X n st ⟨(s, sv') :: st.L, st.H⟩ := fun R W Bi M a w ⟨ks, env, B, w0, H, hM, h⟩ =>
  ⟨ks, env, B, w0, H, hM, h.size, h.defs, fun q u hu => by
    rw [lk_cons] at hu
    split at hu
    · rename_i e
      subst e
      cases hu
      obtain ⟨v, h1, h2⟩ := h.has _ _ hs
      exact ⟨v, h1, hV _ _ _ _ h2⟩
    · exact h.has q u hu, h.heap, h.sh, h.sub, h.new, h.pin, h.base, h.glob⟩
/-- A nil slice is an empty list. -/
theorem Wk.lst0 (s : Nat) (g : GTy) (hs : lk st.L s = some (.c (.val (.slice none 0 0)))) : Wk X n st ⟨(s, .c (.lst g [] (some 0))) :: st.L, st.H⟩ := Wk.conv _ hs fun env B w _ h => nil_lst (env := env) (B := B) (w := w) h
/-- What is known of a list's room may be forgotten. -/
theorem Wk.nocap (s : Nat) {g : GTy} {l : List g.D} {k : Option Nat} (hs : lk st.L s = some (.c (.lst g l k))) : Wk X n st ⟨(s, .c (.lst g l none)) :: st.L, st.H⟩ := Wk.conv _ hs fun _ _ _ _ h => by
  obtain ⟨A, c, xs, h1, h2, h3, _, h5, h6⟩ := h
  exact ⟨A, c, xs, h1, h2, h3, fun _ h => (by cases h), h5, h6⟩
theorem HR.nocap {env : Nat → Loc} {B : Nat → Prop} {w : World} (id : Nat) : ∀ {l : Hp} {H : List Ck}, HR env B w l H → HR env B w (nocapH id l) H
  | [], _, h => h
  | (j, .row t g l c) :: r, _, ⟨k, H', e, h1, h2⟩ => by
    unfold nocapH
    split
    · obtain ⟨A, q, xs, h3, h4, h5, h6⟩ := h1
      exact ⟨k, H', e, ⟨A, q, xs, h3, h4, h5, fun _ h => by cases h⟩, h2⟩
    · exact ⟨k, H', e, h1, HR.nocap id h2⟩
  | (j, .cells _ _) :: r, _, ⟨k, H', e, h1, h2⟩ => ⟨k, H', e, h1, HR.nocap id h2⟩
  | (j, .sit _ _) :: r, _, ⟨k, H', e, h1, h2⟩ => ⟨k, H', e, h1, HR.nocap id h2⟩
  | (j, .mp _ _ _ _) :: r, _, ⟨k, H', e, h1, h2⟩ => ⟨k, H', e, h1, HR.nocap id h2⟩
  | (j, .it _ _ _ _) :: r, _, ⟨k, H', e, h1, h2⟩ => ⟨k, H', e, h1, HR.nocap id h2⟩
  | (j, .junk) :: r, _, ⟨k, H', e, h1, h2⟩ => ⟨k, H', e, h1, HR.nocap id h2⟩
  | (j, .hrow _ _ _ _ _ _) :: r, _, ⟨k, H', e, h1, h2⟩ => ⟨k, H', e, h1, HR.nocap id h2⟩
  | (j, .rjunk) :: r, _, ⟨k, H', e, h1, h2⟩ => ⟨k, H', e, h1, HR.nocap id h2⟩
/-- What is known of a row's room may be forgotten. -/
theorem Wk.rowcap (id : Nat) {st' : ASt} (h : st' = ⟨st.L, nocapH id st.H⟩) : Wk X n st st' := fun R W Bi M a w ⟨ks, env, B, w0, H, hM, hA⟩ => by
  subst h
  exact ⟨ks, env, B, w0, H, hM, hA.size, hA.defs, hA.has, HR.nocap id hA.heap, hA.sh, hA.sub, hA.new, hA.pin, hA.base, hA.glob⟩
end
/-- Arguments that are nil. -/
inductive NilA : List SA → List SA → Prop where
  | nil : NilA [] []
  | same {x : SA} {r r' : List SA} (h : NilA r r') : NilA (x :: r) (x :: r')
  | nl {g : GTy} {r r' : List SA} (h : NilA r r') : NilA (.c (.val (.slice none 0 0)) :: r) (.c (.lst g [] (some 0)) :: r')
theorem NilA.sas {env : Nat → Loc} {B : Nat → Prop} {w : World} : ∀ {xs ys : List SA} {vs : List Value}, NilA xs ys → SasR env B w xs vs → SasR env B w ys vs
  | _, _, _, .nil, h => h
  | _, _, _, .same h, ⟨v, r, e, h1, h2⟩ => ⟨v, r, e, h1, h.sas h2⟩
  | _, _, _, .nl h, ⟨v, r, e, h1, h2⟩ => ⟨v, r, e, nil_lst h1, h.sas h2⟩
theorem AC.nils {X : Cx} {f : FuncId} {args args' : List SA} {h0 : Hp} {Q : SV → Hp → Prop} (hn : NilA args' args) (h : AC X f args h0 Q) : AC X f args' h0 Q := AC.args (fun _ _ _ _ hs => hn.sas hs) h
theorem AC.forgetV {X : Cx} {f : FuncId} {args : List SA} {h0 : Hp} {V : SV} (h : AC X f args h0 (fun sv _ => sv = V)) : AC X f args h0 (fun sv h => sv = V ∧ h = []) := by
  intro B w0 env vs H W hg ha hh hs
  refine (h B w0 env vs H W hg ha hh hs).mono ?_
  rintro v w' ⟨env', B', w0', H', s, h', hQ, h1, h2, h3, h4, h5, h6, h7⟩
  exact ⟨env', B', w0', [], s, [], ⟨hQ, rfl⟩, h1, h2, h3, h4, rfl, h6.weak (List.nil_sublist _), h7⟩
theorem ob : (∀ b, (b && true) = b) ∧ (∀ b, (true && b) = b) ∧ (∀ b, (b || true) = true) ∧ (∀ b, (true || b) = true) ∧ (!true) = false ∧ (!false) = true ∧ (∀ b, (b || false) = b) ∧ (∀ b, (false || b) = b) ∧ (∀ b, (b && b) = b) ∧ (∀ b : Bool, (!b || b) = true) ∧ (∀ b, (b || b) = b) := by decide
theorem ob2 : (∀ b, (b && true) = b) ∧ (∀ b, (true && b) = b) ∧ (∀ b, (b && false) = false) ∧ (∀ b, (false && b) = false) ∧ (!true) = false ∧ (!false) = true ∧ ((false = true) = False) ∧ ((true = false) = False) := by
  refine ⟨by decide, by decide, by decide, by decide, rfl, rfl, by simp, by simp⟩
theorem CsR.data {env : Nat → Loc} {B : Nat → Prop} {w : World} {g : GTy} {cs cs' : List SC} {x : g.D} {c : Bool} {vs : List Value} (h1 : CsR env B w cs vs) (hd : dec g cs = some (c, x, [])) (hc : c = true) (hg : gcells g x 0 g.size = some cs') : CsR env B w cs' vs := by
  obtain ⟨v1, v2, e2, hf, h2⟩ := dec_ok h1 hd hc
  have h4 : v2 = [] := h2
  subst h4
  rw [List.append_nil] at e2
  subst e2
  obtain ⟨us, ⟨hl, hp⟩, h3⟩ := FR.cells hf hg
  have hvl := FR.length hf
  have hus : us = vs := by
    apply List.ext_getElem?
    intro j
    cases hj : us[j]? with
    | some u =>
      have := hp j u hj
      rw [Nat.zero_add] at this
      exact this.symm
    | none =>
      rw [List.getElem?_eq_none_iff] at hj
      exact (List.getElem?_eq_none_iff.2 (by omega)).symm
  subst hus
  exact h3
/-- A struct's cells, told by the data that they hold. -/
theorem Wk.data {X : Cx} {n : Nat} {st : ASt} (s : Nat) (g : GTy) {cs cs' : List SC} {x : g.D} {c : Bool} (hs : lk st.L s = some (.a (.agg cs))) (hd : dec g cs = some (c, x, [])) (hc : c = true) (hg : gcells g x 0 g.size = some cs') : Wk X n st ⟨(s, .a (.agg cs')) :: st.L, st.H⟩ := Wk.conv _ hs fun env B w v ⟨vs, e, h1⟩ => ⟨vs, e, h1.data hd hc hg⟩
theorem Wk.dataB {X : Cx} {n : Nat} {st : ASt} (id : Nat) (g : GTy) {t : TypeId} {cs cs' : List SC} {x : g.D} {c : Bool} (hs : lk st.H id = some (.cells t cs)) (hd : dec g cs = some (c, x, [])) (hc : c = true) (hg : gcells g x 0 g.size = some cs') : Wk X n st ⟨st.L, putH id (.cells t cs') st.H⟩ := fun R W Bi M a w ⟨ks, env, B, w0, H, hM, h⟩ => by
  obtain ⟨ck, K, ⟨b, vs, he, e, hcs⟩, ⟨Y, Z, h1, h2⟩, h3⟩ := h.setBlk (b' := .cells t cs') hs
  obtain ⟨H', h4⟩ := h3 ck a w ⟨b, vs, he, e, hcs.data hd hc hg⟩ (by rw [h2]; dsimp only; rw [← h1]; exact h.sh) h.stt
  exact ⟨ks, env, B, w0, H', hM, h4⟩
end Go.Proofs.YtcjpcmofajcadaaDoor

/- What the rows of laws need beyond L1. -/
namespace Go.Proofs.YtcjpcmofajcadaaDoor
open Go.ChangeShapes Go.WideShapes Go.ChangeAt Go.WideElems Go.RowKit
theorem Tryd.own : ownKnob Tryd.prog.godebug = none := by kernel_rfl
theorem Tryd.laidOut : laidOutB Tryd.prog = true := by kernel_rfl
theorem wf_range {k : IntKind} {n : Int} (h : (Lit.int k n).wf = true) : k.min ≤ n ∧ n ≤ k.max := by simpa [Lit.wf] using h
end Go.Proofs.YtcjpcmofajcadaaDoor

/- An argument that is a struct of an int and a slice. -/
namespace Go.Proofs.YtcjpcmofajcadaaDoor
open Go.ChangeShapes Go.WideShapes Go.ChangeAt Go.WideElems Go.RowKit Go.Joins Go.Deep
section
variable {H : Type} {enc : TypeId × Value → H} {P : Program} {W : World}
theorem open_st_is {g : GTy} {R : g.D → Prop} (h0 : 0 < g.size) {t e t1 : TypeId} {f0 f1 : Field} {k : IntKind} {r : Reach} {b0 : Nat} {v : Value} {d : DataW H} {ps : List MemPlace}
    (hs : P.underlying t = some (.struct #[f0, f1])) (hone : oneCellFields P #[f0, f1] = true) (hC : P.cellsOf t = 2) (hct : P.cellTypes P.depth t = some [f0.type, t1]) (h1 : f1.type = t1)
    (ht0 : P.underlying f0.type = some (.int k)) (ht1 : P.underlying t1 = some (.slice e)) (hc : P.cellsOf e = g.size) (hdec : DecOk enc P W e g R)
    (hval : Value.okWide P W r b0 t v) (hd : DataW.Trod enc P W 0 (fun _ => true) true t v d ps) :
    ∃ (n : Int) (l : List g.D), (k.min ≤ n ∧ n ≤ k.max) ∧ (∀ x ∈ l, R x) ∧ ∀ env, SaR env (fun b => b < W.heap.size) W (.agg [.val (.int k n), .lst g l none]) v := by
  subst h1
  have hv := hval
  simp only [Value.okWide, hs] at hv
  obtain ⟨cs, rfl, hsz, ts, hts, _, hcell⟩ := hv
  rw [hct] at hts
  cases hts
  obtain ⟨v0, v1, y0, y1, n, e1, _, _, t0, t1⟩ := Go.Joins.open_agg2 hs hone hC hval hd
  cases e1
  obtain ⟨z, hz, _, hw⟩ := DataW.trod_int ht0 t0
  simp only [List.cons.injEq, and_true] at hz
  subst hz
  obtain ⟨u, hu, hok⟩ := hcell 1 v1 rfl
  have hu2 : f1.type = u := by simpa using hu
  subst hu2
  obtain ⟨a, l', c, e2⟩ := Go.Joins.slice_form ht1 t1
  simp only [List.cons.injEq, and_true] at e2
  subst e2
  obtain ⟨l, hl, hsa⟩ := open_sl h0 ht1 hc hdec (r := r) (b0 := b0) (v := .slice a l' c) (by simp only [Value.okWide, ht1]; exact hok) ⟨n, t1⟩
  exact ⟨z, l, wf_range hw, hl, fun env => ⟨[.int k z, .slice a l' c], rfl, _, _, rfl, rfl, _, _, rfl, hsa env, rfl⟩⟩
end
end Go.Proofs.YtcjpcmofajcadaaDoor

/- Models of the functions of edges, printed by tr.py. -/
namespace Go.Proofs.YtcjpcmofajcadaaDoor
set_option linter.unusedSimpArgs false
set_option linter.unusedVariables false
open Go.RowKit
def m_check_L2 (a0 : (List Int)) : Nat → Int → Option ((Unit) ⊕ (Int))
  | 0, _ => none
  | n + 1, v2_0 =>
    cond (decide (v2_0 < (a0.length : Int))) (gd ((inB v2_0 a0.length)) <|
    gd ((!((!(cond (decide ((a0.getD v2_0.toNat 0) < (1 : Int))) true (decide ((40 : Int) < (a0.getD v2_0.toNat 0))))) && (decide ((0 : Int) < v2_0))) || (inI64 (v2_0 - (1 : Int)))) && (!((!(cond (decide ((a0.getD v2_0.toNat 0) < (1 : Int))) true (decide ((40 : Int) < (a0.getD v2_0.toNat 0))))) && (decide ((0 : Int) < v2_0))) || (inB (v2_0 - (1 : Int)) a0.length))) <|
    cond (cond (cond (decide ((a0.getD v2_0.toNat 0) < (1 : Int))) true (decide ((40 : Int) < (a0.getD v2_0.toNat 0)))) true (cond (decide ((0 : Int) < v2_0)) (decide ((a0.getD v2_0.toNat 0) ≤ (a0.getD (v2_0 - (1 : Int)).toNat 0))) false)) (some (.inr (1 : Int))) (gd ((inI64 (v2_0 + (1 : Int)))) <|
    m_check_L2 a0 n (v2_0 + (1 : Int)))) (some (.inl ()))
def m_check (a0 : (List Int)) : Option (Int) :=
    Option.bind (m_check_L2 a0 FUEL (0 : Int)) fun o1 =>
    sm o1 (fun o1 =>
    some (0 : Int)) (fun q => some q)
set_option maxRecDepth 20000 in
set_option maxHeartbeats 4000000 in
theorem w_check (a0 : (List Int)) (c0 : Option Nat) (r : (Int)) (h : m_check a0 = some r) : AC cx 17 [.c (.lst (.int .i64) a0 c0)] [] (fun sv h => sv = .a (.c (.val (.int .i64 r))) ∧ h = []) := by
  unfold m_check at h
  refine ac_body tt_ok Tryd.func17 rfl Tryd.ntmps17 rfl rfl (res := [.tmp 2]) rfl ?_
  refine ax_seq ?_
  refine ax_region ?_
  refine al_run tt_ok rfl rfl ?_
  refine ax_seq ?_
  refine ax_seq ?_
  refine ax_region ?_
  refine al_run tt_ok rfl rfl ?_
  obtain ⟨o1, ho1, hk1⟩ := bd h
  refine ax_cutS (fun o1 : Unit => ⟨[], []⟩) (fun o' => Sum.inl o' = o1) ?_ ?_
  ·
   have h := ho1
   refine ax_block ?_
   refine ax_weak (st' := ⟨[(7, _), (0, _), (5, _), (6, _)], []⟩) (Wk.sub (SubL.cons rfl (SubL.cons rfl (SubL.cons rfl (SubL.cons rfl SubL.nil)))) SubH.nil) ?_
   refine ax_loopL (fun y : Nat × Int => [(7, .a (.c (.val (.int .i64 y.2))))]) (fun y : Nat × Int => []) (fun y : Nat × Int => m_check_L2 a0 y.1 y.2 = some o1) (fun y : Nat × Int => y.1) (FUEL, (0 : Int)) h ?_
   rintro ⟨n, v2_0⟩ h
   replace h : m_check_L2 a0 n v2_0 = some o1 := h
   rcases n with _ | n
   · cases (show (none : Option _) = some _ from h)
   rw [m_check_L2] at h
   try dsimp only
   refine ax_seq ?_
   refine ax_region ?_
   refine al_run tt_ok rfl rfl ?_
   refine ax_seq ?_
   refine ax_cond rfl rfl (fun hc => ?_) (fun hc => ?_)
   ·
    replace h := cond_t hc h
    refine ax_skip ?_
    refine ax_seq ?_
    refine ax_block ?_
    refine ax_seq ?_
    obtain ⟨hG5, h⟩ := gd_some h
    refine ax_region ?_
    refine al_run tt_ok rfl (by first | (simp only [hG5, ob, decide_true, cond_true, cond_false]; done) | (simp_all; done) | (simp only [hG5, ob, decide_true, cond_true, cond_false]; rfl)) ?_
    refine ax_seq ?_
    obtain ⟨hG4, h⟩ := gd_some h
    simp only [Bool.and_eq_true] at hG4
    obtain ⟨hG4_0, hG4_1⟩ := hG4
    refine ax_region ?_
    refine al_run tt_ok rfl (by first | (revert hG4_0 hG4_1; generalize (decide ((40 : Int) < (a0.getD v2_0.toNat 0))) = b0; generalize (decide ((a0.getD v2_0.toNat 0) < (1 : Int))) = b1; generalize (inB (v2_0 - (1 : Int)) a0.length) = b2; generalize (decide ((0 : Int) < v2_0)) = b3; generalize (inI64 (v2_0 - (1 : Int))) = b4; revert b0 b1 b2 b3 b4; decide) | (simp only [hG4_0, hG4_1, ob, decide_true, cond_true, cond_false]; done) | (simp_all; done) | (simp only [hG4_0, hG4_1, ob, decide_true, cond_true, cond_false]; rfl)) ?_
    refine ax_cond rfl rfl (fun hc => ?_) (fun hc => ?_)
    ·
     replace h := cond_t hc h
     refine ax_seq ?_
     refine ax_region ?_
     refine al_run tt_ok rfl rfl ?_
     refine ax_ret ?_
     obtain rfl := Option.some.inj h
     have h := hk1
     dsimp only [sm] at h
     obtain rfl := Option.some.inj h
     refine ⟨_, (Wk.sub (st' := ⟨[(2, _)], []⟩) (SubL.cons rfl SubL.nil) SubH.nil), _, _, rfl, rfl, ?_⟩
     exact ⟨rfl, rfl⟩
    ·
     replace h := cond_f hc h
     refine ax_skip ?_
     obtain ⟨hG3, h⟩ := gd_some h
     refine ax_region ?_
     refine al_run tt_ok rfl (by first | (simp only [hG3, ob, decide_true, cond_true, cond_false]; done) | (simp_all; done) | (simp only [hG3, ob, decide_true, cond_true, cond_false]; rfl)) ?_
     refine ⟨(n, _), h, Nat.lt_succ_self _, (Wk.sub (SubL.cons rfl (SubL.cons rfl (SubL.cons rfl (SubL.cons rfl SubL.nil)))) SubH.nil)⟩
   ·
    replace h := cond_f hc h
    refine ax_exit ?_
    exact ⟨_, Option.some.inj h, (Wk.sub SubL.nil SubH.nil)⟩
  ·
   rintro o1 rfl
   have h := hk1
   dsimp only [sm] at h
   refine ax_seq ?_
   refine ax_region ?_
   refine al_run tt_ok rfl rfl ?_
   refine ax_ret ?_
   obtain rfl := Option.some.inj h
   refine ⟨_, (Wk.sub (st' := ⟨[(2, _)], []⟩) (SubL.cons rfl SubL.nil) SubH.nil), _, _, rfl, rfl, ?_⟩
   exact ⟨rfl, rfl⟩
def m_echeck (a0 : Int) (a1 : (List Int)) : Option (Int) :=
    Option.bind (cond (cond (decide (a0 < (1 : Int))) true (decide ((6 : Int) < a0))) (some default) (m_check a1)) fun r1 =>
    cond (cond (cond (cond (decide (a0 < (1 : Int))) true (decide ((6 : Int) < a0))) true (!(decide (r1 = (0 : Int))))) true (decide ((a1.length : Int) = (0 : Int)))) (some (1 : Int)) (some (0 : Int))
set_option maxRecDepth 20000 in
set_option maxHeartbeats 4000000 in
theorem w_echeck (a0 : Int) (a1 : (List Int)) (c0 : Option Nat) (r : (Int)) (h : m_echeck a0 a1 = some r) : AC cx 41 [.c (.val (.int .u8 a0)), .c (.lst (.int .i64) a1 c0)] [] (fun sv h => sv = .a (.c (.val (.int .i64 r))) ∧ h = []) := by
  unfold m_echeck at h
  refine ac_body tt_ok Tryd.func41 rfl Tryd.ntmps41 rfl rfl (res := [.tmp 4]) rfl ?_
  refine ax_seq ?_
  refine ax_region ?_
  refine al_run tt_ok rfl rfl ?_
  refine ax_seq ?_
  refine ax_seq ?_
  obtain ⟨r1, hr1, h⟩ := bd h
  refine ax_region ?_
  refine al_upto tt_ok rfl (by first | (generalize (decide (a0 < (1 : Int))) = b0; generalize (decide ((6 : Int) < a0)) = b1; generalize (decide (r1 = (0 : Int))) = b2; revert b0 b1 b2; decide) | (simp only [ob, decide_true, cond_true, cond_false]; done) | (simp_all; done) | (simp only [ob, decide_true, cond_true, cond_false]; rfl)) ?_
  refine al_guard (.c (.val (.int .i64 r1))) rfl rfl rfl rfl rfl (fun hq2 => ?_) (fun hq2 => ?_)
  ·
   replace hr1 := cond_f hq2 hr1
   try simp only [ob2, cond_true, cond_false] at hq2
   all_goals
    refine al_callP (w_check _ c0 r1 hr1) rfl ⟨rfl, rfl⟩ rfl Tryd.func17 rfl rfl rfl (by first | (simp only [hq2, ob, decide_true, cond_true, cond_false]; done) | (revert hq2; generalize (decide (a0 < (1 : Int))) = b0; generalize (decide ((6 : Int) < a0)) = b1; generalize (decide (r1 = (0 : Int))) = b2; revert b0 b1 b2; decide) | (simp_all; done) | (simp only [hq2, ob, decide_true, cond_true, cond_false]; rfl)) rfl rfl ?_
    refine al_run tt_ok rfl (by first | (simp only [hq2, ob, decide_true, cond_true, cond_false]; done) | (revert hq2; generalize (decide (a0 < (1 : Int))) = b0; generalize (decide ((6 : Int) < a0)) = b1; generalize (decide (r1 = (0 : Int))) = b2; revert b0 b1 b2; decide) | (simp_all; done) | (simp only [hq2, ob, decide_true, cond_true, cond_false]; rfl)) ?_
    refine ax_cond rfl rfl (fun hc => ?_) (fun hc => ?_)
    ·
     replace h := cond_t hc h
     refine ax_seq ?_
     refine ax_region ?_
     refine al_run tt_ok rfl rfl ?_
     refine ax_ret ?_
     obtain rfl := Option.some.inj h
     refine ⟨_, (Wk.sub (st' := ⟨[(4, _)], []⟩) (SubL.cons rfl SubL.nil) SubH.nil), _, _, rfl, rfl, ?_⟩
     exact ⟨rfl, rfl⟩
    ·
     replace h := cond_f hc h
     refine ax_skip ?_
     refine ax_seq ?_
     refine ax_region ?_
     refine al_run tt_ok rfl rfl ?_
     refine ax_ret ?_
     obtain rfl := Option.some.inj h
     refine ⟨_, (Wk.sub (st' := ⟨[(4, _)], []⟩) (SubL.cons rfl SubL.nil) SubH.nil), _, _, rfl, rfl, ?_⟩
     exact ⟨rfl, rfl⟩
  ·
   try simp only [ob2, cond_true, cond_false] at hq2
   all_goals
    refine al_run tt_ok rfl (by first | (simp only [hq2, ob, decide_true, cond_true, cond_false]; done) | (revert hq2; generalize (decide (a0 < (1 : Int))) = b0; generalize (decide ((6 : Int) < a0)) = b1; generalize (decide (r1 = (0 : Int))) = b2; revert b0 b1 b2; decide) | (simp_all; done) | (simp only [hq2, ob, decide_true, cond_true, cond_false]; rfl)) ?_
    refine ax_cond rfl rfl (fun hc => ?_) (fun hc => ?_)
    ·
     replace h := cond_t hc h
     refine ax_seq ?_
     refine ax_region ?_
     refine al_run tt_ok rfl rfl ?_
     refine ax_ret ?_
     obtain rfl := Option.some.inj h
     refine ⟨_, (Wk.sub (st' := ⟨[(4, _)], []⟩) (SubL.cons rfl SubL.nil) SubH.nil), _, _, rfl, rfl, ?_⟩
     exact ⟨rfl, rfl⟩
    ·
     replace h := cond_f hc h
     refine ax_skip ?_
     refine ax_seq ?_
     refine ax_region ?_
     refine al_run tt_ok rfl rfl ?_
     refine ax_ret ?_
     obtain rfl := Option.some.inj h
     refine ⟨_, (Wk.sub (st' := ⟨[(4, _)], []⟩) (SubL.cons rfl SubL.nil) SubH.nil), _, _, rfl, rfl, ?_⟩
     exact ⟨rfl, rfl⟩
def m_past (a0 : Int) (a1 : Int) (a2 : Int) : Option (OpT) :=
    some (a0, ((1 : Int), (((0 : Int), a1), (a2, (0 : Int)))))
set_option maxRecDepth 20000 in
set_option maxHeartbeats 4000000 in
theorem w_past (a0 : Int) (a1 : Int) (a2 : Int) (r : (OpT)) (h : m_past a0 a1 a2 = some r) : AC cx 42 [.c (.val (.int .u8 a0)), .c (.val (.int .i64 a1)), .c (.pel (.int .u8) a2 0)] [] (fun sv h => sv = .a (.agg [.val (.int .u8 r.1), .val (.int .u8 r.2.1), .val (.int .u8 r.2.2.1.1), .val (.int .i64 r.2.2.1.2), .val (.int .u8 r.2.2.2.1), .val (.int .i64 r.2.2.2.2)]) ∧ h = []) := by
  apply AC.forgetV
  unfold m_past at h
  refine ac_body tt_ok Tryd.func42 rfl Tryd.ntmps42 rfl rfl (res := [.cell 5 55]) rfl ?_
  refine ax_seq ?_
  refine ax_region ?_
  refine al_run tt_ok rfl rfl ?_
  refine ax_seq ?_
  refine ax_region ?_
  refine al_run tt_ok rfl rfl ?_
  refine ax_ret ?_
  obtain rfl := Option.some.inj h
  refine ⟨_, (Wk.sub (st' := ⟨[(5, _)], [(5, _)]⟩) (SubL.cons rfl SubL.nil) (SubH.cons rfl rfl SubH.nil)), _, _, rfl, rfl, ?_⟩
  exact rfl
def m_caston_L3 (a0 : Int) (a1 : (List Int)) : Nat → Int → (List OpT) → Option ((List OpT))
  | 0, _, _ => none
  | n + 1, v3_0, v3_1 =>
    cond (decide (v3_0 < (a1.length : Int))) (gd ((inB v3_0 a1.length)) <|
    Option.bind (m_past (4 : Int) (a1.getD v3_0.toNat 0) a0) fun r4 =>
    gd ((fitB 40 (v3_1.length + [r4].length))) <|
    gd ((inI64 (v3_0 + (1 : Int)))) <|
    m_caston_L3 a0 a1 n (v3_0 + (1 : Int)) (v3_1 ++ [r4])) (some v3_1)
def m_caston (a0 : Int) (a1 : (List Int)) : Option ((List OpT) × Int) :=
    Option.bind (m_echeck a0 a1) fun r1 =>
    cond (!(decide (r1 = (0 : Int)))) (some (([] : List OpT), r1)) (gd ((inI64 ((a1.length : Int) - (1 : Int))) && (inB ((a1.length : Int) - (1 : Int)) a1.length)) <|
    cond (decide ((a1.getD ((a1.length : Int) - (1 : Int)).toNat 0) = (40 : Int))) (some (([] : List OpT), (15 : Int))) (gd ((inI64 ((a1.length : Int) + (2 : Int))) && (decide ((0 : Int) ≤ ((a1.length : Int) + (2 : Int)))) && (decide ((40 : Int) * ((a1.length : Int) + (2 : Int)) ≤ 140737488355328)) && (decide (((a1.length : Int) + (2 : Int)) ≤ 140737488355328))) <|
    gd ((fitB 40 (([] : List OpT).length + [((1 : Int), ((0 : Int), (((0 : Int), (0 : Int)), (a0, (0 : Int)))))].length))) <|
    Option.bind (m_caston_L3 a0 a1 FUEL (0 : Int) (([] : List OpT) ++ [((1 : Int), ((0 : Int), (((0 : Int), (0 : Int)), (a0, (0 : Int)))))])) fun o2 =>
    Option.bind (m_past (6 : Int) (40 : Int) a0) fun r8 =>
    gd ((fitB 40 (o2.length + [r8].length))) <|
    some ((o2 ++ [r8]), (0 : Int))))
set_option maxRecDepth 20000 in
set_option maxHeartbeats 4000000 in
theorem w_caston (a0 : Int) (a1 : (List Int)) (c0 : Option Nat) (r : ((List OpT) × Int)) (h : m_caston a0 a1 = some r) : AC cx 20 [.c (.val (.int .u8 a0)), .c (.lst (.int .i64) a1 c0)] [] (fun sv h => sv = .tup [.c (.lst gOp r.1 none), .c (.val (.int .i64 r.2))] ∧ h = []) := by
  unfold m_caston at h
  refine ac_body tt_ok Tryd.func20 rfl Tryd.ntmps20 rfl rfl (res := [.tmp 4, .tmp 5]) rfl ?_
  refine ax_seq ?_
  refine ax_region ?_
  refine al_run tt_ok rfl rfl ?_
  refine ax_weak (Wk.frzC 2 (.int .u8) rfl rfl rfl) ?_
  refine ax_weak (Wk.nil 4 4 55 gOp rfl rfl) ?_
  refine ax_seq ?_
  refine ax_seq ?_
  obtain ⟨r1, hr1, h⟩ := bd h
  refine ax_region ?_
  refine al_upto tt_ok rfl rfl ?_
  refine al_callP (w_echeck _ _ c0 r1 hr1) rfl ⟨rfl, rfl⟩ rfl Tryd.func41 rfl rfl rfl rfl rfl rfl ?_
  refine al_run tt_ok rfl rfl ?_
  refine ax_seq ?_
  refine ax_region ?_
  refine al_run tt_ok rfl rfl ?_
  refine ax_cond rfl rfl (fun hc => ?_) (fun hc => ?_)
  ·
   replace h := cond_t hc h
   refine ax_seq ?_
   refine ax_region ?_
   refine al_run tt_ok rfl rfl ?_
   refine ax_weak (Wk.nil 4 4 55 gOp rfl rfl) ?_
   refine ax_ret ?_
   obtain rfl := Option.some.inj h
   refine ⟨_, (Wk.trans (Wk.frz (id := 4) rfl) (Wk.sub (st' := ⟨[(4, _), (5, _)], []⟩) (SubL.cons rfl (SubL.cons rfl SubL.nil)) SubH.nil)), _, _, rfl, rfl, ?_⟩
   exact ⟨rfl, rfl⟩
  ·
   replace h := cond_f hc h
   refine ax_skip ?_
   refine ax_seq ?_
   refine ax_seq ?_
   obtain ⟨hG12, h⟩ := gd_some h
   simp only [Bool.and_eq_true] at hG12
   obtain ⟨hG12_0, hG12_1⟩ := hG12
   refine ax_region ?_
   refine al_run tt_ok rfl (by first | (simp only [hG12_0, hG12_1, ob, decide_true, cond_true, cond_false]; done) | (simp_all; done) | (simp only [hG12_0, hG12_1, ob, decide_true, cond_true, cond_false]; rfl)) ?_
   refine ax_cond rfl rfl (fun hc => ?_) (fun hc => ?_)
   ·
    replace h := cond_t hc h
    refine ax_seq ?_
    refine ax_region ?_
    refine al_run tt_ok rfl rfl ?_
    refine ax_weak (Wk.nil 4 4 55 gOp rfl rfl) ?_
    refine ax_ret ?_
    obtain rfl := Option.some.inj h
    refine ⟨_, (Wk.trans (Wk.frz (id := 4) rfl) (Wk.sub (st' := ⟨[(4, _), (5, _)], []⟩) (SubL.cons rfl (SubL.cons rfl SubL.nil)) SubH.nil)), _, _, rfl, rfl, ?_⟩
    exact ⟨rfl, rfl⟩
   ·
    replace h := cond_f hc h
    refine ax_skip ?_
    refine ax_seq ?_
    refine ax_region ?_
    refine al_run tt_ok rfl rfl ?_
    refine ax_seq ?_
    obtain ⟨hG11, h⟩ := gd_some h
    simp only [Bool.and_eq_true] at hG11
    obtain ⟨⟨⟨hG11_0, hG11_1⟩, hG11_2⟩, hG11_3⟩ := hG11
    refine ax_region ?_
    refine al_run tt_ok rfl (by first | (simp only [hG11_0, hG11_1, hG11_2, hG11_3, ob, decide_true, cond_true, cond_false]; done) | (simp_all; done) | (simp only [hG11_0, hG11_1, hG11_2, hG11_3, ob, decide_true, cond_true, cond_false]; rfl)) ?_
    refine ax_seq ?_
    obtain ⟨hG10, h⟩ := gd_some h
    refine ax_region ?_
    refine al_run tt_ok rfl (by first | (simp only [hG10, ob, decide_true, cond_true, cond_false]; done) | (simp_all; done) | (simp only [hG10, ob, decide_true, cond_true, cond_false]; rfl)) ?_
    refine ax_seq ?_
    refine ax_seq ?_
    refine ax_region ?_
    refine al_run tt_ok rfl rfl ?_
    obtain ⟨o2, ho2, hk2⟩ := bd h
    refine ax_cutS (fun o2 : (List OpT) => ⟨[(7, .a (.c (.fn 42 [.fz (.int .u8) a0]))), (8, .a (.c (.sl 27)))], [(27, .row 55 gOp o2 none)]⟩) (fun o' => o2 = o') ?_ ?_
    ·
     have h := ho2
     refine ax_block ?_
     refine ax_weak (st' := ⟨[(35, _), (1, _), (7, _), (8, _), (34, _)], [(27, _)]⟩) (Wk.sub (SubL.cons rfl (SubL.cons rfl (SubL.cons rfl (SubL.cons rfl (SubL.cons rfl SubL.nil))))) (SubH.cons rfl rfl SubH.nil)) ?_
     refine ax_loopL (fun y : Nat × Int × (List OpT) => [(35, .a (.c (.val (.int .i64 y.2.1))))]) (fun y : Nat × Int × (List OpT) => [(27, .row 55 gOp y.2.2 none)]) (fun y : Nat × Int × (List OpT) => m_caston_L3 a0 a1 y.1 y.2.1 y.2.2 = some o2) (fun y : Nat × Int × (List OpT) => y.1) (FUEL, (0 : Int), (([] : List OpT) ++ [((1 : Int), ((0 : Int), (((0 : Int), (0 : Int)), (a0, (0 : Int)))))])) h ?_
     rintro ⟨n, v3_0, v3_1⟩ h
     replace h : m_caston_L3 a0 a1 n v3_0 v3_1 = some o2 := h
     rcases n with _ | n
     · cases (show (none : Option _) = some _ from h)
     rw [m_caston_L3] at h
     try dsimp only
     refine ax_seq ?_
     refine ax_region ?_
     refine al_run tt_ok rfl rfl ?_
     refine ax_seq ?_
     refine ax_cond rfl rfl (fun hc => ?_) (fun hc => ?_)
     ·
      replace h := cond_t hc h
      refine ax_skip ?_
      refine ax_seq ?_
      refine ax_block ?_
      refine ax_seq ?_
      refine ax_region ?_
      refine al_run tt_ok rfl rfl ?_
      obtain ⟨hG6, h⟩ := gd_some h
      obtain ⟨r4, hr4, h⟩ := bd h
      obtain ⟨hG7, h⟩ := gd_some h
      refine ax_region ?_
      refine al_upto tt_ok rfl (by first | (simp only [hG6, hG7, ob, decide_true, cond_true, cond_false]; done) | (simp_all; done) | (simp only [hG6, hG7, ob, decide_true, cond_true, cond_false]; rfl)) ?_
      refine al_callV [] (w_past _ _ _  r4 hr4) rfl ⟨rfl, rfl⟩ rfl rfl Tryd.func42 rfl rfl rfl (by first | (simp only [hG6, hG7, ob, decide_true, cond_true, cond_false]; done) | (simp_all; done) | (simp only [hG6, hG7, ob, decide_true, cond_true, cond_false]; rfl)) rfl rfl PassH.nil ?_
      rintro _ _ ⟨rfl, rfl⟩
      refine ⟨_, _, rfl, rfl, ?_⟩
      refine al_run tt_ok rfl (by first | (simp only [hG6, hG7, ob, decide_true, cond_true, cond_false]; done) | (simp_all; done) | (simp only [hG6, hG7, ob, decide_true, cond_true, cond_false]; rfl)) ?_
      obtain ⟨hG5, h⟩ := gd_some h
      refine ax_region ?_
      refine al_run tt_ok rfl (by first | (simp only [hG5, ob, decide_true, cond_true, cond_false]; done) | (simp_all; done) | (simp only [hG5, ob, decide_true, cond_true, cond_false]; rfl)) ?_
      refine ⟨(n, _, _), h, Nat.lt_succ_self _, (Wk.sub (SubL.cons rfl (SubL.cons rfl (SubL.cons rfl (SubL.cons rfl (SubL.cons rfl SubL.nil))))) (SubH.cons rfl rfl SubH.nil))⟩
     ·
      replace h := cond_f hc h
      refine ax_exit ?_
      exact ⟨_, (Option.some.inj h).symm, (Wk.sub (SubL.cons rfl (SubL.cons rfl SubL.nil)) (SubH.cons rfl rfl SubH.nil))⟩
    ·
     rintro _ rfl
     have h := hk2
     refine ax_seq ?_
     obtain ⟨r8, hr8, h⟩ := bd h
     obtain ⟨hG9, h⟩ := gd_some h
     refine ax_region ?_
     refine al_upto tt_ok rfl (by first | (simp only [hG9, ob, decide_true, cond_true, cond_false]; done) | (simp_all; done) | (simp only [hG9, ob, decide_true, cond_true, cond_false]; rfl)) ?_
     refine al_callV [] (w_past _ _ _  r8 hr8) rfl ⟨rfl, rfl⟩ rfl rfl Tryd.func42 rfl rfl rfl (by first | (simp only [hG9, ob, decide_true, cond_true, cond_false]; done) | (simp_all; done) | (simp only [hG9, ob, decide_true, cond_true, cond_false]; rfl)) rfl rfl PassH.nil ?_
     rintro _ _ ⟨rfl, rfl⟩
     refine ⟨_, _, rfl, rfl, ?_⟩
     refine al_run tt_ok rfl (by first | (simp only [hG9, ob, decide_true, cond_true, cond_false]; done) | (simp_all; done) | (simp only [hG9, ob, decide_true, cond_true, cond_false]; rfl)) ?_
     refine ax_ret ?_
     obtain rfl := Option.some.inj h
     refine ⟨_, (Wk.trans (Wk.frz (id := 27) rfl) (Wk.sub (st' := ⟨[(4, _), (5, _)], []⟩) (SubL.cons rfl (SubL.cons rfl SubL.nil)) SubH.nil)), _, _, rfl, rfl, ?_⟩
     exact ⟨rfl, rfl⟩
def m_needle (a0 : Int) (a1 : (List Int)) : Option ((Int × Int)) :=
    gd ((inB a0 a1.length)) <|
    some ((0 : Int), (a1.getD a0.toNat 0))
set_option maxRecDepth 20000 in
set_option maxHeartbeats 4000000 in
theorem w_needle (a0 : Int) (a1 : (List Int)) (r : ((Int × Int))) (h : m_needle a0 a1 = some r) : AC cx 43 [.c (.val (.int .i64 a0)), .c (.pel (.sl (.int .i64)) a1 0)] [] (fun sv h => sv = .a (.agg [.val (.int .u8 r.1), .val (.int .i64 r.2)]) ∧ h = []) := by
  apply AC.forgetV
  unfold m_needle at h
  refine ac_body tt_ok Tryd.func43 rfl Tryd.ntmps43 rfl rfl (res := [.cell 3 46]) rfl ?_
  refine ax_seq ?_
  refine ax_region ?_
  refine al_run tt_ok rfl rfl ?_
  refine ax_seq ?_
  obtain ⟨hG1, h⟩ := gd_some h
  refine ax_region ?_
  refine al_run tt_ok rfl (by first | (simp only [hG1, ob, decide_true, cond_true, cond_false]; done) | (simp_all; done) | (simp only [hG1, ob, decide_true, cond_true, cond_false]; rfl)) ?_
  refine ax_ret ?_
  obtain rfl := Option.some.inj h
  refine ⟨_, (Wk.sub (st' := ⟨[(3, _)], [(3, _)]⟩) (SubL.cons rfl SubL.nil) (SubH.cons rfl rfl SubH.nil)), _, _, rfl, rfl, ?_⟩
  exact rfl
def m_leave_L2 (a0 : (List Int)) : Nat → Int → Option ((Unit) ⊕ ((List OpT) × Nat × Int))
  | 0, _ => none
  | n + 1, v2_0 =>
    cond (decide (v2_0 < (a0.length : Int))) (gd ((inB v2_0 a0.length)) <|
    gd ((!((!(cond (decide ((a0.getD v2_0.toNat 0) < (1 : Int))) true (decide ((6 : Int) < (a0.getD v2_0.toNat 0))))) && (decide ((0 : Int) < v2_0))) || (inI64 (v2_0 - (1 : Int)))) && (!((!(cond (decide ((a0.getD v2_0.toNat 0) < (1 : Int))) true (decide ((6 : Int) < (a0.getD v2_0.toNat 0))))) && (decide ((0 : Int) < v2_0))) || (inB (v2_0 - (1 : Int)) a0.length))) <|
    cond (cond (cond (decide ((a0.getD v2_0.toNat 0) < (1 : Int))) true (decide ((6 : Int) < (a0.getD v2_0.toNat 0)))) true (cond (decide ((0 : Int) < v2_0)) (decide ((a0.getD v2_0.toNat 0) ≤ (a0.getD (v2_0 - (1 : Int)).toNat 0))) false)) (some (.inr (([] : List OpT), 0, (1 : Int)))) (gd ((inI64 (v2_0 + (1 : Int)))) <|
    m_leave_L2 a0 n (v2_0 + (1 : Int)))) (some (.inl ()))
def m_leave_L7 (a0 : (List Int)) : Nat → Int → (List OpT) → Option ((List OpT))
  | 0, _, _ => none
  | n + 1, v7_0, v7_1 =>
    cond (decide (v7_0 < (a0.length : Int))) (gd ((inB v7_0 a0.length) && (inB v7_0 v7_1.length) && (decide (v7_0.toNat < v7_1.length))) <|
    gd ((inI64 (v7_0 + (1 : Int)))) <|
    m_leave_L7 a0 n (v7_0 + (1 : Int)) (v7_1.set v7_0.toNat ((2 : Int), ((0 : Int), (((0 : Int), (0 : Int)), ((a0.getD v7_0.toNat 0), (0 : Int))))))) (some v7_1)
def m_leave (a0 : (List Int)) : Option ((List OpT) × Nat × Int) :=
    Option.bind (m_leave_L2 a0 FUEL (0 : Int)) fun o1 =>
    sm o1 (fun o1 =>
    gd ((decide (0 ≤ (a0.length : Int))) && (decide ((40 : Int) * (a0.length : Int) ≤ 140737488355328)) && (decide ((a0.length : Int) ≤ 140737488355328))) <|
    Option.bind (m_leave_L7 a0 FUEL (0 : Int) (List.replicate (a0.length : Int).toNat (gOp.zero : OpT))) fun o6 =>
    some (o6, (a0.length : Int).toNat, (0 : Int))) (fun q => some q)
set_option maxRecDepth 20000 in
set_option maxHeartbeats 4000000 in
theorem w_leave (a0 : (List Int)) (c0 : Option Nat) (r : ((List OpT) × Nat × Int)) (h : m_leave a0 = some r) : AC cx 23 [.c (.lst (.int .u8) a0 c0)] [] (fun sv h => sv = .tup [.c (.lst gOp r.1 (some r.2.1)), .c (.val (.int .i64 r.2.2))] ∧ h = []) := by
  unfold m_leave at h
  refine ac_body tt_ok Tryd.func23 rfl Tryd.ntmps23 rfl rfl (res := [.tmp 2, .tmp 3]) rfl ?_
  refine ax_seq ?_
  refine ax_region ?_
  refine al_run tt_ok rfl rfl ?_
  refine ax_seq ?_
  refine ax_seq ?_
  refine ax_region ?_
  refine al_run tt_ok rfl rfl ?_
  obtain ⟨o1, ho1, hk1⟩ := bd h
  refine ax_cutS (fun o1 : Unit => ⟨[(0, .a (.c (.lst (.int .u8) a0 c0)))], []⟩) (fun o' => Sum.inl o' = o1) ?_ ?_
  ·
   have h := ho1
   refine ax_block ?_
   refine ax_weak (st' := ⟨[(10, _), (0, _), (8, _), (9, _)], []⟩) (Wk.sub (SubL.cons rfl (SubL.cons rfl (SubL.cons rfl (SubL.cons rfl SubL.nil)))) SubH.nil) ?_
   refine ax_loopL (fun y : Nat × Int => [(10, .a (.c (.val (.int .i64 y.2))))]) (fun y : Nat × Int => []) (fun y : Nat × Int => m_leave_L2 a0 y.1 y.2 = some o1) (fun y : Nat × Int => y.1) (FUEL, (0 : Int)) h ?_
   rintro ⟨n, v2_0⟩ h
   replace h : m_leave_L2 a0 n v2_0 = some o1 := h
   rcases n with _ | n
   · cases (show (none : Option _) = some _ from h)
   rw [m_leave_L2] at h
   try dsimp only
   refine ax_seq ?_
   refine ax_region ?_
   refine al_run tt_ok rfl rfl ?_
   refine ax_seq ?_
   refine ax_cond rfl rfl (fun hc => ?_) (fun hc => ?_)
   ·
    replace h := cond_t hc h
    refine ax_skip ?_
    refine ax_seq ?_
    refine ax_block ?_
    refine ax_seq ?_
    obtain ⟨hG5, h⟩ := gd_some h
    refine ax_region ?_
    refine al_run tt_ok rfl (by first | (simp only [hG5, ob, decide_true, cond_true, cond_false]; done) | (simp_all; done) | (simp only [hG5, ob, decide_true, cond_true, cond_false]; rfl)) ?_
    refine ax_seq ?_
    obtain ⟨hG4, h⟩ := gd_some h
    simp only [Bool.and_eq_true] at hG4
    obtain ⟨hG4_0, hG4_1⟩ := hG4
    refine ax_region ?_
    refine al_run tt_ok rfl (by first | (revert hG4_0 hG4_1; generalize (decide ((a0.getD v2_0.toNat 0) < (1 : Int))) = b0; generalize (decide ((6 : Int) < (a0.getD v2_0.toNat 0))) = b1; generalize (inB (v2_0 - (1 : Int)) a0.length) = b2; generalize (decide ((0 : Int) < v2_0)) = b3; generalize (inI64 (v2_0 - (1 : Int))) = b4; revert b0 b1 b2 b3 b4; decide) | (simp only [hG4_0, hG4_1, ob, decide_true, cond_true, cond_false]; done) | (simp_all; done) | (simp only [hG4_0, hG4_1, ob, decide_true, cond_true, cond_false]; rfl)) ?_
    refine ax_cond rfl rfl (fun hc => ?_) (fun hc => ?_)
    ·
     replace h := cond_t hc h
     refine ax_seq ?_
     refine ax_region ?_
     refine al_run tt_ok rfl rfl ?_
     refine ax_ret ?_
     obtain rfl := Option.some.inj h
     have h := hk1
     dsimp only [sm] at h
     obtain rfl := Option.some.inj h
     refine ⟨_, (Wk.trans (Wk.lst0 2 gOp rfl) (Wk.sub (st' := ⟨[(2, _), (3, _)], []⟩) (SubL.cons rfl (SubL.cons rfl SubL.nil)) SubH.nil)), _, _, rfl, rfl, ?_⟩
     exact ⟨rfl, rfl⟩
    ·
     replace h := cond_f hc h
     refine ax_skip ?_
     obtain ⟨hG3, h⟩ := gd_some h
     refine ax_region ?_
     refine al_run tt_ok rfl (by first | (simp only [hG3, ob, decide_true, cond_true, cond_false]; done) | (simp_all; done) | (simp only [hG3, ob, decide_true, cond_true, cond_false]; rfl)) ?_
     refine ⟨(n, _), h, Nat.lt_succ_self _, (Wk.sub (SubL.cons rfl (SubL.cons rfl (SubL.cons rfl (SubL.cons rfl SubL.nil)))) SubH.nil)⟩
   ·
    replace h := cond_f hc h
    refine ax_exit ?_
    exact ⟨_, Option.some.inj h, (Wk.sub (SubL.cons rfl SubL.nil) SubH.nil)⟩
  ·
   rintro o1 rfl
   have h := hk1
   dsimp only [sm] at h
   refine ax_seq ?_
   obtain ⟨hG10, h⟩ := gd_some h
   simp only [Bool.and_eq_true] at hG10
   obtain ⟨⟨hG10_0, hG10_1⟩, hG10_2⟩ := hG10
   refine ax_region ?_
   refine al_run tt_ok rfl (by first | (simp only [hG10_0, hG10_1, hG10_2, ob, decide_true, cond_true, cond_false]; done) | (simp_all; done) | (simp only [hG10_0, hG10_1, hG10_2, ob, decide_true, cond_true, cond_false]; rfl)) ?_
   refine ax_seq ?_
   refine ax_seq ?_
   refine ax_region ?_
   refine al_run tt_ok rfl rfl ?_
   obtain ⟨o6, ho6, hk6⟩ := bd h
   refine ax_cutS (fun o6 : (List OpT) => ⟨[(6, .a (.c (.sl 37)))], [(37, .row 55 gOp o6 (some (a0.length : Int).toNat))]⟩) (fun o' => o6 = o') ?_ ?_
   ·
    have h := ho6
    refine ax_block ?_
    refine ax_weak (st' := ⟨[(40, _), (0, _), (6, _), (39, _)], [(37, _)]⟩) (Wk.sub (SubL.cons rfl (SubL.cons rfl (SubL.cons rfl (SubL.cons rfl SubL.nil)))) (SubH.cons rfl rfl SubH.nil)) ?_
    refine ax_loopL (fun y : Nat × Int × (List OpT) => [(40, .a (.c (.val (.int .i64 y.2.1))))]) (fun y : Nat × Int × (List OpT) => [(37, .row 55 gOp y.2.2 (some (a0.length : Int).toNat))]) (fun y : Nat × Int × (List OpT) => m_leave_L7 a0 y.1 y.2.1 y.2.2 = some o6) (fun y : Nat × Int × (List OpT) => y.1) (FUEL, (0 : Int), (List.replicate (a0.length : Int).toNat (gOp.zero : OpT))) h ?_
    rintro ⟨n, v7_0, v7_1⟩ h
    replace h : m_leave_L7 a0 n v7_0 v7_1 = some o6 := h
    rcases n with _ | n
    · cases (show (none : Option _) = some _ from h)
    rw [m_leave_L7] at h
    try dsimp only
    refine ax_seq ?_
    refine ax_region ?_
    refine al_run tt_ok rfl rfl ?_
    refine ax_seq ?_
    refine ax_cond rfl rfl (fun hc => ?_) (fun hc => ?_)
    ·
     replace h := cond_t hc h
     refine ax_skip ?_
     refine ax_seq ?_
     refine ax_block ?_
     refine ax_seq ?_
     refine ax_region ?_
     refine al_run tt_ok rfl rfl ?_
     obtain ⟨hG9, h⟩ := gd_some h
     simp only [Bool.and_eq_true] at hG9
     obtain ⟨⟨hG9_0, hG9_1⟩, hG9_2⟩ := hG9
     refine ax_region ?_
     refine al_run tt_ok rfl (by first | (simp only [hG9_0, hG9_1, hG9_2, ob, decide_true, cond_true, cond_false]; done) | (simp_all; done) | (simp only [hG9_0, hG9_1, hG9_2, ob, decide_true, cond_true, cond_false]; rfl)) ?_
     obtain ⟨hG8, h⟩ := gd_some h
     refine ax_region ?_
     refine al_run tt_ok rfl (by first | (simp only [hG8, ob, decide_true, cond_true, cond_false]; done) | (simp_all; done) | (simp only [hG8, ob, decide_true, cond_true, cond_false]; rfl)) ?_
     refine ⟨(n, _, _), h, Nat.lt_succ_self _, (Wk.sub (SubL.cons rfl (SubL.cons rfl (SubL.cons rfl (SubL.cons rfl SubL.nil)))) (SubH.cons rfl rfl SubH.nil))⟩
    ·
     replace h := cond_f hc h
     refine ax_exit ?_
     exact ⟨_, (Option.some.inj h).symm, (Wk.sub (SubL.cons rfl SubL.nil) (SubH.cons rfl rfl SubH.nil))⟩
   ·
    rintro _ rfl
    have h := hk6
    refine ax_seq ?_
    refine ax_region ?_
    refine al_run tt_ok rfl rfl ?_
    refine ax_ret ?_
    obtain rfl := Option.some.inj h
    refine ⟨_, (Wk.trans (Wk.frz (id := 37) rfl) (Wk.sub (st' := ⟨[(2, _), (3, _)], []⟩) (SubL.cons rfl (SubL.cons rfl SubL.nil)) SubH.nil)), _, _, rfl, rfl, ?_⟩
    exact ⟨rfl, rfl⟩
end Go.Proofs.YtcjpcmofajcadaaDoor

/- shifts.Shift: what it returns. -/
namespace Go.Proofs.YtcjpcmofajcadaaDoor
open Go.RowKit
/-- 1 as soon as something does not hold. -/
def errTo (f : Nat → Bool) : Nat → Int
  | 0 => 0
  | i + 1 => if f i = true then errTo f i else 1
theorem errTo_eq (f : Nat → Bool) : ∀ n, errTo f n = if (List.range n).all f = true then 0 else 1
  | 0 => by simp [errTo]
  | n + 1 => by
    rw [errTo, errTo_eq f n, List.range_succ, List.all_append]
    cases h1 : f n <;> cases h2 : (List.range n).all f <;> simp [h1]
theorem errTo_01 (f : Nat → Bool) (n : Nat) : errTo f n = 0 ∨ errTo f n = 1 := by
  rw [errTo_eq]
  split <;> simp
def shErr (fr to : List Int) : Int := if chkAll fr = false then 1 else if to.length ≠ fr.length then 5 else if chkTo to = false then 1 else 0
def planR (fr to : List Int) : List OpT := if shErr fr to = 0 then planOf fr to else []
theorem shift_all (fr to : List Int) (c1 c2 : Option Nat) (h1 : fr.length ≤ 1000000) (h2 : to.length ≤ 1000000) : AC cx 11 [.c (.lst (.int .i64) fr c1), .c (.lst (.int .i64) to c2)] [] (fun sv h => sv = .tup [.c (.lst gOp (planR fr to) (some (planR fr to).length)), .c (.val (.int .i64 (shErr fr to)))] ∧ h = []) := by
  refine AC.weakV ?_ (shift_ok fr to c1 c2 h1 h2)
  intro env B w v h
  have hn : ∀ z : Int, VR env B w (.tup [.c (.val (.slice none 0 0)), .c (.val (.int .i64 z))]) v → VR env B w (.tup [.c (.lst gOp [] (some 0)), .c (.val (.int .i64 z))]) v := by
    rintro z ⟨vs, e, v1, r, e2, hv, hr⟩
    exact ⟨vs, e, v1, r, e2, nil_lst hv, hr⟩
  unfold shiftR at h
  split at h
  · rename_i g
    have hs : shErr fr to = 1 := by rw [shErr, if_pos g]
    rw [planR, hs, if_neg (by decide)]
    exact hn 1 h
  · rename_i g1
    split at h
    · rename_i g
      have hs : shErr fr to = 5 := by rw [shErr, if_neg g1, if_pos g]
      rw [planR, hs, if_neg (by decide)]
      exact hn 5 h
    · rename_i g2
      split at h
      · rename_i g3
        have hs : shErr fr to = 1 := by rw [shErr, if_neg g1, if_neg g2, if_pos g3]
        rw [planR, hs, if_neg (by decide)]
        exact hn 1 h
      · rename_i g3
        have hs : shErr fr to = 0 := by rw [shErr, if_neg g1, if_neg g2, if_neg g3]
        rw [planR, hs, if_pos rfl]
        exact h
end Go.Proofs.YtcjpcmofajcadaaDoor

/- Contracts proved by hand, in the form of tr.py. -/
namespace Go.Proofs.YtcjpcmofajcadaaDoor
set_option linter.unusedSimpArgs false
set_option linter.unusedVariables false
open Go.RowKit
def m_shift (a0 a1 : List Int) : Option (List OpT × Int) := gd (decide (a0.length ≤ 1000000) && decide (a1.length ≤ 1000000)) (some (planR a0 a1, shErr a0 a1))
theorem w_shift (a0 a1 : List Int) (c0 c1 : Option Nat) (r : List OpT × Int) (h : m_shift a0 a1 = some r) : AC cx 11 [.c (.lst (.int .i64) a0 c0), .c (.lst (.int .i64) a1 c1)] [] (fun sv h => sv = .tup [.c (.lst gOp r.1 (some r.1.length)), .c (.val (.int .i64 r.2))] ∧ h = []) := by
  obtain ⟨hg, h⟩ := gd_some h
  simp only [Bool.and_eq_true, decide_eq_true_eq] at hg
  obtain rfl := Option.some.inj h
  exact shift_all a0 a1 c0 c1 hg.1 hg.2
def m_clip (a0 : List OpT) : Option (List OpT) := some a0
theorem w_clip (a0 : List OpT) (c0 : Option Nat) (r : List OpT) (h : m_clip a0 = some r) : AC cx 36 [.c (.lst gOp a0 c0)] [] (fun sv h => sv = .a (.c (.lst gOp r (some r.length))) ∧ h = []) := by
  obtain rfl := Option.some.inj h
  exact clip_ok a0 c0
def opNB (o : OpT) : Bool := decide (0 ≤ o.1) && decide (0 ≤ o.2.1) && decide (0 ≤ o.2.2.1.1) && decide (0 ≤ o.2.2.2.1)
theorem opNB_ok {o : OpT} (h : opNB o = true) : OpN o := by
  simp only [opNB, Bool.and_eq_true, decide_eq_true_eq] at h
  exact ⟨h.1.1.1, h.1.1.2, h.1.2, h.2⟩
def m_optext (a0 : OpT) : Option (List UInt8) := gd (opNB a0) (some (textT a0))
theorem w_optext (a0 : OpT) (r : List UInt8) (h : m_optext a0 = some r) : AC cx 22 [opArg a0] [] (fun sv h => sv = .a (.c (.str r)) ∧ h = []) := by
  obtain ⟨hg, h⟩ := gd_some h
  obtain rfl := Option.some.inj h
  exact optext_ok a0 (opNB_ok hg)
end Go.Proofs.YtcjpcmofajcadaaDoor

/- Models of the functions of edges and of their laws, printed by tr.py. -/
namespace Go.Proofs.YtcjpcmofajcadaaDoor
set_option linter.unusedSimpArgs false
set_option linter.unusedVariables false
open Go.RowKit
def m_bindoff_L3 (a0 : Int) (a1 : (List Int)) : Nat → Int → (List OpT) → Option (((List OpT)) ⊕ ((List OpT) × Int))
  | 0, _, _ => none
  | n + 1, v3_0, v3_1 =>
    cond (decide (v3_0 < (a1.length : Int))) (Option.bind (cond (decide ((0 : Int) < v3_0)) (gd ((inI64 (v3_0 - (1 : Int))) && (decide (0 ≤ (v3_0 - (1 : Int)))) && (decide ((v3_0 - (1 : Int)) ≤ v3_0)) && (decide (v3_0 ≤ (a1.length : Int))) && (inI64 (v3_0 + (1 : Int))) && (decide (0 ≤ v3_0)) && (decide (v3_0 ≤ (v3_0 + (1 : Int)))) && (decide ((v3_0 + (1 : Int)) ≤ (a1.length : Int)))) <|
    Option.bind (m_shift ((a1.take v3_0.toNat).drop (v3_0 - (1 : Int)).toNat) ((a1.take (v3_0 + (1 : Int)).toNat).drop v3_0.toNat)) fun r5 =>
    cond (!(decide (r5.2 = (0 : Int)))) (some (.inr (.inr (([] : List OpT), r5.2)))) (gd ((fitB 40 (v3_1.length + r5.1.length))) <|
    some (.inl (v3_1 ++ r5.1)))) (some (.inl v3_1))) fun o4 =>
    sm o4 (fun o4 =>
    Option.bind (m_needle v3_0 a1) fun r8 =>
    gd ((fitB 40 (o4.length + [((4 : Int), ((1 : Int), (r8, (a0, (0 : Int)))))].length))) <|
    gd ((inI64 (v3_0 + (1 : Int)))) <|
    m_bindoff_L3 a0 a1 n (v3_0 + (1 : Int)) (o4 ++ [((4 : Int), ((1 : Int), (r8, (a0, (0 : Int)))))])) (fun q => some q)) (some (.inl v3_1))
def m_bindoff (a0 : Int) (a1 : (List Int)) : Option ((List OpT) × Int) :=
    Option.bind (m_echeck a0 a1) fun r1 =>
    cond (!(decide (r1 = (0 : Int)))) (some (([] : List OpT), r1)) (Option.bind (m_bindoff_L3 a0 a1 FUEL (0 : Int) ([] : List OpT)) fun o2 =>
    sm o2 (fun o2 =>
    gd ((inI64 ((a1.length : Int) - (1 : Int)))) <|
    Option.bind (m_needle ((a1.length : Int) - (1 : Int)) a1) fun r11 =>
    gd ((fitB 40 (o2.length + [((8 : Int), ((0 : Int), (r11, ((0 : Int), (0 : Int)))))].length))) <|
    Option.bind (m_clip (o2 ++ [((8 : Int), ((0 : Int), (r11, ((0 : Int), (0 : Int)))))])) fun r12 =>
    some (r12, (0 : Int))) (fun q => some q))
set_option maxRecDepth 20000 in
set_option maxHeartbeats 4000000 in
theorem w_bindoff (a0 : Int) (a1 : (List Int)) (c0 : Option Nat) (r : ((List OpT) × Int)) (h : m_bindoff a0 a1 = some r) : AC cx 21 [.c (.val (.int .u8 a0)), .c (.lst (.int .i64) a1 c0)] [] (fun sv h => sv = .tup [.c (.lst gOp r.1 (some r.1.length)), .c (.val (.int .i64 r.2))] ∧ h = []) := by
  unfold m_bindoff at h
  refine ac_body tt_ok Tryd.func21 rfl Tryd.ntmps21 rfl rfl (res := [.tmp 4, .tmp 5]) rfl ?_
  refine ax_seq ?_
  refine ax_region ?_
  refine al_run tt_ok rfl rfl ?_
  refine ax_weak (Wk.frzC 3 (.sl (.int .i64)) rfl rfl rfl) ?_
  refine ax_seq ?_
  refine ax_seq ?_
  obtain ⟨r1, hr1, h⟩ := bd h
  refine ax_region ?_
  refine al_upto tt_ok rfl rfl ?_
  refine al_callP (w_echeck _ _ none r1 hr1) rfl ⟨rfl, rfl⟩ rfl Tryd.func41 rfl rfl rfl rfl rfl rfl ?_
  refine al_run tt_ok rfl rfl ?_
  refine ax_seq ?_
  refine ax_region ?_
  refine al_run tt_ok rfl rfl ?_
  refine ax_cond rfl rfl (fun hc => ?_) (fun hc => ?_)
  ·
   replace h := cond_t hc h
   refine ax_seq ?_
   refine ax_region ?_
   refine al_run tt_ok rfl rfl ?_
   refine ax_ret ?_
   obtain rfl := Option.some.inj h
   refine ⟨_, (Wk.trans (Wk.lst0 4 gOp rfl) (Wk.sub (st' := ⟨[(4, _), (5, _)], []⟩) (SubL.cons rfl (SubL.cons rfl SubL.nil)) SubH.nil)), _, _, rfl, rfl, ?_⟩
   exact ⟨rfl, rfl⟩
  ·
   replace h := cond_f hc h
   refine ax_skip ?_
   refine ax_seq ?_
   refine ax_region ?_
   refine al_run tt_ok rfl rfl ?_
   refine ax_seq ?_
   refine ax_region ?_
   refine al_run tt_ok rfl rfl ?_
   refine ax_weak (Wk.nil 8 8 55 gOp rfl rfl) ?_
   refine ax_seq ?_
   refine ax_seq ?_
   refine ax_region ?_
   refine al_run tt_ok rfl rfl ?_
   obtain ⟨o2, ho2, hk2⟩ := bd h
   refine ax_cutS (fun o2 : (List OpT) => ⟨[(3, .a (.c (.pel (.sl (.int .i64)) a1 0))), (7, .a (.c (.fn 43 [.fz (.sl (.int .i64)) a1]))), (8, .a (.c (.sl 8)))], [(8, .row 55 gOp o2 none)]⟩) (fun o' => Sum.inl o' = o2) ?_ ?_
   ·
    have h := ho2
    refine ax_block ?_
    refine ax_weak (st' := ⟨[(21, _), (0, _), (3, _), (7, _), (8, _), (20, _)], [(8, _)]⟩) (Wk.sub (SubL.cons rfl (SubL.cons rfl (SubL.cons rfl (SubL.cons rfl (SubL.cons rfl (SubL.cons rfl SubL.nil)))))) (SubH.cons rfl rfl SubH.nil)) ?_
    refine ax_loopL (fun y : Nat × Int × (List OpT) => [(21, .a (.c (.val (.int .i64 y.2.1))))]) (fun y : Nat × Int × (List OpT) => [(8, .row 55 gOp y.2.2 none)]) (fun y : Nat × Int × (List OpT) => m_bindoff_L3 a0 a1 y.1 y.2.1 y.2.2 = some o2) (fun y : Nat × Int × (List OpT) => y.1) (FUEL, (0 : Int), ([] : List OpT)) h ?_
    rintro ⟨n, v3_0, v3_1⟩ h
    replace h : m_bindoff_L3 a0 a1 n v3_0 v3_1 = some o2 := h
    rcases n with _ | n
    · cases (show (none : Option _) = some _ from h)
    rw [m_bindoff_L3] at h
    try dsimp only
    refine ax_seq ?_
    refine ax_region ?_
    refine al_run tt_ok rfl rfl ?_
    refine ax_seq ?_
    refine ax_cond rfl rfl (fun hc => ?_) (fun hc => ?_)
    ·
     replace h := cond_t hc h
     refine ax_skip ?_
     refine ax_seq ?_
     refine ax_block ?_
     refine ax_seq ?_
     refine ax_region ?_
     refine al_run tt_ok rfl rfl ?_
     refine ax_seq ?_
     refine ax_seq ?_
     refine ax_region ?_
     refine al_run tt_ok rfl rfl ?_
     obtain ⟨o4, ho4, hk4⟩ := bd h
     refine ax_cutS (fun o4 : (List OpT) => ⟨[(0, .a (.c (.val (.int .u8 a0)))), (3, .a (.c (.pel (.sl (.int .i64)) a1 0))), (7, .a (.c (.fn 43 [.fz (.sl (.int .i64)) a1]))), (8, .a (.c (.sl 8))), (9, .a (.c (.val (.int .i64 v3_0)))), (20, .a (.c (.val (.int .i64 (a1.length : Int))))), (21, .a (.c (.val (.int .i64 v3_0))))], [(8, .row 55 gOp o4 none)]⟩) (fun o' => Sum.inl o' = o4) ?_ ?_
     ·
      have h := ho4
      refine ax_cond rfl rfl (fun hc => ?_) (fun hc => ?_)
      ·
       replace h := cond_t hc h
       refine ax_seq ?_
       obtain ⟨hG7, h⟩ := gd_some h
       simp only [Bool.and_eq_true] at hG7
       obtain ⟨⟨⟨⟨⟨⟨⟨hG7_0, hG7_1⟩, hG7_2⟩, hG7_3⟩, hG7_4⟩, hG7_5⟩, hG7_6⟩, hG7_7⟩ := hG7
       obtain ⟨r5, hr5, h⟩ := bd h
       refine ax_draw [] (by kernel_rfl) rfl (N := 16) ?_
       refine ad_run (fuel := 6) (ds' := ⟨#[true, true, true, true, true, true, true, true, true, true, false, false, false, false, false, false], true, true, true⟩) tt_ok [(0, 1), (1, 0), (2, 0), (3, 0), (4, 0), (5, 1), (6, 0), (7, 0), (8, 0), (9, 0)] (by kernel_rfl) rfl (by first | (simp only [hG7_0, hG7_1, hG7_2, hG7_3, hG7_4, hG7_5, hG7_6, hG7_7, ob, decide_true, cond_true, cond_false]; done) | (simp_all; done) | (simp only [hG7_0, hG7_1, hG7_2, hG7_3, hG7_4, hG7_5, hG7_6, hG7_7, ob, decide_true, cond_true, cond_false]; rfl)) ?_
       refine ad_ready (by kernel_rfl) (ads_cons (i := 10) ?_ ads_nil)
       refine ado_of rfl ?_
       refine adx_call (i := 10) (listed' := #[true, true, true, true, true, true, true, true, true, true, true, false, false, false, false, false]) (pre' := true) [] (w_shift _ _ none none r5 hr5) rfl rfl rfl rfl ⟨rfl, rfl⟩ rfl Tryd.func11 rfl rfl rfl (by first | (simp only [hG7_0, hG7_1, hG7_2, hG7_3, hG7_4, hG7_5, hG7_6, hG7_7, ob, decide_true, cond_true, cond_false]; done) | (simp_all; done) | (simp only [hG7_0, hG7_1, hG7_2, hG7_3, hG7_4, hG7_5, hG7_6, hG7_7, ob, decide_true, cond_true, cond_false]; rfl)) rfl rfl PassH.nil ?_
       rintro _ _ ⟨rfl, rfl⟩
       refine ⟨_, _, rfl, rfl, ?_⟩
       refine ad_run (fuel := 0) (ds' := ⟨#[true, true, true, true, true, true, true, true, true, true, true, true, true, true, true, true], false, true, false⟩) tt_ok [(11, 0), (12, 0), (13, 0), (14, 0), (15, 0)] (by kernel_rfl) rfl (by first | (simp only [hG7_0, hG7_1, hG7_2, hG7_3, hG7_4, hG7_5, hG7_6, hG7_7, ob, decide_true, cond_true, cond_false]; done) | (simp_all; done) | (simp only [hG7_0, hG7_1, hG7_2, hG7_3, hG7_4, hG7_5, hG7_6, hG7_7, ob, decide_true, cond_true, cond_false]; rfl)) ?_
       refine ad_done (by kernel_rfl) ?_
       refine ax_seq ?_
       refine ax_seq ?_
       refine ax_region ?_
       refine al_run tt_ok rfl rfl ?_
       refine ax_cond rfl rfl (fun hc => ?_) (fun hc => ?_)
       ·
        replace h := cond_t hc h
        refine ax_seq ?_
        refine ax_region ?_
        refine al_run tt_ok rfl rfl ?_
        refine ax_ret ?_
        obtain rfl := Option.some.inj h
        have h := hk4
        dsimp only [sm] at h
        obtain rfl := Option.some.inj h
        have h := hk2
        dsimp only [sm] at h
        obtain rfl := Option.some.inj h
        refine ⟨_, (Wk.trans (Wk.lst0 4 gOp rfl) (Wk.sub (st' := ⟨[(4, _), (5, _)], []⟩) (SubL.cons rfl (SubL.cons rfl SubL.nil)) SubH.nil)), _, _, rfl, rfl, ?_⟩
        exact ⟨rfl, rfl⟩
       ·
        replace h := cond_f hc h
        refine ax_skip ?_
        obtain ⟨hG6, h⟩ := gd_some h
        refine ax_region ?_
        refine al_run tt_ok rfl (by first | (simp only [hG6, ob, decide_true, cond_true, cond_false]; done) | (simp_all; done) | (simp only [hG6, ob, decide_true, cond_true, cond_false]; rfl)) ?_
        exact ⟨_, Option.some.inj h, (Wk.sub (SubL.cons rfl (SubL.cons rfl (SubL.cons rfl (SubL.cons rfl (SubL.cons rfl (SubL.cons rfl (SubL.cons rfl SubL.nil))))))) (SubH.cons rfl rfl SubH.nil))⟩
      ·
       replace h := cond_f hc h
       refine ax_skip ?_
       exact ⟨_, Option.some.inj h, (Wk.sub (SubL.cons rfl (SubL.cons rfl (SubL.cons rfl (SubL.cons rfl (SubL.cons rfl (SubL.cons rfl (SubL.cons rfl SubL.nil))))))) (SubH.cons rfl rfl SubH.nil))⟩
     ·
      rintro o4 rfl
      have h := hk4
      dsimp only [sm] at h
      obtain ⟨r8, hr8, h⟩ := bd h
      obtain ⟨hG10, h⟩ := gd_some h
      refine ax_region ?_
      refine al_upto tt_ok rfl (by first | (simp only [hG10, ob, decide_true, cond_true, cond_false]; done) | (simp_all; done) | (simp only [hG10, ob, decide_true, cond_true, cond_false]; rfl)) ?_
      refine al_callV [] (w_needle _ _  r8 hr8) rfl ⟨rfl, rfl⟩ rfl rfl Tryd.func43 rfl rfl rfl (by first | (simp only [hG10, ob, decide_true, cond_true, cond_false]; done) | (simp_all; done) | (simp only [hG10, ob, decide_true, cond_true, cond_false]; rfl)) rfl rfl PassH.nil ?_
      rintro _ _ ⟨rfl, rfl⟩
      refine ⟨_, _, rfl, rfl, ?_⟩
      refine al_run tt_ok rfl (by first | (simp only [hG10, ob, decide_true, cond_true, cond_false]; done) | (simp_all; done) | (simp only [hG10, ob, decide_true, cond_true, cond_false]; rfl)) ?_
      obtain ⟨hG9, h⟩ := gd_some h
      refine ax_region ?_
      refine al_run tt_ok rfl (by first | (simp only [hG9, ob, decide_true, cond_true, cond_false]; done) | (simp_all; done) | (simp only [hG9, ob, decide_true, cond_true, cond_false]; rfl)) ?_
      refine ⟨(n, _, _), h, Nat.lt_succ_self _, (Wk.sub (SubL.cons rfl (SubL.cons rfl (SubL.cons rfl (SubL.cons rfl (SubL.cons rfl (SubL.cons rfl SubL.nil)))))) (SubH.cons rfl rfl SubH.nil))⟩
    ·
     replace h := cond_f hc h
     refine ax_exit ?_
     exact ⟨_, Option.some.inj h, (Wk.sub (SubL.cons rfl (SubL.cons rfl (SubL.cons rfl SubL.nil))) (SubH.cons rfl rfl SubH.nil))⟩
   ·
    rintro o2 rfl
    have h := hk2
    dsimp only [sm] at h
    refine ax_seq ?_
    obtain ⟨hG13, h⟩ := gd_some h
    obtain ⟨r11, hr11, h⟩ := bd h
    obtain ⟨hG14, h⟩ := gd_some h
    refine ax_region ?_
    refine al_upto tt_ok rfl (by first | (simp only [hG13, hG14, ob, decide_true, cond_true, cond_false]; done) | (simp_all; done) | (simp only [hG13, hG14, ob, decide_true, cond_true, cond_false]; rfl)) ?_
    refine al_callV [] (w_needle _ _  r11 hr11) rfl ⟨rfl, rfl⟩ rfl rfl Tryd.func43 rfl rfl rfl (by first | (simp only [hG13, hG14, ob, decide_true, cond_true, cond_false]; done) | (simp_all; done) | (simp only [hG13, hG14, ob, decide_true, cond_true, cond_false]; rfl)) rfl rfl PassH.nil ?_
    rintro _ _ ⟨rfl, rfl⟩
    refine ⟨_, _, rfl, rfl, ?_⟩
    refine al_run tt_ok rfl (by first | (simp only [hG13, hG14, ob, decide_true, cond_true, cond_false]; done) | (simp_all; done) | (simp only [hG13, hG14, ob, decide_true, cond_true, cond_false]; rfl)) ?_
    refine ax_seq ?_
    obtain ⟨r12, hr12, h⟩ := bd h
    refine ax_region ?_
    refine al_upto tt_ok rfl rfl ?_
    refine al_weak (Wk.frz (id := 8) rfl) ?_
    refine al_callP (w_clip _ none r12 hr12) rfl ⟨rfl, rfl⟩ rfl Tryd.func36 rfl rfl rfl rfl rfl rfl ?_
    refine al_run tt_ok rfl rfl ?_
    refine ax_ret ?_
    obtain rfl := Option.some.inj h
    refine ⟨_, (Wk.sub (st' := ⟨[(4, _), (5, _)], []⟩) (SubL.cons rfl (SubL.cons rfl SubL.nil)) SubH.nil), _, _, rfl, rfl, ?_⟩
    exact ⟨rfl, rfl⟩
def m_text29_L2 (a0 : (List OpT)) : Nat → (List UInt8) → Int → Option ((List UInt8))
  | 0, _, _ => none
  | n + 1, v2_0, v2_1 =>
    cond (decide (v2_1 < (a0.length : Int))) (Option.bind (cond (decide ((0 : Int) < v2_1)) (gd ((decide (v2_0.length + ([59, 32] : List UInt8).length ≤ 140737488355328))) <|
    some (v2_0 ++ ([59, 32] : List UInt8))) (some v2_0)) fun o3 =>
    gd ((inB v2_1 a0.length)) <|
    Option.bind (m_optext (a0.getD v2_1.toNat gOp.zero)) fun r5 =>
    gd ((decide (o3.length + r5.length ≤ 140737488355328))) <|
    gd ((inI64 (v2_1 + (1 : Int)))) <|
    m_text29_L2 a0 n (o3 ++ r5) (v2_1 + (1 : Int))) (some v2_0)
def m_text29 (a0 : (List OpT)) : Option ((List UInt8)) :=
    Option.bind (m_text29_L2 a0 FUEL ([] : List UInt8) (0 : Int)) fun o1 =>
    some o1
set_option maxRecDepth 20000 in
set_option maxHeartbeats 4000000 in
theorem w_text29 (a0 : (List OpT)) (c0 : Option Nat) (r : ((List UInt8))) (h : m_text29 a0 = some r) : AC cx 24 [.c (.lst gOp a0 c0)] [] (fun sv h => sv = .a (.c (.str r)) ∧ h = []) := by
  unfold m_text29 at h
  refine ac_body tt_ok Tryd.func24 rfl Tryd.ntmps24 rfl rfl (res := [.tmp 2]) rfl ?_
  refine ax_seq ?_
  refine ax_region ?_
  refine al_run tt_ok rfl rfl ?_
  refine ax_seq ?_
  refine ax_region ?_
  refine al_run tt_ok rfl rfl ?_
  refine ax_seq ?_
  refine ax_seq ?_
  refine ax_region ?_
  refine al_run tt_ok rfl rfl ?_
  obtain ⟨o1, ho1, hk1⟩ := bd h
  refine ax_cutS (fun o1 : (List UInt8) => ⟨[(3, .a (.c (.str o1)))], []⟩) (fun o' => o1 = o') ?_ ?_
  ·
   have h := ho1
   refine ax_block ?_
   refine ax_weak (st' := ⟨[(3, _), (4, _), (0, _)], []⟩) (Wk.sub (SubL.cons rfl (SubL.cons rfl (SubL.cons rfl SubL.nil))) SubH.nil) ?_
   refine ax_loopL (fun y : Nat × (List UInt8) × Int => [(3, .a (.c (.str y.2.1))), (4, .a (.c (.val (.int .i64 y.2.2))))]) (fun y : Nat × (List UInt8) × Int => []) (fun y : Nat × (List UInt8) × Int => m_text29_L2 a0 y.1 y.2.1 y.2.2 = some o1) (fun y : Nat × (List UInt8) × Int => y.1) (FUEL, ([] : List UInt8), (0 : Int)) h ?_
   rintro ⟨n, v2_0, v2_1⟩ h
   replace h : m_text29_L2 a0 n v2_0 v2_1 = some o1 := h
   rcases n with _ | n
   · cases (show (none : Option _) = some _ from h)
   rw [m_text29_L2] at h
   try dsimp only
   refine ax_seq ?_
   refine ax_seq ?_
   refine ax_region ?_
   refine al_run tt_ok rfl rfl ?_
   refine ax_cond rfl rfl (fun hc => ?_) (fun hc => ?_)
   ·
    replace h := cond_t hc h
    refine ax_skip ?_
    refine ax_seq ?_
    refine ax_block ?_
    refine ax_seq ?_
    refine ax_seq ?_
    refine ax_region ?_
    refine al_run tt_ok rfl rfl ?_
    obtain ⟨o3, ho3, hk3⟩ := bd h
    refine ax_cutS (fun o3 : (List UInt8) => ⟨[(0, .a (.c (.lst gOp a0 c0))), (3, .a (.c (.str o3))), (4, .a (.c (.val (.int .i64 v2_1))))], []⟩) (fun o' => o3 = o') ?_ ?_
    ·
     have h := ho3
     refine ax_cond rfl rfl (fun hc => ?_) (fun hc => ?_)
     ·
      replace h := cond_t hc h
      obtain ⟨hG4, h⟩ := gd_some h
      refine ax_region ?_
      refine al_run tt_ok rfl (by first | (simp only [hG4, ob, decide_true, cond_true, cond_false]; done) | (simp_all; done) | (simp only [hG4, ob, decide_true, cond_true, cond_false]; rfl)) ?_
      exact ⟨_, (Option.some.inj h).symm, (Wk.sub (SubL.cons rfl (SubL.cons rfl (SubL.cons rfl SubL.nil))) SubH.nil)⟩
     ·
      replace h := cond_f hc h
      refine ax_skip ?_
      exact ⟨_, (Option.some.inj h).symm, (Wk.sub (SubL.cons rfl (SubL.cons rfl (SubL.cons rfl SubL.nil))) SubH.nil)⟩
    ·
     rintro _ rfl
     have h := hk3
     obtain ⟨hG7, h⟩ := gd_some h
     obtain ⟨r5, hr5, h⟩ := bd h
     obtain ⟨hG8, h⟩ := gd_some h
     refine ax_region ?_
     refine al_upto tt_ok rfl (by first | (simp only [hG7, hG8, ob, decide_true, cond_true, cond_false]; done) | (simp_all; done) | (simp only [hG7, hG8, ob, decide_true, cond_true, cond_false]; rfl)) ?_
     refine al_callP (w_optext _  r5 hr5) rfl ⟨rfl, rfl⟩ rfl Tryd.func22 rfl rfl rfl (by first | (simp only [hG7, hG8, ob, decide_true, cond_true, cond_false]; done) | (simp_all; done) | (simp only [hG7, hG8, ob, decide_true, cond_true, cond_false]; rfl)) rfl rfl ?_
     refine al_run tt_ok rfl (by first | (simp only [hG7, hG8, ob, decide_true, cond_true, cond_false]; done) | (simp_all; done) | (simp only [hG7, hG8, ob, decide_true, cond_true, cond_false]; rfl)) ?_
     obtain ⟨hG6, h⟩ := gd_some h
     refine ax_region ?_
     refine al_run tt_ok rfl (by first | (simp only [hG6, ob, decide_true, cond_true, cond_false]; done) | (simp_all; done) | (simp only [hG6, ob, decide_true, cond_true, cond_false]; rfl)) ?_
     refine ⟨(n, _, _), h, Nat.lt_succ_self _, (Wk.sub (SubL.cons rfl (SubL.cons rfl (SubL.cons rfl SubL.nil))) SubH.nil)⟩
   ·
    replace h := cond_f hc h
    refine ax_exit ?_
    exact ⟨_, (Option.some.inj h).symm, (Wk.sub (SubL.cons rfl SubL.nil) SubH.nil)⟩
  ·
   rintro _ rfl
   have h := hk1
   refine ax_seq ?_
   refine ax_region ?_
   refine al_run tt_ok rfl rfl ?_
   refine ax_ret ?_
   obtain rfl := Option.some.inj h
   refine ⟨_, (Wk.sub (st' := ⟨[(2, _)], []⟩) (SubL.cons rfl SubL.nil) SubH.nil), _, _, rfl, rfl, ?_⟩
   exact ⟨rfl, rfl⟩
end Go.Proofs.YtcjpcmofajcadaaDoor

/- Functions that change what they are handed. -/
namespace Go.Proofs.YtcjpcmofajcadaaDoor
set_option linter.unusedSimpArgs false
set_option linter.unusedVariables false
open Go.RowKit
instance opDec : DecidableEq OpT := inferInstance
def m_xput (a0 : Int) (a1 : List OpT) (a2 : (List OpT)) : Option ((List OpT)) :=
    gd ((fitB 40 (a1.length + a2.length))) <|
    some (a1 ++ a2)
set_option maxRecDepth 20000 in
set_option maxHeartbeats 4000000 in
theorem w_xput (a0 : Int) (a1 : List OpT) (a2 : (List OpT)) (c0 c1 : Option Nat) (r : ((List OpT))) (h : m_xput a0 a1 a2 = some r) : AC cx 40 [.c (.ptr 1000000 0), .c (.lst gOp a2 c1)] [(1000000, .cells 74 [.sl 1000001, .val (.int .i64 a0)]), (1000001, .row 55 gOp a1 c0)] (fun sv h => sv = .tup [] ∧ h = [(1000000, .cells 74 [.sl 1000001, .val (.int .i64 a0)]), (1000001, .row 55 gOp r none)]) := by
  unfold m_xput at h
  refine ac_body tt_ok Tryd.func40 rfl Tryd.ntmps40 rfl rfl (res := []) rfl ?_
  refine ax_weak (Wk.rowcap 1000001 rfl) ?_
  obtain ⟨hG1, h⟩ := gd_some h
  refine ax_region ?_
  refine al_run tt_ok rfl (by first | (simp only [hG1, ob, decide_true, cond_true, cond_false]; done) | (simp_all; done) | (simp only [hG1, ob, decide_true, cond_true, cond_false]; rfl)) ?_
  obtain rfl := Option.some.inj h
  refine ⟨_, (Wk.sub (st' := ⟨[], [(1000000, _), (1000001, _)]⟩) SubL.nil (SubH.cons rfl rfl (SubH.cons rfl rfl SubH.nil))), _, _, rfl, rfl, ?_⟩
  exact ⟨rfl, rfl⟩
def m_xturn (a0 : Int) (a1 : List OpT) (a2 : Int) : Option (Int × (List OpT)) :=
    cond (!(decide (a0 = a2))) (Option.bind (m_xput a0 a1 [((3 : Int), ((0 : Int), (((0 : Int), (0 : Int)), ((0 : Int), a2))))]) fun r1 =>
    some (a2, r1)) (some (a0, a1))
set_option maxRecDepth 20000 in
set_option maxHeartbeats 4000000 in
theorem w_xturn (a0 : Int) (a1 : List OpT) (a2 : Int) (c0 : Option Nat) (r : (Int × (List OpT))) (h : m_xturn a0 a1 a2 = some r) : AC cx 35 [.c (.ptr 1000000 0), .c (.val (.int .i64 a2))] [(1000000, .cells 74 [.sl 1000001, .val (.int .i64 a0)]), (1000001, .row 55 gOp a1 c0)] (fun sv h => sv = .tup [] ∧ h = [(1000000, .cells 74 [.sl 1000001, .val (.int .i64 r.1)]), (1000001, .row 55 gOp r.2 none)]) := by
  unfold m_xturn at h
  refine ac_body tt_ok Tryd.func35 rfl Tryd.ntmps35 rfl rfl (res := []) rfl ?_
  refine ax_weak (Wk.rowcap 1000001 rfl) ?_
  refine ax_seq ?_
  refine ax_region ?_
  refine al_run tt_ok rfl rfl ?_
  refine ax_cond rfl rfl (fun hc => ?_) (fun hc => ?_)
  ·
   replace h := cond_t hc h
   refine ax_seq ?_
   obtain ⟨r1, hr1, h⟩ := bd h
   refine ax_region ?_
   refine al_upto tt_ok rfl rfl ?_
   refine al_weak (Wk.frz (id := 13) rfl) ?_
   refine al_call [(1000000, 1000000), (1000001, 1000001)] (w_xput _ _ _ none (some 1) r1 hr1) rfl ⟨rfl, rfl⟩ rfl Tryd.func40 rfl rfl rfl rfl rfl rfl (PassH.cons rfl rfl rfl (PassH.cons rfl rfl rfl PassH.nil)) ?_
   rintro _ _ ⟨rfl, rfl⟩
   refine ⟨_, _, rfl, rfl, ?_⟩
   refine al_run tt_ok rfl rfl ?_
   refine ax_region ?_
   refine al_run tt_ok rfl rfl ?_
   obtain rfl := Option.some.inj h
   refine ⟨_, (Wk.sub (st' := ⟨[], [(1000000, _), (1000001, _)]⟩) SubL.nil (SubH.cons rfl rfl (SubH.cons rfl rfl SubH.nil))), _, _, rfl, rfl, ?_⟩
   exact ⟨rfl, rfl⟩
  ·
   replace h := cond_f hc h
   refine ax_skip ?_
   obtain rfl := Option.some.inj h
   refine ⟨_, (Wk.sub (st' := ⟨[], [(1000000, _), (1000001, _)]⟩) SubL.nil (SubH.cons rfl rfl (SubH.cons rfl rfl SubH.nil))), _, _, rfl, rfl, ?_⟩
   exact ⟨rfl, rfl⟩
def m_xtransfer_L2 (a0 : Int) (a2 : Int) (a3 : (List Int)) (a4 : Int) : Nat → Int → (List OpT) → Option ((List OpT))
  | 0, _, _ => none
  | n + 1, v2_0, v2_1 =>
    cond (decide (v2_0 < (a3.length : Int))) (gd ((inB v2_0 a3.length)) <|
    gd ((inI64 ((a3.getD v2_0.toNat 0) - a4))) <|
    Option.bind (m_xput a0 v2_1 [((7 : Int), ((0 : Int), ((a2, ((a3.getD v2_0.toNat 0) - a4)), ((0 : Int), (0 : Int)))))]) fun r3 =>
    gd ((inI64 (v2_0 + (1 : Int)))) <|
    m_xtransfer_L2 a0 a2 a3 a4 n (v2_0 + (1 : Int)) r3) (some v2_1)
def m_xtransfer (a0 : Int) (a1 : List OpT) (a2 : Int) (a3 : (List Int)) (a4 : Int) : Option ((List OpT)) :=
    Option.bind (m_xtransfer_L2 a0 a2 a3 a4 FUEL (0 : Int) a1) fun o1 =>
    some o1
set_option maxRecDepth 20000 in
set_option maxHeartbeats 4000000 in
theorem w_xtransfer (a0 : Int) (a1 : List OpT) (a2 : Int) (a3 : (List Int)) (a4 : Int) (c0 c1 : Option Nat) (r : ((List OpT))) (h : m_xtransfer a0 a1 a2 a3 a4 = some r) : AC cx 50 [.c (.ptr 1000000 0), .c (.val (.int .u8 a2)), .c (.lst (.int .i64) a3 c1), .c (.val (.int .i64 a4))] [(1000000, .cells 74 [.sl 1000001, .val (.int .i64 a0)]), (1000001, .row 55 gOp a1 c0)] (fun sv h => sv = .tup [] ∧ h = [(1000000, .cells 74 [.sl 1000001, .val (.int .i64 a0)]), (1000001, .row 55 gOp r none)]) := by
  unfold m_xtransfer at h
  refine ac_body tt_ok Tryd.func50 rfl Tryd.ntmps50 rfl rfl (res := []) rfl ?_
  refine ax_weak (Wk.rowcap 1000001 rfl) ?_
  refine ax_seq ?_
  refine ax_region ?_
  refine al_run tt_ok rfl rfl ?_
  obtain ⟨o1, ho1, hk1⟩ := bd h
  refine ax_cutS (fun o1 : (List OpT) => ⟨[], [(1000000, .cells 74 [.sl 1000001, .val (.int .i64 a0)]), (1000001, .row 55 gOp o1 none)]⟩) (fun o' => o1 = o') ?_ ?_
  ·
   have h := ho1
   refine ax_block ?_
   refine ax_weak (st' := ⟨[(12, _), (0, _), (1, _), (3, _), (10, _), (11, _)], [(1000001, _), (1000000, _)]⟩) (Wk.sub (SubL.cons rfl (SubL.cons rfl (SubL.cons rfl (SubL.cons rfl (SubL.cons rfl (SubL.cons rfl SubL.nil)))))) (SubH.cons rfl rfl (SubH.cons rfl rfl SubH.nil))) ?_
   refine ax_loopL (fun y : Nat × Int × (List OpT) => [(12, .a (.c (.val (.int .i64 y.2.1))))]) (fun y : Nat × Int × (List OpT) => [(1000001, .row 55 gOp y.2.2 none)]) (fun y : Nat × Int × (List OpT) => m_xtransfer_L2 a0 a2 a3 a4 y.1 y.2.1 y.2.2 = some o1) (fun y : Nat × Int × (List OpT) => y.1) (FUEL, (0 : Int), a1) h ?_
   rintro ⟨n, v2_0, v2_1⟩ h
   replace h : m_xtransfer_L2 a0 a2 a3 a4 n v2_0 v2_1 = some o1 := h
   rcases n with _ | n
   · cases (show (none : Option _) = some _ from h)
   rw [m_xtransfer_L2] at h
   try dsimp only
   refine ax_seq ?_
   refine ax_region ?_
   refine al_run tt_ok rfl rfl ?_
   refine ax_seq ?_
   refine ax_cond rfl rfl (fun hc => ?_) (fun hc => ?_)
   ·
    replace h := cond_t hc h
    refine ax_skip ?_
    refine ax_seq ?_
    refine ax_block ?_
    refine ax_seq ?_
    obtain ⟨hG6, h⟩ := gd_some h
    refine ax_region ?_
    refine al_run tt_ok rfl (by first | (simp only [hG6, ob, decide_true, cond_true, cond_false]; done) | (simp_all; done) | (simp only [hG6, ob, decide_true, cond_true, cond_false]; rfl)) ?_
    obtain ⟨hG5, h⟩ := gd_some h
    obtain ⟨r3, hr3, h⟩ := bd h
    refine ax_region ?_
    refine al_upto tt_ok rfl (by first | (simp only [hG5, ob, decide_true, cond_true, cond_false]; done) | (simp_all; done) | (simp only [hG5, ob, decide_true, cond_true, cond_false]; rfl)) ?_
    refine al_weak (Wk.frz (id := 23) rfl) ?_
    refine al_call [(1000000, 1000000), (1000001, 1000001)] (w_xput _ _ _ none (some 1) r3 hr3) rfl ⟨rfl, rfl⟩ rfl Tryd.func40 rfl rfl rfl (by first | (simp only [hG5, ob, decide_true, cond_true, cond_false]; done) | (simp_all; done) | (simp only [hG5, ob, decide_true, cond_true, cond_false]; rfl)) rfl rfl (PassH.cons rfl rfl rfl (PassH.cons rfl rfl rfl PassH.nil)) ?_
    rintro _ _ ⟨rfl, rfl⟩
    refine ⟨_, _, rfl, rfl, ?_⟩
    refine al_run tt_ok rfl (by first | (simp only [hG5, ob, decide_true, cond_true, cond_false]; done) | (simp_all; done) | (simp only [hG5, ob, decide_true, cond_true, cond_false]; rfl)) ?_
    obtain ⟨hG4, h⟩ := gd_some h
    refine ax_region ?_
    refine al_run tt_ok rfl (by first | (simp only [hG4, ob, decide_true, cond_true, cond_false]; done) | (simp_all; done) | (simp only [hG4, ob, decide_true, cond_true, cond_false]; rfl)) ?_
    refine ⟨(n, _, _), h, Nat.lt_succ_self _, (Wk.sub (SubL.cons rfl (SubL.cons rfl (SubL.cons rfl (SubL.cons rfl (SubL.cons rfl (SubL.cons rfl SubL.nil)))))) (SubH.cons rfl rfl (SubH.cons rfl rfl SubH.nil)))⟩
   ·
    replace h := cond_f hc h
    refine ax_exit ?_
    exact ⟨_, (Option.some.inj h).symm, (Wk.sub SubL.nil (SubH.cons rfl rfl (SubH.cons rfl rfl SubH.nil)))⟩
  ·
   rintro _ rfl
   have h := hk1
   obtain rfl := Option.some.inj h
   refine ⟨_, (Wk.sub (st' := ⟨[], [(1000000, _), (1000001, _)]⟩) SubL.nil (SubH.cons rfl rfl (SubH.cons rfl rfl SubH.nil))), _, _, rfl, rfl, ?_⟩
   exact ⟨rfl, rfl⟩
def m_isnan8 (a0 : Int) : Option (Bool) :=
    some (!(decide (a0 = a0)))
set_option maxRecDepth 20000 in
set_option maxHeartbeats 4000000 in
theorem w_isnan8 (a0 : Int) (r : (Bool)) (h : m_isnan8 a0 = some r) : AC cx 93 [.c (.val (.int .u8 a0))] [] (fun sv h => sv = .a (.c (.val (.bool r))) ∧ h = []) := by
  unfold m_isnan8 at h
  refine ac_body tt_ok Tryd.func93 rfl Tryd.ntmps93 rfl rfl (res := [.tmp 2]) rfl ?_
  refine ax_seq ?_
  refine ax_region ?_
  refine al_run tt_ok rfl rfl ?_
  refine ax_seq ?_
  refine ax_region ?_
  refine al_run tt_ok rfl rfl ?_
  refine ax_ret ?_
  obtain rfl := Option.some.inj h
  refine ⟨_, (Wk.sub (st' := ⟨[(2, _)], []⟩) (SubL.cons rfl SubL.nil) SubH.nil), _, _, rfl, rfl, ?_⟩
  exact ⟨rfl, rfl⟩
def m_less8 (a0 : Int) (a1 : Int) : Option (Bool) :=
    Option.bind (m_isnan8 a0) fun r1 =>
    Option.bind (cond r1 (m_isnan8 a1) (some default)) fun r2 =>
    some (cond (cond r1 (!r2) false) true (decide (a0 < a1)))
set_option maxRecDepth 20000 in
set_option maxHeartbeats 4000000 in
theorem w_less8 (a0 : Int) (a1 : Int) (r : (Bool)) (h : m_less8 a0 a1 = some r) : AC cx 79 [.c (.val (.int .u8 a0)), .c (.val (.int .u8 a1))] [] (fun sv h => sv = .a (.c (.val (.bool r))) ∧ h = []) := by
  unfold m_less8 at h
  refine ac_body tt_ok Tryd.func79 rfl Tryd.ntmps79 rfl rfl (res := [.tmp 4]) rfl ?_
  refine ax_seq ?_
  refine ax_region ?_
  refine al_run tt_ok rfl rfl ?_
  refine ax_seq ?_
  obtain ⟨r1, hr1, h⟩ := bd h
  obtain ⟨r2, hr2, h⟩ := bd h
  refine ax_region ?_
  refine al_upto tt_ok rfl (by first | (generalize r1 = b0; generalize r2 = b1; revert b0 b1; decide) | (simp only [ob, decide_true, cond_true, cond_false]; done) | (simp_all; done) | (simp only [ob, decide_true, cond_true, cond_false]; rfl)) ?_
  refine al_callP (w_isnan8 _  r1 hr1) rfl ⟨rfl, rfl⟩ rfl Tryd.func93 rfl rfl rfl (by first | (generalize r1 = b0; generalize r2 = b1; revert b0 b1; decide) | (simp only [ob, decide_true, cond_true, cond_false]; done) | (simp_all; done) | (simp only [ob, decide_true, cond_true, cond_false]; rfl)) rfl rfl ?_
  refine al_upto tt_ok rfl (by first | (generalize r1 = b0; generalize r2 = b1; revert b0 b1; decide) | (simp only [ob, decide_true, cond_true, cond_false]; done) | (simp_all; done) | (simp only [ob, decide_true, cond_true, cond_false]; rfl)) ?_
  refine al_guard (.c (.val (.bool r2))) rfl rfl rfl rfl rfl (fun hq3 => ?_) (fun hq3 => ?_)
  ·
   replace hr2 := cond_t hq3 hr2
   try simp only [ob2, cond_true, cond_false] at hq3
   all_goals
    refine al_callP (w_isnan8 _  r2 hr2) rfl ⟨rfl, rfl⟩ rfl Tryd.func93 rfl rfl rfl (by first | (simp only [hq3, ob, decide_true, cond_true, cond_false]; done) | (revert hq3; generalize r1 = b0; generalize r2 = b1; revert b0 b1; decide) | (simp_all; done) | (simp only [hq3, ob, decide_true, cond_true, cond_false]; rfl)) rfl rfl ?_
    refine al_run tt_ok rfl (by first | (simp only [hq3, ob, decide_true, cond_true, cond_false]; done) | (revert hq3; generalize r1 = b0; generalize r2 = b1; revert b0 b1; decide) | (simp_all; done) | (simp only [hq3, ob, decide_true, cond_true, cond_false]; rfl)) ?_
    refine ax_ret ?_
    obtain rfl := Option.some.inj h
    refine ⟨_, (Wk.sub (st' := ⟨[(4, _)], []⟩) (SubL.cons rfl SubL.nil) SubH.nil), _, _, rfl, rfl, ?_⟩
    exact ⟨rfl, rfl⟩
  ·
   try simp only [ob2, cond_true, cond_false] at hq3
   all_goals
    refine al_run tt_ok rfl (by first | (simp only [hq3, ob, decide_true, cond_true, cond_false]; done) | (revert hq3; generalize r1 = b0; generalize r2 = b1; revert b0 b1; decide) | (simp_all; done) | (simp only [hq3, ob, decide_true, cond_true, cond_false]; rfl)) ?_
    refine ax_ret ?_
    obtain rfl := Option.some.inj h
    refine ⟨_, (Wk.sub (st' := ⟨[(4, _)], []⟩) (SubL.cons rfl SubL.nil) SubH.nil), _, _, rfl, rfl, ?_⟩
    exact ⟨rfl, rfl⟩
def m_insort_L4 (a1 : Int) : Nat → Int → (List Int) → Option ((List Int))
  | 0, _, _ => none
  | n + 1, v4_0, v4_1 =>
    gd ((!(decide (a1 < v4_0)) || (inB v4_0 v4_1.length)) && (!(decide (a1 < v4_0)) || (decide (v4_0.toNat < v4_1.length))) && (!(decide (a1 < v4_0)) || (inI64 (v4_0 - (1 : Int)))) && (!(decide (a1 < v4_0)) || (inB (v4_0 - (1 : Int)) v4_1.length)) && (!(decide (a1 < v4_0)) || (decide ((v4_0 - (1 : Int)).toNat < v4_1.length)))) <|
    Option.bind (cond (decide (a1 < v4_0)) (m_less8 (v4_1.getD v4_0.toNat 0) (v4_1.getD (v4_0 - (1 : Int)).toNat 0)) (some default)) fun r5 =>
    cond (cond (decide (a1 < v4_0)) r5 false) (gd ((inI64 (v4_0 - (1 : Int))) && (inB (v4_0 - (1 : Int)) v4_1.length) && (decide ((v4_0 - (1 : Int)).toNat < v4_1.length)) && (inB v4_0 v4_1.length) && (decide (v4_0.toNat < v4_1.length)) && (inB (v4_0 - (1 : Int)) (v4_1.set v4_0.toNat (v4_1.getD (v4_0 - (1 : Int)).toNat 0)).length) && (decide ((v4_0 - (1 : Int)).toNat < (v4_1.set v4_0.toNat (v4_1.getD (v4_0 - (1 : Int)).toNat 0)).length))) <|
    gd ((inI64 (v4_0 - (1 : Int)))) <|
    m_insort_L4 a1 n (v4_0 - (1 : Int)) ((v4_1.set v4_0.toNat (v4_1.getD (v4_0 - (1 : Int)).toNat 0)).set (v4_0 - (1 : Int)).toNat (v4_1.getD v4_0.toNat 0))) (some v4_1)
def m_insort_L2 (a1 : Int) (a2 : Int) : Nat → Int → (List Int) → Option ((List Int))
  | 0, _, _ => none
  | n + 1, v2_0, v2_1 =>
    cond (decide (v2_0 < a2)) (Option.bind (m_insort_L4 a1 FUEL v2_0 v2_1) fun o3 =>
    gd ((inI64 (v2_0 + (1 : Int)))) <|
    m_insort_L2 a1 a2 n (v2_0 + (1 : Int)) o3) (some v2_1)
def m_insort (a0 : List Int) (a1 : Int) (a2 : Int) : Option ((List Int)) :=
    gd ((inI64 (a1 + (1 : Int)))) <|
    Option.bind (m_insort_L2 a1 a2 FUEL (a1 + (1 : Int)) a0) fun o1 =>
    some o1
set_option maxRecDepth 20000 in
set_option maxHeartbeats 4000000 in
theorem w_insort (a0 : List Int) (a1 : Int) (a2 : Int) (c0 : Option Nat) (r : ((List Int))) (h : m_insort a0 a1 a2 = some r) : AC cx 73 [.c (.sl 2000000), .c (.val (.int .i64 a1)), .c (.val (.int .i64 a2))] [(2000000, .row 5 (.int .u8) a0 c0)] (fun sv h => sv = .tup [] ∧ h = [(2000000, .row 5 (.int .u8) r c0)]) := by
  unfold m_insort at h
  refine ac_body tt_ok Tryd.func73 rfl Tryd.ntmps73 rfl rfl (res := []) rfl ?_
  refine ax_seq ?_
  obtain ⟨hG10, h⟩ := gd_some h
  refine ax_region ?_
  refine al_run tt_ok rfl (by first | (simp only [hG10, ob, decide_true, cond_true, cond_false]; done) | (simp_all; done) | (simp only [hG10, ob, decide_true, cond_true, cond_false]; rfl)) ?_
  obtain ⟨o1, ho1, hk1⟩ := bd h
  refine ax_cutS (fun o1 : (List Int) => ⟨[], [(2000000, .row 5 (.int .u8) o1 c0)]⟩) (fun o' => o1 = o') ?_ ?_
  ·
   have h := ho1
   refine ax_block ?_
   refine ax_weak (st' := ⟨[(6, _), (0, _), (1, _), (2, _)], [(2000000, _)]⟩) (Wk.sub (SubL.cons rfl (SubL.cons rfl (SubL.cons rfl (SubL.cons rfl SubL.nil)))) (SubH.cons rfl rfl SubH.nil)) ?_
   refine ax_loopL (fun y : Nat × Int × (List Int) => [(6, .a (.c (.val (.int .i64 y.2.1))))]) (fun y : Nat × Int × (List Int) => [(2000000, .row 5 (.int .u8) y.2.2 c0)]) (fun y : Nat × Int × (List Int) => m_insort_L2 a1 a2 y.1 y.2.1 y.2.2 = some o1) (fun y : Nat × Int × (List Int) => y.1) (FUEL, (a1 + (1 : Int)), a0) h ?_
   rintro ⟨n, v2_0, v2_1⟩ h
   replace h : m_insort_L2 a1 a2 n v2_0 v2_1 = some o1 := h
   rcases n with _ | n
   · cases (show (none : Option _) = some _ from h)
   rw [m_insort_L2] at h
   try dsimp only
   refine ax_seq ?_
   refine ax_seq ?_
   refine ax_region ?_
   refine al_run tt_ok rfl rfl ?_
   refine ax_cond rfl rfl (fun hc => ?_) (fun hc => ?_)
   ·
    replace h := cond_t hc h
    refine ax_skip ?_
    refine ax_seq ?_
    refine ax_block ?_
    refine ax_seq ?_
    refine ax_region ?_
    refine al_run tt_ok rfl rfl ?_
    obtain ⟨o3, ho3, hk3⟩ := bd h
    refine ax_cutS (fun o3 : (List Int) => ⟨[(0, .a (.c (.sl 2000000))), (1, .a (.c (.val (.int .i64 a1)))), (2, .a (.c (.val (.int .i64 a2)))), (6, .a (.c (.val (.int .i64 v2_0))))], [(2000000, .row 5 (.int .u8) o3 c0)]⟩) (fun o' => o3 = o') ?_ ?_
    ·
     have h := ho3
     refine ax_block ?_
     refine ax_weak (st' := ⟨[(7, _), (0, _), (1, _), (2, _), (6, _)], [(2000000, _)]⟩) (Wk.sub (SubL.cons rfl (SubL.cons rfl (SubL.cons rfl (SubL.cons rfl (SubL.cons rfl SubL.nil))))) (SubH.cons rfl rfl SubH.nil)) ?_
     refine ax_loopL (fun y : Nat × Int × (List Int) => [(7, .a (.c (.val (.int .i64 y.2.1))))]) (fun y : Nat × Int × (List Int) => [(2000000, .row 5 (.int .u8) y.2.2 c0)]) (fun y : Nat × Int × (List Int) => m_insort_L4 a1 y.1 y.2.1 y.2.2 = some o3) (fun y : Nat × Int × (List Int) => y.1) (FUEL, v2_0, v2_1) h ?_
     rintro ⟨n, v4_0, v4_1⟩ h
     replace h : m_insort_L4 a1 n v4_0 v4_1 = some o3 := h
     rcases n with _ | n
     · cases (show (none : Option _) = some _ from h)
     rw [m_insort_L4] at h
     try dsimp only
     refine ax_seq ?_
     refine ax_seq ?_
     obtain ⟨hG8, h⟩ := gd_some h
     simp only [Bool.and_eq_true] at hG8
     obtain ⟨⟨⟨⟨hG8_0, hG8_1⟩, hG8_2⟩, hG8_3⟩, hG8_4⟩ := hG8
     obtain ⟨r5, hr5, h⟩ := bd h
     apply ax_cut
     ·
       refine ax_draw [] (by kernel_rfl) rfl (N := 15) ?_
       refine ad_run (fuel := 4) (ds' := ⟨#[true, true, true, true, true, true, true, false, true, true, true, true, false, false, false], true, true, true⟩) tt_ok [(0, 0), (1, 0), (2, 0), (3, 0), (4, 0), (5, 0), (6, 0), (8, 0), (9, 0), (10, 0), (11, 0)] (by kernel_rfl) rfl (by first | exact (by first | (revert hg4 hG8_0 hG8_1 hG8_2 hG8_3 hG8_4; generalize (decide ((v4_0 - (1 : Int)).toNat < v4_1.length)) = b0; generalize (inB (v4_0 - (1 : Int)) v4_1.length) = b1; generalize (decide (v4_0.toNat < v4_1.length)) = b2; generalize (inI64 (v4_0 - (1 : Int))) = b3; generalize (inB v4_0 v4_1.length) = b4; generalize (decide (a1 < v4_0)) = b5; cases b0 <;> cases b1 <;> cases b2 <;> cases b3 <;> cases b4 <;> cases b5 <;> decide) | (simp only [hg4, hG8_0, hG8_1, hG8_2, hG8_3, hG8_4, ob, decide_true, cond_true, cond_false]; done) | (simp_all; done) | (simp only [hg4, hG8_0, hG8_1, hG8_2, hG8_3, hG8_4, ob, decide_true, cond_true, cond_false]; rfl)) | exact (by first | (revert hG8_0 hG8_1 hG8_2 hG8_3 hG8_4; generalize (decide ((v4_0 - (1 : Int)).toNat < v4_1.length)) = b0; generalize (inB (v4_0 - (1 : Int)) v4_1.length) = b1; generalize (decide (v4_0.toNat < v4_1.length)) = b2; generalize (inI64 (v4_0 - (1 : Int))) = b3; generalize (inB v4_0 v4_1.length) = b4; generalize (decide (a1 < v4_0)) = b5; cases b0 <;> cases b1 <;> cases b2 <;> cases b3 <;> cases b4 <;> cases b5 <;> decide) | (simp only [hG8_0, hG8_1, hG8_2, hG8_3, hG8_4, ob, decide_true, cond_true, cond_false]; done) | (simp_all; done) | (simp only [hG8_0, hG8_1, hG8_2, hG8_3, hG8_4, ob, decide_true, cond_true, cond_false]; rfl))) ?_
       refine ad_ready (by kernel_rfl) (ads_cons (i := 7) ?_ (ads_cons (i := 12) ?_ ads_nil))
       ·
         refine ado_step tt_ok (i := 7) rfl rfl rfl (by first | exact (by first | (revert hg4 hG8_0 hG8_1 hG8_2 hG8_3 hG8_4; generalize (decide ((v4_0 - (1 : Int)).toNat < v4_1.length)) = b0; generalize (inB (v4_0 - (1 : Int)) v4_1.length) = b1; generalize (decide (v4_0.toNat < v4_1.length)) = b2; generalize (inI64 (v4_0 - (1 : Int))) = b3; generalize (inB v4_0 v4_1.length) = b4; generalize (decide (a1 < v4_0)) = b5; cases b0 <;> cases b1 <;> cases b2 <;> cases b3 <;> cases b4 <;> cases b5 <;> decide) | (simp only [hg4, hG8_0, hG8_1, hG8_2, hG8_3, hG8_4, ob, decide_true, cond_true, cond_false]; done) | (simp_all; done) | (simp only [hg4, hG8_0, hG8_1, hG8_2, hG8_3, hG8_4, ob, decide_true, cond_true, cond_false]; rfl)) | exact (by first | (revert hG8_0 hG8_1 hG8_2 hG8_3 hG8_4; generalize (decide ((v4_0 - (1 : Int)).toNat < v4_1.length)) = b0; generalize (inB (v4_0 - (1 : Int)) v4_1.length) = b1; generalize (decide (v4_0.toNat < v4_1.length)) = b2; generalize (inI64 (v4_0 - (1 : Int))) = b3; generalize (inB v4_0 v4_1.length) = b4; generalize (decide (a1 < v4_0)) = b5; cases b0 <;> cases b1 <;> cases b2 <;> cases b3 <;> cases b4 <;> cases b5 <;> decide) | (simp only [hG8_0, hG8_1, hG8_2, hG8_3, hG8_4, ob, decide_true, cond_true, cond_false]; done) | (simp_all; done) | (simp only [hG8_0, hG8_1, hG8_2, hG8_3, hG8_4, ob, decide_true, cond_true, cond_false]; rfl))) rfl ?_
         refine ad_run (fuel := 2) (ds' := ⟨#[true, true, true, true, true, true, true, true, true, true, true, true, true, false, false], false, false, true⟩) tt_ok [(12, 2)] (by kernel_rfl) rfl (by first | exact (by first | (revert hg4 hG8_0 hG8_1 hG8_2 hG8_3 hG8_4; generalize (decide ((v4_0 - (1 : Int)).toNat < v4_1.length)) = b0; generalize (inB (v4_0 - (1 : Int)) v4_1.length) = b1; generalize (decide (v4_0.toNat < v4_1.length)) = b2; generalize (inI64 (v4_0 - (1 : Int))) = b3; generalize (inB v4_0 v4_1.length) = b4; generalize (decide (a1 < v4_0)) = b5; cases b0 <;> cases b1 <;> cases b2 <;> cases b3 <;> cases b4 <;> cases b5 <;> decide) | (simp only [hg4, hG8_0, hG8_1, hG8_2, hG8_3, hG8_4, ob, decide_true, cond_true, cond_false]; done) | (simp_all; done) | (simp only [hg4, hG8_0, hG8_1, hG8_2, hG8_3, hG8_4, ob, decide_true, cond_true, cond_false]; rfl)) | exact (by first | (revert hG8_0 hG8_1 hG8_2 hG8_3 hG8_4; generalize (decide ((v4_0 - (1 : Int)).toNat < v4_1.length)) = b0; generalize (inB (v4_0 - (1 : Int)) v4_1.length) = b1; generalize (decide (v4_0.toNat < v4_1.length)) = b2; generalize (inI64 (v4_0 - (1 : Int))) = b3; generalize (inB v4_0 v4_1.length) = b4; generalize (decide (a1 < v4_0)) = b5; cases b0 <;> cases b1 <;> cases b2 <;> cases b3 <;> cases b4 <;> cases b5 <;> decide) | (simp only [hG8_0, hG8_1, hG8_2, hG8_3, hG8_4, ob, decide_true, cond_true, cond_false]; done) | (simp_all; done) | (simp only [hG8_0, hG8_1, hG8_2, hG8_3, hG8_4, ob, decide_true, cond_true, cond_false]; rfl))) ?_
         refine ad_ready (by kernel_rfl) (ads_cons (i := 13) ?_ ads_nil)
         refine ado_guard (.c (.val (.bool r5))) (i := 13) (listed' := #[true, true, true, true, true, true, true, true, true, true, true, true, true, true, false]) rfl rfl rfl rfl rfl rfl rfl rfl (fun hg4 => ?_) (fun hg4 => ?_)
         ·
           replace hr5 := cond_t hg4 hr5
           refine adx_call (i := 13) (listed' := #[true, true, true, true, true, true, true, true, true, true, true, true, true, true, false]) (pre' := false) [] (w_less8 _ _  r5 hr5) rfl rfl rfl rfl ⟨rfl, rfl⟩ rfl Tryd.func79 rfl rfl rfl (by first | exact (by first | (revert hg4 hG8_0 hG8_1 hG8_2 hG8_3 hG8_4; generalize (decide ((v4_0 - (1 : Int)).toNat < v4_1.length)) = b0; generalize (inB (v4_0 - (1 : Int)) v4_1.length) = b1; generalize (decide (v4_0.toNat < v4_1.length)) = b2; generalize (inI64 (v4_0 - (1 : Int))) = b3; generalize (inB v4_0 v4_1.length) = b4; generalize (decide (a1 < v4_0)) = b5; cases b0 <;> cases b1 <;> cases b2 <;> cases b3 <;> cases b4 <;> cases b5 <;> decide) | (simp only [hg4, hG8_0, hG8_1, hG8_2, hG8_3, hG8_4, ob, decide_true, cond_true, cond_false]; done) | (simp_all; done) | (simp only [hg4, hG8_0, hG8_1, hG8_2, hG8_3, hG8_4, ob, decide_true, cond_true, cond_false]; rfl)) | exact (by first | (revert hG8_0 hG8_1 hG8_2 hG8_3 hG8_4; generalize (decide ((v4_0 - (1 : Int)).toNat < v4_1.length)) = b0; generalize (inB (v4_0 - (1 : Int)) v4_1.length) = b1; generalize (decide (v4_0.toNat < v4_1.length)) = b2; generalize (inI64 (v4_0 - (1 : Int))) = b3; generalize (inB v4_0 v4_1.length) = b4; generalize (decide (a1 < v4_0)) = b5; cases b0 <;> cases b1 <;> cases b2 <;> cases b3 <;> cases b4 <;> cases b5 <;> decide) | (simp only [hG8_0, hG8_1, hG8_2, hG8_3, hG8_4, ob, decide_true, cond_true, cond_false]; done) | (simp_all; done) | (simp only [hG8_0, hG8_1, hG8_2, hG8_3, hG8_4, ob, decide_true, cond_true, cond_false]; rfl))) rfl rfl PassH.nil ?_
           rintro _ _ ⟨rfl, rfl⟩
           refine ⟨_, _, rfl, rfl, ?_⟩
           refine ad_run (fuel := 0) (ds' := ⟨#[true, true, true, true, true, true, true, true, true, true, true, true, true, true, true], false, false, false⟩) tt_ok [(14, 0)] (by kernel_rfl) rfl (by first | exact (by first | (revert hg4 hG8_0 hG8_1 hG8_2 hG8_3 hG8_4; generalize (decide ((v4_0 - (1 : Int)).toNat < v4_1.length)) = b0; generalize (inB (v4_0 - (1 : Int)) v4_1.length) = b1; generalize (decide (v4_0.toNat < v4_1.length)) = b2; generalize (inI64 (v4_0 - (1 : Int))) = b3; generalize (inB v4_0 v4_1.length) = b4; generalize (decide (a1 < v4_0)) = b5; cases b0 <;> cases b1 <;> cases b2 <;> cases b3 <;> cases b4 <;> cases b5 <;> decide) | (simp only [hg4, hG8_0, hG8_1, hG8_2, hG8_3, hG8_4, ob, decide_true, cond_true, cond_false]; done) | (simp_all; done) | (simp only [hg4, hG8_0, hG8_1, hG8_2, hG8_3, hG8_4, ob, decide_true, cond_true, cond_false]; rfl)) | exact (by first | (revert hG8_0 hG8_1 hG8_2 hG8_3 hG8_4; generalize (decide ((v4_0 - (1 : Int)).toNat < v4_1.length)) = b0; generalize (inB (v4_0 - (1 : Int)) v4_1.length) = b1; generalize (decide (v4_0.toNat < v4_1.length)) = b2; generalize (inI64 (v4_0 - (1 : Int))) = b3; generalize (inB v4_0 v4_1.length) = b4; generalize (decide (a1 < v4_0)) = b5; cases b0 <;> cases b1 <;> cases b2 <;> cases b3 <;> cases b4 <;> cases b5 <;> decide) | (simp only [hG8_0, hG8_1, hG8_2, hG8_3, hG8_4, ob, decide_true, cond_true, cond_false]; done) | (simp_all; done) | (simp only [hG8_0, hG8_1, hG8_2, hG8_3, hG8_4, ob, decide_true, cond_true, cond_false]; rfl))) ?_
           refine ad_done (by kernel_rfl) ?_
           exact ⟨rfl, Wk.sub (st' := ⟨[(0, _), (1, _), (2, _), (6, _), (7, _), (30, _)], [(2000000, _)]⟩) (SubL.cons rfl (SubL.cons rfl (SubL.cons rfl (SubL.cons rfl (SubL.cons rfl (SubL.cons rfl SubL.nil)))))) (SubH.cons rfl rfl SubH.nil)⟩
         ·
           refine ad_run (fuel := 0) (ds' := ⟨#[true, true, true, true, true, true, true, true, true, true, true, true, true, true, true], false, false, true⟩) tt_ok [(14, 0)] (by kernel_rfl) rfl (by first | exact (by first | (revert hg4 hG8_0 hG8_1 hG8_2 hG8_3 hG8_4; generalize (decide ((v4_0 - (1 : Int)).toNat < v4_1.length)) = b0; generalize (inB (v4_0 - (1 : Int)) v4_1.length) = b1; generalize (decide (v4_0.toNat < v4_1.length)) = b2; generalize (inI64 (v4_0 - (1 : Int))) = b3; generalize (inB v4_0 v4_1.length) = b4; generalize (decide (a1 < v4_0)) = b5; cases b0 <;> cases b1 <;> cases b2 <;> cases b3 <;> cases b4 <;> cases b5 <;> decide) | (simp only [hg4, hG8_0, hG8_1, hG8_2, hG8_3, hG8_4, ob, decide_true, cond_true, cond_false]; done) | (simp_all; done) | (simp only [hg4, hG8_0, hG8_1, hG8_2, hG8_3, hG8_4, ob, decide_true, cond_true, cond_false]; rfl)) | exact (by first | (revert hG8_0 hG8_1 hG8_2 hG8_3 hG8_4; generalize (decide ((v4_0 - (1 : Int)).toNat < v4_1.length)) = b0; generalize (inB (v4_0 - (1 : Int)) v4_1.length) = b1; generalize (decide (v4_0.toNat < v4_1.length)) = b2; generalize (inI64 (v4_0 - (1 : Int))) = b3; generalize (inB v4_0 v4_1.length) = b4; generalize (decide (a1 < v4_0)) = b5; cases b0 <;> cases b1 <;> cases b2 <;> cases b3 <;> cases b4 <;> cases b5 <;> decide) | (simp only [hG8_0, hG8_1, hG8_2, hG8_3, hG8_4, ob, decide_true, cond_true, cond_false]; done) | (simp_all; done) | (simp only [hG8_0, hG8_1, hG8_2, hG8_3, hG8_4, ob, decide_true, cond_true, cond_false]; rfl))) ?_
           refine ad_done (by kernel_rfl) ?_
           exact ⟨rfl, Wk.sub (st' := ⟨[(0, _), (1, _), (2, _), (6, _), (7, _), (30, _)], [(2000000, _)]⟩) (SubL.cons rfl (SubL.cons rfl (SubL.cons rfl (SubL.cons rfl (SubL.cons rfl (SubL.cons rfl SubL.nil)))))) (SubH.cons rfl rfl SubH.nil)⟩
       ·
         refine ado_step tt_ok (i := 12) rfl rfl rfl (by first | exact (by first | (revert hg4 hG8_0 hG8_1 hG8_2 hG8_3 hG8_4; generalize (decide ((v4_0 - (1 : Int)).toNat < v4_1.length)) = b0; generalize (inB (v4_0 - (1 : Int)) v4_1.length) = b1; generalize (decide (v4_0.toNat < v4_1.length)) = b2; generalize (inI64 (v4_0 - (1 : Int))) = b3; generalize (inB v4_0 v4_1.length) = b4; generalize (decide (a1 < v4_0)) = b5; cases b0 <;> cases b1 <;> cases b2 <;> cases b3 <;> cases b4 <;> cases b5 <;> decide) | (simp only [hg4, hG8_0, hG8_1, hG8_2, hG8_3, hG8_4, ob, decide_true, cond_true, cond_false]; done) | (simp_all; done) | (simp only [hg4, hG8_0, hG8_1, hG8_2, hG8_3, hG8_4, ob, decide_true, cond_true, cond_false]; rfl)) | exact (by first | (revert hG8_0 hG8_1 hG8_2 hG8_3 hG8_4; generalize (decide ((v4_0 - (1 : Int)).toNat < v4_1.length)) = b0; generalize (inB (v4_0 - (1 : Int)) v4_1.length) = b1; generalize (decide (v4_0.toNat < v4_1.length)) = b2; generalize (inI64 (v4_0 - (1 : Int))) = b3; generalize (inB v4_0 v4_1.length) = b4; generalize (decide (a1 < v4_0)) = b5; cases b0 <;> cases b1 <;> cases b2 <;> cases b3 <;> cases b4 <;> cases b5 <;> decide) | (simp only [hG8_0, hG8_1, hG8_2, hG8_3, hG8_4, ob, decide_true, cond_true, cond_false]; done) | (simp_all; done) | (simp only [hG8_0, hG8_1, hG8_2, hG8_3, hG8_4, ob, decide_true, cond_true, cond_false]; rfl))) rfl ?_
         refine ad_run (fuel := 2) (ds' := ⟨#[true, true, true, true, true, true, true, true, true, true, true, true, true, false, false], false, false, true⟩) tt_ok [(7, 2)] (by kernel_rfl) rfl (by first | exact (by first | (revert hg4 hG8_0 hG8_1 hG8_2 hG8_3 hG8_4; generalize (decide ((v4_0 - (1 : Int)).toNat < v4_1.length)) = b0; generalize (inB (v4_0 - (1 : Int)) v4_1.length) = b1; generalize (decide (v4_0.toNat < v4_1.length)) = b2; generalize (inI64 (v4_0 - (1 : Int))) = b3; generalize (inB v4_0 v4_1.length) = b4; generalize (decide (a1 < v4_0)) = b5; cases b0 <;> cases b1 <;> cases b2 <;> cases b3 <;> cases b4 <;> cases b5 <;> decide) | (simp only [hg4, hG8_0, hG8_1, hG8_2, hG8_3, hG8_4, ob, decide_true, cond_true, cond_false]; done) | (simp_all; done) | (simp only [hg4, hG8_0, hG8_1, hG8_2, hG8_3, hG8_4, ob, decide_true, cond_true, cond_false]; rfl)) | exact (by first | (revert hG8_0 hG8_1 hG8_2 hG8_3 hG8_4; generalize (decide ((v4_0 - (1 : Int)).toNat < v4_1.length)) = b0; generalize (inB (v4_0 - (1 : Int)) v4_1.length) = b1; generalize (decide (v4_0.toNat < v4_1.length)) = b2; generalize (inI64 (v4_0 - (1 : Int))) = b3; generalize (inB v4_0 v4_1.length) = b4; generalize (decide (a1 < v4_0)) = b5; cases b0 <;> cases b1 <;> cases b2 <;> cases b3 <;> cases b4 <;> cases b5 <;> decide) | (simp only [hG8_0, hG8_1, hG8_2, hG8_3, hG8_4, ob, decide_true, cond_true, cond_false]; done) | (simp_all; done) | (simp only [hG8_0, hG8_1, hG8_2, hG8_3, hG8_4, ob, decide_true, cond_true, cond_false]; rfl))) ?_
         refine ad_ready (by kernel_rfl) (ads_cons (i := 13) ?_ ads_nil)
         refine ado_guard (.c (.val (.bool r5))) (i := 13) (listed' := #[true, true, true, true, true, true, true, true, true, true, true, true, true, true, false]) rfl rfl rfl rfl rfl rfl rfl rfl (fun hg4 => ?_) (fun hg4 => ?_)
         ·
           replace hr5 := cond_t hg4 hr5
           refine adx_call (i := 13) (listed' := #[true, true, true, true, true, true, true, true, true, true, true, true, true, true, false]) (pre' := false) [] (w_less8 _ _  r5 hr5) rfl rfl rfl rfl ⟨rfl, rfl⟩ rfl Tryd.func79 rfl rfl rfl (by first | exact (by first | (revert hg4 hG8_0 hG8_1 hG8_2 hG8_3 hG8_4; generalize (decide ((v4_0 - (1 : Int)).toNat < v4_1.length)) = b0; generalize (inB (v4_0 - (1 : Int)) v4_1.length) = b1; generalize (decide (v4_0.toNat < v4_1.length)) = b2; generalize (inI64 (v4_0 - (1 : Int))) = b3; generalize (inB v4_0 v4_1.length) = b4; generalize (decide (a1 < v4_0)) = b5; cases b0 <;> cases b1 <;> cases b2 <;> cases b3 <;> cases b4 <;> cases b5 <;> decide) | (simp only [hg4, hG8_0, hG8_1, hG8_2, hG8_3, hG8_4, ob, decide_true, cond_true, cond_false]; done) | (simp_all; done) | (simp only [hg4, hG8_0, hG8_1, hG8_2, hG8_3, hG8_4, ob, decide_true, cond_true, cond_false]; rfl)) | exact (by first | (revert hG8_0 hG8_1 hG8_2 hG8_3 hG8_4; generalize (decide ((v4_0 - (1 : Int)).toNat < v4_1.length)) = b0; generalize (inB (v4_0 - (1 : Int)) v4_1.length) = b1; generalize (decide (v4_0.toNat < v4_1.length)) = b2; generalize (inI64 (v4_0 - (1 : Int))) = b3; generalize (inB v4_0 v4_1.length) = b4; generalize (decide (a1 < v4_0)) = b5; cases b0 <;> cases b1 <;> cases b2 <;> cases b3 <;> cases b4 <;> cases b5 <;> decide) | (simp only [hG8_0, hG8_1, hG8_2, hG8_3, hG8_4, ob, decide_true, cond_true, cond_false]; done) | (simp_all; done) | (simp only [hG8_0, hG8_1, hG8_2, hG8_3, hG8_4, ob, decide_true, cond_true, cond_false]; rfl))) rfl rfl PassH.nil ?_
           rintro _ _ ⟨rfl, rfl⟩
           refine ⟨_, _, rfl, rfl, ?_⟩
           refine ad_run (fuel := 0) (ds' := ⟨#[true, true, true, true, true, true, true, true, true, true, true, true, true, true, true], false, false, false⟩) tt_ok [(14, 0)] (by kernel_rfl) rfl (by first | exact (by first | (revert hg4 hG8_0 hG8_1 hG8_2 hG8_3 hG8_4; generalize (decide ((v4_0 - (1 : Int)).toNat < v4_1.length)) = b0; generalize (inB (v4_0 - (1 : Int)) v4_1.length) = b1; generalize (decide (v4_0.toNat < v4_1.length)) = b2; generalize (inI64 (v4_0 - (1 : Int))) = b3; generalize (inB v4_0 v4_1.length) = b4; generalize (decide (a1 < v4_0)) = b5; cases b0 <;> cases b1 <;> cases b2 <;> cases b3 <;> cases b4 <;> cases b5 <;> decide) | (simp only [hg4, hG8_0, hG8_1, hG8_2, hG8_3, hG8_4, ob, decide_true, cond_true, cond_false]; done) | (simp_all; done) | (simp only [hg4, hG8_0, hG8_1, hG8_2, hG8_3, hG8_4, ob, decide_true, cond_true, cond_false]; rfl)) | exact (by first | (revert hG8_0 hG8_1 hG8_2 hG8_3 hG8_4; generalize (decide ((v4_0 - (1 : Int)).toNat < v4_1.length)) = b0; generalize (inB (v4_0 - (1 : Int)) v4_1.length) = b1; generalize (decide (v4_0.toNat < v4_1.length)) = b2; generalize (inI64 (v4_0 - (1 : Int))) = b3; generalize (inB v4_0 v4_1.length) = b4; generalize (decide (a1 < v4_0)) = b5; cases b0 <;> cases b1 <;> cases b2 <;> cases b3 <;> cases b4 <;> cases b5 <;> decide) | (simp only [hG8_0, hG8_1, hG8_2, hG8_3, hG8_4, ob, decide_true, cond_true, cond_false]; done) | (simp_all; done) | (simp only [hG8_0, hG8_1, hG8_2, hG8_3, hG8_4, ob, decide_true, cond_true, cond_false]; rfl))) ?_
           refine ad_done (by kernel_rfl) ?_
           exact ⟨rfl, Wk.sub (st' := ⟨[(0, _), (1, _), (2, _), (6, _), (7, _), (30, _)], [(2000000, _)]⟩) (SubL.cons rfl (SubL.cons rfl (SubL.cons rfl (SubL.cons rfl (SubL.cons rfl (SubL.cons rfl SubL.nil)))))) (SubH.cons rfl rfl SubH.nil)⟩
         ·
           refine ad_run (fuel := 0) (ds' := ⟨#[true, true, true, true, true, true, true, true, true, true, true, true, true, true, true], false, false, true⟩) tt_ok [(14, 0)] (by kernel_rfl) rfl (by first | exact (by first | (revert hg4 hG8_0 hG8_1 hG8_2 hG8_3 hG8_4; generalize (decide ((v4_0 - (1 : Int)).toNat < v4_1.length)) = b0; generalize (inB (v4_0 - (1 : Int)) v4_1.length) = b1; generalize (decide (v4_0.toNat < v4_1.length)) = b2; generalize (inI64 (v4_0 - (1 : Int))) = b3; generalize (inB v4_0 v4_1.length) = b4; generalize (decide (a1 < v4_0)) = b5; cases b0 <;> cases b1 <;> cases b2 <;> cases b3 <;> cases b4 <;> cases b5 <;> decide) | (simp only [hg4, hG8_0, hG8_1, hG8_2, hG8_3, hG8_4, ob, decide_true, cond_true, cond_false]; done) | (simp_all; done) | (simp only [hg4, hG8_0, hG8_1, hG8_2, hG8_3, hG8_4, ob, decide_true, cond_true, cond_false]; rfl)) | exact (by first | (revert hG8_0 hG8_1 hG8_2 hG8_3 hG8_4; generalize (decide ((v4_0 - (1 : Int)).toNat < v4_1.length)) = b0; generalize (inB (v4_0 - (1 : Int)) v4_1.length) = b1; generalize (decide (v4_0.toNat < v4_1.length)) = b2; generalize (inI64 (v4_0 - (1 : Int))) = b3; generalize (inB v4_0 v4_1.length) = b4; generalize (decide (a1 < v4_0)) = b5; cases b0 <;> cases b1 <;> cases b2 <;> cases b3 <;> cases b4 <;> cases b5 <;> decide) | (simp only [hG8_0, hG8_1, hG8_2, hG8_3, hG8_4, ob, decide_true, cond_true, cond_false]; done) | (simp_all; done) | (simp only [hG8_0, hG8_1, hG8_2, hG8_3, hG8_4, ob, decide_true, cond_true, cond_false]; rfl))) ?_
           refine ad_done (by kernel_rfl) ?_
           exact ⟨rfl, Wk.sub (st' := ⟨[(0, _), (1, _), (2, _), (6, _), (7, _), (30, _)], [(2000000, _)]⟩) (SubL.cons rfl (SubL.cons rfl (SubL.cons rfl (SubL.cons rfl (SubL.cons rfl (SubL.cons rfl SubL.nil)))))) (SubH.cons rfl rfl SubH.nil)⟩
     refine ax_cond rfl rfl (fun hc => ?_) (fun hc => ?_)
     ·
      replace h := cond_t hc h
      refine ax_skip ?_
      refine ax_seq ?_
      refine ax_block ?_
      obtain ⟨hG7, h⟩ := gd_some h
      simp only [Bool.and_eq_true] at hG7
      obtain ⟨⟨⟨⟨⟨⟨hG7_0, hG7_1⟩, hG7_2⟩, hG7_3⟩, hG7_4⟩, hG7_5⟩, hG7_6⟩ := hG7
      apply ax_cut
      ·
        refine ax_draw [] (by kernel_rfl) rfl (N := 18) ?_
        refine ad_run (fuel := 6) (ds' := ⟨#[true, true, true, true, true, true, true, true, true, false, true, true, true, false, false, false, false, false], true, true, true⟩) tt_ok [(0, 0), (1, 0), (2, 0), (3, 0), (4, 0), (5, 0), (6, 0), (7, 0), (8, 0), (10, 0), (11, 0), (12, 0)] (by kernel_rfl) rfl (by first | (simp only [hG7_0, hG7_1, hG7_2, hG7_3, hG7_4, hG7_5, hG7_6, ob, decide_true, cond_true, cond_false]; done) | (simp_all; done) | (simp only [hG7_0, hG7_1, hG7_2, hG7_3, hG7_4, hG7_5, hG7_6, ob, decide_true, cond_true, cond_false]; rfl)) ?_
        refine ad_ready (by kernel_rfl) (ads_cons (i := 9) ?_ (ads_cons (i := 13) ?_ ads_nil))
        ·
          refine ado_step tt_ok (i := 9) rfl rfl rfl (by first | (simp only [hG7_0, hG7_1, hG7_2, hG7_3, hG7_4, hG7_5, hG7_6, ob, decide_true, cond_true, cond_false]; done) | (simp_all; done) | (simp only [hG7_0, hG7_1, hG7_2, hG7_3, hG7_4, hG7_5, hG7_6, ob, decide_true, cond_true, cond_false]; rfl)) rfl ?_
          refine ad_run (fuel := 0) (ds' := ⟨#[true, true, true, true, true, true, true, true, true, true, true, true, true, true, true, true, true, true], false, false, true⟩) tt_ok [(13, 2), (14, 0), (15, 2), (16, 0), (17, 2)] (by kernel_rfl) rfl (by first | (simp only [hG7_0, hG7_1, hG7_2, hG7_3, hG7_4, hG7_5, hG7_6, ob, decide_true, cond_true, cond_false]; done) | (simp_all; done) | (simp only [hG7_0, hG7_1, hG7_2, hG7_3, hG7_4, hG7_5, hG7_6, ob, decide_true, cond_true, cond_false]; rfl)) ?_
          refine ad_done (by kernel_rfl) ?_
          exact ⟨rfl, Wk.sub (st' := ⟨[(0, _), (1, _), (2, _), (6, _), (7, _)], [(2000000, _)]⟩) (SubL.cons rfl (SubL.cons rfl (SubL.cons rfl (SubL.cons rfl (SubL.cons rfl SubL.nil))))) (SubH.cons rfl rfl SubH.nil)⟩
        ·
          refine ado_step tt_ok (i := 13) rfl rfl rfl (by first | (simp only [hG7_0, hG7_1, hG7_2, hG7_3, hG7_4, hG7_5, hG7_6, ob, decide_true, cond_true, cond_false]; done) | (simp_all; done) | (simp only [hG7_0, hG7_1, hG7_2, hG7_3, hG7_4, hG7_5, hG7_6, ob, decide_true, cond_true, cond_false]; rfl)) rfl ?_
          refine ad_run (fuel := 0) (ds' := ⟨#[true, true, true, true, true, true, true, true, true, true, true, true, true, true, true, true, true, true], false, false, true⟩) tt_ok [(9, 2), (14, 0), (15, 2), (16, 0), (17, 2)] (by kernel_rfl) rfl (by first | (simp only [hG7_0, hG7_1, hG7_2, hG7_3, hG7_4, hG7_5, hG7_6, ob, decide_true, cond_true, cond_false]; done) | (simp_all; done) | (simp only [hG7_0, hG7_1, hG7_2, hG7_3, hG7_4, hG7_5, hG7_6, ob, decide_true, cond_true, cond_false]; rfl)) ?_
          refine ad_done (by kernel_rfl) ?_
          exact ⟨rfl, Wk.sub (st' := ⟨[(0, _), (1, _), (2, _), (6, _), (7, _)], [(2000000, _)]⟩) (SubL.cons rfl (SubL.cons rfl (SubL.cons rfl (SubL.cons rfl (SubL.cons rfl SubL.nil))))) (SubH.cons rfl rfl SubH.nil)⟩
      obtain ⟨hG6, h⟩ := gd_some h
      refine ax_region ?_
      refine al_run tt_ok rfl (by first | (simp only [hG6, ob, decide_true, cond_true, cond_false]; done) | (simp_all; done) | (simp only [hG6, ob, decide_true, cond_true, cond_false]; rfl)) ?_
      refine ⟨(n, _, _), h, Nat.lt_succ_self _, (Wk.sub (SubL.cons rfl (SubL.cons rfl (SubL.cons rfl (SubL.cons rfl (SubL.cons rfl SubL.nil))))) (SubH.cons rfl rfl SubH.nil))⟩
     ·
      replace h := cond_f hc h
      refine ax_exit ?_
      exact ⟨_, (Option.some.inj h).symm, (Wk.sub (SubL.cons rfl (SubL.cons rfl (SubL.cons rfl (SubL.cons rfl SubL.nil)))) (SubH.cons rfl rfl SubH.nil))⟩
    ·
     rintro _ rfl
     have h := hk3
     obtain ⟨hG9, h⟩ := gd_some h
     refine ax_region ?_
     refine al_run tt_ok rfl (by first | (simp only [hG9, ob, decide_true, cond_true, cond_false]; done) | (simp_all; done) | (simp only [hG9, ob, decide_true, cond_true, cond_false]; rfl)) ?_
     refine ⟨(n, _, _), h, Nat.lt_succ_self _, (Wk.sub (SubL.cons rfl (SubL.cons rfl (SubL.cons rfl (SubL.cons rfl SubL.nil)))) (SubH.cons rfl rfl SubH.nil))⟩
   ·
    replace h := cond_f hc h
    refine ax_exit ?_
    exact ⟨_, (Option.some.inj h).symm, (Wk.sub SubL.nil (SubH.cons rfl rfl SubH.nil))⟩
  ·
   rintro _ rfl
   have h := hk1
   obtain rfl := Option.some.inj h
   refine ⟨_, (Wk.sub (st' := ⟨[], [(2000000, _)]⟩) SubL.nil (SubH.cons rfl rfl SubH.nil)), _, _, rfl, rfl, ?_⟩
   exact ⟨rfl, rfl⟩
def m_knit (a0 : Int) (a1 : Int) (a2 : Int) (a3 : List OpT) (a4 : Int) : Option ((List OpT)) :=
    gd ((inI64 ((13 : Int) + a1))) <|
    gd ((fitB 40 (a3.length + [((4 : Int), (a2, ((a0, ((13 : Int) + a1)), (a4, (0 : Int)))))].length))) <|
    some (a3 ++ [((4 : Int), (a2, ((a0, ((13 : Int) + a1)), (a4, (0 : Int)))))])
set_option maxRecDepth 20000 in
set_option maxHeartbeats 4000000 in
theorem w_knit (a0 : Int) (a1 : Int) (a2 : Int) (a3 : List OpT) (a4 : Int) (c0 : Option Nat) (r : ((List OpT))) (h : m_knit a0 a1 a2 a3 a4 = some r) : AC cx 59 [.c (.val (.int .u8 a0)), .c (.val (.int .i64 a1)), .c (.val (.int .u8 a2)), .c (.ptr 1000000 0), .c (.ptr 1000002 0)] [(1000000, .cells 27 [.sl 1000001]), (1000001, .row 55 gOp a3 c0), (1000002, .cells 5 [.val (.int .u8 a4)])] (fun sv h => sv = .tup [] ∧ h = [(1000000, .cells 27 [.sl 1000001]), (1000001, .row 55 gOp r none), (1000002, .cells 5 [.val (.int .u8 a4)])]) := by
  unfold m_knit at h
  refine ac_body tt_ok Tryd.func59 rfl Tryd.ntmps59 rfl rfl (res := []) rfl ?_
  refine ax_weak (Wk.rowcap 1000001 rfl) ?_
  refine ax_seq ?_
  obtain ⟨hG2, h⟩ := gd_some h
  refine ax_region ?_
  refine al_run tt_ok rfl (by first | (simp only [hG2, ob, decide_true, cond_true, cond_false]; done) | (simp_all; done) | (simp only [hG2, ob, decide_true, cond_true, cond_false]; rfl)) ?_
  obtain ⟨hG1, h⟩ := gd_some h
  refine ax_region ?_
  refine al_run tt_ok rfl (by first | (simp only [hG1, ob, decide_true, cond_true, cond_false]; done) | (simp_all; done) | (simp only [hG1, ob, decide_true, cond_true, cond_false]; rfl)) ?_
  obtain rfl := Option.some.inj h
  refine ⟨_, (Wk.sub (st' := ⟨[], [(1000000, _), (1000001, _), (1000002, _)]⟩) SubL.nil (SubH.cons rfl rfl (SubH.cons rfl rfl (SubH.cons rfl rfl SubH.nil)))), _, _, rfl, rfl, ?_⟩
  exact ⟨rfl, rfl⟩
def m_tcheck_L2 (a0 : (Int × (List Int))) : Nat → Int → Option ((Unit) ⊕ (Int))
  | 0, _ => none
  | n + 1, v2_0 =>
    cond (decide (v2_0 < (a0.2.length : Int))) (gd ((inB v2_0 a0.2.length)) <|
    cond (cond (decide ((a0.2.getD v2_0.toNat 0) < (1 : Int))) true (decide ((6 : Int) < (a0.2.getD v2_0.toNat 0)))) (some (.inr (1 : Int))) (gd ((inI64 (v2_0 + (1 : Int)))) <|
    m_tcheck_L2 a0 n (v2_0 + (1 : Int)))) (some (.inl ()))
def m_tcheck (a0 : (Int × (List Int))) : Option (Int) :=
    cond (cond (decide ((16 : Int) < a0.1)) true (decide ((31 : Int) < (a0.2.length : Int)))) (some (3 : Int)) (cond (cond (decide (a0.1 < (1 : Int))) true (decide ((a0.2.length : Int) < (1 : Int)))) (some (1 : Int)) (Option.bind (m_tcheck_L2 a0 FUEL (0 : Int)) fun o1 =>
    sm o1 (fun o1 =>
    some (0 : Int)) (fun q => some q)))
set_option maxRecDepth 20000 in
set_option maxHeartbeats 4000000 in
theorem w_tcheck (a0 : (Int × (List Int))) (c0 : Option Nat) (r : (Int)) (h : m_tcheck a0 = some r) : AC cx 58 [.agg [.val (.int .i64 a0.1), .lst (.int .u8) a0.2 c0]] [] (fun sv h => sv = .a (.c (.val (.int .i64 r))) ∧ h = []) := by
  unfold m_tcheck at h
  refine ac_body tt_ok Tryd.func58 rfl Tryd.ntmps58 rfl rfl (res := [.tmp 2]) rfl ?_
  refine ax_seq ?_
  refine ax_region ?_
  refine al_run tt_ok rfl rfl ?_
  refine ax_seq ?_
  refine ax_seq ?_
  refine ax_region ?_
  refine al_run tt_ok rfl (by first | (generalize (decide ((16 : Int) < a0.1)) = b0; revert b0; decide) | (simp only [ob, decide_true, cond_true, cond_false]; done) | (simp_all; done) | (simp only [ob, decide_true, cond_true, cond_false]; rfl)) ?_
  refine ax_cond rfl rfl (fun hc => ?_) (fun hc => ?_)
  ·
   replace h := cond_t hc h
   refine ax_seq ?_
   refine ax_region ?_
   refine al_run tt_ok rfl rfl ?_
   refine ax_ret ?_
   obtain rfl := Option.some.inj h
   refine ⟨_, (Wk.sub (st' := ⟨[(2, _)], []⟩) (SubL.cons rfl SubL.nil) SubH.nil), _, _, rfl, rfl, ?_⟩
   exact ⟨rfl, rfl⟩
  ·
   replace h := cond_f hc h
   refine ax_skip ?_
   refine ax_seq ?_
   refine ax_seq ?_
   refine ax_region ?_
   refine al_run tt_ok rfl (by first | (generalize (decide (a0.1 < (1 : Int))) = b0; revert b0; decide) | (simp only [ob, decide_true, cond_true, cond_false]; done) | (simp_all; done) | (simp only [ob, decide_true, cond_true, cond_false]; rfl)) ?_
   refine ax_cond rfl rfl (fun hc => ?_) (fun hc => ?_)
   ·
    replace h := cond_t hc h
    refine ax_seq ?_
    refine ax_region ?_
    refine al_run tt_ok rfl rfl ?_
    refine ax_ret ?_
    obtain rfl := Option.some.inj h
    refine ⟨_, (Wk.sub (st' := ⟨[(2, _)], []⟩) (SubL.cons rfl SubL.nil) SubH.nil), _, _, rfl, rfl, ?_⟩
    exact ⟨rfl, rfl⟩
   ·
    replace h := cond_f hc h
    refine ax_skip ?_
    refine ax_seq ?_
    refine ax_seq ?_
    refine ax_region ?_
    refine al_run tt_ok rfl rfl ?_
    obtain ⟨o1, ho1, hk1⟩ := bd h
    refine ax_cutS (fun o1 : Unit => ⟨[], []⟩) (fun o' => Sum.inl o' = o1) ?_ ?_
    ·
     have h := ho1
     refine ax_block ?_
     refine ax_weak (st' := ⟨[(26, _), (24, _), (25, _)], []⟩) (Wk.sub (SubL.cons rfl (SubL.cons rfl (SubL.cons rfl SubL.nil))) SubH.nil) ?_
     refine ax_loopL (fun y : Nat × Int => [(26, .a (.c (.val (.int .i64 y.2))))]) (fun y : Nat × Int => []) (fun y : Nat × Int => m_tcheck_L2 a0 y.1 y.2 = some o1) (fun y : Nat × Int => y.1) (FUEL, (0 : Int)) h ?_
     rintro ⟨n, v2_0⟩ h
     replace h : m_tcheck_L2 a0 n v2_0 = some o1 := h
     rcases n with _ | n
     · cases (show (none : Option _) = some _ from h)
     rw [m_tcheck_L2] at h
     try dsimp only
     refine ax_seq ?_
     refine ax_region ?_
     refine al_run tt_ok rfl rfl ?_
     refine ax_seq ?_
     refine ax_cond rfl rfl (fun hc => ?_) (fun hc => ?_)
     ·
      replace h := cond_t hc h
      refine ax_skip ?_
      refine ax_seq ?_
      refine ax_block ?_
      refine ax_seq ?_
      obtain ⟨hG4, h⟩ := gd_some h
      refine ax_region ?_
      refine al_run tt_ok rfl (by first | (simp only [hG4, ob, decide_true, cond_true, cond_false]; done) | (simp_all; done) | (simp only [hG4, ob, decide_true, cond_true, cond_false]; rfl)) ?_
      refine ax_seq ?_
      refine ax_region ?_
      refine al_run tt_ok rfl (by first | (generalize (decide ((a0.2.getD v2_0.toNat 0) < (1 : Int))) = b0; revert b0; decide) | (simp only [ob, decide_true, cond_true, cond_false]; done) | (simp_all; done) | (simp only [ob, decide_true, cond_true, cond_false]; rfl)) ?_
      refine ax_cond rfl rfl (fun hc => ?_) (fun hc => ?_)
      ·
       replace h := cond_t hc h
       refine ax_seq ?_
       refine ax_region ?_
       refine al_run tt_ok rfl rfl ?_
       refine ax_ret ?_
       obtain rfl := Option.some.inj h
       have h := hk1
       dsimp only [sm] at h
       obtain rfl := Option.some.inj h
       refine ⟨_, (Wk.sub (st' := ⟨[(2, _)], []⟩) (SubL.cons rfl SubL.nil) SubH.nil), _, _, rfl, rfl, ?_⟩
       exact ⟨rfl, rfl⟩
      ·
       replace h := cond_f hc h
       refine ax_skip ?_
       obtain ⟨hG3, h⟩ := gd_some h
       refine ax_region ?_
       refine al_run tt_ok rfl (by first | (simp only [hG3, ob, decide_true, cond_true, cond_false]; done) | (simp_all; done) | (simp only [hG3, ob, decide_true, cond_true, cond_false]; rfl)) ?_
       refine ⟨(n, _), h, Nat.lt_succ_self _, (Wk.sub (SubL.cons rfl (SubL.cons rfl (SubL.cons rfl SubL.nil))) SubH.nil)⟩
     ·
      replace h := cond_f hc h
      refine ax_exit ?_
      exact ⟨_, Option.some.inj h, (Wk.sub SubL.nil SubH.nil)⟩
    ·
     rintro o1 rfl
     have h := hk1
     dsimp only [sm] at h
     refine ax_seq ?_
     refine ax_region ?_
     refine al_run tt_ok rfl rfl ?_
     refine ax_ret ?_
     obtain rfl := Option.some.inj h
     refine ⟨_, (Wk.sub (st' := ⟨[(2, _)], []⟩) (SubL.cons rfl SubL.nil) SubH.nil), _, _, rfl, rfl, ?_⟩
     exact ⟨rfl, rfl⟩
end Go.Proofs.YtcjpcmofajcadaaDoor

/- Maps: making, looking up, setting. -/
namespace Go.Proofs.YtcjpcmofajcadaaDoor
open Go.RowKit
def GTy.beq : (g : GTy) → g.D → g.D → Bool
  | .int _ => fun (x : Int) (y : Int) => x == y
  | .bool => fun (x : Bool) (y : Bool) => x == y
  | .str => fun (x : List UInt8) (y : List UInt8) => x == y
  | .pair g h => fun x y => g.beq x.1 y.1 && h.beq x.2 y.2
  | _ => fun _ _ => false
def mget (gk gv : GTy) : List (gk.D × gv.D) → gk.D → Option gv.D
  | [], _ => none
  | x :: l, k => match gk.beq x.1 k with
    | true => some x.2
    | false => mget gk gv l k
def mset (gk gv : GTy) : List (gk.D × gv.D) → gk.D → gv.D → List (gk.D × gv.D)
  | [], k, v => [(k, v)]
  | x :: l, k, v => match gk.beq x.1 k with
    | true => (x.1, v) :: l
    | false => x :: mset gk gv l k v
/-- Data as a symbolic value. -/
def vSA : (g : GTy) → g.D → Option SA
  | .pair a b, x => (gcells (.pair a b) x 0 (a.size + b.size)).map .agg
  | g, x => (gcell g x 0).map .c
section
variable {B : Nat → Prop} {w : World} {k : IntKind} {gv : GTy}
theorem MR.findInt {z : Int} : ∀ {l : List (Int × gv.D)} {es : List MapEntry} (i : Nat), MR B w (.int k) gv l es →
    (mget (.int k) gv l z = none ∧ Instr.findNow (.int k) (.int k z) es i = some none) ∨ ∃ x j v, mget (.int k) gv l z = some x ∧ Instr.findNow (.int k) (.int k z) es i = some (some (i + j, v)) ∧ VD B w gv x v ∧ j < es.length
  | [], _, i, h => by rw [show _ = [] from h]; exact .inl ⟨rfl, rfl⟩
  | x :: l, _, i, ⟨e, r, he, h1, h2, h3⟩ => by
    subst he
    have hk : e.key = .int k x.1 := by
      have := (show FR B w (.int k) x.1 [e.key] from h1)
      have h4 : [e.key] = [Value.int k x.1] := this
      exact (List.cons.inj h4).1
    unfold Instr.findNow mget
    rw [hk]
    simp only [Instr.sameNow, if_true]
    by_cases hz : x.1 = z
    · have e1 : (GTy.int k).beq x.1 z = true := by simp [GTy.beq, hz]
      have e2 : (z == x.1) = true := by simp [hz]
      rw [e1, e2]
      exact .inr ⟨x.2, 0, e.val, rfl, rfl, h2, by simp⟩
    · have e1 : (GTy.int k).beq x.1 z = false := by simp [GTy.beq, hz]
      have e2 : (z == x.1) = false := by simp [Ne.symm hz]
      rw [e1, e2]
      rcases MR.findInt (i + 1) h3 with ⟨h4, h5⟩ | ⟨y, j, v, h4, h5, h6, h7⟩
      · exact .inl ⟨h4, h5⟩
      · exact .inr ⟨y, j + 1, v, h4, by rw [h5, Nat.add_assoc, Nat.add_comm 1 j], h6, by simpa using h7⟩
theorem modify_map {es : List MapEntry} {f : MapEntry → MapEntry} (hf : ∀ e, (f e).born = e.born) : ∀ (j : Nat), (es.modify j f).map (·.born) = es.map (·.born) := by
  induction es with
  | nil => intro j; cases j <;> rfl
  | cons e es ih =>
    intro j
    cases j with
    | zero => simp [hf]
    | succ j => simp only [List.modify_succ_cons, List.map_cons, ih j]
theorem MR.setInt {z : Int} {xv : gv.D} {vv : Value} (hv : VD B w gv xv vv) : ∀ {l : List (Int × gv.D)} {es : List MapEntry} (i : Nat), MR B w (.int k) gv l es →
    (Instr.findNow (.int k) (.int k z) es i = some none ∧ mset (.int k) gv l z xv = l ++ [(z, xv)]) ∨
    ∃ j v e, Instr.findNow (.int k) (.int k z) es i = some (some (i + j, v)) ∧ es[j]? = some e ∧ e.key = .int k z ∧ MR B w (.int k) gv (mset (.int k) gv l z xv) (es.modify j fun e => { e with key := .int k z, val := vv })
  | [], _, i, h => by rw [show _ = [] from h]; exact .inl ⟨rfl, rfl⟩
  | x :: l, _, i, ⟨e, r, he, h1, h2, h3⟩ => by
    subst he
    have hk : e.key = .int k x.1 := by
      have h4 : [e.key] = [Value.int k x.1] := h1
      exact (List.cons.inj h4).1
    unfold Instr.findNow mset
    rw [hk]
    simp only [Instr.sameNow, if_true]
    by_cases hz : x.1 = z
    · have e1 : (GTy.int k).beq x.1 z = true := by simp [GTy.beq, hz]
      have e2 : (z == x.1) = true := by simp [hz]
      rw [e1, e2]
      refine .inr ⟨0, e.val, e, rfl, rfl, by rw [hk, hz], { e with key := .int k z, val := vv }, r, rfl, ?_, hv, h3⟩
      show [Value.int k z] = [Value.int k x.1]
      rw [hz]
    · have e1 : (GTy.int k).beq x.1 z = false := by simp [GTy.beq, hz]
      have e2 : (z == x.1) = false := by simp [Ne.symm hz]
      rw [e1, e2]
      rcases MR.setInt hv (i + 1) h3 with ⟨h4, h5⟩ | ⟨j, v, e', h4, h5, h6, h7⟩
      · exact .inl ⟨h4, by show x :: mset (.int k) gv l z xv = _; rw [h5]; rfl⟩
      · exact .inr ⟨j + 1, v, e', by rw [h4, Nat.add_assoc, Nat.add_comm 1 j], by simpa using h5, h6, e, _, rfl, h1, h2, h7⟩
theorem MR.snoc {gk gv : GTy} {x : gk.D × gv.D} {e : MapEntry} (h1 : VD B w gk x.1 e.key) (h2 : VD B w gv x.2 e.val) : ∀ {l : List (gk.D × gv.D)} {es : List MapEntry}, MR B w gk gv l es → MR B w gk gv (l ++ [x]) (es ++ [e])
  | [], _, h => by rw [show _ = [] from h]; exact ⟨e, [], rfl, h1, h2, rfl⟩
  | _ :: _, _, ⟨e', r, he, h3, h4, h5⟩ => by subst he; exact ⟨e', _, rfl, h3, h4, MR.snoc h1 h2 h5⟩
def sShape : GTy → SA → Bool
  | .pair _ _, .agg _ => true
  | .pair _ _, .c _ => false
  | _, .c _ => true
  | _, .agg _ => false
theorem VD.ofSA {env : Nat → Loc} {g : GTy} {sa : SA} {c : Bool} {x : g.D} {v : Value} (hd : dec g sa.cells = some (c, x, [])) (hc : c = true) (hs : sShape g sa = true) (h : SaR env B w sa v) : VD B w g x v := by
  cases sa with
  | c sc =>
    obtain ⟨v1, v2, e, h1, h2⟩ := dec_ok (cs := [sc]) (vs := [v]) ⟨v, [], rfl, h, rfl⟩ hd hc
    have e2 : v2 = [] := h2
    rw [e2, List.append_nil] at e
    rw [← e] at h1
    cases g with
    | pair a b => cases hs
    | _ => exact h1
  | agg cs =>
    obtain ⟨vs, e, h3⟩ := h
    obtain ⟨v1, v2, e1, h1, h2⟩ := dec_ok h3 hd hc
    have e2 : v2 = [] := h2
    rw [e2, List.append_nil] at e1
    cases g with
    | pair a b => exact ⟨vs, e, by rw [e1]; exact h1⟩
    | _ => cases hs
theorem VD.sa {env : Nat → Loc} {g : GTy} {x : g.D} {v : Value} {sa : SA} (h : VD B w g x v) (hs : vSA g x = some sa) : SaR env B w sa v := by
  have one : ∀ {g : GTy} {x : g.D} {v : Value} {sa : SA}, FR B w g x [v] → (gcell g x 0).map SA.c = some sa → SaR env B w sa v := by
    intro g x v sa h hs
    obtain ⟨c, hc, rfl⟩ := Option.map_eq_some_iff.1 hs
    obtain ⟨u, h1, h2⟩ := FR.cell (env := env) h hc
    simp only [List.getElem?_cons_zero, Option.some.injEq] at h1
    rw [h1]
    exact h2
  cases g with
  | pair a b =>
    obtain ⟨vs, e, h1⟩ := h
    obtain ⟨l, hl, rfl⟩ := Option.map_eq_some_iff.1 (show (gcells (.pair a b) x 0 (a.size + b.size)).map SA.agg = some sa from hs)
    obtain ⟨us, ⟨h2, h3⟩, h4⟩ := FR.cells (env := env) h1 hl
    have hlen : vs.length = a.size + b.size := FR.length h1
    have : us = vs := by
      apply List.ext_getElem?
      intro i
      by_cases hi : i < us.length
      · rw [List.getElem?_eq_getElem hi]
        have := h3 i us[i] (List.getElem?_eq_getElem hi)
        rw [Nat.zero_add] at this
        exact this.symm
      · rw [List.getElem?_eq_none (by omega), List.getElem?_eq_none (by omega)]
    subst this
    exact ⟨us, e, h4⟩
  | _ => exact one h hs
end
section
variable {X : Cx} {M : Bool} {n : Nat} {r : Option Nat} {st : ASt} {Q : Exit → ASt → Prop} {ops rest : List Oper} {o : Oper} {d : Nat}
theorem al_makeMap (gk gv : GTy) {t : TypeId} (hop : o.op = .makeMap t none) (ho : o.guard = none ∧ o.dst = some d) (hd : Nat.blt d n = true)
    (hnext : AL X M n r ops rest ⟨(d, .c (.mref d)) :: subL d .dead st.L, (d, .mp gk gv [] none) :: delH d .dead st.H⟩ Q) : AL X M n r ops (o :: rest) st Q := by
  rintro R W Bi a w ⟨ks, env, B, w0, H, hM, hA⟩
  refine xl_cons (x_value hA.stt ho.1 ho.2 (lt_of_blt hd) (v := .map (some w.heap.size)) (w' := w.alloc (.map #[] 0)) (by simp [execOp, hop, Instr.makeMap, newObj, Sem.run]) fun a' hS => ?_)
  obtain ⟨H', _, h3⟩ := hA.newBlk (d := d) hd (l := .blk w.heap.size) (blk := .mp gk gv [] none) (sv := .c (.mref d)) (hA.sh.alloc (.map #[] 0)) ⟨_, [], 0, upd_self, rfl, rfl, ⟨List.Pairwise.nil, fun _ h => by cases h⟩, fun _ h => by cases h⟩ ⟨_, upd_self, rfl⟩ hS
  exact hnext R W Bi a' _ ⟨ks, _, B, w0, H', hM, h3⟩
theorem al_lookup (hX : X.tt.ok X.P) {t kt et : TypeId} {te ke ee : TE} {k : IntKind} {gv : GTy} {u x : Operand} {id : Nat} {l : List (Int × gv.D)} {om : Option (List MapEntry × Nat)} {z : Int} {g : Bool} {sa : SA} (hop : o.op = .lookup t u x false) (ho : o.guard = none ∧ o.dst = some d) (hd : Nat.blt d n = true)
    (ht : X.tt.find t = some te) (hte : te.ti.desc = .map kt et) (hk : X.tt.find kt = some ke) (hke : ke.ti.desc = .int k) (he : X.tt.find et = some ee) (hz : ∀ B w, VD B w gv gv.zero ee.ti.zero)
    (hu : ae X st.L u = some (true, .c (.mref id))) (hx : ae X st.L x = some (g, .c (.val (.int k z)))) (hg : g = true) (hlk : lk st.H id = some (.mp (.int k) gv l om)) (hsa : vSA gv ((mget (.int k) gv l z).getD gv.zero) = some sa)
    (hnext : AL X M n r ops rest ⟨(d, .a sa) :: st.L, st.H⟩ Q) : AL X M n r ops (o :: rest) st Q := by
  rintro R W Bi a w ⟨ks, env, B, w0, H, hM, hA⟩
  obtain ⟨vu, h1, b, hb, rfl⟩ := hA.ev hu rfl
  obtain ⟨vx, h2, h3⟩ := hA.ev hx hg
  rw [show vx = _ from h3] at h2
  obtain ⟨c, K, ⟨b', es, clock, hb', rfl, hmr, hst, _⟩, hfoc⟩ := hA.heap.foc hlk
  rw [hb] at hb'
  cases hb'
  have hob := (hA.sh.ok _ hfoc.more.mem).2
  have e1 := (TT.get hX ht).ti.1
  rw [hte] at e1
  have e3 := (TT.get hX hk).ti.1
  rw [hke] at e3
  have e5 := TI.run_zero (TT.get hX he).ti w
  have hfin : ∃ v, (Instr.lookup t (.map (some b)) (.int k z) false).run X.P w = .ok v w ∧ VD B w0 gv ((mget (.int k) gv l z).getD gv.zero) v := by
    unfold Instr.lookup
    rw [show (10000 : Nat) = 9999 + 1 from rfl]
    simp only [Sem.run_bind, run_underlying e1, Result.andThen_ok, MapKept.run_getObj_map hob, run_checkKey_int e3, Sem.run_pure]
    rcases hmr.findInt (z := z) 0 with ⟨h4, h5⟩ | ⟨y, j, v, h4, h5, h6, _⟩
    · refine ⟨ee.ti.zero, ?_, by rw [h4]; exact hz _ _⟩
      simp [MapKept.run_findKey e3 h5, e5, Result.andThen]
    · refine ⟨v, ?_, by rw [h4]; exact h6⟩
      simp [MapKept.run_findKey e3 h5, Result.andThen]
  obtain ⟨v, hrun, hvd⟩ := hfin
  refine xl_cons (x_value hA.stt ho.1 ho.2 (lt_of_blt hd) (v := v) (w' := w) ?_ fun a' hS => ?_)
  · simp [execOp, hop, hA.stt.ev h1, hA.stt.ev h2, hrun]
  · exact hnext R W Bi a' _ ⟨ks, env, B, w0, H, hM, hA.set (sv := .a sa) (hvd.sa hsa) hS⟩
theorem al_mapset (hX : X.tt.ok X.P) {t kt et : TypeId} {te ke : TE} {k : IntKind} {gv : GTy} {u x y : Operand} {id : Nat} {l : List (Int × gv.D)} {om : Option (List MapEntry × Nat)} {z : Int} {g g2 c : Bool} {sy : SA} {xv : gv.D} (hop : o.op = .mapUpdate t u x y) (ho : o.guard = none ∧ o.dst = none)
    (ht : X.tt.find t = some te) (hte : te.ti.desc = .map kt et) (hk : X.tt.find kt = some ke) (hke : ke.ti.desc = .int k)
    (hu : ae X st.L u = some (true, .c (.mref id))) (hx : ae X st.L x = some (g, .c (.val (.int k z)))) (hg : g = true) (hy : ae X st.L y = some (g2, sy)) (hg2 : g2 = true) (hlk : lk st.H id = some (.mp (.int k) gv l om))
    (hdec : dec gv sy.cells = some (c, xv, [])) (hc : c = true) (hsh : sShape gv sy = true)
    (hnext : AL X M n r ops rest ⟨st.L, putH id (.mp (.int k) gv (mset (.int k) gv l z xv) none) st.H⟩ Q) : AL X M n r ops (o :: rest) st Q := by
  rintro R W Bi a w ⟨ks, env, B, w0, H, hM, hA⟩
  obtain ⟨vu, h1, b, hb, rfl⟩ := hA.ev hu rfl
  obtain ⟨vx, h2, h3⟩ := hA.ev hx hg
  rw [show vx = _ from h3] at h2
  obtain ⟨vy, h4, h5⟩ := hA.ev hy hg2
  have hvd : VD B w0 gv xv vy := VD.ofSA hdec hc hsh h5
  obtain ⟨ck, K, ⟨b', es, clock, hb', rfl, hmr, hst, _⟩, hfoc, hset⟩ := hA.setBlk (b' := .mp (.int k) gv (mset (.int k) gv l z xv) none) hlk
  rw [hb] at hb'
  cases hb'
  have hob := (hA.sh.ok _ hfoc.mem).2
  have e1 := (TT.get hX ht).ti.1
  rw [hte] at e1
  have e3 := (TT.get hX hk).ti.1
  rw [hke] at e3
  have hfin : ∃ es' clock', (Instr.mapUpdate t (.map (some b)) (.int k z) vy).run X.P w = .ok () { w with heap := w.heap.setIfInBounds b (.map es'.toArray clock') } ∧ MR B w0 (.int k) gv (mset (.int k) gv l z xv) es' ∧ Stamped es' clock' := by
    unfold Instr.mapUpdate
    rw [show (10000 : Nat) = 9999 + 1 from rfl]
    simp only [Sem.run_bind, run_underlying e1, Result.andThen_ok, MapKept.run_getObj_map hob, run_checkKey_int e3]
    rcases hmr.setInt hvd (z := z) 0 with ⟨h6, h7⟩ | ⟨j, v, e, h6, h7, h8, h9⟩
    · refine ⟨es ++ [MapEntry.mk (.int k z) vy clock], clock + 1, ?_, ?_, ?_⟩
      · simp only [MapKept.run_findKey e3 h6, Result.andThen_ok, MapKept.run_setObj_map _ hob]
        simp
      · rw [h7]
        have hk1 : VD B w0 (.int k) z (.int k z) := show [Value.int k z] = [Value.int k z] from rfl
        exact MR.snoc (gk := .int k) (x := (z, xv)) (e := MapEntry.mk (.int k z) vy clock) hk1 hvd hmr
      · refine ⟨?_, ?_⟩
        · rw [List.map_append, List.pairwise_append]
          exact ⟨hst.1, by simp, fun p hp q hq => by simp at hq; subst hq; exact hst.2 p hp⟩
        · intro p hp
          rw [List.map_append, List.mem_append] at hp
          rcases hp with hp | hp
          · exact Nat.lt_succ_of_lt (hst.2 p hp)
          · simp at hp; omega
    · refine ⟨es.modify j fun e => { e with key := .int k z, val := vy }, clock, ?_, h9, ?_⟩
      · rw [Nat.zero_add] at h6
        have hkeep : (Instr.keyThatStays (((es.toArray[j]?).map (·.key)).getD (.int k z)) (.int k z)).run X.P w = .ok (.int k z) w := by
          have : ((es.toArray[j]?).map (·.key)).getD (.int k z) = .int k z := by simp [h7, h8]
          rw [this]
          simp [Instr.keyThatStays, Instr.sameBits]
        simp only [MapKept.run_findKey e3 h6, Result.andThen_ok, Sem.run_bind, hkeep, MapKept.run_setObj_map _ hob]
        simp
      · rw [Stamped, modify_map (f := fun e => { e with key := .int k z, val := vy }) (fun _ => rfl)]
        exact hst
  obtain ⟨es', clock', hrun, hmr', hst'⟩ := hfin
  refine xl_cons (x_skip hA.stt ho.1 ho.2 (w' := { w with heap := w.heap.setIfInBounds b (.map es'.toArray clock') }) ?_ fun a' hS => ?_)
  · simp [execOp, hop, hA.stt.ev h1, hA.stt.ev h2, hA.stt.ev h4, hrun]
  · obtain ⟨H', h10⟩ := hset _ a' _ ⟨b, es', clock', hb, rfl, hmr', hst', fun _ h => by cases h⟩ (hA.sh.setO hfoc) hS
    exact hnext R W Bi a' _ ⟨ks, env, B, w0, H', hM, h10⟩
end
end Go.Proofs.YtcjpcmofajcadaaDoor

/- Ranges over maps. -/
namespace Go.Proofs.YtcjpcmofajcadaaDoor
open Go.RowKit
theorem MR.length {B : Nat → Prop} {w : World} {gk gv : GTy} : ∀ {l : List (gk.D × gv.D)} {es : List MapEntry}, MR B w gk gv l es → es.length = l.length
  | [], _, h => by rw [show _ = [] from h]; rfl
  | _ :: _, _, ⟨_, _, e, _, _, h⟩ => by rw [e, List.length_cons, List.length_cons, MR.length h]
theorem MR.get {B : Nat → Prop} {w : World} {gk gv : GTy} {x : gk.D × gv.D} : ∀ {l : List (gk.D × gv.D)} {es : List MapEntry} {j : Nat}, MR B w gk gv l es → l[j]? = some x → ∃ e, es[j]? = some e ∧ VD B w gk x.1 e.key ∧ VD B w gv x.2 e.val
  | [], _, _, _, hj => by simp at hj
  | y :: _, _, 0, ⟨e, r, h, h1, h2, _⟩, hj => by
    subst h
    simp at hj
    subst hj
    exact ⟨e, rfl, h1, h2⟩
  | _ :: _, _, j + 1, ⟨_, _, h, _, _, h3⟩, hj => by
    subst h
    obtain ⟨e, h4, h5⟩ := MR.get h3 (by simpa using hj)
    exact ⟨e, by simpa using h4, h5⟩
theorem born_inj {es : List MapEntry} {clock : Nat} (hs : Stamped es clock) {i j : Nat} {a b : MapEntry} (hi : es[i]? = some a) (hj : es[j]? = some b) (e : a.born = b.born) : i = j := by
  have hp := List.pairwise_iff_getElem.1 hs.1
  obtain ⟨hi1, hi2⟩ := List.getElem?_eq_some_iff.1 hi
  obtain ⟨hj1, hj2⟩ := List.getElem?_eq_some_iff.1 hj
  rcases Nat.lt_trichotomy i j with h | h | h
  · have := hp i j (by simpa using hi1) (by simpa using hj1) h
    simp only [List.getElem_map, hi2, hj2] at this
    omega
  · exact h
  · have := hp j i (by simpa using hj1) (by simpa using hi1) h
    simp only [List.getElem_map, hi2, hj2] at this
    omega
theorem stampsAt_snoc {es : List MapEntry} {ps : List Nat} {j : Nat} {e : MapEntry} (h : es[j]? = some e) : stampsAt es (ps ++ [j]) = stampsAt es ps ++ [e.born] := by simp [stampsAt, h]
theorem mem_stamps {es : List MapEntry} {clock : Nat} (hs : Stamped es clock) {ps : List Nat} (hp : ∀ j ∈ ps, j < es.length) {j : Nat} {e : MapEntry} (h : es[j]? = some e) : e.born ∈ stampsAt es ps ↔ j ∈ ps := by
  constructor
  · intro hm
    obtain ⟨i, hi, hb⟩ := List.mem_map.1 hm
    have hil := hp i hi
    rw [List.getElem?_eq_getElem hil] at hb
    have := born_inj hs (List.getElem?_eq_getElem hil) h (by simpa using hb)
    exact this ▸ hi
  · intro hj
    exact List.mem_map.2 ⟨j, hj, by simp [h]⟩
section
variable {X : Cx} {M : Bool} {n : Nat} {r : Option Nat} {st : ASt} {Q : Exit → ASt → Prop} {ops rest : List Oper} {o : Oper} {d : Nat}
/-- The entries of a map are named. -/
theorem al_open {gk gv : GTy} {l : List (gk.D × gv.D)} {om : Option (List MapEntry × Nat)} (id : Nat) (hlk : lk st.H id = some (.mp gk gv l om))
    (h : ∀ es clock, Stamped es clock → es.length = l.length → AL X M n r ops rest ⟨st.L, putH id (.mp gk gv l (some (es, clock))) st.H⟩ Q) : AL X M n r ops rest st Q := by
  rintro R W Bi a w ⟨ks, env, B, w0, H, hM, hA⟩
  obtain ⟨c, K, ⟨b, es, clock, h1, h2, h3, h4, h5⟩, hf, hput⟩ := hA.heap.put hlk
  have hK : K c = H := by obtain ⟨X, Y, e1, e2⟩ := hf; rw [e2, e1]
  have hH := hput (.mp gk gv l (some (es, clock))) c ⟨b, es, clock, h1, h2, h3, h4, fun q hq => (Option.some.inj hq).symm⟩
  rw [hK] at hH
  exact h es clock h4 h3.length R W Bi a w ⟨ks, env, B, w0, H, hM, hA.size, hA.defs, hA.has, hH, hA.sh, hA.sub, hA.new, hA.pin, hA.base, hA.glob⟩
theorem al_range (hX : X.tt.ok X.P) {t kt et : TypeId} {te : TE} {gk gv : GTy} {u : Operand} {id : Nat} {l : List (gk.D × gv.D)} {es : List MapEntry} {clock : Nat} (hop : o.op = .range t u) (ho : o.guard = none ∧ o.dst = some d) (hd : Nat.blt d n = true)
    (ht : X.tt.find t = some te) (hte : te.ti.desc = .map kt et) (hu : ae X st.L u = some (true, .c (.mref id))) (hlk : lk st.H id = some (.mp gk gv l (some (es, clock)))) (hne : Nat.beq id d = false)
    (hnext : AL X M n r ops rest ⟨(d, .c (.ptr d 0)) :: subL d .dead st.L, (d, .it id es clock []) :: delH d .dead st.H⟩ Q) : AL X M n r ops (o :: rest) st Q := by
  rintro R W Bi a w ⟨ks, env, B, w0, H, hM, hA⟩
  obtain ⟨vu, h1, b, hb, rfl⟩ := hA.ev hu rfl
  obtain ⟨c, K, ⟨b', es', clock', hb', rfl, hmr, hst, hq⟩, hfoc⟩ := hA.heap.foc hlk
  rw [hb] at hb'
  cases hb'
  cases hq _ rfl
  have hob := (hA.sh.ok _ hfoc.more.mem).2
  have e1 := (TT.get hX ht).ti.1
  rw [hte] at e1
  have hrun : (Instr.range t (.map (some b))).run X.P w = .ok (.pointer (some ⟨w.heap.size, 0, none⟩)) (w.alloc (.mapIter (some b) clock #[] clock)) := by
    simp [Instr.range, run_underlying e1, MapKept.run_getObj_map hob, newObj, Sem.run, Result.andThen]
  refine xl_cons (x_value hA.stt ho.1 ho.2 (lt_of_blt hd) (v := .pointer (some ⟨w.heap.size, 0, none⟩)) (w' := w.alloc (.mapIter (some b) clock #[] clock)) (by simp [execOp, hop, hA.stt.ev h1, hrun]) fun a' hS => ?_)
  obtain ⟨H', _, h3⟩ := hA.newBlk (d := d) hd (l := .blk w.heap.size) (blk := .it id es clock []) (sv := .c (.ptr d 0)) (hA.sh.alloc _) ⟨_, b, upd_self, by rw [upd_other id (Nat.ne_of_beq_eq_false hne)]; exact hb, rfl⟩ ⟨_, upd_self, rfl⟩ hS
  exact hnext R W Bi a' _ ⟨ks, _, B, w0, H', hM, h3⟩
theorem al_next {gk gv : GTy} {u : Operand} {mid id : Nat} {l : List (gk.D × gv.D)} {es : List MapEntry} {clock : Nat} {ps : List Nat} (hop : o.op = .next u false) (ho : o.guard = none ∧ o.dst = some d) (hd : Nat.blt d n = true)
    (hu : ae X st.L u = some (true, .c (.ptr id 0))) (hit : lk st.H id = some (.it mid es clock ps)) (hlk : lk st.H mid = some (.mp gk gv l (some (es, clock)))) (hst : Stamped es clock) (hps : ∀ j ∈ ps, j < es.length)
    (hdone : (∀ j, j < es.length → j ∈ ps) → AL X M n r ops rest ⟨(d, .tup [.c (.val (.bool false))]) :: st.L, st.H⟩ Q)
    (hstep : ∀ j, j < es.length → j ∉ ps → AL X M n r ops rest ⟨(d, .tup [.c (.val (.bool true)), .c .dead, .c .dead]) :: st.L, putH id (.it mid es clock (ps ++ [j])) st.H⟩ Q) : AL X M n r ops (o :: rest) st Q := by
  rintro R W Bi a w ⟨ks, env, B, w0, H, hM, hA⟩
  obtain ⟨vu, h1, b, hb, rfl⟩ := hA.ev hu rfl
  obtain ⟨c2, K2, ⟨m, es', clock', hm, rfl, hmr, _, hq⟩, hfoc2⟩ := hA.heap.foc hlk
  cases hq _ rfl
  have hobm := (hA.sh.ok _ hfoc2.more.mem).2
  obtain ⟨c, K, hc0, hfoc, hset⟩ := hA.setBlk (b' := Blk.it mid es clock ps) hit
  obtain ⟨b', m', hb', hm', rfl⟩ := hc0
  rw [hb] at hb'
  cases hb'
  rw [hm] at hm'
  cases hm'
  have hob := (hA.sh.ok _ hfoc.mem).2
  have hold : ∀ x ∈ es.toArray.toList, x.born < clock := fun x hx => hst.2 _ (List.mem_map_of_mem (by simpa using hx))
  rcases run_next_at (P := X.P) w o.type b m clock clock (stampsAt es ps).toArray es.toArray clock hob hobm hold (Nat.le_refl _) with ⟨h0, hrun⟩ | ⟨e, he, w1, hw1, hrun⟩
  · refine xl_cons (x_value hA.stt ho.1 ho.2 (lt_of_blt hd) (v := .tuple #[.bool false]) (w' := w) (by simp [execOp, hop, hA.stt.ev h1, hrun]) fun a' hS => ?_)
    refine hdone (fun j hj => ?_) R W Bi a' _ ⟨ks, env, B, w0, H, hM, hA.set (sv := .tup [.c (.val (.bool false))]) ⟨[.bool false], rfl, .bool false, [], rfl, rfl, rfl⟩ hS⟩
    have hj2 : es[j]? = some es[j] := List.getElem?_eq_getElem hj
    refine (mem_stamps hst hps hj2).1 ?_
    have hemp : leftOf es.toArray (stampsAt es ps).toArray = #[] := Array.eq_empty_of_size_eq_zero h0
    by_cases hin : es[j].born ∈ stampsAt es ps
    · exact hin
    · exfalso
      have : es[j] ∈ leftOf es.toArray (stampsAt es ps).toArray := by
        simp only [leftOf, Array.mem_filter]
        exact ⟨by simp, by simpa using hin⟩
      rw [hemp] at this
      simp at this
  · have he2 : e ∈ es ∧ e.born ∉ stampsAt es ps := by
      have : e ∈ leftOf es.toArray (stampsAt es ps).toArray := by simpa using he
      simp only [leftOf, Array.mem_filter] at this
      exact ⟨by simpa using this.1, by simpa using this.2⟩
    obtain ⟨j, hj, hej⟩ := List.mem_iff_getElem.1 he2.1
    have hj2 : es[j]? = some e := by rw [List.getElem?_eq_getElem hj, hej]
    have hjn : j ∉ ps := fun h => he2.2 ((mem_stamps hst hps hj2).2 h)
    have hsh : SH (fun k => R k ∨ B k) w0 (H ++ ks.map mkO) w1 := by
      rcases hw1 with rfl | rfl
      · exact hA.sh
      · exact hA.sh.drew
    refine xl_cons (x_value hA.stt ho.1 ho.2 (lt_of_blt hd) (v := .tuple #[.bool true, e.key, e.val]) (w' := { w1 with heap := w1.heap.setIfInBounds b (.mapIter (some m) clock ((stampsAt es (ps ++ [j])).toArray) clock) }) ?_ fun a' hS => ?_)
    · have e3 : (stampsAt es ps).toArray.push e.born = (stampsAt es (ps ++ [j])).toArray := by rw [stampsAt_snoc hj2]; simp
      rw [e3] at hrun
      simp [execOp, hop, hA.stt.ev h1, hrun, ChangeMaps.setBlock]
    · obtain ⟨c5, K5, _, hfoc5, hset5⟩ := hA.setBlk (b' := .it mid es clock (ps ++ [j])) hit
      have hS0 : St n (ks.map markOf) ((d, .tuple #[.bool true, e.key, e.val]) :: full a) a' := hS
      obtain ⟨c6, K6, hc6, hf6, hput⟩ := hA.heap.put hit
      obtain ⟨b6, m6, hb6, _, rfl⟩ := hc6
      rw [hb] at hb6
      cases hb6
      have hH6 := hput (.it mid es clock (ps ++ [j])) (.obj b (.mapIter (some m) clock (stampsAt es (ps ++ [j])).toArray clock)) ⟨b, m, hb, hm, rfl⟩
      have hsh6 := hsh.setO (x' := .mapIter (some m) clock (stampsAt es (ps ++ [j])).toArray clock) hf6.more
      refine hstep j hj hjn R W Bi a' _ ⟨ks, env, B, w0, _, hM, hS.size, hS.defs, fun s u hs => ?_, hH6, hsh6, hA.sub, hA.new, hA.pin, hA.base, hA.glob⟩
      rw [lk_cons] at hs
      split at hs
      · rename_i e5
        subst e5
        cases hs
        exact ⟨_, hS.this, [.bool true, e.key, e.val], rfl, _, _, rfl, rfl, _, _, rfl, trivial, _, _, rfl, trivial, rfl⟩
      · rename_i e5
        obtain ⟨u', h7, h8⟩ := hA.has s u hs
        exact ⟨u', hS.other e5 h7, h8⟩
theorem al_entry {gk gv : GTy} {u : Operand} {mid id : Nat} {l : List (gk.D × gv.D)} {es : List MapEntry} {clock : Nat} {ps : List Nat} {j : Nat} {x : gk.D × gv.D} {ka va : SA} (hop : o.op = .entry u) (ho : o.guard = none ∧ o.dst = some d) (hd : Nat.blt d n = true)
    (hu : ae X st.L u = some (true, .c (.ptr id 0))) (hit : lk st.H id = some (.it mid es clock (ps ++ [j]))) (hlk : lk st.H mid = some (.mp gk gv l (some (es, clock)))) (hst : Stamped es clock) (hj : l[j]? = some x) (hk : vSA gk x.1 = some ka) (hv : vSA gv x.2 = some va)
    (hnext : AL X M n r ops rest ⟨(d, .tup [ka, va]) :: st.L, st.H⟩ Q) : AL X M n r ops (o :: rest) st Q := by
  rintro R W Bi a w ⟨ks, env, B, w0, H, hM, hA⟩
  obtain ⟨vu, h1, b, hb, rfl⟩ := hA.ev hu rfl
  obtain ⟨c2, K2, ⟨m, es', clock', hm, rfl, hmr, _, hq⟩, hfoc2⟩ := hA.heap.foc hlk
  cases hq _ rfl
  have hobm := (hA.sh.ok _ hfoc2.more.mem).2
  obtain ⟨c, K, ⟨b', m', hb', hm', rfl⟩, hfoc⟩ := hA.heap.foc hit
  rw [hb] at hb'
  cases hb'
  rw [hm] at hm'
  cases hm'
  have hob := (hA.sh.ok _ hfoc.more.mem).2
  obtain ⟨e, he, hk2, hv2⟩ := hmr.get hj
  rw [stampsAt_snoc he, show (stampsAt es ps ++ [e.born]).toArray = (stampsAt es ps).toArray.push e.born by simp] at hob
  have hn : (es.toArray.toList.map (·.born)).Nodup := List.Pairwise.imp (fun h => Nat.ne_of_lt h) hst.1
  have hrun := run_entry_at (P := X.P) w b m clock (stampsAt es ps).toArray es.toArray clock e hob hobm (by simpa using List.mem_of_getElem? he) hn
  refine xl_cons (x_value hA.stt ho.1 ho.2 (lt_of_blt hd) (v := .tuple #[e.key, e.val]) (w' := w) (by simp [execOp, hop, hA.stt.ev h1, hrun]) fun a' hS => ?_)
  exact hnext R W Bi a' _ ⟨ks, env, B, w0, H, hM, hA.set (sv := .tup [ka, va]) ⟨[e.key, e.val], rfl, _, _, rfl, hk2.sa hk, _, _, rfl, hv2.sa hv, rfl⟩ hS⟩
end
end Go.Proofs.YtcjpcmofajcadaaDoor

/- What ranges over maps compute: the same in all orders. -/
namespace Go.Proofs.YtcjpcmofajcadaaDoor
open Go.RowKit
section
variable {α β : Type}
def insAll (x : α) : List α → List (List α)
  | [] => [[x]]
  | y :: l => (x :: y :: l) :: (insAll x l).map (y :: ·)
def perms : List α → List (List α)
  | [] => [[]]
  | x :: l => (perms l).flatMap (insAll x)
theorem mem_insAll (x : α) (b : List α) : ∀ a : List α, (a ++ x :: b) ∈ insAll x (a ++ b)
  | [] => by cases b <;> simp [insAll]
  | y :: a => by
    simp only [List.cons_append, insAll, List.mem_cons, List.mem_map]
    exact .inr ⟨_, mem_insAll x b a, rfl⟩
theorem insAll_perm (x : α) : ∀ {l σ : List α}, σ ∈ insAll x l → σ.Perm (x :: l)
  | [], σ, h => by simp only [insAll, List.mem_singleton] at h; subst h; exact List.Perm.refl _
  | y :: l, σ, h => by
    simp only [insAll, List.mem_cons, List.mem_map] at h
    rcases h with rfl | ⟨τ, hτ, rfl⟩
    · exact List.Perm.refl _
    · exact ((insAll_perm x hτ).cons y).trans (List.Perm.swap x y l)
theorem mem_perms : ∀ {l σ : List α}, σ.Perm l → σ ∈ perms l
  | [], σ, h => by rw [List.Perm.eq_nil h]; simp [perms]
  | x :: l, σ, h => by
    obtain ⟨a, b, rfl⟩ := List.append_of_mem (h.mem_iff.2 (List.mem_cons_self))
    have h2 : (a ++ b).Perm l := (List.perm_middle.symm.trans h).cons_inv
    exact List.mem_flatMap.2 ⟨_, mem_perms h2, mem_insAll x b a⟩
theorem perms_perm : ∀ {l σ : List α}, σ ∈ perms l → σ.Perm l
  | [], σ, h => by simp only [perms, List.mem_singleton] at h; subst h; exact List.Perm.refl _
  | x :: l, σ, h => by
    obtain ⟨τ, h1, h2⟩ := List.mem_flatMap.1 h
    exact (insAll_perm x h2).trans ((perms_perm h1).cons x)
/-- What all orders give. -/
def dem [DecidableEq β] (l : List α) (f : List α → Option β) : Option β := match f l with
  | some b => if (perms l).all (fun σ => decide (f σ = some b)) then some b else none
  | none => none
theorem dem_some [DecidableEq β] {l : List α} {f : List α → Option β} {b : β} (h : dem l f = some b) : ∀ σ, σ.Perm l → f σ = some b := by
  intro σ hσ
  unfold dem at h
  split at h
  · rename_i b' hb'
    split at h
    · rename_i hall
      cases h
      simpa using List.all_eq_true.1 hall σ (mem_perms hσ)
    · cases h
  · cases h
theorem dem_eq [DecidableEq β] {l : List α} {f : List α → Option β} {b : β} (h : ∀ σ, σ.Perm l → f σ = some b) : dem l f = some b := by
  unfold dem
  rw [h l (List.Perm.refl _)]
  dsimp only
  rw [if_pos]
  rw [List.all_eq_true]
  intro σ hσ
  exact decide_eq_true (h σ (perms_perm hσ))
theorem dem_split {γ : Type} [DecidableEq β] {l : List α} {g : List α → Option γ} {f : γ → Option β} {r : β} (h : dem l (fun q => (g q).bind f) = some r) : ∃ P : γ → Prop, (∀ o, P o → f o = some r) ∧ ∀ q, q.Perm l → ∃ o, g q = some o ∧ P o :=
  ⟨fun o => f o = some r, fun _ h => h, fun q hq => by
    have h2 : (g q).bind f = some r := dem_some h q hq
    cases hg : g q with
    | none => rw [hg] at h2; cases h2
    | some o => exact ⟨o, rfl, by rw [hg] at h2; exact h2⟩⟩
/-- The places that are left. -/
def leftN (n : Nat) (ps : List Nat) : List Nat := (List.range n).filter fun j => !ps.elem j
def leftP (l : List α) (ps : List Nat) : List α := (leftN l.length ps).filterMap fun j => l[j]?
theorem leftP_nil (l : List α) : leftP l [] = l := by
  unfold leftP leftN
  have e : (List.range l.length).filter (fun j => !([] : List Nat).elem j) = List.range l.length := by
    rw [List.filter_eq_self]
    intro a _
    rfl
  rw [e]
  apply List.ext_getElem?
  have key : ∀ (k : Nat), k ≤ l.length → ((List.range k).filterMap fun j => l[j]?) = l.take k := by
    intro k
    induction k with
    | zero => intro _; simp
    | succ k ih =>
      intro hk
      rw [List.range_succ, List.filterMap_append, ih (by omega), List.take_succ_eq_append_getElem (by omega)]
      simp [List.getElem?_eq_getElem (show k < l.length by omega)]
  intro i
  rw [key l.length (Nat.le_refl _), List.take_length]
theorem leftP_done {l : List α} {ps : List Nat} (h : ∀ j, j < l.length → j ∈ ps) : leftP l ps = [] := by
  have : leftN l.length ps = [] := by
    unfold leftN
    rw [List.filter_eq_nil_iff]
    intro a ha
    simp only [List.mem_range] at ha
    simpa using h a ha
  rw [leftP, this]
  rfl
theorem leftN_step {n j : Nat} {ps : List Nat} (hj : j < n) (hn : j ∉ ps) : (j :: leftN n (ps ++ [j])).Perm (leftN n ps) := by
  have hm : j ∈ leftN n ps := by simp [leftN, hj, hn]
  have hnd : (leftN n ps).Nodup := List.Pairwise.sublist List.filter_sublist List.nodup_range
  have e : leftN n (ps ++ [j]) = (leftN n ps).filter (fun i => !(i == j)) := by
    unfold leftN
    rw [List.filter_filter]
    apply List.filter_congr
    intro i _
    by_cases h1 : i = j <;> by_cases h2 : i ∈ ps <;> simp [h1, h2]
  rw [e]
  obtain ⟨a, b, hab⟩ := List.append_of_mem hm
  rw [hab] at hnd ⊢
  have hd := List.nodup_cons.1 ((List.perm_middle (a := j) (l₁ := a) (l₂ := b)).nodup_iff.1 hnd)
  have hf : (a ++ j :: b).filter (fun i => !(i == j)) = a ++ b := by
    rw [List.filter_append, List.filter_cons]
    simp only [beq_self_eq_true, Bool.not_true, Bool.false_eq_true, if_false]
    have ha : a.filter (fun i => !(i == j)) = a := List.filter_eq_self.2 fun i hi => by
      have : i ≠ j := fun e => hd.1 (e ▸ List.mem_append_left _ hi)
      simpa using this
    have hb : b.filter (fun i => !(i == j)) = b := List.filter_eq_self.2 fun i hi => by
      have : i ≠ j := fun e => hd.1 (e ▸ List.mem_append_right _ hi)
      simpa using this
    rw [ha, hb]
  rw [hf]
  exact List.perm_middle.symm
theorem leftP_step {l : List α} {j : Nat} {ps : List Nat} {x : α} (hx : l[j]? = some x) (hn : j ∉ ps) : (x :: leftP l (ps ++ [j])).Perm (leftP l ps) := by
  have hj : j < l.length := (List.getElem?_eq_some_iff.1 hx).1
  have := (leftN_step hj hn).filterMap (fun j => l[j]?)
  rw [List.filterMap_cons, hx] at this
  exact this
theorem leftN_lt {n j : Nat} {ps : List Nat} (hj : j < n) (hn : j ∉ ps) : (leftN n (ps ++ [j])).length < (leftN n ps).length := by
  have := (leftN_step hj hn).length_eq
  rw [List.length_cons] at this
  omega
end
end Go.Proofs.YtcjpcmofajcadaaDoor

/- Strings by index. -/
namespace Go.Proofs.YtcjpcmofajcadaaDoor
open Go.RowKit
section
variable {X : Cx} {M : Bool} {n : Nat} {r : Option Nat} {st : ASt} {Q : Exit → ASt → Prop} {ops rest : List Oper} {o : Oper} {d : Nat}
theorem al_one (hX : X.tt.ok X.P) {c : Bool} {st' : ASt} (hs : astep X n (dstsOf ops) st o = .ok c st') (hc : c = true) (h : AL X M n r ops rest st' Q) : AL X M n r ops (o :: rest) st Q := by
  rintro R W Bi a w ⟨ks, env, B, w0, H, hM, hA⟩
  exact xl_cons (astep_ok hX hs hc hA fun a' w' env' H' _ hA' => h _ _ _ _ _ ⟨ks, env', B, w0, H', hM, hA'⟩)
theorem al_strIndex (hX : X.tt.ok X.P) {t : TypeId} {te : TE} {u x : Operand} {s : List UInt8} {k : IntKind} {z : Int} {g g2 : Bool} (hop : o.op = .index t u x) (ho : o.guard = none ∧ o.dst = some d) (hd : Nat.blt d n = true)
    (ht : X.tt.find t = some te) (hte : te.ti.desc = .string) (hu : ae X st.L u = some (g, .c (.str s))) (hg : g = true) (hx : ae X st.L x = some (g2, .c (.val (.int k z)))) (hg2 : g2 = true) (hb : inB z s.length = true)
    (hnext : AL X M n r ops rest ⟨(d, .c (.val (.int .u8 ((s.getD z.toNat 0).toNat : Int)))) :: st.L, st.H⟩ Q) : AL X M n r ops (o :: rest) st Q := by
  rintro R W Bi a w ⟨ks, env, B, w0, H, hM, hA⟩
  obtain ⟨vu, h1, h2⟩ := hA.ev hu hg
  rw [show vu = strV s from h2] at h1
  obtain ⟨vx, h3, h4⟩ := hA.ev hx hg2
  rw [show vx = _ from h4] at h3
  obtain ⟨j, rfl, hj, hjn⟩ := inB_ok hb
  have e1 := (TT.get hX ht).ti.1
  rw [hte] at e1
  have hget : (ByteArray.mk s.toArray)[j]? = some (s.getD j 0) := by
    have hlt : j < (ByteArray.mk s.toArray).size := by simpa [ByteArray.size] using hj
    have e2 : (ByteArray.mk s.toArray)[j]? = some ((ByteArray.mk s.toArray)[j]'hlt) := by
      exact getElem?_pos (ByteArray.mk s.toArray) j hlt
    rw [e2, List.getD_eq_getElem?_getD, List.getElem?_eq_getElem hj]
    rfl
  refine xl_cons (x_value hA.stt ho.1 ho.2 (lt_of_blt hd) (v := .int .u8 ((s.getD j 0).toNat : Int)) (w' := w) ?_ fun a' hS => ?_)
  · have h0 : (0 : Int) ≤ (j : Int) := Int.natCast_nonneg j
    have hrun : (Instr.index t (strV s) (.int k (j : Int))).run X.P w = .ok (.int .u8 ((s.getD j 0).toNat : Int)) w := by
      simp only [Instr.index, strV, asIntOf, Sem.run_bind, Sem.run_pure, Result.andThen_ok, run_underlying e1, h0, if_true, Int.toNat_natCast, hget]
    simp [execOp, hop, hA.stt.ev h1, hA.stt.ev h3, hrun]
  · rw [Int.toNat_natCast] at hnext
    exact hnext R W Bi a' _ ⟨ks, env, B, w0, H, hM, hA.set (sv := .c (.val (.int .u8 ((s.getD j 0).toNat : Int)))) rfl hS⟩
end
end Go.Proofs.YtcjpcmofajcadaaDoor

/- Arrays of the call's own are rows. -/
namespace Go.Proofs.YtcjpcmofajcadaaDoor
open Go.RowKit
/-- Cells that are data, one after another. -/
def decs (g : GTy) : Nat → List SC → Option (Bool × List g.D × List SC)
  | 0, r => some (true, [], r)
  | m + 1, r => match dec g r with
    | some (c1, x, r1) => match decs g m r1 with
      | some (c2, l, r2) => some (c1 && c2, x :: l, r2)
      | none => none
    | none => none
section
variable {env : Nat → Loc} {B : Nat → Prop} {w : World}
theorem decs_ok {g : GTy} : ∀ {m : Nat} {cs : List SC} {c : Bool} {l : List g.D} {r : List SC} {vs : List Value}, CsR env B w cs vs → decs g m cs = some (c, l, r) → c = true → l.length = m ∧ ∃ v1 v2, vs = v1 ++ v2 ∧ Flat (FR B w g) l v1 ∧ CsR env B w r v2
  | 0, cs, c, l, r, vs, h, hd, _ => by
    cases hd
    exact ⟨rfl, [], vs, rfl, rfl, h⟩
  | m + 1, cs, c, l, r, vs, h, hd, hc => by
    simp only [decs] at hd
    split at hd
    · rename_i c1 x r1 h1
      split at hd
      · rename_i c2 l2 r2 h2
        cases hd
        simp only [Bool.and_eq_true] at hc
        obtain ⟨v1, v2, rfl, h3, h4⟩ := dec_ok h h1 hc.1
        obtain ⟨hl, v3, v4, rfl, h5, h6⟩ := decs_ok h4 h2 hc.2
        exact ⟨by rw [List.length_cons, hl], v1 ++ v3, v4, by rw [List.append_assoc], ⟨v1, v3, rfl, h3, h5⟩, h6⟩
      · cases hd
    · cases hd
end
section
variable {X : Cx} {R : Nat → Prop} {W : World} {Bi : Bk} {n : Nat} {ks : List Nat} {env : Nat → Loc} {B : Nat → Prop} {w0 : World} {H : List Ck} {st st' : ASt} {a : Act} {w : World}
/-- The array in the block s: a row with m elements. -/
theorem Wk.arr (s : Nat) (g : GTy) (m : Nat) (l : List g.D) {t : TypeId} {cs : List SC} {c : Bool} (hid : Nat.blt s n = true) (hs : lk st.L s = some (.c (.ptr s 0))) (hlk : lk st.H s = some (.cells t cs)) (hdec : decs g m cs = some (c, l, [])) (hc : c = true) (hm : m ≤ 140737488355328) :
    Wk X n st ⟨(s, .c (.elt s g.size 0 0)) :: subL s .dead st.L, (s, .row t g l (some m)) :: delH s .dead st.H⟩ := fun R W Bi M a w ⟨ks, env, B, w0, H, hM, h⟩ => by
  obtain ⟨ck, Y, Z, ⟨b, vs, he, rfl, hcs⟩, h2, h3⟩ := h.heap.take hlk
  obtain ⟨hl, v1, v2, hv, hfl, hv2⟩ := decs_ok hcs hdec hc
  have hv2' : v2 = [] := hv2
  subst hv2'
  rw [List.append_nil] at hv
  subst hv
  subst hl
  obtain ⟨H2, h4, h5, _⟩ := h3 (upd env s (.row (some ⟨b, 0, none⟩) l.length l.length)) .dead upd_other (fun _ _ => trivial)
  have hp : (H ++ ks.map mkO).Perm (Ck.cel b vs t :: (Y ++ Z ++ ks.map mkO)) := by
    rw [h2]
    simp only [List.append_assoc, List.cons_append]
    exact List.perm_middle
  have hs1 : SH (fun k => R k ∨ B k) w0 (Ck.cel b vs t :: (H2 ++ ks.map mkO)) w := (h.sh.perm hp).weak ((h4.append_right _).cons_cons _)
  refine ⟨ks, upd env s (.row (some ⟨b, 0, none⟩) l.length l.length), B, w0, .row (some ⟨b, 0, none⟩) l.length t g.size l.length vs :: H2, hM, h.size, h.defs, fun q u hu => ?_, ⟨_, H2, rfl, ⟨_, _, vs, upd_self, rfl, hfl, fun q hq => by cases hq; rfl⟩, h5⟩, hs1.toRow (FR.flat_length hfl) hm, h.sub, h.new, pin_upd h.pin (fun q hp => by have h1 := (h.pin _ _ hp).1; have h2 := lt_of_blt hid; omega), h.base, h.glob⟩
  rw [lk_cons] at hu
  split at hu
  · rename_i e
    subst e
    cases hu
    obtain ⟨u', h6, b', h7, h8⟩ := h.has _ _ hs
    rw [he] at h7
    cases h7
    exact ⟨u', h6, b, _, _, upd_self, by rw [h8]; simp⟩
  · obtain ⟨u0, hu0, rfl⟩ := lk_subL hu
    obtain ⟨u', h6, h7⟩ := h.has q u0 hu0
    exact ⟨u', h6, VR.sub (z := .dead) upd_other (fun _ _ => trivial) h7⟩
end
/-- The room behind an append. -/
def capUp : Option Nat → Nat → Option Nat
  | some c, k => cond (Nat.ble k c) (some c) none
  | none, _ => none
section
variable {X : Cx} {M : Bool} {n : Nat} {r : Option Nat} {st : ASt} {Q : Exit → ASt → Prop} {ops rest : List Oper} {o : Oper} {d : Nat}
/-- Some operations. -/
theorem al_upN (k : Nat) (hX : X.tt.ok X.P) {c' : Bool} {st' : ASt} {l : List Oper} (h : arun X n (dstsOf ops) (l.take k) true st = .done c' st') (hc : c' = true) (hQ : AL X M n r ops (l.drop k) st' Q) : AL X M n r ops l st Q := by
  have : ∀ (k : Nat) (l : List Oper) (c : Bool) (st : ASt), arun X n (dstsOf ops) (l.take k) c st = .done c' st' → AL X M n r ops (l.drop k) st' Q → AL X M n r ops l st Q := by
    intro k
    induction k with
    | zero => intro l c st h hQ; simp only [List.take_zero, arun] at h; cases h; exact hQ
    | succ k ih =>
      intro l c st h hQ
      cases l with
      | nil => simp only [List.take_nil, arun] at h; cases h; exact hQ
      | cons o l =>
        simp only [List.take_succ_cons, arun] at h
        split at h
        · rename_i c2 st2 hs
          have h2 := arun_c h hc
          simp only [Bool.and_eq_true] at h2
          rintro R W Bi a w ⟨ks, env, B, w0, H, hM, hA⟩
          exact xl_cons (astep_ok hX hs h2.2 hA fun a' w' env' H' _ hA' => ih l _ _ h hQ _ _ _ _ _ ⟨ks, env', B, w0, H', hM, hA'⟩)
        · cases h
  exact this k l true st h hQ
/-- append to a row whose room is known. -/
theorem al_appendC (hX : X.tt.ok X.P) {t e : TypeId} {x y : Operand} {g1 g2 : Bool} {sy : SA} {id sz bts : Nat} {ge g : GTy} {l l2 : List g.D} {cap : Option Nat} {te : TE} {ds : TypeDesc} {zz : Value} (hop : o.op = .call ⟨.builtin .append, ⟨[x, y]⟩, ⟨[t, t]⟩⟩) (ho : o.guard = none ∧ o.dst = some d) (hd : (Nat.blt d n && Nat.blt id fixBase) = true)
    (ht : X.tt.find t = some te) (hte : te.ti.desc = .slice e) (he : X.tt.find e = some ⟨⟨ds, sz, bts, zz⟩, some ge⟩) (hx : ae X st.L x = some (g1, .c (.sl id))) (hg : g1 = true) (hy : ae X st.L y = some (g2, sy)) (hg' : g2 = true)
    (hlk : lk st.H id = some (.row e g l cap)) (hsz : Nat.beq g.size sz = true) (hsrc : srcL st g sy = some l2) (hc : fitB bts (l.length + l2.length) = true)
    (hnext : AL X M n r ops rest ⟨(d, .c (.sl id)) :: subL id .dead st.L, (id, .row e g (l ++ l2) (capUp cap (l.length + l2.length))) :: delH id .dead st.H⟩ Q) : AL X M n r ops (o :: rest) st Q := by
  rintro R W Bi a w ⟨ks, env, B, w0, H, hM, h⟩
  obtain ⟨vx, hvx, hrx⟩ := h.ev hx hg
  obtain ⟨vy, hvy, hry⟩ := h.ev hy hg'
  obtain ⟨hg1, hg2, hg3⟩ := (TT.get hX he).g ge rfl
  obtain ⟨T, hT, h1, h4⟩ := tab2 (TT.get hX ht).ti (TT.get hX he).ti
  dsimp only at hg1 hg2 h4
  have hzs : zz.cells.size = sz := by
    have : zz.cells.toList.length = sz := by rw [hg2, ← hg1]; exact FR.length (FR.zeros (B := B) (w := w0) ge)
    simpa using this
  simp only [Bool.and_eq_true] at hd
  obtain ⟨hd, hfix⟩ := hd
  have hsz' := Nat.eq_of_beq_eq_true hsz
  simp only [fitB, Bool.and_eq_true, decide_eq_true_eq] at hc
  obtain ⟨A2, c2, xs2, rfl, hfl2, hR2⟩ := srcL_ok h hsrc hry
  obtain ⟨A, c, m, hen, rfl⟩ := hrx
  obtain ⟨ck, K, ⟨A', k', xs, hen', rfl, hfl, hcap⟩, hfoc, hturn⟩ := h.turnRow (d := d) (b' := .row e g (l ++ l2) (capUp cap (l.length + l2.length))) hlk (fun q hp => by
    obtain ⟨_, h5, h6⟩ := h.pin _ _ hp
    rw [hen] at h5
    rcases h6 with ⟨b, h6⟩ | h6
    · rw [← h5] at h6; cases h6
    · have := lt_of_blt hfix; omega)
  rw [hen] at hen'
  cases hen'
  rw [hsz'] at hfoc hR2
  refine xl_cons (y_appendC h.sym hop ho hd hT h1 hte h4 (by rw [← hg1]; exact Nat.ble_eq_true_of_le hg3) hzs hvx hvy hfoc hR2 (Flat.ones (fun _ _ => FR.ones) hfl2) hc.1 hc.2 fun A' c' a' w' hroom hY => ?_)
  obtain ⟨H', hkp, h8⟩ := hturn (.row A' c' (l.length + l2.length)) _ a' w' (.c (.sl id)) _ ⟨A', c', xs ++ xs2, by rw [upd_self, List.length_append], by rw [List.length_append], hfl.append hfl2, fun q hq => by
    cases cap with
    | none => cases hq
    | some cc =>
      have e1 := hcap cc rfl
      subst e1
      cases hb : Nat.ble (l.length + l2.length) c with
      | true =>
        simp only [capUp, hb, cond_true, Option.some.injEq] at hq
        subst hq
        exact hroom (Nat.le_of_ble_eq_true hb)
      | false => simp only [capUp, hb, cond_false] at hq; cases hq⟩ ⟨A', c', _, upd_self, rfl⟩ (by rw [hsz']; exact hY.sh) hY.st
  exact hnext R W Bi a' w' ⟨ks, _, B, w0, H', hM, h8⟩
end
end Go.Proofs.YtcjpcmofajcadaaDoor

/- rounds. -/
namespace Go.Proofs.YtcjpcmofajcadaaDoor
set_option linter.unusedSimpArgs false
set_option linter.unusedVariables false
open Go.RowKit
def s_blen64_1 : List UInt8 := [0, 1, 2, 2, 3, 3, 3, 3, 4, 4, 4, 4, 4, 4, 4, 4, 5, 5, 5, 5, 5, 5, 5, 5, 5, 5, 5, 5, 5, 5, 5, 5, 6, 6, 6, 6, 6, 6, 6, 6, 6, 6, 6, 6, 6, 6, 6, 6, 6, 6, 6, 6, 6, 6, 6, 6, 6, 6, 6, 6, 6, 6, 6, 6, 7, 7, 7, 7, 7, 7, 7, 7, 7, 7, 7, 7, 7, 7, 7, 7, 7, 7, 7, 7, 7, 7, 7, 7, 7, 7, 7, 7, 7, 7, 7, 7, 7, 7, 7, 7, 7, 7, 7, 7, 7, 7, 7, 7, 7, 7, 7, 7, 7, 7, 7, 7, 7, 7, 7, 7, 7, 7, 7, 7, 7, 7, 7, 7, 8, 8, 8, 8, 8, 8, 8, 8, 8, 8, 8, 8, 8, 8, 8, 8, 8, 8, 8, 8, 8, 8, 8, 8, 8, 8, 8, 8, 8, 8, 8, 8, 8, 8, 8, 8, 8, 8, 8, 8, 8, 8, 8, 8, 8, 8, 8, 8, 8, 8, 8, 8, 8, 8, 8, 8, 8, 8, 8, 8, 8, 8, 8, 8, 8, 8, 8, 8, 8, 8, 8, 8, 8, 8, 8, 8, 8, 8, 8, 8, 8, 8, 8, 8, 8, 8, 8, 8, 8, 8, 8, 8, 8, 8, 8, 8, 8, 8, 8, 8, 8, 8, 8, 8, 8, 8, 8, 8, 8, 8, 8, 8, 8, 8, 8, 8, 8, 8, 8, 8, 8, 8, 8, 8, 8, 8, 8, 8]
def m_blen64 (a0 : Int) : Option (Int) :=
    Option.bind (cond (decide ((4294967296 : Int) ≤ a0)) (some ((Int.fdiv a0 (2 ^ (min (32 : Int).toNat (IntKind.bits .u64)))), (32 : Int))) (some (a0, (0 : Int)))) fun o1 =>
    Option.bind (cond (decide ((65536 : Int) ≤ o1.1)) (gd ((inI64 (o1.2 + (16 : Int)))) <|
    some ((Int.fdiv o1.1 (2 ^ (min (16 : Int).toNat (IntKind.bits .u64)))), (o1.2 + (16 : Int)))) (some (o1.1, o1.2))) fun o2 =>
    cond (decide ((256 : Int) ≤ o2.1)) (gd ((inI64 (o2.2 + (8 : Int)))) <|
    gd ((inB (IntKind.wrap .u8 (Int.fdiv o2.1 (2 ^ (min (8 : Int).toNat (IntKind.bits .u64))))) s_blen64_1.length) && (inI64 ((s_blen64_1.getD (IntKind.wrap .u8 (Int.fdiv o2.1 (2 ^ (min (8 : Int).toNat (IntKind.bits .u64))))).toNat 0).toNat : Int)) && (inI64 ((o2.2 + (8 : Int)) + ((s_blen64_1.getD (IntKind.wrap .u8 (Int.fdiv o2.1 (2 ^ (min (8 : Int).toNat (IntKind.bits .u64))))).toNat 0).toNat : Int)))) <|
    some ((o2.2 + (8 : Int)) + ((s_blen64_1.getD (IntKind.wrap .u8 (Int.fdiv o2.1 (2 ^ (min (8 : Int).toNat (IntKind.bits .u64))))).toNat 0).toNat : Int))) (gd ((inB (IntKind.wrap .u8 o2.1) s_blen64_1.length) && (inI64 ((s_blen64_1.getD (IntKind.wrap .u8 o2.1).toNat 0).toNat : Int)) && (inI64 (o2.2 + ((s_blen64_1.getD (IntKind.wrap .u8 o2.1).toNat 0).toNat : Int)))) <|
    some (o2.2 + ((s_blen64_1.getD (IntKind.wrap .u8 o2.1).toNat 0).toNat : Int)))
set_option maxRecDepth 20000 in
set_option maxHeartbeats 4000000 in
theorem w_blen64 (a0 : Int) (r : (Int)) (h : m_blen64 a0 = some r) : AC cx 83 [.c (.val (.int .u64 a0))] [] (fun sv h => sv = .a (.c (.val (.int .i64 r))) ∧ h = []) := by
  unfold m_blen64 at h
  refine ac_body tt_ok Tryd.func83 rfl Tryd.ntmps83 rfl rfl (res := [.tmp 2]) rfl ?_
  refine ax_seq ?_
  refine ax_region ?_
  refine al_run tt_ok rfl rfl ?_
  refine ax_seq ?_
  refine ax_seq ?_
  refine ax_region ?_
  refine al_run tt_ok rfl rfl ?_
  obtain ⟨o1, ho1, hk1⟩ := bd h
  refine ax_cutS (fun o1 : Int × Int => ⟨[(0, .a (.c (.val (.int .u64 o1.1)))), (2, .a (.c (.val (.int .i64 o1.2))))], []⟩) (fun o' => o1 = o') ?_ ?_
  ·
   have h := ho1
   refine ax_cond rfl rfl (fun hc => ?_) (fun hc => ?_)
   ·
    replace h := cond_t hc h
    refine ax_seq ?_
    refine ax_region ?_
    refine al_run tt_ok rfl rfl ?_
    refine ax_region ?_
    refine al_run tt_ok rfl rfl ?_
    exact ⟨_, (Option.some.inj h).symm, (Wk.sub (SubL.cons rfl (SubL.cons rfl SubL.nil)) SubH.nil)⟩
   ·
    replace h := cond_f hc h
    refine ax_skip ?_
    exact ⟨_, (Option.some.inj h).symm, (Wk.sub (SubL.cons rfl (SubL.cons rfl SubL.nil)) SubH.nil)⟩
  ·
   rintro _ rfl
   have h := hk1
   refine ax_seq ?_
   refine ax_seq ?_
   refine ax_region ?_
   refine al_run tt_ok rfl rfl ?_
   obtain ⟨o2, ho2, hk2⟩ := bd h
   refine ax_cutS (fun o2 : Int × Int => ⟨[(0, .a (.c (.val (.int .u64 o2.1)))), (2, .a (.c (.val (.int .i64 o2.2))))], []⟩) (fun o' => o2 = o') ?_ ?_
   ·
    have h := ho2
    refine ax_cond rfl rfl (fun hc => ?_) (fun hc => ?_)
    ·
     replace h := cond_t hc h
     refine ax_seq ?_
     refine ax_region ?_
     refine al_run tt_ok rfl rfl ?_
     obtain ⟨hG3, h⟩ := gd_some h
     refine ax_region ?_
     refine al_run tt_ok rfl (by first | (simp only [hG3, ob, decide_true, cond_true, cond_false]; done) | (simp_all; done) | (simp only [hG3, ob, decide_true, cond_true, cond_false]; rfl)) ?_
     exact ⟨_, (Option.some.inj h).symm, (Wk.sub (SubL.cons rfl (SubL.cons rfl SubL.nil)) SubH.nil)⟩
    ·
     replace h := cond_f hc h
     refine ax_skip ?_
     exact ⟨_, (Option.some.inj h).symm, (Wk.sub (SubL.cons rfl (SubL.cons rfl SubL.nil)) SubH.nil)⟩
   ·
    rintro _ rfl
    have h := hk2
    refine ax_seq ?_
    refine ax_seq ?_
    refine ax_region ?_
    refine al_run tt_ok rfl rfl ?_
    refine ax_cond rfl rfl (fun hc => ?_) (fun hc => ?_)
    ·
     replace h := cond_t hc h
     refine ax_seq ?_
     refine ax_region ?_
     refine al_run tt_ok rfl rfl ?_
     obtain ⟨hG5, h⟩ := gd_some h
     refine ax_region ?_
     refine al_run tt_ok rfl (by first | (simp only [hG5, ob, decide_true, cond_true, cond_false]; done) | (simp_all; done) | (simp only [hG5, ob, decide_true, cond_true, cond_false]; rfl)) ?_
     refine ax_seq ?_
     obtain ⟨hG4, h⟩ := gd_some h
     simp only [Bool.and_eq_true] at hG4
     obtain ⟨⟨hG4_0, hG4_1⟩, hG4_2⟩ := hG4
     refine ax_region ?_
     refine al_upN 3 tt_ok rfl (by first | (simp only [hG4_0, hG4_1, hG4_2, ob, decide_true, cond_true, cond_false]; done) | (simp_all; done) | (simp only [hG4_0, hG4_1, hG4_2, ob, decide_true, cond_true, cond_false]; rfl)) ?_
     refine al_strIndex (s := s_blen64_1) tt_ok rfl ⟨rfl, rfl⟩ rfl rfl rfl rfl (by first | (simp only [hG4_0, hG4_1, hG4_2, ob, decide_true, cond_true, cond_false]; done) | (simp_all; done) | (simp only [hG4_0, hG4_1, hG4_2, ob, decide_true, cond_true, cond_false]; rfl)) rfl (by first | (simp only [hG4_0, hG4_1, hG4_2, ob, decide_true, cond_true, cond_false]; done) | (simp_all; done) | (simp only [hG4_0, hG4_1, hG4_2, ob, decide_true, cond_true, cond_false]; rfl)) (by first | (simp only [hG4_0, hG4_1, hG4_2, ob, decide_true, cond_true, cond_false]; done) | (simp_all; done) | (simp only [hG4_0, hG4_1, hG4_2, ob, decide_true, cond_true, cond_false]; rfl)) ?_
     refine al_run tt_ok rfl (by first | (simp only [hG4_0, hG4_1, hG4_2, ob, decide_true, cond_true, cond_false]; done) | (simp_all; done) | (simp only [hG4_0, hG4_1, hG4_2, ob, decide_true, cond_true, cond_false]; rfl)) ?_
     refine ax_ret ?_
     obtain rfl := Option.some.inj h
     refine ⟨_, (Wk.sub (st' := ⟨[(2, _)], []⟩) (SubL.cons rfl SubL.nil) SubH.nil), _, _, rfl, rfl, ?_⟩
     exact ⟨rfl, rfl⟩
    ·
     replace h := cond_f hc h
     refine ax_skip ?_
     refine ax_seq ?_
     obtain ⟨hG6, h⟩ := gd_some h
     simp only [Bool.and_eq_true] at hG6
     obtain ⟨⟨hG6_0, hG6_1⟩, hG6_2⟩ := hG6
     refine ax_region ?_
     refine al_upN 3 tt_ok rfl (by first | (simp only [hG6_0, hG6_1, hG6_2, ob, decide_true, cond_true, cond_false]; done) | (simp_all; done) | (simp only [hG6_0, hG6_1, hG6_2, ob, decide_true, cond_true, cond_false]; rfl)) ?_
     refine al_strIndex (s := s_blen64_1) tt_ok rfl ⟨rfl, rfl⟩ rfl rfl rfl rfl (by first | (simp only [hG6_0, hG6_1, hG6_2, ob, decide_true, cond_true, cond_false]; done) | (simp_all; done) | (simp only [hG6_0, hG6_1, hG6_2, ob, decide_true, cond_true, cond_false]; rfl)) rfl (by first | (simp only [hG6_0, hG6_1, hG6_2, ob, decide_true, cond_true, cond_false]; done) | (simp_all; done) | (simp only [hG6_0, hG6_1, hG6_2, ob, decide_true, cond_true, cond_false]; rfl)) (by first | (simp only [hG6_0, hG6_1, hG6_2, ob, decide_true, cond_true, cond_false]; done) | (simp_all; done) | (simp only [hG6_0, hG6_1, hG6_2, ob, decide_true, cond_true, cond_false]; rfl)) ?_
     refine al_run tt_ok rfl (by first | (simp only [hG6_0, hG6_1, hG6_2, ob, decide_true, cond_true, cond_false]; done) | (simp_all; done) | (simp only [hG6_0, hG6_1, hG6_2, ob, decide_true, cond_true, cond_false]; rfl)) ?_
     refine ax_ret ?_
     obtain rfl := Option.some.inj h
     refine ⟨_, (Wk.sub (st' := ⟨[(2, _)], []⟩) (SubL.cons rfl SubL.nil) SubH.nil), _, _, rfl, rfl, ?_⟩
     exact ⟨rfl, rfl⟩
def m_blen (a0 : Int) : Option (Int) :=
    cond false (none) (Option.bind (m_blen64 a0) fun r1 =>
    some r1)
set_option maxRecDepth 20000 in
set_option maxHeartbeats 4000000 in
theorem w_blen (a0 : Int) (r : (Int)) (h : m_blen a0 = some r) : AC cx 66 [.c (.val (.int .u64 a0))] [] (fun sv h => sv = .a (.c (.val (.int .i64 r))) ∧ h = []) := by
  unfold m_blen at h
  refine ac_body tt_ok Tryd.func66 rfl Tryd.ntmps66 rfl rfl (res := [.tmp 2]) rfl ?_
  refine ax_seq ?_
  refine ax_region ?_
  refine al_run tt_ok rfl rfl ?_
  refine ax_seq ?_
  refine ax_cond rfl rfl (fun hc => ?_) (fun hc => ?_)
  ·
   replace h := cond_t hc h
   refine ax_seq ?_
   cases h
  ·
   replace h := cond_f hc h
   refine ax_skip ?_
   refine ax_seq ?_
   obtain ⟨r1, hr1, h⟩ := bd h
   refine ax_region ?_
   refine al_upto tt_ok rfl rfl ?_
   refine al_callP (w_blen64 _  r1 hr1) rfl ⟨rfl, rfl⟩ rfl Tryd.func83 rfl rfl rfl rfl rfl rfl ?_
   refine al_run tt_ok rfl rfl ?_
   refine ax_ret ?_
   obtain rfl := Option.some.inj h
   refine ⟨_, (Wk.sub (st' := ⟨[(2, _)], []⟩) (SubL.cons rfl SubL.nil) SubH.nil), _, _, rfl, rfl, ?_⟩
   exact ⟨rfl, rfl⟩
def m_pdq8_L2 (a0 : List Int) (a1 : Int) (a2 : Int) (a3 : Int) : Nat → Option ((Unit) ⊕ ((List Int)))
  | 0 => none
  | n + 1 =>
    gd ((inI64 (a2 - a1))) <|
    cond (decide ((a2 - a1) ≤ (12 : Int))) (Option.bind (m_insort a0 a1 a2) fun r3 =>
    some (.inr r3)) (cond (decide (a3 = (0 : Int))) (none) (Option.bind (cond (!true) (none) (some ())) fun o4 =>
    none))
def m_pdq8 (a0 : List Int) (a1 : Int) (a2 : Int) (a3 : Int) : Option ((List Int)) :=
    Option.bind (m_pdq8_L2 a0 a1 a2 a3 FUEL) fun o1 =>
    sm o1 (fun o1 =>
    none) (fun q => some q)
set_option maxRecDepth 20000 in
set_option maxHeartbeats 4000000 in
theorem w_pdq8 (a0 : List Int) (a1 : Int) (a2 : Int) (a3 : Int) (c0 : Option Nat) (r : ((List Int))) (h : m_pdq8 a0 a1 a2 a3 = some r) : AC cx 65 [.c (.sl 2000000), .c (.val (.int .i64 a1)), .c (.val (.int .i64 a2)), .c (.val (.int .i64 a3))] [(2000000, .row 5 (.int .u8) a0 c0)] (fun sv h => sv = .tup [] ∧ h = [(2000000, .row 5 (.int .u8) r c0)]) := by
  unfold m_pdq8 at h
  refine ac_body tt_ok Tryd.func65 rfl Tryd.ntmps65 rfl rfl (res := []) rfl ?_
  refine ax_seq ?_
  refine ax_region ?_
  refine al_run tt_ok rfl rfl ?_
  refine ax_seq ?_
  refine ax_region ?_
  refine al_run tt_ok rfl rfl ?_
  obtain ⟨o1, ho1, hk1⟩ := bd h
  refine ax_cutS (fun o1 : Unit => ⟨[], [(2000000, .row 5 (.int .u8) a0 c0)]⟩) (fun o' => Sum.inl o' = o1) ?_ ?_
  ·
   have h := ho1
   refine ax_block ?_
   refine ax_weak (st' := ⟨[(0, _), (1, _), (2, _), (3, _), (8, _), (9, _)], [(2000000, _)]⟩) (Wk.sub (SubL.cons rfl (SubL.cons rfl (SubL.cons rfl (SubL.cons rfl (SubL.cons rfl (SubL.cons rfl SubL.nil)))))) (SubH.cons rfl rfl SubH.nil)) ?_
   refine ax_loopL (fun y : Nat => []) (fun y : Nat => []) (fun y : Nat => m_pdq8_L2 a0 a1 a2 a3 y  = some o1) (fun y : Nat => y) (FUEL) h ?_
   rintro n h
   replace h : m_pdq8_L2 a0 a1 a2 a3 n  = some o1 := h
   rcases n with _ | n
   · cases (show (none : Option _) = some _ from h)
   rw [m_pdq8_L2] at h
   try dsimp only
   refine ax_block ?_
   refine ax_seq ?_
   obtain ⟨hG5, h⟩ := gd_some h
   refine ax_region ?_
   refine al_run tt_ok rfl (by first | (simp only [hG5, ob, decide_true, cond_true, cond_false]; done) | (simp_all; done) | (simp only [hG5, ob, decide_true, cond_true, cond_false]; rfl)) ?_
   refine ax_seq ?_
   refine ax_seq ?_
   refine ax_region ?_
   refine al_run tt_ok rfl rfl ?_
   refine ax_cond rfl rfl (fun hc => ?_) (fun hc => ?_)
   ·
    replace h := cond_t hc h
    refine ax_seq ?_
    obtain ⟨r3, hr3, h⟩ := bd h
    refine ax_region ?_
    refine al_upto tt_ok rfl rfl ?_
    refine al_call [(2000000, 2000000)] (w_insort _ _ _ c0 r3 hr3) rfl ⟨rfl, rfl⟩ rfl Tryd.func73 rfl rfl rfl rfl rfl rfl (PassH.cons rfl rfl rfl PassH.nil) ?_
    rintro _ _ ⟨rfl, rfl⟩
    refine ⟨_, _, rfl, rfl, ?_⟩
    refine al_run tt_ok rfl rfl ?_
    refine ax_ret ?_
    obtain rfl := Option.some.inj h
    have h := hk1
    dsimp only [sm] at h
    obtain rfl := Option.some.inj h
    refine ⟨_, (Wk.sub (st' := ⟨[], [(2000000, _)]⟩) SubL.nil (SubH.cons rfl rfl SubH.nil)), _, _, rfl, rfl, ?_⟩
    exact ⟨rfl, rfl⟩
   ·
    replace h := cond_f hc h
    refine ax_skip ?_
    refine ax_seq ?_
    refine ax_seq ?_
    refine ax_region ?_
    refine al_run tt_ok rfl rfl ?_
    refine ax_cond rfl rfl (fun hc => ?_) (fun hc => ?_)
    ·
     replace h := cond_t hc h
     refine ax_seq ?_
     cases h
    ·
     replace h := cond_f hc h
     refine ax_skip ?_
     refine ax_seq ?_
     refine ax_seq ?_
     refine ax_region ?_
     refine al_run tt_ok rfl rfl ?_
     obtain ⟨o4, ho4, hk4⟩ := bd h
     refine ax_cutS (fun o4 : Unit => ⟨[(0, .a (.c (.sl 2000000))), (1, .a (.c (.val (.int .i64 a1)))), (2, .a (.c (.val (.int .i64 a2)))), (3, .a (.c (.val (.int .i64 a3)))), (8, .a (.c (.val (.bool true)))), (9, .a (.c (.val (.bool true)))), (10, .a (.c (.val (.int .i64 (a2 - a1)))))], [(2000000, .row 5 (.int .u8) a0 c0)]⟩) (fun o' => o4 = o') ?_ ?_
     ·
      have h := ho4
      refine ax_cond rfl rfl (fun hc => ?_) (fun hc => ?_)
      ·
       replace h := cond_t hc h
       refine ax_seq ?_
       cases h
      ·
       replace h := cond_f hc h
       refine ax_skip ?_
       exact ⟨_, (Option.some.inj h).symm, (Wk.sub (SubL.cons rfl (SubL.cons rfl (SubL.cons rfl (SubL.cons rfl (SubL.cons rfl (SubL.cons rfl (SubL.cons rfl SubL.nil))))))) (SubH.cons rfl rfl SubH.nil))⟩
     ·
      rintro _ rfl
      have h := hk4
      refine ax_seq ?_
      cases h
  ·
   rintro o1 rfl
   have h := hk1
   dsimp only [sm] at h
   cases h
def m_sort8 (a0 : List Int) : Option ((List Int)) :=
    Option.bind (m_blen (IntKind.wrap .u64 (a0.length : Int))) fun r1 =>
    Option.bind (m_pdq8 a0 (0 : Int) (a0.length : Int) r1) fun r2 =>
    some r2
set_option maxRecDepth 20000 in
set_option maxHeartbeats 4000000 in
theorem w_sort8 (a0 : List Int) (c0 : Option Nat) (r : ((List Int))) (h : m_sort8 a0 = some r) : AC cx 60 [.c (.sl 2000000)] [(2000000, .row 5 (.int .u8) a0 c0)] (fun sv h => sv = .tup [] ∧ h = [(2000000, .row 5 (.int .u8) r c0)]) := by
  unfold m_sort8 at h
  refine ac_body tt_ok Tryd.func60 rfl Tryd.ntmps60 rfl rfl (res := []) rfl ?_
  refine ax_seq ?_
  refine ax_region ?_
  refine al_run tt_ok rfl rfl ?_
  obtain ⟨r1, hr1, h⟩ := bd h
  obtain ⟨r2, hr2, h⟩ := bd h
  refine ax_region ?_
  refine al_upto tt_ok rfl rfl ?_
  refine al_callP (w_blen _  r1 hr1) rfl ⟨rfl, rfl⟩ rfl Tryd.func66 rfl rfl rfl rfl rfl rfl ?_
  refine al_call [(2000000, 2000000)] (w_pdq8 _ _ _ _ c0 r2 hr2) rfl ⟨rfl, rfl⟩ rfl Tryd.func65 rfl rfl rfl rfl rfl rfl (PassH.cons rfl rfl rfl PassH.nil) ?_
  rintro _ _ ⟨rfl, rfl⟩
  refine ⟨_, _, rfl, rfl, ?_⟩
  refine al_run tt_ok rfl rfl ?_
  obtain rfl := Option.some.inj h
  refine ⟨_, (Wk.sub (st' := ⟨[], [(2000000, _)]⟩) SubL.nil (SubH.cons rfl rfl SubH.nil)), _, _, rfl, rfl, ?_⟩
  exact ⟨rfl, rfl⟩
end Go.Proofs.YtcjpcmofajcadaaDoor
