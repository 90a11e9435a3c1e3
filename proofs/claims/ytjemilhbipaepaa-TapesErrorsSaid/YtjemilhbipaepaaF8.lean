/- TapesErrors: for every P, every operation and every number, whatever the memory and the order that Go leaves open, the law returns true, and its arguments read as before. No condition. -/
import Derived.Test.YtjemilhbipaepaaRows
import Derived.Test.YtjemilhbipaepaaX19
import Derived.Test.YtjemilhbipaepaaS27
namespace Go.Proofs.Ytjemilhbipaepaa
open Go.ChangeShapes Go.WideShapes Go.ChangeAt Go.RowKit

theorem Try.own : ownKnob Try.prog.godebug = none := by kernel_rfl
theorem Try.laidOut : laidOutB Try.prog = true := by kernel_rfl
theorem Try.cells5 : Try.prog.cellsOf 5 = 1 := by kernel_rfl
theorem Try.cells62 : Try.prog.cellsOf 62 = 6 := by kernel_rfl
theorem dec_od {H : Type} {enc : TypeId × Value → H} {W : World} {k : Nat} {cs : List Value} {x : DataW H × List MemPlace} (h : DataW.trod enc Try.prog W 0 (fun _ => true) true k 62 cs = some x) : ∃ y : Od, cs = odC y := by
  obtain ⟨xs, n, _, _, hlen, hxl, hf⟩ := DataW.trod_struct Try.underlying62 h
  rw [Try.cells62] at hlen
  have g : ∀ (i : Nat) (f : Field), i < 6 → (match Try.prog.underlying 62 with | some (.struct fs) => fs[i]? | _ => none) = some f → f.type = 5 ∧ f.offset = i → ∃ c : UInt8, (cs.drop i).take 1 = [.int .u8 c.toNat] := fun i f hi hfi ⟨ht, ho⟩ => by
    rw [Try.underlying62] at hfi
    have h1 := hf i f hfi
    rw [ht, ho, Try.cells5] at h1
    have h2 : xs[i]? = some (xs[i]'(by rw [hxl]; exact hi)) := List.getElem?_eq_getElem _
    rw [h2] at h1
    exact dec_u8 Try.underlying5 h1
  have e := Try.underlying62
  obtain ⟨c0, h0⟩ := g 0 _ (by omega) (by rw [e]; rfl) ⟨rfl, rfl⟩
  obtain ⟨c1, h1⟩ := g 1 _ (by omega) (by rw [e]; rfl) ⟨rfl, rfl⟩
  obtain ⟨c2, h2⟩ := g 2 _ (by omega) (by rw [e]; rfl) ⟨rfl, rfl⟩
  obtain ⟨c3, h3⟩ := g 3 _ (by omega) (by rw [e]; rfl) ⟨rfl, rfl⟩
  obtain ⟨c4, h4⟩ := g 4 _ (by omega) (by rw [e]; rfl) ⟨rfl, rfl⟩
  obtain ⟨c5, h5⟩ := g 5 _ (by omega) (by rw [e]; rfl) ⟨rfl, rfl⟩
  match cs, hlen with
  | [v0, v1, v2, v3, v4, v5], _ =>
    simp only [List.drop_zero, List.drop_succ_cons, List.take_succ_cons, List.take_zero, List.cons.injEq, and_true] at h0 h1 h2 h3 h4 h5
    exact ⟨⟨c0, c1, c2, c3, c4, c5⟩, by rw [h0, h1, h2, h3, h4, h5]; rfl⟩
theorem Try.cells53 : Try.prog.cellsOf 53 = 6 := by kernel_rfl
theorem Try.cells51 : Try.prog.cellsOf 51 = 2 := by kernel_rfl
theorem Try.cells47 : Try.prog.cellsOf 47 = 1 := by kernel_rfl
theorem Try.cells48 : Try.prog.cellsOf 48 = 1 := by kernel_rfl
theorem Try.cells49 : Try.prog.cellsOf 49 = 1 := by kernel_rfl
theorem Try.cells3 : Try.prog.cellsOf 3 = 1 := by kernel_rfl
section
variable {H : Type} {enc : TypeId × Value → H} {W : World}
theorem field_at {t : TypeId} {fs : Array Field} (ht : Try.prog.underlying t = some (.struct fs)) {k : Nat} {cs : List Value} {x : DataW H × List MemPlace} (h : DataW.trod enc Try.prog W 0 (fun _ => true) true k t cs = some x) :
    cs.length = Try.prog.cellsOf t ∧ ∃ n, ∀ (i : Nat) (f : Field), fs[i]? = some f → ∃ y, DataW.trod enc Try.prog W 0 (fun _ => true) true n f.type ((cs.drop f.offset).take (Try.prog.cellsOf f.type)) = some y := by
  obtain ⟨xs, n, _, _, hlen, hxl, hf⟩ := DataW.trod_struct ht h
  refine ⟨hlen, n, fun i f hfi => ?_⟩
  have hi : i < xs.length := by rw [hxl]; exact (Array.getElem?_eq_some_iff.1 hfi).1
  exact ⟨xs[i], (hf i f hfi).trans (List.getElem?_eq_getElem hi)⟩
theorem dec_op {k : Nat} {cs : List Value} {x : DataW H × List MemPlace} (h : DataW.trod enc Try.prog W 0 (fun _ => true) true k 53 cs = some x) : ∃ o : Op, cs = opC o := by
  obtain ⟨hlen, n, hf⟩ := field_at Try.underlying53 h
  rw [Try.cells53] at hlen
  obtain ⟨y0, h0⟩ := hf 0 _ rfl
  obtain ⟨y1, h1⟩ := hf 1 _ rfl
  obtain ⟨y2, h2⟩ := hf 2 _ rfl
  obtain ⟨y3, h3⟩ := hf 3 _ rfl
  obtain ⟨y4, h4⟩ := hf 4 _ rfl
  change DataW.trod enc Try.prog W 0 (fun _ => true) true n 47 ((cs.drop 0).take (Try.prog.cellsOf 47)) = some y0 at h0
  change DataW.trod enc Try.prog W 0 (fun _ => true) true n 48 ((cs.drop 1).take (Try.prog.cellsOf 48)) = some y1 at h1
  change DataW.trod enc Try.prog W 0 (fun _ => true) true n 51 ((cs.drop 2).take (Try.prog.cellsOf 51)) = some y2 at h2
  change DataW.trod enc Try.prog W 0 (fun _ => true) true n 5 ((cs.drop 4).take (Try.prog.cellsOf 5)) = some y3 at h3
  change DataW.trod enc Try.prog W 0 (fun _ => true) true n 3 ((cs.drop 5).take (Try.prog.cellsOf 3)) = some y4 at h4
  rw [Try.cells47] at h0
  rw [Try.cells48] at h1
  rw [Try.cells51] at h2
  rw [Try.cells5] at h3
  rw [Try.cells3] at h4
  obtain ⟨_, n', hf'⟩ := field_at Try.underlying51 h2
  obtain ⟨y5, h5⟩ := hf' 0 _ rfl
  obtain ⟨y6, h6⟩ := hf' 1 _ rfl
  change DataW.trod enc Try.prog W 0 (fun _ => true) true n' 49 ((((cs.drop 2).take 2).drop 0).take (Try.prog.cellsOf 49)) = some y5 at h5
  change DataW.trod enc Try.prog W 0 (fun _ => true) true n' 3 ((((cs.drop 2).take 2).drop 1).take (Try.prog.cellsOf 3)) = some y6 at h6
  rw [Try.cells49] at h5
  rw [Try.cells3] at h6
  obtain ⟨a0, e0⟩ := dec_u8 Try.underlying47 h0
  obtain ⟨a1, e1⟩ := dec_u8 Try.underlying48 h1
  obtain ⟨a2, e2⟩ := dec_u8 Try.underlying49 h5
  obtain ⟨a3, e3, _⟩ := dec_i64 Try.underlying3 h6
  obtain ⟨a4, e4⟩ := dec_u8 Try.underlying5 h3
  obtain ⟨a5, e5, _⟩ := dec_i64 Try.underlying3 h4
  match cs, hlen with
  | [v0, v1, v2, v3, v4, v5], _ =>
    simp only [List.drop_zero, List.drop_succ_cons, List.take_succ_cons, List.take_zero, List.cons.injEq, and_true] at e0 e1 e2 e3 e4 e5
    exact ⟨⟨a0.toNat, a1.toNat, a2.toNat, a3, a4.toNat, a5⟩, by rw [e0, e1, e2, e3, e4, e5]; rfl⟩
end
theorem Try.read8 : ∀ t ∈ Try.f8.params.toList, Try.prog.readableRec t = true ∧ t < Try.prog.types.size := by
  rw [Try.params8]
  intro t ht
  simp only [List.mem_cons, List.not_mem_nil, or_false] at ht
  rcases ht with rfl | rfl | rfl <;> exact ⟨by kernel_rfl, of_decide_eq_true (by kernel_rfl)⟩

set_option maxRecDepth 100000 in
theorem tapesErrors_lifted (os : Os) (started : os.Started) (H : Type) (enc : TypeId × Value → H) :
    ReturnsInHanded {} Try.checked os 8 .any (Rows.tapesErrorsSpec.pre6 enc Try.prog Try.f8 Rows.tapesErrorsRow.domain false) (Rows.tapesErrorsSpec.post enc Try.prog Try.f8 false true false false) := by
  refine returnsInHanded_of_change (C := Try.checked) Try.own started (by kernel_rfl) Try.func8
    (ChangeSpec.witness6 (enc := enc) (C := Try.checked) false ⟨#[], #[.slice none 0 0, .agg #[.int .u8 0, .int .u8 0, .int .u8 0, .int .i64 0, .int .u8 0, .int .i64 0], .int .u8 0], []⟩ 8 (by kernel_rfl) (by kernel_rfl) (by kernel_rfl) (by kernel_rfl)) ?_
  intro W base args ds gs before hval0 hW hcnd _
  have hval : ∀ (j : Nat) t v, Try.f8.params[j]? = some t → args[j]? = some v → Value.okWide Try.prog W .any base t v := hval0
  have hW' := hW
  obtain ⟨p, q, hA0, hV, rfl, hfz, hnd⟩ := hW
  have hA : DataW.TrodAll enc Try.prog W 0 (fun _ => true) true Try.f8.params.toList args.toList ds p := hA0
  rw [Try.params8] at hA hval
  obtain ⟨v0, v1, v2, d0, d1, d2, p0, p1, p2, rfl, rfl, rfl, h0, h1, h2⟩ := trodAll_three hA
  obtain ⟨rfl, rfl⟩ := trodVars_none hV
  obtain ⟨A, len, cap, l, rfl, hlen, hl, hm, hR⟩ := open_list odC_len (by omega) Try.underlying29 Try.cells62 (fun _ _ _ h => dec_od h) (hval 0 29 v0 rfl rfl) h0
  obtain ⟨cs, rfl, hsz⟩ := okWide_struct Try.underlying53 (hval 1 53 v1 rfl rfl)
  obtain ⟨o, ho⟩ : ∃ o : Op, cs.toList = opC o := by
    obtain ⟨fuel, hf⟩ := h1
    exact dec_op hf
  obtain rfl : cs = (opC o).toArray := by rw [← ho]
  obtain ⟨z, rfl, rfl, rfl, hz⟩ := open_int Try.underlying5 (hval 2 5 v2 rfl rfl) h2
  have hz2 : IntKind.u8.min ≤ z ∧ z ≤ IntKind.u8.max := by simpa [Lit.wf] using hz
  have h6 : IntKind.u8.min = 0 := rfl
  have h7 : IntKind.u8.max = 255 := rfl
  obtain ⟨zn, rfl⟩ : ∃ zn : Nat, z = (zn : Int) := ⟨z.toNat, by omega⟩
  refine Calls.mono (law8 A cap len l hlen o zn (by omega) W hR) fun e W' ⟨v, he, hv, hw⟩ => ?_
  subst hv
  exact ⟨_, he, post_law hW' rfl rfl (by kernel_rfl) Try.underlying4 Try.laidOut Try.read8 hw.below.to_below⟩

theorem tapesErrors_holds : Rows.TapesErrorsSaid :=
  OpenClaim.holds_of_wide 8 Try.f8 rfl rfl rfl rfl rfl rfl rfl ⟨rfl, rfl, rfl, rfl, rfl⟩ rfl rfl rfl rfl rfl (by kernel_rfl) Try.func8 (by kernel_rfl)
    (of_decide_eq_true (by kernel_rfl)) (by unfold Func.isWrapper; first | (rw [if_pos (by decide +kernel)]; kernel_rfl) | (rw [if_neg (by decide +kernel)]; exact ⟨rfl, rfl⟩))
    (fun os started H enc _ => tapesErrors_lifted os started H enc)
end Go.Proofs.Ytjemilhbipaepaa
