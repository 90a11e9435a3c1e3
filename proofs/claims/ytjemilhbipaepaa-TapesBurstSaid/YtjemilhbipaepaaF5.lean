/- TapesBurst: for every P, every two bytes and every pattern of bits, whatever the memory and the order that Go leaves open, the law returns true, and its arguments read as before. No condition. -/
import Derived.Test.YtjemilhbipaepaaRows
import Derived.Test.YtjemilhbipaepaaX19
import Derived.OpenShut
import Derived.Test.YtjemilhbipaepaaS32
namespace Go.Proofs.Ytjemilhbipaepaa
open Go.ChangeShapes Go.WideShapes Go.ChangeAt Go.RowKit

theorem Try.own : ownKnob Try.prog.godebug = none := by kernel_rfl
theorem Try.laidOut : laidOutB Try.prog = true := by kernel_rfl
theorem Try.cells5 : Try.prog.cellsOf 5 = 1 := by kernel_rfl
theorem Try.cells43 : Try.prog.cellsOf 43 = 2 := by kernel_rfl
theorem Try.cells62 : Try.prog.cellsOf 62 = 6 := by kernel_rfl
theorem dec_od {H : Type} {enc : TypeId × Value → H} {W : World} {k : Nat} {cs : List Value} {x : DataW H × List MemPlace} (h : DataW.trod enc Try.prog W 0 (fun _ => true) true k 62 cs = some x) : ∃ y : Od, cs = odC y := by
  obtain ⟨xs, n, _, _, hlen, hxl, hf⟩ := DataW.trod_struct Try.underlying62 h
  rw [Try.cells62] at hlen
  have g : ∀ (i : Nat) (f : Field), i < 6 → (match Try.prog.underlying 62 with | some (.struct fs) => fs[i]? | _ => none) = some f → f.type = 5 ∧ f.offset = i → ∃ c : UInt8, (cs.drop i).take 1 = [.int .u8 c.toNat] := fun i f hi hfi ⟨ht, ho⟩ => by
    rw [Try.underlying62] at hfi
    have h1 := hf i f hfi
    rw [ht, ho, Try.cells5] at h1
    have h2 : xs[i]? = some (xs[i]'(by rw [hxl]; exact hi)) := List.getElem?_eq_getElem _
    rw [h2] at h1
    exact dec_u8 Try.underlying5 h1
  have e := Try.underlying62
  obtain ⟨c0, h0⟩ := g 0 _ (by omega) (by rw [e]; rfl) ⟨rfl, rfl⟩
  obtain ⟨c1, h1⟩ := g 1 _ (by omega) (by rw [e]; rfl) ⟨rfl, rfl⟩
  obtain ⟨c2, h2⟩ := g 2 _ (by omega) (by rw [e]; rfl) ⟨rfl, rfl⟩
  obtain ⟨c3, h3⟩ := g 3 _ (by omega) (by rw [e]; rfl) ⟨rfl, rfl⟩
  obtain ⟨c4, h4⟩ := g 4 _ (by omega) (by rw [e]; rfl) ⟨rfl, rfl⟩
  obtain ⟨c5, h5⟩ := g 5 _ (by omega) (by rw [e]; rfl) ⟨rfl, rfl⟩
  match cs, hlen with
  | [v0, v1, v2, v3, v4, v5], _ =>
    simp only [List.drop_zero, List.drop_succ_cons, List.take_succ_cons, List.take_zero, List.cons.injEq, and_true] at h0 h1 h2 h3 h4 h5
    exact ⟨⟨c0, c1, c2, c3, c4, c5⟩, by rw [h0, h1, h2, h3, h4, h5]; rfl⟩
theorem dec_two {H : Type} {enc : TypeId × Value → H} {W : World} {k : Nat} {cs : List Value} {x : DataW H × List MemPlace} (h : DataW.trod enc Try.prog W 0 (fun _ => true) true k 43 cs = some x) : ∃ a b : UInt8, cs = [.int .u8 a.toNat, .int .u8 b.toNat] := by
  obtain ⟨xs, n, _, _, hlen, hxl, hf⟩ := DataW.trod_array Try.underlying43 h
  rw [Try.cells43] at hlen
  have g : ∀ i, i < 2 → ∃ c : UInt8, (cs.drop i).take 1 = [.int .u8 c.toNat] := fun i hi => by
    have h1 := hf i hi
    rw [Try.cells5, Nat.mul_one] at h1
    have h2 : xs[i]? = some (xs[i]'(by rw [hxl]; exact hi)) := List.getElem?_eq_getElem _
    rw [h2] at h1
    exact dec_u8 Try.underlying5 h1
  obtain ⟨c0, h0⟩ := g 0 (by omega)
  obtain ⟨c1, h1⟩ := g 1 (by omega)
  match cs, hlen with
  | [v0, v1], _ =>
    simp only [List.drop_zero, List.drop_succ_cons, List.take_succ_cons, List.take_zero, List.cons.injEq, and_true] at h0 h1
    exact ⟨c0, c1, by rw [h0, h1]⟩
theorem okWide_array {P : Program} {w : World} {r : Reach} {base : Nat} {t e : TypeId} {n : Nat} {v : Value} (ht : P.underlying t = some (.array n e)) (h : Value.okWide P w r base t v) : ∃ cs, v = .agg cs ∧ cs.size = P.cellsOf t := by
  simp only [Value.okWide, ht] at h
  obtain ⟨cs, h1, h2, _⟩ := h
  exact ⟨cs, h1, h2⟩
theorem Try.read5 : ∀ t ∈ Try.f5.params.toList, Try.prog.readableRec t = true ∧ t < Try.prog.types.size := by
  rw [Try.params5]
  intro t ht
  simp only [List.mem_cons, List.not_mem_nil, or_false] at ht
  rcases ht with rfl | rfl | rfl <;> exact ⟨by kernel_rfl, of_decide_eq_true (by kernel_rfl)⟩

set_option maxRecDepth 100000 in
theorem tapesBurst_lifted (os : Os) (started : os.Started) (H : Type) (enc : TypeId × Value → H) :
    ReturnsInHanded {} Try.checked os 5 .any (Rows.tapesBurstSpec.pre6 enc Try.prog Try.f5 Rows.tapesBurstRow.domain false) (Rows.tapesBurstSpec.post enc Try.prog Try.f5 false true false false) := by
  refine returnsInHanded_of_change (C := Try.checked) Try.own started (by kernel_rfl) Try.func5
    (ChangeSpec.witness6 (enc := enc) (C := Try.checked) false ⟨#[], #[.slice none 0 0, .agg #[.int .u8 0, .int .u8 0], .int .u16 0], []⟩ 8 (by kernel_rfl) (by kernel_rfl) (by kernel_rfl) (by kernel_rfl)) ?_
  intro W base args ds gs before hval0 hW hcnd _
  have hval : ∀ (j : Nat) t v, Try.f5.params[j]? = some t → args[j]? = some v → Value.okWide Try.prog W .any base t v := hval0
  have hW' := hW
  obtain ⟨p, q, hA0, hV, rfl, hfz, hnd⟩ := hW
  have hA : DataW.TrodAll enc Try.prog W 0 (fun _ => true) true Try.f5.params.toList args.toList ds p := hA0
  rw [Try.params5] at hA hval
  obtain ⟨v0, v1, v2, d0, d1, d2, p0, p1, p2, rfl, rfl, rfl, h0, h1, h2⟩ := trodAll_three hA
  obtain ⟨rfl, rfl⟩ := trodVars_none hV
  obtain ⟨A, len, cap, l, rfl, hlen, hl, hm, hR⟩ := open_list odC_len (by omega) Try.underlying29 Try.cells62 (fun _ _ _ h => dec_od h) (hval 0 29 v0 rfl rfl) h0
  obtain ⟨cs, rfl, hsz⟩ := okWide_array Try.underlying43 (hval 1 43 v1 rfl rfl)
  obtain ⟨c0, c1, ho⟩ : ∃ a b : UInt8, cs.toList = [.int .u8 a.toNat, .int .u8 b.toNat] := by
    obtain ⟨fuel, hf⟩ := h1
    exact dec_two hf
  obtain rfl : cs = #[.int .u8 c0.toNat, .int .u8 c1.toNat] := by rw [← Array.toArray_toList (xs := cs), ho]
  obtain ⟨z, rfl, rfl, rfl, hz⟩ := open_int Try.underlying24 (hval 2 24 v2 rfl rfl) h2
  have hz2 : IntKind.u16.min ≤ z ∧ z ≤ IntKind.u16.max := by simpa [Lit.wf] using hz
  have h6 : IntKind.u16.min = 0 := rfl
  have h7 : IntKind.u16.max = 65535 := rfl
  obtain ⟨zn, rfl⟩ : ∃ zn : Nat, z = (zn : Int) := ⟨z.toNat, by omega⟩
  refine Calls.mono (law5 A cap len l hlen c0.toNat c1.toNat c0.toNat_lt c1.toNat_lt zn (by omega) W hR) fun e W' ⟨v, he, hv, hw⟩ => ?_
  subst hv
  exact ⟨_, he, post_law hW' rfl rfl (by kernel_rfl) Try.underlying4 Try.laidOut Try.read5 hw.below.to_below⟩

theorem tapesBurst_holds : Rows.TapesBurstSaid :=
  OpenClaim.holds_of_wide 5 Try.f5 rfl rfl rfl rfl rfl rfl rfl ⟨rfl, rfl, rfl, rfl, rfl⟩ rfl rfl rfl rfl rfl (by kernel_rfl) Try.func5 (by kernel_rfl)
    (of_decide_eq_true (by kernel_rfl)) (by unfold Func.isWrapper; first | (rw [if_pos (by decide +kernel)]; kernel_rfl) | (rw [if_neg (by decide +kernel)]; exact ⟨rfl, rfl⟩))
    (fun os started H enc _ => tapesBurst_lifted os started H enc)
end Go.Proofs.Ytjemilhbipaepaa
