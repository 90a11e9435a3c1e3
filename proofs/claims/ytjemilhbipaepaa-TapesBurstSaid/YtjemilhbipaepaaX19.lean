/- Arguments that read as data: slices of structs. -/
import Derived.Test.YtjemilhbipaepaaX17
import Derived.Test.YtjemilhbipaepaaX18
import Derived.Deep.Slices
namespace Go.Proofs.Ytjemilhbipaepaa
open Go.ChangeShapes Go.WideShapes Go.ChangeAt Go.RowKit
section
variable {H : Type} {enc : TypeId × Value → H} {P : Program} {W : World}
theorem spot_none {a : Addr} {v : Value} (h : W.cell? a = some v) : a = ⟨a.block, a.off, none⟩ := by
  obtain ⟨b, p, s⟩ := a
  cases s with
  | none => rfl
  | some s =>
    exfalso
    simp only [World.cell?] at h
    split at h <;> simp at h
theorem choose_list {α : Type} {Q : Nat → α → Prop} : ∀ n : Nat, (∀ i, i < n → ∃ x, Q i x) → ∃ l : List α, l.length = n ∧ ∀ i (hi : i < l.length), Q i l[i]
  | 0, _ => ⟨[], rfl, fun i hi => by simp at hi⟩
  | n + 1, h => by
    obtain ⟨l, hl, hq⟩ := choose_list n (fun i hi => h i (by omega))
    obtain ⟨x, hx⟩ := h n (by omega)
    refine ⟨l ++ [x], by simp [hl], fun i hi => ?_⟩
    by_cases hi' : i < l.length
    · rw [List.getElem_append_left hi']; exact hq i hi'
    · have : i = n := by simp at hi; omega
      subst this
      rw [List.getElem_append_right (by omega)]
      simpa [hl] using hx
/-- A slice whose elements' cells can be told from their reading. -/
theorem open_list {α : Type} {f : α → List Value} {s : Nat} (hs : ∀ x, (f x).length = s) (hs0 : 0 < s) {t e : TypeId} {r : Reach} {b0 : Nat} {v : Value} {d : DataW H} {ps : List MemPlace} (ht : P.underlying t = some (.slice e)) (hc : P.cellsOf e = s)
    (hdec : ∀ k cs x, DataW.trod enc P W 0 (fun _ => true) true k e cs = some x → ∃ y : α, cs = f y) (hval : Value.okWide P W r b0 t v) (hd : DataW.Trod enc P W 0 (fun _ => true) true t v d ps) :
    ∃ A len cap, ∃ l : List α, v = .slice A len cap ∧ l.length = len ∧ len ≤ cap ∧ cap ≤ maxLen ∧ Reads W A len s (l.flatMap f) := by
  obtain ⟨A, len, cap, rfl⟩ := okWide_slice ht hval
  obtain ⟨fuel, hf⟩ := hd
  have e1 : (Value.slice A len cap).cells.toList = [.slice A len cap] := rfl
  rw [e1] at hf
  rcases DataW.trod_slice ht hf with ⟨h, _⟩ | ⟨a, len', cap', elems, rest, n, _, h, _, _, hl, hm, hlen, hel, _, _⟩
  · simp only [List.cons.injEq, Value.slice.injEq, and_true] at h
    obtain ⟨rfl, rfl, rfl⟩ := h
    exact ⟨none, 0, 0, [], rfl, rfl, Nat.le_refl _, Nat.zero_le _, Reads.nil _ _ _⟩
  · simp only [List.cons.injEq, Value.slice.injEq, and_true] at h
    obtain ⟨rfl, rfl, rfl⟩ := h
    rw [hc] at hel
    obtain ⟨l, hll, hq⟩ := choose_list (Q := fun i (y : α) => ∀ j, j < s → W.cell? ((a.add (i * s)).add j) = (f y)[j]?) len (fun i hi => by
      have h1 := hel i hi
      have h2 : elems[i]? = some (elems[i]'(by omega)) := List.getElem?_eq_getElem (by omega)
      rw [h2, Option.bind_eq_some_iff] at h1
      obtain ⟨cs, h3, h4⟩ := h1
      obtain ⟨y, rfl⟩ := hdec _ _ _ h4
      exact ⟨y, (World.cells?_some h3).2.2⟩)
    refine ⟨some a, len, cap, l, rfl, hll, hl, hm, by rw [flat_length f s hs, hll], fun h0 => ?_⟩
    have hz := hq 0 (by omega) 0 hs0
    have hz' : W.cell? a = some ((f l[0])[0]'(by rw [hs]; exact hs0)) := by
      have e2 : (a.add (0 * s)).add 0 = a := by simp [Addr.add]
      rw [e2, List.getElem?_eq_getElem (by rw [hs]; exact hs0)] at hz
      exact hz
    have hsp := spot_none hz'
    refine ⟨a.block, a.off, congrArg some hsp, fun j u hu => ?_⟩
    have hj : j < len * s := by have := (List.getElem?_eq_some_iff.1 hu).1; rwa [flat_length f s hs, hll] at this
    have hdiv : j / s < len := (Nat.div_lt_iff_lt_mul hs0).2 hj
    have hmod := Nat.mod_lt j hs0
    have h5 := hq (j / s) (by omega) (j % s) hmod
    rw [hsp, Addr.add_lit, Addr.add_lit, List.getElem?_eq_getElem (by rw [hs]; exact hmod)] at h5
    have h6 := flat_get f s hs l (j / s) (j % s) (by omega) _ (List.getElem?_eq_getElem (by rw [hs]; exact hmod))
    have hjs : j / s * s + j % s = j := by rw [Nat.mul_comm]; exact Nat.div_add_mod j s
    rw [hjs, hu] at h6
    rw [Nat.add_assoc, hjs] at h5
    rw [h5, h6]
theorem dec_u8 {e : TypeId} (he : P.underlying e = some (.int .u8)) {k : Nat} {cs : List Value} {x : DataW H × List MemPlace} (h : DataW.trod enc P W 0 (fun _ => true) true k e cs = some x) : ∃ c : UInt8, cs = [.int .u8 c.toNat] := by
  obtain ⟨n, rfl, _, hw⟩ := DataW.trod_int he h
  have h5 : IntKind.u8.min ≤ n ∧ n ≤ IntKind.u8.max := by simpa [Lit.wf] using hw
  have h6 : IntKind.u8.min = 0 := rfl
  have h7 : IntKind.u8.max = 255 := rfl
  refine ⟨UInt8.ofNat n.toNat, ?_⟩
  rw [UInt8.toNat_ofNat', Nat.mod_eq_of_lt (by omega)]
  simp
  omega
theorem dec_i64 {e : TypeId} (he : P.underlying e = some (.int .i64)) {k : Nat} {cs : List Value} {x : DataW H × List MemPlace} (h : DataW.trod enc P W 0 (fun _ => true) true k e cs = some x) : ∃ n : Int, cs = [.int .i64 n] ∧ -9223372036854775808 ≤ n ∧ n ≤ 9223372036854775807 := by
  obtain ⟨n, rfl, _, hw⟩ := DataW.trod_int he h
  have h5 : IntKind.i64.min ≤ n ∧ n ≤ IntKind.i64.max := by simpa [Lit.wf] using hw
  have h6 : IntKind.i64.min = -9223372036854775808 := rfl
  have h7 : IntKind.i64.max = 9223372036854775807 := rfl
  exact ⟨n, rfl, by omega, by omega⟩
end
end Go.Proofs.Ytjemilhbipaepaa
