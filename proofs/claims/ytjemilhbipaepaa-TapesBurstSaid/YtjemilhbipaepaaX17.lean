/- A law's row: the answer is true, and nothing that was there has changed. -/
import Derived.Test.YtjemilhbipaepaaX16
import Derived.ProofKit
namespace Go.Proofs.Ytjemilhbipaepaa
open Go.ChangeShapes Go.WideShapes Go.ChangeAt Go.RowKit
section
variable {H : Type} {enc : TypeId × Value → H} {P : Program}
theorem trodAll_carry (hl : laidOutB P = true) {W W' : World} (hb : Below W.heap.size W W') {sp : Nat → Bool} :
    ∀ (ts : List TypeId) (vs : List Value) (ds : List (DataW H)) (ps : List MemPlace), (∀ t ∈ ts, P.readableRec t = true ∧ t < P.types.size) → (∀ x ∈ ps, x.block < W.heap.size) → (∀ x ∈ ps, sp x.block = true) →
      DataW.TrodAll enc P W 0 (fun _ => true) true ts vs ds ps → DataW.TrodAll enc P W' 0 sp true ts vs ds ps
  | [], [], [], ps, _, _, _, h => h
  | t :: ts, v :: vs, d :: ds, ps, hr, hlt, hsp, h => by
    obtain ⟨p, q, h1, h2, rfl⟩ := h
    refine ⟨p, q, WideElems.Trod_stays hl (hr t (by simp)).1 (hr t (by simp)).2 h1 (fun x hx => hb.same (hlt x (by simp [hx]))) (fun x hx => hsp x (by simp [hx])), ?_, rfl⟩
    exact trodAll_carry hl hb ts vs ds q (fun t' ht => hr t' (by simp [ht])) (fun x hx => hlt x (by simp [hx])) (fun x hx => hsp x (by simp [hx])) h2
  | [], [], _ :: _, _, _, _, _, h => h.elim
  | [], _ :: _, _, _, _, _, _, h => h.elim
  | _ :: _, [], _, _, _, _, _, h => h.elim
  | _ :: _, _ :: _, [], _, _, _, _, h => h.elim
theorem post_law {f : Func} {s : ChangeSpec} {apart fresh handsOn : Bool} {t : TypeId} {W W' : World} {args : Array Value} {ds gs : List (DataW H)} {before : List MemPlace}
    (hW : DataW.Whole enc P f.params.toList s.vars apart W args.toList ds gs before) (hv : s.vars = []) (hfn : s.fn H (ds ++ gs) = { results := [.lit (.bool true)], args := ds }) (hrt : f.resultTypes = #[t]) (ht : P.underlying t = some .bool)
    (hl : laidOutB P = true) (hread : ∀ t ∈ f.params.toList, P.readableRec t = true ∧ t < P.types.size) (hb : Below W.heap.size W W') : s.post enc P f apart fresh handsOn false W args (.bool true) W' := by
  have hlt : ∀ p ∈ before, p.block < W.heap.size := fun p hp => hW.lt p hp
  have hW' := hW
  obtain ⟨p, q, h1, h2, rfl, _, _⟩ := hW
  rw [hv] at h2
  obtain ⟨rfl, rfl⟩ := trodVars_none h2
  simp only [List.append_nil] at hlt hW' hfn
  refine ⟨ds, [], p, [], p, [], hW', ?_, ?_, ?_, World.keptBut_mono (fun x hx => ⟨hx, Or.inr (Or.inl hx)⟩) (hb.frame (· ∈ p)), fun h => by cases h⟩
  · simp only [List.append_nil, hfn, hrt]
    exact trodAll_mk1 (shut_bool ht true)
  · simp only [List.append_nil, hfn]
    exact trodAll_carry hl hb _ _ _ _ hread hlt (fun x hx => by simpa using hlt x hx) h1
  · simp only [List.append_nil, hfn, hv]
    rfl
/-- Bytes that read as data. -/
theorem open_bytesR {t e : TypeId} {r : Reach} {b0 : Nat} {v : Value} {d : DataW H} {ps : List MemPlace} {W : World} (ht : P.underlying t = some (.slice e)) (he : P.underlying e = some (.int .u8)) (hc : P.cellsOf e = 1) (hval : Value.okWide P W r b0 t v)
    (hd : DataW.Trod enc P W 0 (fun _ => true) true t v d ps) : ∃ A len cap, ∃ l : List UInt8, v = .slice A len cap ∧ l.length = len ∧ len ≤ cap ∧ cap ≤ maxLen ∧ Reads W A len 1 (l.map fun c => Value.int .u8 c.toNat) := by
  obtain ⟨A, len, cap, rfl⟩ := okWide_slice ht hval
  obtain ⟨fuel, hf⟩ := hd
  have e1 : (Value.slice A len cap).cells.toList = [.slice A len cap] := rfl
  rw [e1] at hf
  rcases open_ints ht he hc hf with ⟨h, _⟩ | ⟨a, len', cap', zs, h, _, hl, hm, hz, _, hcell, hwf⟩
  · simp only [List.cons.injEq, Value.slice.injEq, and_true] at h
    obtain ⟨rfl, rfl, rfl⟩ := h
    exact ⟨none, 0, 0, [], rfl, rfl, Nat.le_refl _, Nat.zero_le _, Reads.nil _ _ _⟩
  · simp only [List.cons.injEq, Value.slice.injEq, and_true] at h
    obtain ⟨rfl, rfl, rfl⟩ := h
    simp only [if_true] at hz
    refine ⟨some a, len, cap, (zs.take len).map fun z => UInt8.ofNat z.toNat, rfl, by simp; omega, hl, hm, by simp; omega, fun h0 => ?_⟩
    have hs : a = ⟨a.block, a.off, none⟩ := by
      have h1 := hcell 0 (by omega)
      obtain ⟨b, p, s⟩ := a
      cases s with
      | none => rfl
      | some s =>
        exfalso
        simp only [World.cell?, Addr.add] at h1
        split at h1 <;> simp at h1
    refine ⟨a.block, a.off, congrArg some hs, fun j u hu => ?_⟩
    have hj : j < len := by have := (List.getElem?_eq_some_iff.1 hu).1; simp at this; omega
    have h1 := hcell j (by omega)
    rw [hs, Addr.add_lit] at h1
    have hjz : j < zs.length := by omega
    have hw := hwf zs[j] (List.getElem_mem hjz)
    have hget : zs.getD j 0 = zs[j] := by simp [List.getD_eq_getElem?_getD, hjz]
    rw [h1, hget]
    rw [← hu]
    simp only [List.getElem?_map, List.getElem?_take, hj, if_true, List.getElem?_eq_getElem hjz, Option.map_some]
    congr 2
    have hr : 0 ≤ zs[j] ∧ zs[j] < 256 := by
      have h5 : IntKind.u8.min ≤ zs[j] ∧ zs[j] ≤ IntKind.u8.max := by simpa [Lit.wf] using hw
      have h6 : IntKind.u8.min = 0 := rfl
      have h7 : IntKind.u8.max = 255 := rfl
      omega
    rw [UInt8.toNat_ofNat', Nat.mod_eq_of_lt (by omega)]
    omega
end
end Go.Proofs.Ytjemilhbipaepaa
