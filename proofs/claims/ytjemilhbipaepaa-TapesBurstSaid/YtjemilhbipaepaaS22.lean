/- Reading what was written: plain. -/
import Derived.Test.YtjemilhbipaepaaS14
namespace Go.Proofs.Ytjemilhbipaepaa

theorem raw_enc (k d b : Nat) (q : Int) (y : Nat) (r : Int) (g1 : k ≤ 8) (g2 : d ≤ 1) (g3 : b ≤ 1) (g4 : 0 ≤ q) (g5 : q ≤ 40) (g6 : y ≤ 6) (g7 : -4 ≤ r) (g8 : r ≤ 4) (hy : k = 3 → y = 0) (hr : k ≠ 3 → r = 0) :
    rawOp (k + 16 * d + 32 * b) q.toNat (if k = 3 then (r + 16).toNat else y) = ⟨k, d, b, q, y, r⟩ := by
  unfold rawOp
  have m1 : (k + 16 * d + 32 * b) % 16 = k := by omega
  have m2 : (k + 16 * d + 32 * b) / 16 % 2 = d := by omega
  have m3 : (k + 16 * d + 32 * b) / 32 = b := by omega
  rw [m1, m2, m3]
  by_cases hk3 : k = 3
  · have hy0 := hy hk3
    rw [if_pos hk3, if_pos hk3]
    congr 1 <;> omega
  · have hr0 := hr hk3
    rw [if_neg hk3, if_neg hk3]
    congr 1 <;> omega
theorem enc_dec (o : Op) (h : opErr o = 0) : decOp (encOp o)[0]!.toNat (encOp o)[1]!.toNat (encOp o)[2]!.toNat = o ∧ decOk (encOp o)[0]!.toNat (encOp o)[1]!.toNat (encOp o)[2]!.toNat = true := by
  obtain ⟨g1, g2, g3, g4, g5, g6, g7, g8⟩ := good_of o h
  have h' := h
  unfold opErr at h'
  have hp : opPlain o = true := by
    cases hq : opPlain o with
    | true => rfl
    | false => rw [hq] at h'; simp at h'
  simp only [opPlain, Bool.and_eq_true, Bool.not_eq_true', Bool.or_eq_true, decide_eq_true_eq] at hp
  obtain ⟨⟨⟨⟨hk, hd⟩, hn⟩, hy⟩, hr⟩ := hp
  have hy3 : o.kind = 3 → o.yarn = 0 := fun e => by
    rw [e] at hy
    simp [yarnBad, usesYarn] at hy
    omega
  have hr3 : o.kind ≠ 3 → o.rack = 0 := fun e => by
    rcases hr with hr | hr
    · simp [usesRack] at hr; exact absurd hr e
    · exact hr
  have e0 : (encOp o)[0]!.toNat = o.kind + 16 * o.dir + 32 * o.bed := by
    show (UInt8.ofNat _).toNat = _
    rw [UInt8.toNat_ofNat', Nat.mod_eq_of_lt (by omega)]
  have e1 : (encOp o)[1]!.toNat = o.place.toNat := by
    show (UInt8.ofNat _).toNat = _
    rw [UInt8.toNat_ofNat', Nat.mod_eq_of_lt (by omega)]
  have e2 : (encOp o)[2]!.toNat = if o.kind = 3 then (o.rack + 16).toNat else o.yarn := by
    show (UInt8.ofNat _).toNat = _
    rw [UInt8.toNat_ofNat', Nat.mod_eq_of_lt (by split <;> omega)]
  have er : rawOp (encOp o)[0]!.toNat (encOp o)[1]!.toNat (encOp o)[2]!.toNat = o := by
    rw [e0, e1, e2]
    exact raw_enc _ _ _ _ _ _ g1 g2 g3 g4 g5 g6 g7 g8 hy3 hr3
  refine ⟨?_, ?_⟩
  · rw [decOp, if_neg (by rw [e0]; omega), er]
  · rw [decOk, er, decide_eq_true (by rw [e0]; omega), h]; rfl
theorem enc_get (l : List Op) (rest : List UInt8) (i j : Nat) (hi : i < l.length) (hj : j < 3) : (l.flatMap encOp ++ rest).getD (3 * i + j) 0 = (encOp l[i])[j]! := by
  induction l generalizing i with
  | nil => simp at hi
  | cons o l ih =>
    cases i with
    | zero =>
      rw [List.flatMap_cons, List.append_assoc, List.getD_eq_getElem?_getD, List.getElem?_append_left (by rw [encOp_length]; omega)]
      rcases (show j = 0 ∨ j = 1 ∨ j = 2 by omega) with h | h | h <;> subst h <;> rfl
    | succ i =>
      have := ih i (by simpa using hi)
      rw [List.flatMap_cons, List.append_assoc, List.getD_eq_getElem?_getD, List.getElem?_append_right (by rw [encOp_length]; omega), encOp_length, show 3 * (i + 1) + j - 3 = 3 * i + j by omega, ← List.getD_eq_getElem?_getD, this]
      rfl
theorem sumAt_sumB (s : Nat) (hs : s < 65536) (rest : List UInt8) : sumAt (sumB s ++ rest) = s := by
  show (UInt8.ofNat (s / 256)).toNat * 256 + (UInt8.ofNat (s % 256)).toNat = s
  rw [UInt8.toNat_ofNat', UInt8.toNat_ofNat']
  omega
def body (l : List Op) : List UInt8 := UInt8.ofNat l.length :: l.flatMap encOp
theorem body_length (l : List Op) : (body l).length = 1 + 3 * l.length := by simp only [body, List.length_cons, encOps_length]; omega
theorem encBlock_body (l : List Op) : encBlock l = body l ++ sumB (crc (body l)) := rfl
theorem read_block (l : List Op) (h1 : 1 ≤ l.length) (h2 : l.length ≤ 32) (hv : ∀ o ∈ l, opErr o = 0) (rest : List UInt8) (acc : List Op) (hacc : acc.length + l.length ≤ 4096) (f : Nat) :
    readF (f + 1) (encBlock l ++ rest) acc = readF f rest (acc ++ l) := by
  have hb : encBlock l ++ rest = body l ++ (sumB (crc (body l)) ++ rest) := by rw [encBlock_body, List.append_assoc]
  have hlen : (encBlock l ++ rest).length = 3 + 3 * l.length + rest.length := by rw [List.length_append, encBlock_length]; omega
  have h0 : ((encBlock l ++ rest).getD 0 0).toNat = l.length := by
    show (UInt8.ofNat l.length).toNat = _
    rw [UInt8.toNat_ofNat', Nat.mod_eq_of_lt (by omega)]
  have ht : (encBlock l ++ rest).take (1 + 3 * l.length) = body l := by rw [hb, ← body_length, List.take_left]
  have hd : (encBlock l ++ rest).drop (1 + 3 * l.length) = sumB (crc (body l)) ++ rest := by rw [hb, ← body_length, List.drop_left]
  have hd1 : (encBlock l ++ rest).drop 1 = l.flatMap encOp ++ (sumB (crc (body l)) ++ rest) := by rw [hb]; rfl
  have hdn : (encBlock l ++ rest).drop (3 + 3 * l.length) = rest := by rw [show 3 + 3 * l.length = (encBlock l).length by rw [encBlock_length]; omega, List.drop_left]
  have hop : ∀ i, i < l.length → opAt ((encBlock l ++ rest).drop 1) i = l.getD i zeroOp ∧ okAt ((encBlock l ++ rest).drop 1) i = true := fun i hi => by
    have hg : l.getD i zeroOp = l[i] := by simp [List.getD_eq_getElem?_getD, hi]
    have e := enc_dec l[i] (hv _ (List.getElem_mem hi))
    have g0 := enc_get l (sumB (crc (body l)) ++ rest) i 0 hi (by omega)
    have g1 := enc_get l (sumB (crc (body l)) ++ rest) i 1 hi (by omega)
    have g2 := enc_get l (sumB (crc (body l)) ++ rest) i 2 hi (by omega)
    rw [Nat.add_zero] at g0
    unfold opAt okAt
    rw [hd1, g0, g1, g2, hg]
    exact e
  have hall : (List.range l.length).all (okAt ((encBlock l ++ rest).drop 1)) = true := by
    rw [List.all_eq_true]
    intro i hi
    exact (hop i (List.mem_range.1 hi)).2
  have hmap : (List.range l.length).map (opAt ((encBlock l ++ rest).drop 1)) = l := by
    apply List.ext_getElem
    · simp
    · intro i hi1 hi2
      simp only [List.length_map, List.length_range] at hi1
      rw [List.getElem_map, List.getElem_range, (hop i hi1).1]
      simp [List.getD_eq_getElem?_getD, hi1]
  rw [readF, h0, hlen, if_neg (by omega), if_neg (by omega), if_neg (by omega), ht, hd, sumAt_sumB _ (crc_lt _), if_neg (fun h => h rfl), if_neg (by omega), if_pos hall, if_neg (by omega), hdn, hmap]
theorem read_blocks : ∀ (bs : List (List Op)) (rest : List UInt8) (acc : List Op) (f : Nat), (∀ l ∈ bs, 1 ≤ l.length ∧ l.length ≤ 32 ∧ ∀ o ∈ l, opErr o = 0) → acc.length + bs.flatten.length ≤ 4096 → bs.length ≤ f →
    readF f (bs.flatMap encBlock ++ rest) acc = readF (f - bs.length) rest (acc ++ bs.flatten)
  | [], rest, acc, f, _, _, _ => by simp
  | l :: bs, rest, acc, f, hb, hacc, hf => by
    obtain ⟨h1, h2, h3⟩ := hb l (by simp)
    simp only [List.flatten_cons, List.length_append, List.length_cons] at hacc hf
    obtain ⟨f', rfl⟩ : ∃ f', f = f' + 1 := ⟨f - 1, by omega⟩
    rw [List.flatMap_cons, List.append_assoc, read_block l h1 h2 h3 _ _ (by omega), read_blocks bs rest _ f' (fun x hx => hb x (by simp [hx])) (by rw [List.length_append]; omega) (by omega), List.flatten_cons, List.append_assoc, List.length_cons, Nat.add_sub_add_right]
theorem read_end (f : Nat) (acc : List Op) : readF (f + 1) endB acc = (acc, false, 0) := by
  have h0 : (endB.getD 0 0).toNat = 0 := by decide +kernel
  have h1 : endB.length = 3 := rfl
  have h2 : crc (endB.take (1 + 3 * 0)) = sumAt (endB.drop (1 + 3 * 0)) := by decide +kernel
  rw [readF, h0, h1, if_neg (by omega), if_neg (by omega), if_neg (by omega), if_neg (fun h => h h2), if_pos rfl, if_neg (by omega)]
theorem read_nil (f : Nat) (acc : List Op) : readF f [] acc = (acc, true, 4) := by cases f <;> rfl
def blks (l : List Op) (k : Nat) : List (List Op) := (List.range k).map (blk l)
theorem blks_flat (l : List Op) (k : Nat) : (blks l k).flatten = l.take (32 * k) := by
  induction k with
  | zero => simp [blks]
  | succ k ih =>
    have : blks l (k + 1) = blks l k ++ [blk l k] := by simp [blks, List.range_succ]
    rw [this, List.flatten_append, ih]
    simp only [List.flatten_cons, List.flatten_nil, List.append_nil, blk]
    rw [show 32 * (k + 1) = 32 * k + 32 by omega, List.take_add, Nat.mul_comm k 32]
theorem blks_enc (l : List Op) : encBlocks l = (blks l ((l.length + 31) / 32)).flatMap encBlock := by simp [encBlocks, blks, List.flatMap_map]
theorem blks_ok (l : List Op) (hv : opsErr l = 0) (k : Nat) (hk : k ≤ (l.length + 31) / 32) : ∀ b ∈ blks l k, 1 ≤ b.length ∧ b.length ≤ 32 ∧ ∀ o ∈ b, opErr o = 0 := fun b hb => by
  obtain ⟨i, hi, rfl⟩ := List.mem_map.1 hb
  have hi := List.mem_range.1 hi
  rw [blk_length]
  refine ⟨by omega, by omega, fun o ho => ?_⟩
  have hm : o ∈ l := List.mem_of_mem_drop (List.mem_of_mem_take ho)
  clear ho hi hb hk
  induction l with
  | nil => cases hm
  | cons x l ih =>
    unfold opsErr at hv
    split at hv
    · rename_i hx
      rcases List.mem_cons.1 hm with rfl | hm
      · exact hx
      · exact ih hv hm
    · contradiction
theorem encTape_length (l : List Op) : (encTape l).length = 7 + (encBlocks l).length := by simp only [encTape, List.length_append, endB_length, headB, List.length_cons, List.length_nil]; omega
theorem flat_len_ge (bs : List (List Op)) : bs.length ≤ (bs.flatMap encBlock).length := by
  induction bs with
  | nil => simp
  | cons b bs ih => rw [List.flatMap_cons, List.length_append, encBlock_length, List.length_cons]; omega
theorem read_tape (l : List Op) (hv : opsErr l = 0) (hl : l.length ≤ 4096) : readAll (encTape l) = (l, false, 0) := by
  have ht : (encTape l).take 4 = headB := rfl
  have hd : (encTape l).drop 4 = encBlocks l ++ endB := rfl
  have hfl := flat_len_ge (blks l ((l.length + 31) / 32))
  have hN : (blks l ((l.length + 31) / 32)).length = (l.length + 31) / 32 := by simp [blks]
  have hfull : (blks l ((l.length + 31) / 32)).flatten = l := by rw [blks_flat, List.take_of_length_le (by omega)]
  rw [readAll, if_pos ht, hd, blks_enc, read_blocks _ _ _ _ (blks_ok l hv _ (Nat.le_refl _)) (by rw [hfull]; simpa using hl) (by rw [encTape_length, blks_enc]; omega), hfull, List.nil_append]
  obtain ⟨f, hf⟩ : ∃ f, (encTape l).length - (blks l ((l.length + 31) / 32)).length = f + 1 := ⟨(encTape l).length - (blks l ((l.length + 31) / 32)).length - 1, by rw [encTape_length, blks_enc]; omega⟩
  rw [hf, read_end]
end Go.Proofs.Ytjemilhbipaepaa
