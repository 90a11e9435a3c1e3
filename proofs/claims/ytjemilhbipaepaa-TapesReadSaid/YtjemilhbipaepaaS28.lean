/- What is read was written so: plain. -/
import Derived.Test.YtjemilhbipaepaaS24
namespace Go.Proofs.Ytjemilhbipaepaa

theorem dec_enc (x y z : UInt8) (h : decOk x.toNat y.toNat z.toNat = true) : encOp (decOp x.toNat y.toNat z.toNat) = [x, y, z] ∧ opErr (decOp x.toNat y.toNat z.toNat) = 0 := by
  have hx := x.toNat_lt
  have hy := y.toNat_lt
  have hz := z.toNat_lt
  simp only [decOk, Bool.and_eq_true, decide_eq_true_eq] at h
  obtain ⟨h1, h2⟩ := h
  have hd : decOp x.toNat y.toNat z.toNat = rawOp x.toNat y.toNat z.toNat := by rw [decOp, if_neg (by omega)]
  rw [hd]
  refine ⟨?_, h2⟩
  have e : ∀ (c : UInt8) (k : Nat), k = c.toNat → UInt8.ofNat k = c := fun c k hk => by rw [hk]; exact UInt8.ofNat_toNat
  unfold encOp rawOp
  by_cases h3 : x.toNat % 16 = 3
  · rw [if_pos h3]
    dsimp only
    rw [if_pos h3]
    refine list3 (e _ _ (by omega)) (e _ _ (by omega)) (e _ _ (by omega))
  · rw [if_neg h3]
    dsimp only
    rw [if_neg h3]
    refine list3 (e _ _ (by omega)) (e _ _ (by omega)) (e _ _ rfl)
theorem take3 (b : List UInt8) (m : Nat) (h : 3 * m ≤ b.length) (hok : ∀ i, i < m → okAt b i = true) : ((List.range m).map (opAt b)).flatMap encOp = b.take (3 * m) ∧ ∀ o ∈ (List.range m).map (opAt b), opErr o = 0 := by
  induction m with
  | zero => exact ⟨by simp, by intro o ho; simp at ho⟩
  | succ m ih =>
    obtain ⟨h1, h2⟩ := ih (by omega) (fun i hi => hok i (by omega))
    have hm := hok m (by omega)
    have hde := dec_enc _ _ _ hm
    rw [List.range_succ, List.map_append]
    refine ⟨?_, fun o ho => ?_⟩
    · rw [List.flatMap_append, h1, show 3 * (m + 1) = 3 * m + 1 + 1 + 1 by omega, List.take_succ_eq_append_getElem (by omega), List.take_succ_eq_append_getElem (by omega), List.take_succ_eq_append_getElem (by omega)]
      have g : ∀ k, (hk : k < b.length) → b.getD k 0 = b[k] := fun k hk => by simp [List.getD_eq_getElem?_getD, hk]
      have : (List.map (opAt b) [m]).flatMap encOp = [b[3 * m]'(by omega), b[3 * m + 1]'(by omega), b[3 * m + 2]'(by omega)] := by
        rw [← g _ (by omega), ← g _ (by omega), ← g _ (by omega)]
        simp only [List.map_cons, List.map_nil, List.flatMap_cons, List.flatMap_nil, List.append_nil]
        exact hde.1
      rw [this]
      simp only [List.append_assoc, List.cons_append, List.nil_append]
    · rcases List.mem_append.1 ho with ho | ho
      · exact h2 o ho
      · simp only [List.map_cons, List.map_nil, List.mem_cons, List.not_mem_nil, or_false] at ho
        subst ho
        exact hde.2
theorem sumB_of (b : List UInt8) (h : 2 ≤ b.length) (s : Nat) (hs : s = sumAt b) : sumB s = b.take 2 := by
  rcases b with _ | ⟨x, _ | ⟨y, r⟩⟩
  · simp at h
  · simp at h
  · have hx := x.toNat_lt
    have hy := y.toNat_lt
    have hs' : s = x.toNat * 256 + y.toNat := hs
    have e : ∀ (c : UInt8) (k : Nat), k = c.toNat → UInt8.ofNat k = c := fun c k hk => by rw [hk]; exact UInt8.ofNat_toNat
    show [UInt8.ofNat (s / 256), UInt8.ofNat (s % 256)] = [x, y]
    exact list2 (e _ _ (by omega)) (e _ _ (by omega))
/-- What a reading of blocks gives. -/
structure Parsed (b : List UInt8) (acc : List Op) (r : List Op × Bool × Int) : Prop where
  ex : ∃ (bs : List (List Op)) (rest : List UInt8), (∀ l ∈ bs, 1 ≤ l.length ∧ l.length ≤ 32 ∧ ∀ o ∈ l, opErr o = 0) ∧ r.1 = acc ++ bs.flatten ∧ b = bs.flatMap encBlock ++ rest ∧ (r.2.2 = 0 → rest = endB) ∧ (r.2.2 = 0 ∨ r.2.2 = 4 ∨ r.2.2 = 10 ∨ r.2.2 = 3 ∧ 4096 < acc.length + b.length)
theorem parsed_stop (b : List UInt8) (acc : List Op) (o : Bool) (e : Int) (h : e = 4 ∨ e = 10) : Parsed b acc (acc, o, e) :=
  ⟨[], b, by simp, by simp, by simp, fun h0 => by dsimp only at h0; omega, by dsimp only; omega⟩
theorem crc_zero : sumB (crc [0]) = [225, 240] := by decide +kernel
theorem end_of (b : List UInt8) (h : b.length = 3) (hz : (b.getD 0 0).toNat = 0) (hs : sumB (crc (b.take (1 + 3 * 0))) = (b.drop (1 + 3 * 0)).take 2) : b = endB := by
  obtain ⟨x, y, z, rfl⟩ : ∃ x y z, b = [x, y, z] := by
    rcases b with _ | ⟨x, _ | ⟨y, _ | ⟨z, _ | ⟨u, r⟩⟩⟩⟩
    · simp at h
    · simp at h
    · simp at h
    · exact ⟨x, y, z, rfl⟩
    · simp at h
  have hx0 : x = 0 := UInt8.toNat_inj.1 hz
  subst hx0
  have h5 : sumB (crc [0]) = [y, z] := hs
  rw [crc_zero] at h5
  rw [show endB = [0, 225, 240] by decide +kernel]
  simp only [List.cons.injEq, and_true] at h5
  rw [← h5.1, ← h5.2]
theorem cons_take (b : List UInt8) (h : ¬ b.length = 0) (k : Nat) : b.getD 0 0 :: (b.drop 1).take (3 * k) = b.take (1 + 3 * k) := by
  rcases b with _ | ⟨x, r⟩
  · simp at h
  · rw [show 1 + 3 * k = 3 * k + 1 by omega, List.take_succ_cons]; rfl
theorem readF_parsed : ∀ (f : Nat) (b : List UInt8) (acc : List Op), Parsed b acc (readF f b acc)
  | 0, b, acc => parsed_stop b acc _ _ (.inl rfl)
  | f + 1, b, acc => by
    rw [readF]
    split
    · exact parsed_stop b acc _ _ (.inl rfl)
    · rename_i hb0
      split
      · exact parsed_stop b acc _ _ (.inl rfl)
      · rename_i hm
        split
        · exact parsed_stop b acc _ _ (.inl rfl)
        · rename_i hlen
          split
          · exact parsed_stop b acc _ _ (.inr rfl)
          · rename_i hcrc
            have hcrc' : crc (b.take (1 + 3 * (b.getD 0 0).toNat)) = sumAt (b.drop (1 + 3 * (b.getD 0 0).toNat)) := Classical.not_not.1 hcrc
            have hsum := sumB_of (b.drop (1 + 3 * (b.getD 0 0).toNat)) (by rw [List.length_drop]; omega) _ hcrc'
            split
            · rename_i hz
              split
              · exact parsed_stop b acc _ _ (.inl rfl)
              · rename_i h3
                rw [hz] at hsum hlen
                have hb : b = endB := by
                  exact end_of b (by omega) hz hsum
                exact ⟨[], b, by simp, by simp, by simp, fun _ => hb, .inl rfl⟩
            · rename_i hz
              split
              · rename_i hall
                rw [List.all_eq_true] at hall
                obtain ⟨ht1, ht2⟩ := take3 (b.drop 1) (b.getD 0 0).toNat (by rw [List.length_drop]; omega) (fun i hi => hall i (List.mem_range.2 hi))
                have hml : ((List.range (b.getD 0 0).toNat).map (opAt (b.drop 1))).length = (b.getD 0 0).toNat := by simp
                have hbody : body ((List.range (b.getD 0 0).toNat).map (opAt (b.drop 1))) = b.take (1 + 3 * (b.getD 0 0).toNat) := by
                  rw [body, hml, ht1, UInt8.ofNat_toNat]
                  exact cons_take b hb0 _
                have henc : encBlock ((List.range (b.getD 0 0).toNat).map (opAt (b.drop 1))) = b.take (3 + 3 * (b.getD 0 0).toNat) := by
                  rw [encBlock_body, hbody, hsum, show 3 + 3 * (b.getD 0 0).toNat = (1 + 3 * (b.getD 0 0).toNat) + 2 by omega]
                  exact List.take_add.symm
                split
                · rename_i hbig
                  exact ⟨[], b, by simp, by simp, by simp, fun h0 => by dsimp only at h0; omega, by right; right; right; exact ⟨rfl, by omega⟩⟩
                · obtain ⟨bs, rest, g1, g2, g3, g4, g5⟩ := (readF_parsed f (b.drop (3 + 3 * (b.getD 0 0).toNat)) (acc ++ (List.range (b.getD 0 0).toNat).map (opAt (b.drop 1)))).ex
                  refine ⟨(List.range (b.getD 0 0).toNat).map (opAt (b.drop 1)) :: bs, rest, fun l hl => ?_, ?_, ?_, g4, ?_⟩
                  · rcases List.mem_cons.1 hl with rfl | hl
                    · exact ⟨by rw [hml]; omega, by rw [hml]; omega, ht2⟩
                    · exact g1 l hl
                  · rw [g2, List.flatten_cons, List.append_assoc]
                  · rw [List.flatMap_cons, henc, List.append_assoc, ← g3, List.take_append_drop]
                  · rcases g5 with h | h | h | ⟨h, h'⟩
                    · exact .inl h
                    · exact .inr (.inl h)
                    · exact .inr (.inr (.inl h))
                    · refine .inr (.inr (.inr ⟨h, ?_⟩))
                      rw [List.length_append, hml, List.length_drop] at h'
                      omega
              · exact parsed_stop b acc _ _ (.inl rfl)
theorem readAll_parsed (b : List UInt8) (hb : b.length ≤ 64) : ∃ (bs : List (List Op)) (rest : List UInt8), (∀ l ∈ bs, 1 ≤ l.length ∧ l.length ≤ 32 ∧ ∀ o ∈ l, opErr o = 0) ∧ (readAll b).1 = bs.flatten ∧
    ((readAll b).2.2 = 0 ∨ (readAll b).2.2 = 4 ∨ (readAll b).2.2 = 10) ∧ (bs = [] ∧ (readAll b).2.2 ≠ 0 ∨ b = headB ++ (bs.flatMap encBlock ++ rest)) ∧ ((readAll b).2.2 = 0 → rest = endB) := by
  unfold readAll
  split
  · rename_i h4
    obtain ⟨bs, rest, g1, g2, g3, g4, g5⟩ := (readF_parsed b.length (b.drop 4) []).ex
    refine ⟨bs, rest, g1, by simpa using g2, ?_, .inr ?_, g4⟩
    · rcases g5 with h | h | h | ⟨_, h⟩
      · exact .inl h
      · exact .inr (.inl h)
      · exact .inr (.inr h)
      · simp only [List.length_nil, List.length_drop] at h
        omega
    · rw [← g3, ← h4, List.take_append_drop]
  · exact ⟨[], [], by simp, by simp, by simp, .inl ⟨rfl, by simp⟩, by simp⟩
def iJ (bs : List (List Op)) (j : Nat) : Nat := (bs.take j).flatten.length
def eJ (bs : List (List Op)) (j : Nat) : Nat := 4 + ((bs.take j).flatMap encBlock).length
theorem raw_at {raw rest : List UInt8} {bs : List (List Op)} (h : raw = headB ++ (bs.flatMap encBlock ++ rest)) {j : Nat} (hj : j < bs.length) : ∃ t, raw.drop (eJ bs j) = encBlock bs[j] ++ t := by
  have hs : bs = bs.take j ++ bs[j] :: bs.drop (j + 1) := by rw [← List.drop_eq_getElem_cons hj, List.take_append_drop]
  refine ⟨(bs.drop (j + 1)).flatMap encBlock ++ rest, ?_⟩
  have e : bs.flatMap encBlock = (bs.take j).flatMap encBlock ++ (encBlock bs[j] ++ (bs.drop (j + 1)).flatMap encBlock) := by
    have := congrArg (fun x => x.flatMap encBlock) hs
    simp only [List.flatMap_append, List.flatMap_cons] at this
    exact this
  rw [h, e]
  have hl : eJ bs j = (headB ++ (bs.take j).flatMap encBlock).length := by rw [eJ, List.length_append]; rfl
  rw [hl, List.append_assoc, List.append_assoc, ← List.append_assoc headB, List.drop_left]
theorem m_at {bs : List (List Op)} {j : Nat} (hj : j < bs.length) : ∃ t, bs.flatten.drop (iJ bs j) = bs[j] ++ t := by
  have hs : bs = bs.take j ++ bs[j] :: bs.drop (j + 1) := by rw [← List.drop_eq_getElem_cons hj, List.take_append_drop]
  refine ⟨(bs.drop (j + 1)).flatten, ?_⟩
  have e : bs.flatten = (bs.take j).flatten ++ (bs[j] ++ (bs.drop (j + 1)).flatten) := by
    have := congrArg List.flatten hs
    simp only [List.flatten_append, List.flatten_cons] at this
    exact this
  rw [e, iJ, List.drop_left]
theorem iJ_succ {bs : List (List Op)} {j : Nat} (hj : j < bs.length) : iJ bs (j + 1) = iJ bs j + bs[j].length := by
  rw [iJ, iJ, List.take_succ_eq_append_getElem hj, List.flatten_append, List.length_append]; simp
theorem eJ_succ {bs : List (List Op)} {j : Nat} (hj : j < bs.length) : eJ bs (j + 1) = eJ bs j + (bs[j].length * 3 + 3) := by
  rw [eJ, eJ, List.take_succ_eq_append_getElem hj, List.flatMap_append, List.length_append]
  simp only [List.flatMap_cons, List.flatMap_nil, List.append_nil, encBlock_length]
  omega
theorem iJ_all (bs : List (List Op)) : iJ bs bs.length = bs.flatten.length := by rw [iJ, List.take_length]
theorem eJ_all {raw rest : List UInt8} {bs : List (List Op)} (h : raw = headB ++ (bs.flatMap encBlock ++ rest)) : raw.drop (eJ bs bs.length) = rest ∧ eJ bs bs.length ≤ raw.length := by
  have hl : eJ bs bs.length = (headB ++ bs.flatMap encBlock).length := by rw [eJ, List.take_length, List.length_append]; rfl
  rw [hl, h, ← List.append_assoc, List.drop_left]
  exact ⟨rfl, by rw [List.length_append (bs := rest)]; omega⟩
end Go.Proofs.Ytjemilhbipaepaa
