/- A tape in which a burst of bits is changed: plain. -/
import Derived.Test.YtjemilhbipaepaaS25a
import Derived.Test.YtjemilhbipaepaaS30
namespace Go.Proofs.Ytjemilhbipaepaa

def bitAt (l : List UInt8) (q : Nat) : Bool := (l.getD (q / 8) 0).toNat.testBit (7 - q % 8)
def flipAt (l : List UInt8) (q : Nat) : List UInt8 := l.set (q / 8) (UInt8.ofNat ((l.getD (q / 8) 0).toNat ^^^ 2 ^ (7 - q % 8)))
def flips (l : List UInt8) (p f : Nat) : Nat → List UInt8
  | 0 => l
  | i + 1 => if p.testBit (15 - i) then flipAt (flips l p f i) (f + i) else flips l p f i
theorem flipAt_length (l : List UInt8) (q : Nat) : (flipAt l q).length = l.length := by simp [flipAt]
theorem flips_length (l : List UInt8) (p f i : Nat) : (flips l p f i).length = l.length := by
  induction i with
  | zero => rfl
  | succ i ih => rw [flips]; split <;> simp [flipAt_length, ih]
theorem flip_lt (c : UInt8) (k : Nat) (hk : k ≤ 7) : c.toNat ^^^ 2 ^ k < 256 :=
  Nat.xor_lt_two_pow (n := 8) c.toNat_lt (Nat.pow_lt_pow_of_lt (by omega) (by omega))
theorem flipAt_bit (l : List UInt8) (q r : Nat) (hq : q / 8 < l.length) : bitAt (flipAt l q) r = (bitAt l r ^^ decide (r = q)) := by
  unfold bitAt flipAt
  by_cases h : q / 8 = r / 8
  · rw [List.getD_eq_getElem?_getD, List.getElem?_set, if_pos h, if_pos hq, Option.getD_some, UInt8.toNat_ofNat', Nat.mod_eq_of_lt (flip_lt _ _ (by omega)), Nat.testBit_xor, Nat.testBit_two_pow, h]
    congr 1
    rw [decide_eq_decide]
    omega
  · rw [List.getD_eq_getElem?_getD, List.getElem?_set, if_neg h, ← List.getD_eq_getElem?_getD]
    have : ¬ r = q := fun e => h (by rw [e])
    simp [this]
theorem flips_bit (l : List UInt8) (p f i r : Nat) (hf : f + i ≤ 8 * l.length) : bitAt (flips l p f i) r = (bitAt l r ^^ (decide (f ≤ r ∧ r < f + i) && p.testBit (15 - (r - f)))) := by
  induction i with
  | zero => rw [flips, show decide (f ≤ r ∧ r < f + 0) = false from decide_eq_false (by omega)]; simp
  | succ i ih =>
    have ih := ih (by omega)
    rw [flips]
    split
    · rename_i ht
      rw [flipAt_bit _ _ _ (by rw [flips_length]; omega), ih, Bool.xor_assoc]
      congr 1
      by_cases hr : r = f + i
      · subst hr
        rw [Nat.add_sub_cancel_left, ht]
        simp
      · rw [show decide (f ≤ r ∧ r < f + (i + 1)) = decide (f ≤ r ∧ r < f + i) by rw [decide_eq_decide]; omega]
        simp [hr]
    · rename_i ht
      rw [ih]
      congr 1
      by_cases hr : r = f + i
      · subst hr
        rw [Nat.add_sub_cancel_left]
        simp [ht]
      · rw [show decide (f ≤ r ∧ r < f + (i + 1)) = decide (f ≤ r ∧ r < f + i) by rw [decide_eq_decide]; omega]
theorem byte_ext (a b : UInt8) (h : ∀ j, j < 8 → a.toNat.testBit (7 - j) = b.toNat.testBit (7 - j)) : a = b := by
  apply UInt8.toNat.inj
  apply Nat.eq_of_testBit_eq
  intro i
  by_cases hi : i < 8
  · have := h (7 - i) (by omega)
    rwa [show 7 - (7 - i) = i by omega] at this
  · rw [Nat.testBit_lt_two_pow (Nat.lt_of_lt_of_le a.toNat_lt (Nat.pow_le_pow_right (n := 2) (by omega) (show 8 ≤ i by omega))), Nat.testBit_lt_two_pow (Nat.lt_of_lt_of_le b.toNat_lt (Nat.pow_le_pow_right (n := 2) (by omega) (show 8 ≤ i by omega)))]
theorem flips_byte (l : List UInt8) (p f k : Nat) (hf : f + 16 ≤ 8 * l.length) (hk : 8 * (k + 1) ≤ f ∨ f + 16 ≤ 8 * k) : (flips l p f 16).getD k 0 = l.getD k 0 := by
  apply byte_ext
  intro j hj
  have := flips_bit l p f 16 (8 * k + j) hf
  unfold bitAt at this
  rw [show (8 * k + j) / 8 = k by omega, show (8 * k + j) % 8 = j by omega] at this
  rw [this, show decide (f ≤ 8 * k + j ∧ 8 * k + j < f + 16) = false by simp; omega]
  simp
theorem crcFrom_xor : ∀ (a b : List UInt8) (s t : Nat), s < 65536 → t < 65536 → a.length = b.length → crcFrom s a ^^^ crcFrom t b = crcFrom (s ^^^ t) (List.zipWith (· ^^^ ·) a b)
  | [], [], s, t, _, _, _ => rfl
  | x :: a, y :: b, s, t, hs, ht, h => by
    have hx := x.toNat_lt
    have hy := y.toNat_lt
    have h1 : crcByte s x.toNat < 65536 := crcSteps_lt _ _ (Nat.xor_lt_two_pow (n := 16) hs (by omega))
    have h2 : crcByte t y.toNat < 65536 := crcSteps_lt _ _ (Nat.xor_lt_two_pow (n := 16) ht (by omega))
    have e : crcByte (s ^^^ t) (x ^^^ y).toNat = crcByte s x.toNat ^^^ crcByte t y.toNat := by
      unfold crcByte
      rw [← crcSteps_xor _ _ _ (Nat.xor_lt_two_pow (n := 16) hs (by omega)) (Nat.xor_lt_two_pow (n := 16) ht (by omega))]
      congr 1
      have h3 : (x ^^^ y).toNat * 256 = (x.toNat * 256) ^^^ (y.toNat * 256) := by
        rw [UInt8.toNat_xor]
        have := @Nat.shiftLeft_xor_distrib 8 x.toNat y.toNat
        simpa [Nat.shiftLeft_eq] using this
      rw [h3]
      simp only [Nat.xor_assoc]
      congr 1
      rw [xor_left]
    have := crcFrom_xor a b _ _ h1 h2 (by simpa using h)
    rw [show crcFrom s (x :: a) = crcFrom (crcByte s x.toNat) a from rfl, show crcFrom t (y :: b) = crcFrom (crcByte t y.toNat) b from rfl, this, ← e]
    rfl
theorem valN_pat (X : List Bool) (f p : Nat) (k : Nat) (hp : p < 65536) (hk : k ≤ 16) (h : ∀ q, q < 16 → X.getD (f + q) false = p.testBit (15 - q)) : valN X f k = p / 2 ^ (16 - k) := by
  induction k with
  | zero => rw [valN, Nat.sub_zero]; omega
  | succ k ih =>
    rw [valN, ih (by omega), h k (by omega), Nat.toNat_testBit, show 16 - k = (15 - k) + 1 by omega, show 16 - (k + 1) = 15 - k by omega, Nat.pow_succ, ← Nat.div_div_eq_div_mul]
    omega
theorem sumAt_xor (a b : List UInt8) (n : Nat) : sumAt (a.drop n) ^^^ sumAt (b.drop n) = ((a.getD n 0 ^^^ b.getD n 0).toNat * 256) ^^^ (a.getD (n + 1) 0 ^^^ b.getD (n + 1) 0).toNat := by
  unfold sumAt
  have g : ∀ (l : List UInt8) (k : Nat), (l.drop n).getD k 0 = l.getD (n + k) 0 := fun l k => by simp [List.getD_eq_getElem?_getD]
  rw [g, g, g, g, mul_xor _ _ (a.getD (n + 1) 0).toNat_lt, mul_xor _ _ (b.getD (n + 1) 0).toNat_lt, UInt8.toNat_xor, UInt8.toNat_xor]
  have h3 : (a.getD n 0).toNat * 256 ^^^ (b.getD n 0).toNat * 256 = ((a.getD n 0).toNat ^^^ (b.getD n 0).toNat) * 256 := by
    have := @Nat.shiftLeft_xor_distrib 8 (a.getD n 0).toNat (b.getD n 0).toNat
    simpa [Nat.shiftLeft_eq] using this.symm
  rw [Nat.add_zero, ← h3]
  simp only [Nat.xor_assoc]
  congr 1
  rw [xor_left]
theorem zip_get (a b : List UInt8) (h : a.length = b.length) (k : Nat) : (List.zipWith (· ^^^ ·) a b).getD k 0 = a.getD k 0 ^^^ b.getD k 0 := by
  simp only [List.getD_eq_getElem?_getD, List.getElem?_zipWith]
  by_cases hk : k < a.length
  · rw [List.getElem?_eq_getElem hk, List.getElem?_eq_getElem (show k < b.length by omega)]; rfl
  · rw [List.getElem?_eq_none (by omega), List.getElem?_eq_none (by omega)]; rfl
/-- Two blocks that differ by a burst do not both have the right sum. -/
theorem burst_sum (a b : List UInt8) (n : Nat) (ha : a.length = n + 2) (hb : b.length = n + 2) (f p : Nat) (hp : p < 65536) (hp0 : p ≠ 0) (hf : f + 16 ≤ 8 * (n + 2)) (h : ∀ r, bitAt b r = (bitAt a r ^^ (decide (f ≤ r ∧ r < f + 16) && p.testBit (15 - (r - f)))))
    (hs : crc (a.take n) = sumAt (a.drop n)) : crc (b.take n) ≠ sumAt (b.drop n) := by
  intro hs2
  have hXl : (List.zipWith (· ^^^ ·) a b).length = n + 2 := by simp [ha, hb]
  have h1 : crc (a.take n) ^^^ crc (b.take n) = crcFrom 0 ((List.zipWith (· ^^^ ·) a b).take n) := by
    have := crcFrom_xor (a.take n) (b.take n) 65535 65535 (by omega) (by omega) (by simp [ha, hb])
    rw [← List.take_zipWith] at this
    rw [crc, crc, this, Nat.xor_self]
  have h2 := sumAt_xor a b n
  have h3 := winsS 0 (by omega) (List.zipWith (· ^^^ ·) a b) n (by omega) (bitsN (List.zipWith (· ^^^ ·) a b) (List.zipWith (· ^^^ ·) a b).length) (fun k j hj => bitsX _ k j hj) (win0 _)
  rw [zip_get a b (by omega), zip_get a b (by omega), Nat.xor_assoc, ← h2, ← h1, hs, hs2, Nat.xor_self] at h3
  have hbit : ∀ r, (bitsN (List.zipWith (· ^^^ ·) a b) (List.zipWith (· ^^^ ·) a b).length).getD r false = (decide (f ≤ r ∧ r < f + 16) && p.testBit (15 - (r - f))) := fun r => by
    have e := bitsX (List.zipWith (· ^^^ ·) a b) (r / 8) (r % 8) (Nat.mod_lt _ (by omega))
    rw [Nat.div_add_mod] at e
    rw [e, zip_get a b (by omega), UInt8.toNat_xor, Nat.testBit_xor]
    have := h r
    unfold bitAt at this
    rw [this, ← Bool.xor_assoc, Bool.xor_self, Bool.false_xor]
  refine burst_ne _ f (8 * n) (fun q hq => ?_) (fun q hq => ?_) ?_ (by omega) h3
  · rw [hbit, show decide (f ≤ q ∧ q < f + 16) = false by simp; omega]; rfl
  · rw [hbit, show decide (f ≤ q ∧ q < f + 16) = false by simp; omega]; rfl
  · rw [valN_pat _ f p 16 hp (by omega) fun q hq => by
      rw [hbit, show decide (f ≤ f + q ∧ f + q < f + 16) = true by simp; omega, Nat.add_sub_cancel_left]; rfl]
    simpa using hp0
theorem read_sum (f : Nat) (b : List UInt8) (acc : List Op) (n : Nat) (hn : (b.getD 0 0).toNat = n) (h1 : n ≤ 32) (h2 : 3 + 3 * n ≤ b.length) (h3 : crc (b.take (1 + 3 * n)) ≠ sumAt (b.drop (1 + 3 * n))) : readF (f + 1) b acc = (acc, false, 10) := by
  subst hn
  rw [readF, if_neg (by omega), if_neg (by omega), if_neg (by omega), if_pos h3]
theorem bitAt_seg (l : List UInt8) (s k r : Nat) (hr : r < 8 * k) : bitAt ((l.drop s).take k) r = bitAt l (8 * s + r) := by
  unfold bitAt
  rw [show (8 * s + r) / 8 = s + r / 8 by omega, show (8 * s + r) % 8 = r % 8 by omega]
  simp only [List.getD_eq_getElem?_getD, List.getElem?_take, List.getElem?_drop]
  rw [if_pos (by omega)]
theorem bitAt_out (l : List UInt8) (r : Nat) (hr : 8 * l.length ≤ r) : bitAt l r = false := by
  unfold bitAt
  rw [List.getD_eq_getElem?_getD, List.getElem?_eq_none (by omega)]
  simp
theorem burst_read (ops : List Op) (hok : opsErr ops = 0) (hl : ops.length ≤ 4096) (i : Nat) (hi : i < nBlocks ops) (p f : Nat) (hp : p < 65536) (hp0 : p ≠ 0) (h1 : 8 * ((want ops i).length + 1) ≤ f) (h2 : f + 16 ≤ 8 * (want ops (i + 1)).length) :
    readAll (flips (encTape ops) p f 16) = (ops.take (32 * i), false, 10) := by
  have hws := want_succ ops i (by rw [blockList_length]; exact hi)
  have hbi : (blockList ops)[i]'(by rw [blockList_length]; exact hi) = encBlock (blk ops i) := by simp [blockList]
  have hlb : (want ops (i + 1)).length = (want ops i).length + (encBlock (blk ops i)).length := by rw [hws, List.length_append, hbi]
  have hel := encBlock_length (blk ops i)
  have hbk := blk_length ops i
  have hsp := tape_split ops i
  rw [tail_next ops i hi] at hsp
  have htl : (encTape ops).length = (want ops i).length + ((encBlock (blk ops i)).length + (tailOf ops (i + 1)).length) := by rw [hsp, List.length_append, List.length_append]
  have hF : f + 16 ≤ 8 * (encTape ops).length := by omega
  obtain ⟨b, hb⟩ : ∃ b, b = flips (encTape ops) p f 16 := ⟨_, rfl⟩
  have hbl : b.length = (encTape ops).length := by rw [hb, flips_length]
  have hbyte : ∀ k, 8 * (k + 1) ≤ f ∨ f + 16 ≤ 8 * k → b.getD k 0 = (encTape ops).getD k 0 := fun k hk => by rw [hb]; exact flips_byte _ _ _ _ hF hk
  have hbits : ∀ r, bitAt b r = (bitAt (encTape ops) r ^^ (decide (f ≤ r ∧ r < f + 16) && p.testBit (15 - (r - f)))) := fun r => by rw [hb]; exact flips_bit _ _ _ _ _ hF
  rw [← hb]
  clear hb
  have htake : b.take (want ops i).length = want ops i := by
    apply List.ext_getElem
    · rw [List.length_take]; omega
    · intro k hk1 hk2
      have hg := hbyte k (by omega)
      have e1 : b.getD k 0 = b[k]'(by omega) := by simp [List.getD_eq_getElem?_getD, show k < b.length by omega]
      have e2 : (encTape ops).getD k 0 = (want ops i)[k] := by
        rw [hsp, List.getD_eq_getElem?_getD, List.getElem?_append_left hk2, List.getElem?_eq_getElem hk2]; rfl
      rw [List.getElem_take, ← e1, ← e2]
      exact hg
  have hW := want_blks ops i (by omega)
  have hbd : b = want ops i ++ b.drop (want ops i).length := by
    have := List.take_append_drop (want ops i).length b
    rw [htake] at this
    exact this.symm
  obtain ⟨t, ht⟩ : ∃ t, t = b.drop (want ops i).length := ⟨_, rfl⟩
  have htl2 : t.length = (encBlock (blk ops i)).length + (tailOf ops (i + 1)).length := by rw [ht, List.length_drop]; omega
  have hhead : b.take 4 = headB := by rw [hbd, hW, List.append_assoc]; rfl
  have hdrop : b.drop 4 = (blks ops i).flatMap encBlock ++ t := by rw [ht]; conv => lhs; rw [hbd, hW, List.append_assoc]
                                                                   rw [← hW]; rfl
  have hlen : b.length = (encTape ops).length := hbl
  have hbls : (blks ops i).length = i := by simp [blks]
  have hfl := blks_flat ops i
  have hw2 := want_ge2 ops i (by omega)
  rw [readAll, if_pos hhead, hdrop, hlen, read_blocks _ _ _ _ (blks_ok ops hok i (Nat.le_of_lt hi)) (by rw [hfl, List.length_nil, Nat.zero_add, List.length_take]; omega) (by rw [hbls]; omega), hfl, hbls, List.nil_append]
  obtain ⟨g, hg⟩ : ∃ g, (encTape ops).length - i = g + 1 := ⟨(encTape ops).length - i - 1, by omega⟩
  rw [hg]
  have hsegA : ((encTape ops).drop (want ops i).length).take (encBlock (blk ops i)).length = encBlock (blk ops i) := by rw [hsp, List.drop_left, List.take_left]
  have h0 : (t.getD 0 0).toNat = (blk ops i).length := by
    have hz : t.getD 0 0 = b.getD (want ops i).length 0 := by rw [ht]; simp [List.getD_eq_getElem?_getD]
    have hz2 : (encTape ops).getD (want ops i).length 0 = UInt8.ofNat (blk ops i).length := by
      rw [hsp, List.getD_eq_getElem?_getD, List.getElem?_append_right (Nat.le_refl _), Nat.sub_self]; rfl
    rw [hz, hbyte _ (by omega), hz2, UInt8.toNat_ofNat', Nat.mod_eq_of_lt (by omega)]
  have hbody := body_length (blk ops i)
  refine read_sum g t _ (blk ops i).length h0 (by omega) (by omega) ?_
  have key := burst_sum (encBlock (blk ops i)) (t.take (encBlock (blk ops i)).length) (1 + 3 * (blk ops i).length) (by omega) (by rw [List.length_take]; omega) (f - 8 * (want ops i).length) p hp hp0 (by omega) (fun r => by
      by_cases hr : r < 8 * (encBlock (blk ops i)).length
      · have e1 := bitAt_seg b (want ops i).length (encBlock (blk ops i)).length r hr
        have e2 := bitAt_seg (encTape ops) (want ops i).length (encBlock (blk ops i)).length r hr
        rw [hsegA] at e2
        rw [ht, e1, e2, hbits]
        congr 2
        · rw [decide_eq_decide]; omega
        · congr 2; omega
      · rw [bitAt_out _ r (by rw [List.length_take]; omega), bitAt_out _ r (by omega), show decide (f - 8 * (want ops i).length ≤ r ∧ r < f - 8 * (want ops i).length + 16) = false by simp; omega]; rfl) (by
      rw [encBlock_body, ← hbody, List.take_left, List.drop_left]
      have := sumAt_sumB (crc (body (blk ops i))) (crc_lt _) []
      rw [List.append_nil] at this
      exact this.symm)
  have k1 : (t.take (encBlock (blk ops i)).length).take (1 + 3 * (blk ops i).length) = t.take (1 + 3 * (blk ops i).length) := by rw [List.take_take, Nat.min_eq_left (by omega)]
  have k2 : sumAt ((t.take (encBlock (blk ops i)).length).drop (1 + 3 * (blk ops i).length)) = sumAt (t.drop (1 + 3 * (blk ops i).length)) := by
    unfold sumAt
    simp only [List.getD_eq_getElem?_getD, List.getElem?_drop, List.getElem?_take]
    rw [if_pos (by omega), if_pos (by omega)]
  rw [k1, k2] at key
  exact key
end Go.Proofs.Ytjemilhbipaepaa
