/- The check sequence by definition, the remainder of a division, is that of the register. -/
import Derived.Test.YtjemilhbipaepaaS6
namespace Go.Proofs.Ytjemilhbipaepaa

def byteBits (c : UInt8) : List Bool := (List.range 8).map fun j => c.toNat.testBit (7 - j)
def bitsN (l : List UInt8) (i : Nat) : List Bool := (List.range i).flatMap fun j => byteBits (l.getD j 0)
def flipN (bl : List Bool) (i : Nat) : List Bool := (bl.take i).map (fun b => !b) ++ bl.drop i
def dvs : List Bool := [true, false, false, false, true, false, false, false, false, false, false, true, false, false, false, false, true]
def xorAt (bl : List Bool) (i : Nat) : Nat → List Bool
  | 0 => bl
  | k + 1 => (xorAt bl i k).set (i + k) ((xorAt bl i k).getD (i + k) false ^^ dvs.getD k false)
def divN (bl : List Bool) : Nat → List Bool
  | 0 => bl
  | i + 1 => if (divN bl i).getD i false then xorAt (divN bl i) i 17 else divN bl i
def valN (bl : List Bool) (i : Nat) : Nat → Nat
  | 0 => 0
  | k + 1 => 2 * valN bl i k + (bl.getD (i + k) false).toNat
def chk (l : List UInt8) : Nat := valN (divN (flipN (bitsN l (l.length + 2)) 16) (8 * l.length)) (8 * l.length) 16

theorem byteBits_length (c : UInt8) : (byteBits c).length = 8 := by simp [byteBits]
theorem bitsN_succ (l : List UInt8) (i : Nat) : bitsN l (i + 1) = bitsN l i ++ byteBits (l.getD i 0) := by simp [bitsN, List.range_succ]
theorem bitsN_length (l : List UInt8) (i : Nat) : (bitsN l i).length = 8 * i := by
  induction i with
  | zero => rfl
  | succ i ih => rw [bitsN_succ, List.length_append, ih, byteBits_length]; omega
theorem bitsN_get (l : List UInt8) (i k j : Nat) (hk : k < i) (hj : j < 8) : (bitsN l i).getD (8 * k + j) false = (l.getD k 0).toNat.testBit (7 - j) := by
  induction i with
  | zero => omega
  | succ i ih =>
    rw [bitsN_succ, List.getD_eq_getElem?_getD]
    by_cases h : k < i
    · rw [List.getElem?_append_left (by rw [bitsN_length]; omega), ← List.getD_eq_getElem?_getD]
      exact ih h
    · have : k = i := by omega
      subst this
      rw [List.getElem?_append_right (by rw [bitsN_length]; omega), bitsN_length, Nat.add_sub_cancel_left]
      simp [byteBits, hj]
theorem flipN_length (bl : List Bool) (i : Nat) : (flipN bl i).length = bl.length := by simp [flipN]; omega
theorem flipN_get (bl : List Bool) (i j : Nat) (hj : j < bl.length) : (flipN bl i).getD j false = (bl.getD j false ^^ decide (j < i)) := by
  simp only [flipN, List.getD_eq_getElem?_getD]
  by_cases h : j < i
  · rw [List.getElem?_append_left (by simp; omega)]
    simp [List.getElem?_take, h, hj]
  · rw [List.getElem?_append_right (by simp; omega)]
    simp only [List.length_map, List.length_take, List.getElem?_drop]
    rw [show i + (j - min i bl.length) = j by omega]
    simp [h]
theorem xorAt_length (bl : List Bool) (i k : Nat) : (xorAt bl i k).length = bl.length := by
  induction k with
  | zero => rfl
  | succ k ih => simp [xorAt, ih]
theorem xorAt_get (bl : List Bool) (i k j : Nat) (hk : i + k ≤ bl.length) : (xorAt bl i k).getD j false = if i ≤ j ∧ j < i + k then (bl.getD j false ^^ dvs.getD (j - i) false) else bl.getD j false := by
  induction k with
  | zero => rw [if_neg (by omega)]; rfl
  | succ k ih =>
    have ih := ih (by omega)
    rw [xorAt, List.getD_eq_getElem?_getD, List.getElem?_set, xorAt_length]
    by_cases h : i + k = j
    · subst h
      rw [if_pos rfl, if_pos (by omega), if_pos (by omega)]
      rw [ih, if_neg (by omega)]
      simp
    · rw [if_neg h, ← List.getD_eq_getElem?_getD, ih]
      by_cases h2 : i ≤ j ∧ j < i + k
      · rw [if_pos h2, if_pos (by omega)]
      · rw [if_neg h2, if_neg (by omega)]
theorem divN_length (bl : List Bool) (i : Nat) : (divN bl i).length = bl.length := by
  induction i with
  | zero => rfl
  | succ i ih => rw [divN]; split <;> simp [xorAt_length, ih]

theorem valN_lt (bl : List Bool) (i k : Nat) : valN bl i k < 2 ^ k := by
  induction k with
  | zero => simp [valN]
  | succ k ih => rw [valN, Nat.pow_succ]; cases bl.getD (i + k) false <;> simp <;> omega
theorem valN_head (bl : List Bool) (i k : Nat) : valN bl i (k + 1) = (bl.getD i false).toNat * 2 ^ k + valN bl (i + 1) k := by
  induction k with
  | zero => simp [valN]
  | succ k ih =>
    rw [valN, ih, valN, Nat.pow_succ, show i + (k + 1) = i + 1 + k by omega]
    have : 2 * ((bl.getD i false).toNat * 2 ^ k) = (bl.getD i false).toNat * (2 ^ k * 2) := by rw [← Nat.mul_assoc, Nat.mul_comm 2, Nat.mul_assoc, Nat.mul_comm 2]
    omega
theorem valN_congr (a b : List Bool) (i k : Nat) (h : ∀ q, q < k → a.getD (i + q) false = b.getD (i + q) false) : valN a i k = valN b i k := by
  induction k with
  | zero => rfl
  | succ k ih => rw [valN, valN, ih (fun q hq => h q (by omega)), h k (by omega)]
theorem xor_bit (a b : Nat) (x y : Bool) : (2 * a + x.toNat) ^^^ (2 * b + y.toNat) = 2 * (a ^^^ b) + (x ^^ y).toNat := by
  apply Nat.eq_of_testBit_eq
  intro i
  have hb : ∀ (n : Nat) (z : Bool), (2 * n + z.toNat).testBit i = if i = 0 then z else n.testBit (i - 1) := by
    intro n z
    cases i with
    | zero => cases z <;> simp [Nat.testBit_zero] <;> omega
    | succ i => rw [if_neg (by omega), Nat.testBit_succ]; congr 1; cases z <;> simp <;> omega
  rw [Nat.testBit_xor, hb, hb, hb]
  split
  · rfl
  · rw [Nat.testBit_xor]
theorem valN_xor (a b c : List Bool) (i i' i'' k : Nat) (h : ∀ q, q < k → c.getD (i'' + q) false = (a.getD (i + q) false ^^ b.getD (i' + q) false)) : valN c i'' k = valN a i k ^^^ valN b i' k := by
  induction k with
  | zero => simp [valN]
  | succ k ih => rw [valN, valN, valN, ih (fun q hq => h q (by omega)), h k (by omega), xor_bit]

/-- One step of the division, seen through a window of sixteen bits. -/
def stepR (r : Nat) (x : Bool) : Nat := if 32768 ≤ r then (2 * r % 65536 + x.toNat) ^^^ 4129 else 2 * r % 65536 + x.toNat
theorem window (bl : List Bool) (i : Nat) : valN bl (i + 1) 16 = 2 * valN bl i 16 % 65536 + (bl.getD (i + 16) false).toNat := by
  have h1 := valN_head bl i 16
  have h2 : valN bl i 17 = 2 * valN bl i 16 + (bl.getD (i + 16) false).toNat := rfl
  have h3 := valN_lt bl (i + 1) 16
  have h4 := valN_head bl i 15
  have h5 := valN_lt bl (i + 1) 15
  simp only [Nat.reduceAdd] at h1
  rw [h2] at h1
  generalize bl.getD i false = x at *
  generalize bl.getD (i + 16) false = y at *
  cases x <;> cases y <;> simp at h1 h4 ⊢ <;> omega
theorem top_bit (bl : List Bool) (i : Nat) : bl.getD i false = decide (32768 ≤ valN bl i 16) := by
  have h4 := valN_head bl i 15
  have h5 := valN_lt bl (i + 1) 15
  generalize bl.getD i false = x at *
  cases x <;> simp at h4 ⊢ <;> omega
theorem div_keep (X : List Bool) (i j : Nat) (h : i + 16 ≤ X.length) (hj : i + 16 ≤ j) : (divN X i).getD j false = X.getD j false := by
  induction i with
  | zero => rfl
  | succ i ih =>
    rw [divN]
    split
    · rw [xorAt_get _ _ _ _ (by rw [divN_length]; omega), if_neg (by omega)]
      exact ih (by omega) (by omega)
    · exact ih (by omega) (by omega)
theorem div_step (X : List Bool) (i : Nat) (h : i + 16 < X.length) : valN (divN X (i + 1)) (i + 1) 16 = stepR (valN (divN X i) i 16) (X.getD (i + 16) false) := by
  have hw := window (divN X i) i
  rw [div_keep X i (i + 16) (by omega) (Nat.le_refl _)] at hw
  have ht := top_bit (divN X i) i
  rw [divN, stepR]
  by_cases hc : 32768 ≤ valN (divN X i) i 16
  · rw [if_pos hc, if_pos (by rw [ht]; simpa using hc), ← hw]
    have hd : valN dvs 1 16 = 4129 := rfl
    rw [← hd]
    refine valN_xor _ _ _ _ _ _ _ fun q hq => ?_
    rw [xorAt_get _ _ _ _ (by rw [divN_length]; omega), if_pos (by omega), show i + 1 + q - i = 1 + q by omega]
  · rw [if_neg hc, if_neg (by rw [ht]; simpa using hc), hw]
def winR (X : List Bool) : Nat → Nat
  | 0 => valN X 0 16
  | i + 1 => stepR (winR X i) (X.getD (i + 16) false)
theorem div_win (X : List Bool) (i : Nat) (h : i + 16 ≤ X.length) : valN (divN X i) i 16 = winR X i := by
  induction i with
  | zero => rfl
  | succ i ih => rw [div_step X i (by omega), ih (by omega), winR]

theorem step_xor (t L : Nat) (x : Bool) (ht : t < 65536) (hL : L < 32768) : stepR (t ^^^ L) x = crcStep t ^^^ (2 * L + x.toNat) := by
  have htop : (32768 ≤ t ^^^ L) ↔ t / 32768 = 1 := by
    have h1 : (t ^^^ L) / 2 ^ 15 = (t / 2 ^ 15) ^^^ (L / 2 ^ 15) := Nat.xor_div_two_pow
    have h2 : L / 2 ^ 15 = 0 := by omega
    rw [h2, Nat.xor_zero] at h1
    have h3 : t ^^^ L < 65536 := Nat.xor_lt_two_pow (n := 16) ht (by omega)
    omega
  have hlow : 2 * (t ^^^ L) % 65536 + x.toNat = (t * 2 % 65536) ^^^ (2 * L + x.toNat) := by
    have h1 : 2 * (t ^^^ L) + x.toNat = (2 * t + false.toNat) ^^^ (2 * L + x.toNat) := by rw [xor_bit]; simp
    have h2 : (2 * (t ^^^ L) + x.toNat) % 2 ^ 16 = (2 * t) % 2 ^ 16 ^^^ (2 * L + x.toNat) % 2 ^ 16 := by rw [h1, Nat.xor_mod_two_pow]; simp
    have hx : x.toNat ≤ 1 := Bool.toNat_le x
    rw [show (2 * (t ^^^ L) + x.toNat) % 2 ^ 16 = 2 * (t ^^^ L) % 65536 + x.toNat by omega, Nat.mod_eq_of_lt (a := 2 * L + x.toNat) (by omega), Nat.mul_comm 2 t] at h2
    exact h2
  unfold stepR crcStep
  by_cases h : t / 32768 = 1
  · rw [if_pos (htop.2 h), if_pos h, hlow, Nat.xor_assoc, Nat.xor_assoc, Nat.xor_comm 4129]
  · rw [if_neg (fun h' => h (htop.1 h')), if_neg h, hlow]
theorem low_bits (c d j : Nat) (hd : d < 256) (hj : j < 8) : 2 * ((c * 256 + d) / 2 ^ (8 - j)) + (d.testBit (7 - j)).toNat = (c * 256 + d) / 2 ^ (8 - (j + 1)) := by
  have h1 : (d.testBit (7 - j)).toNat = d / 2 ^ (7 - j) % 2 := by rw [Nat.testBit_eq_decide_div_mod_eq]; cases h : decide (d / 2 ^ (7 - j) % 2 = 1) <;> simp at h ⊢ <;> omega
  rw [h1, show 8 - (j + 1) = 7 - j by omega]
  rcases (show j = 0 ∨ j = 1 ∨ j = 2 ∨ j = 3 ∨ j = 4 ∨ j = 5 ∨ j = 6 ∨ j = 7 by omega) with h | h | h | h | h | h | h | h <;> subst h <;> simp <;> omega
theorem low_lt (c d j : Nat) (hc : c < 256) (hd : d < 256) (hj : j < 8) : (c * 256 + d) / 2 ^ (8 - j) < 32768 := by
  rcases (show j = 0 ∨ j = 1 ∨ j = 2 ∨ j = 3 ∨ j = 4 ∨ j = 5 ∨ j = 6 ∨ j = 7 by omega) with h | h | h | h | h | h | h | h <;> subst h <;> simp <;> omega
theorem crc_win (l : List UInt8) (k j : Nat) (hk : k < l.length) (hj : j ≤ 8) (X : List Bool) (hX : ∀ k j, 2 ≤ k → k < l.length + 2 → j < 8 → X.getD (8 * k + j) false = (l.getD k 0).toNat.testBit (7 - j))
    (h0 : winR X (8 * k) = (crc (l.take k) ^^^ ((l.getD k 0).toNat * 256)) ^^^ (l.getD (k + 1) 0).toNat) :
    winR X (8 * k + j) = crcSteps (crc (l.take k) ^^^ ((l.getD k 0).toNat * 256)) j ^^^ (((l.getD (k + 1) 0).toNat * 256 + (l.getD (k + 2) 0).toNat) / 2 ^ (8 - j)) := by
  have c0 := (l.getD k 0).toNat_lt
  have c1 := (l.getD (k + 1) 0).toNat_lt
  have c2 := (l.getD (k + 2) 0).toNat_lt
  have hs : crc (l.take k) ^^^ ((l.getD k 0).toNat * 256) < 65536 := Nat.xor_lt_two_pow (n := 16) (crc_lt _) (by omega)
  induction j with
  | zero =>
    rw [Nat.add_zero, h0]
    congr 1
    omega
  | succ j ih =>
    rw [show 8 * k + (j + 1) = 8 * k + j + 1 by omega, winR, ih (by omega), show 8 * k + j + 16 = 8 * (k + 2) + j by omega, hX (k + 2) j (by omega) (by omega) (by omega),
      step_xor _ _ _ (crcSteps_lt _ _ hs) ?_, low_bits _ _ _ c2 (by omega)]
    · rfl
    · exact low_lt _ _ _ c1 c2 (by omega)
theorem mul_xor (c d : Nat) (hd : d < 256) : c * 256 + d = (c * 256) ^^^ d := by
  have h := Nat.shiftLeft_add_eq_or_of_lt (i := 8) (b := d) (by omega) c
  rw [Nat.shiftLeft_eq, show (2 : Nat) ^ 8 = 256 from rfl] at h
  rw [h]
  apply Nat.eq_of_testBit_eq
  intro i
  rw [Nat.testBit_or, Nat.testBit_xor]
  by_cases hi : i < 8
  · have : (c * 256).testBit i = false := by
      rw [show c * 256 = 2 ^ 8 * c by rw [show (2 : Nat) ^ 8 = 256 from rfl, Nat.mul_comm], Nat.testBit_two_pow_mul, decide_eq_false (by omega)]
      rfl
    rw [this]; simp
  · have : d.testBit i = false := Nat.testBit_lt_two_pow (Nat.lt_of_lt_of_le hd (by have := Nat.pow_le_pow_right (n := 2) (by omega) (show 8 ≤ i by omega); simpa using this))
    rw [this]; simp
theorem crc_wins (l : List UInt8) (k : Nat) (hk : k ≤ l.length) (X : List Bool) (hX : ∀ k j, 2 ≤ k → k < l.length + 2 → j < 8 → X.getD (8 * k + j) false = (l.getD k 0).toNat.testBit (7 - j))
    (h0 : winR X 0 = (65535 ^^^ ((l.getD 0 0).toNat * 256)) ^^^ (l.getD 1 0).toNat) : winR X (8 * k) = (crc (l.take k) ^^^ ((l.getD k 0).toNat * 256)) ^^^ (l.getD (k + 1) 0).toNat := by
  induction k with
  | zero => exact h0
  | succ k ih =>
    have h := crc_win l k 8 (by omega) (Nat.le_refl _) X hX (ih (by omega))
    rw [show 8 * (k + 1) = 8 * k + 8 by omega, h, crc_take l k (by omega)]
    have e : l[k] = l.getD k 0 := by simp [List.getD_eq_getElem?_getD, show k < l.length by omega]
    rw [e]
    simp only [Nat.sub_self, Nat.pow_zero, Nat.div_one]
    rw [mul_xor _ _ (l.getD (k + 2) 0).toNat_lt, ← Nat.xor_assoc]
    rfl
theorem val_byte (X : List Bool) (i c : Nat) (hc : c < 256) (h : ∀ j, j < 8 → X.getD (i + j) false = c.testBit (7 - j)) : valN X i 8 = c := by
  have hb : ∀ j, (c.testBit j).toNat = c / 2 ^ j % 2 := fun j => by rw [Nat.testBit_eq_decide_div_mod_eq]; cases h : decide (c / 2 ^ j % 2 = 1) <;> simp at h ⊢ <;> omega
  simp only [valN, h 0 (by omega), h 1 (by omega), h 2 (by omega), h 3 (by omega), h 4 (by omega), h 5 (by omega), h 6 (by omega), h 7 (by omega), hb]
  simp
  omega
theorem val_split (X : List Bool) (i a b : Nat) : valN X i (a + b) = valN X i a * 2 ^ b + valN X (i + a) b := by
  induction b with
  | zero => simp [valN]
  | succ b ih =>
    rw [show a + (b + 1) = a + b + 1 by omega, valN, ih, valN, Nat.pow_succ, show i + (a + b) = i + a + b by omega]
    have : 2 * (valN X i a * 2 ^ b) = valN X i a * (2 ^ b * 2) := by rw [← Nat.mul_assoc, Nat.mul_comm 2, Nat.mul_assoc, Nat.mul_comm 2]
    omega
theorem chk_crc (l : List UInt8) : chk l = crc l := by
  have hlen : (flipN (bitsN l (l.length + 2)) 16).length = 8 * (l.length + 2) := by rw [flipN_length, bitsN_length]
  have hX : ∀ k j, k < l.length + 2 → j < 8 → (flipN (bitsN l (l.length + 2)) 16).getD (8 * k + j) false = ((l.getD k 0).toNat.testBit (7 - j) ^^ decide (8 * k + j < 16)) := fun k j hk hj => by
    rw [flipN_get _ _ _ (by rw [bitsN_length]; omega), bitsN_get _ _ _ _ hk hj]
  unfold chk
  rw [div_win _ _ (by rw [hlen]; omega), crc_wins l l.length (Nat.le_refl _) _ ?_ ?_]
  · rw [List.take_length]
    simp [List.getD_eq_getElem?_getD]
  · intro k j h2 hk hj
    rw [hX k j hk hj, show decide (8 * k + j < 16) = false by simp; omega]
    simp
  · rw [winR]
    have hv : valN (flipN (bitsN l (l.length + 2)) 16) 0 16 = valN (bitsN l (l.length + 2)) 0 16 ^^^ valN (List.replicate 16 true) 0 16 := by
      refine valN_xor _ _ _ _ _ _ _ fun q hq => ?_
      rw [flipN_get _ _ _ (by rw [bitsN_length]; omega)]
      congr 1
      have : ∀ q : Fin 16, decide (0 + q.1 < 16) = (List.replicate 16 true).getD (0 + q.1) false := by decide
      exact this ⟨q, hq⟩
    have h1 : valN (bitsN l (l.length + 2)) 0 8 = (l.getD 0 0).toNat := val_byte _ _ _ (l.getD 0 0).toNat_lt fun j hj => by
      have := bitsN_get l (l.length + 2) 0 j (by omega) hj
      simpa using this
    have h2 : valN (bitsN l (l.length + 2)) (0 + 8) 8 = (l.getD 1 0).toNat := val_byte _ _ _ (l.getD 1 0).toNat_lt fun j hj => by
      have := bitsN_get l (l.length + 2) 1 j (by omega) hj
      simpa using this
    have h3 := val_split (bitsN l (l.length + 2)) 0 8 8
    simp only [Nat.reduceAdd] at h3
    simp only [Nat.zero_add] at h2 h3
    rw [h1, h2] at h3
    have h4 : valN (List.replicate 16 true) 0 16 = 65535 := rfl
    rw [hv, h3, h4, show (2 : Nat) ^ 8 = 256 from rfl, mul_xor _ _ (l.getD 1 0).toNat_lt, Nat.xor_comm, ← Nat.xor_assoc]
end Go.Proofs.Ytjemilhbipaepaa
