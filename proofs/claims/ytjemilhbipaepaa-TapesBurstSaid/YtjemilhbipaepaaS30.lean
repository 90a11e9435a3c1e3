/- Bursts of at most sixteen bits are noticed: plain. -/
import Derived.Test.YtjemilhbipaepaaS15
namespace Go.Proofs.Ytjemilhbipaepaa

theorem xor_left (a b c : Nat) : a ^^^ (b ^^^ c) = b ^^^ (a ^^^ c) := by rw [← Nat.xor_assoc, Nat.xor_comm a b, Nat.xor_assoc]
theorem crcStep_xor (s t : Nat) (hs : s < 65536) (ht : t < 65536) : crcStep (s ^^^ t) = crcStep s ^^^ crcStep t := by
  have h1 : (s ^^^ t) / 2 ^ 15 = (s / 2 ^ 15) ^^^ (t / 2 ^ 15) := Nat.xor_div_two_pow
  have h2 : ((s ^^^ t) * 2) % 65536 = (s * 2 % 65536) ^^^ (t * 2 % 65536) := by
    have e := xor_bit s t false false
    simp only [Bool.toNat_false, Nat.add_zero, Bool.xor_false] at e
    have e2 : (2 * (s ^^^ t)) % 2 ^ 16 = (2 * s) % 2 ^ 16 ^^^ (2 * t) % 2 ^ 16 := by rw [← e, Nat.xor_mod_two_pow]
    rw [Nat.mul_comm, Nat.mul_comm s, Nat.mul_comm t]
    exact e2
  have hs1 : s / 2 ^ 15 = 0 ∨ s / 2 ^ 15 = 1 := by omega
  have ht1 : t / 2 ^ 15 = 0 ∨ t / 2 ^ 15 = 1 := by omega
  unfold crcStep
  rw [h2]
  rw [show (s ^^^ t) / 32768 = (s / 32768) ^^^ (t / 32768) from h1]
  rcases hs1 with a | a <;> rcases ht1 with b | b
  · rw [show s / 32768 = 0 from a, show t / 32768 = 0 from b]; simp
  · rw [show s / 32768 = 0 from a, show t / 32768 = 1 from b]; simp [Nat.xor_assoc]
  · rw [show s / 32768 = 1 from a, show t / 32768 = 0 from b]
    simp only [Nat.xor_zero, if_true]
    rw [if_neg (by omega), Nat.xor_assoc, Nat.xor_assoc, Nat.xor_comm 4129]
  · rw [show s / 32768 = 1 from a, show t / 32768 = 1 from b]
    simp only [Nat.xor_self, if_true]
    rw [if_neg (by omega), Nat.xor_assoc, Nat.xor_comm (t * 2 % 65536), ← Nat.xor_assoc 4129, Nat.xor_self, Nat.zero_xor]
theorem crcSteps_xor (s t k : Nat) (hs : s < 65536) (ht : t < 65536) : crcSteps (s ^^^ t) k = crcSteps s k ^^^ crcSteps t k := by
  induction k with
  | zero => rfl
  | succ k ih => rw [crcSteps, ih, crcStep_xor _ _ (crcSteps_lt _ _ hs) (crcSteps_lt _ _ ht)]; rfl
theorem stepR_ne (r : Nat) (hr : r < 65536) (h : r ≠ 0) : stepR r false ≠ 0 := by
  unfold stepR
  split
  · intro h0
    have h1 := congrArg (fun n => n.testBit 0) h0
    simp only [Nat.testBit_xor, Nat.zero_testBit] at h1
    have h2 : (2 * r % 65536 + false.toNat).testBit 0 = false := by rw [Nat.testBit_zero]; simp <;> omega
    rw [h2] at h1
    simp at h1
  · simp only [Bool.toNat_false]; omega
theorem crcFrom_take (s0 : Nat) (l : List UInt8) (k : Nat) (h : k < l.length) : crcFrom s0 (l.take (k + 1)) = crcByte (crcFrom s0 (l.take k)) l[k].toNat := by
  rw [List.take_succ_eq_append_getElem h, crcFrom, List.foldl_append]; rfl
theorem winS (s0 : Nat) (hs0 : s0 < 65536) (l : List UInt8) (k j : Nat) (hj : j ≤ 8) (X : List Bool) (hX : ∀ k j, j < 8 → X.getD (8 * k + j) false = (l.getD k 0).toNat.testBit (7 - j))
    (h0 : winR X (8 * k) = (crcFrom s0 (l.take k) ^^^ ((l.getD k 0).toNat * 256)) ^^^ (l.getD (k + 1) 0).toNat) :
    winR X (8 * k + j) = crcSteps (crcFrom s0 (l.take k) ^^^ ((l.getD k 0).toNat * 256)) j ^^^ (((l.getD (k + 1) 0).toNat * 256 + (l.getD (k + 2) 0).toNat) / 2 ^ (8 - j)) := by
  have c0 := (l.getD k 0).toNat_lt
  have c1 := (l.getD (k + 1) 0).toNat_lt
  have c2 := (l.getD (k + 2) 0).toNat_lt
  have hs : crcFrom s0 (l.take k) ^^^ ((l.getD k 0).toNat * 256) < 65536 := Nat.xor_lt_two_pow (n := 16) (crcFrom_lt _ _ hs0) (by omega)
  induction j with
  | zero =>
    rw [Nat.add_zero, h0]
    congr 1
    omega
  | succ j ih =>
    rw [show 8 * k + (j + 1) = 8 * k + j + 1 by omega, winR, ih (by omega), show 8 * k + j + 16 = 8 * (k + 2) + j by omega, hX (k + 2) j (by omega),
      step_xor _ _ _ (crcSteps_lt _ _ hs) ?_, low_bits _ _ _ c2 (by omega)]
    · rfl
    · exact low_lt _ _ _ c1 c2 (by omega)
theorem winsS (s0 : Nat) (hs0 : s0 < 65536) (l : List UInt8) (k : Nat) (hk : k ≤ l.length) (X : List Bool) (hX : ∀ k j, j < 8 → X.getD (8 * k + j) false = (l.getD k 0).toNat.testBit (7 - j))
    (h0 : winR X 0 = (s0 ^^^ ((l.getD 0 0).toNat * 256)) ^^^ (l.getD 1 0).toNat) : winR X (8 * k) = (crcFrom s0 (l.take k) ^^^ ((l.getD k 0).toNat * 256)) ^^^ (l.getD (k + 1) 0).toNat := by
  induction k with
  | zero => exact h0
  | succ k ih =>
    have h := winS s0 hs0 l k 8 (Nat.le_refl _) X hX (ih (by omega))
    rw [show 8 * (k + 1) = 8 * k + 8 by omega, h, crcFrom_take s0 l k (by omega)]
    have e : l[k] = l.getD k 0 := by simp [List.getD_eq_getElem?_getD, show k < l.length by omega]
    rw [e]
    simp only [Nat.sub_self, Nat.pow_zero, Nat.div_one]
    rw [mul_xor _ _ (l.getD (k + 2) 0).toNat_lt, ← Nat.xor_assoc]
    rfl
/-- A burst stays. -/
theorem burst_ne (X : List Bool) (f m : Nat) (hz : ∀ q, q < f → X.getD q false = false) (hl : ∀ q, f + 16 ≤ q → X.getD q false = false) (hp : valN X f 16 ≠ 0) (hm : f ≤ m) : winR X m ≠ 0 := by
  have h1 : ∀ i, i ≤ f → winR X i = valN X i 16 := by
    intro i
    induction i with
    | zero => intro _; rfl
    | succ i ih =>
      intro hi
      have hi' := ih (by omega)
      have ht := top_bit X i
      rw [hz i (by omega)] at ht
      have hlt : ¬ 32768 ≤ valN X i 16 := by simpa using ht.symm
      rw [winR, hi', stepR, if_neg hlt, window]
  have h2 : ∀ d, winR X (f + d) ≠ 0 ∧ winR X (f + d) < 65536 := by
    intro d
    induction d with
    | zero => rw [Nat.add_zero, h1 f (Nat.le_refl _)]; exact ⟨hp, valN_lt X f 16⟩
    | succ d ih =>
      rw [← Nat.add_assoc, winR, hl _ (by omega)]
      refine ⟨stepR_ne _ ih.2 ih.1, ?_⟩
      unfold stepR
      split
      · exact Nat.xor_lt_two_pow (n := 16) (by simp; omega) (by omega)
      · simp; omega
  have := (h2 (m - f)).1
  rwa [Nat.add_sub_cancel' hm] at this
theorem bitsX (l : List UInt8) (k j : Nat) (hj : j < 8) : (bitsN l l.length).getD (8 * k + j) false = (l.getD k 0).toNat.testBit (7 - j) := by
  by_cases hk : k < l.length
  · exact bitsN_get l l.length k j hk hj
  · have h1 : (bitsN l l.length)[8 * k + j]? = none := List.getElem?_eq_none (by rw [bitsN_length]; omega)
    have h2 : l[k]? = none := List.getElem?_eq_none (by omega)
    rw [List.getD_eq_getElem?_getD, h1, List.getD_eq_getElem?_getD, h2]
    simp
theorem win0 (l : List UInt8) : winR (bitsN l l.length) 0 = (0 ^^^ ((l.getD 0 0).toNat * 256)) ^^^ (l.getD 1 0).toNat := by
  rw [winR]
  have h1 : valN (bitsN l l.length) 0 8 = (l.getD 0 0).toNat := val_byte _ _ _ (l.getD 0 0).toNat_lt fun j hj => by
    have := bitsX l 0 j hj
    simpa using this
  have h2 : valN (bitsN l l.length) (0 + 8) 8 = (l.getD 1 0).toNat := val_byte _ _ _ (l.getD 1 0).toNat_lt fun j hj => by
    have := bitsX l 1 j hj
    simpa using this
  have h3 := val_split (bitsN l l.length) 0 8 8
  simp only [Nat.reduceAdd] at h3
  simp only [Nat.zero_add] at h2 h3
  rw [h1, h2] at h3
  rw [h3, show (2 : Nat) ^ 8 = 256 from rfl, mul_xor _ _ (l.getD 1 0).toNat_lt, Nat.zero_xor]
end Go.Proofs.Ytjemilhbipaepaa
