/- What is refused: plain. -/
import Derived.Test.YtjemilhbipaepaaS24
namespace Go.Proofs.Ytjemilhbipaepaa

theorem read_open (l : List Op) (hv : opsErr l = 0) (hl : l.length ≤ 4096) : readAll (headB ++ encBlocks l) = (l, true, 4) := by
  have hd : (headB ++ encBlocks l).drop 4 = encBlocks l ++ [] := by rw [List.append_nil]; rfl
  have hfl := flat_len_ge (blks l ((l.length + 31) / 32))
  have hfull : (blks l ((l.length + 31) / 32)).flatten = l := by rw [blks_flat, List.take_of_length_le (by omega)]
  have hlen : (headB ++ encBlocks l).length = 4 + (encBlocks l).length := by rw [List.length_append]; rfl
  rw [readAll, if_pos (by rfl), hd, blks_enc, read_blocks _ _ _ _ (blks_ok l hv _ (Nat.le_refl _)) (by rw [hfull]; simpa using hl) (by rw [← blks_enc, hlen, blks_enc]; omega), hfull, List.nil_append, read_nil]
theorem opsErr_append (l : List Op) (o : Op) (h : opsErr l = 0) : opsErr (l ++ [o]) = opErr o := by
  induction l with
  | nil => simp only [List.nil_append, opsErr]; split <;> simp_all
  | cons x l ih =>
    rw [List.cons_append, opsErr]
    unfold opsErr at h
    split at h
    · rename_i hx
      rw [if_pos hx]
      exact ih h
    · contradiction
def rackOp (i : Nat) : Op := ⟨3, 0, 0, 0, 0, ((i % 9 : Nat) : Int) - 4⟩
theorem rackOp_ok (i : Nat) : opErr (rackOp i) = 0 := by
  simp [rackOp, opErr, opPlain, there, dirBad, needleBad, yarnBad, usesDir, usesNeedle, usesYarn, usesRack]
  omega
theorem opsErr_all (l : List Op) (h : ∀ o ∈ l, opErr o = 0) : opsErr l = 0 := by
  induction l with
  | nil => rfl
  | cons x l ih => rw [opsErr, if_pos (h x (by simp))]; exact ih fun o ho => h o (by simp [ho])
def longL (n : Nat) : List Op := (List.range n).map rackOp
theorem longL_ok (n : Nat) : ∀ o ∈ longL n, opErr o = 0 := fun o ho => by
  obtain ⟨i, _, rfl⟩ := List.mem_map.1 ho
  exact rackOp_ok i
theorem longL_length (n : Nat) : (longL n).length = n := by simp [longL]
/-- A list that is filled up to a place. -/
def part (n i : Nat) : List Op := longL i ++ List.replicate (n - i) zeroOp
theorem part_full (n : Nat) : part n n = longL n := by simp [part]
theorem part_zero (n : Nat) : part n 0 = List.replicate n zeroOp := by simp [part, longL]
theorem part_length (n i : Nat) (h : i ≤ n) : (part n i).length = n := by simp [part, longL]; omega
theorem part_step (n i : Nat) (h : i < n) : (opsC (part n i)).take (i * 6) ++ opC (rackOp i) ++ (opsC (part n i)).drop (i * 6 + 6) = opsC (part n (i + 1)) := by
  have h1 : part n i = longL i ++ (zeroOp :: List.replicate (n - (i + 1)) zeroOp) := by
    rw [part, show n - i = (n - (i + 1)) + 1 by omega, List.replicate_succ]
  have h2 : part n (i + 1) = longL i ++ (rackOp i :: List.replicate (n - (i + 1)) zeroOp) := by
    rw [part, longL, List.range_succ, List.map_append]; simp [longL]
  have hl : (opsC (longL i)).length = i * 6 := by rw [opsC_length, longL_length]
  have e : ∀ (x : List Op) (y : List Op), opsC (x ++ y) = opsC x ++ opsC y := fun x y => by simp [opsC]
  have e2 : ∀ (o : Op) (y : List Op), opsC (o :: y) = opC o ++ opsC y := fun o y => rfl
  rw [h1, h2, e, e, e2, e2, ← hl, List.take_left, List.drop_append, List.drop_of_length_le (by omega), Nat.add_sub_cancel_left, List.nil_append]
  have h6 : (opC zeroOp).length = 6 := rfl
  rw [← h6, List.drop_left, List.append_assoc]
end Go.Proofs.Ytjemilhbipaepaa
