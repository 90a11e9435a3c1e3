/- Lemmas for the laws. -/
import Derived.Test.YtjemilhbipaepaaS17
import Derived.Test.YtjemilhbipaepaaS21
import Derived.Test.YtjemilhbipaepaaS22
namespace Go.Proofs.Ytjemilhbipaepaa
open Go.RowKit

theorem decode_n (A : Option Addr) (c n : Nat) (l : List UInt8) (hn : l.length = n) (hl : n ≤ 1000000) (hcc : n ≤ c) (hc2 : c ≤ 9223372036854775807) (r : List Op) (k : Nat) (e : Int) (hr : decRes l = r) (hk : r.length = k) (he : (readAll l).2.2 = e) (W : World) (hR : Reads W A n 1 (l.map byteV)) :
    Ret Try.prog 15 #[.slice A n c] W fun v w' => ∃ A', v = .tuple #[.slice A' k k, .int .i64 e] ∧ True ∧ SF W [.row A' k 53 6 k (opsC r)] w' := by
  subst hn; subst hk; subst hr; subst he; exact decode_any A c l hl hcc hc2 W hR
theorem salvage_n (A : Option Addr) (c n : Nat) (l : List UInt8) (hn : l.length = n) (hl : n ≤ 1000000) (hcc : n ≤ c) (hc2 : c ≤ 9223372036854775807) (r : List Op) (k : Nat) (e : Bool) (hr : (readAll l).1 = r) (hk : r.length = k) (he : ((readAll l).2.2 == 0) = e) (W : World) (hR : Reads W A n 1 (l.map byteV)) :
    Ret Try.prog 16 #[.slice A n c] W fun v w' => ∃ b : Nat, v = .tuple #[.slice (some ⟨b, 0, none⟩) k k, .bool e] ∧ True ∧ SF W [.row (some ⟨b, 0, none⟩) k 53 6 k (opsC r)] w' := by
  subst hn; subst hk; subst hr; subst he; exact salvage_any A c l hl hcc hc2 W hR
theorem same_yes (A1 A2 : Option Addr) (n c1 c2 : Nat) (u : List Op) (hn1 : u.length = n) (hl : n ≤ 1000000) (hc1 : c1 = n) (W : World) (hR1 : Reads W A1 n 6 (opsC u)) (hR2 : Reads W A2 n 6 (opsC u)) :
    Ret Try.prog 17 #[.slice A1 n c1, .slice A2 n c2] W fun r w' => r = .int .i64 1 ∧ SF W [] w' := by
  have h := same_any A1 A2 n n c1 c2 u u hn1 hn1 hl (by omega) W hR1 hR2
  rw [sameV, if_pos ⟨rfl, by omega⟩] at h
  exact h
theorem flat_take (l : List (List UInt8)) (k : Nat) (h : k < l.length) : (l.take (k + 1)).flatten = (l.take k).flatten ++ l[k] := by
  rw [List.take_succ_eq_append_getElem h, List.flatten_append]; simp only [List.flatten_cons, List.flatten_nil, List.append_nil]
theorem blockList_flat (l : List Op) : (blockList l).flatten = encBlocks l := by simp [blockList, encBlocks, nBlocks, List.flatMap]
theorem blockList_length (l : List Op) : (blockList l).length = nBlocks l := by simp [blockList]
theorem blockList_len (l : List Op) (k : Nat) : (((blockList l).take k).flatten).length ≤ 99 * nBlocks l := by
  have h1 : ∀ b ∈ blockList l, b.length ≤ 99 := fun b hb => by
    obtain ⟨i, _, rfl⟩ := List.mem_map.1 hb
    rw [encBlock_length, blk_length]; omega
  have h2 : ∀ (L : List (List UInt8)), (∀ b ∈ L, b.length ≤ 99) → L.flatten.length ≤ 99 * L.length := by
    intro L
    induction L with
    | nil => simp
    | cons b L ih => intro h; rw [List.flatten_cons, List.length_append, List.length_cons]; have := ih (fun x hx => h x (by simp [hx])); have := h b (by simp); omega
  have h3 := h2 ((blockList l).take k) (fun b hb => h1 b (List.mem_of_mem_take hb))
  have h4 := List.length_take_le k (blockList l)
  have h5 : ((blockList l).take k).length ≤ (blockList l).length := by rw [List.length_take]; omega
  rw [blockList_length] at h5
  exact Nat.le_trans h3 (Nat.mul_le_mul_left _ h5)
def want (ops : List Op) (i : Nat) : List UInt8 := headB ++ ((blockList ops).take i).flatten
theorem want_len (ops : List Op) (i : Nat) : (want ops i).length ≤ 4 + 99 * nBlocks ops := by
  have := blockList_len ops i
  simp only [want, List.length_append, headB, List.length_cons, List.length_nil]; omega
theorem want_succ (ops : List Op) (i : Nat) (h : i < (blockList ops).length) : want ops (i + 1) = want ops i ++ (blockList ops)[i] := by
  rw [want, flat_take _ _ h, ← List.append_assoc]; rfl
theorem want_end (ops : List Op) : want ops (nBlocks ops) ++ [0, 225, 240] = encTape ops := by
  have he : endB = [0, 225, 240] := by decide +kernel
  rw [want, List.take_of_length_le (by rw [blockList_length]; omega), blockList_flat, ← he]; rfl
theorem enc_ok (ops : List Op) (h : opsErr ops = 0) (hl : ops.length ≤ 4096) : encErr ops = 0 ∧ encRes ops = encTape ops := by
  have h1 : encErr ops = 0 := by rw [encErr, if_neg (by omega), h]
  exact ⟨h1, by rw [encRes, if_pos h1]⟩
end Go.Proofs.Ytjemilhbipaepaa
