/- A tape that is cut: plain. -/
import Derived.Test.YtjemilhbipaepaaS23a
namespace Go.Proofs.Ytjemilhbipaepaa

theorem blockList_take (ops : List Op) (i : Nat) (hi : i ≤ nBlocks ops) : ((blockList ops).take i).flatten = (blks ops i).flatMap encBlock := by
  unfold blockList blks
  rw [← List.map_take, List.take_range, Nat.min_eq_left hi, List.flatMap_map]
  rfl
theorem want_blks (ops : List Op) (i : Nat) (hi : i ≤ nBlocks ops) : want ops i = headB ++ (blks ops i).flatMap encBlock := by rw [want, blockList_take ops i hi]
def tailOf (ops : List Op) (i : Nat) : List UInt8 := ((blockList ops).drop i).flatten ++ endB
theorem tape_split (ops : List Op) (i : Nat) : encTape ops = want ops i ++ tailOf ops i := by
  have h : (blockList ops).flatten = ((blockList ops).take i).flatten ++ ((blockList ops).drop i).flatten := by rw [← List.flatten_append, List.take_append_drop]
  rw [encTape, ← blockList_flat, h, want, tailOf]
  simp
theorem tail_end (ops : List Op) : tailOf ops (nBlocks ops) = endB := by
  rw [tailOf, List.drop_of_length_le (by rw [blockList_length]; omega)]; rfl
theorem tail_next (ops : List Op) (i : Nat) (hi : i < nBlocks ops) : tailOf ops i = encBlock (blk ops i) ++ tailOf ops (i + 1) := by
  have hl : i < (blockList ops).length := by rw [blockList_length]; exact hi
  rw [tailOf, tailOf, List.drop_eq_getElem_cons hl, List.flatten_cons, List.append_assoc]
  congr 1
  simp [blockList]
theorem read_short (f : Nat) (b : List UInt8) (acc : List Op) (h0 : b.length ≠ 0) (h1 : (b.getD 0 0).toNat ≤ 32) (h2 : b.length < 3 + 3 * (b.getD 0 0).toNat) : readF (f + 1) b acc = (acc, false, 4) := by
  rw [readF, if_neg h0, if_neg (by omega), if_pos h2]
theorem want_ge (ops : List Op) (i : Nat) : 4 ≤ (want ops i).length := by simp [want, headB]
theorem want_ge2 (ops : List Op) (i : Nat) (hi : i ≤ nBlocks ops) : 4 + i ≤ (want ops i).length := by
  have h1 := flat_len_ge (blks ops i)
  have h2 : (blks ops i).length = i := by simp [blks]
  rw [want_blks ops i hi, List.length_append]
  simp only [headB, List.length_cons, List.length_nil]
  omega
theorem cut_read (ops : List Op) (hok : opsErr ops = 0) (hl : ops.length ≤ 4096) (i cut : Nat) (hi : i ≤ nBlocks ops) (h0 : i = 0 ∨ (want ops i).length ≤ cut) (h1 : i = nBlocks ops ∨ cut < (want ops (i + 1)).length) (hcut : cut < (encTape ops).length) :
    readAll ((encTape ops).take cut) = (ops.take (32 * i), decide (cut = (want ops i).length), 4) := by
  by_cases h4 : cut < 4
  · have hi0 : i = 0 := by
      rcases h0 with h | h
      · exact h
      · have := want_ge ops i; omega
    have hne : ((encTape ops).take cut).take 4 ≠ headB := fun h => by
      have := congrArg List.length h
      simp only [List.length_take, headB, List.length_cons, List.length_nil] at this
      omega
    rw [readAll, if_neg hne, hi0]
    have : ¬ cut = (want ops 0).length := by have := want_ge ops 0; omega
    simp [this]
  · have hE : (want ops i).length ≤ cut := by
      rcases h0 with h | h
      · subst h
        have : (want ops 0).length = 4 := by simp [want, headB]
        omega
      · exact h
    have hE2 := want_ge2 ops i hi
    have hsp := tape_split ops i
    obtain ⟨r, hr⟩ : ∃ r, cut = (want ops i).length + r := ⟨cut - (want ops i).length, by omega⟩
    have htk : (encTape ops).take cut = want ops i ++ (tailOf ops i).take r := by rw [hsp, hr, List.take_length_add_append]
    have hw := want_blks ops i hi
    have hhead : ((encTape ops).take cut).take 4 = headB := by rw [htk, hw, List.append_assoc]; rfl
    have hdrop : ((encTape ops).take cut).drop 4 = (blks ops i).flatMap encBlock ++ (tailOf ops i).take r := by rw [htk, hw, List.append_assoc]; rfl
    have hlen : ((encTape ops).take cut).length = cut := by rw [List.length_take]; omega
    have hbl : (blks ops i).length = i := by simp [blks]
    have hfl := blks_flat ops i
    rw [readAll, if_pos hhead, hdrop, hlen, read_blocks _ _ _ _ (blks_ok ops hok i hi) (by rw [hfl, List.length_nil, Nat.zero_add, List.length_take]; omega) (by rw [hbl]; omega), hfl, hbl, List.nil_append]
    by_cases hr0 : r = 0
    · subst hr0
      rw [List.take_zero, read_nil]
      simp only [Nat.add_zero] at hr
      simp [hr]
    · have hne : ¬ cut = (want ops i).length := by omega
      obtain ⟨f, hf⟩ : ∃ f, cut - i = f + 1 := ⟨cut - i - 1, by omega⟩
      have hdec : decide (cut = (want ops i).length) = false := by simpa using hne
      rw [hf, hdec]
      have htl : (encTape ops).length = (want ops i).length + (tailOf ops i).length := by rw [hsp, List.length_append]
      by_cases hiN : i = nBlocks ops
      · rw [hiN, tail_end]
        rw [hiN, tail_end, endB_length] at htl
        have hr3 : r = 1 ∨ r = 2 := by rw [hiN] at hr; omega
        rcases hr3 with h | h
        · subst h
          exact read_short f _ _ (by decide) (by decide +kernel) (by decide +kernel)
        · subst h
          exact read_short f _ _ (by decide) (by decide +kernel) (by decide +kernel)
      · have hilt : i < nBlocks ops := by omega
        rw [tail_next ops i hilt]
        have hws := want_succ ops i (by rw [blockList_length]; exact hilt)
        have hbi : (blockList ops)[i]'(by rw [blockList_length]; exact hilt) = encBlock (blk ops i) := by simp [blockList]
        have hlb : (want ops (i + 1)).length = (want ops i).length + (encBlock (blk ops i)).length := by rw [hws, List.length_append, hbi]
        have hrl : r < (encBlock (blk ops i)).length := by
          rcases h1 with h | h
          · exact absurd h hiN
          · omega
        have hel := encBlock_length (blk ops i)
        have hbk : (blk ops i).length ≤ 32 := by rw [blk_length]; omega
        have hl2 : ((encBlock (blk ops i) ++ tailOf ops (i + 1)).take r).length = r := by rw [List.length_take, List.length_append]; omega
        have hg0 : (((encBlock (blk ops i) ++ tailOf ops (i + 1)).take r).getD 0 0).toNat = (blk ops i).length := by
          have : ((encBlock (blk ops i) ++ tailOf ops (i + 1)).take r).getD 0 0 = UInt8.ofNat (blk ops i).length := by
            rw [List.getD_eq_getElem?_getD, List.getElem?_take, if_pos (by omega)]; rfl
          rw [this, UInt8.toNat_ofNat', Nat.mod_eq_of_lt (by omega)]
        exact read_short f _ _ (by omega) (by omega) (by omega)
end Go.Proofs.Ytjemilhbipaepaa
