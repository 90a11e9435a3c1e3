/- tapes.putSum, putEnd, check; copies. -/
import Derived.Test.YtjemilhbipaepaaS5
namespace Go.Proofs.Ytjemilhbipaepaa
open Go.RowKit

theorem check16n (A : Option Addr) (c n : Nat) (l : List UInt8) (hn : l.length = n) (hl : n ≤ 140737488351232) (W : World) (hR : Reads W A n 1 (l.map byteV)) :
    Ret Try.prog 10 #[.slice A n c] W fun v w' => v = .int .u16 (crc l) ∧ SF W [] w' := by
  subst hn; exact check16 A c l hl W hR
def sumB (s : Nat) : List UInt8 := [UInt8.ofNat (s / 256), UInt8.ofNat (s % 256)]
theorem bytes_one (l : List UInt8) : ∀ u ∈ l.map byteV, u.oneCell' = true := by
  intro u hu
  obtain ⟨c, _, rfl⟩ := List.mem_map.1 hu
  rfl
theorem cut_bytes (l : List UInt8) (a b : Nat) : ((l.map byteV).drop (a * 1)).take (b * 1) = ((l.drop a).take b).map byteV := by
  rw [Nat.mul_one, Nat.mul_one]; simp
theorem Reads.cutB {w : World} {A : Option Addr} {m a b c : Nat} {l : List UInt8} (h : Reads w A m 1 (l.map byteV)) (h1 : a ≤ b) (h2 : b ≤ m) (h3 : b ≤ c) : Reads w (cutA A a 1 c) (b - a) 1 (((l.drop a).take (b - a)).map byteV) := by
  rw [← cut_bytes]; exact h.cut h1 h2 h3

theorem copied_bytes (A : Option Addr) (c : Nat) (l : List UInt8) (hl : l.length ≤ 140737488351232) (W : World) (hR : Reads W A l.length 1 (l.map byteV)) :
    Ret Try.prog 24 #[.slice A l.length c] W fun v w' => ∃ b : Nat, v = .slice (some ⟨b, 0, none⟩) l.length l.length ∧ True ∧ SF W [.row (some ⟨b, 0, none⟩) l.length 5 1 l.length (l.map byteV)] w' := by
  refine f_start (vs := [.slice A l.length c]) [(0, .slice A l.length c)] Try.func24 rfl Try.ntmps24 rfl rfl ?_
  intro a hX
  refine wpIn_seq ?_
  refine c_region ?_
  refine xl_cons ?_; ((refine y_pure (d := 2) hX ⟨rfl, rfl⟩ rfl (p_assign hX.st rfl rfl) ?_; clear hX; intro a w hX))
  refine x_end ?_
  refine q_then ?_
  refine wpIn_seq ?_
  refine c_region ?_
  refine xl_cons ?_; ((refine y_pure (d := 4) hX ⟨rfl, rfl⟩ rfl (p_move hX.st rfl rfl) ?_; clear hX; intro a w hX))
  refine xl_cons ?_; ((refine y_pure (d := 5) hX ⟨rfl, rfl⟩ rfl (p_len hX.st rfl tab_ok rfl rfl rfl) ?_; clear hX; intro a w hX))
  refine xl_cons ?_; (refine y_makeSlice (d := 6) hX rfl ⟨rfl, rfl⟩ rfl tab_ok rfl rfl rfl (z := [.int .u8 0]) rfl rfl rfl rfl rfl rfl rfl (Nat.le_refl _) (by simp only [ti5]; omega) (by omega) ?_; clear hX; intro b a w hX)
  refine xl_cons ?_; ((refine y_pure (d := 3) hX ⟨rfl, rfl⟩ rfl (p_assign hX.st rfl rfl) ?_; clear hX; intro a w hX))
  refine x_end ?_
  refine q_then ?_
  refine wpIn_seq ?_
  refine c_region ?_
  refine xl_cons ?_; ((refine y_pure (d := 7) hX ⟨rfl, rfl⟩ rfl (p_move hX.st rfl rfl) ?_; clear hX; intro a w hX))
  refine xl_cons ?_; ((refine y_pure (d := 8) hX ⟨rfl, rfl⟩ rfl (p_move hX.st rfl rfl) ?_; clear hX; intro a w hX))
  refine xl_cons ?_; (refine y_copy (d := 9) hX rfl ⟨rfl, rfl⟩ rfl tab_ok rfl rfl rfl rfl rfl foc0 (Reads.old hX.sh hR) (bytes_one l) ?_; clear hX; intro a w hX)
  refine x_end ?_
  refine q_then ?_
  refine wpIn_seq ?_
  refine c_region ?_
  refine xl_cons ?_; ((refine y_pure (d := 10) hX ⟨rfl, rfl⟩ rfl (p_move hX.st rfl rfl) ?_; clear hX; intro a w hX))
  refine xl_cons ?_; ((refine y_pure (d := 2) hX ⟨rfl, rfl⟩ rfl (p_assign hX.st rfl rfl) ?_; clear hX; intro a w hX))
  refine x_end ?_
  refine q_then ?_
  refine c_ret ?_
  exact f_ret1 hX Try.results24 rfl ⟨b, rfl, trivial, hX.sh⟩

theorem list2 {α : Type} {a b a' b' : α} (h1 : a = a') (h2 : b = b') : [a, b] = [a', b'] := by rw [h1, h2]
theorem put_sum (k : Nat) (A : Option Addr) (c n : Nat) (l : List UInt8) (hn : l.length = n) (hl : n ≤ 1000000) (hk : k ≤ n) (B : Nat → Prop) (w0 : World) (H : List Ck) (W : World) (hH : SH B w0 (.row A c 5 1 n (l.map byteV) :: H) W) :
    Ret Try.prog 32 #[.slice A n c, .int .i64 k] W fun v w' => ∃ A' c', v = .slice A' (n + 2) c' ∧ SH B w0 (.row A' c' 5 1 (n + 2) ((l ++ sumB (crc (l.drop k))).map byteV) :: H) w' := by
  refine f_startH (vs := [.slice A n c, .int .i64 k]) [(0, .slice A n c), (1, .int .i64 k)] hH Try.func32 rfl Try.ntmps32 rfl rfl ?_
  intro a hX
  have hc1 := (Owns.le (hX.sh.ok _ (foc0 (c := .row A c 5 1 n (l.map byteV)) (H := H)).mem)).1
  have hs := crc_lt (l.drop k)
  refine wpIn_seq ?_
  refine c_region ?_
  refine xl_cons ?_; ((refine y_pure (d := 4) hX ⟨rfl, rfl⟩ rfl (p_assign hX.st rfl rfl) ?_; clear hX; intro a w hX))
  refine x_end ?_
  refine q_then ?_
  refine wpIn_seq ?_
  refine c_region ?_
  refine xl_cons ?_; ((refine y_pure (d := 6) hX ⟨rfl, rfl⟩ rfl (p_move hX.st rfl rfl) ?_; clear hX; intro a w hX))
  refine xl_cons ?_; ((refine y_pure (d := 7) hX ⟨rfl, rfl⟩ rfl (p_move hX.st rfl rfl) ?_; clear hX; intro a w hX))
  refine xl_cons ?_; ((refine y_pure (d := 8) hX ⟨rfl, rfl⟩ rfl (p_sliceFrom hX.st rfl tab_ok rfl rfl rfl rfl rfl (by first | rfl | omega) (by first | omega | decide)) ?_; clear hX; intro a w hX))
  refine xl_cons ?_; (refine y_callP (d := 9) hX rfl ⟨rfl, rfl⟩ rfl Try.func10 rfl rfl rfl (check16n _ _ _ (l.drop k) (by simp; omega) (by omega) _ (by have h := (Reads.row hX.sh foc0).cutB hk (Nat.le_refl _) hc1; rw [List.take_of_length_le (by simp; omega)] at h; exact h)) ?_; clear hX; intro a w hX)
  refine xl_cons ?_; ((refine y_pure (d := 5) hX ⟨rfl, rfl⟩ rfl (p_assign hX.st rfl rfl) ?_; clear hX; intro a w hX))
  refine x_end ?_
  refine q_then ?_
  refine wpIn_seq ?_
  refine c_region ?_
  refine xl_cons ?_; ((refine y_pure (d := 10) hX ⟨rfl, rfl⟩ rfl (p_move hX.st rfl rfl) ?_; clear hX; intro a w hX))
  refine xl_cons ?_; ((refine y_pure (d := 11) hX ⟨rfl, rfl⟩ rfl (p_move hX.st rfl rfl) ?_; clear hX; intro a w hX))
  refine xl_cons ?_; ((refine y_pure (d := 12) hX ⟨rfl, rfl⟩ rfl (p_shr hX.st rfl rfl rfl rfl) ?_; clear hX; intro a w hX))
  refine xl_cons ?_; (first | (refine y_pure (d := 13) hX ⟨rfl, rfl⟩ rfl (p_conv hX.st rfl tab_ok rfl rfl rfl rfl (in_i64 (by omega) (by omega))) ?_; clear hX; intro a w hX) | (refine y_pure (d := 13) hX ⟨rfl, rfl⟩ rfl (p_conv hX.st rfl tab_ok rfl rfl rfl rfl rfl) ?_; clear hX; intro a w hX))
  refine xl_cons ?_; ((refine y_pure (d := 14) hX ⟨rfl, rfl⟩ rfl (p_move hX.st rfl rfl) ?_; clear hX; intro a w hX))
  refine xl_cons ?_; (first | (refine y_pure (d := 15) hX ⟨rfl, rfl⟩ rfl (p_conv hX.st rfl tab_ok rfl rfl rfl rfl (in_i64 (by omega) (by omega))) ?_; clear hX; intro a w hX) | (refine y_pure (d := 15) hX ⟨rfl, rfl⟩ rfl (p_conv hX.st rfl tab_ok rfl rfl rfl rfl rfl) ?_; clear hX; intro a w hX))
  refine xl_cons ?_; (refine y_buildSlice (d := 16) hX rfl ⟨rfl, rfl⟩ rfl tab_ok rfl rfl rfl rfl rfl (xs := [.tmp 13, .tmp 15]) rfl rfl rfl rfl rfl ?_; clear hX; intro b a w hX)
  refine xl_cons ?_; (first | (refine y_append_cel (d := 17) hX rfl ⟨rfl, rfl⟩ rfl tab_ok rfl rfl rfl rfl rfl rfl rfl foc1 foc0 rfl rfl (by first | omega | (simp only [ti5, ti3, ti53]; omega)) (by first | omega | (simp only [ti5, ti3, ti53]; omega)) ?_; clear hX; intro A c a w hX) | (refine y_append_cel (d := 17) hX rfl ⟨rfl, rfl⟩ rfl tab_ok rfl rfl rfl rfl rfl rfl rfl foc2 foc0 rfl rfl (by first | omega | (simp only [ti5, ti3, ti53]; omega)) (by first | omega | (simp only [ti5, ti3, ti53]; omega)) ?_; clear hX; intro A c a w hX) | (refine y_append_cel (d := 17) hX rfl ⟨rfl, rfl⟩ rfl tab_ok rfl rfl rfl rfl rfl rfl rfl foc3 foc0 rfl rfl (by first | omega | (simp only [ti5, ti3, ti53]; omega)) (by first | omega | (simp only [ti5, ti3, ti53]; omega)) ?_; clear hX; intro A c a w hX) | (refine y_append_cel (d := 17) hX rfl ⟨rfl, rfl⟩ rfl tab_ok rfl rfl rfl rfl rfl rfl rfl foc4 foc0 rfl rfl (by first | omega | (simp only [ti5, ti3, ti53]; omega)) (by first | omega | (simp only [ti5, ti3, ti53]; omega)) ?_; clear hX; intro A c a w hX) | (refine y_append_cel (d := 17) hX rfl ⟨rfl, rfl⟩ rfl tab_ok rfl rfl rfl rfl rfl rfl rfl foc0 foc1 rfl rfl (by first | omega | (simp only [ti5, ti3, ti53]; omega)) (by first | omega | (simp only [ti5, ti3, ti53]; omega)) ?_; clear hX; intro A c a w hX) | (refine y_append_cel (d := 17) hX rfl ⟨rfl, rfl⟩ rfl tab_ok rfl rfl rfl rfl rfl rfl rfl foc2 foc1 rfl rfl (by first | omega | (simp only [ti5, ti3, ti53]; omega)) (by first | omega | (simp only [ti5, ti3, ti53]; omega)) ?_; clear hX; intro A c a w hX) | (refine y_append_cel (d := 17) hX rfl ⟨rfl, rfl⟩ rfl tab_ok rfl rfl rfl rfl rfl rfl rfl foc3 foc1 rfl rfl (by first | omega | (simp only [ti5, ti3, ti53]; omega)) (by first | omega | (simp only [ti5, ti3, ti53]; omega)) ?_; clear hX; intro A c a w hX) | (refine y_append_cel (d := 17) hX rfl ⟨rfl, rfl⟩ rfl tab_ok rfl rfl rfl rfl rfl rfl rfl foc4 foc1 rfl rfl (by first | omega | (simp only [ti5, ti3, ti53]; omega)) (by first | omega | (simp only [ti5, ti3, ti53]; omega)) ?_; clear hX; intro A c a w hX) | (refine y_append_cel (d := 17) hX rfl ⟨rfl, rfl⟩ rfl tab_ok rfl rfl rfl rfl rfl rfl rfl foc0 foc2 rfl rfl (by first | omega | (simp only [ti5, ti3, ti53]; omega)) (by first | omega | (simp only [ti5, ti3, ti53]; omega)) ?_; clear hX; intro A c a w hX) | (refine y_append_cel (d := 17) hX rfl ⟨rfl, rfl⟩ rfl tab_ok rfl rfl rfl rfl rfl rfl rfl foc1 foc2 rfl rfl (by first | omega | (simp only [ti5, ti3, ti53]; omega)) (by first | omega | (simp only [ti5, ti3, ti53]; omega)) ?_; clear hX; intro A c a w hX) | (refine y_append_cel (d := 17) hX rfl ⟨rfl, rfl⟩ rfl tab_ok rfl rfl rfl rfl rfl rfl rfl foc3 foc2 rfl rfl (by first | omega | (simp only [ti5, ti3, ti53]; omega)) (by first | omega | (simp only [ti5, ti3, ti53]; omega)) ?_; clear hX; intro A c a w hX) | (refine y_append_cel (d := 17) hX rfl ⟨rfl, rfl⟩ rfl tab_ok rfl rfl rfl rfl rfl rfl rfl foc4 foc2 rfl rfl (by first | omega | (simp only [ti5, ti3, ti53]; omega)) (by first | omega | (simp only [ti5, ti3, ti53]; omega)) ?_; clear hX; intro A c a w hX))
  refine xl_cons ?_; ((refine y_pure (d := 4) hX ⟨rfl, rfl⟩ rfl (p_assign hX.st rfl rfl) ?_; clear hX; intro a w hX))
  refine x_end ?_
  refine q_then ?_
  refine c_ret ?_
  refine f_ret1 hX Try.results32 rfl ⟨A, c, rfl, SH.row_eq (hX.sh.sel (Sel.cons tk1 selD1)) rfl ?_⟩
  rw [List.map_append]
  congr 1
  refine list2 (byteV_ofNat _ (by omega) _ ?_) (byteV_ofNat _ (by omega) _ ?_)
  · rw [IntKind.wrap_u8, show (2 : Int) ^ (min 8 IntKind.u16.bits) = 256 from rfl, Int.fdiv_eq_ediv_of_nonneg _ (by omega)]
    omega
  · rw [IntKind.wrap_u8]
    omega
end Go.Proofs.Ytjemilhbipaepaa
