/- tapes.read. -/
import Derived.Test.YtjemilhbipaepaaS12
namespace Go.Proofs.Ytjemilhbipaepaa
open Go.RowKit

theorem read_step (l : List UInt8) (p f : Nat) (acc : List Op) (hp : p < l.length) (m : Nat) (hm : m = (l.getD p 0).toNat) :
    readF (f + 1) (l.drop p) acc = if 32 < m then (acc, false, 4) else if l.length < p + 3 + 3 * m then (acc, false, 4)
      else if crc ((l.drop p).take (1 + 3 * m)) ≠ (l.getD (p + 1 + 3 * m) 0).toNat * 256 + (l.getD (p + 1 + 3 * m + 1) 0).toNat then (acc, false, 10)
      else if m = 0 then (if p + 3 < l.length then (acc, false, 4) else (acc, false, 0))
      else if (List.range m).all (okAt (l.drop (p + 1))) then
        (if 4096 < acc.length + m then (acc, false, 3) else readF f (l.drop (p + 3 + 3 * m)) (acc ++ (List.range m).map (opAt (l.drop (p + 1)))))
      else (acc, false, 4) := by
  have h0 : (l.drop p).getD 0 0 = l.getD p 0 := by simp [List.getD_eq_getElem?_getD]
  have h1 : (l.drop p).length = l.length - p := by simp
  have h2 : sumAt ((l.drop p).drop (1 + 3 * m)) = (l.getD (p + 1 + 3 * m) 0).toNat * 256 + (l.getD (p + 1 + 3 * m + 1) 0).toNat := by
    simp only [sumAt, List.drop_drop, List.getD_eq_getElem?_getD, List.getElem?_drop]
    rw [show p + (1 + 3 * m) + 0 = p + 1 + 3 * m by omega, show p + (1 + 3 * m) + 1 = p + 1 + 3 * m + 1 by omega]
  rw [readF, h0, ← hm, h2, h1, List.drop_drop, List.drop_drop, show p + (3 + 3 * m) = p + 3 + 3 * m by omega, if_neg (by omega)]
  split
  · rfl
  · by_cases h3 : l.length < p + 3 + 3 * m
    · rw [if_pos h3, if_pos (by omega)]
    · rw [if_neg h3, if_neg (by omega)]
      split
      · rfl
      · split
        · by_cases h4 : p + 3 < l.length
          · rw [if_pos h4, if_pos (by omega)]
          · rw [if_neg h4, if_neg (by omega)]
        · rfl
def takeS (A : Option Addr) (n p c k : Nat) : Value := if p + k ≤ n then .slice (cutA A p 1 c) k (c - p) else .slice none 0 0
def takeP (n p k : Nat) : Nat := if p + k ≤ n then p + k else p
theorem take_any (k : Nat) (n p c : Nat) (A : Option Addr) (b1 b5 : Nat) (z zp : Int) (hz : z = k) (hzp : zp = p) (hn : n ≤ 4611686018427387904) (hk : k ≤ 1000) (hp : p ≤ n) (hc : n ≤ c) (B : Nat → Prop) (w0 : World) (H : List Ck) (W : World) (hH : SH B w0 (.cel b5 [.int .i64 zp] 3 :: .cel b1 [.slice A n c] 22 :: H) W) :
    Ret Try.prog 35 #[.int .i64 z, .pointer (some ⟨b1, 0, none⟩), .pointer (some ⟨b5, 0, none⟩)] W fun v w' => v = .tuple #[takeS A n p c k, .bool (decide (p + k ≤ n))] ∧ SH B w0 (.cel b5 [.int .i64 (takeP n p k)] 3 :: .cel b1 [.slice A n c] 22 :: H) w' := by
  subst hz; subst hzp
  unfold takeS takeP
  by_cases h : p + k ≤ n
  · rw [if_pos h, if_pos h, decide_eq_true h, Int.natCast_add]
    exact take_yes k n p c A b1 b5 hn hk hp hc h B w0 H W hH
  · rw [if_neg h, if_neg h, decide_eq_false h]
    exact take_no k n p c A b1 b5 hn hk hp (by omega) B w0 H W hH
theorem takeP_le (n p k : Nat) (h : p ≤ n) : takeP n p k ≤ n := by unfold takeP; split <;> omega
theorem chunkV36_eq (bb q m i : Nat) (h : i * 3 < 3 * m) : chunkV36 (some ⟨bb, q, none⟩) (3 * m) i = .slice (some ⟨bb, q + i * 3 * 1, none⟩) 3 3 := by
  unfold chunkV36 cutA
  rw [show min 3 (3 * m - i * 3) = 3 by omega, if_neg (by omega), Option.map_some, Addr.add_lit]
theorem all_false {m : Nat} {f : Nat → Bool} {i : Nat} (hi : i < m) (h : f i = false) : (List.range m).all f = false := by
  rw [List.all_eq_false]
  exact ⟨i, List.mem_range.2 hi, by rw [h]; simp⟩
theorem sum_bits (x y : Nat) (hx : x < 256) (hy : y < 256) : bits .or .u16 (IntKind.u16.wrap (IntKind.u16.wrap (x : Int) * 2 ^ (min 8 IntKind.u16.bits))) (IntKind.u16.wrap (y : Int)) = ((x * 256 + y : Nat) : Int) := by
  have e : IntKind.u16.wrap (IntKind.u16.wrap (x : Int) * 2 ^ (min 8 IntKind.u16.bits)) = ((x * 256 : Nat) : Int) := by
    rw [IntKind.wrap_u16, IntKind.wrap_u16, show (2 : Int) ^ (min 8 IntKind.u16.bits) = 256 from rfl]; omega
  have e2 : IntKind.u16.wrap (y : Int) = ((y : Nat) : Int) := by rw [IntKind.wrap_u16]; omega
  rw [e, e2, u16_or_nat _ _ (by omega) (by omega)]
  have h := Nat.shiftLeft_add_eq_or_of_lt (i := 8) (b := y) (by omega) x
  rw [Nat.shiftLeft_eq] at h
  rw [← h]
def mk (k : Nat) : Ck := .obj k (.deferred (some []))
theorem read_ret {L : List (Nat × Value)} {W : World} {H : List Ck} {a : Act} {w : World} (ks : List Nat) {K2 K3 K4 : Ck → List Ck} {b2 b3 b4 c' : Nat} {A' : Option Addr} {o : Bool} {e : Int} {l : List UInt8} {l' : List Op} (hX : Sym 119 (ks.map markOf) L (fun k => k < W.heap.size) W (H ++ ks.map mk) a w)
    (hs2 : L.lookup 2 = some (.pointer (some ⟨b2, 0, none⟩))) (hs3 : L.lookup 3 = some (.pointer (some ⟨b3, 0, none⟩))) (hs4 : L.lookup 4 = some (.pointer (some ⟨b4, 0, none⟩)))
    (f2 : Foc H (.cel b2 [.slice A' l'.length c'] 30) K2) (f3 : Foc H (.cel b3 [.bool o] 4) K3) (f4 : Foc H (.cel b4 [.int .i64 e] 34) K4) (hrow : Sel H [.row A' c' 53 6 l'.length (opsC l')]) (hres : readAll l = (l', o, e)) :
    bodyPostM Fence.wide 0 Try.prog Try.f27 (fun e w' => ∃ v, e = .returned v ∧ ∃ x : Option Addr × Nat, v = .tuple #[.slice x.1 (readAll l).1.length x.2, .bool (readAll l).2.1, .int .i64 (readAll l).2.2] ∧ True ∧ SF W [.row x.1 x.2 53 6 (readAll l).1.length (opsC (readAll l).1)] w') .ret a w := by
  rw [hres]
  have hX' : Sym 119 (ks.map markOf) L (fun k => k < W.heap.size) W (ks.map mk ++ H) a w := ⟨hX.st, hX.sh.perm List.perm_append_comm⟩
  exact f_retM ks hX' (res_cell3 hX.st Try.results27 tab_ok rfl rfl rfl rfl rfl rfl hs2 hs3 hs4 f2 f3 f4) fun w h => ⟨(A', c'), rfl, trivial, h.sel hrow⟩
structure RS where
  p : Nat
  l : List Op
  A : Option Addr
  c : Nat
  ks : List Nat
  f : Nat
set_option maxHeartbeats 2000000 in
theorem tapes_read (A : Option Addr) (c : Nat) (l : List UInt8) (hl : l.length ≤ 1000000) (hcc : l.length ≤ c) (hc2 : c ≤ 9223372036854775807) (W : World) (hR : Reads W A l.length 1 (l.map byteV)) :
    Ret Try.prog 27 #[.slice A l.length c] W fun v w' => ∃ x : Option Addr × Nat, v = .tuple #[.slice x.1 (readAll l).1.length x.2, .bool (readAll l).2.1, .int .i64 (readAll l).2.2] ∧ True ∧ SF W [.row x.1 x.2 53 6 (readAll l).1.length (opsC (readAll l).1)] w' := by
  refine f_startM (vs := [.slice A l.length c]) [(0, .slice A l.length c)] (SH.start W) Try.func27 rfl Try.ntmps27 rfl rfl ?_
  intro a hX
  refine wpIn_seq ?_
  refine c_region ?_
  refine xl_cons ?_; (first | (refine y_box_agg (d := 1) hX rfl ⟨rfl, rfl⟩ rfl rfl ?_; clear hX; intro b1 a w hX) | (refine y_box_one (d := 1) hX rfl ⟨rfl, rfl⟩ rfl rfl rfl ?_; clear hX; intro b1 a w hX))
  refine xl_cons ?_; (first | (refine y_alloc_agg (d := 2) hX rfl ⟨rfl, rfl⟩ rfl tab_ok rfl rfl ?_; clear hX; intro b2 a w hX) | (refine y_alloc_one (d := 2) hX rfl ⟨rfl, rfl⟩ rfl tab_ok rfl rfl rfl ?_; clear hX; intro b2 a w hX))
  refine xl_cons ?_; (first | (refine y_alloc_agg (d := 3) hX rfl ⟨rfl, rfl⟩ rfl tab_ok rfl rfl ?_; clear hX; intro b3 a w hX) | (refine y_alloc_one (d := 3) hX rfl ⟨rfl, rfl⟩ rfl tab_ok rfl rfl rfl ?_; clear hX; intro b3 a w hX))
  refine xl_cons ?_; (first | (refine y_alloc_agg (d := 4) hX rfl ⟨rfl, rfl⟩ rfl tab_ok rfl rfl ?_; clear hX; intro b4 a w hX) | (refine y_alloc_one (d := 4) hX rfl ⟨rfl, rfl⟩ rfl tab_ok rfl rfl rfl ?_; clear hX; intro b4 a w hX))
  refine x_end ?_
  refine q_then ?_
  refine wpIn_seq ?_
  refine c_region ?_
  refine xl_cons ?_; (first | (refine y_alloc_agg (d := 5) hX rfl ⟨rfl, rfl⟩ rfl tab_ok rfl rfl ?_; clear hX; intro b5 a w hX) | (refine y_alloc_one (d := 5) hX rfl ⟨rfl, rfl⟩ rfl tab_ok rfl rfl rfl ?_; clear hX; intro b5 a w hX))
  refine xl_cons ?_; (refine y_store hX rfl ⟨rfl, rfl⟩ tab_ok rfl rfl rfl rfl rfl foc0 (by repeat (first | exact SetAt.zero | apply SetAt.succ)) ?_; clear hX; intro a w hX)
  refine x_end ?_
  refine q_then ?_
  refine wpIn_seq ?_
  refine c_region ?_
  refine xl_cons ?_; ((refine y_pure (d := 19) hX ⟨rfl, rfl⟩ rfl (p_makeFunc hX.st rfl rfl) ?_; clear hX; intro a w hX))
  refine xl_cons ?_; ((refine y_pure (d := 6) hX ⟨rfl, rfl⟩ rfl (p_assign hX.st rfl rfl) ?_; clear hX; intro a w hX))
  refine x_end ?_
  refine q_then ?_
  refine wpIn_seq ?_
  refine wpIn_seq ?_
  have hX : Sym 119 _ _ _ _ _ _ _ := ⟨hX.st, (hX.sh.sel (H' := [.cel b5 [.int .i64 0] 3, .cel b1 [.slice A l.length c] 22, .cel b2 [.slice none 0 0] 30, .cel b3 [.bool false] 4, .cel b4 [.int .i64 0] 34]) (by with_reducible (repeat (first | exact Sel.refl _ | exact Sel.nil | refine Sel.cons tk0 ?_ | refine Sel.cons tk1 ?_ | refine Sel.cons tk2 ?_ | refine Sel.cons tk3 ?_ | refine Sel.cons tk4 ?_ | refine Sel.cons tk5 ?_ | refine Sel.cons tk6 ?_ | refine Sel.cons tk7 ?_ | refine Sel.cons tk8 ?_ | refine Sel.cons tk9 ?_ | refine Sel.cons tk10 ?_ | refine Sel.cons tk11 ?_ | refine Sel.cons tk12 ?_)))).nilRow 53 6⟩
  refine c_region ?_
  refine xl_cons ?_; ((refine y_pure (d := 21) hX ⟨rfl, rfl⟩ rfl (p_move hX.st rfl rfl) ?_; clear hX; intro a w hX))
  refine xl_cons ?_; (refine y_callV (d := 22) hX rfl ⟨rfl, rfl⟩ rfl (lb := [.pointer (some ⟨b1, 0, none⟩), .pointer (some ⟨b5, 0, none⟩)]) rfl Try.func35 rfl rfl rfl (take_any 4 l.length 0 c A b1 b5 _ _ rfl rfl (by omega) (by omega) (by omega) hcc _ _ _ _ (hX.sh.sel (Sel.cons tk1 (Sel.cons tk1 (Sel.refl _))))) ?_; rintro _ a w ⟨rfl, hw⟩ hS; have hX := (⟨hS, hw⟩ : Sym 119 _ _ _ _ _ a w); clear hS hw)
  refine xl_cons ?_; ((refine y_pure (d := 20) hX ⟨rfl, rfl⟩ rfl (p_move hX.st rfl rfl) ?_; clear hX; intro a w hX))
  refine xl_cons ?_; ((refine y_pure (d := 23) hX ⟨rfl, rfl⟩ rfl (p_extract hX.st rfl rfl rfl) ?_; clear hX; intro a w hX))
  refine xl_cons ?_; ((refine y_pure (d := 24) hX ⟨rfl, rfl⟩ rfl (p_extract hX.st rfl rfl rfl) ?_; clear hX; intro a w hX))
  refine xl_cons ?_; ((refine y_pure (d := 7) hX ⟨rfl, rfl⟩ rfl (p_assign hX.st rfl rfl) ?_; clear hX; intro a w hX))
  refine xl_cons ?_; ((refine y_pure (d := 8) hX ⟨rfl, rfl⟩ rfl (p_assign hX.st rfl rfl) ?_; clear hX; intro a w hX))
  refine x_end ?_
  refine q_then ?_
  refine wpIn_seq ?_
  refine c_region ?_
  refine xl_cons ?_; ((refine y_pure (d := 25) hX ⟨rfl, rfl⟩ rfl (p_move hX.st rfl rfl) ?_; clear hX; intro a w hX))
  refine xl_cons ?_; ((refine y_pure (d := 26) hX ⟨rfl, rfl⟩ rfl (p_not hX.st rfl rfl) ?_; clear hX; intro a w hX))
  refine xl_cons ?_; ((refine y_pure (d := 27) hX ⟨rfl, rfl⟩ rfl (p_move hX.st rfl rfl) ?_; clear hX; intro a w hX))
  all_goals (refine xl_cons ?_; (first | (refine y_guard0 hX rfl rfl rfl (by first | with_reducible rfl | with_reducible assumption | exact beq_self_eq_true _ | exact bne_self_eq_false _ | (show _ = true; with_reducible first | rfl | assumption) | (show _ = false; with_reducible first | rfl | assumption) | decide) rfl rfl ?_; clear hX; intro a w hX) | ((refine y_guard1 hX rfl rfl rfl (by first | with_reducible rfl | with_reducible assumption | exact beq_self_eq_true _ | exact bne_self_eq_false _ | (show _ = true; with_reducible first | rfl | assumption) | (show _ = false; with_reducible first | rfl | assumption) | decide) ?_); ((refine y_pure (d := 28) hX ⟨rfl, rfl⟩ rfl (p_move hX.st rfl rfl) ?_; clear hX; intro a w hX))) | (refine y_guardU hX rfl rfl rfl rfl rfl ?_; clear hX; intro a w hX) | ((refine y_gsplit hX rfl rfl rfl ?_ ?_) <;> intro hg <;> first | (refine y_guard0 hX rfl rfl rfl (by first | with_reducible rfl | with_reducible assumption | exact beq_self_eq_true _ | exact bne_self_eq_false _ | (show _ = true; with_reducible first | rfl | assumption) | (show _ = false; with_reducible first | rfl | assumption) | decide) rfl rfl ?_; clear hX; intro a w hX) | ((refine y_guard1 hX rfl rfl rfl (by first | with_reducible rfl | with_reducible assumption | exact beq_self_eq_true _ | exact bne_self_eq_false _ | (show _ = true; with_reducible first | rfl | assumption) | (show _ = false; with_reducible first | rfl | assumption) | decide) ?_); ((refine y_pure (d := 28) hX ⟨rfl, rfl⟩ rfl (p_move hX.st rfl rfl) ?_; clear hX; intro a w hX))))))
  all_goals (refine xl_cons ?_; (first | (refine y_guard0 hX rfl rfl rfl (by first | with_reducible rfl | with_reducible assumption | exact beq_self_eq_true _ | exact bne_self_eq_false _ | (show _ = true; with_reducible first | rfl | assumption) | (show _ = false; with_reducible first | rfl | assumption) | decide) rfl rfl ?_; clear hX; intro a w hX) | ((refine y_guard1 hX rfl rfl rfl (by first | with_reducible rfl | with_reducible assumption | exact beq_self_eq_true _ | exact bne_self_eq_false _ | (show _ = true; with_reducible first | rfl | assumption) | (show _ = false; with_reducible first | rfl | assumption) | decide) ?_); (have h4 : 4 ≤ l.length := (by simpa using hg); rw [show takeS A l.length 0 c 4 = .slice (cutA A 0 1 c) 4 (c - 0) from if_pos (by omega)] at hX; have hR4 := hR.cutB (a := 0) (b := 4) (c := c) (by omega) h4 (by omega); refine y_read (d := 29) hX ⟨rfl, rfl⟩ rfl (fun w hH => v_str (l := l.take 4) hX.st rfl tab_ok rfl rfl rfl rfl rfl rfl rfl w (Reads.old hH hR4)) ?_; clear hX; intro a w hX)) | (refine y_guardU hX rfl rfl rfl rfl rfl ?_; clear hX; intro a w hX) | ((refine y_gsplit hX rfl rfl rfl ?_ ?_) <;> intro hg <;> first | (refine y_guard0 hX rfl rfl rfl (by first | with_reducible rfl | with_reducible assumption | exact beq_self_eq_true _ | exact bne_self_eq_false _ | (show _ = true; with_reducible first | rfl | assumption) | (show _ = false; with_reducible first | rfl | assumption) | decide) rfl rfl ?_; clear hX; intro a w hX) | ((refine y_guard1 hX rfl rfl rfl (by first | with_reducible rfl | with_reducible assumption | exact beq_self_eq_true _ | exact bne_self_eq_false _ | (show _ = true; with_reducible first | rfl | assumption) | (show _ = false; with_reducible first | rfl | assumption) | decide) ?_); (have h4 : 4 ≤ l.length := (by simpa using hg); rw [show takeS A l.length 0 c 4 = .slice (cutA A 0 1 c) 4 (c - 0) from if_pos (by omega)] at hX; have hR4 := hR.cutB (a := 0) (b := 4) (c := c) (by omega) h4 (by omega); refine y_read (d := 29) hX ⟨rfl, rfl⟩ rfl (fun w hH => v_str (l := l.take 4) hX.st rfl tab_ok rfl rfl rfl rfl rfl rfl rfl w (Reads.old hH hR4)) ?_; clear hX; intro a w hX)))))
  all_goals (refine xl_cons ?_; (first | (refine y_guard0 hX rfl rfl rfl (by first | with_reducible rfl | with_reducible assumption | exact beq_self_eq_true _ | exact bne_self_eq_false _ | (show _ = true; with_reducible first | rfl | assumption) | (show _ = false; with_reducible first | rfl | assumption) | decide) rfl rfl ?_; clear hX; intro a w hX) | ((refine y_guard1 hX rfl rfl rfl (by first | with_reducible rfl | with_reducible assumption | exact beq_self_eq_true _ | exact bne_self_eq_false _ | (show _ = true; with_reducible first | rfl | assumption) | (show _ = false; with_reducible first | rfl | assumption) | decide) ?_); ((refine y_pure (d := 30) hX ⟨rfl, rfl⟩ rfl (p_neq_S hX.st rfl rfl rfl) ?_; clear hX; intro a w hX))) | (refine y_guardU hX rfl rfl rfl rfl rfl ?_; clear hX; intro a w hX) | ((refine y_gsplit hX rfl rfl rfl ?_ ?_) <;> intro hg <;> first | (refine y_guard0 hX rfl rfl rfl (by first | with_reducible rfl | with_reducible assumption | exact beq_self_eq_true _ | exact bne_self_eq_false _ | (show _ = true; with_reducible first | rfl | assumption) | (show _ = false; with_reducible first | rfl | assumption) | decide) rfl rfl ?_; clear hX; intro a w hX) | ((refine y_guard1 hX rfl rfl rfl (by first | with_reducible rfl | with_reducible assumption | exact beq_self_eq_true _ | exact bne_self_eq_false _ | (show _ = true; with_reducible first | rfl | assumption) | (show _ = false; with_reducible first | rfl | assumption) | decide) ?_); ((refine y_pure (d := 30) hX ⟨rfl, rfl⟩ rfl (p_neq_S hX.st rfl rfl rfl) ?_; clear hX; intro a w hX))))))
  all_goals (refine xl_cons ?_; (first | (refine y_pure (d := 31) hX ⟨rfl, rfl⟩ rfl (p_pick1 hX.st rfl rfl (by first | with_reducible rfl | with_reducible assumption | exact beq_self_eq_true _ | exact bne_self_eq_false _ | (show _ = true; with_reducible first | rfl | assumption) | (show _ = false; with_reducible first | rfl | assumption) | decide) rfl) ?_; clear hX; intro a w hX) | (refine y_pure (d := 31) hX ⟨rfl, rfl⟩ rfl (p_pick0 hX.st rfl rfl (by first | with_reducible rfl | with_reducible assumption | exact beq_self_eq_true _ | exact bne_self_eq_false _ | (show _ = true; with_reducible first | rfl | assumption) | (show _ = false; with_reducible first | rfl | assumption) | decide) rfl) ?_; clear hX; intro a w hX)))
  all_goals
    refine x_end ?_
    refine q_then ?_
    refine c_cond hX rfl (fun hc => ?_) (fun hc => ?_)
    ·
      try (first | cases hc | exact (contra_tf hc (by with_reducible assumption)).elim | exact (contra_tf (by with_reducible assumption) hc).elim | exact absurd hc (by decide))
      all_goals
        refine wpIn_seq ?_
        refine c_region ?_
        refine xl_cons ?_; (first | (refine y_store hX rfl ⟨rfl, rfl⟩ tab_ok rfl rfl rfl rfl rfl foc0 (by repeat (first | exact SetAt.zero | apply SetAt.succ)) ?_; clear hX; intro a w hX) | (refine y_store hX rfl ⟨rfl, rfl⟩ tab_ok rfl rfl rfl rfl rfl foc1 (by repeat (first | exact SetAt.zero | apply SetAt.succ)) ?_; clear hX; intro a w hX) | (refine y_store hX rfl ⟨rfl, rfl⟩ tab_ok rfl rfl rfl rfl rfl foc2 (by repeat (first | exact SetAt.zero | apply SetAt.succ)) ?_; clear hX; intro a w hX) | (refine y_store hX rfl ⟨rfl, rfl⟩ tab_ok rfl rfl rfl rfl rfl foc3 (by repeat (first | exact SetAt.zero | apply SetAt.succ)) ?_; clear hX; intro a w hX) | (refine y_store hX rfl ⟨rfl, rfl⟩ tab_ok rfl rfl rfl rfl rfl foc4 (by repeat (first | exact SetAt.zero | apply SetAt.succ)) ?_; clear hX; intro a w hX) | (refine y_store hX rfl ⟨rfl, rfl⟩ tab_ok rfl rfl rfl rfl rfl foc5 (by repeat (first | exact SetAt.zero | apply SetAt.succ)) ?_; clear hX; intro a w hX) | (refine y_store hX rfl ⟨rfl, rfl⟩ tab_ok rfl rfl rfl rfl rfl foc6 (by repeat (first | exact SetAt.zero | apply SetAt.succ)) ?_; clear hX; intro a w hX) | (refine y_store hX rfl ⟨rfl, rfl⟩ tab_ok rfl rfl rfl rfl rfl foc7 (by repeat (first | exact SetAt.zero | apply SetAt.succ)) ?_; clear hX; intro a w hX) | (refine y_store hX rfl ⟨rfl, rfl⟩ tab_ok rfl rfl rfl rfl rfl foc8 (by repeat (first | exact SetAt.zero | apply SetAt.succ)) ?_; clear hX; intro a w hX) | (refine y_store hX rfl ⟨rfl, rfl⟩ tab_ok rfl rfl rfl rfl rfl foc9 (by repeat (first | exact SetAt.zero | apply SetAt.succ)) ?_; clear hX; intro a w hX) | (refine y_store hX rfl ⟨rfl, rfl⟩ tab_ok rfl rfl rfl rfl rfl foc10 (by repeat (first | exact SetAt.zero | apply SetAt.succ)) ?_; clear hX; intro a w hX) | (refine y_store hX rfl ⟨rfl, rfl⟩ tab_ok rfl rfl rfl rfl rfl foc11 (by repeat (first | exact SetAt.zero | apply SetAt.succ)) ?_; clear hX; intro a w hX) | (refine y_store hX rfl ⟨rfl, rfl⟩ tab_ok rfl rfl rfl rfl rfl foc12 (by repeat (first | exact SetAt.zero | apply SetAt.succ)) ?_; clear hX; intro a w hX) | (refine y_store_agg hX rfl ⟨rfl, rfl⟩ tab_ok rfl rfl rfl rfl foc0 rfl rfl ?_; clear hX; intro a w hX) | (refine y_store_agg hX rfl ⟨rfl, rfl⟩ tab_ok rfl rfl rfl rfl foc1 rfl rfl ?_; clear hX; intro a w hX) | (refine y_store_agg hX rfl ⟨rfl, rfl⟩ tab_ok rfl rfl rfl rfl foc2 rfl rfl ?_; clear hX; intro a w hX) | (refine y_store_agg hX rfl ⟨rfl, rfl⟩ tab_ok rfl rfl rfl rfl foc3 rfl rfl ?_; clear hX; intro a w hX) | (refine y_store_agg hX rfl ⟨rfl, rfl⟩ tab_ok rfl rfl rfl rfl foc4 rfl rfl ?_; clear hX; intro a w hX) | (refine y_store_agg hX rfl ⟨rfl, rfl⟩ tab_ok rfl rfl rfl rfl foc5 rfl rfl ?_; clear hX; intro a w hX) | (refine y_store_agg hX rfl ⟨rfl, rfl⟩ tab_ok rfl rfl rfl rfl foc6 rfl rfl ?_; clear hX; intro a w hX) | (refine y_store_agg hX rfl ⟨rfl, rfl⟩ tab_ok rfl rfl rfl rfl foc7 rfl rfl ?_; clear hX; intro a w hX) | (refine y_store_agg hX rfl ⟨rfl, rfl⟩ tab_ok rfl rfl rfl rfl foc8 rfl rfl ?_; clear hX; intro a w hX) | (refine y_store_agg hX rfl ⟨rfl, rfl⟩ tab_ok rfl rfl rfl rfl foc9 rfl rfl ?_; clear hX; intro a w hX) | (refine y_store_agg hX rfl ⟨rfl, rfl⟩ tab_ok rfl rfl rfl rfl foc10 rfl rfl ?_; clear hX; intro a w hX) | (refine y_store_agg hX rfl ⟨rfl, rfl⟩ tab_ok rfl rfl rfl rfl foc11 rfl rfl ?_; clear hX; intro a w hX) | (refine y_store_agg hX rfl ⟨rfl, rfl⟩ tab_ok rfl rfl rfl rfl foc12 rfl rfl ?_; clear hX; intro a w hX))
        refine xl_cons ?_; (first | (refine y_store hX rfl ⟨rfl, rfl⟩ tab_ok rfl rfl rfl rfl rfl foc0 (by repeat (first | exact SetAt.zero | apply SetAt.succ)) ?_; clear hX; intro a w hX) | (refine y_store hX rfl ⟨rfl, rfl⟩ tab_ok rfl rfl rfl rfl rfl foc1 (by repeat (first | exact SetAt.zero | apply SetAt.succ)) ?_; clear hX; intro a w hX) | (refine y_store hX rfl ⟨rfl, rfl⟩ tab_ok rfl rfl rfl rfl rfl foc2 (by repeat (first | exact SetAt.zero | apply SetAt.succ)) ?_; clear hX; intro a w hX) | (refine y_store hX rfl ⟨rfl, rfl⟩ tab_ok rfl rfl rfl rfl rfl foc3 (by repeat (first | exact SetAt.zero | apply SetAt.succ)) ?_; clear hX; intro a w hX) | (refine y_store hX rfl ⟨rfl, rfl⟩ tab_ok rfl rfl rfl rfl rfl foc4 (by repeat (first | exact SetAt.zero | apply SetAt.succ)) ?_; clear hX; intro a w hX) | (refine y_store hX rfl ⟨rfl, rfl⟩ tab_ok rfl rfl rfl rfl rfl foc5 (by repeat (first | exact SetAt.zero | apply SetAt.succ)) ?_; clear hX; intro a w hX) | (refine y_store hX rfl ⟨rfl, rfl⟩ tab_ok rfl rfl rfl rfl rfl foc6 (by repeat (first | exact SetAt.zero | apply SetAt.succ)) ?_; clear hX; intro a w hX) | (refine y_store hX rfl ⟨rfl, rfl⟩ tab_ok rfl rfl rfl rfl rfl foc7 (by repeat (first | exact SetAt.zero | apply SetAt.succ)) ?_; clear hX; intro a w hX) | (refine y_store hX rfl ⟨rfl, rfl⟩ tab_ok rfl rfl rfl rfl rfl foc8 (by repeat (first | exact SetAt.zero | apply SetAt.succ)) ?_; clear hX; intro a w hX) | (refine y_store hX rfl ⟨rfl, rfl⟩ tab_ok rfl rfl rfl rfl rfl foc9 (by repeat (first | exact SetAt.zero | apply SetAt.succ)) ?_; clear hX; intro a w hX) | (refine y_store hX rfl ⟨rfl, rfl⟩ tab_ok rfl rfl rfl rfl rfl foc10 (by repeat (first | exact SetAt.zero | apply SetAt.succ)) ?_; clear hX; intro a w hX) | (refine y_store hX rfl ⟨rfl, rfl⟩ tab_ok rfl rfl rfl rfl rfl foc11 (by repeat (first | exact SetAt.zero | apply SetAt.succ)) ?_; clear hX; intro a w hX) | (refine y_store hX rfl ⟨rfl, rfl⟩ tab_ok rfl rfl rfl rfl rfl foc12 (by repeat (first | exact SetAt.zero | apply SetAt.succ)) ?_; clear hX; intro a w hX) | (refine y_store_agg hX rfl ⟨rfl, rfl⟩ tab_ok rfl rfl rfl rfl foc0 rfl rfl ?_; clear hX; intro a w hX) | (refine y_store_agg hX rfl ⟨rfl, rfl⟩ tab_ok rfl rfl rfl rfl foc1 rfl rfl ?_; clear hX; intro a w hX) | (refine y_store_agg hX rfl ⟨rfl, rfl⟩ tab_ok rfl rfl rfl rfl foc2 rfl rfl ?_; clear hX; intro a w hX) | (refine y_store_agg hX rfl ⟨rfl, rfl⟩ tab_ok rfl rfl rfl rfl foc3 rfl rfl ?_; clear hX; intro a w hX) | (refine y_store_agg hX rfl ⟨rfl, rfl⟩ tab_ok rfl rfl rfl rfl foc4 rfl rfl ?_; clear hX; intro a w hX) | (refine y_store_agg hX rfl ⟨rfl, rfl⟩ tab_ok rfl rfl rfl rfl foc5 rfl rfl ?_; clear hX; intro a w hX) | (refine y_store_agg hX rfl ⟨rfl, rfl⟩ tab_ok rfl rfl rfl rfl foc6 rfl rfl ?_; clear hX; intro a w hX) | (refine y_store_agg hX rfl ⟨rfl, rfl⟩ tab_ok rfl rfl rfl rfl foc7 rfl rfl ?_; clear hX; intro a w hX) | (refine y_store_agg hX rfl ⟨rfl, rfl⟩ tab_ok rfl rfl rfl rfl foc8 rfl rfl ?_; clear hX; intro a w hX) | (refine y_store_agg hX rfl ⟨rfl, rfl⟩ tab_ok rfl rfl rfl rfl foc9 rfl rfl ?_; clear hX; intro a w hX) | (refine y_store_agg hX rfl ⟨rfl, rfl⟩ tab_ok rfl rfl rfl rfl foc10 rfl rfl ?_; clear hX; intro a w hX) | (refine y_store_agg hX rfl ⟨rfl, rfl⟩ tab_ok rfl rfl rfl rfl foc11 rfl rfl ?_; clear hX; intro a w hX) | (refine y_store_agg hX rfl ⟨rfl, rfl⟩ tab_ok rfl rfl rfl rfl foc12 rfl rfl ?_; clear hX; intro a w hX))
        refine xl_cons ?_; (first | (refine y_store hX rfl ⟨rfl, rfl⟩ tab_ok rfl rfl rfl rfl rfl foc0 (by repeat (first | exact SetAt.zero | apply SetAt.succ)) ?_; clear hX; intro a w hX) | (refine y_store hX rfl ⟨rfl, rfl⟩ tab_ok rfl rfl rfl rfl rfl foc1 (by repeat (first | exact SetAt.zero | apply SetAt.succ)) ?_; clear hX; intro a w hX) | (refine y_store hX rfl ⟨rfl, rfl⟩ tab_ok rfl rfl rfl rfl rfl foc2 (by repeat (first | exact SetAt.zero | apply SetAt.succ)) ?_; clear hX; intro a w hX) | (refine y_store hX rfl ⟨rfl, rfl⟩ tab_ok rfl rfl rfl rfl rfl foc3 (by repeat (first | exact SetAt.zero | apply SetAt.succ)) ?_; clear hX; intro a w hX) | (refine y_store hX rfl ⟨rfl, rfl⟩ tab_ok rfl rfl rfl rfl rfl foc4 (by repeat (first | exact SetAt.zero | apply SetAt.succ)) ?_; clear hX; intro a w hX) | (refine y_store hX rfl ⟨rfl, rfl⟩ tab_ok rfl rfl rfl rfl rfl foc5 (by repeat (first | exact SetAt.zero | apply SetAt.succ)) ?_; clear hX; intro a w hX) | (refine y_store hX rfl ⟨rfl, rfl⟩ tab_ok rfl rfl rfl rfl rfl foc6 (by repeat (first | exact SetAt.zero | apply SetAt.succ)) ?_; clear hX; intro a w hX) | (refine y_store hX rfl ⟨rfl, rfl⟩ tab_ok rfl rfl rfl rfl rfl foc7 (by repeat (first | exact SetAt.zero | apply SetAt.succ)) ?_; clear hX; intro a w hX) | (refine y_store hX rfl ⟨rfl, rfl⟩ tab_ok rfl rfl rfl rfl rfl foc8 (by repeat (first | exact SetAt.zero | apply SetAt.succ)) ?_; clear hX; intro a w hX) | (refine y_store hX rfl ⟨rfl, rfl⟩ tab_ok rfl rfl rfl rfl rfl foc9 (by repeat (first | exact SetAt.zero | apply SetAt.succ)) ?_; clear hX; intro a w hX) | (refine y_store hX rfl ⟨rfl, rfl⟩ tab_ok rfl rfl rfl rfl rfl foc10 (by repeat (first | exact SetAt.zero | apply SetAt.succ)) ?_; clear hX; intro a w hX) | (refine y_store hX rfl ⟨rfl, rfl⟩ tab_ok rfl rfl rfl rfl rfl foc11 (by repeat (first | exact SetAt.zero | apply SetAt.succ)) ?_; clear hX; intro a w hX) | (refine y_store hX rfl ⟨rfl, rfl⟩ tab_ok rfl rfl rfl rfl rfl foc12 (by repeat (first | exact SetAt.zero | apply SetAt.succ)) ?_; clear hX; intro a w hX) | (refine y_store_agg hX rfl ⟨rfl, rfl⟩ tab_ok rfl rfl rfl rfl foc0 rfl rfl ?_; clear hX; intro a w hX) | (refine y_store_agg hX rfl ⟨rfl, rfl⟩ tab_ok rfl rfl rfl rfl foc1 rfl rfl ?_; clear hX; intro a w hX) | (refine y_store_agg hX rfl ⟨rfl, rfl⟩ tab_ok rfl rfl rfl rfl foc2 rfl rfl ?_; clear hX; intro a w hX) | (refine y_store_agg hX rfl ⟨rfl, rfl⟩ tab_ok rfl rfl rfl rfl foc3 rfl rfl ?_; clear hX; intro a w hX) | (refine y_store_agg hX rfl ⟨rfl, rfl⟩ tab_ok rfl rfl rfl rfl foc4 rfl rfl ?_; clear hX; intro a w hX) | (refine y_store_agg hX rfl ⟨rfl, rfl⟩ tab_ok rfl rfl rfl rfl foc5 rfl rfl ?_; clear hX; intro a w hX) | (refine y_store_agg hX rfl ⟨rfl, rfl⟩ tab_ok rfl rfl rfl rfl foc6 rfl rfl ?_; clear hX; intro a w hX) | (refine y_store_agg hX rfl ⟨rfl, rfl⟩ tab_ok rfl rfl rfl rfl foc7 rfl rfl ?_; clear hX; intro a w hX) | (refine y_store_agg hX rfl ⟨rfl, rfl⟩ tab_ok rfl rfl rfl rfl foc8 rfl rfl ?_; clear hX; intro a w hX) | (refine y_store_agg hX rfl ⟨rfl, rfl⟩ tab_ok rfl rfl rfl rfl foc9 rfl rfl ?_; clear hX; intro a w hX) | (refine y_store_agg hX rfl ⟨rfl, rfl⟩ tab_ok rfl rfl rfl rfl foc10 rfl rfl ?_; clear hX; intro a w hX) | (refine y_store_agg hX rfl ⟨rfl, rfl⟩ tab_ok rfl rfl rfl rfl foc11 rfl rfl ?_; clear hX; intro a w hX) | (refine y_store_agg hX rfl ⟨rfl, rfl⟩ tab_ok rfl rfl rfl rfl foc12 rfl rfl ?_; clear hX; intro a w hX))
        refine x_end ?_
        refine q_then ?_
        refine c_ret ?_
        refine q_then_ret ?_
        refine read_ret (l := l) [] (H := [.cel b5 [.int .i64 (takeP l.length 0 4)] 3, .cel b1 [.slice A l.length c] 22, .row none 0 53 6 0 [], .cel b2 [.slice none 0 0] 30, .cel b3 [.bool false] 4, .cel b4 [.int .i64 4] 34]) (l' := []) (by simpa using hX) rfl rfl rfl foc3 foc4 foc5 (Sel.cons tk2 Sel.nil) ?_
        rw [readAll, if_neg]
        intro he
        have h4 : 4 ≤ l.length := by have := congrArg List.length he; simp only [List.length_take, headB, List.length_cons, List.length_nil] at this; omega
        first
          | (have h5 := hg; simp at h5; omega)
          | (have h5 := hc; simp only [Bool.not_eq_true', beq_eq_false_iff_ne] at h5; exact h5 he)
    ·
      try (first | cases hc | exact (contra_tf hc (by with_reducible assumption)).elim | exact (contra_tf (by with_reducible assumption) hc).elim | exact absurd hc (by decide))
      all_goals
        refine c_skip ?_
        refine q_then ?_
        refine wpIn_seq ?_
        refine c_block ?_
        have he : l.take 4 = headB := by have h5 := hc; simp only [Bool.not_eq_false', beq_iff_eq] at h5; exact h5
        have h4 : 4 ≤ l.length := by have := congrArg List.length he; simp only [List.length_take, headB, List.length_cons, List.length_nil] at this; omega
        have hP : takeP l.length 0 4 = 4 := if_pos (by omega)
        refine c_loopD (α := RS) (fun s => s.ks.map markOf) (fun _ => [(1, .pointer (some ⟨b1, 0, none⟩)), (2, .pointer (some ⟨b2, 0, none⟩)), (3, .pointer (some ⟨b3, 0, none⟩)), (4, .pointer (some ⟨b4, 0, none⟩)), (5, .pointer (some ⟨b5, 0, none⟩)), (6, .func (.func 35) #[] #[.pointer (some ⟨b1, 0, none⟩), .pointer (some ⟨b5, 0, none⟩)])])
          (fun s => .cel b5 [.int .i64 s.p] 3 :: .cel b1 [.slice A l.length c] 22 :: .cel b2 [.slice s.A s.l.length s.c] 30 :: .row s.A s.c 53 6 s.l.length (opsC s.l) :: .cel b3 [.bool false] 4 :: .cel b4 [.int .i64 0] 34 :: s.ks.map mk) (fun s => s.p ≤ l.length ∧ s.l.length ≤ 4096 ∧ l.length - s.p ≤ s.f ∧ readAll l = readF s.f (l.drop s.p) s.l) (fun s => l.length - s.p)
          ⟨4, [], none, 0, [], l.length⟩ ⟨h4, by simp, by simp, by rw [readAll, if_pos he]⟩ (hX.to (by repeat (first | exact Sub.nil | refine Sub.cons rfl ?_)) (Sel.consE tk0 (by rw [hP]) (Sel.cons tk0 (Sel.cons tk1 (Sel.cons tk0 (Sel.cons tk0 (Sel.cons tk0 Sel.nil))))))) ?_
        clear hX
        rintro ⟨p, acc, A1, c1, ks, f⟩ a w ⟨hp, hacc, hf, hres⟩ hX
        dsimp only at hp hacc hf hres hX
        refine wpIn_seq ?_
        refine wpIn_seq ?_
        refine c_region ?_
        refine xl_cons ?_; ((refine y_read (d := 32) hX ⟨rfl, rfl⟩ rfl (v_load hX.st rfl tab_ok rfl rfl rfl foc0 rfl) ?_; clear hX; intro a w hX))
        refine xl_cons ?_; ((refine y_read (d := 33) hX ⟨rfl, rfl⟩ rfl (v_load hX.st rfl tab_ok rfl rfl rfl foc1 rfl) ?_; clear hX; intro a w hX))
        refine xl_cons ?_; ((refine y_pure (d := 34) hX ⟨rfl, rfl⟩ rfl (p_len hX.st rfl tab_ok rfl rfl rfl) ?_; clear hX; intro a w hX))
        refine xl_cons ?_; ((refine y_pure (d := 35) hX ⟨rfl, rfl⟩ rfl (p_lss hX.st rfl rfl rfl) ?_; clear hX; intro a w hX))
        refine x_end ?_
        refine q_then ?_
        refine c_cond hX rfl (fun hc => ?_) (fun hc => ?_)
        ·
          try (first | cases hc | exact (contra_tf hc (by with_reducible assumption)).elim | exact (contra_tf (by with_reducible assumption) hc).elim | exact absurd hc (by decide))
          all_goals
            refine c_skip ?_
            refine q_then ?_
            refine c_block ?_
            refine wpIn_seq ?_
            have hlt : p < l.length := by simpa using hc
            obtain ⟨bb, pp, rfl, hcl⟩ := hR.2 (by omega)
            have hcell : ∀ j, j < l.length → W.cell? ⟨bb, pp + j, none⟩ = some (.int .u8 (l.getD j 0).toNat) := fun j hj => hcl j _ (by simp [hj, byteV])
            have hbb : bb < W.heap.size := World.block_lt_of_cell? W _ (hcell p hlt)
            obtain ⟨f, rfl⟩ : ∃ f', f = f' + 1 := ⟨f - 1, by omega⟩
            have hm256 := (l.getD p 0).toNat_lt
            have hcp := hcell p hlt
            rw [read_step l p f acc hlt _ rfl] at hres
            generalize (l.getD p 0).toNat = m at hm256 hcp hres
            clear hcl
            refine c_nopanic ?_
            refine d_begin hX (by kernel_rfl) rfl (Sel.refl _) ?_
            clear hX; intro w hX
            ((refine d_take (i := 0) (fuel := 7) (d := 36) (listed' := #[true, false, false, false, false, false, false, false]) hX rfl (by kernel_rfl) (by kernel_rfl) (by kernel_rfl) (fun _ _ _ h => (by cases h.1)) ⟨rfl, rfl⟩ rfl rfl (Sel.refl _) (v_load hX.st rfl tab_ok rfl rfl rfl foc0 rfl) ?_; clear hX; intro a hX))
            ((refine d_take (i := 1) (fuel := 6) (d := 37) (listed' := #[true, true, false, false, false, false, false, false]) hX rfl (by kernel_rfl) (by kernel_rfl) (by kernel_rfl) (fun _ _ _ h => (by cases h.1)) ⟨rfl, rfl⟩ rfl rfl (Sel.refl _) (v_load hX.st rfl tab_ok rfl rfl rfl foc1 rfl) ?_; clear hX; intro a hX))
            ((refine d_take (i := 2) (fuel := 5) (d := 38) (listed' := #[true, true, true, false, false, false, false, false]) hX rfl (by kernel_rfl) (by kernel_rfl) (by kernel_rfl) (fun _ _ _ h => (by cases h.1)) ⟨rfl, rfl⟩ rfl rfl (Sel.refl _) (v_load hX.st rfl tab_ok rfl rfl rfl foc0 rfl) ?_; clear hX; intro a hX))
            (first | (refine d_take (i := 3) (fuel := 4) (d := 39) (listed' := #[true, true, true, true, false, false, false, false]) hX rfl (by kernel_rfl) (by kernel_rfl) (by kernel_rfl) (fun _ _ _ h => (by cases h.1)) ⟨rfl, rfl⟩ rfl rfl (Sel.refl _) (fun w _ => (p_index0 hX.st rfl tab_ok rfl rfl rfl rfl rfl rfl (by first | rfl | omega) (by first | decide | omega)) w) ?_; clear hX; intro a hX) | (refine d_take (i := 3) (fuel := 4) (d := 39) (listed' := #[true, true, true, true, false, false, false, false]) hX rfl (by kernel_rfl) (by kernel_rfl) (by kernel_rfl) (fun _ _ _ h => (by cases h.1)) ⟨rfl, rfl⟩ rfl rfl (Sel.refl _) (fun w _ => (p_index1 hX.st rfl tab_ok rfl rfl rfl rfl rfl rfl (by first | rfl | omega) (by first | decide | omega)) w) ?_; clear hX; intro a hX))
            (first | (refine d_take (i := 4) (fuel := 3) (d := 40) (listed' := #[true, true, true, true, true, false, false, false]) hX rfl (by kernel_rfl) (by kernel_rfl) (by kernel_rfl) (fun _ _ _ h => (by cases h.1)) ⟨rfl, rfl⟩ rfl rfl (Sel.refl _) (v_load hX.st rfl tab_ok rfl rfl rfl foc0 rfl) ?_; clear hX; intro a hX) | (refine d_take (i := 4) (fuel := 3) (d := 40) (listed' := #[true, true, true, true, true, false, false, false]) hX rfl (by kernel_rfl) (by kernel_rfl) (by kernel_rfl) (fun _ _ _ h => (by cases h.1)) ⟨rfl, rfl⟩ rfl rfl (Sel.refl _) (v_load hX.st rfl tab_ok rfl rfl rfl foc1 rfl) ?_; clear hX; intro a hX) | (refine d_take (i := 4) (fuel := 3) (d := 40) (listed' := #[true, true, true, true, true, false, false, false]) hX rfl (by kernel_rfl) (by kernel_rfl) (by kernel_rfl) (fun _ _ _ h => (by cases h.1)) ⟨rfl, rfl⟩ rfl rfl (Sel.refl _) (v_load hX.st rfl tab_ok rfl rfl rfl foc2 rfl) ?_; clear hX; intro a hX) | (refine d_take (i := 4) (fuel := 3) (d := 40) (listed' := #[true, true, true, true, true, false, false, false]) hX rfl (by kernel_rfl) (by kernel_rfl) (by kernel_rfl) (fun _ _ _ h => (by cases h.1)) ⟨rfl, rfl⟩ rfl rfl (Sel.refl _) (v_load hX.st rfl tab_ok rfl rfl rfl foc3 rfl) ?_; clear hX; intro a hX) | (refine d_take (i := 4) (fuel := 3) (d := 40) (listed' := #[true, true, true, true, true, false, false, false]) hX rfl (by kernel_rfl) (by kernel_rfl) (by kernel_rfl) (fun _ _ _ h => (by cases h.1)) ⟨rfl, rfl⟩ rfl rfl (Sel.refl _) (v_load_old hX.st rfl tab_ok rfl rfl rfl (by assumption) (by assumption)) ?_; clear hX; intro a hX))
            (first | (refine d_take (i := 5) (fuel := 2) (d := 41) (listed' := #[true, true, true, true, true, true, false, false]) hX rfl (by kernel_rfl) (by kernel_rfl) (by kernel_rfl) (fun _ _ _ h => (by cases h.1)) ⟨rfl, rfl⟩ rfl rfl (Sel.refl _) (fun w _ => (p_conv hX.st rfl tab_ok rfl rfl rfl rfl (in_i64 (by omega) (by omega))) w) ?_; clear hX; intro a hX) | (refine d_take (i := 5) (fuel := 2) (d := 41) (listed' := #[true, true, true, true, true, true, false, false]) hX rfl (by kernel_rfl) (by kernel_rfl) (by kernel_rfl) (fun _ _ _ h => (by cases h.1)) ⟨rfl, rfl⟩ rfl rfl (Sel.refl _) (fun w _ => (p_conv hX.st rfl tab_ok rfl rfl rfl rfl rfl) w) ?_; clear hX; intro a hX))
            ((refine d_take (i := 6) (fuel := 1) (d := 9) (listed' := #[true, true, true, true, true, true, true, false]) hX rfl (by kernel_rfl) (by kernel_rfl) (by kernel_rfl) (fun _ _ _ h => (by cases h.1)) ⟨rfl, rfl⟩ rfl rfl (Sel.refl _) (fun w _ => (p_assign hX.st rfl rfl) w) ?_; clear hX; intro a hX))
            ((refine d_take (i := 7) (fuel := 0) (d := 10) (listed' := #[true, true, true, true, true, true, true, true]) hX rfl (by kernel_rfl) (by kernel_rfl) (by kernel_rfl) (fun _ _ _ h => (by cases h.1)) ⟨rfl, rfl⟩ rfl rfl (Sel.refl _) (fun w _ => (p_assign hX.st rfl rfl) w) ?_; clear hX; intro a hX))
            refine d_done (by kernel_rfl) ?_
            refine ⟨rfl, ?_⟩
            refine q_then ?_
            refine wpIn_seq ?_
            refine wpIn_seq ?_
            refine c_region ?_
            refine xl_cons ?_; ((refine y_pure (d := 42) hX ⟨rfl, rfl⟩ rfl (p_move hX.st rfl rfl) ?_; clear hX; intro a w hX))
            refine xl_cons ?_; ((refine y_pure (d := 43) hX ⟨rfl, rfl⟩ rfl (p_gtr hX.st rfl rfl rfl) ?_; clear hX; intro a w hX))
            refine x_end ?_
            refine q_then ?_
            refine c_cond hX rfl (fun hc => ?_) (fun hc => ?_)
            ·
              try (first | cases hc | exact (contra_tf hc (by with_reducible assumption)).elim | exact (contra_tf (by with_reducible assumption) hc).elim | exact absurd hc (by decide))
              all_goals
                refine wpIn_seq ?_
                refine c_region ?_
                refine xl_cons ?_; ((refine y_read (d := 44) hX ⟨rfl, rfl⟩ rfl (v_load hX.st rfl tab_ok rfl rfl rfl foc2 rfl) ?_; clear hX; intro a w hX))
                refine xl_cons ?_; (refine y_store hX rfl ⟨rfl, rfl⟩ tab_ok rfl rfl rfl rfl rfl foc2 (by repeat (first | exact SetAt.zero | apply SetAt.succ)) ?_; clear hX; intro a w hX)
                refine xl_cons ?_; (refine y_store hX rfl ⟨rfl, rfl⟩ tab_ok rfl rfl rfl rfl rfl foc4 (by repeat (first | exact SetAt.zero | apply SetAt.succ)) ?_; clear hX; intro a w hX)
                refine xl_cons ?_; (refine y_store hX rfl ⟨rfl, rfl⟩ tab_ok rfl rfl rfl rfl rfl foc5 (by repeat (first | exact SetAt.zero | apply SetAt.succ)) ?_; clear hX; intro a w hX)
                refine x_end ?_
                refine q_then ?_
                refine c_ret ?_
                refine q_then_ret ?_
                refine q_block_ret ?_
                refine q_then_ret ?_
                refine q_block_ret ?_
                refine q_then_ret ?_
                exact read_ret (l := l) ks (H := [_, _, _, _, _, _]) hX rfl rfl rfl foc2 foc4 foc5 (Sel.cons tk3 Sel.nil) (by rw [hres, if_pos (by have h5 := hc; simp only [decide_eq_true_eq] at h5; omega)])
            ·
              try (first | cases hc | exact (contra_tf hc (by with_reducible assumption)).elim | exact (contra_tf (by with_reducible assumption) hc).elim | exact absurd hc (by decide))
              all_goals
                refine c_skip ?_
                refine q_then ?_
                refine wpIn_seq ?_
                have hm32 : m ≤ 32 := by have h5 := hc; simp only [decide_eq_false_iff_not] at h5; omega
                rw [if_neg (by omega)] at hres
                refine c_region ?_
                refine xl_cons ?_; ((refine y_pure (d := 46) hX ⟨rfl, rfl⟩ rfl (p_move hX.st rfl rfl) ?_; clear hX; intro a w hX))
                refine xl_cons ?_; ((refine y_pure (d := 47) hX ⟨rfl, rfl⟩ rfl (p_move hX.st rfl rfl) ?_; clear hX; intro a w hX))
                refine xl_cons ?_; (first | (refine y_pure (d := 48) hX ⟨rfl, rfl⟩ rfl (p_mul hX.st rfl rfl rfl (in_i64 (by omega) (by omega))) ?_; clear hX; intro a w hX) | (refine y_pure (d := 48) hX ⟨rfl, rfl⟩ rfl (p_mul hX.st rfl rfl rfl rfl) ?_; clear hX; intro a w hX))
                refine xl_cons ?_; (first | (refine y_pure (d := 49) hX ⟨rfl, rfl⟩ rfl (p_add hX.st rfl rfl rfl (in_i64 (by omega) (by omega))) ?_; clear hX; intro a w hX) | (refine y_pure (d := 49) hX ⟨rfl, rfl⟩ rfl (p_add hX.st rfl rfl rfl rfl) ?_; clear hX; intro a w hX))
                refine xl_cons ?_; (refine y_callV (d := 50) hX rfl ⟨rfl, rfl⟩ rfl (lb := [.pointer (some ⟨b1, 0, none⟩), .pointer (some ⟨b5, 0, none⟩)]) rfl Try.func35 rfl rfl rfl (take_any (1 + 3 * m) l.length p c _ b1 b5 _ _ (by omega) rfl (by omega) (by omega) (by omega) hcc _ _ _ _ hX.sh) ?_; rintro _ a w ⟨rfl, hw⟩ hS; clear hX; have hX := (⟨hS, hw⟩ : Sym 119 _ _ _ _ _ a w); clear hS hw)
                refine xl_cons ?_; ((refine y_pure (d := 45) hX ⟨rfl, rfl⟩ rfl (p_move hX.st rfl rfl) ?_; clear hX; intro a w hX))
                refine xl_cons ?_; ((refine y_pure (d := 51) hX ⟨rfl, rfl⟩ rfl (p_extract hX.st rfl rfl rfl) ?_; clear hX; intro a w hX))
                refine xl_cons ?_; ((refine y_pure (d := 52) hX ⟨rfl, rfl⟩ rfl (p_extract hX.st rfl rfl rfl) ?_; clear hX; intro a w hX))
                refine xl_cons ?_; ((refine y_pure (d := 11) hX ⟨rfl, rfl⟩ rfl (p_assign hX.st rfl rfl) ?_; clear hX; intro a w hX))
                refine xl_cons ?_; ((refine y_pure (d := 12) hX ⟨rfl, rfl⟩ rfl (p_assign hX.st rfl rfl) ?_; clear hX; intro a w hX))
                refine x_end ?_
                refine q_then ?_
                refine wpIn_seq ?_
                refine c_region ?_
                refine xl_cons ?_; ((refine y_pure (d := 54) hX ⟨rfl, rfl⟩ rfl (p_move hX.st rfl rfl) ?_; clear hX; intro a w hX))
                refine xl_cons ?_; (refine y_callV (d := 55) hX rfl ⟨rfl, rfl⟩ rfl (lb := [.pointer (some ⟨b1, 0, none⟩), .pointer (some ⟨b5, 0, none⟩)]) rfl Try.func35 rfl rfl rfl (take_any 2 l.length (takeP l.length p (1 + 3 * m)) c _ b1 b5 _ _ rfl rfl (by omega) (by omega) (takeP_le _ _ _ (by omega)) hcc _ _ _ _ hX.sh) ?_; rintro _ a w ⟨rfl, hw⟩ hS; clear hX; have hX := (⟨hS, hw⟩ : Sym 119 _ _ _ _ _ a w); clear hS hw)
                refine xl_cons ?_; ((refine y_pure (d := 53) hX ⟨rfl, rfl⟩ rfl (p_move hX.st rfl rfl) ?_; clear hX; intro a w hX))
                refine xl_cons ?_; ((refine y_pure (d := 56) hX ⟨rfl, rfl⟩ rfl (p_extract hX.st rfl rfl rfl) ?_; clear hX; intro a w hX))
                refine xl_cons ?_; ((refine y_pure (d := 57) hX ⟨rfl, rfl⟩ rfl (p_extract hX.st rfl rfl rfl) ?_; clear hX; intro a w hX))
                refine xl_cons ?_; ((refine y_pure (d := 13) hX ⟨rfl, rfl⟩ rfl (p_assign hX.st rfl rfl) ?_; clear hX; intro a w hX))
                refine xl_cons ?_; ((refine y_pure (d := 14) hX ⟨rfl, rfl⟩ rfl (p_assign hX.st rfl rfl) ?_; clear hX; intro a w hX))
                refine x_end ?_
                refine q_then ?_
                refine wpIn_seq ?_
                refine wpIn_seq ?_
                refine c_region ?_
                refine xl_cons ?_; ((refine y_pure (d := 58) hX ⟨rfl, rfl⟩ rfl (p_move hX.st rfl rfl) ?_; clear hX; intro a w hX))
                refine xl_cons ?_; ((refine y_pure (d := 59) hX ⟨rfl, rfl⟩ rfl (p_not hX.st rfl rfl) ?_; clear hX; intro a w hX))
                refine xl_cons ?_; ((refine y_pure (d := 60) hX ⟨rfl, rfl⟩ rfl (p_move hX.st rfl rfl) ?_; clear hX; intro a w hX))
                all_goals (refine xl_cons ?_; (first | (refine y_guard0 hX rfl rfl rfl (by first | with_reducible rfl | with_reducible assumption | exact beq_self_eq_true _ | exact bne_self_eq_false _ | (show _ = true; with_reducible first | rfl | assumption) | (show _ = false; with_reducible first | rfl | assumption) | decide) rfl rfl ?_; clear hX; intro a w hX) | ((refine y_guard1 hX rfl rfl rfl (by first | with_reducible rfl | with_reducible assumption | exact beq_self_eq_true _ | exact bne_self_eq_false _ | (show _ = true; with_reducible first | rfl | assumption) | (show _ = false; with_reducible first | rfl | assumption) | decide) ?_); ((refine y_pure (d := 61) hX ⟨rfl, rfl⟩ rfl (p_move hX.st rfl rfl) ?_; clear hX; intro a w hX))) | (refine y_guardU hX rfl rfl rfl rfl rfl ?_; clear hX; intro a w hX) | ((refine y_gsplit hX rfl rfl rfl ?_ ?_) <;> intro hg <;> first | (refine y_guard0 hX rfl rfl rfl (by first | with_reducible rfl | with_reducible assumption | exact beq_self_eq_true _ | exact bne_self_eq_false _ | (show _ = true; with_reducible first | rfl | assumption) | (show _ = false; with_reducible first | rfl | assumption) | decide) rfl rfl ?_; clear hX; intro a w hX) | ((refine y_guard1 hX rfl rfl rfl (by first | with_reducible rfl | with_reducible assumption | exact beq_self_eq_true _ | exact bne_self_eq_false _ | (show _ = true; with_reducible first | rfl | assumption) | (show _ = false; with_reducible first | rfl | assumption) | decide) ?_); ((refine y_pure (d := 61) hX ⟨rfl, rfl⟩ rfl (p_move hX.st rfl rfl) ?_; clear hX; intro a w hX))))))
                all_goals (refine xl_cons ?_; (first | (refine y_guard0 hX rfl rfl rfl (by first | with_reducible rfl | with_reducible assumption | exact beq_self_eq_true _ | exact bne_self_eq_false _ | (show _ = true; with_reducible first | rfl | assumption) | (show _ = false; with_reducible first | rfl | assumption) | decide) rfl rfl ?_; clear hX; intro a w hX) | ((refine y_guard1 hX rfl rfl rfl (by first | with_reducible rfl | with_reducible assumption | exact beq_self_eq_true _ | exact bne_self_eq_false _ | (show _ = true; with_reducible first | rfl | assumption) | (show _ = false; with_reducible first | rfl | assumption) | decide) ?_); ((refine y_pure (d := 62) hX ⟨rfl, rfl⟩ rfl (p_not hX.st rfl rfl) ?_; clear hX; intro a w hX))) | (refine y_guardU hX rfl rfl rfl rfl rfl ?_; clear hX; intro a w hX) | ((refine y_gsplit hX rfl rfl rfl ?_ ?_) <;> intro hg <;> first | (refine y_guard0 hX rfl rfl rfl (by first | with_reducible rfl | with_reducible assumption | exact beq_self_eq_true _ | exact bne_self_eq_false _ | (show _ = true; with_reducible first | rfl | assumption) | (show _ = false; with_reducible first | rfl | assumption) | decide) rfl rfl ?_; clear hX; intro a w hX) | ((refine y_guard1 hX rfl rfl rfl (by first | with_reducible rfl | with_reducible assumption | exact beq_self_eq_true _ | exact bne_self_eq_false _ | (show _ = true; with_reducible first | rfl | assumption) | (show _ = false; with_reducible first | rfl | assumption) | decide) ?_); ((refine y_pure (d := 62) hX ⟨rfl, rfl⟩ rfl (p_not hX.st rfl rfl) ?_; clear hX; intro a w hX))))))
                all_goals (refine xl_cons ?_; (first | (refine y_pure (d := 63) hX ⟨rfl, rfl⟩ rfl (p_pick1 hX.st rfl rfl (by first | with_reducible rfl | with_reducible assumption | exact beq_self_eq_true _ | exact bne_self_eq_false _ | (show _ = true; with_reducible first | rfl | assumption) | (show _ = false; with_reducible first | rfl | assumption) | decide) rfl) ?_; clear hX; intro a w hX) | (refine y_pure (d := 63) hX ⟨rfl, rfl⟩ rfl (p_pick0 hX.st rfl rfl (by first | with_reducible rfl | with_reducible assumption | exact beq_self_eq_true _ | exact bne_self_eq_false _ | (show _ = true; with_reducible first | rfl | assumption) | (show _ = false; with_reducible first | rfl | assumption) | decide) rfl) ?_; clear hX; intro a w hX)))
                all_goals
                  refine x_end ?_
                  refine q_then ?_
                  refine c_cond hX rfl (fun hc => ?_) (fun hc => ?_)
                  ·
                    try (first | cases hc | exact (contra_tf hc (by with_reducible assumption)).elim | exact (contra_tf (by with_reducible assumption) hc).elim | exact absurd hc (by decide))
                    all_goals
                      refine wpIn_seq ?_
                      refine c_region ?_
                      refine xl_cons ?_; ((refine y_read (d := 64) hX ⟨rfl, rfl⟩ rfl (v_load hX.st rfl tab_ok rfl rfl rfl foc2 rfl) ?_; clear hX; intro a w hX))
                      refine xl_cons ?_; (refine y_store hX rfl ⟨rfl, rfl⟩ tab_ok rfl rfl rfl rfl rfl foc2 (by repeat (first | exact SetAt.zero | apply SetAt.succ)) ?_; clear hX; intro a w hX)
                      refine xl_cons ?_; (refine y_store hX rfl ⟨rfl, rfl⟩ tab_ok rfl rfl rfl rfl rfl foc4 (by repeat (first | exact SetAt.zero | apply SetAt.succ)) ?_; clear hX; intro a w hX)
                      refine xl_cons ?_; (refine y_store hX rfl ⟨rfl, rfl⟩ tab_ok rfl rfl rfl rfl rfl foc5 (by repeat (first | exact SetAt.zero | apply SetAt.succ)) ?_; clear hX; intro a w hX)
                      refine x_end ?_
                      refine q_then ?_
                      refine c_ret ?_
                      refine q_then_ret ?_
                      refine q_block_ret ?_
                      refine q_then_ret ?_
                      refine q_block_ret ?_
                      refine q_then_ret ?_
                      refine read_ret (l := l) ks (H := [_, _, _, _, _, _]) hX rfl rfl rfl foc2 foc4 foc5 (Sel.cons tk3 Sel.nil) ?_
                      rw [hres, if_pos]
                      first
                        | (have h5 := hc; simp only [Bool.not_eq_true', decide_eq_false_iff_not] at h5; simp only [takeP] at h5; split at h5 <;> omega)
                        | (have h5 := hg; simp only [Bool.not_eq_true', decide_eq_false_iff_not] at h5; omega)
                  ·
                    try (first | cases hc | exact (contra_tf hc (by with_reducible assumption)).elim | exact (contra_tf (by with_reducible assumption) hc).elim | exact absurd hc (by decide))
                    all_goals
                      refine c_skip ?_
                      refine q_then ?_
                      refine wpIn_seq ?_
                      refine wpIn_seq ?_
                      have h1 : p + (1 + 3 * m) ≤ l.length := by have h5 := hg; simp only [Bool.not_eq_false', decide_eq_true_eq] at h5; omega
                      have hP1 : takeP l.length p (1 + 3 * m) = p + (1 + 3 * m) := if_pos h1
                      have h2 : p + (1 + 3 * m) + 2 ≤ l.length := by have h5 := hc; rw [hP1] at h5; simp only [Bool.not_eq_false', decide_eq_true_eq] at h5; omega
                      have hP2 : takeP l.length (p + (1 + 3 * m)) 2 = p + (1 + 3 * m) + 2 := if_pos h2
                      have hX := hX.to (L' := [(9, .int .i64 p), (10, .int .i64 m), (11, .slice (some ⟨bb, pp + p * 1, none⟩) (1 + 3 * m) (c - p)), (13, .slice (some ⟨bb, pp + (p + (1 + 3 * m)) * 1, none⟩) 2 (c - (p + (1 + 3 * m)))), (1, .pointer (some ⟨b1, 0, none⟩)), (2, .pointer (some ⟨b2, 0, none⟩)), (3, .pointer (some ⟨b3, 0, none⟩)), (4, .pointer (some ⟨b4, 0, none⟩)), (5, .pointer (some ⟨b5, 0, none⟩)), (6, .func (.func 35) #[] #[.pointer (some ⟨b1, 0, none⟩), .pointer (some ⟨b5, 0, none⟩)])])
                        (Sub.cons rfl (Sub.cons rfl (Sub.cons (look_val rfl (by rw [takeS, if_pos h1, cutA, if_neg (by omega), Option.map_some, Addr.add_lit])) (Sub.cons (look_val rfl (by rw [hP1, takeS, if_pos h2, cutA, if_neg (by omega), Option.map_some, Addr.add_lit])) (by repeat (first | exact Sub.nil | refine Sub.cons rfl ?_)))))) (H' := .cel b5 [.int .i64 ((p + (1 + 3 * m) + 2 : Nat) : Int)] 3 :: .cel b1 [.slice (some ⟨bb, pp, none⟩) l.length c] 22 :: .cel b2 [.slice A1 acc.length c1] 30 :: .row A1 c1 53 6 acc.length (opsC acc) :: .cel b3 [.bool false] 4 :: .cel b4 [.int .i64 0] 34 :: ks.map mk) (Sel.consE tk0 (by rw [hP1, hP2]) (Sel.refl _))
                      have hc0 : W.cell? ⟨bb, pp + (p + (1 + 3 * m)) * 1 + 0, none⟩ = some (.int .u8 (l.getD (p + 1 + 3 * m) 0).toNat) := by
                        have := hcell (p + 1 + 3 * m) (by omega)
                        rwa [show pp + (p + 1 + 3 * m) = pp + (p + (1 + 3 * m)) * 1 + 0 by omega] at this
                      have hc1 : W.cell? ⟨bb, pp + (p + (1 + 3 * m)) * 1 + 1, none⟩ = some (.int .u8 (l.getD (p + 1 + 3 * m + 1) 0).toNat) := by
                        have := hcell (p + 1 + 3 * m + 1) (by omega)
                        rwa [show pp + (p + 1 + 3 * m + 1) = pp + (p + (1 + 3 * m)) * 1 + 1 by omega] at this
                      have hsb := sum_bits (l.getD (p + 1 + 3 * m) 0).toNat (l.getD (p + 1 + 3 * m + 1) 0).toNat (l.getD (p + 1 + 3 * m) 0).toNat_lt (l.getD (p + 1 + 3 * m + 1) 0).toNat_lt
                      rw [if_neg (by omega)] at hres
                      clear hP1 hP2
                      refine c_nopanic ?_
                      refine d_begin hX (by kernel_rfl) rfl (Sel.refl _) ?_
                      clear hX; intro w hX
                      ((refine d_take (i := 0) (fuel := 16) (d := 65) (listed' := #[true, false, false, false, false, false, false, false, false, false, false, false, false, false, false, false, false]) hX rfl (by kernel_rfl) (by kernel_rfl) (by kernel_rfl) (fun _ _ _ h => (by cases h.1)) ⟨rfl, rfl⟩ rfl rfl (Sel.refl _) (v_load hX.st rfl tab_ok rfl rfl rfl foc1 rfl) ?_; clear hX; intro a hX))
                      ((refine d_take (i := 1) (fuel := 15) (d := 66) (listed' := #[true, true, false, false, false, false, false, false, false, false, false, false, false, false, false, false, false]) hX rfl (by kernel_rfl) (by kernel_rfl) (by kernel_rfl) (fun _ _ _ h => (by cases h.1)) ⟨rfl, rfl⟩ rfl rfl (Sel.refl _) (fun w _ => (p_move hX.st rfl rfl) w) ?_; clear hX; intro a hX))
                      ((refine d_take (i := 2) (fuel := 14) (d := 67) (listed' := #[true, true, true, false, false, false, false, false, false, false, false, false, false, false, false, false, false]) hX rfl (by kernel_rfl) (by kernel_rfl) (by kernel_rfl) (fun _ _ _ h => (by cases h.1)) ⟨rfl, rfl⟩ rfl rfl (Sel.refl _) (v_load hX.st rfl tab_ok rfl rfl rfl foc0 rfl) ?_; clear hX; intro a hX))
                      (first | (refine d_take (i := 3) (fuel := 13) (d := 68) (listed' := #[true, true, true, true, false, false, false, false, false, false, false, false, false, false, false, false, false]) hX rfl (by kernel_rfl) (by kernel_rfl) (by kernel_rfl) (fun _ _ _ h => (by cases h.1)) ⟨rfl, rfl⟩ rfl rfl (Sel.refl _) (fun w _ => (p_sub hX.st rfl rfl rfl (in_i64 (by omega) (by omega))) w) ?_; clear hX; intro a hX) | (refine d_take (i := 3) (fuel := 13) (d := 68) (listed' := #[true, true, true, true, false, false, false, false, false, false, false, false, false, false, false, false, false]) hX rfl (by kernel_rfl) (by kernel_rfl) (by kernel_rfl) (fun _ _ _ h => (by cases h.1)) ⟨rfl, rfl⟩ rfl rfl (Sel.refl _) (fun w _ => (p_sub hX.st rfl rfl rfl rfl) w) ?_; clear hX; intro a hX))
                      ((refine d_take (i := 4) (fuel := 12) (d := 69) (listed' := #[true, true, true, true, true, false, false, false, false, false, false, false, false, false, false, false, false]) hX rfl (by kernel_rfl) (by kernel_rfl) (by kernel_rfl) (fun _ _ _ h => (by cases h.1)) ⟨rfl, rfl⟩ rfl rfl (Sel.refl _) (fun w _ => (p_sliceMid (l := p) (h := p + (1 + 3 * m)) hX.st rfl tab_ok rfl rfl rfl rfl rfl rfl (by omega) (by omega) (by omega) (by omega)) w) ?_; clear hX; intro a hX))
                      ((refine d_take (i := 6) (fuel := 11) (d := 71) (listed' := #[true, true, true, true, true, false, true, false, false, false, false, false, false, false, false, false, false]) hX rfl (by kernel_rfl) (by kernel_rfl) (by kernel_rfl) (fun _ _ _ h => (by cases h.1)) ⟨rfl, rfl⟩ rfl rfl (Sel.refl _) (fun w _ => (p_move hX.st rfl rfl) w) ?_; clear hX; intro a hX))
                      (first | (refine d_take (i := 7) (fuel := 10) (d := 72) (listed' := #[true, true, true, true, true, false, true, true, false, false, false, false, false, false, false, false, false]) hX rfl (by kernel_rfl) (by kernel_rfl) (by kernel_rfl) (fun _ _ _ h => (by cases h.1)) ⟨rfl, rfl⟩ rfl rfl (Sel.refl _) (fun w _ => (p_index0 hX.st rfl tab_ok rfl rfl rfl rfl rfl rfl (by first | rfl | omega) (by first | decide | omega)) w) ?_; clear hX; intro a hX) | (refine d_take (i := 7) (fuel := 10) (d := 72) (listed' := #[true, true, true, true, true, false, true, true, false, false, false, false, false, false, false, false, false]) hX rfl (by kernel_rfl) (by kernel_rfl) (by kernel_rfl) (fun _ _ _ h => (by cases h.1)) ⟨rfl, rfl⟩ rfl rfl (Sel.refl _) (fun w _ => (p_index1 hX.st rfl tab_ok rfl rfl rfl rfl rfl rfl (by first | rfl | omega) (by first | decide | omega)) w) ?_; clear hX; intro a hX))
                      (first | (refine d_take (i := 8) (fuel := 9) (d := 73) (listed' := #[true, true, true, true, true, false, true, true, true, false, false, false, false, false, false, false, false]) hX rfl (by kernel_rfl) (by kernel_rfl) (by kernel_rfl) (fun _ _ _ h => (by cases h.1)) ⟨rfl, rfl⟩ rfl rfl (Sel.refl _) (v_load hX.st rfl tab_ok rfl rfl rfl foc0 rfl) ?_; clear hX; intro a hX) | (refine d_take (i := 8) (fuel := 9) (d := 73) (listed' := #[true, true, true, true, true, false, true, true, true, false, false, false, false, false, false, false, false]) hX rfl (by kernel_rfl) (by kernel_rfl) (by kernel_rfl) (fun _ _ _ h => (by cases h.1)) ⟨rfl, rfl⟩ rfl rfl (Sel.refl _) (v_load hX.st rfl tab_ok rfl rfl rfl foc1 rfl) ?_; clear hX; intro a hX) | (refine d_take (i := 8) (fuel := 9) (d := 73) (listed' := #[true, true, true, true, true, false, true, true, true, false, false, false, false, false, false, false, false]) hX rfl (by kernel_rfl) (by kernel_rfl) (by kernel_rfl) (fun _ _ _ h => (by cases h.1)) ⟨rfl, rfl⟩ rfl rfl (Sel.refl _) (v_load hX.st rfl tab_ok rfl rfl rfl foc2 rfl) ?_; clear hX; intro a hX) | (refine d_take (i := 8) (fuel := 9) (d := 73) (listed' := #[true, true, true, true, true, false, true, true, true, false, false, false, false, false, false, false, false]) hX rfl (by kernel_rfl) (by kernel_rfl) (by kernel_rfl) (fun _ _ _ h => (by cases h.1)) ⟨rfl, rfl⟩ rfl rfl (Sel.refl _) (v_load hX.st rfl tab_ok rfl rfl rfl foc3 rfl) ?_; clear hX; intro a hX) | (refine d_take (i := 8) (fuel := 9) (d := 73) (listed' := #[true, true, true, true, true, false, true, true, true, false, false, false, false, false, false, false, false]) hX rfl (by kernel_rfl) (by kernel_rfl) (by kernel_rfl) (fun _ _ _ h => (by cases h.1)) ⟨rfl, rfl⟩ rfl rfl (Sel.refl _) (v_load_old hX.st rfl tab_ok rfl rfl rfl (by assumption) (by assumption)) ?_; clear hX; intro a hX))
                      (first | (refine d_take (i := 9) (fuel := 8) (d := 74) (listed' := #[true, true, true, true, true, false, true, true, true, true, false, false, false, false, false, false, false]) hX rfl (by kernel_rfl) (by kernel_rfl) (by kernel_rfl) (fun _ _ _ h => (by cases h.1)) ⟨rfl, rfl⟩ rfl rfl (Sel.refl _) (fun w _ => (p_conv hX.st rfl tab_ok rfl rfl rfl rfl (in_i64 (by omega) (by omega))) w) ?_; clear hX; intro a hX) | (refine d_take (i := 9) (fuel := 8) (d := 74) (listed' := #[true, true, true, true, true, false, true, true, true, true, false, false, false, false, false, false, false]) hX rfl (by kernel_rfl) (by kernel_rfl) (by kernel_rfl) (fun _ _ _ h => (by cases h.1)) ⟨rfl, rfl⟩ rfl rfl (Sel.refl _) (fun w _ => (p_conv hX.st rfl tab_ok rfl rfl rfl rfl rfl) w) ?_; clear hX; intro a hX))
                      ((refine d_take (i := 10) (fuel := 7) (d := 75) (listed' := #[true, true, true, true, true, false, true, true, true, true, true, false, false, false, false, false, false]) hX rfl (by kernel_rfl) (by kernel_rfl) (by kernel_rfl) (fun _ _ _ h => (by cases h.1)) ⟨rfl, rfl⟩ rfl rfl (Sel.refl _) (fun w _ => (p_shl hX.st rfl rfl rfl rfl) w) ?_; clear hX; intro a hX))
                      ((refine d_take (i := 11) (fuel := 6) (d := 76) (listed' := #[true, true, true, true, true, false, true, true, true, true, true, true, false, false, false, false, false]) hX rfl (by kernel_rfl) (by kernel_rfl) (by kernel_rfl) (fun _ _ _ h => (by cases h.1)) ⟨rfl, rfl⟩ rfl rfl (Sel.refl _) (fun w _ => (p_move hX.st rfl rfl) w) ?_; clear hX; intro a hX))
                      (first | (refine d_take (i := 12) (fuel := 5) (d := 77) (listed' := #[true, true, true, true, true, false, true, true, true, true, true, true, true, false, false, false, false]) hX rfl (by kernel_rfl) (by kernel_rfl) (by kernel_rfl) (fun _ _ _ h => (by cases h.1)) ⟨rfl, rfl⟩ rfl rfl (Sel.refl _) (fun w _ => (p_index0 hX.st rfl tab_ok rfl rfl rfl rfl rfl rfl (by first | rfl | omega) (by first | decide | omega)) w) ?_; clear hX; intro a hX) | (refine d_take (i := 12) (fuel := 5) (d := 77) (listed' := #[true, true, true, true, true, false, true, true, true, true, true, true, true, false, false, false, false]) hX rfl (by kernel_rfl) (by kernel_rfl) (by kernel_rfl) (fun _ _ _ h => (by cases h.1)) ⟨rfl, rfl⟩ rfl rfl (Sel.refl _) (fun w _ => (p_index1 hX.st rfl tab_ok rfl rfl rfl rfl rfl rfl (by first | rfl | omega) (by first | decide | omega)) w) ?_; clear hX; intro a hX))
                      (first | (refine d_take (i := 13) (fuel := 4) (d := 78) (listed' := #[true, true, true, true, true, false, true, true, true, true, true, true, true, true, false, false, false]) hX rfl (by kernel_rfl) (by kernel_rfl) (by kernel_rfl) (fun _ _ _ h => (by cases h.1)) ⟨rfl, rfl⟩ rfl rfl (Sel.refl _) (v_load hX.st rfl tab_ok rfl rfl rfl foc0 rfl) ?_; clear hX; intro a hX) | (refine d_take (i := 13) (fuel := 4) (d := 78) (listed' := #[true, true, true, true, true, false, true, true, true, true, true, true, true, true, false, false, false]) hX rfl (by kernel_rfl) (by kernel_rfl) (by kernel_rfl) (fun _ _ _ h => (by cases h.1)) ⟨rfl, rfl⟩ rfl rfl (Sel.refl _) (v_load hX.st rfl tab_ok rfl rfl rfl foc1 rfl) ?_; clear hX; intro a hX) | (refine d_take (i := 13) (fuel := 4) (d := 78) (listed' := #[true, true, true, true, true, false, true, true, true, true, true, true, true, true, false, false, false]) hX rfl (by kernel_rfl) (by kernel_rfl) (by kernel_rfl) (fun _ _ _ h => (by cases h.1)) ⟨rfl, rfl⟩ rfl rfl (Sel.refl _) (v_load hX.st rfl tab_ok rfl rfl rfl foc2 rfl) ?_; clear hX; intro a hX) | (refine d_take (i := 13) (fuel := 4) (d := 78) (listed' := #[true, true, true, true, true, false, true, true, true, true, true, true, true, true, false, false, false]) hX rfl (by kernel_rfl) (by kernel_rfl) (by kernel_rfl) (fun _ _ _ h => (by cases h.1)) ⟨rfl, rfl⟩ rfl rfl (Sel.refl _) (v_load hX.st rfl tab_ok rfl rfl rfl foc3 rfl) ?_; clear hX; intro a hX) | (refine d_take (i := 13) (fuel := 4) (d := 78) (listed' := #[true, true, true, true, true, false, true, true, true, true, true, true, true, true, false, false, false]) hX rfl (by kernel_rfl) (by kernel_rfl) (by kernel_rfl) (fun _ _ _ h => (by cases h.1)) ⟨rfl, rfl⟩ rfl rfl (Sel.refl _) (v_load_old hX.st rfl tab_ok rfl rfl rfl (by assumption) (by assumption)) ?_; clear hX; intro a hX))
                      (first | (refine d_take (i := 14) (fuel := 3) (d := 79) (listed' := #[true, true, true, true, true, false, true, true, true, true, true, true, true, true, true, false, false]) hX rfl (by kernel_rfl) (by kernel_rfl) (by kernel_rfl) (fun _ _ _ h => (by cases h.1)) ⟨rfl, rfl⟩ rfl rfl (Sel.refl _) (fun w _ => (p_conv hX.st rfl tab_ok rfl rfl rfl rfl (in_i64 (by omega) (by omega))) w) ?_; clear hX; intro a hX) | (refine d_take (i := 14) (fuel := 3) (d := 79) (listed' := #[true, true, true, true, true, false, true, true, true, true, true, true, true, true, true, false, false]) hX rfl (by kernel_rfl) (by kernel_rfl) (by kernel_rfl) (fun _ _ _ h => (by cases h.1)) ⟨rfl, rfl⟩ rfl rfl (Sel.refl _) (fun w _ => (p_conv hX.st rfl tab_ok rfl rfl rfl rfl rfl) w) ?_; clear hX; intro a hX))
                      ((refine d_take (i := 15) (fuel := 2) (d := 80) (listed' := #[true, true, true, true, true, false, true, true, true, true, true, true, true, true, true, true, false]) hX rfl (by kernel_rfl) (by kernel_rfl) (by kernel_rfl) (fun _ _ _ h => (by cases h.1)) ⟨rfl, rfl⟩ rfl rfl (Sel.refl _) (fun w _ => (p_or hX.st rfl rfl rfl rfl) w) ?_; clear hX; intro a hX))
                      refine d_ready (fuel := 1) (by kernel_rfl) (d_cons (i := 5) (listed' := #[true, true, true, true, true, true, true, true, true, true, true, true, true, true, true, true, false]) rfl rfl ?_ d_nil)
                      (refine y_callP (d := 70) hX rfl ⟨rfl, rfl⟩ rfl Try.func10 rfl rfl rfl (check16n _ _ _ ((l.drop p).take (p + (1 + 3 * m) - p)) (by simp; omega) (by omega) _ ((Reads.old hX.sh hR).cutB (a := p) (b := p + (1 + 3 * m)) (c := c) (by omega) (by omega) (by omega))) ?_; clear hX; intro a w hX)
                      refine ⟨hX.sh.sel (Sel.refl _), ?_⟩
                      ((refine d_take (i := 16) (fuel := 0) (d := 81) (listed' := #[true, true, true, true, true, true, true, true, true, true, true, true, true, true, true, true, true]) hX rfl (by kernel_rfl) (by kernel_rfl) (by kernel_rfl) (fun _ _ _ h => (by cases h.1)) ⟨rfl, rfl⟩ rfl rfl (Sel.refl _) (fun w _ => (p_neq hX.st rfl rfl rfl) w) ?_; clear hX; intro a hX))
                      refine d_done (by kernel_rfl) ?_
                      refine ⟨rfl, ?_⟩
                      refine q_then ?_
                      refine c_cond hX rfl (fun hc => ?_) (fun hc => ?_)
                      ·
                        try (first | cases hc | exact (contra_tf hc (by with_reducible assumption)).elim | exact (contra_tf (by with_reducible assumption) hc).elim | exact absurd hc (by decide))
                        all_goals
                          refine wpIn_seq ?_
                          refine c_region ?_
                          refine xl_cons ?_; ((refine y_read (d := 82) hX ⟨rfl, rfl⟩ rfl (v_load hX.st rfl tab_ok rfl rfl rfl foc2 rfl) ?_; clear hX; intro a w hX))
                          refine xl_cons ?_; (refine y_store hX rfl ⟨rfl, rfl⟩ tab_ok rfl rfl rfl rfl rfl foc2 (by repeat (first | exact SetAt.zero | apply SetAt.succ)) ?_; clear hX; intro a w hX)
                          refine xl_cons ?_; (refine y_store hX rfl ⟨rfl, rfl⟩ tab_ok rfl rfl rfl rfl rfl foc4 (by repeat (first | exact SetAt.zero | apply SetAt.succ)) ?_; clear hX; intro a w hX)
                          refine xl_cons ?_; (refine y_store hX rfl ⟨rfl, rfl⟩ tab_ok rfl rfl rfl rfl rfl foc5 (by repeat (first | exact SetAt.zero | apply SetAt.succ)) ?_; clear hX; intro a w hX)
                          refine x_end ?_
                          refine q_then ?_
                          refine c_ret ?_
                          refine q_then_ret ?_
                          refine q_block_ret ?_
                          refine q_then_ret ?_
                          refine q_block_ret ?_
                          refine q_then_ret ?_
                          refine read_ret (l := l) ks (H := [_, _, _, _, _, _]) hX rfl rfl rfl foc2 foc4 foc5 (Sel.cons tk3 Sel.nil) ?_
                          have h5 := hc
                          rw [hsb, Nat.add_sub_cancel_left, bne_iff_ne] at h5
                          rw [hres, if_pos (fun e => h5 (by rw [e]))]
                      ·
                        try (first | cases hc | exact (contra_tf hc (by with_reducible assumption)).elim | exact (contra_tf (by with_reducible assumption) hc).elim | exact absurd hc (by decide))
                        all_goals
                          refine c_skip ?_
                          refine q_then ?_
                          refine wpIn_seq ?_
                          refine wpIn_seq ?_
                          have hcrc : crc ((l.drop p).take (1 + 3 * m)) = (l.getD (p + 1 + 3 * m) 0).toNat * 256 + (l.getD (p + 1 + 3 * m + 1) 0).toNat := by
                            have h5 := hc
                            rw [hsb, Nat.add_sub_cancel_left, bne_eq_false_iff_eq] at h5
                            omega
                          rw [if_neg (fun h => h hcrc)] at hres
                          clear hcrc hc0 hc1 hsb
                          refine c_region ?_
                          refine xl_cons ?_; ((refine y_pure (d := 83) hX ⟨rfl, rfl⟩ rfl (p_move hX.st rfl rfl) ?_; clear hX; intro a w hX))
                          refine xl_cons ?_; ((refine y_pure (d := 84) hX ⟨rfl, rfl⟩ rfl (p_eql hX.st rfl rfl rfl) ?_; clear hX; intro a w hX))
                          refine x_end ?_
                          refine q_then ?_
                          refine c_cond hX rfl (fun hc => ?_) (fun hc => ?_)
                          ·
                            try (first | cases hc | exact (contra_tf hc (by with_reducible assumption)).elim | exact (contra_tf (by with_reducible assumption) hc).elim | exact absurd hc (by decide))
                            all_goals
                              refine wpIn_seq ?_
                              refine wpIn_seq ?_
                              have hm0 : m = 0 := by have h5 := hc; simp only [beq_iff_eq] at h5; omega
                              rw [if_pos hm0] at hres
                              refine c_region ?_
                              refine xl_cons ?_; ((refine y_read (d := 85) hX ⟨rfl, rfl⟩ rfl (v_load hX.st rfl tab_ok rfl rfl rfl foc0 rfl) ?_; clear hX; intro a w hX))
                              refine xl_cons ?_; ((refine y_read (d := 86) hX ⟨rfl, rfl⟩ rfl (v_load hX.st rfl tab_ok rfl rfl rfl foc1 rfl) ?_; clear hX; intro a w hX))
                              refine xl_cons ?_; ((refine y_pure (d := 87) hX ⟨rfl, rfl⟩ rfl (p_len hX.st rfl tab_ok rfl rfl rfl) ?_; clear hX; intro a w hX))
                              refine xl_cons ?_; ((refine y_pure (d := 88) hX ⟨rfl, rfl⟩ rfl (p_lss hX.st rfl rfl rfl) ?_; clear hX; intro a w hX))
                              refine x_end ?_
                              refine q_then ?_
                              refine c_cond hX rfl (fun hc => ?_) (fun hc => ?_)
                              ·
                                try (first | cases hc | exact (contra_tf hc (by with_reducible assumption)).elim | exact (contra_tf (by with_reducible assumption) hc).elim | exact absurd hc (by decide))
                                all_goals
                                  refine wpIn_seq ?_
                                  refine c_region ?_
                                  refine xl_cons ?_; ((refine y_read (d := 89) hX ⟨rfl, rfl⟩ rfl (v_load hX.st rfl tab_ok rfl rfl rfl foc2 rfl) ?_; clear hX; intro a w hX))
                                  refine xl_cons ?_; (refine y_store hX rfl ⟨rfl, rfl⟩ tab_ok rfl rfl rfl rfl rfl foc2 (by repeat (first | exact SetAt.zero | apply SetAt.succ)) ?_; clear hX; intro a w hX)
                                  refine xl_cons ?_; (refine y_store hX rfl ⟨rfl, rfl⟩ tab_ok rfl rfl rfl rfl rfl foc4 (by repeat (first | exact SetAt.zero | apply SetAt.succ)) ?_; clear hX; intro a w hX)
                                  refine xl_cons ?_; (refine y_store hX rfl ⟨rfl, rfl⟩ tab_ok rfl rfl rfl rfl rfl foc5 (by repeat (first | exact SetAt.zero | apply SetAt.succ)) ?_; clear hX; intro a w hX)
                                  refine x_end ?_
                                  refine q_then ?_
                                  refine c_ret ?_
                                  refine q_then_ret ?_
                                  refine q_then_ret ?_
                                  refine q_block_ret ?_
                                  refine q_then_ret ?_
                                  refine q_block_ret ?_
                                  refine q_then_ret ?_
                                  exact read_ret (l := l) ks (H := [_, _, _, _, _, _]) hX rfl rfl rfl foc2 foc4 foc5 (Sel.cons tk3 Sel.nil) (by rw [hres, if_pos (by have h5 := hc; simp only [decide_eq_true_eq] at h5; omega)])
                              ·
                                try (first | cases hc | exact (contra_tf hc (by with_reducible assumption)).elim | exact (contra_tf (by with_reducible assumption) hc).elim | exact absurd hc (by decide))
                                all_goals
                                  refine c_skip ?_
                                  refine q_then ?_
                                  refine wpIn_seq ?_
                                  refine c_region ?_
                                  refine xl_cons ?_; ((refine y_read (d := 90) hX ⟨rfl, rfl⟩ rfl (v_load hX.st rfl tab_ok rfl rfl rfl foc2 rfl) ?_; clear hX; intro a w hX))
                                  refine xl_cons ?_; (refine y_store hX rfl ⟨rfl, rfl⟩ tab_ok rfl rfl rfl rfl rfl foc2 (by repeat (first | exact SetAt.zero | apply SetAt.succ)) ?_; clear hX; intro a w hX)
                                  refine xl_cons ?_; (refine y_store hX rfl ⟨rfl, rfl⟩ tab_ok rfl rfl rfl rfl rfl foc4 (by repeat (first | exact SetAt.zero | apply SetAt.succ)) ?_; clear hX; intro a w hX)
                                  refine xl_cons ?_; (refine y_store hX rfl ⟨rfl, rfl⟩ tab_ok rfl rfl rfl rfl rfl foc5 (by repeat (first | exact SetAt.zero | apply SetAt.succ)) ?_; clear hX; intro a w hX)
                                  refine x_end ?_
                                  refine q_then ?_
                                  refine c_ret ?_
                                  refine q_then_ret ?_
                                  refine q_block_ret ?_
                                  refine q_then_ret ?_
                                  refine q_block_ret ?_
                                  refine q_then_ret ?_
                                  exact read_ret (l := l) ks (H := [_, _, _, _, _, _]) hX rfl rfl rfl foc2 foc4 foc5 (Sel.cons tk3 Sel.nil) (by rw [hres, if_neg (by have h5 := hc; simp only [decide_eq_false_iff_not] at h5; omega)])
                          ·
                            try (first | cases hc | exact (contra_tf hc (by with_reducible assumption)).elim | exact (contra_tf (by with_reducible assumption) hc).elim | exact absurd hc (by decide))
                            all_goals
                              refine c_skip ?_
                              refine q_then ?_
                              refine wpIn_seq ?_
                              have hm0 : ¬ m = 0 := by have h5 := hc; simp only [beq_eq_false_iff_ne] at h5; omega
                              rw [if_neg hm0] at hres
                              refine c_region ?_
                              refine xl_cons ?_; ((refine y_pure (d := 91) hX ⟨rfl, rfl⟩ rfl (p_move hX.st rfl rfl) ?_; clear hX; intro a w hX))
                              refine xl_cons ?_; (refine y_makeSlice (d := 92) (m := 0) (c := m) hX rfl ⟨rfl, rfl⟩ rfl tab_ok rfl rfl rfl (z := [.int .u8 0, .int .u8 0, .int .u8 0, .int .i64 0, .int .u8 0, .int .i64 0]) rfl rfl rfl rfl rfl rfl rfl (Nat.zero_le _) (by simp only [ti53]; omega) (by omega) ?_; clear hX; intro b92 a w hX)
                              refine xl_cons ?_; (first | (refine y_alloc_agg (d := 15) hX rfl ⟨rfl, rfl⟩ rfl tab_ok rfl rfl ?_; clear hX; intro b15 a w hX) | (refine y_alloc_one (d := 15) hX rfl ⟨rfl, rfl⟩ rfl tab_ok rfl rfl rfl ?_; clear hX; intro b15 a w hX))
                              refine xl_cons ?_; (first | (refine y_store hX rfl ⟨rfl, rfl⟩ tab_ok rfl rfl rfl rfl rfl foc0 (by repeat (first | exact SetAt.zero | apply SetAt.succ)) ?_; clear hX; intro a w hX) | (refine y_store hX rfl ⟨rfl, rfl⟩ tab_ok rfl rfl rfl rfl rfl foc1 (by repeat (first | exact SetAt.zero | apply SetAt.succ)) ?_; clear hX; intro a w hX) | (refine y_store hX rfl ⟨rfl, rfl⟩ tab_ok rfl rfl rfl rfl rfl foc2 (by repeat (first | exact SetAt.zero | apply SetAt.succ)) ?_; clear hX; intro a w hX) | (refine y_store hX rfl ⟨rfl, rfl⟩ tab_ok rfl rfl rfl rfl rfl foc3 (by repeat (first | exact SetAt.zero | apply SetAt.succ)) ?_; clear hX; intro a w hX) | (refine y_store hX rfl ⟨rfl, rfl⟩ tab_ok rfl rfl rfl rfl rfl foc4 (by repeat (first | exact SetAt.zero | apply SetAt.succ)) ?_; clear hX; intro a w hX) | (refine y_store hX rfl ⟨rfl, rfl⟩ tab_ok rfl rfl rfl rfl rfl foc5 (by repeat (first | exact SetAt.zero | apply SetAt.succ)) ?_; clear hX; intro a w hX) | (refine y_store hX rfl ⟨rfl, rfl⟩ tab_ok rfl rfl rfl rfl rfl foc6 (by repeat (first | exact SetAt.zero | apply SetAt.succ)) ?_; clear hX; intro a w hX) | (refine y_store hX rfl ⟨rfl, rfl⟩ tab_ok rfl rfl rfl rfl rfl foc7 (by repeat (first | exact SetAt.zero | apply SetAt.succ)) ?_; clear hX; intro a w hX) | (refine y_store hX rfl ⟨rfl, rfl⟩ tab_ok rfl rfl rfl rfl rfl foc8 (by repeat (first | exact SetAt.zero | apply SetAt.succ)) ?_; clear hX; intro a w hX) | (refine y_store hX rfl ⟨rfl, rfl⟩ tab_ok rfl rfl rfl rfl rfl foc9 (by repeat (first | exact SetAt.zero | apply SetAt.succ)) ?_; clear hX; intro a w hX) | (refine y_store hX rfl ⟨rfl, rfl⟩ tab_ok rfl rfl rfl rfl rfl foc10 (by repeat (first | exact SetAt.zero | apply SetAt.succ)) ?_; clear hX; intro a w hX) | (refine y_store hX rfl ⟨rfl, rfl⟩ tab_ok rfl rfl rfl rfl rfl foc11 (by repeat (first | exact SetAt.zero | apply SetAt.succ)) ?_; clear hX; intro a w hX) | (refine y_store hX rfl ⟨rfl, rfl⟩ tab_ok rfl rfl rfl rfl rfl foc12 (by repeat (first | exact SetAt.zero | apply SetAt.succ)) ?_; clear hX; intro a w hX) | (refine y_store_agg hX rfl ⟨rfl, rfl⟩ tab_ok rfl rfl rfl rfl foc0 rfl rfl ?_; clear hX; intro a w hX) | (refine y_store_agg hX rfl ⟨rfl, rfl⟩ tab_ok rfl rfl rfl rfl foc1 rfl rfl ?_; clear hX; intro a w hX) | (refine y_store_agg hX rfl ⟨rfl, rfl⟩ tab_ok rfl rfl rfl rfl foc2 rfl rfl ?_; clear hX; intro a w hX) | (refine y_store_agg hX rfl ⟨rfl, rfl⟩ tab_ok rfl rfl rfl rfl foc3 rfl rfl ?_; clear hX; intro a w hX) | (refine y_store_agg hX rfl ⟨rfl, rfl⟩ tab_ok rfl rfl rfl rfl foc4 rfl rfl ?_; clear hX; intro a w hX) | (refine y_store_agg hX rfl ⟨rfl, rfl⟩ tab_ok rfl rfl rfl rfl foc5 rfl rfl ?_; clear hX; intro a w hX) | (refine y_store_agg hX rfl ⟨rfl, rfl⟩ tab_ok rfl rfl rfl rfl foc6 rfl rfl ?_; clear hX; intro a w hX) | (refine y_store_agg hX rfl ⟨rfl, rfl⟩ tab_ok rfl rfl rfl rfl foc7 rfl rfl ?_; clear hX; intro a w hX) | (refine y_store_agg hX rfl ⟨rfl, rfl⟩ tab_ok rfl rfl rfl rfl foc8 rfl rfl ?_; clear hX; intro a w hX) | (refine y_store_agg hX rfl ⟨rfl, rfl⟩ tab_ok rfl rfl rfl rfl foc9 rfl rfl ?_; clear hX; intro a w hX) | (refine y_store_agg hX rfl ⟨rfl, rfl⟩ tab_ok rfl rfl rfl rfl foc10 rfl rfl ?_; clear hX; intro a w hX) | (refine y_store_agg hX rfl ⟨rfl, rfl⟩ tab_ok rfl rfl rfl rfl foc11 rfl rfl ?_; clear hX; intro a w hX) | (refine y_store_agg hX rfl ⟨rfl, rfl⟩ tab_ok rfl rfl rfl rfl foc12 rfl rfl ?_; clear hX; intro a w hX))
                              refine x_end ?_
                              refine q_then ?_
                              refine wpIn_seq ?_
                              refine wpIn_seq ?_
                              refine c_region ?_
                              refine xl_cons ?_; ((refine y_pure (d := 93) hX ⟨rfl, rfl⟩ rfl (p_move hX.st rfl rfl) ?_; clear hX; intro a w hX))
                              refine xl_cons ?_; (refine y_pure (d := 94) hX ⟨rfl, rfl⟩ rfl (p_sliceFrom (l := 1) hX.st rfl tab_ok rfl rfl rfl rfl rfl rfl (by omega)) ?_; clear hX; intro a w hX; have hX := hX.toL (L' := [(94, .slice (some ⟨bb, pp + (p + 1), none⟩) (3 * m) (c - p - 1)), (10, .int .i64 m), (15, .pointer (some ⟨b15, 0, none⟩)), (1, .pointer (some ⟨b1, 0, none⟩)), (2, .pointer (some ⟨b2, 0, none⟩)), (3, .pointer (some ⟨b3, 0, none⟩)), (4, .pointer (some ⟨b4, 0, none⟩)), (5, .pointer (some ⟨b5, 0, none⟩)), (6, .func (.func 35) #[] #[.pointer (some ⟨b1, 0, none⟩), .pointer (some ⟨b5, 0, none⟩)])]) (Sub.cons (look_val rfl (by rw [cutA, if_neg (by omega), show 1 + 3 * m - 1 = 3 * m by omega, Option.map_some, Addr.add_lit, show pp + p * 1 + 1 * ti5.size = pp + (p + 1) by simp only [ti5]; omega])) (by repeat (first | exact Sub.nil | refine Sub.cons rfl ?_))))
                              refine xl_cons ?_; (refine y_callC2 (d := 95) hX rfl ⟨rfl, rfl⟩ rfl Try.func36 rfl rfl rfl (chunk36_call _ _ _ _) ?_; clear hX; intro x a w _ hX)
                              refine x_end ?_
                              refine q_then ?_
                              refine c_block ?_
                              have hCs := (hX.sh.ok (.cel x.1 [.slice (some ⟨bb, pp + (p + 1), none⟩) (3 * m) (c - p - 1)] 22) (by simp)).2
                              have hCn := (hX.sh.ok (.cel x.2 [.int .i64 3] 3) (by simp)).2
                              have hks : ∀ k ∈ ks, k < w.heap.size := fun k hk => ((hX.sh.ok (mk k) (by repeat (first | exact List.mem_map.2 ⟨k, hk, rfl⟩ | refine List.mem_cons_of_mem _ ?_))).lt rfl).2
                              have hsafe : ∀ c ∈ ks.map mk, c.safe w.heap.size := fun c hc => by
                                obtain ⟨k, hk, rfl⟩ := List.mem_map.1 hc
                                exact .inr fun b e => by have : k = b := Option.some.inj e; subst this; exact hks k hk
                              refine c_range (α := { i : Nat // i * 3 < 3 * m }) (β := Option Addr × Nat) hX rfl (fun args w => run_callFunc Try.func41 rfl rfl) [.cel x.1 [.slice (some ⟨bb, pp + (p + 1), none⟩) (3 * m) (c - p - 1)] 22, .cel x.2 [.int .i64 3] 3] (by intro c hc; simp only [List.mem_cons, List.not_mem_nil, or_false] at hc; rcases hc with rfl | rfl <;> exact ⟨_, _, _, rfl⟩) (by intro c hc; simp only [List.mem_cons, List.not_mem_nil, or_false] at hc ⊢; rcases hc with rfl | rfl <;> simp) (chunk36_seq (some ⟨bb, pp + (p + 1), none⟩) (3 * m) (c - p - 1) x.1 x.2 (by omega) (by omega) w hCs hCn) (fun _ => rfl)
                                (fun pre y => .cel b15 [.slice y.1 pre.length y.2] 30 :: .row y.1 y.2 53 6 pre.length (opsC (pre.map fun i => opAt (l.drop (p + 1)) i.1)) :: .cel b5 [.int .i64 ((p + (1 + 3 * m) + 2 : Nat) : Int)] 3 :: .cel b1 [.slice (some ⟨bb, pp, none⟩) l.length c] 22 :: .cel b2 [.slice A1 acc.length c1] 30 :: .row A1 c1 53 6 acc.length (opsC acc) :: .cel b3 [.bool false] 4 :: .cel b4 [.int .i64 0] 34 :: .cel x.1 [.slice (some ⟨bb, pp + (p + 1), none⟩) (3 * m) (c - p - 1)] 22 :: .cel x.2 [.int .i64 3] 3 :: ks.map mk)
                                (fun _ _ => .cel b2 [.slice A1 acc.length c1] 30 :: .row A1 c1 53 6 acc.length (opsC acc) :: .cel b3 [.bool false] 4 :: .cel b4 [.int .i64 4] 34 :: ks.map mk) (fun pre _ => ∀ i ∈ pre, okAt (l.drop (p + 1)) i.1 = true) (fun pre _ => ∃ i ∈ pre, okAt (l.drop (p + 1)) i.1 = false)
                                (by intro xs y c hc; simp only [List.mem_cons, List.not_mem_nil, or_false] at hc ⊢; rcases hc with rfl | rfl <;> simp) (by intro xs y c hc; simp only [List.mem_cons] at hc; rcases hc with rfl | rfl | rfl | rfl | rfl | rfl | rfl | rfl | rfl | rfl | hc <;> first | exact .inl rfl | exact hsafe _ hc) (by intro xs y c hc; simp only [List.mem_cons] at hc; rcases hc with rfl | rfl | rfl | rfl | hc <;> first | exact .inl rfl | exact hsafe _ hc)
                                (some ⟨b92, 0, none⟩, m) (by intro i hi; cases hi) (hX.sh.sel (Sel.cons tk2 (Sel.consE tk2 (by simp [zeros, opsC, ti53]) (Sel.cons tk2 (Sel.cons tk2 (Sel.cons tk2 (Sel.cons tk2 (Sel.cons tk2 (Sel.cons tk2 (Sel.cons tk0 (Sel.cons tk0 (Sel.refl _)))))))))))) (fun i => [(96, chunkV36 (some ⟨bb, pp + (p + 1), none⟩) (3 * m) i.1), (2, .pointer (some ⟨b2, 0, none⟩)), (3, .pointer (some ⟨b3, 0, none⟩)), (4, .pointer (some ⟨b4, 0, none⟩)), (15, .pointer (some ⟨b15, 0, none⟩))]) (fun i => [(16, .slice (some ⟨bb, pp + (p + 1) + i.1 * 3 * 1, none⟩) 3 3), (2, .pointer (some ⟨b2, 0, none⟩)), (3, .pointer (some ⟨b3, 0, none⟩)), (4, .pointer (some ⟨b4, 0, none⟩)), (15, .pointer (some ⟨b15, 0, none⟩))]) (fun i a0 ht hd => hX.st.param (p := 96) (x := chunkV36 (some ⟨bb, pp + (p + 1), none⟩) (3 * m) i.1) rfl (by repeat (first | exact Sub.nil | refine Sub.cons rfl ?_)) (by rw [ht]; simp) hd) ?_ ?_ ?_ ?_
                              ·
                                intro l x H0 a W hX
                                refine c_region ?_
                                refine xl_cons ?_; ((refine y_pure (d := 16) hX ⟨rfl, rfl⟩ rfl (p_assign hX.st rfl rfl) ?_; clear hX; intro a w hX))
                                refine x_end ?_
                                exact ⟨rfl, hX.to (Sub.cons (look_val rfl (chunkV36_eq _ _ _ _ x.2)) (by repeat (first | exact Sub.nil | refine Sub.cons rfl ?_))) (Sel.refl _)⟩
                              ·
                                clear hX hCs hCn hks hsafe a w
                                rintro l1 pre i ⟨A5, c5⟩ a W1 hok hpre hs hX
                                have hi := i.2
                                have hRb : Reads W1 (some ⟨bb, pp + (p + 1) + i.1 * 3 * 1, none⟩) 3 1 ([(l.drop (p + 1)).getD (3 * i.1) 0, (l.drop (p + 1)).getD (3 * i.1 + 1) 0, (l.drop (p + 1)).getD (3 * i.1 + 2) 0].map byteV) := by
                                  refine Reads.old hs ⟨rfl, fun _ => ⟨bb, _, rfl, fun j u hu => ?_⟩⟩
                                  have hd : ∀ k, (l.drop (p + 1)).getD k 0 = l.getD (p + 1 + k) 0 := fun k => by simp [List.getD_eq_getElem?_getD]
                                  rw [hd, hd, hd] at hu
                                  match j, hu with
                                  | 0, hu => rw [show pp + (p + 1) + i.1 * 3 * 1 + 0 = pp + (p + 1 + 3 * i.1) by omega, hcell _ (by omega)]; exact hu
                                  | 1, hu => rw [show pp + (p + 1) + i.1 * 3 * 1 + 1 = pp + (p + 1 + (3 * i.1 + 1)) by omega, hcell _ (by omega)]; exact hu
                                  | 2, hu => rw [show pp + (p + 1) + i.1 * 3 * 1 + 2 = pp + (p + 1 + (3 * i.1 + 2)) by omega, hcell _ (by omega)]; exact hu
                                have hop : opAt (l.drop (p + 1)) i.1 = decOp ((l.drop (p + 1)).getD (3 * i.1) 0).toNat ((l.drop (p + 1)).getD (3 * i.1 + 1) 0).toNat ((l.drop (p + 1)).getD (3 * i.1 + 2) 0).toNat := rfl
                                have hokA : okAt (l.drop (p + 1)) i.1 = decOk ((l.drop (p + 1)).getD (3 * i.1) 0).toNat ((l.drop (p + 1)).getD (3 * i.1 + 1) 0).toNat ((l.drop (p + 1)).getD (3 * i.1 + 2) 0).toNat := rfl
                                dsimp only at hX hs
                                have hpm : (pre.map fun i => opAt (l.drop (p + 1)) i.1).length = pre.length := by simp
                                have hB2 := hs.restB hbb
                                revert hX
                                dsimp only at ⊢
                                generalize hBe : Rest W1 _ = B2 at hB2
                                intro hX
                                refine c_block ?_
                                refine wpIn_seq ?_
                                refine c_region ?_
                                refine xl_cons ?_; ((refine y_pure (d := 98) hX ⟨rfl, rfl⟩ rfl (p_move hX.st rfl rfl) ?_; clear hX; intro a w hX))
                                refine xl_cons ?_; (refine y_callP (d := 99) hX rfl ⟨rfl, rfl⟩ rfl Try.func37 rfl rfl rfl (by have hg := get_op (some ⟨bb, pp + (p + 1) + i.1 * 3 * 1, none⟩) 3 _ _ _ w (Reads.held hX.sh hRb hB2); rw [← hop, ← hokA] at hg; exact hg) ?_; clear hX; intro a w hX)
                                refine xl_cons ?_; ((refine y_pure (d := 97) hX ⟨rfl, rfl⟩ rfl (p_move hX.st rfl rfl) ?_; clear hX; intro a w hX))
                                refine xl_cons ?_; ((refine y_pure (d := 100) hX ⟨rfl, rfl⟩ rfl (p_extract hX.st rfl rfl rfl) ?_; clear hX; intro a w hX))
                                refine xl_cons ?_; ((refine y_pure (d := 101) hX ⟨rfl, rfl⟩ rfl (p_extract hX.st rfl rfl rfl) ?_; clear hX; intro a w hX))
                                refine xl_cons ?_; (first | (refine y_alloc_agg (d := 17) hX rfl ⟨rfl, rfl⟩ rfl tab_ok rfl rfl ?_; clear hX; intro b17 a w hX) | (refine y_alloc_one (d := 17) hX rfl ⟨rfl, rfl⟩ rfl tab_ok rfl rfl rfl ?_; clear hX; intro b17 a w hX))
                                refine xl_cons ?_; (first | (refine y_store_agg hX rfl ⟨rfl, rfl⟩ tab_ok rfl rfl rfl rfl foc0 rfl rfl ?_; clear hX; intro a w hX) | (refine y_store_put hX rfl ⟨rfl, rfl⟩ tab_ok rfl rfl rfl rfl foc0 rfl (by (try dsimp only); repeat (first | exact PutAt.nil | apply PutAt.cons | apply PutAt.skip)) ?_; clear hX; intro a w hX))
                                refine xl_cons ?_; ((refine y_pure (d := 18) hX ⟨rfl, rfl⟩ rfl (p_assign hX.st rfl rfl) ?_; clear hX; intro a w hX))
                                refine x_end ?_
                                refine q_then ?_
                                refine wpIn_seq ?_
                                refine wpIn_seq ?_
                                refine c_region ?_
                                refine xl_cons ?_; ((refine y_pure (d := 102) hX ⟨rfl, rfl⟩ rfl (p_move hX.st rfl rfl) ?_; clear hX; intro a w hX))
                                refine xl_cons ?_; ((refine y_pure (d := 103) hX ⟨rfl, rfl⟩ rfl (p_not hX.st rfl rfl) ?_; clear hX; intro a w hX))
                                refine x_end ?_
                                refine q_then ?_
                                refine c_cond hX rfl (fun hc => ?_) (fun hc => ?_)
                                ·
                                  try (first | cases hc | exact (contra_tf hc (by with_reducible assumption)).elim | exact (contra_tf (by with_reducible assumption) hc).elim | exact absurd hc (by decide))
                                  all_goals
                                    refine wpIn_seq ?_
                                    refine c_region ?_
                                    refine xl_cons ?_; ((refine y_read (d := 104) hX ⟨rfl, rfl⟩ rfl (v_load hX.st rfl tab_ok rfl rfl rfl foc5 rfl) ?_; clear hX; intro a w hX))
                                    refine xl_cons ?_; (refine y_store hX rfl ⟨rfl, rfl⟩ tab_ok rfl rfl rfl rfl rfl foc5 (by repeat (first | exact SetAt.zero | apply SetAt.succ)) ?_; clear hX; intro a w hX)
                                    refine xl_cons ?_; (refine y_store hX rfl ⟨rfl, rfl⟩ tab_ok rfl rfl rfl rfl rfl foc7 (by repeat (first | exact SetAt.zero | apply SetAt.succ)) ?_; clear hX; intro a w hX)
                                    refine xl_cons ?_; (refine y_store hX rfl ⟨rfl, rfl⟩ tab_ok rfl rfl rfl rfl rfl foc8 (by repeat (first | exact SetAt.zero | apply SetAt.succ)) ?_; clear hX; intro a w hX)
                                    refine x_end ?_
                                    refine q_then ?_
                                    refine c_ret ?_
                                    refine q_then_ret ?_
                                    refine q_block_ret ?_
                                    refine ⟨(A5, c5), ⟨i, by simp, by simpa using hc⟩, ?_⟩
                                    rw [hBe]
                                    exact hX.sh.sel (Sel.cons tk5 (Sel.cons tk5 (Sel.cons tk5 (Sel.cons tk5 (by with_reducible (repeat (first | exact Sel.refl _ | refine Sel.skip ?_)))))))
                                ·
                                  try (first | cases hc | exact (contra_tf hc (by with_reducible assumption)).elim | exact (contra_tf (by with_reducible assumption) hc).elim | exact absurd hc (by decide))
                                  all_goals
                                    refine c_skip ?_
                                    refine q_then ?_
                                    refine c_region ?_
                                    refine xl_cons ?_; ((refine y_read (d := 105) hX ⟨rfl, rfl⟩ rfl (v_load hX.st rfl tab_ok rfl rfl rfl foc1 rfl) ?_; clear hX; intro a w hX))
                                    refine xl_cons ?_; ((refine y_read (d := 106) hX ⟨rfl, rfl⟩ rfl (v_load_whole hX.st rfl tab_ok rfl rfl rfl foc0 rfl) ?_; clear hX; intro a w hX))
                                    refine xl_cons ?_; (refine y_buildSlice1 (d := 107) hX rfl ⟨rfl, rfl⟩ rfl tab_ok rfl rfl rfl rfl rfl rfl rfl rfl rfl ?_; clear hX; intro b a w hX)
                                    refine xl_cons ?_; (first | (refine y_append_cel (d := 108) hX rfl ⟨rfl, rfl⟩ rfl tab_ok rfl rfl rfl rfl rfl rfl rfl foc1 foc0 rfl rfl (by first | omega | (simp only [ti5, ti3, ti53]; omega)) (by first | omega | (simp only [ti5, ti3, ti53]; omega)) ?_; clear hX; intro A6 c6 a w hX) | (refine y_append_cel (d := 108) hX rfl ⟨rfl, rfl⟩ rfl tab_ok rfl rfl rfl rfl rfl rfl rfl foc2 foc0 rfl rfl (by first | omega | (simp only [ti5, ti3, ti53]; omega)) (by first | omega | (simp only [ti5, ti3, ti53]; omega)) ?_; clear hX; intro A6 c6 a w hX) | (refine y_append_cel (d := 108) hX rfl ⟨rfl, rfl⟩ rfl tab_ok rfl rfl rfl rfl rfl rfl rfl foc3 foc0 rfl rfl (by first | omega | (simp only [ti5, ti3, ti53]; omega)) (by first | omega | (simp only [ti5, ti3, ti53]; omega)) ?_; clear hX; intro A6 c6 a w hX) | (refine y_append_cel (d := 108) hX rfl ⟨rfl, rfl⟩ rfl tab_ok rfl rfl rfl rfl rfl rfl rfl foc4 foc0 rfl rfl (by first | omega | (simp only [ti5, ti3, ti53]; omega)) (by first | omega | (simp only [ti5, ti3, ti53]; omega)) ?_; clear hX; intro A6 c6 a w hX) | (refine y_append_cel (d := 108) hX rfl ⟨rfl, rfl⟩ rfl tab_ok rfl rfl rfl rfl rfl rfl rfl foc0 foc1 rfl rfl (by first | omega | (simp only [ti5, ti3, ti53]; omega)) (by first | omega | (simp only [ti5, ti3, ti53]; omega)) ?_; clear hX; intro A6 c6 a w hX) | (refine y_append_cel (d := 108) hX rfl ⟨rfl, rfl⟩ rfl tab_ok rfl rfl rfl rfl rfl rfl rfl foc2 foc1 rfl rfl (by first | omega | (simp only [ti5, ti3, ti53]; omega)) (by first | omega | (simp only [ti5, ti3, ti53]; omega)) ?_; clear hX; intro A6 c6 a w hX) | (refine y_append_cel (d := 108) hX rfl ⟨rfl, rfl⟩ rfl tab_ok rfl rfl rfl rfl rfl rfl rfl foc3 foc1 rfl rfl (by first | omega | (simp only [ti5, ti3, ti53]; omega)) (by first | omega | (simp only [ti5, ti3, ti53]; omega)) ?_; clear hX; intro A6 c6 a w hX) | (refine y_append_cel (d := 108) hX rfl ⟨rfl, rfl⟩ rfl tab_ok rfl rfl rfl rfl rfl rfl rfl foc4 foc1 rfl rfl (by first | omega | (simp only [ti5, ti3, ti53]; omega)) (by first | omega | (simp only [ti5, ti3, ti53]; omega)) ?_; clear hX; intro A6 c6 a w hX) | (refine y_append_cel (d := 108) hX rfl ⟨rfl, rfl⟩ rfl tab_ok rfl rfl rfl rfl rfl rfl rfl foc0 foc2 rfl rfl (by first | omega | (simp only [ti5, ti3, ti53]; omega)) (by first | omega | (simp only [ti5, ti3, ti53]; omega)) ?_; clear hX; intro A6 c6 a w hX) | (refine y_append_cel (d := 108) hX rfl ⟨rfl, rfl⟩ rfl tab_ok rfl rfl rfl rfl rfl rfl rfl foc1 foc2 rfl rfl (by first | omega | (simp only [ti5, ti3, ti53]; omega)) (by first | omega | (simp only [ti5, ti3, ti53]; omega)) ?_; clear hX; intro A6 c6 a w hX) | (refine y_append_cel (d := 108) hX rfl ⟨rfl, rfl⟩ rfl tab_ok rfl rfl rfl rfl rfl rfl rfl foc3 foc2 rfl rfl (by first | omega | (simp only [ti5, ti3, ti53]; omega)) (by first | omega | (simp only [ti5, ti3, ti53]; omega)) ?_; clear hX; intro A6 c6 a w hX) | (refine y_append_cel (d := 108) hX rfl ⟨rfl, rfl⟩ rfl tab_ok rfl rfl rfl rfl rfl rfl rfl foc4 foc2 rfl rfl (by first | omega | (simp only [ti5, ti3, ti53]; omega)) (by first | omega | (simp only [ti5, ti3, ti53]; omega)) ?_; clear hX; intro A6 c6 a w hX))
                                    refine xl_cons ?_; (refine y_store hX rfl ⟨rfl, rfl⟩ tab_ok rfl rfl rfl rfl rfl foc2 (by repeat (first | exact SetAt.zero | apply SetAt.succ)) ?_; clear hX; intro a w hX)
                                    refine x_end ?_
                                    refine q_block ?_
                                    refine ⟨(A6, c6), fun j hj => ?_, ?_⟩
                                    · rcases List.mem_append.1 hj with hj | hj
                                      · exact hok j hj
                                      · simp only [List.mem_cons, List.not_mem_nil, or_false] at hj
                                        subst hj
                                        simpa using hc
                                    · rw [hBe]
                                      exact hX.sh.sel (Sel.consE tk2 (cel_eq (congrArg (fun x => [x]) (slice_eq (by simp)))) (Sel.consE tk2 (row_eq (by simp) (by simp [opsC])) (by with_reducible (repeat (first | exact Sel.refl _ | refine Sel.skip ?_)))))
                              ·
                                intro k xs y a w hS hok hX
                                rw [show (3 * m + 2) / 3 = m by omega] at hS
                                have hlen : xs.length = m := by have := congrArg List.length hS; simpa using this
                                have hmap : xs.map (fun i => opAt (l.drop (p + 1)) i.1) = (List.range m).map (opAt (l.drop (p + 1))) := by rw [← hS, List.map_map]; rfl
                                have hall : (List.range m).all (okAt (l.drop (p + 1))) = true := by
                                  rw [← hS, List.all_map, List.all_eq_true]
                                  exact hok
                                rw [hmap, hlen] at hX
                                rw [if_pos hall] at hres
                                clear hCs hCn
                                refine q_block ?_
                                refine q_then ?_
                                refine wpIn_seq ?_
                                refine wpIn_seq ?_
                                refine c_region ?_
                                refine xl_cons ?_; ((refine y_read (d := 109) hX ⟨rfl, rfl⟩ rfl (v_load hX.st rfl tab_ok rfl rfl rfl foc5 rfl) ?_; clear hX; intro a w hX))
                                refine xl_cons ?_; ((refine y_pure (d := 110) hX ⟨rfl, rfl⟩ rfl (p_len hX.st rfl tab_ok rfl rfl rfl) ?_; clear hX; intro a w hX))
                                refine xl_cons ?_; ((refine y_pure (d := 111) hX ⟨rfl, rfl⟩ rfl (p_move hX.st rfl rfl) ?_; clear hX; intro a w hX))
                                refine xl_cons ?_; (first | (refine y_pure (d := 112) hX ⟨rfl, rfl⟩ rfl (p_add hX.st rfl rfl rfl (in_i64 (by omega) (by omega))) ?_; clear hX; intro a w hX) | (refine y_pure (d := 112) hX ⟨rfl, rfl⟩ rfl (p_add hX.st rfl rfl rfl rfl) ?_; clear hX; intro a w hX))
                                refine xl_cons ?_; ((refine y_pure (d := 113) hX ⟨rfl, rfl⟩ rfl (p_gtr hX.st rfl rfl rfl) ?_; clear hX; intro a w hX))
                                refine x_end ?_
                                refine q_then ?_
                                refine c_cond hX rfl (fun hc => ?_) (fun hc => ?_)
                                ·
                                  try (first | cases hc | exact (contra_tf hc (by with_reducible assumption)).elim | exact (contra_tf (by with_reducible assumption) hc).elim | exact absurd hc (by decide))
                                  all_goals
                                    refine wpIn_seq ?_
                                    refine c_region ?_
                                    refine xl_cons ?_; ((refine y_read (d := 114) hX ⟨rfl, rfl⟩ rfl (v_load hX.st rfl tab_ok rfl rfl rfl foc5 rfl) ?_; clear hX; intro a w hX))
                                    refine xl_cons ?_; (refine y_store hX rfl ⟨rfl, rfl⟩ tab_ok rfl rfl rfl rfl rfl foc5 (by repeat (first | exact SetAt.zero | apply SetAt.succ)) ?_; clear hX; intro a w hX)
                                    refine xl_cons ?_; (refine y_store hX rfl ⟨rfl, rfl⟩ tab_ok rfl rfl rfl rfl rfl foc7 (by repeat (first | exact SetAt.zero | apply SetAt.succ)) ?_; clear hX; intro a w hX)
                                    refine xl_cons ?_; (refine y_store hX rfl ⟨rfl, rfl⟩ tab_ok rfl rfl rfl rfl rfl foc8 (by repeat (first | exact SetAt.zero | apply SetAt.succ)) ?_; clear hX; intro a w hX)
                                    refine x_end ?_
                                    refine q_then ?_
                                    refine c_ret ?_
                                    refine q_then_ret ?_
                                    refine q_block_ret ?_
                                    refine q_then_ret ?_
                                    refine q_block_ret ?_
                                    refine q_then_ret ?_
                                    refine read_ret (l := l) (k :: ks) (H := [_, _, _, _]) (hX.toH (Sel.cons tk5 (Sel.cons tk5 (Sel.cons tk5 (Sel.cons tk5 (Sel.cons tk0 (by with_reducible (repeat (first | exact Sel.refl _ | refine Sel.skip ?_))))))))) rfl rfl rfl foc0 foc2 foc3 (Sel.cons tk1 Sel.nil) ?_
                                    rw [hres, if_pos (by have h5 := hc; simp only [decide_eq_true_eq] at h5; omega)]
                                ·
                                  try (first | cases hc | exact (contra_tf hc (by with_reducible assumption)).elim | exact (contra_tf (by with_reducible assumption) hc).elim | exact absurd hc (by decide))
                                  all_goals
                                    refine c_skip ?_
                                    refine q_then ?_
                                    have h4096 : acc.length + m ≤ 4096 := by have h5 := hc; simp only [decide_eq_false_iff_not] at h5; omega
                                    rw [if_neg (by omega)] at hres
                                    refine c_region ?_
                                    refine xl_cons ?_; ((refine y_read (d := 115) hX ⟨rfl, rfl⟩ rfl (v_load hX.st rfl tab_ok rfl rfl rfl foc5 rfl) ?_; clear hX; intro a w hX))
                                    refine xl_cons ?_; ((refine y_read (d := 116) hX ⟨rfl, rfl⟩ rfl (v_load hX.st rfl tab_ok rfl rfl rfl foc1 rfl) ?_; clear hX; intro a w hX))
                                    refine xl_cons ?_; (refine y_append (d := 117) hX rfl ⟨rfl, rfl⟩ rfl tab_ok rfl rfl rfl rfl rfl rfl rfl foc6 (Reads.row hX.sh foc2) (opsC_one _) (by simp only [ti53]; omega) (by omega) ?_; clear hX; intro A7 c7 a w hX)
                                    refine xl_cons ?_; (refine y_store hX rfl ⟨rfl, rfl⟩ tab_ok rfl rfl rfl rfl rfl foc5 (by repeat (first | exact SetAt.zero | apply SetAt.succ)) ?_; clear hX; intro a w hX)
                                    refine x_end ?_
                                    refine q_block ?_
                                    refine q_then ?_
                                    exact ⟨⟨p + 3 + 3 * m, acc ++ (List.range m).map (opAt (l.drop (p + 1))), A7, c7, k :: ks, f⟩, ⟨by dsimp only; omega, by dsimp only; rw [List.length_append, List.length_map, List.length_range]; omega, by dsimp only; omega, hres⟩, by dsimp only; omega,
                                    hX.to (by repeat (first | exact Sub.nil | refine Sub.cons rfl ?_)) (Sel.consE tk3 (cel_eq (congrArg (fun x => [Value.int .i64 x]) (by dsimp only; omega))) (Sel.cons tk3 (Sel.consE tk3 (cel_eq (congrArg (fun x => [x]) (slice_eq (by simp)))) (Sel.consE tk3 (row_eq (by simp) (by simp [opsC])) (Sel.cons tk3 (Sel.cons tk3 (Sel.cons tk0 (by with_reducible (repeat (first | exact Sel.refl _ | refine Sel.skip ?_))))))))))⟩
                              ·
                                intro k xs y a w hS hφ hX
                                refine q_block_ret ?_
                                refine q_then_ret ?_
                                refine q_block_ret ?_
                                refine q_then_ret ?_
                                refine q_block_ret ?_
                                refine q_then_ret ?_
                                refine read_ret (l := l) (k :: ks) (H := [_, _, _, _]) (hX.toH (Sel.cons tk1 (Sel.cons tk1 (Sel.cons tk1 (Sel.cons tk1 (Sel.cons tk0 (by with_reducible (repeat (first | exact Sel.refl _ | refine Sel.skip ?_))))))))) rfl rfl rfl foc0 foc2 foc3 (Sel.cons tk1 Sel.nil) ?_
                                obtain ⟨i, _, hi⟩ := hφ
                                rw [hres, if_neg (by rw [all_false (by have := i.2; omega) hi]; simp)]
        ·
          try (first | cases hc | exact (contra_tf hc (by with_reducible assumption)).elim | exact (contra_tf (by with_reducible assumption) hc).elim | exact absurd hc (by decide))
          all_goals
            refine c_exit ?_
            refine q_then_exit ?_
            refine q_then_exit ?_
            refine q_block_exit ?_
            refine q_then ?_
            refine wpIn_seq ?_
            refine c_region ?_
            refine xl_cons ?_; ((refine y_read (d := 118) hX ⟨rfl, rfl⟩ rfl (v_load hX.st rfl tab_ok rfl rfl rfl foc2 rfl) ?_; clear hX; intro a w hX))
            refine xl_cons ?_; (refine y_store hX rfl ⟨rfl, rfl⟩ tab_ok rfl rfl rfl rfl rfl foc2 (by repeat (first | exact SetAt.zero | apply SetAt.succ)) ?_; clear hX; intro a w hX)
            refine xl_cons ?_; (refine y_store hX rfl ⟨rfl, rfl⟩ tab_ok rfl rfl rfl rfl rfl foc4 (by repeat (first | exact SetAt.zero | apply SetAt.succ)) ?_; clear hX; intro a w hX)
            refine xl_cons ?_; (refine y_store hX rfl ⟨rfl, rfl⟩ tab_ok rfl rfl rfl rfl rfl foc5 (by repeat (first | exact SetAt.zero | apply SetAt.succ)) ?_; clear hX; intro a w hX)
            refine x_end ?_
            refine q_then ?_
            refine c_ret ?_
            have hpe : p = l.length := by have h5 := hc; simp only [decide_eq_false_iff_not] at h5; omega
            refine read_ret (l := l) ks (H := [.cel b5 [.int .i64 p] 3, .cel b1 [.slice A l.length c] 22, .cel b2 [.slice A1 acc.length c1] 30, .row A1 c1 53 6 acc.length (opsC acc), .cel b3 [.bool true] 4, .cel b4 [.int .i64 4] 34]) hX rfl rfl rfl foc2 foc4 foc5 (Sel.cons tk3 Sel.nil) ?_
            rw [hres, hpe, List.drop_length]
            cases f <;> simp [readF]
end Go.Proofs.Ytjemilhbipaepaa
