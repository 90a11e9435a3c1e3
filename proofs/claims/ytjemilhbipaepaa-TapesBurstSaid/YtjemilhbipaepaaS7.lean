/- slices.Chunk: parts of a slice, one after another. -/
import Derived.Test.YtjemilhbipaepaaX13
import Derived.Test.YtjemilhbipaepaaS6
namespace Go.Proofs.Ytjemilhbipaepaa
open Go.RowKit

/-! #### 32 at a time, type 30 -/
theorem chunk33_call (A : Option Addr) (m c : Nat) (W : World) :
    Ret Try.prog 33 #[.slice A m c, .int .i64 32] W fun v w' => ∃ x : Nat × Nat, v = .func (.func 40) #[] #[.pointer (some ⟨x.1, 0, none⟩), .pointer (some ⟨x.2, 0, none⟩)] ∧ True ∧ SF W [.cel x.1 [.slice A m c] 30, .cel x.2 [.int .i64 32] 3] w' := by
  refine f_start (vs := [.slice A m c, .int .i64 32]) [(0, .slice A m c), (1, .int .i64 32)] Try.func33 rfl Try.ntmps33 rfl rfl ?_
  intro a hX
  refine wpIn_seq ?_
  refine c_region ?_
  refine xl_cons ?_; (first | (refine y_box_agg (d := 2) hX rfl ⟨rfl, rfl⟩ rfl rfl ?_; clear hX; intro b a w hX) | (refine y_box_one (d := 2) hX rfl ⟨rfl, rfl⟩ rfl rfl rfl ?_; clear hX; intro b a w hX))
  refine xl_cons ?_; (first | (refine y_box_agg (d := 3) hX rfl ⟨rfl, rfl⟩ rfl rfl ?_; clear hX; intro b a w hX) | (refine y_box_one (d := 3) hX rfl ⟨rfl, rfl⟩ rfl rfl rfl ?_; clear hX; intro b a w hX))
  refine xl_cons ?_; ((refine y_pure (d := 4) hX ⟨rfl, rfl⟩ rfl (p_assign hX.st rfl rfl) ?_; clear hX; intro a w hX))
  refine x_end ?_
  rename_i b1 _ _ _ _
  refine q_then ?_
  refine wpIn_seq ?_
  refine wpIn_seq ?_
  refine c_region ?_
  refine xl_cons ?_; ((refine y_read (d := 5) hX ⟨rfl, rfl⟩ rfl (v_load hX.st rfl tab_ok rfl rfl rfl foc0 rfl) ?_; clear hX; intro a w hX))
  refine xl_cons ?_; ((refine y_pure (d := 6) hX ⟨rfl, rfl⟩ rfl (p_lss hX.st rfl rfl rfl) ?_; clear hX; intro a w hX))
  refine x_end ?_
  refine q_then ?_
  refine c_cond hX rfl (fun hc => ?_) (fun hc => ?_)
  ·
    try (first | cases hc | exact (contra_tf hc (by with_reducible assumption)).elim | exact (contra_tf (by with_reducible assumption) hc).elim | exact absurd hc (by decide))
    all_goals
      refine c_region ?_
      refine xl_cons ?_; (exact absurd hc (by decide))
      refine xl_cons ?_; (fail)
      refine x_end ?_
      refine q_then ?_
      refine wpIn_seq ?_
      refine c_region ?_
      refine xl_cons ?_; ((refine y_pure (d := 8) hX ⟨rfl, rfl⟩ rfl (p_makeFunc hX.st rfl rfl) ?_; clear hX; intro a w hX))
      refine xl_cons ?_; ((refine y_pure (d := 4) hX ⟨rfl, rfl⟩ rfl (p_assign hX.st rfl rfl) ?_; clear hX; intro a w hX))
      refine x_end ?_
      refine q_then ?_
      refine c_ret ?_
      exact f_ret1 hX Try.results33 rfl ⟨(b1, b), rfl, trivial, hX.sh.sel (Sel.cons tk1 (Sel.cons tk0 Sel.nil))⟩
  ·
    try (first | cases hc | exact (contra_tf hc (by with_reducible assumption)).elim | exact (contra_tf (by with_reducible assumption) hc).elim | exact absurd hc (by decide))
    all_goals
      refine c_skip ?_
      refine q_then ?_
      refine wpIn_seq ?_
      refine c_region ?_
      refine xl_cons ?_; ((refine y_pure (d := 8) hX ⟨rfl, rfl⟩ rfl (p_makeFunc hX.st rfl rfl) ?_; clear hX; intro a w hX))
      refine xl_cons ?_; ((refine y_pure (d := 4) hX ⟨rfl, rfl⟩ rfl (p_assign hX.st rfl rfl) ?_; clear hX; intro a w hX))
      refine x_end ?_
      refine q_then ?_
      refine c_ret ?_
      exact f_ret1 hX Try.results33 rfl ⟨(b1, b), rfl, trivial, hX.sh.sel (Sel.cons tk1 (Sel.cons tk0 Sel.nil))⟩
def chunkV33 (A : Option Addr) (m : Nat) (i : Nat) : Value := .slice (cutA A (i * 32) 6 (i * 32 + min 32 (m - i * 32))) (min 32 (m - i * 32)) (min 32 (m - i * 32))
theorem chunk33_seq (A : Option Addr) (m c bs bn : Nat) (hmc : m ≤ c) (hm : m ≤ 4611686018427387904) (w : World) (hs : w.heap[bs]? = some (.cells #[.slice A m c] 30)) (hn : w.heap[bn]? = some (.cells #[.int .i64 32] 3)) :
    SeqStopsK Fence.wide 1 Try.prog 40 #[.pointer (some ⟨bs, 0, none⟩), .pointer (some ⟨bn, 0, none⟩)] (fun i : { i : Nat // i * 32 < m } => #[chunkV33 A m i.1]) (KO (Ats [.cel bs [.slice A m c] 30, .cel bn [.int .i64 32] 3]))
      (fun xs => xs.map (·.1) = List.range ((m + 31) / 32)) (fun pre => pre.map (·.1) = List.range pre.length ∧ pre.length ≤ (m + 31) / 32) ((m + 31) / 32) w := by
  intro l J Jx W hb hJ hJx hY h0
  have hbs : bs < w.heap.size := (Array.getElem?_eq_some_iff.1 hs).1
  have hbn : bn < w.heap.size := (Array.getElem?_eq_some_iff.1 hn).1
  have hs1 : W.cell? ⟨bs, 0, none⟩ = some (.slice A m c) := by simp [World.cell?, hb.block bs hbs, hs]
  have hn1 : W.cell? ⟨bn, 0, none⟩ = some (.int .i64 32) := by simp [World.cell?, hb.block bn hbn, hn]
  have hbs1 : bs < W.heap.size := Nat.lt_of_lt_of_le hbs hb.size
  have hbn1 : bn < W.heap.size := Nat.lt_of_lt_of_le hbn hb.size
  refine f_startI (vs := [.func (.yield l) #[] #[], .pointer (some ⟨bs, 0, none⟩), .pointer (some ⟨bn, 0, none⟩)]) [(0, .func (.yield l) #[] #[]), (1, .pointer (some ⟨bs, 0, none⟩)), (2, .pointer (some ⟨bn, 0, none⟩))] Try.func40 rfl Try.ntmps40 rfl rfl ?_
  intro a hX
  refine wpIn_seq ?_
  refine c_region ?_
  refine xl_cons ?_; ((refine y_pure (d := 4) hX ⟨rfl, rfl⟩ rfl (p_assign hX.st rfl rfl) ?_; clear hX; intro a w hX))
  refine x_end ?_
  refine q_then ?_
  refine c_block ?_
  refine c_loop (α := List { i : Nat // i * 32 < m } × World) (fun x a w => x.1.map (·.1) = List.range x.1.length ∧ x.1.length ≤ (m + 31) / 32 ∧ J x.1 x.2 ∧ bs < x.2.heap.size ∧ bn < x.2.heap.size ∧ x.2.cell? ⟨bs, 0, none⟩ = some (.slice A m c) ∧ x.2.cell? ⟨bn, 0, none⟩ = some (.int .i64 32) ∧ W.heap.size ≤ x.2.heap.size ∧ Sym 31 [] [(4, .int .i64 ((x.1.length * 32 : Nat) : Int)), (0, .func (.yield l) #[] #[]), (1, .pointer (some ⟨bs, 0, none⟩)), (2, .pointer (some ⟨bn, 0, none⟩))] (fun k => k < x.2.heap.size) x.2 [] a w) (fun x => (m + 31) / 32 - x.1.length) ([], W) ⟨rfl, Nat.zero_le _, h0, hbs1, hbn1, hs1, hn1, Nat.le_refl _, hX.to (by repeat (first | exact Sub.nil | refine Sub.cons rfl ?_)) Sel.nil⟩ ?_
  clear hX hs1 hn1 hbs1 hbn1
  rintro ⟨pre, w1⟩ a w ⟨hpre, hlen, hJ1, hbs1, hbn1, hs1, hn1, hsz, hX⟩
  dsimp only at hpre hlen hJ1 hbs1 hbn1 hs1 hn1 hsz hX
  refine wpIn_seq ?_
  refine wpIn_seq ?_
  refine c_region ?_
  refine xl_cons ?_; ((refine y_pure (d := 6) hX ⟨rfl, rfl⟩ rfl (p_move hX.st rfl rfl) ?_; clear hX; intro a w hX))
  refine xl_cons ?_; (first | (refine y_read (d := 7) hX ⟨rfl, rfl⟩ rfl (v_load hX.st rfl tab_ok rfl rfl rfl foc0 rfl) ?_; clear hX; intro a w hX) | (refine y_read (d := 7) hX ⟨rfl, rfl⟩ rfl (v_load hX.st rfl tab_ok rfl rfl rfl foc1 rfl) ?_; clear hX; intro a w hX) | (refine y_read (d := 7) hX ⟨rfl, rfl⟩ rfl (v_load hX.st rfl tab_ok rfl rfl rfl foc2 rfl) ?_; clear hX; intro a w hX) | (refine y_read (d := 7) hX ⟨rfl, rfl⟩ rfl (v_load hX.st rfl tab_ok rfl rfl rfl foc3 rfl) ?_; clear hX; intro a w hX) | (refine y_read (d := 7) hX ⟨rfl, rfl⟩ rfl (v_load hX.st rfl tab_ok rfl rfl rfl foc4 rfl) ?_; clear hX; intro a w hX) | (refine y_read (d := 7) hX ⟨rfl, rfl⟩ rfl (v_load hX.st rfl tab_ok rfl rfl rfl foc5 rfl) ?_; clear hX; intro a w hX) | (refine y_read (d := 7) hX ⟨rfl, rfl⟩ rfl (v_load hX.st rfl tab_ok rfl rfl rfl foc6 rfl) ?_; clear hX; intro a w hX) | (refine y_read (d := 7) hX ⟨rfl, rfl⟩ rfl (v_load hX.st rfl tab_ok rfl rfl rfl foc7 rfl) ?_; clear hX; intro a w hX) | (refine y_read (d := 7) hX ⟨rfl, rfl⟩ rfl (v_load hX.st rfl tab_ok rfl rfl rfl foc8 rfl) ?_; clear hX; intro a w hX) | (refine y_read (d := 7) hX ⟨rfl, rfl⟩ rfl (v_load hX.st rfl tab_ok rfl rfl rfl foc9 rfl) ?_; clear hX; intro a w hX) | (refine y_read (d := 7) hX ⟨rfl, rfl⟩ rfl (v_load hX.st rfl tab_ok rfl rfl rfl foc10 rfl) ?_; clear hX; intro a w hX) | (refine y_read (d := 7) hX ⟨rfl, rfl⟩ rfl (v_load hX.st rfl tab_ok rfl rfl rfl foc11 rfl) ?_; clear hX; intro a w hX) | (refine y_read (d := 7) hX ⟨rfl, rfl⟩ rfl (v_load hX.st rfl tab_ok rfl rfl rfl foc12 rfl) ?_; clear hX; intro a w hX) | (refine y_read (d := 7) hX ⟨rfl, rfl⟩ rfl (v_load_old hX.st rfl tab_ok rfl rfl rfl (by assumption) (by assumption)) ?_; clear hX; intro a w hX))
  refine xl_cons ?_; ((refine y_pure (d := 8) hX ⟨rfl, rfl⟩ rfl (p_len hX.st rfl tab_ok rfl rfl rfl) ?_; clear hX; intro a w hX))
  refine xl_cons ?_; ((refine y_pure (d := 9) hX ⟨rfl, rfl⟩ rfl (p_lss hX.st rfl rfl rfl) ?_; clear hX; intro a w hX))
  refine x_end ?_
  refine q_then ?_
  refine c_cond hX rfl (fun hc => ?_) (fun hc => ?_)
  ·
    try (first | cases hc | exact (contra_tf hc (by with_reducible assumption)).elim | exact (contra_tf (by with_reducible assumption) hc).elim | exact absurd hc (by decide))
    all_goals
      refine c_skip ?_
      refine q_then ?_
      refine wpIn_seq ?_
      refine c_block ?_
      refine wpIn_seq ?_
      have hlt : pre.length * 32 < m := by have h5 := hc; simp only [decide_eq_true_eq] at h5; omega
      have hmin : (if ((m - pre.length * 32 : Nat) : Int) < 32 then ((m - pre.length * 32 : Nat) : Int) else 32) = ((min 32 (m - pre.length * 32) : Nat) : Int) := by omega
      refine c_nopanic ?_
      refine d_begin hX (by kernel_rfl) rfl (Sel.refl _) ?_
      clear hX; intro w hX
      (first | (refine d_take (i := 0) (fuel := 6) (d := 13) (listed' := #[true, false, false, false, false, false, false]) hX rfl (by kernel_rfl) (by kernel_rfl) (by kernel_rfl) (fun _ _ _ h => (by cases h.1)) ⟨rfl, rfl⟩ rfl rfl (by with_reducible (repeat (first | exact Sel.refl _ | exact Sel.nil | refine Sel.cons tk0 ?_ | refine Sel.cons tk1 ?_ | refine Sel.cons tk2 ?_ | refine Sel.cons tk3 ?_ | refine Sel.cons tk4 ?_ | refine Sel.cons tk5 ?_ | refine Sel.cons tk6 ?_ | refine Sel.cons tk7 ?_ | refine Sel.cons tk8 ?_ | refine Sel.cons tk9 ?_ | refine Sel.cons tk10 ?_ | refine Sel.cons tk11 ?_ | refine Sel.cons tk12 ?_))) (v_load hX.st rfl tab_ok rfl rfl rfl foc0 rfl) ?_; clear hX; intro a hX) | (refine d_take (i := 0) (fuel := 6) (d := 13) (listed' := #[true, false, false, false, false, false, false]) hX rfl (by kernel_rfl) (by kernel_rfl) (by kernel_rfl) (fun _ _ _ h => (by cases h.1)) ⟨rfl, rfl⟩ rfl rfl (by with_reducible (repeat (first | exact Sel.refl _ | exact Sel.nil | refine Sel.cons tk0 ?_ | refine Sel.cons tk1 ?_ | refine Sel.cons tk2 ?_ | refine Sel.cons tk3 ?_ | refine Sel.cons tk4 ?_ | refine Sel.cons tk5 ?_ | refine Sel.cons tk6 ?_ | refine Sel.cons tk7 ?_ | refine Sel.cons tk8 ?_ | refine Sel.cons tk9 ?_ | refine Sel.cons tk10 ?_ | refine Sel.cons tk11 ?_ | refine Sel.cons tk12 ?_))) (v_load hX.st rfl tab_ok rfl rfl rfl foc1 rfl) ?_; clear hX; intro a hX) | (refine d_take (i := 0) (fuel := 6) (d := 13) (listed' := #[true, false, false, false, false, false, false]) hX rfl (by kernel_rfl) (by kernel_rfl) (by kernel_rfl) (fun _ _ _ h => (by cases h.1)) ⟨rfl, rfl⟩ rfl rfl (by with_reducible (repeat (first | exact Sel.refl _ | exact Sel.nil | refine Sel.cons tk0 ?_ | refine Sel.cons tk1 ?_ | refine Sel.cons tk2 ?_ | refine Sel.cons tk3 ?_ | refine Sel.cons tk4 ?_ | refine Sel.cons tk5 ?_ | refine Sel.cons tk6 ?_ | refine Sel.cons tk7 ?_ | refine Sel.cons tk8 ?_ | refine Sel.cons tk9 ?_ | refine Sel.cons tk10 ?_ | refine Sel.cons tk11 ?_ | refine Sel.cons tk12 ?_))) (v_load hX.st rfl tab_ok rfl rfl rfl foc2 rfl) ?_; clear hX; intro a hX) | (refine d_take (i := 0) (fuel := 6) (d := 13) (listed' := #[true, false, false, false, false, false, false]) hX rfl (by kernel_rfl) (by kernel_rfl) (by kernel_rfl) (fun _ _ _ h => (by cases h.1)) ⟨rfl, rfl⟩ rfl rfl (by with_reducible (repeat (first | exact Sel.refl _ | exact Sel.nil | refine Sel.cons tk0 ?_ | refine Sel.cons tk1 ?_ | refine Sel.cons tk2 ?_ | refine Sel.cons tk3 ?_ | refine Sel.cons tk4 ?_ | refine Sel.cons tk5 ?_ | refine Sel.cons tk6 ?_ | refine Sel.cons tk7 ?_ | refine Sel.cons tk8 ?_ | refine Sel.cons tk9 ?_ | refine Sel.cons tk10 ?_ | refine Sel.cons tk11 ?_ | refine Sel.cons tk12 ?_))) (v_load hX.st rfl tab_ok rfl rfl rfl foc3 rfl) ?_; clear hX; intro a hX) | (refine d_take (i := 0) (fuel := 6) (d := 13) (listed' := #[true, false, false, false, false, false, false]) hX rfl (by kernel_rfl) (by kernel_rfl) (by kernel_rfl) (fun _ _ _ h => (by cases h.1)) ⟨rfl, rfl⟩ rfl rfl (by with_reducible (repeat (first | exact Sel.refl _ | exact Sel.nil | refine Sel.cons tk0 ?_ | refine Sel.cons tk1 ?_ | refine Sel.cons tk2 ?_ | refine Sel.cons tk3 ?_ | refine Sel.cons tk4 ?_ | refine Sel.cons tk5 ?_ | refine Sel.cons tk6 ?_ | refine Sel.cons tk7 ?_ | refine Sel.cons tk8 ?_ | refine Sel.cons tk9 ?_ | refine Sel.cons tk10 ?_ | refine Sel.cons tk11 ?_ | refine Sel.cons tk12 ?_))) (v_load_old hX.st rfl tab_ok rfl rfl rfl (by assumption) (by assumption)) ?_; clear hX; intro a hX))
      (first | (refine d_take (i := 1) (fuel := 5) (d := 14) (listed' := #[true, true, false, false, false, false, false]) hX rfl (by kernel_rfl) (by kernel_rfl) (by kernel_rfl) (fun _ _ _ h => (by cases h.1)) ⟨rfl, rfl⟩ rfl rfl (by with_reducible (repeat (first | exact Sel.refl _ | exact Sel.nil | refine Sel.cons tk0 ?_ | refine Sel.cons tk1 ?_ | refine Sel.cons tk2 ?_ | refine Sel.cons tk3 ?_ | refine Sel.cons tk4 ?_ | refine Sel.cons tk5 ?_ | refine Sel.cons tk6 ?_ | refine Sel.cons tk7 ?_ | refine Sel.cons tk8 ?_ | refine Sel.cons tk9 ?_ | refine Sel.cons tk10 ?_ | refine Sel.cons tk11 ?_ | refine Sel.cons tk12 ?_))) (v_load hX.st rfl tab_ok rfl rfl rfl foc0 rfl) ?_; clear hX; intro a hX) | (refine d_take (i := 1) (fuel := 5) (d := 14) (listed' := #[true, true, false, false, false, false, false]) hX rfl (by kernel_rfl) (by kernel_rfl) (by kernel_rfl) (fun _ _ _ h => (by cases h.1)) ⟨rfl, rfl⟩ rfl rfl (by with_reducible (repeat (first | exact Sel.refl _ | exact Sel.nil | refine Sel.cons tk0 ?_ | refine Sel.cons tk1 ?_ | refine Sel.cons tk2 ?_ | refine Sel.cons tk3 ?_ | refine Sel.cons tk4 ?_ | refine Sel.cons tk5 ?_ | refine Sel.cons tk6 ?_ | refine Sel.cons tk7 ?_ | refine Sel.cons tk8 ?_ | refine Sel.cons tk9 ?_ | refine Sel.cons tk10 ?_ | refine Sel.cons tk11 ?_ | refine Sel.cons tk12 ?_))) (v_load hX.st rfl tab_ok rfl rfl rfl foc1 rfl) ?_; clear hX; intro a hX) | (refine d_take (i := 1) (fuel := 5) (d := 14) (listed' := #[true, true, false, false, false, false, false]) hX rfl (by kernel_rfl) (by kernel_rfl) (by kernel_rfl) (fun _ _ _ h => (by cases h.1)) ⟨rfl, rfl⟩ rfl rfl (by with_reducible (repeat (first | exact Sel.refl _ | exact Sel.nil | refine Sel.cons tk0 ?_ | refine Sel.cons tk1 ?_ | refine Sel.cons tk2 ?_ | refine Sel.cons tk3 ?_ | refine Sel.cons tk4 ?_ | refine Sel.cons tk5 ?_ | refine Sel.cons tk6 ?_ | refine Sel.cons tk7 ?_ | refine Sel.cons tk8 ?_ | refine Sel.cons tk9 ?_ | refine Sel.cons tk10 ?_ | refine Sel.cons tk11 ?_ | refine Sel.cons tk12 ?_))) (v_load hX.st rfl tab_ok rfl rfl rfl foc2 rfl) ?_; clear hX; intro a hX) | (refine d_take (i := 1) (fuel := 5) (d := 14) (listed' := #[true, true, false, false, false, false, false]) hX rfl (by kernel_rfl) (by kernel_rfl) (by kernel_rfl) (fun _ _ _ h => (by cases h.1)) ⟨rfl, rfl⟩ rfl rfl (by with_reducible (repeat (first | exact Sel.refl _ | exact Sel.nil | refine Sel.cons tk0 ?_ | refine Sel.cons tk1 ?_ | refine Sel.cons tk2 ?_ | refine Sel.cons tk3 ?_ | refine Sel.cons tk4 ?_ | refine Sel.cons tk5 ?_ | refine Sel.cons tk6 ?_ | refine Sel.cons tk7 ?_ | refine Sel.cons tk8 ?_ | refine Sel.cons tk9 ?_ | refine Sel.cons tk10 ?_ | refine Sel.cons tk11 ?_ | refine Sel.cons tk12 ?_))) (v_load hX.st rfl tab_ok rfl rfl rfl foc3 rfl) ?_; clear hX; intro a hX) | (refine d_take (i := 1) (fuel := 5) (d := 14) (listed' := #[true, true, false, false, false, false, false]) hX rfl (by kernel_rfl) (by kernel_rfl) (by kernel_rfl) (fun _ _ _ h => (by cases h.1)) ⟨rfl, rfl⟩ rfl rfl (by with_reducible (repeat (first | exact Sel.refl _ | exact Sel.nil | refine Sel.cons tk0 ?_ | refine Sel.cons tk1 ?_ | refine Sel.cons tk2 ?_ | refine Sel.cons tk3 ?_ | refine Sel.cons tk4 ?_ | refine Sel.cons tk5 ?_ | refine Sel.cons tk6 ?_ | refine Sel.cons tk7 ?_ | refine Sel.cons tk8 ?_ | refine Sel.cons tk9 ?_ | refine Sel.cons tk10 ?_ | refine Sel.cons tk11 ?_ | refine Sel.cons tk12 ?_))) (v_load_old hX.st rfl tab_ok rfl rfl rfl (by assumption) (by assumption)) ?_; clear hX; intro a hX))
      ((refine d_take (i := 2) (fuel := 4) (d := 15) (listed' := #[true, true, true, false, false, false, false]) hX rfl (by kernel_rfl) (by kernel_rfl) (by kernel_rfl) (fun _ _ _ h => (by cases h.1)) ⟨rfl, rfl⟩ rfl rfl (by with_reducible (repeat (first | exact Sel.refl _ | exact Sel.nil | refine Sel.cons tk0 ?_ | refine Sel.cons tk1 ?_ | refine Sel.cons tk2 ?_ | refine Sel.cons tk3 ?_ | refine Sel.cons tk4 ?_ | refine Sel.cons tk5 ?_ | refine Sel.cons tk6 ?_ | refine Sel.cons tk7 ?_ | refine Sel.cons tk8 ?_ | refine Sel.cons tk9 ?_ | refine Sel.cons tk10 ?_ | refine Sel.cons tk11 ?_ | refine Sel.cons tk12 ?_))) (fun w _ => (p_move hX.st rfl rfl) w) ?_; clear hX; intro a hX))
      ((refine d_take (i := 3) (fuel := 3) (d := 16) (listed' := #[true, true, true, true, false, false, false]) hX rfl (by kernel_rfl) (by kernel_rfl) (by kernel_rfl) (fun _ _ _ h => (by cases h.1)) ⟨rfl, rfl⟩ rfl rfl (by with_reducible (repeat (first | exact Sel.refl _ | exact Sel.nil | refine Sel.cons tk0 ?_ | refine Sel.cons tk1 ?_ | refine Sel.cons tk2 ?_ | refine Sel.cons tk3 ?_ | refine Sel.cons tk4 ?_ | refine Sel.cons tk5 ?_ | refine Sel.cons tk6 ?_ | refine Sel.cons tk7 ?_ | refine Sel.cons tk8 ?_ | refine Sel.cons tk9 ?_ | refine Sel.cons tk10 ?_ | refine Sel.cons tk11 ?_ | refine Sel.cons tk12 ?_))) (fun w _ => (p_sliceFrom hX.st rfl tab_ok rfl rfl rfl rfl rfl (by first | rfl | omega) (by first | omega | decide)) w) ?_; clear hX; intro a hX))
      ((refine d_take (i := 4) (fuel := 2) (d := 17) (listed' := #[true, true, true, true, true, false, false]) hX rfl (by kernel_rfl) (by kernel_rfl) (by kernel_rfl) (fun _ _ _ h => (by cases h.1)) ⟨rfl, rfl⟩ rfl rfl (by with_reducible (repeat (first | exact Sel.refl _ | exact Sel.nil | refine Sel.cons tk0 ?_ | refine Sel.cons tk1 ?_ | refine Sel.cons tk2 ?_ | refine Sel.cons tk3 ?_ | refine Sel.cons tk4 ?_ | refine Sel.cons tk5 ?_ | refine Sel.cons tk6 ?_ | refine Sel.cons tk7 ?_ | refine Sel.cons tk8 ?_ | refine Sel.cons tk9 ?_ | refine Sel.cons tk10 ?_ | refine Sel.cons tk11 ?_ | refine Sel.cons tk12 ?_))) (fun w _ => (p_len hX.st rfl tab_ok rfl rfl rfl) w) ?_; clear hX; intro a hX))
      ((refine d_take (i := 5) (fuel := 1) (d := 18) (listed' := #[true, true, true, true, true, true, false]) hX rfl (by kernel_rfl) (by kernel_rfl) (by kernel_rfl) (fun _ _ _ h => (by cases h.1)) ⟨rfl, rfl⟩ rfl rfl (by with_reducible (repeat (first | exact Sel.refl _ | exact Sel.nil | refine Sel.cons tk0 ?_ | refine Sel.cons tk1 ?_ | refine Sel.cons tk2 ?_ | refine Sel.cons tk3 ?_ | refine Sel.cons tk4 ?_ | refine Sel.cons tk5 ?_ | refine Sel.cons tk6 ?_ | refine Sel.cons tk7 ?_ | refine Sel.cons tk8 ?_ | refine Sel.cons tk9 ?_ | refine Sel.cons tk10 ?_ | refine Sel.cons tk11 ?_ | refine Sel.cons tk12 ?_))) (fun w _ => (p_min hX.st rfl rfl rfl hmin) w) ?_; clear hX; intro a hX))
      ((refine d_take (i := 6) (fuel := 0) (d := 5) (listed' := #[true, true, true, true, true, true, true]) hX rfl (by kernel_rfl) (by kernel_rfl) (by kernel_rfl) (fun _ _ _ h => (by cases h.1)) ⟨rfl, rfl⟩ rfl rfl (by with_reducible (repeat (first | exact Sel.refl _ | exact Sel.nil | refine Sel.cons tk0 ?_ | refine Sel.cons tk1 ?_ | refine Sel.cons tk2 ?_ | refine Sel.cons tk3 ?_ | refine Sel.cons tk4 ?_ | refine Sel.cons tk5 ?_ | refine Sel.cons tk6 ?_ | refine Sel.cons tk7 ?_ | refine Sel.cons tk8 ?_ | refine Sel.cons tk9 ?_ | refine Sel.cons tk10 ?_ | refine Sel.cons tk11 ?_ | refine Sel.cons tk12 ?_))) (fun w _ => (p_assign hX.st rfl rfl) w) ?_; clear hX; intro a hX))
      refine d_done (by kernel_rfl) ?_
      refine ⟨rfl, ?_⟩
      refine q_then ?_
      refine wpIn_seq ?_
      refine c_region ?_
      refine xl_cons ?_; ((refine y_pure (d := 19) hX ⟨rfl, rfl⟩ rfl (p_move hX.st rfl rfl) ?_; clear hX; intro a w hX))
      refine xl_cons ?_; (first | (refine y_read (d := 20) hX ⟨rfl, rfl⟩ rfl (v_load hX.st rfl tab_ok rfl rfl rfl foc0 rfl) ?_; clear hX; intro a w hX) | (refine y_read (d := 20) hX ⟨rfl, rfl⟩ rfl (v_load hX.st rfl tab_ok rfl rfl rfl foc1 rfl) ?_; clear hX; intro a w hX) | (refine y_read (d := 20) hX ⟨rfl, rfl⟩ rfl (v_load hX.st rfl tab_ok rfl rfl rfl foc2 rfl) ?_; clear hX; intro a w hX) | (refine y_read (d := 20) hX ⟨rfl, rfl⟩ rfl (v_load hX.st rfl tab_ok rfl rfl rfl foc3 rfl) ?_; clear hX; intro a w hX) | (refine y_read (d := 20) hX ⟨rfl, rfl⟩ rfl (v_load hX.st rfl tab_ok rfl rfl rfl foc4 rfl) ?_; clear hX; intro a w hX) | (refine y_read (d := 20) hX ⟨rfl, rfl⟩ rfl (v_load hX.st rfl tab_ok rfl rfl rfl foc5 rfl) ?_; clear hX; intro a w hX) | (refine y_read (d := 20) hX ⟨rfl, rfl⟩ rfl (v_load hX.st rfl tab_ok rfl rfl rfl foc6 rfl) ?_; clear hX; intro a w hX) | (refine y_read (d := 20) hX ⟨rfl, rfl⟩ rfl (v_load hX.st rfl tab_ok rfl rfl rfl foc7 rfl) ?_; clear hX; intro a w hX) | (refine y_read (d := 20) hX ⟨rfl, rfl⟩ rfl (v_load hX.st rfl tab_ok rfl rfl rfl foc8 rfl) ?_; clear hX; intro a w hX) | (refine y_read (d := 20) hX ⟨rfl, rfl⟩ rfl (v_load hX.st rfl tab_ok rfl rfl rfl foc9 rfl) ?_; clear hX; intro a w hX) | (refine y_read (d := 20) hX ⟨rfl, rfl⟩ rfl (v_load hX.st rfl tab_ok rfl rfl rfl foc10 rfl) ?_; clear hX; intro a w hX) | (refine y_read (d := 20) hX ⟨rfl, rfl⟩ rfl (v_load hX.st rfl tab_ok rfl rfl rfl foc11 rfl) ?_; clear hX; intro a w hX) | (refine y_read (d := 20) hX ⟨rfl, rfl⟩ rfl (v_load hX.st rfl tab_ok rfl rfl rfl foc12 rfl) ?_; clear hX; intro a w hX) | (refine y_read (d := 20) hX ⟨rfl, rfl⟩ rfl (v_load_old hX.st rfl tab_ok rfl rfl rfl (by assumption) (by assumption)) ?_; clear hX; intro a w hX))
      refine xl_cons ?_; ((refine y_pure (d := 21) hX ⟨rfl, rfl⟩ rfl (p_move hX.st rfl rfl) ?_; clear hX; intro a w hX))
      refine xl_cons ?_; ((refine y_pure (d := 22) hX ⟨rfl, rfl⟩ rfl (p_move hX.st rfl rfl) ?_; clear hX; intro a w hX))
      refine xl_cons ?_; ((refine y_pure (d := 23) hX ⟨rfl, rfl⟩ rfl (p_move hX.st rfl rfl) ?_; clear hX; intro a w hX))
      refine xl_cons ?_; (first | (refine y_pure (d := 24) hX ⟨rfl, rfl⟩ rfl (p_add hX.st rfl rfl rfl (in_i64 (by omega) (by omega))) ?_; clear hX; intro a w hX) | (refine y_pure (d := 24) hX ⟨rfl, rfl⟩ rfl (p_add hX.st rfl rfl rfl rfl) ?_; clear hX; intro a w hX))
      refine xl_cons ?_; ((refine y_pure (d := 25) hX ⟨rfl, rfl⟩ rfl (p_move hX.st rfl rfl) ?_; clear hX; intro a w hX))
      refine xl_cons ?_; ((refine y_pure (d := 26) hX ⟨rfl, rfl⟩ rfl (p_move hX.st rfl rfl) ?_; clear hX; intro a w hX))
      refine xl_cons ?_; (first | (refine y_pure (d := 27) hX ⟨rfl, rfl⟩ rfl (p_add hX.st rfl rfl rfl (in_i64 (by omega) (by omega))) ?_; clear hX; intro a w hX) | (refine y_pure (d := 27) hX ⟨rfl, rfl⟩ rfl (p_add hX.st rfl rfl rfl rfl) ?_; clear hX; intro a w hX))
      refine xl_cons ?_; ((refine y_pure (d := 28) hX ⟨rfl, rfl⟩ rfl (p_slice3 hX.st rfl tab_ok rfl rfl rfl rfl rfl rfl rfl (by first | rfl | omega) (by first | rfl | omega) (by first | rfl | omega) (by first | omega | decide) (by first | omega | decide) (by first | omega | decide)) ?_; clear hX; intro a w hX))
      (have hJw : J pre w := hJ pre w1 w none hJ1 ⟨hX.sh.below.os, hX.sh.below.tape, hX.sh.below.output, hX.sh.below.size, fun k hk _ => hX.sh.below.block k hk⟩ (fun r e => by cases e); have hy := hY pre ⟨pre.length, hlt⟩ w hJw (by omega); refine x_yield (d := 29) (x := chunkV33 A m pre.length) hX rfl ⟨rfl, rfl⟩ rfl rfl (by show some (Value.slice (cutA A (pre.length * 32) 6 (pre.length * 32 + min 32 (m - pre.length * 32))) (pre.length * 32 + min 32 (m - pre.length * 32) - pre.length * 32) (pre.length * 32 + min 32 (m - pre.length * 32) - pre.length * 32)) = some (chunkV33 A m pre.length); rw [Nat.add_sub_cancel_left]; rfl) hy (by rintro e w' (⟨rfl, _⟩ | ⟨rfl, _⟩) <;> exact ⟨_, rfl⟩) ?_; rintro v a2 w2 hq hS2; have hsz2 := hX.sh.below.size; have hcs := (hX.sh.below.cell (p := ⟨bs, 0, none⟩) hbs1).trans hs1; have hcn := (hX.sh.below.cell (p := ⟨bn, 0, none⟩) hbn1).trans hn1; clear hX a; have hq2 : ∃ b : Bool, v = .bool b ∧ (b = true → J (pre ++ [⟨pre.length, hlt⟩]) w2 ∧ KO (Ats [.cel bs [.slice A m c] 30, .cel bn [.int .i64 32] 3]) w w2) ∧ (b = false → Jx (pre ++ [⟨pre.length, hlt⟩]) w2) := (by rcases hq with ⟨hv, h1, h2⟩ | ⟨hv, h1⟩; exact ⟨true, by injection hv, fun _ => ⟨h1, h2⟩, fun e => by cases e⟩; exact ⟨false, by injection hv, (fun e => by cases e), fun _ => h1⟩); obtain ⟨bb, rfl, hgo, hstop⟩ := hq2; have hX := (⟨hS2, SH.start w2⟩ : Sym 31 [] _ _ w2 [] a2 w2); clear hS2)
      refine xl_cons ?_; ((refine y_pure (d := 30) hX ⟨rfl, rfl⟩ rfl (p_not hX.st rfl rfl) ?_; clear hX; intro a w hX))
      refine x_end ?_
      refine q_then ?_
      refine c_cond hX rfl (fun hc => ?_) (fun hc => ?_)
      ·
        try (first | cases hc | exact (contra_tf hc (by with_reducible assumption)).elim | exact (contra_tf (by with_reducible assumption) hc).elim | exact absurd hc (by decide))
        all_goals
          refine c_ret ?_
          refine q_block_ret ?_
          refine q_then_ret ?_
          refine q_then_ret ?_
          refine q_block_ret ?_
          first
          | exact f_endI hX rfl ⟨⟨_, rfl⟩, .inr ⟨pre ++ [⟨pre.length, hlt⟩], ⟨by simp [hpre, List.range_succ], by simp; omega⟩, hJx _ w2 _ none (hstop (by simpa using hc)) hX.sh.grown (fun r e => by cases e)⟩⟩
          | (exact f_endN hX rfl ⟨⟨_, rfl⟩, .inl ⟨pre, by show List.map _ pre = _; rw [hpre]; congr 1; have h5 := hc; simp only [decide_eq_false_iff_not] at h5; omega, hJ pre w1 _ none hJ1 hX.sh.grown (fun r e => by cases e)⟩⟩)
      ·
        try (first | cases hc | exact (contra_tf hc (by with_reducible assumption)).elim | exact (contra_tf (by with_reducible assumption) hc).elim | exact absurd hc (by decide))
        all_goals
          refine c_skip ?_
          refine q_block ?_
          refine q_then ?_
          obtain ⟨hJ2, hKO⟩ := hgo (by simpa using hc)
          have hbs2 := Nat.lt_of_lt_of_le hbs1 (Nat.le_trans hsz2 hKO.size)
          have hbn2 := Nat.lt_of_lt_of_le hbn1 (Nat.le_trans hsz2 hKO.size)
          have hs2 := (hKO.cell (p := ⟨bs, 0, none⟩) ⟨_, List.mem_cons_self, rfl⟩).trans hcs
          have hn2 := (hKO.cell (p := ⟨bn, 0, none⟩) ⟨_, List.mem_cons_of_mem _ List.mem_cons_self, rfl⟩).trans hcn
          clear hs1 hn1 hbs1 hbn1
          refine c_region ?_
          refine xl_cons ?_; ((refine y_pure (d := 10) hX ⟨rfl, rfl⟩ rfl (p_move hX.st rfl rfl) ?_; clear hX; intro a w hX))
          refine xl_cons ?_; (first | (refine y_read (d := 11) hX ⟨rfl, rfl⟩ rfl (v_load hX.st rfl tab_ok rfl rfl rfl foc0 rfl) ?_; clear hX; intro a w hX) | (refine y_read (d := 11) hX ⟨rfl, rfl⟩ rfl (v_load hX.st rfl tab_ok rfl rfl rfl foc1 rfl) ?_; clear hX; intro a w hX) | (refine y_read (d := 11) hX ⟨rfl, rfl⟩ rfl (v_load hX.st rfl tab_ok rfl rfl rfl foc2 rfl) ?_; clear hX; intro a w hX) | (refine y_read (d := 11) hX ⟨rfl, rfl⟩ rfl (v_load hX.st rfl tab_ok rfl rfl rfl foc3 rfl) ?_; clear hX; intro a w hX) | (refine y_read (d := 11) hX ⟨rfl, rfl⟩ rfl (v_load hX.st rfl tab_ok rfl rfl rfl foc4 rfl) ?_; clear hX; intro a w hX) | (refine y_read (d := 11) hX ⟨rfl, rfl⟩ rfl (v_load hX.st rfl tab_ok rfl rfl rfl foc5 rfl) ?_; clear hX; intro a w hX) | (refine y_read (d := 11) hX ⟨rfl, rfl⟩ rfl (v_load hX.st rfl tab_ok rfl rfl rfl foc6 rfl) ?_; clear hX; intro a w hX) | (refine y_read (d := 11) hX ⟨rfl, rfl⟩ rfl (v_load hX.st rfl tab_ok rfl rfl rfl foc7 rfl) ?_; clear hX; intro a w hX) | (refine y_read (d := 11) hX ⟨rfl, rfl⟩ rfl (v_load hX.st rfl tab_ok rfl rfl rfl foc8 rfl) ?_; clear hX; intro a w hX) | (refine y_read (d := 11) hX ⟨rfl, rfl⟩ rfl (v_load hX.st rfl tab_ok rfl rfl rfl foc9 rfl) ?_; clear hX; intro a w hX) | (refine y_read (d := 11) hX ⟨rfl, rfl⟩ rfl (v_load hX.st rfl tab_ok rfl rfl rfl foc10 rfl) ?_; clear hX; intro a w hX) | (refine y_read (d := 11) hX ⟨rfl, rfl⟩ rfl (v_load hX.st rfl tab_ok rfl rfl rfl foc11 rfl) ?_; clear hX; intro a w hX) | (refine y_read (d := 11) hX ⟨rfl, rfl⟩ rfl (v_load hX.st rfl tab_ok rfl rfl rfl foc12 rfl) ?_; clear hX; intro a w hX) | (refine y_read (d := 11) hX ⟨rfl, rfl⟩ rfl (v_load_old hX.st rfl tab_ok rfl rfl rfl (by assumption) (by assumption)) ?_; clear hX; intro a w hX))
          refine xl_cons ?_; (first | (refine y_pure (d := 12) hX ⟨rfl, rfl⟩ rfl (p_add hX.st rfl rfl rfl (in_i64 (by omega) (by omega))) ?_; clear hX; intro a w hX) | (refine y_pure (d := 12) hX ⟨rfl, rfl⟩ rfl (p_add hX.st rfl rfl rfl rfl) ?_; clear hX; intro a w hX))
          refine xl_cons ?_; ((refine y_pure (d := 4) hX ⟨rfl, rfl⟩ rfl (p_assign hX.st rfl rfl) ?_; clear hX; intro a w hX))
          refine x_end ?_
          refine q_then ?_
          exact ⟨(pre ++ [⟨pre.length, hlt⟩], w2), ⟨by simp [hpre, List.range_succ], by simp; omega, hJ2, hbs2, hbn2, hs2, hn2, Nat.le_trans hsz (Nat.le_trans hsz2 hKO.size), hX.to (Sub.cons (look_int rfl (by simp; omega)) (by repeat (first | exact Sub.nil | refine Sub.cons rfl ?_))) Sel.nil⟩, by simp; omega⟩
  ·
    try (first | cases hc | exact (contra_tf hc (by with_reducible assumption)).elim | exact (contra_tf (by with_reducible assumption) hc).elim | exact absurd hc (by decide))
    all_goals
      refine c_exit ?_
      refine q_then_exit ?_
      refine q_then_exit ?_
      refine q_block_exit ?_
      first
      | exact f_endI hX rfl ⟨⟨_, rfl⟩, .inr ⟨pre ++ [⟨pre.length, hlt⟩], ⟨by simp [hpre, List.range_succ], by simp; omega⟩, hJx _ w2 _ none (hstop (by simpa using hc)) hX.sh.grown (fun r e => by cases e)⟩⟩
      | (exact f_endN hX rfl ⟨⟨_, rfl⟩, .inl ⟨pre, by show List.map _ pre = _; rw [hpre]; congr 1; have h5 := hc; simp only [decide_eq_false_iff_not] at h5; omega, hJ pre w1 _ none hJ1 hX.sh.grown (fun r e => by cases e)⟩⟩)
/-! #### 3 at a time, type 22 -/
theorem chunk36_call (A : Option Addr) (m c : Nat) (W : World) :
    Ret Try.prog 36 #[.slice A m c, .int .i64 3] W fun v w' => ∃ x : Nat × Nat, v = .func (.func 41) #[] #[.pointer (some ⟨x.1, 0, none⟩), .pointer (some ⟨x.2, 0, none⟩)] ∧ True ∧ SF W [.cel x.1 [.slice A m c] 22, .cel x.2 [.int .i64 3] 3] w' := by
  refine f_start (vs := [.slice A m c, .int .i64 3]) [(0, .slice A m c), (1, .int .i64 3)] Try.func36 rfl Try.ntmps36 rfl rfl ?_
  intro a hX
  refine wpIn_seq ?_
  refine c_region ?_
  refine xl_cons ?_; (first | (refine y_box_agg (d := 2) hX rfl ⟨rfl, rfl⟩ rfl rfl ?_; clear hX; intro b a w hX) | (refine y_box_one (d := 2) hX rfl ⟨rfl, rfl⟩ rfl rfl rfl ?_; clear hX; intro b a w hX))
  refine xl_cons ?_; (first | (refine y_box_agg (d := 3) hX rfl ⟨rfl, rfl⟩ rfl rfl ?_; clear hX; intro b a w hX) | (refine y_box_one (d := 3) hX rfl ⟨rfl, rfl⟩ rfl rfl rfl ?_; clear hX; intro b a w hX))
  refine xl_cons ?_; ((refine y_pure (d := 4) hX ⟨rfl, rfl⟩ rfl (p_assign hX.st rfl rfl) ?_; clear hX; intro a w hX))
  refine x_end ?_
  rename_i b1 _ _ _ _
  refine q_then ?_
  refine wpIn_seq ?_
  refine wpIn_seq ?_
  refine c_region ?_
  refine xl_cons ?_; ((refine y_read (d := 5) hX ⟨rfl, rfl⟩ rfl (v_load hX.st rfl tab_ok rfl rfl rfl foc0 rfl) ?_; clear hX; intro a w hX))
  refine xl_cons ?_; ((refine y_pure (d := 6) hX ⟨rfl, rfl⟩ rfl (p_lss hX.st rfl rfl rfl) ?_; clear hX; intro a w hX))
  refine x_end ?_
  refine q_then ?_
  refine c_cond hX rfl (fun hc => ?_) (fun hc => ?_)
  ·
    try (first | cases hc | exact (contra_tf hc (by with_reducible assumption)).elim | exact (contra_tf (by with_reducible assumption) hc).elim | exact absurd hc (by decide))
    all_goals
      refine c_region ?_
      refine xl_cons ?_; (exact absurd hc (by decide))
      refine xl_cons ?_; (fail)
      refine x_end ?_
      refine q_then ?_
      refine wpIn_seq ?_
      refine c_region ?_
      refine xl_cons ?_; ((refine y_pure (d := 8) hX ⟨rfl, rfl⟩ rfl (p_makeFunc hX.st rfl rfl) ?_; clear hX; intro a w hX))
      refine xl_cons ?_; ((refine y_pure (d := 4) hX ⟨rfl, rfl⟩ rfl (p_assign hX.st rfl rfl) ?_; clear hX; intro a w hX))
      refine x_end ?_
      refine q_then ?_
      refine c_ret ?_
      exact f_ret1 hX Try.results36 rfl ⟨(b1, b), rfl, trivial, hX.sh.sel (Sel.cons tk1 (Sel.cons tk0 Sel.nil))⟩
  ·
    try (first | cases hc | exact (contra_tf hc (by with_reducible assumption)).elim | exact (contra_tf (by with_reducible assumption) hc).elim | exact absurd hc (by decide))
    all_goals
      refine c_skip ?_
      refine q_then ?_
      refine wpIn_seq ?_
      refine c_region ?_
      refine xl_cons ?_; ((refine y_pure (d := 8) hX ⟨rfl, rfl⟩ rfl (p_makeFunc hX.st rfl rfl) ?_; clear hX; intro a w hX))
      refine xl_cons ?_; ((refine y_pure (d := 4) hX ⟨rfl, rfl⟩ rfl (p_assign hX.st rfl rfl) ?_; clear hX; intro a w hX))
      refine x_end ?_
      refine q_then ?_
      refine c_ret ?_
      exact f_ret1 hX Try.results36 rfl ⟨(b1, b), rfl, trivial, hX.sh.sel (Sel.cons tk1 (Sel.cons tk0 Sel.nil))⟩
def chunkV36 (A : Option Addr) (m : Nat) (i : Nat) : Value := .slice (cutA A (i * 3) 1 (i * 3 + min 3 (m - i * 3))) (min 3 (m - i * 3)) (min 3 (m - i * 3))
theorem chunk36_seq (A : Option Addr) (m c bs bn : Nat) (hmc : m ≤ c) (hm : m ≤ 4611686018427387904) (w : World) (hs : w.heap[bs]? = some (.cells #[.slice A m c] 22)) (hn : w.heap[bn]? = some (.cells #[.int .i64 3] 3)) :
    SeqStopsK Fence.wide 1 Try.prog 41 #[.pointer (some ⟨bs, 0, none⟩), .pointer (some ⟨bn, 0, none⟩)] (fun i : { i : Nat // i * 3 < m } => #[chunkV36 A m i.1]) (KO (Ats [.cel bs [.slice A m c] 22, .cel bn [.int .i64 3] 3]))
      (fun xs => xs.map (·.1) = List.range ((m + 2) / 3)) (fun pre => pre.map (·.1) = List.range pre.length ∧ pre.length ≤ (m + 2) / 3) ((m + 2) / 3) w := by
  intro l J Jx W hb hJ hJx hY h0
  have hbs : bs < w.heap.size := (Array.getElem?_eq_some_iff.1 hs).1
  have hbn : bn < w.heap.size := (Array.getElem?_eq_some_iff.1 hn).1
  have hs1 : W.cell? ⟨bs, 0, none⟩ = some (.slice A m c) := by simp [World.cell?, hb.block bs hbs, hs]
  have hn1 : W.cell? ⟨bn, 0, none⟩ = some (.int .i64 3) := by simp [World.cell?, hb.block bn hbn, hn]
  have hbs1 : bs < W.heap.size := Nat.lt_of_lt_of_le hbs hb.size
  have hbn1 : bn < W.heap.size := Nat.lt_of_lt_of_le hbn hb.size
  refine f_startI (vs := [.func (.yield l) #[] #[], .pointer (some ⟨bs, 0, none⟩), .pointer (some ⟨bn, 0, none⟩)]) [(0, .func (.yield l) #[] #[]), (1, .pointer (some ⟨bs, 0, none⟩)), (2, .pointer (some ⟨bn, 0, none⟩))] Try.func41 rfl Try.ntmps41 rfl rfl ?_
  intro a hX
  refine wpIn_seq ?_
  refine c_region ?_
  refine xl_cons ?_; ((refine y_pure (d := 4) hX ⟨rfl, rfl⟩ rfl (p_assign hX.st rfl rfl) ?_; clear hX; intro a w hX))
  refine x_end ?_
  refine q_then ?_
  refine c_block ?_
  refine c_loop (α := List { i : Nat // i * 3 < m } × World) (fun x a w => x.1.map (·.1) = List.range x.1.length ∧ x.1.length ≤ (m + 2) / 3 ∧ J x.1 x.2 ∧ bs < x.2.heap.size ∧ bn < x.2.heap.size ∧ x.2.cell? ⟨bs, 0, none⟩ = some (.slice A m c) ∧ x.2.cell? ⟨bn, 0, none⟩ = some (.int .i64 3) ∧ W.heap.size ≤ x.2.heap.size ∧ Sym 31 [] [(4, .int .i64 ((x.1.length * 3 : Nat) : Int)), (0, .func (.yield l) #[] #[]), (1, .pointer (some ⟨bs, 0, none⟩)), (2, .pointer (some ⟨bn, 0, none⟩))] (fun k => k < x.2.heap.size) x.2 [] a w) (fun x => (m + 2) / 3 - x.1.length) ([], W) ⟨rfl, Nat.zero_le _, h0, hbs1, hbn1, hs1, hn1, Nat.le_refl _, hX.to (by repeat (first | exact Sub.nil | refine Sub.cons rfl ?_)) Sel.nil⟩ ?_
  clear hX hs1 hn1 hbs1 hbn1
  rintro ⟨pre, w1⟩ a w ⟨hpre, hlen, hJ1, hbs1, hbn1, hs1, hn1, hsz, hX⟩
  dsimp only at hpre hlen hJ1 hbs1 hbn1 hs1 hn1 hsz hX
  refine wpIn_seq ?_
  refine wpIn_seq ?_
  refine c_region ?_
  refine xl_cons ?_; ((refine y_pure (d := 6) hX ⟨rfl, rfl⟩ rfl (p_move hX.st rfl rfl) ?_; clear hX; intro a w hX))
  refine xl_cons ?_; (first | (refine y_read (d := 7) hX ⟨rfl, rfl⟩ rfl (v_load hX.st rfl tab_ok rfl rfl rfl foc0 rfl) ?_; clear hX; intro a w hX) | (refine y_read (d := 7) hX ⟨rfl, rfl⟩ rfl (v_load hX.st rfl tab_ok rfl rfl rfl foc1 rfl) ?_; clear hX; intro a w hX) | (refine y_read (d := 7) hX ⟨rfl, rfl⟩ rfl (v_load hX.st rfl tab_ok rfl rfl rfl foc2 rfl) ?_; clear hX; intro a w hX) | (refine y_read (d := 7) hX ⟨rfl, rfl⟩ rfl (v_load hX.st rfl tab_ok rfl rfl rfl foc3 rfl) ?_; clear hX; intro a w hX) | (refine y_read (d := 7) hX ⟨rfl, rfl⟩ rfl (v_load hX.st rfl tab_ok rfl rfl rfl foc4 rfl) ?_; clear hX; intro a w hX) | (refine y_read (d := 7) hX ⟨rfl, rfl⟩ rfl (v_load hX.st rfl tab_ok rfl rfl rfl foc5 rfl) ?_; clear hX; intro a w hX) | (refine y_read (d := 7) hX ⟨rfl, rfl⟩ rfl (v_load hX.st rfl tab_ok rfl rfl rfl foc6 rfl) ?_; clear hX; intro a w hX) | (refine y_read (d := 7) hX ⟨rfl, rfl⟩ rfl (v_load hX.st rfl tab_ok rfl rfl rfl foc7 rfl) ?_; clear hX; intro a w hX) | (refine y_read (d := 7) hX ⟨rfl, rfl⟩ rfl (v_load hX.st rfl tab_ok rfl rfl rfl foc8 rfl) ?_; clear hX; intro a w hX) | (refine y_read (d := 7) hX ⟨rfl, rfl⟩ rfl (v_load hX.st rfl tab_ok rfl rfl rfl foc9 rfl) ?_; clear hX; intro a w hX) | (refine y_read (d := 7) hX ⟨rfl, rfl⟩ rfl (v_load hX.st rfl tab_ok rfl rfl rfl foc10 rfl) ?_; clear hX; intro a w hX) | (refine y_read (d := 7) hX ⟨rfl, rfl⟩ rfl (v_load hX.st rfl tab_ok rfl rfl rfl foc11 rfl) ?_; clear hX; intro a w hX) | (refine y_read (d := 7) hX ⟨rfl, rfl⟩ rfl (v_load hX.st rfl tab_ok rfl rfl rfl foc12 rfl) ?_; clear hX; intro a w hX) | (refine y_read (d := 7) hX ⟨rfl, rfl⟩ rfl (v_load_old hX.st rfl tab_ok rfl rfl rfl (by assumption) (by assumption)) ?_; clear hX; intro a w hX))
  refine xl_cons ?_; ((refine y_pure (d := 8) hX ⟨rfl, rfl⟩ rfl (p_len hX.st rfl tab_ok rfl rfl rfl) ?_; clear hX; intro a w hX))
  refine xl_cons ?_; ((refine y_pure (d := 9) hX ⟨rfl, rfl⟩ rfl (p_lss hX.st rfl rfl rfl) ?_; clear hX; intro a w hX))
  refine x_end ?_
  refine q_then ?_
  refine c_cond hX rfl (fun hc => ?_) (fun hc => ?_)
  ·
    try (first | cases hc | exact (contra_tf hc (by with_reducible assumption)).elim | exact (contra_tf (by with_reducible assumption) hc).elim | exact absurd hc (by decide))
    all_goals
      refine c_skip ?_
      refine q_then ?_
      refine wpIn_seq ?_
      refine c_block ?_
      refine wpIn_seq ?_
      have hlt : pre.length * 3 < m := by have h5 := hc; simp only [decide_eq_true_eq] at h5; omega
      have hmin : (if ((m - pre.length * 3 : Nat) : Int) < 3 then ((m - pre.length * 3 : Nat) : Int) else 3) = ((min 3 (m - pre.length * 3) : Nat) : Int) := by omega
      refine c_nopanic ?_
      refine d_begin hX (by kernel_rfl) rfl (Sel.refl _) ?_
      clear hX; intro w hX
      (first | (refine d_take (i := 0) (fuel := 6) (d := 13) (listed' := #[true, false, false, false, false, false, false]) hX rfl (by kernel_rfl) (by kernel_rfl) (by kernel_rfl) (fun _ _ _ h => (by cases h.1)) ⟨rfl, rfl⟩ rfl rfl (by with_reducible (repeat (first | exact Sel.refl _ | exact Sel.nil | refine Sel.cons tk0 ?_ | refine Sel.cons tk1 ?_ | refine Sel.cons tk2 ?_ | refine Sel.cons tk3 ?_ | refine Sel.cons tk4 ?_ | refine Sel.cons tk5 ?_ | refine Sel.cons tk6 ?_ | refine Sel.cons tk7 ?_ | refine Sel.cons tk8 ?_ | refine Sel.cons tk9 ?_ | refine Sel.cons tk10 ?_ | refine Sel.cons tk11 ?_ | refine Sel.cons tk12 ?_))) (v_load hX.st rfl tab_ok rfl rfl rfl foc0 rfl) ?_; clear hX; intro a hX) | (refine d_take (i := 0) (fuel := 6) (d := 13) (listed' := #[true, false, false, false, false, false, false]) hX rfl (by kernel_rfl) (by kernel_rfl) (by kernel_rfl) (fun _ _ _ h => (by cases h.1)) ⟨rfl, rfl⟩ rfl rfl (by with_reducible (repeat (first | exact Sel.refl _ | exact Sel.nil | refine Sel.cons tk0 ?_ | refine Sel.cons tk1 ?_ | refine Sel.cons tk2 ?_ | refine Sel.cons tk3 ?_ | refine Sel.cons tk4 ?_ | refine Sel.cons tk5 ?_ | refine Sel.cons tk6 ?_ | refine Sel.cons tk7 ?_ | refine Sel.cons tk8 ?_ | refine Sel.cons tk9 ?_ | refine Sel.cons tk10 ?_ | refine Sel.cons tk11 ?_ | refine Sel.cons tk12 ?_))) (v_load hX.st rfl tab_ok rfl rfl rfl foc1 rfl) ?_; clear hX; intro a hX) | (refine d_take (i := 0) (fuel := 6) (d := 13) (listed' := #[true, false, false, false, false, false, false]) hX rfl (by kernel_rfl) (by kernel_rfl) (by kernel_rfl) (fun _ _ _ h => (by cases h.1)) ⟨rfl, rfl⟩ rfl rfl (by with_reducible (repeat (first | exact Sel.refl _ | exact Sel.nil | refine Sel.cons tk0 ?_ | refine Sel.cons tk1 ?_ | refine Sel.cons tk2 ?_ | refine Sel.cons tk3 ?_ | refine Sel.cons tk4 ?_ | refine Sel.cons tk5 ?_ | refine Sel.cons tk6 ?_ | refine Sel.cons tk7 ?_ | refine Sel.cons tk8 ?_ | refine Sel.cons tk9 ?_ | refine Sel.cons tk10 ?_ | refine Sel.cons tk11 ?_ | refine Sel.cons tk12 ?_))) (v_load hX.st rfl tab_ok rfl rfl rfl foc2 rfl) ?_; clear hX; intro a hX) | (refine d_take (i := 0) (fuel := 6) (d := 13) (listed' := #[true, false, false, false, false, false, false]) hX rfl (by kernel_rfl) (by kernel_rfl) (by kernel_rfl) (fun _ _ _ h => (by cases h.1)) ⟨rfl, rfl⟩ rfl rfl (by with_reducible (repeat (first | exact Sel.refl _ | exact Sel.nil | refine Sel.cons tk0 ?_ | refine Sel.cons tk1 ?_ | refine Sel.cons tk2 ?_ | refine Sel.cons tk3 ?_ | refine Sel.cons tk4 ?_ | refine Sel.cons tk5 ?_ | refine Sel.cons tk6 ?_ | refine Sel.cons tk7 ?_ | refine Sel.cons tk8 ?_ | refine Sel.cons tk9 ?_ | refine Sel.cons tk10 ?_ | refine Sel.cons tk11 ?_ | refine Sel.cons tk12 ?_))) (v_load hX.st rfl tab_ok rfl rfl rfl foc3 rfl) ?_; clear hX; intro a hX) | (refine d_take (i := 0) (fuel := 6) (d := 13) (listed' := #[true, false, false, false, false, false, false]) hX rfl (by kernel_rfl) (by kernel_rfl) (by kernel_rfl) (fun _ _ _ h => (by cases h.1)) ⟨rfl, rfl⟩ rfl rfl (by with_reducible (repeat (first | exact Sel.refl _ | exact Sel.nil | refine Sel.cons tk0 ?_ | refine Sel.cons tk1 ?_ | refine Sel.cons tk2 ?_ | refine Sel.cons tk3 ?_ | refine Sel.cons tk4 ?_ | refine Sel.cons tk5 ?_ | refine Sel.cons tk6 ?_ | refine Sel.cons tk7 ?_ | refine Sel.cons tk8 ?_ | refine Sel.cons tk9 ?_ | refine Sel.cons tk10 ?_ | refine Sel.cons tk11 ?_ | refine Sel.cons tk12 ?_))) (v_load_old hX.st rfl tab_ok rfl rfl rfl (by assumption) (by assumption)) ?_; clear hX; intro a hX))
      (first | (refine d_take (i := 1) (fuel := 5) (d := 14) (listed' := #[true, true, false, false, false, false, false]) hX rfl (by kernel_rfl) (by kernel_rfl) (by kernel_rfl) (fun _ _ _ h => (by cases h.1)) ⟨rfl, rfl⟩ rfl rfl (by with_reducible (repeat (first | exact Sel.refl _ | exact Sel.nil | refine Sel.cons tk0 ?_ | refine Sel.cons tk1 ?_ | refine Sel.cons tk2 ?_ | refine Sel.cons tk3 ?_ | refine Sel.cons tk4 ?_ | refine Sel.cons tk5 ?_ | refine Sel.cons tk6 ?_ | refine Sel.cons tk7 ?_ | refine Sel.cons tk8 ?_ | refine Sel.cons tk9 ?_ | refine Sel.cons tk10 ?_ | refine Sel.cons tk11 ?_ | refine Sel.cons tk12 ?_))) (v_load hX.st rfl tab_ok rfl rfl rfl foc0 rfl) ?_; clear hX; intro a hX) | (refine d_take (i := 1) (fuel := 5) (d := 14) (listed' := #[true, true, false, false, false, false, false]) hX rfl (by kernel_rfl) (by kernel_rfl) (by kernel_rfl) (fun _ _ _ h => (by cases h.1)) ⟨rfl, rfl⟩ rfl rfl (by with_reducible (repeat (first | exact Sel.refl _ | exact Sel.nil | refine Sel.cons tk0 ?_ | refine Sel.cons tk1 ?_ | refine Sel.cons tk2 ?_ | refine Sel.cons tk3 ?_ | refine Sel.cons tk4 ?_ | refine Sel.cons tk5 ?_ | refine Sel.cons tk6 ?_ | refine Sel.cons tk7 ?_ | refine Sel.cons tk8 ?_ | refine Sel.cons tk9 ?_ | refine Sel.cons tk10 ?_ | refine Sel.cons tk11 ?_ | refine Sel.cons tk12 ?_))) (v_load hX.st rfl tab_ok rfl rfl rfl foc1 rfl) ?_; clear hX; intro a hX) | (refine d_take (i := 1) (fuel := 5) (d := 14) (listed' := #[true, true, false, false, false, false, false]) hX rfl (by kernel_rfl) (by kernel_rfl) (by kernel_rfl) (fun _ _ _ h => (by cases h.1)) ⟨rfl, rfl⟩ rfl rfl (by with_reducible (repeat (first | exact Sel.refl _ | exact Sel.nil | refine Sel.cons tk0 ?_ | refine Sel.cons tk1 ?_ | refine Sel.cons tk2 ?_ | refine Sel.cons tk3 ?_ | refine Sel.cons tk4 ?_ | refine Sel.cons tk5 ?_ | refine Sel.cons tk6 ?_ | refine Sel.cons tk7 ?_ | refine Sel.cons tk8 ?_ | refine Sel.cons tk9 ?_ | refine Sel.cons tk10 ?_ | refine Sel.cons tk11 ?_ | refine Sel.cons tk12 ?_))) (v_load hX.st rfl tab_ok rfl rfl rfl foc2 rfl) ?_; clear hX; intro a hX) | (refine d_take (i := 1) (fuel := 5) (d := 14) (listed' := #[true, true, false, false, false, false, false]) hX rfl (by kernel_rfl) (by kernel_rfl) (by kernel_rfl) (fun _ _ _ h => (by cases h.1)) ⟨rfl, rfl⟩ rfl rfl (by with_reducible (repeat (first | exact Sel.refl _ | exact Sel.nil | refine Sel.cons tk0 ?_ | refine Sel.cons tk1 ?_ | refine Sel.cons tk2 ?_ | refine Sel.cons tk3 ?_ | refine Sel.cons tk4 ?_ | refine Sel.cons tk5 ?_ | refine Sel.cons tk6 ?_ | refine Sel.cons tk7 ?_ | refine Sel.cons tk8 ?_ | refine Sel.cons tk9 ?_ | refine Sel.cons tk10 ?_ | refine Sel.cons tk11 ?_ | refine Sel.cons tk12 ?_))) (v_load hX.st rfl tab_ok rfl rfl rfl foc3 rfl) ?_; clear hX; intro a hX) | (refine d_take (i := 1) (fuel := 5) (d := 14) (listed' := #[true, true, false, false, false, false, false]) hX rfl (by kernel_rfl) (by kernel_rfl) (by kernel_rfl) (fun _ _ _ h => (by cases h.1)) ⟨rfl, rfl⟩ rfl rfl (by with_reducible (repeat (first | exact Sel.refl _ | exact Sel.nil | refine Sel.cons tk0 ?_ | refine Sel.cons tk1 ?_ | refine Sel.cons tk2 ?_ | refine Sel.cons tk3 ?_ | refine Sel.cons tk4 ?_ | refine Sel.cons tk5 ?_ | refine Sel.cons tk6 ?_ | refine Sel.cons tk7 ?_ | refine Sel.cons tk8 ?_ | refine Sel.cons tk9 ?_ | refine Sel.cons tk10 ?_ | refine Sel.cons tk11 ?_ | refine Sel.cons tk12 ?_))) (v_load_old hX.st rfl tab_ok rfl rfl rfl (by assumption) (by assumption)) ?_; clear hX; intro a hX))
      ((refine d_take (i := 2) (fuel := 4) (d := 15) (listed' := #[true, true, true, false, false, false, false]) hX rfl (by kernel_rfl) (by kernel_rfl) (by kernel_rfl) (fun _ _ _ h => (by cases h.1)) ⟨rfl, rfl⟩ rfl rfl (by with_reducible (repeat (first | exact Sel.refl _ | exact Sel.nil | refine Sel.cons tk0 ?_ | refine Sel.cons tk1 ?_ | refine Sel.cons tk2 ?_ | refine Sel.cons tk3 ?_ | refine Sel.cons tk4 ?_ | refine Sel.cons tk5 ?_ | refine Sel.cons tk6 ?_ | refine Sel.cons tk7 ?_ | refine Sel.cons tk8 ?_ | refine Sel.cons tk9 ?_ | refine Sel.cons tk10 ?_ | refine Sel.cons tk11 ?_ | refine Sel.cons tk12 ?_))) (fun w _ => (p_move hX.st rfl rfl) w) ?_; clear hX; intro a hX))
      ((refine d_take (i := 3) (fuel := 3) (d := 16) (listed' := #[true, true, true, true, false, false, false]) hX rfl (by kernel_rfl) (by kernel_rfl) (by kernel_rfl) (fun _ _ _ h => (by cases h.1)) ⟨rfl, rfl⟩ rfl rfl (by with_reducible (repeat (first | exact Sel.refl _ | exact Sel.nil | refine Sel.cons tk0 ?_ | refine Sel.cons tk1 ?_ | refine Sel.cons tk2 ?_ | refine Sel.cons tk3 ?_ | refine Sel.cons tk4 ?_ | refine Sel.cons tk5 ?_ | refine Sel.cons tk6 ?_ | refine Sel.cons tk7 ?_ | refine Sel.cons tk8 ?_ | refine Sel.cons tk9 ?_ | refine Sel.cons tk10 ?_ | refine Sel.cons tk11 ?_ | refine Sel.cons tk12 ?_))) (fun w _ => (p_sliceFrom hX.st rfl tab_ok rfl rfl rfl rfl rfl (by first | rfl | omega) (by first | omega | decide)) w) ?_; clear hX; intro a hX))
      ((refine d_take (i := 4) (fuel := 2) (d := 17) (listed' := #[true, true, true, true, true, false, false]) hX rfl (by kernel_rfl) (by kernel_rfl) (by kernel_rfl) (fun _ _ _ h => (by cases h.1)) ⟨rfl, rfl⟩ rfl rfl (by with_reducible (repeat (first | exact Sel.refl _ | exact Sel.nil | refine Sel.cons tk0 ?_ | refine Sel.cons tk1 ?_ | refine Sel.cons tk2 ?_ | refine Sel.cons tk3 ?_ | refine Sel.cons tk4 ?_ | refine Sel.cons tk5 ?_ | refine Sel.cons tk6 ?_ | refine Sel.cons tk7 ?_ | refine Sel.cons tk8 ?_ | refine Sel.cons tk9 ?_ | refine Sel.cons tk10 ?_ | refine Sel.cons tk11 ?_ | refine Sel.cons tk12 ?_))) (fun w _ => (p_len hX.st rfl tab_ok rfl rfl rfl) w) ?_; clear hX; intro a hX))
      ((refine d_take (i := 5) (fuel := 1) (d := 18) (listed' := #[true, true, true, true, true, true, false]) hX rfl (by kernel_rfl) (by kernel_rfl) (by kernel_rfl) (fun _ _ _ h => (by cases h.1)) ⟨rfl, rfl⟩ rfl rfl (by with_reducible (repeat (first | exact Sel.refl _ | exact Sel.nil | refine Sel.cons tk0 ?_ | refine Sel.cons tk1 ?_ | refine Sel.cons tk2 ?_ | refine Sel.cons tk3 ?_ | refine Sel.cons tk4 ?_ | refine Sel.cons tk5 ?_ | refine Sel.cons tk6 ?_ | refine Sel.cons tk7 ?_ | refine Sel.cons tk8 ?_ | refine Sel.cons tk9 ?_ | refine Sel.cons tk10 ?_ | refine Sel.cons tk11 ?_ | refine Sel.cons tk12 ?_))) (fun w _ => (p_min hX.st rfl rfl rfl hmin) w) ?_; clear hX; intro a hX))
      ((refine d_take (i := 6) (fuel := 0) (d := 5) (listed' := #[true, true, true, true, true, true, true]) hX rfl (by kernel_rfl) (by kernel_rfl) (by kernel_rfl) (fun _ _ _ h => (by cases h.1)) ⟨rfl, rfl⟩ rfl rfl (by with_reducible (repeat (first | exact Sel.refl _ | exact Sel.nil | refine Sel.cons tk0 ?_ | refine Sel.cons tk1 ?_ | refine Sel.cons tk2 ?_ | refine Sel.cons tk3 ?_ | refine Sel.cons tk4 ?_ | refine Sel.cons tk5 ?_ | refine Sel.cons tk6 ?_ | refine Sel.cons tk7 ?_ | refine Sel.cons tk8 ?_ | refine Sel.cons tk9 ?_ | refine Sel.cons tk10 ?_ | refine Sel.cons tk11 ?_ | refine Sel.cons tk12 ?_))) (fun w _ => (p_assign hX.st rfl rfl) w) ?_; clear hX; intro a hX))
      refine d_done (by kernel_rfl) ?_
      refine ⟨rfl, ?_⟩
      refine q_then ?_
      refine wpIn_seq ?_
      refine c_region ?_
      refine xl_cons ?_; ((refine y_pure (d := 19) hX ⟨rfl, rfl⟩ rfl (p_move hX.st rfl rfl) ?_; clear hX; intro a w hX))
      refine xl_cons ?_; (first | (refine y_read (d := 20) hX ⟨rfl, rfl⟩ rfl (v_load hX.st rfl tab_ok rfl rfl rfl foc0 rfl) ?_; clear hX; intro a w hX) | (refine y_read (d := 20) hX ⟨rfl, rfl⟩ rfl (v_load hX.st rfl tab_ok rfl rfl rfl foc1 rfl) ?_; clear hX; intro a w hX) | (refine y_read (d := 20) hX ⟨rfl, rfl⟩ rfl (v_load hX.st rfl tab_ok rfl rfl rfl foc2 rfl) ?_; clear hX; intro a w hX) | (refine y_read (d := 20) hX ⟨rfl, rfl⟩ rfl (v_load hX.st rfl tab_ok rfl rfl rfl foc3 rfl) ?_; clear hX; intro a w hX) | (refine y_read (d := 20) hX ⟨rfl, rfl⟩ rfl (v_load hX.st rfl tab_ok rfl rfl rfl foc4 rfl) ?_; clear hX; intro a w hX) | (refine y_read (d := 20) hX ⟨rfl, rfl⟩ rfl (v_load hX.st rfl tab_ok rfl rfl rfl foc5 rfl) ?_; clear hX; intro a w hX) | (refine y_read (d := 20) hX ⟨rfl, rfl⟩ rfl (v_load hX.st rfl tab_ok rfl rfl rfl foc6 rfl) ?_; clear hX; intro a w hX) | (refine y_read (d := 20) hX ⟨rfl, rfl⟩ rfl (v_load hX.st rfl tab_ok rfl rfl rfl foc7 rfl) ?_; clear hX; intro a w hX) | (refine y_read (d := 20) hX ⟨rfl, rfl⟩ rfl (v_load hX.st rfl tab_ok rfl rfl rfl foc8 rfl) ?_; clear hX; intro a w hX) | (refine y_read (d := 20) hX ⟨rfl, rfl⟩ rfl (v_load hX.st rfl tab_ok rfl rfl rfl foc9 rfl) ?_; clear hX; intro a w hX) | (refine y_read (d := 20) hX ⟨rfl, rfl⟩ rfl (v_load hX.st rfl tab_ok rfl rfl rfl foc10 rfl) ?_; clear hX; intro a w hX) | (refine y_read (d := 20) hX ⟨rfl, rfl⟩ rfl (v_load hX.st rfl tab_ok rfl rfl rfl foc11 rfl) ?_; clear hX; intro a w hX) | (refine y_read (d := 20) hX ⟨rfl, rfl⟩ rfl (v_load hX.st rfl tab_ok rfl rfl rfl foc12 rfl) ?_; clear hX; intro a w hX) | (refine y_read (d := 20) hX ⟨rfl, rfl⟩ rfl (v_load_old hX.st rfl tab_ok rfl rfl rfl (by assumption) (by assumption)) ?_; clear hX; intro a w hX))
      refine xl_cons ?_; ((refine y_pure (d := 21) hX ⟨rfl, rfl⟩ rfl (p_move hX.st rfl rfl) ?_; clear hX; intro a w hX))
      refine xl_cons ?_; ((refine y_pure (d := 22) hX ⟨rfl, rfl⟩ rfl (p_move hX.st rfl rfl) ?_; clear hX; intro a w hX))
      refine xl_cons ?_; ((refine y_pure (d := 23) hX ⟨rfl, rfl⟩ rfl (p_move hX.st rfl rfl) ?_; clear hX; intro a w hX))
      refine xl_cons ?_; (first | (refine y_pure (d := 24) hX ⟨rfl, rfl⟩ rfl (p_add hX.st rfl rfl rfl (in_i64 (by omega) (by omega))) ?_; clear hX; intro a w hX) | (refine y_pure (d := 24) hX ⟨rfl, rfl⟩ rfl (p_add hX.st rfl rfl rfl rfl) ?_; clear hX; intro a w hX))
      refine xl_cons ?_; ((refine y_pure (d := 25) hX ⟨rfl, rfl⟩ rfl (p_move hX.st rfl rfl) ?_; clear hX; intro a w hX))
      refine xl_cons ?_; ((refine y_pure (d := 26) hX ⟨rfl, rfl⟩ rfl (p_move hX.st rfl rfl) ?_; clear hX; intro a w hX))
      refine xl_cons ?_; (first | (refine y_pure (d := 27) hX ⟨rfl, rfl⟩ rfl (p_add hX.st rfl rfl rfl (in_i64 (by omega) (by omega))) ?_; clear hX; intro a w hX) | (refine y_pure (d := 27) hX ⟨rfl, rfl⟩ rfl (p_add hX.st rfl rfl rfl rfl) ?_; clear hX; intro a w hX))
      refine xl_cons ?_; ((refine y_pure (d := 28) hX ⟨rfl, rfl⟩ rfl (p_slice3 hX.st rfl tab_ok rfl rfl rfl rfl rfl rfl rfl (by first | rfl | omega) (by first | rfl | omega) (by first | rfl | omega) (by first | omega | decide) (by first | omega | decide) (by first | omega | decide)) ?_; clear hX; intro a w hX))
      (have hJw : J pre w := hJ pre w1 w none hJ1 ⟨hX.sh.below.os, hX.sh.below.tape, hX.sh.below.output, hX.sh.below.size, fun k hk _ => hX.sh.below.block k hk⟩ (fun r e => by cases e); have hy := hY pre ⟨pre.length, hlt⟩ w hJw (by omega); refine x_yield (d := 29) (x := chunkV36 A m pre.length) hX rfl ⟨rfl, rfl⟩ rfl rfl (by show some (Value.slice (cutA A (pre.length * 3) 1 (pre.length * 3 + min 3 (m - pre.length * 3))) (pre.length * 3 + min 3 (m - pre.length * 3) - pre.length * 3) (pre.length * 3 + min 3 (m - pre.length * 3) - pre.length * 3)) = some (chunkV36 A m pre.length); rw [Nat.add_sub_cancel_left]; rfl) hy (by rintro e w' (⟨rfl, _⟩ | ⟨rfl, _⟩) <;> exact ⟨_, rfl⟩) ?_; rintro v a2 w2 hq hS2; have hsz2 := hX.sh.below.size; have hcs := (hX.sh.below.cell (p := ⟨bs, 0, none⟩) hbs1).trans hs1; have hcn := (hX.sh.below.cell (p := ⟨bn, 0, none⟩) hbn1).trans hn1; clear hX a; have hq2 : ∃ b : Bool, v = .bool b ∧ (b = true → J (pre ++ [⟨pre.length, hlt⟩]) w2 ∧ KO (Ats [.cel bs [.slice A m c] 22, .cel bn [.int .i64 3] 3]) w w2) ∧ (b = false → Jx (pre ++ [⟨pre.length, hlt⟩]) w2) := (by rcases hq with ⟨hv, h1, h2⟩ | ⟨hv, h1⟩; exact ⟨true, by injection hv, fun _ => ⟨h1, h2⟩, fun e => by cases e⟩; exact ⟨false, by injection hv, (fun e => by cases e), fun _ => h1⟩); obtain ⟨bb, rfl, hgo, hstop⟩ := hq2; have hX := (⟨hS2, SH.start w2⟩ : Sym 31 [] _ _ w2 [] a2 w2); clear hS2)
      refine xl_cons ?_; ((refine y_pure (d := 30) hX ⟨rfl, rfl⟩ rfl (p_not hX.st rfl rfl) ?_; clear hX; intro a w hX))
      refine x_end ?_
      refine q_then ?_
      refine c_cond hX rfl (fun hc => ?_) (fun hc => ?_)
      ·
        try (first | cases hc | exact (contra_tf hc (by with_reducible assumption)).elim | exact (contra_tf (by with_reducible assumption) hc).elim | exact absurd hc (by decide))
        all_goals
          refine c_ret ?_
          refine q_block_ret ?_
          refine q_then_ret ?_
          refine q_then_ret ?_
          refine q_block_ret ?_
          first
          | exact f_endI hX rfl ⟨⟨_, rfl⟩, .inr ⟨pre ++ [⟨pre.length, hlt⟩], ⟨by simp [hpre, List.range_succ], by simp; omega⟩, hJx _ w2 _ none (hstop (by simpa using hc)) hX.sh.grown (fun r e => by cases e)⟩⟩
          | (exact f_endN hX rfl ⟨⟨_, rfl⟩, .inl ⟨pre, by show List.map _ pre = _; rw [hpre]; congr 1; have h5 := hc; simp only [decide_eq_false_iff_not] at h5; omega, hJ pre w1 _ none hJ1 hX.sh.grown (fun r e => by cases e)⟩⟩)
      ·
        try (first | cases hc | exact (contra_tf hc (by with_reducible assumption)).elim | exact (contra_tf (by with_reducible assumption) hc).elim | exact absurd hc (by decide))
        all_goals
          refine c_skip ?_
          refine q_block ?_
          refine q_then ?_
          obtain ⟨hJ2, hKO⟩ := hgo (by simpa using hc)
          have hbs2 := Nat.lt_of_lt_of_le hbs1 (Nat.le_trans hsz2 hKO.size)
          have hbn2 := Nat.lt_of_lt_of_le hbn1 (Nat.le_trans hsz2 hKO.size)
          have hs2 := (hKO.cell (p := ⟨bs, 0, none⟩) ⟨_, List.mem_cons_self, rfl⟩).trans hcs
          have hn2 := (hKO.cell (p := ⟨bn, 0, none⟩) ⟨_, List.mem_cons_of_mem _ List.mem_cons_self, rfl⟩).trans hcn
          clear hs1 hn1 hbs1 hbn1
          refine c_region ?_
          refine xl_cons ?_; ((refine y_pure (d := 10) hX ⟨rfl, rfl⟩ rfl (p_move hX.st rfl rfl) ?_; clear hX; intro a w hX))
          refine xl_cons ?_; (first | (refine y_read (d := 11) hX ⟨rfl, rfl⟩ rfl (v_load hX.st rfl tab_ok rfl rfl rfl foc0 rfl) ?_; clear hX; intro a w hX) | (refine y_read (d := 11) hX ⟨rfl, rfl⟩ rfl (v_load hX.st rfl tab_ok rfl rfl rfl foc1 rfl) ?_; clear hX; intro a w hX) | (refine y_read (d := 11) hX ⟨rfl, rfl⟩ rfl (v_load hX.st rfl tab_ok rfl rfl rfl foc2 rfl) ?_; clear hX; intro a w hX) | (refine y_read (d := 11) hX ⟨rfl, rfl⟩ rfl (v_load hX.st rfl tab_ok rfl rfl rfl foc3 rfl) ?_; clear hX; intro a w hX) | (refine y_read (d := 11) hX ⟨rfl, rfl⟩ rfl (v_load hX.st rfl tab_ok rfl rfl rfl foc4 rfl) ?_; clear hX; intro a w hX) | (refine y_read (d := 11) hX ⟨rfl, rfl⟩ rfl (v_load hX.st rfl tab_ok rfl rfl rfl foc5 rfl) ?_; clear hX; intro a w hX) | (refine y_read (d := 11) hX ⟨rfl, rfl⟩ rfl (v_load hX.st rfl tab_ok rfl rfl rfl foc6 rfl) ?_; clear hX; intro a w hX) | (refine y_read (d := 11) hX ⟨rfl, rfl⟩ rfl (v_load hX.st rfl tab_ok rfl rfl rfl foc7 rfl) ?_; clear hX; intro a w hX) | (refine y_read (d := 11) hX ⟨rfl, rfl⟩ rfl (v_load hX.st rfl tab_ok rfl rfl rfl foc8 rfl) ?_; clear hX; intro a w hX) | (refine y_read (d := 11) hX ⟨rfl, rfl⟩ rfl (v_load hX.st rfl tab_ok rfl rfl rfl foc9 rfl) ?_; clear hX; intro a w hX) | (refine y_read (d := 11) hX ⟨rfl, rfl⟩ rfl (v_load hX.st rfl tab_ok rfl rfl rfl foc10 rfl) ?_; clear hX; intro a w hX) | (refine y_read (d := 11) hX ⟨rfl, rfl⟩ rfl (v_load hX.st rfl tab_ok rfl rfl rfl foc11 rfl) ?_; clear hX; intro a w hX) | (refine y_read (d := 11) hX ⟨rfl, rfl⟩ rfl (v_load hX.st rfl tab_ok rfl rfl rfl foc12 rfl) ?_; clear hX; intro a w hX) | (refine y_read (d := 11) hX ⟨rfl, rfl⟩ rfl (v_load_old hX.st rfl tab_ok rfl rfl rfl (by assumption) (by assumption)) ?_; clear hX; intro a w hX))
          refine xl_cons ?_; (first | (refine y_pure (d := 12) hX ⟨rfl, rfl⟩ rfl (p_add hX.st rfl rfl rfl (in_i64 (by omega) (by omega))) ?_; clear hX; intro a w hX) | (refine y_pure (d := 12) hX ⟨rfl, rfl⟩ rfl (p_add hX.st rfl rfl rfl rfl) ?_; clear hX; intro a w hX))
          refine xl_cons ?_; ((refine y_pure (d := 4) hX ⟨rfl, rfl⟩ rfl (p_assign hX.st rfl rfl) ?_; clear hX; intro a w hX))
          refine x_end ?_
          refine q_then ?_
          exact ⟨(pre ++ [⟨pre.length, hlt⟩], w2), ⟨by simp [hpre, List.range_succ], by simp; omega, hJ2, hbs2, hbn2, hs2, hn2, Nat.le_trans hsz (Nat.le_trans hsz2 hKO.size), hX.to (Sub.cons (look_int rfl (by simp; omega)) (by repeat (first | exact Sub.nil | refine Sub.cons rfl ?_))) Sel.nil⟩, by simp; omega⟩
  ·
    try (first | cases hc | exact (contra_tf hc (by with_reducible assumption)).elim | exact (contra_tf (by with_reducible assumption) hc).elim | exact absurd hc (by decide))
    all_goals
      refine c_exit ?_
      refine q_then_exit ?_
      refine q_then_exit ?_
      refine q_block_exit ?_
      first
      | exact f_endI hX rfl ⟨⟨_, rfl⟩, .inr ⟨pre ++ [⟨pre.length, hlt⟩], ⟨by simp [hpre, List.range_succ], by simp; omega⟩, hJx _ w2 _ none (hstop (by simpa using hc)) hX.sh.grown (fun r e => by cases e)⟩⟩
      | (exact f_endN hX rfl ⟨⟨_, rfl⟩, .inl ⟨pre, by show List.map _ pre = _; rw [hpre]; congr 1; have h5 := hc; simp only [decide_eq_false_iff_not] at h5; omega, hJ pre w1 _ none hJ1 hX.sh.grown (fun r e => by cases e)⟩⟩)

end Go.Proofs.Ytjemilhbipaepaa
