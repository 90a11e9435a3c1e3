/- Lemmas for the laws. -/
import Derived.Test.YtjemilhbipaepaaS24
namespace Go.Proofs.Ytjemilhbipaepaa
open Go.RowKit

theorem v_loadC {P : Program} {o : Oper} {n : Nat} {D : List Deferred} {L : List (Nat × Value)} {a : Act} {T : List (TypeId × TI)} {x : Operand} {t : TypeId} {i : TI} {b p : Nat} {v : Value} (hS : St n D L a) (hop : o.op = .load t x)
    (hT : TabOk P T) (h1 : T.lookup t = some i) (h2 : isAggD i.desc = false) (hx : ev L x = some (.pointer (some ⟨b, p, none⟩))) (w : World) (hc : w.cell? ⟨b, p, none⟩ = some v) : (execOp a.eval o).run P w = .ok (.value v) w := by
  simp [execOp, hop, hS.ev hx, Instr.loadAt, Instr.sureAddr, loadVar, TI.run_isAgg (hT _ _ h1), h2, hc]
theorem block_at (ops : List Op) (rs : List BR) (hy : rs.reverse.map (·.l) = blockList ops) (i : Nat) (hlt : i < nBlocks ops) : ∃ r, rs.reverse[i]? = some r ∧ r.l = encBlock (blk ops i) ∧ brP r ∈ rs.map brP := by
  have hlen : rs.length = nBlocks ops := by have := congrArg List.length hy; rw [blockList_length] at this; simpa using this
  have hbl : i < (blockList ops).length := by rw [blockList_length]; exact hlt
  have hi' : i < rs.reverse.length := by rw [List.length_reverse, hlen]; exact hlt
  have h1 : (rs.reverse.map (·.l))[i]? = (blockList ops)[i]? := by rw [hy]
  rw [List.getElem?_map, List.getElem?_eq_getElem hi', List.getElem?_eq_getElem hbl] at h1
  refine ⟨rs.reverse[i], List.getElem?_eq_getElem hi', ?_, List.mem_map.2 ⟨_, List.mem_reverse.1 (List.getElem_mem hi'), rfl⟩⟩
  have h2 : (blockList ops)[i] = encBlock (blk ops i) := by simp [blockList]
  rw [← h2]
  simpa using h1
theorem row_addr {B : Nat → Prop} {w0 w : World} {H : List Ck} (hH : SH B w0 H w) {A : Option Addr} {c : Nat} {e : TypeId} {size m : Nat} {xs : List Value} (hm : Ck.row A c e size m xs ∈ H) (h0 : 0 < m) : ∃ g, A = some ⟨g, 0, none⟩ := by
  rcases (hH.ok _ hm).2 with ⟨_, h, _⟩ | ⟨g, _, _, h, _⟩
  · omega
  · exact ⟨g, h⟩
theorem row_addr_br {B : Nat → Prop} {w0 w : World} {H : List Ck} (hH : SH B w0 H w) {r : BR} (hm : brP r ∈ H) (h0 : 0 < r.l.length) : ∃ g, r.A = some ⟨g, 0, none⟩ := row_addr (m := r.l.length) hH hm h0
theorem byte0 {B : Nat → Prop} {w0 w : World} {H : List Ck} (hH : SH B w0 H w) {r : BR} (hm : brP r ∈ H) {gr : Nat} (hgr : r.A = some ⟨gr, 0, none⟩) {bk : List Op} (hr2 : r.l = encBlock bk) (hb : bk.length < 256) : w.cell? ⟨gr, 0, none⟩ = some (.int .u8 bk.length) := by
  have h1 : Reads w r.A r.l.length 1 (r.l.map byteV) := Reads.rowM hH hm
  obtain ⟨b9, p9, e9, hc9⟩ := h1.2 (by rw [hr2, encBlock_length]; omega)
  rw [hgr] at e9
  cases e9
  have h2 := hc9 0 (byteV (UInt8.ofNat bk.length)) (by rw [hr2]; rfl)
  rw [← byteV_ofNat bk.length hb _ rfl] at h2
  exact h2
theorem take_blk (ops : List Op) (i : Nat) : ops.take (32 * (i + 1)) = ops.take (32 * i) ++ blk ops i := by
  rw [show 32 * (i + 1) = 32 * i + 32 by omega, List.take_add, blk, Nat.mul_comm i 32]
theorem app_cut (ops : List Op) (b : List UInt8) (r : List Op) (o : Bool) (h : readAll b = (r, o, 4)) (hr : r.length ≤ 4096) (o' : Bool) (ho : o' = (decide (b.length = 0) || o)) : appErr b [] = if o' then 0 else 4 := by
  unfold appErr reErr reN
  rw [h]
  by_cases h0 : b.length = 0
  · simp [h0, ho, opsErr, reErr]
  · cases o
    · simp [h0, ho, reErr, h]
    · simp [h0, ho, reErr, h, opsErr]
      omega
theorem same_yes2 (A1 A2 : Option Addr) (n n2 c1 c2 : Nat) (u : List Op) (hn1 : u.length = n) (hn2 : u.length = n2) (hl : n ≤ 1000000) (hc1 : c1 = n) (W : World) (hR1 : Reads W A1 n 6 (opsC u)) (hR2 : Reads W A2 n2 6 (opsC u)) :
    Ret Try.prog 17 #[.slice A1 n c1, .slice A2 n2 c2] W fun r w' => r = .int .i64 1 ∧ SF W [] w' := by
  have h := same_any A1 A2 n n2 c1 c2 u u hn1 hn2 hl (by omega) W hR1 hR2
  rw [sameV, if_pos ⟨rfl, by omega⟩] at h
  exact h
theorem opsC_take (l : List Op) (k : Nat) : (opsC l).take (k * 6) = opsC (l.take k) := by
  have := opsC_cut l 0 k
  simpa using this
theorem take_len_take (l : List Op) (k : Nat) : l.take (l.take k).length = l.take k := by
  rw [List.length_take, List.take_eq_take_iff]; omega
theorem append_n (A : Option Addr) (c n : Nat) (l : List UInt8) (hn : l.length = n) (hl : n ≤ 90000) (hcc : n ≤ c) (hc2 : c ≤ 9223372036854775807) (Ao : Option Addr) (co no : Nat) (ops : List Op) (hno : ops.length = no) (hlo : no ≤ 1000000) (hco : no ≤ co) (hco2 : co ≤ 9223372036854775807) (e : Int) (he : appErr l ops = e) (W : World) (hR : Reads W A n 1 (l.map byteV)) (hRo : Reads W Ao no 6 (opsC ops)) :
    Ret Try.prog 20 #[.slice A n c, .slice Ao no co] W fun v w' => ∃ A', v = .tuple #[.slice A' (appRes l ops).length (appRes l ops).length, .int .i64 e] ∧ True ∧ SF W [.row A' (appRes l ops).length 5 1 (appRes l ops).length ((appRes l ops).map byteV)] w' := by
  subst hn; subst hno; subst he; exact append_any A c l hl hcc hc2 Ao co ops hlo hco hco2 W hR hRo
end Go.Proofs.Ytjemilhbipaepaa
