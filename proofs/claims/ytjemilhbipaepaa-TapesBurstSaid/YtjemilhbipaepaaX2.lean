/- Known blocks: a short list of pieces of memory of the call's own, over a world that is as it was below a number. -/
import Derived.Test.YtjemilhbipaepaaX1
import Derived.Laws.AppendOwn
import Derived.Laws.OwnMore
import Derived.Laws.CopyRow
namespace Go.Proofs.Ytjemilhbipaepaa
open Go.RowKit

/-- What the table says of a type. -/
structure TI where
  desc : TypeDesc
  size : Nat
  bytes : Nat
  zero : Value
def TI.ok (P : Program) (t : TypeId) (i : TI) : Prop :=
  P.underlying t = some i.desc ∧ (P.info? t).map (fun x => (x.size, x.bytes, x.zero)) = some (i.size, i.bytes, some i.zero)
def TabOk (P : Program) (T : List (TypeId × TI)) : Prop := ∀ t i, T.lookup t = some i → TI.ok P t i
theorem TabOk.nil (P : Program) : TabOk P [] := fun _ _ h => by cases h
theorem TabOk.cons {P : Program} {T : List (TypeId × TI)} {t : TypeId} {i : TI} (h : TI.ok P t i) (hT : TabOk P T) : TabOk P ((t, i) :: T) := fun s j hs => by
  rw [List.lookup_cons] at hs
  by_cases e : (s == t) = true
  · rw [e] at hs
    have e1 : s = t := by simpa using e
    have e2 : i = j := Option.some.inj hs
    subst e1; subst e2; exact h
  · have e' : (s == t) = false := by simpa using e
    rw [e'] at hs
    exact hT s j hs
theorem TI.info {P : Program} {t : TypeId} {i : TI} (h : TI.ok P t i) : ∃ x, P.info? t = some x ∧ x.size = i.size ∧ x.bytes = i.bytes ∧ x.zero = some i.zero := by
  have h2 := h.2
  cases hx : P.info? t with
  | none => rw [hx] at h2; cases h2
  | some x =>
    rw [hx] at h2
    simp only [Option.map_some, Option.some.injEq, Prod.mk.injEq] at h2
    exact ⟨x, rfl, h2.1, h2.2.1, h2.2.2⟩
def isAggD : TypeDesc → Bool
  | .struct _ | .array _ _ => true
  | _ => false
section
variable {P : Program} {t : TypeId} {i : TI} (h : TI.ok P t i) (w : World)
include h
theorem TI.run_isAgg : (isAgg t).run P w = .ok (isAggD i.desc) w := by
  have hd := h.1
  unfold isAgg
  simp only [Sem.run_bind, run_underlying hd, Result.andThen_ok]
  cases i.desc <;> simp [isAggD]
theorem TI.run_sizeOf : (sizeOf t).run P w = .ok i.size w := by
  obtain ⟨x, hx, h1, _⟩ := TI.info h
  simp [sizeOf, typeInfo, hx, h1]
theorem TI.run_zero : (zeroValue t).run P w = .ok i.zero w := by
  obtain ⟨x, hx, _, _, h3⟩ := TI.info h
  simp [zeroValue, typeInfo, hx, h3]
end

/-- The blocks of which B speaks are as they were. -/
structure KO (B : Nat → Prop) (w w' : World) : Prop where
  os : w'.os = w.os
  tape : w'.tape = w.tape
  output : w'.output = w.output
  size : w.heap.size ≤ w'.heap.size
  block : ∀ k, B k → w'.heap[k]? = w.heap[k]?
theorem KO.refl (B : Nat → Prop) (w : World) : KO B w w := ⟨rfl, rfl, rfl, Nat.le_refl _, fun _ _ => rfl⟩
theorem KO.trans {B : Nat → Prop} {a b c : World} (h : KO B a b) (k : KO B b c) : KO B a c :=
  ⟨k.os.trans h.os, k.tape.trans h.tape, k.output.trans h.output, Nat.le_trans h.size k.size, fun i hi => (k.block i hi).trans (h.block i hi)⟩
theorem KO.cell {B : Nat → Prop} {w w' : World} (h : KO B w w') {p : Addr} (hp : B p.block) : w'.cell? p = w.cell? p := World.cell?_of_block (w := w) (h.block p.block hp)
theorem KO.of_below {w w' : World} {B : Nat → Prop} (h : Below w.heap.size w w') (hB : ∀ k, B k → k < w.heap.size) : KO B w w' := ⟨h.os, h.tape, h.output, h.size, fun k hk => h.block k (hB k hk)⟩
theorem KO.to_below {w w' : World} (h : KO (fun k => k < w.heap.size) w w') : Below w.heap.size w w' := ⟨h.os, h.tape, h.output, h.size, h.block⟩
/-- A slice that begins at the head of a row of the call's own, or nil: what its elements' cells are. -/
def Owns (w : World) (B : Nat → Prop) (e : TypeId) (size : Nat) (A : Option Addr) (c n : Nat) (xs : List Value) : Prop :=
  xs.length = n * size ∧ ((A = none ∧ n = 0 ∧ c = 0) ∨ ∃ g cur fr, A = some ⟨g, 0, none⟩ ∧ ¬ B g ∧ w.heap[g]? = some (.cells cur e fr) ∧ (fr.1 = fr.2 ∨ cur.size ≤ fr.1) ∧ n ≤ c ∧ c ≤ maxLen ∧ cur.size = c * size ∧ cur.toList.take (n * size) = xs)
/-- A piece of memory of the call's own: a block that is known whole, or a row to which can be appended. -/
inductive Ck where
  | obj (b : Nat) (o : Obj)
  | cel (b : Nat) (cs : List Value) (e : TypeId)
  | row (A : Option Addr) (c : Nat) (e : TypeId) (size n : Nat) (xs : List Value)
def Ck.at : Ck → Option Nat
  | .obj b _ => some b
  | .cel b _ _ => some b
  | .row A _ _ _ _ _ => A.map (·.block)
def Ck.ok (B : Nat → Prop) (w : World) : Ck → Prop
  | .obj b o => ¬ B b ∧ w.heap[b]? = some o
  | .cel b cs e => ¬ B b ∧ w.heap[b]? = some (.cells cs.toArray e)
  | .row A c e size n xs => Owns w B e size A c n xs
def Ck.off (c d : Ck) : Prop := ∀ b, c.at = some b → d.at ≠ some b

/-- What is known of memory: the blocks of which B speaks are as in w0; the pieces H hold, and are apart. -/
structure SH (B : Nat → Prop) (w0 : World) (H : List Ck) (w : World) : Prop where
  below : KO B w0 w
  base : ∀ k, B k → k < w.heap.size
  ok : ∀ c ∈ H, c.ok B w
  apart : H.Pairwise Ck.off
/-- The same from the beginning of a call on. -/
abbrev SF (W : World) (H : List Ck) (w : World) : Prop := SH (fun k => k < W.heap.size) W H w

theorem Ck.ok.lt {B : Nat → Prop} {w : World} {c : Ck} (h : c.ok B w) {b : Nat} (hb : c.at = some b) : ¬ B b ∧ b < w.heap.size := by
  cases c with
  | obj b' o =>
    have : b' = b := Option.some.inj hb
    subst this
    exact ⟨h.1, (Array.getElem?_eq_some_iff.1 h.2).1⟩
  | cel b' cs e =>
    have : b' = b := Option.some.inj hb
    subst this
    exact ⟨h.1, (Array.getElem?_eq_some_iff.1 h.2).1⟩
  | row A c e size n xs =>
    rcases h.2 with ⟨rfl, _⟩ | ⟨g, cur, fr, rfl, hg, hh, _⟩
    · cases hb
    · have : g = b := Option.some.inj hb
      subst this
      exact ⟨hg, (Array.getElem?_eq_some_iff.1 hh).1⟩
/-- A piece stays if its block does. -/
theorem Ck.ok.keep {B : Nat → Prop} {w w' : World} {c : Ck} (h : c.ok B w) (hk : ∀ b, c.at = some b → w'.heap[b]? = w.heap[b]?) : c.ok B w' := by
  cases c with
  | obj b o => exact ⟨h.1, (hk b rfl).trans h.2⟩
  | cel b cs e => exact ⟨h.1, (hk b rfl).trans h.2⟩
  | row A c e size n xs =>
    refine ⟨h.1, ?_⟩
    rcases h.2 with hn | ⟨g, cur, fr, rfl, hb, hgg, rest⟩
    · exact .inl hn
    · exact .inr ⟨g, cur, fr, rfl, hb, (hk g rfl).trans hgg, rest⟩
/-- A piece is one of the call's own under another condition. -/
theorem Ck.ok.base {B B' : Nat → Prop} {w : World} {c : Ck} (h : c.ok B w) (hB : ∀ b, c.at = some b → ¬ B' b) : c.ok B' w := by
  cases c with
  | obj b o => exact ⟨hB b rfl, h.2⟩
  | cel b cs e => exact ⟨hB b rfl, h.2⟩
  | row A c e size n xs =>
    refine ⟨h.1, ?_⟩
    rcases h.2 with hn | ⟨g, cur, fr, rfl, hb, rest⟩
    · exact .inl hn
    · exact .inr ⟨g, cur, fr, rfl, hB g rfl, rest⟩

section
variable {B : Nat → Prop} {w0 w w' : World} {H : List Ck}
theorem SH.start (w : World) : SF w [] w := ⟨KO.refl _ _, fun _ h => h, (fun _ h => by cases h), List.Pairwise.nil⟩
theorem SH.below' (h : SH B w0 H w) (hb : Below w.heap.size w w') : SH B w0 H w' :=
  ⟨h.below.trans (KO.of_below hb h.base), fun k hk => Nat.lt_of_lt_of_le (h.base k hk) hb.size, fun c hc => (h.ok c hc).keep fun b e => hb.block b ((h.ok c hc).lt e).2, h.apart⟩
theorem SH.drew (h : SH B w0 H w) : SH B w0 H w.drew := ⟨⟨h.below.os, h.below.tape, h.below.output, h.below.size, h.below.block⟩, h.base, fun c hc => (h.ok c hc).keep fun _ _ => rfl, h.apart⟩
theorem SH.fresh (h : SH B w0 H w) : ¬ B w.heap.size := fun hb => Nat.lt_irrefl _ (h.base _ hb)
theorem SH.alloc (h : SH B w0 H w) (o : Obj) : SH B w0 (.obj w.heap.size o :: H) (w.alloc o) := by
  have hb := h.below' ((Below.refl w.heap.size w).alloc (Nat.le_refl _) o)
  exact ⟨hb.below, hb.base, fun c hc => by
    rcases List.mem_cons.1 hc with rfl | hc
    · exact ⟨h.fresh, heap_alloc_new w o⟩
    · exact hb.ok c hc,
   List.Pairwise.cons (fun c hc b e e' => by have := ((h.ok c hc).lt e').2; simp [Ck.at] at e; omega) h.apart⟩
theorem SH.allocC (h : SH B w0 H w) (cs : List Value) (e : TypeId) : SH B w0 (.cel w.heap.size cs e :: H) (w.alloc (.cells cs.toArray e)) := by
  have h1 := h.alloc (.cells cs.toArray e)
  exact ⟨h1.below, h1.base, fun c hc => by
    rcases List.mem_cons.1 hc with rfl | hc
    · exact h1.ok (.obj w.heap.size (.cells cs.toArray e)) (by simp)
    · exact h1.ok c (List.mem_cons_of_mem _ hc), by
    obtain ⟨h2, h3⟩ := List.pairwise_cons.1 h1.apart
    exact List.Pairwise.cons (fun c hc b e => h2 c hc b e) h3⟩
theorem SH.weak (h : SH B w0 H w) {H' : List Ck} (hs : H'.Sublist H) : SH B w0 H' w :=
  ⟨h.below, h.base, fun c hc => h.ok c (hs.subset hc), h.apart.sublist hs⟩
theorem SH.perm (h : SH B w0 H w) {H' : List Ck} (hp : H.Perm H') : SH B w0 H' w :=
  ⟨h.below, h.base, fun c hc => h.ok c (hp.mem_iff.2 hc), (List.Perm.pairwise_iff (fun {c d} hcd b e e' => hcd b e' e) hp).1 h.apart⟩
end

/-- Behind a call: what it hands back, and what there was. -/
theorem SH.join {B : Nat → Prop} {w0 w w' : World} {H C : List Ck} (h : SH B w0 H w) (hc : SF w C w') : SH B w0 (C ++ H) w' := by
  have hb := h.below' hc.below.to_below
  refine ⟨hb.below, hb.base, fun c hm => ?_, List.pairwise_append.2 ⟨hc.apart, h.apart, fun c hm d hd b e e' => ?_⟩⟩
  · rcases List.mem_append.1 hm with hm | hm
    · exact (hc.ok c hm).base fun b e hB => ((hc.ok c hm).lt e).1 (h.base b hB)
    · exact hb.ok c hm
  · exact ((hc.ok c hm).lt e).1 ((h.ok d hd).lt e').2
/-- All that is there, but for the pieces, is held fast. -/
def Rest (w : World) (H : List Ck) (k : Nat) : Prop := k < w.heap.size ∧ ∀ c ∈ H, c.at ≠ some k
theorem SH.rest {B : Nat → Prop} {w0 w : World} {H : List Ck} (h : SH B w0 H w) : SH (Rest w H) w H w :=
  ⟨KO.refl _ _, fun _ hk => hk.1, fun c hc => (h.ok c hc).base fun b e hr => hr.2 c hc e, h.apart⟩
/-- Back again. -/
theorem SH.back {B : Nat → Prop} {w0 w w' : World} {H H' : List Ck} (h : SH B w0 H w) (h' : SH (Rest w H) w H' w') : SH B w0 H' w' := by
  have hr : ∀ k, B k → Rest w H k := fun k hk => ⟨h.base k hk, fun c hc e => ((h.ok c hc).lt e).1 hk⟩
  exact ⟨h.below.trans ⟨h'.below.os, h'.below.tape, h'.below.output, h'.below.size, fun k hk => h'.below.block k (hr k hk)⟩, fun k hk => h'.base k (hr k hk),
    fun c hc => (h'.ok c hc).base fun b e hB => ((h'.ok c hc).lt e).1 (hr b hB), h'.apart⟩

/-- A piece in its place in the list. -/
def Foc (H : List Ck) (c : Ck) (K : Ck → List Ck) : Prop := ∃ X Y, H = X ++ c :: Y ∧ K = fun c' => X ++ c' :: Y
theorem foc0 {c : Ck} {H : List Ck} : Foc (c :: H) c (fun c' => c' :: H) := ⟨[], H, rfl, rfl⟩
theorem foc1 {c d0 : Ck} {H : List Ck} : Foc (d0 :: c :: H) c (fun c' => d0 :: c' :: H) := ⟨[d0], H, rfl, rfl⟩
theorem foc2 {c d0 d1 : Ck} {H : List Ck} : Foc (d0 :: d1 :: c :: H) c (fun c' => d0 :: d1 :: c' :: H) := ⟨[d0, d1], H, rfl, rfl⟩
theorem foc3 {c d0 d1 d2 : Ck} {H : List Ck} : Foc (d0 :: d1 :: d2 :: c :: H) c (fun c' => d0 :: d1 :: d2 :: c' :: H) := ⟨[d0, d1, d2], H, rfl, rfl⟩
theorem foc4 {c d0 d1 d2 d3 : Ck} {H : List Ck} : Foc (d0 :: d1 :: d2 :: d3 :: c :: H) c (fun c' => d0 :: d1 :: d2 :: d3 :: c' :: H) := ⟨[d0, d1, d2, d3], H, rfl, rfl⟩
theorem foc5 {c d0 d1 d2 d3 d4 : Ck} {H : List Ck} : Foc (d0 :: d1 :: d2 :: d3 :: d4 :: c :: H) c (fun c' => d0 :: d1 :: d2 :: d3 :: d4 :: c' :: H) := ⟨[d0, d1, d2, d3, d4], H, rfl, rfl⟩
theorem foc6 {c d0 d1 d2 d3 d4 d5 : Ck} {H : List Ck} : Foc (d0 :: d1 :: d2 :: d3 :: d4 :: d5 :: c :: H) c (fun c' => d0 :: d1 :: d2 :: d3 :: d4 :: d5 :: c' :: H) := ⟨[d0, d1, d2, d3, d4, d5], H, rfl, rfl⟩
theorem foc7 {c d0 d1 d2 d3 d4 d5 d6 : Ck} {H : List Ck} : Foc (d0 :: d1 :: d2 :: d3 :: d4 :: d5 :: d6 :: c :: H) c (fun c' => d0 :: d1 :: d2 :: d3 :: d4 :: d5 :: d6 :: c' :: H) := ⟨[d0, d1, d2, d3, d4, d5, d6], H, rfl, rfl⟩
section
variable {B : Nat → Prop} {w0 w w' : World} {H : List Ck} {c : Ck} {K : Ck → List Ck}
theorem Foc.mem (h : Foc H c K) : c ∈ H := by obtain ⟨X, Y, rfl, _⟩ := h; simp
/-- One piece turns; the others stay. -/
theorem SH.turn (h : SH B w0 H w) (hf : Foc H c K) {c' : Ck} (hb : KO B w w') (hc : c'.ok B w')
    (hat : ∀ b, c'.at = some b → c.at = some b ∨ w.heap.size ≤ b) (hk : ∀ b, b < w.heap.size → c.at ≠ some b → w'.heap[b]? = w.heap[b]?) : SH B w0 (K c') w' := by
  obtain ⟨X, Y, rfl, rfl⟩ := hf
  have hp := h.apart
  have keep : ∀ d ∈ X ++ c :: Y, Ck.off c d → d.ok B w' := fun d hd ho => (h.ok d hd).keep fun b e => hk b ((h.ok d hd).lt e).2 (fun e' => ho b e' e)
  rw [List.pairwise_append, List.pairwise_cons] at hp
  obtain ⟨hX, ⟨hcY, hY⟩, hXc⟩ := hp
  refine ⟨h.below.trans hb, fun k hk => Nat.lt_of_lt_of_le (h.base k hk) hb.size, fun d hd => ?_, ?_⟩
  · rcases List.mem_append.1 hd with hd | hd
    · exact keep d (by simp [hd]) (fun b e e' => hXc d hd c (by simp) b e' e)
    · rcases List.mem_cons.1 hd with rfl | hd
      · exact hc
      · exact keep d (by simp [hd]) (hcY d hd)
  · rw [List.pairwise_append, List.pairwise_cons]
    refine ⟨hX, ⟨fun d hd b e e' => ?_, hY⟩, fun d hd x hx b e e' => ?_⟩
    · rcases hat b e with e2 | e2
      · exact hcY d hd b e2 e'
      · have := ((h.ok d (by simp [hd])).lt e').2; omega
    · rcases List.mem_cons.1 hx with rfl | hx
      · rcases hat b e' with e2 | e2
        · exact hXc d hd c (by simp) b e e2
        · have := ((h.ok d (by simp [hd])).lt e).2; omega
      · exact hXc d hd x (by simp [hx]) b e e'
end
end Go.Proofs.Ytjemilhbipaepaa
