/- Part 1 of 6 of the proof. -/
import Derived.WalkKit
import Derived.OwnWalkIn
import Derived.TacticsInMore
import Derived.OrdersIn
import Derived.RangeFuncCalls
import Derived.Below
import Derived.Laws.AppendOwn
import Derived.Laws.OwnMore
import Derived.Laws.CopyRow
import Derived.Laws.BitsAllLaws
import Derived.OrdersHeld
import Derived.MapKept
import Derived.Laws.StructEq
import Derived.Laws.IdiomCopy
import Derived.Laws.MakeOwn
import Derived.RangeFuncNested
import Derived.RangeFuncLeaves
import Derived.RangeFuncBound
import Derived.Laws.IdiomStrings
import Derived.ProofKit
import Derived.Deep.Slices
import Derived.Test.YtcjpcmofajcadaaDoorProg
import Derived.KernelRfl
set_option linter.unusedSimpArgs false
set_option linter.unusedVariables false
/- Rules for walking through operations with a short list of known slots and a short list of known blocks. -/
namespace Go.Proofs.YtcjpcmofajcadaaDoor
open Go.RowKit

/-- The wide fence, in a round of a range over a function or in none. -/
def WF (r : Option Nat) : Fence := { Fence.wide with round := r }
theorem WF_none : WF none = Fence.wide := rfl
theorem WF_some (l : Nat) : WF (some l) = Fence.wide.inRound l := rfl

/-- What is known of the slots. -/
structure St (n : Nat) (D : List Deferred) (L : List (Nat × Value)) (a : Act) : Prop where
  size : a.tmps.size = n
  defs : a.defers = D
  has : ∀ s v, L.lookup s = some v → a.tmps[s]? = some v

def ev (L : List (Nat × Value)) : Operand → Option Value
  | .tmp s => L.lookup s
  | .const v => some v
  | .global g => some (.pointer (some ⟨g, 0, none⟩))
  | .func f => some (.func (.func f) #[] #[])

/-- The values of operands, and of parts. -/
def evs (L : List (Nat × Value)) : List Operand → Option (List Value)
  | [] => some []
  | x :: xs => match ev L x, evs L xs with
    | some v, some l => some (v :: l)
    | _, _ => none
def evp (L : List (Nat × Value)) : List (Nat × Operand) → Option (List (Nat × Value))
  | [] => some []
  | p :: ps => match ev L p.2, evp L ps with
    | some v, some l => some ((p.1, v) :: l)
    | _, _ => none
section
variable {n : Nat} {D : List Deferred} {L : List (Nat × Value)} {a : Act}
theorem St.ev (h : St n D L a) {x : Operand} {v : Value} (hx : ev L x = some v) : a.eval x = v := by
  cases x with
  | tmp s =>
    have h1 := h.has s v hx
    show a.tmps.getD s undef = v
    rw [Array.getD_eq_getD_getElem?, h1]; rfl
  | const u => exact Option.some.inj hx
  | global g => exact Option.some.inj hx
  | func f => exact Option.some.inj hx
theorem St.evs (h : St n D L a) : ∀ {xs : List Operand} {vs : List Value}, evs L xs = some vs → xs.map a.eval = vs
  | [], vs, hx => by cases hx; rfl
  | x :: xs, vs, hx => by
    unfold YtcjpcmofajcadaaDoor.evs at hx
    cases h1 : YtcjpcmofajcadaaDoor.ev L x with
    | none => rw [h1] at hx; cases hx
    | some v =>
      cases h2 : YtcjpcmofajcadaaDoor.evs L xs with
      | none => rw [h1, h2] at hx; cases hx
      | some l =>
        rw [h1, h2] at hx
        cases hx
        rw [List.map_cons, h.ev h1, h.evs h2]
theorem St.evp (h : St n D L a) : ∀ {xs : List (Nat × Operand)} {vs : List (Nat × Value)}, evp L xs = some vs → xs.map (fun p => (p.1, a.eval p.2)) = vs
  | [], vs, hx => by cases hx; rfl
  | x :: xs, vs, hx => by
    unfold YtcjpcmofajcadaaDoor.evp at hx
    cases h1 : YtcjpcmofajcadaaDoor.ev L x.2 with
    | none => rw [h1] at hx; cases hx
    | some v =>
      cases h2 : YtcjpcmofajcadaaDoor.evp L xs with
      | none => rw [h1, h2] at hx; cases hx
      | some l =>
        rw [h1, h2] at hx
        cases hx
        rw [List.map_cons, h.ev h1, h.evp h2]
theorem St.put (h : St n D L a) (d : Nat) (v : Value) (hd : d < n) : St n D ((d, v) :: L) (a.put (some d) v) := by
  refine ⟨?_, h.defs, fun s u hs => ?_⟩
  · simpa [Act.put] using h.size
  · by_cases e : s = d
    · subst e
      simp at hs
      subst hs
      simp [Act.put, h.size, hd]
    · have : (s == d) = false := by simpa using e
      rw [List.lookup_cons, this] at hs
      simp only [Act.put]
      rw [Array.getElem?_setIfInBounds_ne (fun e' => e e'.symm)]
      exact h.has s u hs
theorem St.none (h : St n D L a) (v : Value) : St n D L (a.put none v) := h
/-- Slots may be forgotten. -/
theorem St.weak (h : St n D L a) {L' : List (Nat × Value)} (hl : ∀ p ∈ L', L.lookup p.1 = some p.2) : St n D L' a :=
  ⟨h.size, h.defs, fun s v hs => by
    have : ∀ L' : List (Nat × Value), (∀ p ∈ L', L.lookup p.1 = some p.2) → L'.lookup s = some v → a.tmps[s]? = some v := by
      intro L'
      induction L' with
      | nil => intro _ h2; cases h2
      | cons p l ih =>
        intro h1 h2
        rw [List.lookup_cons] at h2
        by_cases e : (s == p.1) = true
        · rw [e] at h2
          have e' : s = p.1 := by simpa using e
          have e2 : p.2 = v := Option.some.inj h2
          have := h1 p (by simp)
          rw [e2, ← e'] at this
          exact h.has s v this
        · have e' : (s == p.1) = false := by simpa using e
          rw [e'] at h2
          exact ih (fun q hq => h1 q (List.mem_cons_of_mem _ hq)) h2
    exact this L' hl hs⟩
end

/-! ### One operation -/

section
variable {r : Option Nat} {P : Program} {ops : Array Oper} {Q : Exit → Act → World → Prop} {o : Oper} {KK : Act → World → Prop}
variable {n : Nat} {D : List Deferred} {L : List (Nat × Value)} {a : Act} {w : World}

/-- A region that does not draw, a list of operations. -/
abbrev XL (r : Option Nat) (P : Program) (ops : Array Oper) (Q : Exit → Act → World → Prop) (l : List Oper) (a : Act) (w : World) : Prop := wpListIn (WF r) 0 P ops Q l a w
/-- It gives a value, or nothing, or a call returns. -/
def OpOk (P : Program) (o : Oper) (a : Act) (w : World) (Kv : Value → World → Prop) : Prop :=
  (∃ v w', (execOp a.eval o).run P w = .ok (.value v) w' ∧ Kv v w') ∨ (∃ w', (execOp a.eval o).run P w = .ok .skip w' ∧ Kv undef w') ∨
  (∃ f args w1, (execOp a.eval o).run P w = .ok (.enter f args) w1 ∧ Calls P f args w1 fun e w' => ∃ v, e = .returned v ∧ Kv v w')
/-- One operation, with its guard. -/
def XO (P : Program) (ops : Array Oper) (o : Oper) (KK : Act → World → Prop) (a : Act) (w : World) : Prop :=
  (Region.wanted o (yielded ops a.tmps) = true ∧ OpOk P o a w fun v w' => KK (a.put o.dst v) w') ∨ (Region.wanted o (yielded ops a.tmps) = false ∧ KK (a.put o.dst undef) w)

theorem nodefer_of {x : Next} {w' : World} (h : (execOp a.eval o).run P w = .ok x w') (hx : ∀ d, x ≠ .defer d) (c : Call) : o.op ≠ .defer c := by
  intro hop
  simp only [execOp, hop, Sem.run_bind] at h
  cases hr : (resolve a.eval c o.type).run P w with
  | ok d w1 =>
    rw [hr] at h
    simp at h
    exact hx d h.1.symm
  | halt y w1 => rw [hr] at h; simp [Result.andThen] at h
theorem semAt_of (h : ∀ c, o.op ≠ .defer c) : o.semAt r a.eval = execOp a.eval o := by
  cases r with
  | none => rfl
  | some l => exact Oper.semAt_some l _ _ h
theorem XO.fenced (h : XO P ops o KK a w) :
    if Region.wanted o (yielded ops a.tmps) = true then Oper.wpIn (WF r) 0 P o a w KK Q else (∀ f, o.about P w a.eval = some f → (WF r).fn f) ∧ KK (a.put o.dst undef) w := by
  rcases h with ⟨hw, h⟩ | ⟨hw, h⟩
  · rw [if_pos hw]
    refine ⟨fun _ _ => trivial, ?_⟩
    show Oper.uponIn _ _ _ _ _ _ _ ((o.semAt r a.eval).run P w)
    rcases h with ⟨v, w', hr, hk⟩ | ⟨w', hr, hk⟩ | ⟨f, args, w1, hr, hc⟩
    · rw [semAt_of (nodefer_of hr (fun _ h => by cases h)), hr]; exact hk
    · rw [semAt_of (nodefer_of hr (fun _ h => by cases h)), hr]; exact hk
    · rw [semAt_of (nodefer_of hr (fun _ h => by cases h)), hr]
      refine ⟨(fun h => by cases h), ?_⟩
      have hC' := (callsIn_wide (n := 0)).2 hc
      refine CallsIn.mono (F := WF r) hC' ?_
      rintro e w' ⟨v, rfl, hv⟩
      exact hv
  · rw [if_neg (by rw [hw]; simp)]
    exact ⟨fun _ _ => trivial, h⟩
theorem xl_cons {rest : List Oper} (h : XO P ops o (XL r P ops Q rest) a w) : XL r P ops Q (o :: rest) a w := XO.fenced h
theorem XO.plain {i : Nat} (hi : ops[i]? = some o) (h : XO P ops o KK a w) : wpOp P ops Q i KK a w := by
  unfold wpOp
  simp only [hi]
  rcases h with ⟨hw, h⟩ | ⟨hw, h⟩
  · rw [if_pos hw]
    refine .inl ?_
    unfold Oper.wp
    rcases h with ⟨v, w', hr, hk⟩ | ⟨w', hr, hk⟩ | ⟨f, args, w1, hr, hc⟩
    · rw [hr]; exact hk
    · rw [hr]; exact hk
    · rw [hr]
      refine Calls.mono hc ?_
      rintro e w' ⟨v, rfl, hv⟩
      exact hv
  · rw [if_neg (by rw [hw]; simp)]
    exact h

/-- An operation that gives a value. -/
theorem x_value {v : Value} {w' : World} {d : Nat} (hS : St n D L a) (hgd : o.guard = none) (hdst : o.dst = some d) (hd : d < n)
    (hrun : (execOp a.eval o).run P w = .ok (.value v) w') (h : ∀ a', St n D ((d, v) :: L) a' → KK a' w') : XO P ops o KK a w :=
  .inl ⟨by simp [Region.wanted, hgd], .inl ⟨v, w', hrun, h _ (by rw [hdst]; exact hS.put d v hd)⟩⟩
/-- An operation without a result. -/
theorem x_skip {w' : World} (hS : St n D L a) (hgd : o.guard = none) (hdst : o.dst = none)
    (hrun : (execOp a.eval o).run P w = .ok .skip w') (h : ∀ a', St n D L a' → KK a' w') : XO P ops o KK a w :=
  .inl ⟨by simp [Region.wanted, hgd], .inr (.inl ⟨w', hrun, h _ (by rw [hdst]; exact hS)⟩)⟩
theorem x_end (h : Q .normal a w) : XL r P ops Q [] a w := h
end
end Go.Proofs.YtcjpcmofajcadaaDoor

/- Known blocks: a short list of pieces of memory of the call's own, over a world that is as it was below a number. -/
namespace Go.Proofs.YtcjpcmofajcadaaDoor
open Go.RowKit

/-- What the table says of a type. -/
structure TI where
  desc : TypeDesc
  size : Nat
  bytes : Nat
  zero : Value
def TI.ok (P : Program) (t : TypeId) (i : TI) : Prop :=
  P.underlying t = some i.desc ∧ (P.info? t).map (fun x => (x.size, x.bytes, x.zero)) = some (i.size, i.bytes, some i.zero)
def TabOk (P : Program) (T : List (TypeId × TI)) : Prop := ∀ t i, T.lookup t = some i → TI.ok P t i
theorem TabOk.nil (P : Program) : TabOk P [] := fun _ _ h => by cases h
theorem TabOk.cons {P : Program} {T : List (TypeId × TI)} {t : TypeId} {i : TI} (h : TI.ok P t i) (hT : TabOk P T) : TabOk P ((t, i) :: T) := fun s j hs => by
  rw [List.lookup_cons] at hs
  by_cases e : (s == t) = true
  · rw [e] at hs
    have e1 : s = t := by simpa using e
    have e2 : i = j := Option.some.inj hs
    subst e1; subst e2; exact h
  · have e' : (s == t) = false := by simpa using e
    rw [e'] at hs
    exact hT s j hs
theorem TI.info {P : Program} {t : TypeId} {i : TI} (h : TI.ok P t i) : ∃ x, P.info? t = some x ∧ x.size = i.size ∧ x.bytes = i.bytes ∧ x.zero = some i.zero := by
  have h2 := h.2
  cases hx : P.info? t with
  | none => rw [hx] at h2; cases h2
  | some x =>
    rw [hx] at h2
    simp only [Option.map_some, Option.some.injEq, Prod.mk.injEq] at h2
    exact ⟨x, rfl, h2.1, h2.2.1, h2.2.2⟩
def isAggD : TypeDesc → Bool
  | .struct _ | .array _ _ => true
  | _ => false
section
variable {P : Program} {t : TypeId} {i : TI} (h : TI.ok P t i) (w : World)
include h
theorem TI.run_isAgg : (isAgg t).run P w = .ok (isAggD i.desc) w := by
  have hd := h.1
  unfold isAgg
  simp only [Sem.run_bind, run_underlying hd, Result.andThen_ok]
  cases i.desc <;> simp [isAggD]
theorem TI.run_sizeOf : (sizeOf t).run P w = .ok i.size w := by
  obtain ⟨x, hx, h1, _⟩ := TI.info h
  simp [sizeOf, typeInfo, hx, h1]
theorem TI.run_zero : (zeroValue t).run P w = .ok i.zero w := by
  obtain ⟨x, hx, _, _, h3⟩ := TI.info h
  simp [zeroValue, typeInfo, hx, h3]
end

/-- The blocks of which B speaks are as they were. -/
structure KO (B : Nat → Prop) (w w' : World) : Prop where
  os : w'.os = w.os
  tape : w'.tape = w.tape
  output : w'.output = w.output
  size : w.heap.size ≤ w'.heap.size
  block : ∀ k, B k → w'.heap[k]? = w.heap[k]?
theorem KO.refl (B : Nat → Prop) (w : World) : KO B w w := ⟨rfl, rfl, rfl, Nat.le_refl _, fun _ _ => rfl⟩
theorem KO.trans {B : Nat → Prop} {a b c : World} (h : KO B a b) (k : KO B b c) : KO B a c :=
  ⟨k.os.trans h.os, k.tape.trans h.tape, k.output.trans h.output, Nat.le_trans h.size k.size, fun i hi => (k.block i hi).trans (h.block i hi)⟩
theorem KO.cell {B : Nat → Prop} {w w' : World} (h : KO B w w') {p : Addr} (hp : B p.block) : w'.cell? p = w.cell? p := World.cell?_of_block (w := w) (h.block p.block hp)
theorem KO.of_below {w w' : World} {B : Nat → Prop} (h : Below w.heap.size w w') (hB : ∀ k, B k → k < w.heap.size) : KO B w w' := ⟨h.os, h.tape, h.output, h.size, fun k hk => h.block k (hB k hk)⟩
theorem KO.to_below {w w' : World} (h : KO (fun k => k < w.heap.size) w w') : Below w.heap.size w w' := ⟨h.os, h.tape, h.output, h.size, h.block⟩
/-- A slice that begins at the head of a row of the call's own, or nil: what its elements' cells are. -/
def Owns (w : World) (B : Nat → Prop) (e : TypeId) (size : Nat) (A : Option Addr) (c n : Nat) (xs : List Value) : Prop :=
  xs.length = n * size ∧ ((A = none ∧ n = 0 ∧ c = 0) ∨ ∃ g cur fr, A = some ⟨g, 0, none⟩ ∧ ¬ B g ∧ w.heap[g]? = some (.cells cur e fr) ∧ (fr.1 = fr.2 ∨ cur.size ≤ fr.1) ∧ n ≤ c ∧ c ≤ maxLen ∧ cur.size = c * size ∧ cur.toList.take (n * size) = xs)
/-- A piece of memory of the call's own: a block that is known whole, or a row to which can be appended. -/
inductive Ck where
  | obj (b : Nat) (o : Obj)
  | cel (b : Nat) (cs : List Value) (e : TypeId)
  | row (A : Option Addr) (c : Nat) (e : TypeId) (size n : Nat) (xs : List Value)
def Ck.at : Ck → Option Nat
  | .obj b _ => some b
  | .cel b _ _ => some b
  | .row A _ _ _ _ _ => A.map (·.block)
def Ck.ok (B : Nat → Prop) (w : World) : Ck → Prop
  | .obj b o => ¬ B b ∧ w.heap[b]? = some o
  | .cel b cs e => ¬ B b ∧ w.heap[b]? = some (.cells cs.toArray e)
  | .row A c e size n xs => Owns w B e size A c n xs
def Ck.off (c d : Ck) : Prop := ∀ b, c.at = some b → d.at ≠ some b

/-- What is known of memory: the blocks of which B speaks are as in w0; the pieces H hold, and are apart. -/
structure SH (B : Nat → Prop) (w0 : World) (H : List Ck) (w : World) : Prop where
  below : KO B w0 w
  base : ∀ k, B k → k < w.heap.size
  ok : ∀ c ∈ H, c.ok B w
  apart : H.Pairwise Ck.off
/-- The same from the beginning of a call on. -/
abbrev SF (W : World) (H : List Ck) (w : World) : Prop := SH (fun k => k < W.heap.size) W H w

theorem Ck.ok.lt {B : Nat → Prop} {w : World} {c : Ck} (h : c.ok B w) {b : Nat} (hb : c.at = some b) : ¬ B b ∧ b < w.heap.size := by
  cases c with
  | obj b' o =>
    have : b' = b := Option.some.inj hb
    subst this
    exact ⟨h.1, (Array.getElem?_eq_some_iff.1 h.2).1⟩
  | cel b' cs e =>
    have : b' = b := Option.some.inj hb
    subst this
    exact ⟨h.1, (Array.getElem?_eq_some_iff.1 h.2).1⟩
  | row A c e size n xs =>
    rcases h.2 with ⟨rfl, _⟩ | ⟨g, cur, fr, rfl, hg, hh, _⟩
    · cases hb
    · have : g = b := Option.some.inj hb
      subst this
      exact ⟨hg, (Array.getElem?_eq_some_iff.1 hh).1⟩
/-- A piece stays if its block does. -/
theorem Ck.ok.keep {B : Nat → Prop} {w w' : World} {c : Ck} (h : c.ok B w) (hk : ∀ b, c.at = some b → w'.heap[b]? = w.heap[b]?) : c.ok B w' := by
  cases c with
  | obj b o => exact ⟨h.1, (hk b rfl).trans h.2⟩
  | cel b cs e => exact ⟨h.1, (hk b rfl).trans h.2⟩
  | row A c e size n xs =>
    refine ⟨h.1, ?_⟩
    rcases h.2 with hn | ⟨g, cur, fr, rfl, hb, hgg, rest⟩
    · exact .inl hn
    · exact .inr ⟨g, cur, fr, rfl, hb, (hk g rfl).trans hgg, rest⟩
/-- A piece is one of the call's own under another condition. -/
theorem Ck.ok.base {B B' : Nat → Prop} {w : World} {c : Ck} (h : c.ok B w) (hB : ∀ b, c.at = some b → ¬ B' b) : c.ok B' w := by
  cases c with
  | obj b o => exact ⟨hB b rfl, h.2⟩
  | cel b cs e => exact ⟨hB b rfl, h.2⟩
  | row A c e size n xs =>
    refine ⟨h.1, ?_⟩
    rcases h.2 with hn | ⟨g, cur, fr, rfl, hb, rest⟩
    · exact .inl hn
    · exact .inr ⟨g, cur, fr, rfl, hB g rfl, rest⟩

section
variable {B : Nat → Prop} {w0 w w' : World} {H : List Ck}
theorem SH.start (w : World) : SF w [] w := ⟨KO.refl _ _, fun _ h => h, (fun _ h => by cases h), List.Pairwise.nil⟩
theorem SH.below' (h : SH B w0 H w) (hb : Below w.heap.size w w') : SH B w0 H w' :=
  ⟨h.below.trans (KO.of_below hb h.base), fun k hk => Nat.lt_of_lt_of_le (h.base k hk) hb.size, fun c hc => (h.ok c hc).keep fun b e => hb.block b ((h.ok c hc).lt e).2, h.apart⟩
theorem SH.drew (h : SH B w0 H w) : SH B w0 H w.drew := ⟨⟨h.below.os, h.below.tape, h.below.output, h.below.size, h.below.block⟩, h.base, fun c hc => (h.ok c hc).keep fun _ _ => rfl, h.apart⟩
theorem SH.fresh (h : SH B w0 H w) : ¬ B w.heap.size := fun hb => Nat.lt_irrefl _ (h.base _ hb)
theorem SH.alloc (h : SH B w0 H w) (o : Obj) : SH B w0 (.obj w.heap.size o :: H) (w.alloc o) := by
  have hb := h.below' ((Below.refl w.heap.size w).alloc (Nat.le_refl _) o)
  exact ⟨hb.below, hb.base, fun c hc => by
    rcases List.mem_cons.1 hc with rfl | hc
    · exact ⟨h.fresh, heap_alloc_new w o⟩
    · exact hb.ok c hc,
   List.Pairwise.cons (fun c hc b e e' => by have := ((h.ok c hc).lt e').2; simp [Ck.at] at e; omega) h.apart⟩
theorem SH.allocC (h : SH B w0 H w) (cs : List Value) (e : TypeId) : SH B w0 (.cel w.heap.size cs e :: H) (w.alloc (.cells cs.toArray e)) := by
  have h1 := h.alloc (.cells cs.toArray e)
  exact ⟨h1.below, h1.base, fun c hc => by
    rcases List.mem_cons.1 hc with rfl | hc
    · exact h1.ok (.obj w.heap.size (.cells cs.toArray e)) (by simp)
    · exact h1.ok c (List.mem_cons_of_mem _ hc), by
    obtain ⟨h2, h3⟩ := List.pairwise_cons.1 h1.apart
    exact List.Pairwise.cons (fun c hc b e => h2 c hc b e) h3⟩
theorem SH.weak (h : SH B w0 H w) {H' : List Ck} (hs : H'.Sublist H) : SH B w0 H' w :=
  ⟨h.below, h.base, fun c hc => h.ok c (hs.subset hc), h.apart.sublist hs⟩
theorem SH.perm (h : SH B w0 H w) {H' : List Ck} (hp : H.Perm H') : SH B w0 H' w :=
  ⟨h.below, h.base, fun c hc => h.ok c (hp.mem_iff.2 hc), (List.Perm.pairwise_iff (fun {c d} hcd b e e' => hcd b e' e) hp).1 h.apart⟩
end

/-- Behind a call: what it hands back, and what there was. -/
theorem SH.join {B : Nat → Prop} {w0 w w' : World} {H C : List Ck} (h : SH B w0 H w) (hc : SF w C w') : SH B w0 (C ++ H) w' := by
  have hb := h.below' hc.below.to_below
  refine ⟨hb.below, hb.base, fun c hm => ?_, List.pairwise_append.2 ⟨hc.apart, h.apart, fun c hm d hd b e e' => ?_⟩⟩
  · rcases List.mem_append.1 hm with hm | hm
    · exact (hc.ok c hm).base fun b e hB => ((hc.ok c hm).lt e).1 (h.base b hB)
    · exact hb.ok c hm
  · exact ((hc.ok c hm).lt e).1 ((h.ok d hd).lt e').2
/-- All that is there, but for the pieces, is held fast. -/
def Rest (w : World) (H : List Ck) (k : Nat) : Prop := k < w.heap.size ∧ ∀ c ∈ H, c.at ≠ some k
theorem SH.rest {B : Nat → Prop} {w0 w : World} {H : List Ck} (h : SH B w0 H w) : SH (Rest w H) w H w :=
  ⟨KO.refl _ _, fun _ hk => hk.1, fun c hc => (h.ok c hc).base fun b e hr => hr.2 c hc e, h.apart⟩
/-- Back again. -/
theorem SH.back {B : Nat → Prop} {w0 w w' : World} {H H' : List Ck} (h : SH B w0 H w) (h' : SH (Rest w H) w H' w') : SH B w0 H' w' := by
  have hr : ∀ k, B k → Rest w H k := fun k hk => ⟨h.base k hk, fun c hc e => ((h.ok c hc).lt e).1 hk⟩
  exact ⟨h.below.trans ⟨h'.below.os, h'.below.tape, h'.below.output, h'.below.size, fun k hk => h'.below.block k (hr k hk)⟩, fun k hk => h'.base k (hr k hk),
    fun c hc => (h'.ok c hc).base fun b e hB => ((h'.ok c hc).lt e).1 (hr b hB), h'.apart⟩

/-- A piece in its place in the list. -/
def Foc (H : List Ck) (c : Ck) (K : Ck → List Ck) : Prop := ∃ X Y, H = X ++ c :: Y ∧ K = fun c' => X ++ c' :: Y
theorem foc0 {c : Ck} {H : List Ck} : Foc (c :: H) c (fun c' => c' :: H) := ⟨[], H, rfl, rfl⟩
theorem foc1 {c d0 : Ck} {H : List Ck} : Foc (d0 :: c :: H) c (fun c' => d0 :: c' :: H) := ⟨[d0], H, rfl, rfl⟩
theorem foc2 {c d0 d1 : Ck} {H : List Ck} : Foc (d0 :: d1 :: c :: H) c (fun c' => d0 :: d1 :: c' :: H) := ⟨[d0, d1], H, rfl, rfl⟩
theorem foc3 {c d0 d1 d2 : Ck} {H : List Ck} : Foc (d0 :: d1 :: d2 :: c :: H) c (fun c' => d0 :: d1 :: d2 :: c' :: H) := ⟨[d0, d1, d2], H, rfl, rfl⟩
theorem foc4 {c d0 d1 d2 d3 : Ck} {H : List Ck} : Foc (d0 :: d1 :: d2 :: d3 :: c :: H) c (fun c' => d0 :: d1 :: d2 :: d3 :: c' :: H) := ⟨[d0, d1, d2, d3], H, rfl, rfl⟩
theorem foc5 {c d0 d1 d2 d3 d4 : Ck} {H : List Ck} : Foc (d0 :: d1 :: d2 :: d3 :: d4 :: c :: H) c (fun c' => d0 :: d1 :: d2 :: d3 :: d4 :: c' :: H) := ⟨[d0, d1, d2, d3, d4], H, rfl, rfl⟩
theorem foc6 {c d0 d1 d2 d3 d4 d5 : Ck} {H : List Ck} : Foc (d0 :: d1 :: d2 :: d3 :: d4 :: d5 :: c :: H) c (fun c' => d0 :: d1 :: d2 :: d3 :: d4 :: d5 :: c' :: H) := ⟨[d0, d1, d2, d3, d4, d5], H, rfl, rfl⟩
theorem foc7 {c d0 d1 d2 d3 d4 d5 d6 : Ck} {H : List Ck} : Foc (d0 :: d1 :: d2 :: d3 :: d4 :: d5 :: d6 :: c :: H) c (fun c' => d0 :: d1 :: d2 :: d3 :: d4 :: d5 :: d6 :: c' :: H) := ⟨[d0, d1, d2, d3, d4, d5, d6], H, rfl, rfl⟩
section
variable {B : Nat → Prop} {w0 w w' : World} {H : List Ck} {c : Ck} {K : Ck → List Ck}
theorem Foc.mem (h : Foc H c K) : c ∈ H := by obtain ⟨X, Y, rfl, _⟩ := h; simp
/-- One piece turns; the others stay. -/
theorem SH.turn (h : SH B w0 H w) (hf : Foc H c K) {c' : Ck} (hb : KO B w w') (hc : c'.ok B w')
    (hat : ∀ b, c'.at = some b → c.at = some b ∨ w.heap.size ≤ b) (hk : ∀ b, b < w.heap.size → c.at ≠ some b → w'.heap[b]? = w.heap[b]?) : SH B w0 (K c') w' := by
  obtain ⟨X, Y, rfl, rfl⟩ := hf
  have hp := h.apart
  have keep : ∀ d ∈ X ++ c :: Y, Ck.off c d → d.ok B w' := fun d hd ho => (h.ok d hd).keep fun b e => hk b ((h.ok d hd).lt e).2 (fun e' => ho b e' e)
  rw [List.pairwise_append, List.pairwise_cons] at hp
  obtain ⟨hX, ⟨hcY, hY⟩, hXc⟩ := hp
  refine ⟨h.below.trans hb, fun k hk => Nat.lt_of_lt_of_le (h.base k hk) hb.size, fun d hd => ?_, ?_⟩
  · rcases List.mem_append.1 hd with hd | hd
    · exact keep d (by simp [hd]) (fun b e e' => hXc d hd c (by simp) b e' e)
    · rcases List.mem_cons.1 hd with rfl | hd
      · exact hc
      · exact keep d (by simp [hd]) (hcY d hd)
  · rw [List.pairwise_append, List.pairwise_cons]
    refine ⟨hX, ⟨fun d hd b e e' => ?_, hY⟩, fun d hd x hx b e e' => ?_⟩
    · rcases hat b e with e2 | e2
      · exact hcY d hd b e2 e'
      · have := ((h.ok d (by simp [hd])).lt e').2; omega
    · rcases List.mem_cons.1 hx with rfl | hx
      · rcases hat b e' with e2 | e2
        · exact hXc d hd c (by simp) b e e2
        · have := ((h.ok d (by simp [hd])).lt e).2; omega
      · exact hXc d hd x (by simp [hx]) b e e'
end
end Go.Proofs.YtcjpcmofajcadaaDoor

/- The rules, operation by operation. -/
namespace Go.Proofs.YtcjpcmofajcadaaDoor
open Go.RowKit

structure Sym (n : Nat) (D : List Deferred) (L : List (Nat × Value)) (B : Nat → Prop) (w0 : World) (H : List Ck) (a : Act) (w : World) : Prop where
  st : St n D L a
  sh : SH B w0 H w

theorem lt_of_blt {a b : Nat} (h : Nat.blt a b = true) : a < b := Nat.le_of_ble_eq_true h

/-- A list with one place set anew. -/
inductive SetAt : List Value → Nat → Value → List Value → Prop where
  | zero {c v : Value} {r : List Value} : SetAt (c :: r) 0 v (v :: r)
  | succ {c v : Value} {r r' : List Value} {k : Nat} (h : SetAt r k v r') : SetAt (c :: r) (k + 1) v (c :: r')
theorem SetAt.eq {l l' : List Value} {k : Nat} {v : Value} (h : SetAt l k v l') : l' = l.set k v ∧ k < l.length := by
  induction h with
  | zero => exact ⟨rfl, by simp⟩
  | succ _ ih => exact ⟨by simp [ih.1], by simp; exact ih.2⟩

section
variable {r : Option Nat} {P : Program} {ops : Array Oper} {Q : Exit → Act → World → Prop} {o : Oper} {KK : Act → World → Prop}
variable {n : Nat} {D : List Deferred} {L : List (Nat × Value)} {B : Nat → Prop} {w0 : World} {H : List Ck} {a : Act} {w : World}
variable {T : List (TypeId × TI)} {d : Nat}

/-- It gives this value, whatever the world, and leaves it as it is. -/
def PV (P : Program) (o : Oper) (a : Act) (v : Value) : Prop := ∀ w, (execOp a.eval o).run P w = .ok (.value v) w

theorem Sym.ev (hX : Sym n D L B w0 H a w) {x : Operand} {v : Value} (hx : ev L x = some v) : a.eval x = v := hX.st.ev hx

theorem y_value {v : Value} {w' : World} {H' : List Ck} (hX : Sym n D L B w0 H a w) (ho : o.guard = none ∧ o.dst = some d) (hd : Nat.blt d n = true)
    (hrun : (execOp a.eval o).run P w = .ok (.value v) w') (hH : SH B w0 H' w') (h : ∀ a' w', Sym n D ((d, v) :: L) B w0 H' a' w' → KK a' w') : XO P ops o KK a w :=
  x_value hX.st ho.1 ho.2 (lt_of_blt hd) hrun fun a' hS => h a' w' ⟨hS, hH⟩
theorem y_skip {w' : World} {H' : List Ck} (hX : Sym n D L B w0 H a w) (ho : o.guard = none ∧ o.dst = none)
    (hrun : (execOp a.eval o).run P w = .ok .skip w') (hH : SH B w0 H' w') (h : ∀ a' w', Sym n D L B w0 H' a' w' → KK a' w') : XO P ops o KK a w :=
  x_skip hX.st ho.1 ho.2 hrun fun a' hS => h a' w' ⟨hS, hH⟩

theorem p_move {x : Operand} {v : Value} (hS : St n D L a) (hop : o.op = .move x)
    (hx : ev L x = some v) : PV P o a (v) := fun w => by simp only [execOp, hop, Sem.run_pure, hS.ev hx]
theorem p_assign {x : Operand} {v : Value} (hS : St n D L a) (hop : o.op = .assign x)
    (hx : ev L x = some v) : PV P o a (v) := fun w => by simp only [execOp, hop, Sem.run_pure, hS.ev hx]
theorem p_pick1 {c x y : Operand} {g : Bool} {v : Value} (hS : St n D L a) (hop : o.op = .pick c x y)
    (hc : ev L c = some (.bool g)) (hg : g = true) (hx : ev L x = some v) : PV P o a (v) := fun w => by subst hg; simp [execOp, hop, hS.ev hc, hS.ev hx, asBool]
theorem p_pick0 {c x y : Operand} {g : Bool} {v : Value} (hS : St n D L a) (hop : o.op = .pick c x y)
    (hc : ev L c = some (.bool g)) (hg : g = false) (hx : ev L y = some v) : PV P o a (v) := fun w => by subst hg; simp [execOp, hop, hS.ev hc, hS.ev hx, asBool]
theorem p_not {x : Operand} {t : TypeId} {g : Bool} (hS : St n D L a) (hop : o.op = .unOp .not t x)
    (hx : ev L x = some (.bool g)) : PV P o a (.bool (!g)) := fun w => by simp [execOp, hop, hS.ev hx, Op.unary]
theorem p_extract {x : Operand} {k : Nat} {vs : List Value} {v : Value} (hS : St n D L a) (hop : o.op = .extract x k)
    (hx : ev L x = some (.tuple vs.toArray)) (hv : vs[k]? = some v) : PV P o a (v) := fun w => by simp [execOp, hop, hS.ev hx, Instr.extract, hv]
theorem p_makeFunc {fn : Fn} {xs : List Operand} {vs : List Value} (hS : St n D L a) (hop : o.op = .makeFunc fn #[] xs.toArray) (hv : evs L xs = some vs) : PV P o a (.func fn #[] vs.toArray) := fun w => by
  simp [execOp, hop, Instr.makeFunc, hS.evs hv]
theorem p_add {k : IntKind} {u v : Operand} {t t' : TypeId} {x y z : Int} (hS : St n D L a) (hop : o.op = .binOp .add t u v t')
    (hu : ev L u = some (.int k x)) (hv : ev L v = some (.int k y)) (hz : k.wrap (x + y) = z) : PV P o a (.int k z) := fun w => by simp [execOp, hop, hS.ev hu, hS.ev hv, eqGuard, binOp, Op.intArith, hz]
theorem p_sub {k : IntKind} {u v : Operand} {t t' : TypeId} {x y z : Int} (hS : St n D L a) (hop : o.op = .binOp .sub t u v t')
    (hu : ev L u = some (.int k x)) (hv : ev L v = some (.int k y)) (hz : k.wrap (x - y) = z) : PV P o a (.int k z) := fun w => by simp [execOp, hop, hS.ev hu, hS.ev hv, eqGuard, binOp, Op.intArith, hz]
theorem p_mul {k : IntKind} {u v : Operand} {t t' : TypeId} {x y z : Int} (hS : St n D L a) (hop : o.op = .binOp .mul t u v t')
    (hu : ev L u = some (.int k x)) (hv : ev L v = some (.int k y)) (hz : k.wrap (x * y) = z) : PV P o a (.int k z) := fun w => by simp [execOp, hop, hS.ev hu, hS.ev hv, eqGuard, binOp, Op.intArith, hz]
theorem p_quo {k : IntKind} {u v : Operand} {t t' : TypeId} {x y z : Int} (hS : St n D L a) (hop : o.op = .binOp .quo t u v t')
    (hu : ev L u = some (.int k x)) (hv : ev L v = some (.int k y)) (h0 : y ≠ 0) (hz : k.wrap (x.tdiv y) = z) : PV P o a (.int k z) := fun w => by simp [execOp, hop, hS.ev hu, hS.ev hv, eqGuard, binOp, Op.intDiv, h0, hz]
theorem p_rem {k : IntKind} {u v : Operand} {t t' : TypeId} {x y z : Int} (hS : St n D L a) (hop : o.op = .binOp .rem t u v t')
    (hu : ev L u = some (.int k x)) (hv : ev L v = some (.int k y)) (h0 : y ≠ 0) (hz : x.tmod y = z) : PV P o a (.int k z) := fun w => by simp [execOp, hop, hS.ev hu, hS.ev hv, eqGuard, binOp, Op.intDiv, h0, hz]
theorem p_lss {k : IntKind} {u v : Operand} {t t' : TypeId} {x y : Int} (hS : St n D L a) (hop : o.op = .binOp .lss t u v t')
    (hu : ev L u = some (.int k x)) (hv : ev L v = some (.int k y)) : PV P o a (.bool (decide (x < y))) := fun w => by simp [execOp, hop, hS.ev hu, hS.ev hv, eqGuard, binOp, Op.intCmp]
theorem p_leq {k : IntKind} {u v : Operand} {t t' : TypeId} {x y : Int} (hS : St n D L a) (hop : o.op = .binOp .leq t u v t')
    (hu : ev L u = some (.int k x)) (hv : ev L v = some (.int k y)) : PV P o a (.bool (decide (x ≤ y))) := fun w => by simp [execOp, hop, hS.ev hu, hS.ev hv, eqGuard, binOp, Op.intCmp]
theorem p_gtr {k : IntKind} {u v : Operand} {t t' : TypeId} {x y : Int} (hS : St n D L a) (hop : o.op = .binOp .gtr t u v t')
    (hu : ev L u = some (.int k x)) (hv : ev L v = some (.int k y)) : PV P o a (.bool (decide (x > y))) := fun w => by simp [execOp, hop, hS.ev hu, hS.ev hv, eqGuard, binOp, Op.intCmp]
theorem p_geq {k : IntKind} {u v : Operand} {t t' : TypeId} {x y : Int} (hS : St n D L a) (hop : o.op = .binOp .geq t u v t')
    (hu : ev L u = some (.int k x)) (hv : ev L v = some (.int k y)) : PV P o a (.bool (decide (x ≥ y))) := fun w => by simp [execOp, hop, hS.ev hu, hS.ev hv, eqGuard, binOp, Op.intCmp]
theorem p_eql {k : IntKind} {u v : Operand} {t t' : TypeId} {x y : Int} (hS : St n D L a) (hop : o.op = .binOp .eql t u v t')
    (hu : ev L u = some (.int k x)) (hv : ev L v = some (.int k y)) : PV P o a (.bool (x == y)) := fun w => by simp [execOp, hop, hS.ev hu, hS.ev hv, eqGuard, binOp, Op.intCmp]
theorem p_neq {k : IntKind} {u v : Operand} {t t' : TypeId} {x y : Int} (hS : St n D L a) (hop : o.op = .binOp .neq t u v t')
    (hu : ev L u = some (.int k x)) (hv : ev L v = some (.int k y)) : PV P o a (.bool (x != y)) := fun w => by simp [execOp, hop, hS.ev hu, hS.ev hv, eqGuard, binOp, Op.intCmp]
theorem p_and {k : IntKind} {u v : Operand} {t t' : TypeId} {x y z : Int} (hS : St n D L a) (hop : o.op = .binOp .and t u v t')
    (hu : ev L u = some (.int k x)) (hv : ev L v = some (.int k y)) (hz : bits .and k x y = z) : PV P o a (.int k z) := fun w => by simp only [← hz]; simp [execOp, hop, hS.ev hu, hS.ev hv, eqGuard, binOp, Op.intBits, bits]
theorem p_or {k : IntKind} {u v : Operand} {t t' : TypeId} {x y z : Int} (hS : St n D L a) (hop : o.op = .binOp .or t u v t')
    (hu : ev L u = some (.int k x)) (hv : ev L v = some (.int k y)) (hz : bits .or k x y = z) : PV P o a (.int k z) := fun w => by simp only [← hz]; simp [execOp, hop, hS.ev hu, hS.ev hv, eqGuard, binOp, Op.intBits, bits]
theorem p_xor {k : IntKind} {u v : Operand} {t t' : TypeId} {x y z : Int} (hS : St n D L a) (hop : o.op = .binOp .xor t u v t')
    (hu : ev L u = some (.int k x)) (hv : ev L v = some (.int k y)) (hz : bits .xor k x y = z) : PV P o a (.int k z) := fun w => by simp only [← hz]; simp [execOp, hop, hS.ev hu, hS.ev hv, eqGuard, binOp, Op.intBits, bits]
theorem p_shl {k k' : IntKind} {u v : Operand} {t t' : TypeId} {x z : Int} {y : Nat} (hS : St n D L a) (hop : o.op = .binOp .shl t u v t')
    (hu : ev L u = some (.int k x)) (hv : ev L v = some (.int k' (y : Int))) (hz : k.wrap (x * 2 ^ (min y k.bits)) = z) : PV P o a (.int k z) := fun w => by simp only [← hz]; simp [execOp, hop, hS.ev hu, hS.ev hv, eqGuard, binOp, Op.shift]; omega
theorem p_shr {k k' : IntKind} {u v : Operand} {t t' : TypeId} {x z : Int} {y : Nat} (hS : St n D L a) (hop : o.op = .binOp .shr t u v t')
    (hu : ev L u = some (.int k x)) (hv : ev L v = some (.int k' (y : Int))) (hz : x.fdiv (2 ^ (min y k.bits)) = z) : PV P o a (.int k z) := fun w => by simp only [← hz]; simp [execOp, hop, hS.ev hu, hS.ev hv, eqGuard, binOp, Op.shift]; omega
theorem p_conv {k k' : IntKind} {u : Operand} {t t' : TypeId} {i i' : TI} {x z : Int} (hS : St n D L a) (hop : o.op = .convert t t' u)
    (hT : TabOk P T) (h1 : T.lookup t = some i) (h2 : T.lookup t' = some i') (h3 : i'.desc = .int k') (hu : ev L u = some (.int k x)) (hz : k'.wrap x = z) : PV P o a (.int k' z) := fun w => by have e1 := (hT _ _ h1).1; have e2 := (hT _ _ h2).1; rw [h3] at e2; simp [execOp, hop, hS.ev hu, convert, run_underlying e1, run_underlying e2, Conv.intToInt, hz]
theorem p_len {u : Operand} {t : TypeId} {i : TI} {e : TypeId} {A : Option Addr} {m c : Nat} (hS : St n D L a) (hop : o.op = .call { callee := .builtin .len, args := #[u], argTypes := #[t] })
    (hT : TabOk P T) (h1 : T.lookup t = some i) (h2 : i.desc = .slice e) (hu : ev L u = some (.slice A m c)) : PV P o a (.int .i64 (m : Int)) := fun w => by have e1 := (hT _ _ h1).1; rw [h2] at e1; simp [execOp, hop, resolve, invoke, builtin, Builtin.len_, hS.ev hu, run_underlying e1, goInt]
theorem p_cap {u : Operand} {t : TypeId} {i : TI} {e : TypeId} {A : Option Addr} {m c : Nat} (hS : St n D L a) (hop : o.op = .call { callee := .builtin .cap, args := #[u], argTypes := #[t] })
    (hT : TabOk P T) (h1 : T.lookup t = some i) (h2 : i.desc = .slice e) (hu : ev L u = some (.slice A m c)) : PV P o a (.int .i64 (c : Int)) := fun w => by have e1 := (hT _ _ h1).1; rw [h2] at e1; simp [execOp, hop, resolve, invoke, builtin, Builtin.cap_, hS.ev hu, run_underlying e1, goInt]
theorem p_field {u : Operand} {t : TypeId} {k : Nat} {i i' : TI} {fs : Array Field} {nm tg pk : String} {ty : TypeId} {off bo : Nat} {em : Bool} {b p : Nat} (hS : St n D L a) (hop : o.op = .fieldAddr t u k)
    (hT : TabOk P T) (h1 : T.lookup t = some i) (h2 : i.desc = .struct fs) (h3 : fs[k]? = some ⟨nm, ty, off, em, tg, pk, bo⟩) (h4 : T.lookup ty = some i') (h5 : Nat.blt 0 i'.size = true) (hu : ev L u = some (.pointer (some ⟨b, p, none⟩))) :
    PV P o a (.pointer (some ⟨b, p + off, none⟩)) := fun w => by
  have e1 := (hT _ _ h1).1
  rw [h2] at e1
  have e2 := TI.run_sizeOf (hT _ _ h4)
  have e3 : i'.size ≠ 0 := (Nat.pos_iff_ne_zero.1 (lt_of_blt h5))
  simp [execOp, hop, hS.ev hu, Instr.fieldAt, run_underlying e1, h3, Instr.sureAddr, fieldPlace, e2, e3, Addr.add_lit]
theorem p_field0 {u : Operand} {t : TypeId} {k : Nat} {i i' : TI} {fs : Array Field} {nm tg pk : String} {ty : TypeId} {off bo : Nat} {em : Bool} {b : Nat} (hS : St n D L a) (hop : o.op = .fieldAddr t u k)
    (hT : TabOk P T) (h1 : T.lookup t = some i) (h2 : i.desc = .struct fs) (h3 : fs[k]? = some ⟨nm, ty, off, em, tg, pk, bo⟩) (h4 : T.lookup ty = some i') (h5 : Nat.blt 0 i'.size = true) (hu : ev L u = some (.pointer (some ⟨b, 0, none⟩))) :
    PV P o a (.pointer (some ⟨b, off, none⟩)) := by
  have := p_field hS hop hT h1 h2 h3 h4 h5 hu
  rw [Nat.zero_add] at this
  exact this
theorem p_index {u x : Operand} {t e : TypeId} {i i' : TI} {b p m c j : Nat} {k : IntKind} {z : Int} (hS : St n D L a) (hop : o.op = .indexAddr t u x)
    (hT : TabOk P T) (h1 : T.lookup t = some i) (h2 : i.desc = .slice e) (h4 : T.lookup e = some i') (hu : ev L u = some (.slice (some ⟨b, p, none⟩) m c)) (hx : ev L x = some (.int k z)) (hz : z = (j : Int)) (hj : j < m) : PV P o a (.pointer (some ⟨b, p + j * i'.size, none⟩)) := fun w => by subst hz; have e1 := (hT _ _ h1).1; rw [h2] at e1; have e2 := TI.run_sizeOf (hT _ _ h4); simp [execOp, hop, hS.ev hu, hS.ev hx, Instr.indexAt, asIntOf, run_underlying e1, e2, Addr.add_lit, hj]
theorem p_index1 {u x : Operand} {t e : TypeId} {i i' : TI} {b p m c j : Nat} {k : IntKind} {z : Int} (hS : St n D L a) (hop : o.op = .indexAddr t u x)
    (hT : TabOk P T) (h1 : T.lookup t = some i) (h2 : i.desc = .slice e) (h4 : T.lookup e = some i') (h5 : i'.size = 1) (hu : ev L u = some (.slice (some ⟨b, p, none⟩) m c)) (hx : ev L x = some (.int k z)) (hz : z = (j : Int)) (hj : j < m) : PV P o a (.pointer (some ⟨b, p + j, none⟩)) := fun w => by subst hz; have e1 := (hT _ _ h1).1; rw [h2] at e1; have e2 := TI.run_sizeOf (hT _ _ h4); simp [execOp, hop, hS.ev hu, hS.ev hx, Instr.indexAt, asIntOf, run_underlying e1, e2, h5, Addr.add_lit, hj]
theorem y_pure {v : Value} (hX : Sym n D L B w0 H a w) (ho : o.guard = none ∧ o.dst = some d) (hd : Nat.blt d n = true) (hp : PV P o a v)
    (h : ∀ a' w', Sym n D ((d, v) :: L) B w0 H a' w' → KK a' w') : XO P ops o KK a w :=
  y_value hX ho hd (hp w) hX.sh h
end
end Go.Proofs.YtcjpcmofajcadaaDoor

/- The rules, operation by operation: memory. -/
namespace Go.Proofs.YtcjpcmofajcadaaDoor
open Go.RowKit
section
variable {r : Option Nat} {P : Program} {ops : Array Oper} {Q : Exit → Act → World → Prop} {o : Oper} {KK : Act → World → Prop}
variable {n : Nat} {D : List Deferred} {L : List (Nat × Value)} {B : Nat → Prop} {w0 : World} {H : List Ck} {a : Act} {w : World}
variable {T : List (TypeId × TI)} {d : Nat} {K : Ck → List Ck}

theorem cel_block (hH : SH B w0 H w) {b : Nat} {cs : List Value} {e : TypeId} (hf : Foc H (.cel b cs e) K) : w.heap[b]? = some (.cells cs.toArray e) := (hH.ok _ hf.mem).2
theorem cel_cell (hH : SH B w0 H w) {b : Nat} {cs : List Value} {e : TypeId} (hf : Foc H (.cel b cs e) K) (j : Nat) : w.cell? ⟨b, j, none⟩ = cs[j]? := by
  simp [World.cell?, cel_block hH hf]
theorem cel_frozen (hH : SH B w0 H w) {b : Nat} {cs : List Value} {e : TypeId} (hf : Foc H (.cel b cs e) K) (j : Nat) : w.frozen? ⟨b, j, none⟩ = false := by
  simp [World.frozen?, cel_block hH hf]
/-- A known block is written anew. -/
theorem SH.setC (hH : SH B w0 H w) {b : Nat} {cs cs' : List Value} {e : TypeId} (hf : Foc H (.cel b cs e) K) {w' : World}
    (hw : w'.os = w.os ∧ w'.tape = w.tape ∧ w'.output = w.output ∧ w'.heap.size = w.heap.size) (hb : w'.heap[b]? = some (.cells cs'.toArray e)) (ho : ∀ k, k ≠ b → w'.heap[k]? = w.heap[k]?) :
    SH B w0 (K (.cel b cs' e)) w' := by
  have hc := hH.ok _ hf.mem
  refine hH.turn hf ⟨hw.1, hw.2.1, hw.2.2.1, Nat.le_of_eq hw.2.2.2.symm, fun k hk => ho k (fun e' => by subst e'; exact hc.1 hk)⟩ ⟨hc.1, hb⟩ (fun b' e' => .inl e') fun b' _ hne => ho b' (fun e' => hne (by subst e'; rfl))

theorem y_box {x : Operand} {t : TypeId} {v : Value} {cs : List Value} (hX : Sym n D L B w0 H a w) (hop : o.op = .box t x) (ho : o.guard = none ∧ o.dst = some d) (hd : Nat.blt d n = true)
    (hx : ev L x = some v) (hv : v.cells.toList = cs)
    (h : ∀ b a' w', Sym n D ((d, .pointer (some ⟨b, 0, none⟩)) :: L) B w0 (.cel b cs t :: H) a' w' → KK a' w') : XO P ops o KK a w :=
  y_value hX ho hd
    (by subst hv; simp [execOp, hop, hX.ev hx, Instr.box, newVar, newRow, newObj, Sem.run]) (hX.sh.allocC cs t) (h w.heap.size)
theorem y_box_agg {x : Operand} {t : TypeId} {cs : List Value} (hX : Sym n D L B w0 H a w) (hop : o.op = .box t x) (ho : o.guard = none ∧ o.dst = some d) (hd : Nat.blt d n = true)
    (hx : ev L x = some (.agg cs.toArray))
    (h : ∀ b a' w', Sym n D ((d, .pointer (some ⟨b, 0, none⟩)) :: L) B w0 (.cel b cs t :: H) a' w' → KK a' w') : XO P ops o KK a w :=
  y_box hX hop ho hd hx rfl h
theorem y_box_one {x : Operand} {t : TypeId} {v : Value} (hX : Sym n D L B w0 H a w) (hop : o.op = .box t x) (ho : o.guard = none ∧ o.dst = some d) (hd : Nat.blt d n = true)
    (hx : ev L x = some v) (hv : v.oneCell' = true)
    (h : ∀ b a' w', Sym n D ((d, .pointer (some ⟨b, 0, none⟩)) :: L) B w0 (.cel b [v] t :: H) a' w' → KK a' w') : XO P ops o KK a w :=
  y_box hX hop ho hd hx (by cases v <;> first | rfl | (simp [Value.oneCell'] at hv)) h
theorem y_alloc_agg {t : TypeId} {i : TI} {cs : List Value} (hX : Sym n D L B w0 H a w) (hop : o.op = .alloc t) (ho : o.guard = none ∧ o.dst = some d) (hd : Nat.blt d n = true)
    (hT : TabOk P T) (h1 : T.lookup t = some i) (hv : i.zero = .agg cs.toArray)
    (h : ∀ b a' w', Sym n D ((d, .pointer (some ⟨b, 0, none⟩)) :: L) B w0 (.cel b cs t :: H) a' w' → KK a' w') : XO P ops o KK a w :=
  y_value hX ho hd
    (by simp [execOp, hop, Instr.alloc, TI.run_zero (hT _ _ h1), hv, newVar, newRow, newObj, Sem.run, Value.cells]) (hX.sh.allocC cs t) (h w.heap.size)
theorem y_alloc_one {t : TypeId} {i : TI} {v : Value} (hX : Sym n D L B w0 H a w) (hop : o.op = .alloc t) (ho : o.guard = none ∧ o.dst = some d) (hd : Nat.blt d n = true)
    (hT : TabOk P T) (h1 : T.lookup t = some i) (hv : i.zero = v) (hv1 : v.oneCell' = true)
    (h : ∀ b a' w', Sym n D ((d, .pointer (some ⟨b, 0, none⟩)) :: L) B w0 (.cel b [v] t :: H) a' w' → KK a' w') : XO P ops o KK a w :=
  y_value hX ho hd
    (by
      have : v.cells = #[v] := by cases v <;> first | rfl | (simp [Value.oneCell'] at hv1)
      simp [execOp, hop, Instr.alloc, TI.run_zero (hT _ _ h1), hv, newVar, newRow, newObj, Sem.run, this]) (hX.sh.allocC [v] t) (h w.heap.size)
theorem y_alloc {t : TypeId} {i : TI} {cs : List Value} (hX : Sym n D L B w0 H a w) (hop : o.op = .alloc t) (ho : o.guard = none ∧ o.dst = some d) (hd : Nat.blt d n = true)
    (hT : TabOk P T) (h1 : T.lookup t = some i) (hv : i.zero.cells.toList = cs)
    (h : ∀ b a' w', Sym n D ((d, .pointer (some ⟨b, 0, none⟩)) :: L) B w0 (.cel b cs t :: H) a' w' → KK a' w') : XO P ops o KK a w :=
  y_value hX ho hd
    (by subst hv; simp [execOp, hop, Instr.alloc, TI.run_zero (hT _ _ h1), newVar, newRow, newObj, Sem.run]) (hX.sh.allocC cs t) (h w.heap.size)

theorem v_load {x : Operand} {t e : TypeId} {i : TI} {b p : Nat} {cs : List Value} {v : Value} (hS : St n D L a) (hop : o.op = .load t x)
    (hT : TabOk P T) (h1 : T.lookup t = some i) (h2 : isAggD i.desc = false) (hx : ev L x = some (.pointer (some ⟨b, p, none⟩))) (hf : Foc H (.cel b cs e) K) (hv : cs[p]? = some v) (w : World) (hH : SH B w0 H w) :
    (execOp a.eval o).run P w = .ok (.value v) w := by
  have hc := cel_cell hH hf p
  rw [hv] at hc
  simp [execOp, hop, hS.ev hx, Instr.loadAt, Instr.sureAddr, loadVar, TI.run_isAgg (hT _ _ h1), h2, hc]
theorem v_load_old {x : Operand} {t : TypeId} {i : TI} {b p : Nat} {v : Value} (hS : St n D L a) (hop : o.op = .load t x)
    (hT : TabOk P T) (h1 : T.lookup t = some i) (h2 : isAggD i.desc = false) (hx : ev L x = some (.pointer (some ⟨b, p, none⟩))) (hb : B b) (hv : w0.cell? ⟨b, p, none⟩ = some v) (w : World) (hH : SH B w0 H w) :
    (execOp a.eval o).run P w = .ok (.value v) w := by
  have hc := hH.below.cell (p := ⟨b, p, none⟩) hb
  rw [hv] at hc
  simp [execOp, hop, hS.ev hx, Instr.loadAt, Instr.sureAddr, loadVar, TI.run_isAgg (hT _ _ h1), h2, hc]
theorem run_load_agg {t : TypeId} {i : TI} (hi : TI.ok P t i) (h2 : isAggD i.desc = true) {b p : Nat} {vs : List Value} (hl : vs.length = i.size) (hc : ∀ j v, vs[j]? = some v → w.cell? ⟨b, p + j, none⟩ = some v) :
    (loadVar t ⟨b, p, none⟩).run P w = .ok (.agg vs.toArray) w := by
  have := run_loadCells_list (P := P) w ⟨b, p, none⟩ vs (fun j v hj => by rw [Addr.add_lit]; exact hc j v hj)
  rw [hl] at this
  simp [loadVar, TI.run_isAgg hi, h2, TI.run_sizeOf hi, this]
theorem v_load_agg {x : Operand} {t e : TypeId} {i : TI} {b p : Nat} {cs vs : List Value} (hS : St n D L a) (hop : o.op = .load t x)
    (hT : TabOk P T) (h1 : T.lookup t = some i) (h2 : isAggD i.desc = true) (hx : ev L x = some (.pointer (some ⟨b, p, none⟩))) (hf : Foc H (.cel b cs e) K) (hl : vs.length = i.size) (hv : ∃ X Y, cs = X ++ vs ++ Y ∧ X.length = p) (w : World) (hH : SH B w0 H w) :
    (execOp a.eval o).run P w = .ok (.value (.agg vs.toArray)) w := by
  obtain ⟨X, Y, rfl, rfl⟩ := hv
  have := run_load_agg (w := w) (hT _ _ h1) h2 (b := b) (p := X.length) hl (fun j v hj => by
    rw [cel_cell hH hf]
    have hlt : j < vs.length := (List.getElem?_eq_some_iff.1 hj).1
    rw [List.append_assoc, List.getElem?_append_right (by omega), Nat.add_sub_cancel_left, List.getElem?_append_left hlt]
    exact hj)
  simp [execOp, hop, hS.ev hx, Instr.loadAt, Instr.sureAddr, this]
/-- The whole of a block. -/
theorem v_load_whole {x : Operand} {t e : TypeId} {i : TI} {b : Nat} {cs : List Value} (hS : St n D L a) (hop : o.op = .load t x)
    (hT : TabOk P T) (h1 : T.lookup t = some i) (h2 : isAggD i.desc = true) (hx : ev L x = some (.pointer (some ⟨b, 0, none⟩))) (hf : Foc H (.cel b cs e) K) (hl : cs.length = i.size) (w : World) (hH : SH B w0 H w) :
    (execOp a.eval o).run P w = .ok (.value (.agg cs.toArray)) w :=
  v_load_agg hS hop hT h1 h2 hx hf hl ⟨[], [], by simp, rfl⟩ w hH
/-- A part of two cells. -/
theorem v_load_two {x : Operand} {t e : TypeId} {i : TI} {b p : Nat} {cs : List Value} {u v : Value} (hS : St n D L a) (hop : o.op = .load t x)
    (hT : TabOk P T) (h1 : T.lookup t = some i) (h2 : isAggD i.desc = true) (hx : ev L x = some (.pointer (some ⟨b, p, none⟩))) (hf : Foc H (.cel b cs e) K) (hl : i.size = 2) (hu : cs[p]? = some u) (hv : cs[p + 1]? = some v) (w : World) (hH : SH B w0 H w) :
    (execOp a.eval o).run P w = .ok (.value (.agg #[u, v])) w := by
  have := run_load_agg (w := w) (hT _ _ h1) h2 (b := b) (p := p) (vs := [u, v]) (by simp [hl]) (fun j y hj => by
    rw [cel_cell hH hf]
    match j, hj with
    | 0, hj => simp at hj; subst hj; exact hu
    | 1, hj => simp at hj; subst hj; exact hv)
  simp [execOp, hop, hS.ev hx, Instr.loadAt, Instr.sureAddr, this]
theorem v_load_old_agg {x : Operand} {t : TypeId} {i : TI} {b p : Nat} {vs : List Value} (hS : St n D L a) (hop : o.op = .load t x)
    (hT : TabOk P T) (h1 : T.lookup t = some i) (h2 : isAggD i.desc = true) (hx : ev L x = some (.pointer (some ⟨b, p, none⟩))) (hb : B b) (hl : vs.length = i.size) (hv : ∀ j v, vs[j]? = some v → w0.cell? ⟨b, p + j, none⟩ = some v) (w : World) (hH : SH B w0 H w) :
    (execOp a.eval o).run P w = .ok (.value (.agg vs.toArray)) w := by
  have := run_load_agg (w := w) (hT _ _ h1) h2 (b := b) (p := p) hl (fun j v hj => (hH.below.cell (p := ⟨b, p + j, none⟩) hb).trans (hv j v hj))
  simp [execOp, hop, hS.ev hx, Instr.loadAt, Instr.sureAddr, this]
theorem y_read {v : Value} (hX : Sym n D L B w0 H a w) (ho : o.guard = none ∧ o.dst = some d) (hd : Nat.blt d n = true) (hp : ∀ w, SH B w0 H w → (execOp a.eval o).run P w = .ok (.value v) w)
    (h : ∀ a' w', Sym n D ((d, v) :: L) B w0 H a' w' → KK a' w') : XO P ops o KK a w :=
  y_value hX ho hd (hp w hX.sh) hX.sh h

theorem run_storeVar_at {t : TypeId} {i : TI} (hi : TI.ok P t i) {b p : Nat} {v : Value} {cs : List Value} {e : TypeId} (hb : w.heap[b]? = some (.cells cs.toArray e)) (hs : v.cells.size = i.size)
    (h1 : ∀ u ∈ v.cells.toList, u.oneCell' = true) (hp : p + v.cells.size ≤ cs.length) :
    (storeVar t ⟨b, p, none⟩ v).run P w = .ok () (w.setRow b (cs.take p ++ v.cells.toList ++ cs.drop (p + v.cells.size)).toArray) := by
  have h2 := run_storeCells_at P b p e v.cells.toList 0 cs.toArray w hb (by simpa using hp) h1
  simp only [Nat.add_zero] at h2
  unfold storeVar
  simp [TI.run_sizeOf hi, hs, h2]
theorem y_store {x y : Operand} {t e : TypeId} {i : TI} {b p : Nat} {cs cs' : List Value} {v : Value} (hX : Sym n D L B w0 H a w) (hop : o.op = .store t x y) (ho : o.guard = none ∧ o.dst = none)
    (hT : TabOk P T) (h1 : T.lookup t = some i) (hi : i.size = 1) (hx : ev L x = some (.pointer (some ⟨b, p, none⟩))) (hy : ev L y = some v) (h2 : v.oneCell' = true) (hf : Foc H (.cel b cs e) K) (hs : SetAt cs p v cs')
    (h : ∀ a' w', Sym n D L B w0 (K (.cel b cs' e)) a' w' → KK a' w') : XO P ops o KK a w := by
  obtain ⟨rfl, hlt⟩ := hs.eq
  have hvc : v.cells = #[v] := by cases v <;> first | rfl | (simp [Value.oneCell'] at h2)
  have hrun := run_storeVar_at (w := w) (v := v) (p := p) (hT _ _ h1) (cel_block hX.sh hf) (by rw [hvc, hi]; rfl) (by rw [hvc]; simpa using h2) (by rw [hvc]; simp; omega)
  refine y_skip hX ho (w' := _) (by simp [execOp, hop, hX.ev hx, hX.ev hy, Instr.storeAt, Instr.sureAddr, hrun]; rfl) (H' := K (.cel b (cs.set p v) e)) ?_ h
  refine hX.sh.setC hf ⟨rfl, rfl, rfl, by simp⟩ ?_ fun k hk => setRow_other w b k _ hk
  rw [setRow_heap w b cs.toArray _ e _ (cel_block hX.sh hf)]
  simp [hvc, List.set_eq_take_append_cons_drop, hlt]
theorem y_store_whole {x y : Operand} {t e : TypeId} {i : TI} {b : Nat} {cs vs : List Value} {v : Value} (hX : Sym n D L B w0 H a w) (hop : o.op = .store t x y) (ho : o.guard = none ∧ o.dst = none)
    (hT : TabOk P T) (h1 : T.lookup t = some i) (hx : ev L x = some (.pointer (some ⟨b, 0, none⟩))) (hy : ev L y = some v) (hv : v.cells.toList = vs) (h2 : vs.all (·.oneCell') = true) (hf : Foc H (.cel b cs e) K) (hl : cs.length = i.size) (hl' : vs.length = i.size)
    (h : ∀ a' w', Sym n D L B w0 (K (.cel b vs e)) a' w' → KK a' w') : XO P ops o KK a w := by
  have hsz : v.cells.size = i.size := by rw [← hl', ← hv]; simp
  have hrun := run_storeVar_at (w := w) (v := v) (p := 0) (hT _ _ h1) (cel_block hX.sh hf) hsz (by rw [hv]; simpa using h2) (by omega)
  refine y_skip hX ho (w' := _) (by simp [execOp, hop, hX.ev hx, hX.ev hy, Instr.storeAt, Instr.sureAddr, hrun]; rfl) (H' := K (.cel b vs e)) ?_ h
  refine hX.sh.setC hf ⟨rfl, rfl, rfl, by simp⟩ ?_ fun k hk => setRow_other w b k _ hk
  rw [setRow_heap w b cs.toArray _ e _ (cel_block hX.sh hf)]
  simp [hv, List.drop_of_length_le (show cs.length ≤ v.cells.size by omega)]
end
end Go.Proofs.YtcjpcmofajcadaaDoor

/- The rules: guards, control, calls, beginnings and ends. -/
namespace Go.Proofs.YtcjpcmofajcadaaDoor
open Go.RowKit

theorem in_i64 {z : Int} (h1 : -9223372036854775808 ≤ z) (h2 : z ≤ 9223372036854775807) : IntKind.i64.wrap z = z := by rw [IntKind.wrap_i64]; omega

/-- A call that returns. -/
def Ret (P : Program) (f : FuncId) (args : Array Value) (w : World) (R : Value → World → Prop) : Prop :=
  Calls P f args w fun e w' => ∃ v, e = .returned v ∧ R v w'
theorem Ret.mono {P : Program} {f : FuncId} {args : Array Value} {w : World} {R R' : Value → World → Prop} (h : Ret P f args w R) (hr : ∀ v w', R v w' → R' v w') : Ret P f args w R' :=
  Calls.mono h fun _ _ ⟨v, e, hv⟩ => ⟨v, e, hr v _ hv⟩

section
variable {r : Option Nat} {P : Program} {ops : Array Oper} {Q : Exit → Act → World → Prop} {o : Oper} {KK : Act → World → Prop}
variable {n : Nat} {D : List Deferred} {L : List (Nat × Value)} {B : Nat → Prop} {w0 : World} {H : List Ck} {a : Act} {w : World}
variable {T : List (TypeId × TI)} {d : Nat}

theorem wanted_of (hX : Sym n D L B w0 H a w) {j s : Nat} {want g : Bool} (hg : o.guard = some (j, want)) (hj : (ops[j]?).bind (·.dst) = some s) (hs : L.lookup s = some (.bool g)) :
    Region.wanted o (yielded ops a.tmps) = (g == want) := by
  have h1 := hX.st.has s _ hs
  have h2 : yielded ops a.tmps j = some g := by simp [yielded, hj, h1]
  simp only [Region.wanted, hg, h2]
  cases g <;> cases want <;> rfl
theorem y_guard1 {j s : Nat} {want g : Bool} (hX : Sym n D L B w0 H a w) (hg : o.guard = some (j, want)) (hj : (ops[j]?).bind (·.dst) = some s) (hs : L.lookup s = some (.bool g)) (hw : g = want)
    (h : XO P ops { dst := o.dst, op := o.op, type := o.type, pos := o.pos, after := o.after, guard := none } KK a w) : XO P ops o KK a w := by
  have h1 := wanted_of (ops := ops) hX hg hj hs
  subst hw
  rcases h with ⟨_, h⟩ | ⟨h, _⟩
  · exact .inl ⟨by rw [h1]; cases g <;> rfl, h⟩
  · simp [Region.wanted] at h
theorem y_guard0 {j s : Nat} {want g : Bool} (hX : Sym n D L B w0 H a w) (hg : o.guard = some (j, want)) (hj : (ops[j]?).bind (·.dst) = some s) (hs : L.lookup s = some (.bool g)) (hw : g = !want)
    (hdst : o.dst = some d) (hd : Nat.blt d n = true) (h : ∀ a' w', Sym n D ((d, undef) :: L) B w0 H a' w' → KK a' w') : XO P ops o KK a w := by
  have h1 := wanted_of (ops := ops) hX hg hj hs
  subst hw
  exact .inr ⟨by rw [h1]; cases want <;> rfl, h _ _ ⟨by rw [hdst]; exact hX.st.put d undef (lt_of_blt hd), hX.sh⟩⟩
theorem unwanted_of (hX : Sym n D L B w0 H a w) {j s : Nat} {want : Bool} (hg : o.guard = some (j, want)) (hj : (ops[j]?).bind (·.dst) = some s) (hs : L.lookup s = some undef) :
    Region.wanted o (yielded ops a.tmps) = false := by
  have h1 := hX.st.has s _ hs
  have h2 : yielded ops a.tmps j = none := by simp [yielded, hj, h1, undef]
  simp only [Region.wanted, hg, h2]
  rfl
theorem y_guardU {j s : Nat} {want : Bool} (hX : Sym n D L B w0 H a w) (hg : o.guard = some (j, want)) (hj : (ops[j]?).bind (·.dst) = some s) (hs : L.lookup s = some undef)
    (hdst : o.dst = some d) (hd : Nat.blt d n = true) (h : ∀ a' w', Sym n D ((d, undef) :: L) B w0 H a' w' → KK a' w') : XO P ops o KK a w :=
  .inr ⟨unwanted_of hX hg hj hs, h _ _ ⟨by rw [hdst]; exact hX.st.put d undef (lt_of_blt hd), hX.sh⟩⟩
theorem y_gsplit {j s : Nat} {want g : Bool} (_hX : Sym n D L B w0 H a w) (_hg : o.guard = some (j, want)) (_hj : (ops[j]?).bind (·.dst) = some s) (_hs : L.lookup s = some (.bool g))
    (h1 : g = true → XO P ops o KK a w) (h0 : g = false → XO P ops o KK a w) : XO P ops o KK a w := by
  cases g
  · exact h0 rfl
  · exact h1 rfl

theorem run_call {f : FuncId} {fn : Func} {xs : List Operand} {ts : Array TypeId} {vs : List Value} (hop : o.op = .call { callee := .value (.func f), args := xs.toArray, argTypes := ts }) (hfn : P.funcs[f]? = some fn)
    (hn : (fn.name == "runtime.NumGoroutine") = false) (hb : fn.body.isNone = false) (hv : xs.map a.eval = vs) : (execOp a.eval o).run P w = .ok (.enter f vs.toArray) w := by
  have e : a.eval (.func f) = .func (.func f) #[] #[] := rfl
  have hn' : fn.name ≠ "runtime.NumGoroutine" := by simpa using hn
  have hb' : fn.body ≠ none := by intro h; rw [h] at hb; cases hb
  simp [execOp, hop, resolve, e, Deferred.ofValue, invoke, callFunc, program, Sem.run, hfn, hn', hb', hv]
theorem y_call {f : FuncId} {fn : Func} {xs : List Operand} {ts : Array TypeId} {vs : List Value} {R : Value → World → Prop} (hX : Sym n D L B w0 H a w)
    (hop : o.op = .call { callee := .value (.func f), args := xs.toArray, argTypes := ts }) (ho : o.guard = none ∧ o.dst = some d) (hd : Nat.blt d n = true)
    (hfn : P.funcs[f]? = some fn) (hn : (fn.name == "runtime.NumGoroutine") = false) (hb : fn.body.isNone = false) (hv : evs L xs = some vs) (hC : Ret P f vs.toArray w R)
    (h : ∀ v a' w', R v w' → St n D ((d, v) :: L) a' → KK a' w') : XO P ops o KK a w := by
  refine .inl ⟨by simp [Region.wanted, ho.1], .inr (.inr ⟨f, vs.toArray, w, run_call hop hfn hn hb (hX.st.evs hv), ?_⟩)⟩
  refine Calls.mono hC ?_
  rintro e w' ⟨v, rfl, hR⟩
  exact ⟨v, rfl, h v _ w' hR (by rw [ho.2]; exact hX.st.put d v (lt_of_blt hd))⟩

/-! ### Control -/
variable {c c1 c2 : Code}
abbrev XC (r : Option Nat) (P : Program) (c : Code) (Q : Exit → Act → World → Prop) (a : Act) (w : World) : Prop := c.wpIn (WF r) 0 P Q a w
theorem c_seq (h : ∀ K : Act → World → Prop, (∀ a w, XC r P c2 Q a w → K a w) → XC r P c1 (Exit.then K Q) a w) : XC r P (.seq c1 c2) Q a w := wpIn_seq_k h
theorem c_region {id : Nat} {l : List Oper} (h : XL r P l.toArray Q l a w) : XC r P (.region id l.toArray false) Q a w := wpIn_region_lit h
/-- A cut: what holds behind a piece. -/
theorem c_cut (M : Act → World → Prop) (h1 : XC r P c (fun e a w => e = .normal ∧ M a w) a w) (h2 : ∀ a w, M a w → Q .normal a w) : XC r P c Q a w :=
  wpIn_mono h1 fun e a w ⟨he, hM⟩ => by subst he; exact h2 a w hM
/-- A piece that does not panic. -/
theorem c_nopanic (h : XC r P c (fun e a w => e = .normal ∧ Q .normal a w) a w) : XC r P c Q a w := c_cut (Q .normal) h fun _ _ h => h
theorem c_skip (h : Q .normal a w) : XC r P .skip Q a w := wpIn_skip h
theorem c_exit {id : Nat} (h : Q (.exit id) a w) : XC r P (.exit id) Q a w := wpIn_exit h
theorem c_ret (h : Q .ret a w) : XC r P .ret Q a w := wpIn_ret h
theorem c_block {id : Nat} (h : XC r P c (Exit.inBlock id Q) a w) : XC r P (.block id c) Q a w := wpIn_block h
theorem c_cond {x : Operand} {g : Bool} (hX : Sym n D L B w0 H a w) (hx : ev L x = some (.bool g)) (h1 : g = true → XC r P c1 Q a w) (h0 : g = false → XC r P c2 Q a w) : XC r P (.cond x c1 c2) Q a w :=
  wpIn_cond_split (hX.ev hx) h1 h0
theorem c_cond_t {x : Operand} (hX : Sym n D L B w0 H a w) (hx : ev L x = some (.bool true)) (h1 : XC r P c1 Q a w) : XC r P (.cond x c1 c2) Q a w := wpIn_cond_true (hX.ev hx) h1
theorem c_cond_f {x : Operand} (hX : Sym n D L B w0 H a w) (hx : ev L x = some (.bool false)) (h0 : XC r P c2 Q a w) : XC r P (.cond x c1 c2) Q a w := wpIn_cond_false (hX.ev hx) h0
theorem c_cond_y {x : Operand} {g : Bool} (hX : Sym n D L B w0 H a w) (hx : ev L x = some (.bool g)) (hg : g = true) (h1 : XC r P c1 Q a w) : XC r P (.cond x c1 c2) Q a w := by subst hg; exact c_cond_t hX hx h1
theorem c_cond_n {x : Operand} {g : Bool} (hX : Sym n D L B w0 H a w) (hx : ev L x = some (.bool g)) (hg : g = false) (h0 : XC r P c2 Q a w) : XC r P (.cond x c1 c2) Q a w := by subst hg; exact c_cond_f hX hx h0
theorem q_then {K : Act → World → Prop} (h : K a w) : Exit.then K Q .normal a w := h
theorem q_then_exit {K : Act → World → Prop} {id : Nat} (h : Q (.exit id) a w) : Exit.then K Q (.exit id) a w := h
theorem q_then_ret {K : Act → World → Prop} (h : Q .ret a w) : Exit.then K Q .ret a w := h
theorem q_block {id : Nat} (h : Q .normal a w) : Exit.inBlock id Q .normal a w := h
theorem q_block_ret {id : Nat} (h : Q .ret a w) : Exit.inBlock id Q .ret a w := h
theorem q_block_exit {id : Nat} (h : Q .normal a w) : Exit.inBlock id Q (.exit id) a w := by simpa [Exit.inBlock] using h
theorem q_block_pass {id id' : Nat} (hne : Nat.beq id' id = false) (h : Q (.exit id') a w) : Exit.inBlock id Q (.exit id') a w := by
  have : id' ≠ id := Nat.ne_of_beq_eq_false hne
  simpa [Exit.inBlock, this] using h

theorem least (S : Nat → Prop) (h : ∃ k, S k) : ∃ k, S k ∧ ∀ j, S j → k ≤ j := by
  obtain ⟨k, hk⟩ := h
  induction k using Nat.strongRecOn with
  | _ k ih =>
    by_cases e : ∃ j, j < k ∧ S j
    · obtain ⟨j, hj, hs⟩ := e; exact ih j hj hs
    · exact ⟨k, hk, fun j hj => Nat.le_of_not_lt fun hlt => e ⟨j, hlt, hj⟩⟩
noncomputable def leastOf (S : Nat → Prop) : Nat := by
  classical
  exact if h : ∃ k, S k then Classical.choose (least S h) else 0
theorem leastOf_le {S : Nat → Prop} {k : Nat} (h : S k) : leastOf S ≤ k := by
  unfold leastOf; rw [dif_pos ⟨k, h⟩]; exact (Classical.choose_spec (least S ⟨k, h⟩)).2 k h
theorem leastOf_mem {S : Nat → Prop} {k : Nat} (h : S k) : S (leastOf S) := by
  unfold leastOf; rw [dif_pos ⟨k, h⟩]; exact (Classical.choose_spec (least S ⟨k, h⟩)).1
/-- A loop whose relation has an index of its own, with a number that goes down. -/
theorem c_loop {α : Type} (M : α → Act → World → Prop) (m : α → Nat) (x : α) (h0 : M x a w)
    (hr : ∀ x a w, M x a w → XC r P c (Exit.then (fun a' w' => ∃ y, M y a' w' ∧ m y < m x) Q) a w) : XC r P (.loop c) Q a w := by
  refine wpIn_loop (fun a w => ∃ x, M x a w) (fun a w => leastOf fun k => ∃ x, M x a w ∧ m x = k) ⟨x, h0⟩ ?_
  rintro a w ⟨y, hy⟩
  obtain ⟨z, hz, hm⟩ := leastOf_mem (S := fun k => ∃ x, M x a w ∧ m x = k) (k := m y) ⟨y, hy, rfl⟩
  refine wpIn_mono (hr z a w hz) ?_
  intro e a' w' hq
  cases e with
  | normal =>
    obtain ⟨u, hu, hlt⟩ := hq
    refine ⟨⟨u, hu⟩, ?_⟩
    have := leastOf_le (S := fun k => ∃ x, M x a' w' ∧ m x = k) (k := m u) ⟨u, hu, rfl⟩
    show _ < leastOf _
    rw [← hm]
    omega
  | _ => exact hq

/-! ### Beginning and end -/
theorem argsHas {N : Nat} (vs : List Value) (hN : vs.length ≤ N) : (vs.toArray ++ Array.replicate (N - vs.toArray.size) undef).size = N := by simp; omega
theorem f_startH {f : FuncId} {fn : Func} {N : Nat} {vs : List Value} {R : Value → World → Prop} (L0 : List (Nat × Value)) (hH : SH B w0 H w) (hf : P.funcs[f]? = some fn) (hb : fn.body = some c) (hN : fn.ntmps = N) (hl : Nat.ble vs.length N = true)
    (hL : L0 = vs.zipIdx.map fun p => (p.2, p.1))
    (h : ∀ a, Sym N [] L0 B w0 H a w → XC none P c (bodyPost P fn fun e w' => ∃ v, e = .returned v ∧ R v w') a w) : Ret P f vs.toArray w R := by
  refine (callsIn_wide (n := 0)).1 (callsIn_of_wp hf hb trivial ?_)
  have hle : vs.length ≤ N := Nat.le_of_ble_eq_true hl
  refine h _ ⟨⟨by rw [hN]; exact argsHas vs hle, rfl, fun s v hs => ?_⟩, hH⟩
  have key : ∀ (vs : List Value) (k : Nat), ((vs.zipIdx k).map fun p => (p.2, p.1)).lookup s = some v → k ≤ s ∧ vs[s - k]? = some v := by
    intro vs
    induction vs with
    | nil => intro k h; cases h
    | cons u vs ih =>
      intro k h
      simp only [List.zipIdx_cons, List.map_cons, List.lookup_cons] at h
      by_cases e : s = k
      · subst e
        simp at h
        subst h
        simp
      · have e' : (s == k) = false := by simpa using e
        rw [e'] at h
        obtain ⟨h1, h2⟩ := ih (k + 1) h
        refine ⟨by omega, ?_⟩
        rw [show s - k = (s - (k + 1)) + 1 by omega, List.getElem?_cons_succ]
        exact h2
  have h1 := (key vs 0 (by rw [← hL]; exact hs)).2
  simp only [Nat.sub_zero] at h1
  have hlt : s < vs.length := (List.getElem?_eq_some_iff.1 h1).1
  show (vs.toArray ++ _)[s]? = some v
  rw [Array.getElem?_append_left (by simpa using hlt)]
  simpa using h1
theorem f_start {f : FuncId} {fn : Func} {N : Nat} {vs : List Value} {R : Value → World → Prop} (L0 : List (Nat × Value)) (hf : P.funcs[f]? = some fn) (hb : fn.body = some c) (hN : fn.ntmps = N) (hl : Nat.ble vs.length N = true)
    (hL : L0 = vs.zipIdx.map fun p => (p.2, p.1))
    (h : ∀ a, Sym N [] L0 (fun k => k < w.heap.size) w [] a w → XC none P c (bodyPost P fn fun e w' => ∃ v, e = .returned v ∧ R v w') a w) : Ret P f vs.toArray w R :=
  f_startH L0 (SH.start w) hf hb hN hl hL h
theorem f_ret1 {fn : Func} {R : Value → World → Prop} {s : Nat} {v : Value} (hX : Sym n [] L B w0 H a w) (hr : fn.results = #[.tmp s]) (hs : L.lookup s = some v) (h : R v w) :
    bodyPost P fn (fun e w' => ∃ v, e = .returned v ∧ R v w') .ret a w := by
  have h1 : a.tmps.getD s undef = v := hX.ev (x := .tmp s) hs
  exact ⟨hX.st.defs, v, by simp [results, hr, ← h1], v, rfl, h⟩
theorem f_ret2 {fn : Func} {R : Value → World → Prop} {s s' : Nat} {v v' : Value} (hX : Sym n [] L B w0 H a w) (hr : fn.results = #[.tmp s, .tmp s']) (hs : L.lookup s = some v) (hs' : L.lookup s' = some v') (h : R (.tuple #[v, v']) w) :
    bodyPost P fn (fun e w' => ∃ v, e = .returned v ∧ R v w') .ret a w := by
  have h1 : a.tmps.getD s undef = v := hX.ev (x := .tmp s) hs
  have h2 : a.tmps.getD s' undef = v' := hX.ev (x := .tmp s') hs'
  exact ⟨hX.st.defs, .tuple #[v, v'], by simp [results, hr, ← h1, ← h2], _, rfl, h⟩
theorem f_ret3 {fn : Func} {R : Value → World → Prop} {s s' s'' : Nat} {v v' v'' : Value} (hX : Sym n [] L B w0 H a w) (hr : fn.results = #[.tmp s, .tmp s', .tmp s'']) (hs : L.lookup s = some v) (hs' : L.lookup s' = some v') (hs'' : L.lookup s'' = some v'') (h : R (.tuple #[v, v', v'']) w) :
    bodyPost P fn (fun e w' => ∃ v, e = .returned v ∧ R v w') .ret a w := by
  have h1 : a.tmps.getD s undef = v := hX.ev (x := .tmp s) hs
  have h2 : a.tmps.getD s' undef = v' := hX.ev (x := .tmp s') hs'
  have h3 : a.tmps.getD s'' undef = v'' := hX.ev (x := .tmp s'') hs''
  exact ⟨hX.st.defs, .tuple #[v, v', v''], by simp [results, hr, ← h1, ← h2, ← h3], _, rfl, h⟩
end
end Go.Proofs.YtcjpcmofajcadaaDoor

/- The rules: regions that draw their order; pieces chosen out of the list. -/
namespace Go.Proofs.YtcjpcmofajcadaaDoor
open Go.RowKit

/-- One piece taken out of the list. -/
inductive Take : List Ck → Ck → List Ck → Prop where
  | here {c : Ck} {H : List Ck} : Take (c :: H) c H
  | there {c d : Ck} {H H' : List Ck} (h : Take H c H') : Take (d :: H) c (d :: H')
/-- Some pieces, in another order. -/
inductive Sel : List Ck → List Ck → Prop where
  | nil {H : List Ck} : Sel H []
  | cons {c : Ck} {H H1 H' : List Ck} (h : Take H c H1) (h' : Sel H1 H') : Sel H (c :: H')
theorem Take.perm {H H' : List Ck} {c : Ck} (h : Take H c H') : H.Perm (c :: H') := by
  induction h with
  | here => exact List.Perm.refl _
  | there _ ih => exact (List.Perm.cons _ ih).trans (List.Perm.swap _ _ _)
theorem Sel.split {H H' : List Ck} (h : Sel H H') : ∃ Y, H.Perm (H' ++ Y) := by
  induction h with
  | nil => exact ⟨_, List.Perm.refl _⟩
  | cons h _ ih =>
    obtain ⟨Y, hY⟩ := ih
    exact ⟨Y, h.perm.trans (List.Perm.cons _ hY)⟩
theorem SH.sel {B : Nat → Prop} {w0 w : World} {H H' : List Ck} (h : SH B w0 H w) (hs : Sel H H') : SH B w0 H' w := by
  obtain ⟨Y, hY⟩ := hs.split
  exact (h.perm hY).weak (List.sublist_append_left _ _)

section
variable {P : Program} {ops : Array Oper} {Q : Exit → Act → World → Prop} {o : Oper} {KK : Act → World → Prop}
variable {n : Nat} {D : List Deferred} {L : List (Nat × Value)} {B : Nat → Prop} {w0 : World} {H : List Ck} {a : Act} {w : World}
variable {d : Nat} {S : World → Prop} {listed listed' : Array Bool} {fuel : Nat}

theorem Sym.drew (hX : Sym n D L B w0 H a w) : Sym n D L B w0 H a w.drew := ⟨hX.st, hX.sh.drew⟩
theorem Sym.keep (hX : Sym n D L B w0 H a w) {L' : List (Nat × Value)} {H' : List Ck} (hl : ∀ p ∈ L', L.lookup p.1 = some p.2) (hs : Sel H H') : Sym n D L' B w0 H' a w := ⟨hX.st.weak hl, hX.sh.sel hs⟩

/-- A region that draws its order begins: what is held all the time is what is known of memory. -/
theorem d_begin {id N : Nat} {l : List Oper} {H' : List Ck} (hX : Sym n D L B w0 H a w) (hm : P.follows .mixedOrders = true) (hN : l.toArray.size = N) (_hs : Sel H H')
    (h : ∀ w, Sym n D L B w0 H a w → wpAnyH P .any l.toArray Q (fun w => SH B w0 H' w) N (Array.replicate N false) a w) : XC none P (.region id l.toArray true) Q a w := by
  refine wpIn_wide.2 (wp_region_held (S := fun w => SH B w0 H' w) hm ?_)
  rw [hN]
  exact h _ hX.drew
/-- An operation is taken first that gives one value in every world that is met. -/
theorem d_take {i : Nat} {v : Value} {H' : List Ck} (hX : Sym n D L B w0 H a w) (hi : ops[i]? = some o) (hs : Region.noSelect ops = true) (hf : Region.free .any ops listed i = true) (hr : (Region.ready .any ops listed).contains i = true)
    (hQ : ∀ c a w, Q (.panic c) (a.put o.dst v) w → Q (.panic c) a w) (ho : o.guard = none ∧ o.dst = some d) (hd : Nat.blt d n = true) (hl : listed.setIfInBounds i true = listed') (hH' : Sel H H')
    (hy : ∀ w, SH B w0 H' w → (execOp a.eval o).run P w = .ok (.value v) w) (h : ∀ a', Sym n D ((d, v) :: L) B w0 H a' w → wpAnyH P .any ops Q (fun w => SH B w0 H' w) fuel listed' a' w) :
    wpAnyH P .any ops Q (fun w => SH B w0 H' w) (fuel + 1) listed a w := by
  refine wpAnyH_take hi hs hf hr hQ (.inl ⟨by simp [Region.wanted, ho.1], hy⟩) (hX.sh.sel hH') ?_
  rw [hl]
  exact h _ ⟨by rw [ho.2]; exact hX.st.put d v (lt_of_blt hd), hX.sh⟩
/-- The same with a guard that lets it be carried out, or not. -/
theorem d_take1 {i j s : Nat} {want g : Bool} {v : Value} {H' : List Ck} (hX : Sym n D L B w0 H a w) (hi : ops[i]? = some o) (hs : Region.noSelect ops = true) (hf : Region.free .any ops listed i = true) (hr : (Region.ready .any ops listed).contains i = true)
    (hQ : ∀ c a w, Q (.panic c) (a.put o.dst v) w → Q (.panic c) a w) (hg : o.guard = some (j, want)) (hj : (ops[j]?).bind (·.dst) = some s) (hgs : L.lookup s = some (.bool g)) (hw : g = want) (ho : o.dst = some d) (hd : Nat.blt d n = true) (hl : listed.setIfInBounds i true = listed') (hH' : Sel H H')
    (hy : ∀ w, SH B w0 H' w → (execOp a.eval o).run P w = .ok (.value v) w) (h : ∀ a', Sym n D ((d, v) :: L) B w0 H a' w → wpAnyH P .any ops Q (fun w => SH B w0 H' w) fuel listed' a' w) :
    wpAnyH P .any ops Q (fun w => SH B w0 H' w) (fuel + 1) listed a w := by
  have h1 := wanted_of (ops := ops) hX hg hj hgs
  subst hw
  refine wpAnyH_take hi hs hf hr hQ (.inl ⟨by rw [h1]; cases g <;> rfl, hy⟩) (hX.sh.sel hH') ?_
  rw [hl]
  exact h _ ⟨by rw [ho]; exact hX.st.put d v (lt_of_blt hd), hX.sh⟩
theorem d_take0 {i j s : Nat} {want g : Bool} {H' : List Ck} (hX : Sym n D L B w0 H a w) (hi : ops[i]? = some o) (hs : Region.noSelect ops = true) (hf : Region.free .any ops listed i = true) (hr : (Region.ready .any ops listed).contains i = true)
    (hQ : ∀ c a w, Q (.panic c) (a.put o.dst undef) w → Q (.panic c) a w) (hg : o.guard = some (j, want)) (hj : (ops[j]?).bind (·.dst) = some s) (hgs : L.lookup s = some (.bool g)) (hw : g = !want) (ho : o.dst = some d) (hd : Nat.blt d n = true) (hl : listed.setIfInBounds i true = listed') (hH' : Sel H H')
    (h : ∀ a', Sym n D ((d, undef) :: L) B w0 H a' w → wpAnyH P .any ops Q (fun w => SH B w0 H' w) fuel listed' a' w) :
    wpAnyH P .any ops Q (fun w => SH B w0 H' w) (fuel + 1) listed a w := by
  have h1 := wanted_of (ops := ops) hX hg hj hgs
  subst hw
  refine wpAnyH_take (v := undef) hi hs hf hr hQ (.inr ⟨by rw [h1]; cases want <;> rfl, rfl⟩) (hX.sh.sel hH') ?_
  rw [hl]
  exact h _ ⟨by rw [ho]; exact hX.st.put d undef (lt_of_blt hd), hX.sh⟩
theorem d_takeU {i j s : Nat} {want : Bool} {H' : List Ck} (hX : Sym n D L B w0 H a w) (hi : ops[i]? = some o) (hs : Region.noSelect ops = true) (hf : Region.free .any ops listed i = true) (hr : (Region.ready .any ops listed).contains i = true)
    (hQ : ∀ c a w, Q (.panic c) (a.put o.dst undef) w → Q (.panic c) a w) (hg : o.guard = some (j, want)) (hj : (ops[j]?).bind (·.dst) = some s) (hgs : L.lookup s = some undef) (ho : o.dst = some d) (hd : Nat.blt d n = true) (hl : listed.setIfInBounds i true = listed') (hH' : Sel H H')
    (h : ∀ a', Sym n D ((d, undef) :: L) B w0 H a' w → wpAnyH P .any ops Q (fun w => SH B w0 H' w) fuel listed' a' w) :
    wpAnyH P .any ops Q (fun w => SH B w0 H' w) (fuel + 1) listed a w := by
  refine wpAnyH_take (v := undef) hi hs hf hr hQ (.inr ⟨unwanted_of hX hg hj hgs, rfl⟩) (hX.sh.sel hH') ?_
  rw [hl]
  exact h _ ⟨by rw [ho]; exact hX.st.put d undef (lt_of_blt hd), hX.sh⟩
/-- Whichever comes up. -/
def AllH (P : Program) (ops : Array Oper) (Q : Exit → Act → World → Prop) (S : World → Prop) (fuel : Nat) (listed : Array Bool) (a : Act) (w : World) (rs : List Nat) : Prop :=
  ∀ i ∈ rs, wpOp P ops Q i (fun a' w' => S w' ∧ wpAnyH P .any ops Q S fuel (listed.setIfInBounds i true) a' w') a w
theorem d_nil : AllH P ops Q S fuel listed a w [] := fun _ h => by cases h
theorem d_cons {i : Nat} {rs : List Nat} (hi : ops[i]? = some o) (hl : listed.setIfInBounds i true = listed') (h : XO P ops o (fun a' w' => S w' ∧ wpAnyH P .any ops Q S fuel listed' a' w') a w)
    (hr : AllH P ops Q S fuel listed a w rs) : AllH P ops Q S fuel listed a w (i :: rs) := fun j hj => by
  rcases List.mem_cons.1 hj with rfl | hj
  · rw [hl]; exact XO.plain hi h
  · exact hr j hj
theorem d_ready {i : Nat} {rs : List Nat} (hr : Region.ready .any ops listed = i :: rs) (h : AllH P ops Q S fuel listed a w (i :: rs)) : wpAnyH P .any ops Q S (fuel + 1) listed a w :=
  wpAnyH_all hr (by simp) h
theorem d_done (hr : Region.ready .any ops listed = []) (h : Q .normal a w) : wpAnyH P .any ops Q S fuel listed a w := wpAnyH_done hr h fuel
/-- A split on a guard. -/
theorem d_split {s : Nat} {g : Bool} {X : Prop} (_hs : L.lookup s = some (.bool g)) (_hX : Sym n D L B w0 H a w) (h1 : g = true → X) (h0 : g = false → X) : X := by
  cases g
  · exact h0 rfl
  · exact h1 rfl
end
end Go.Proofs.YtcjpcmofajcadaaDoor

/- The rules: forgetting slots, loops, calls by their contracts. -/
namespace Go.Proofs.YtcjpcmofajcadaaDoor
open Go.RowKit

/-- Some slots are forgotten. -/
inductive Rm (ks : List Nat) : List (Nat × Value) → List (Nat × Value) → Prop where
  | nil : Rm ks [] []
  | skip {k : Nat} {v : Value} {L L' : List (Nat × Value)} (hk : ks.contains k = true) (h : Rm ks L L') : Rm ks ((k, v) :: L) L'
  | keep {k : Nat} {v : Value} {L L' : List (Nat × Value)} (hk : ks.contains k = false) (h : Rm ks L L') : Rm ks ((k, v) :: L) ((k, v) :: L')
theorem Rm.look {ks : List Nat} {L L' : List (Nat × Value)} (h : Rm ks L L') : ∀ s v, L'.lookup s = some v → ks.contains s = false ∧ L.lookup s = some v := by
  induction h with
  | nil => intro s v h; cases h
  | skip hk _ ih =>
    rename_i k u L L' _
    intro s v h
    obtain ⟨h1, h2⟩ := ih s v h
    refine ⟨h1, ?_⟩
    have : (s == k) = false := by
      cases e : (s == k) with
      | false => rfl
      | true =>
        have e' : s = k := by simpa using e
        subst e'
        rw [hk] at h1; cases h1
    rw [List.lookup_cons, this]
    exact h2
  | keep hk _ ih =>
    rename_i k u L L' _
    intro s v h
    rw [List.lookup_cons] at h
    cases e : (s == k) with
    | true =>
      rw [e] at h
      have e' : s = k := by simpa using e
      subst e'
      exact ⟨hk, by rw [List.lookup_cons, e]; exact h⟩
    | false =>
      rw [e] at h
      obtain ⟨h1, h2⟩ := ih s v h
      exact ⟨h1, by rw [List.lookup_cons, e]; exact h2⟩
theorem St.rm {n : Nat} {D : List Deferred} {L L' : List (Nat × Value)} {a : Act} (h : St n D L a) (ks : List Nat) (hr : Rm ks L L') : St n D L' a := ⟨h.size, h.defs, fun s v hs => h.has s v (hr.look s v hs).2⟩
/-- What is asked of slots is known. -/
inductive Sub (L : List (Nat × Value)) : List (Nat × Value) → Prop where
  | nil : Sub L []
  | cons {k : Nat} {v : Value} {L' : List (Nat × Value)} (hk : L.lookup k = some v) (h : Sub L L') : Sub L ((k, v) :: L')
theorem Sub.all {L L' : List (Nat × Value)} (h : Sub L L') : ∀ p ∈ L', L.lookup p.1 = some p.2 := by
  induction h with
  | nil => intro p hp; cases hp
  | cons hk _ ih =>
    intro p hp
    rcases List.mem_cons.1 hp with rfl | hp
    · exact hk
    · exact ih p hp

section
variable {r : Option Nat} {P : Program} {ops : Array Oper} {Q : Exit → Act → World → Prop} {o : Oper} {KK : Act → World → Prop}
variable {n : Nat} {D : List Deferred} {L L' : List (Nat × Value)} {B : Nat → Prop} {w0 : World} {H H' : List Ck} {a : Act} {w : World}
variable {d : Nat} {c : Code}

theorem Sym.rm (hX : Sym n D L B w0 H a w) (ks : List Nat) (hr : Rm ks L L') : Sym n D L' B w0 H a w := ⟨hX.st.rm ks hr, hX.sh⟩
theorem Sym.to (hX : Sym n D L B w0 H a w) (hl : Sub L L') (hs : Sel H H') : Sym n D L' B w0 H' a w := ⟨hX.st.weak hl.all, hX.sh.sel hs⟩
theorem Sym.toL (hX : Sym n D L B w0 H a w) (hl : Sub L L') : Sym n D L' B w0 H a w := ⟨hX.st.weak hl.all, hX.sh⟩
theorem Sym.toH (hX : Sym n D L B w0 H a w) (hs : Sel H H') : Sym n D L B w0 H' a w := ⟨hX.st, hX.sh.sel hs⟩

/-- A loop: an index says what the slots and the memory are at the head of each round. -/
theorem c_loopX {α : Type} (Lx : α → List (Nat × Value)) (Hx : α → List Ck) (φ : α → Prop) (m : α → Nat) (x0 : α) (hφ : φ x0) (h0 : Sym n D (Lx x0) B w0 (Hx x0) a w)
    (hr : ∀ x a w, φ x → Sym n D (Lx x) B w0 (Hx x) a w → XC r P c (Exit.then (fun a' w' => ∃ y, φ y ∧ m y < m x ∧ Sym n D (Lx y) B w0 (Hx y) a' w') Q) a w) : XC r P (.loop c) Q a w :=
  c_loop (fun x a w => φ x ∧ Sym n D (Lx x) B w0 (Hx x) a w) m x0 ⟨hφ, h0⟩ fun x a w hM => wpIn_mono (hr x a w hM.1 hM.2) fun e a' w' hq => by
    cases e with
    | normal =>
      obtain ⟨y, h1, h2, h3⟩ := hq
      exact ⟨y, ⟨h1, h3⟩, h2⟩
    | _ => exact hq

/-- A call whose value is known, and that leaves what there was. -/
theorem y_callP {f : FuncId} {fn : Func} {xs : List Operand} {ts : Array TypeId} {vs : List Value} {v : Value} (hX : Sym n D L B w0 H a w)
    (hop : o.op = .call { callee := .value (.func f), args := xs.toArray, argTypes := ts }) (ho : o.guard = none ∧ o.dst = some d) (hd : Nat.blt d n = true)
    (hfn : P.funcs[f]? = some fn) (hn : (fn.name == "runtime.NumGoroutine") = false) (hb : fn.body.isNone = false) (hv : evs L xs = some vs) (hC : Ret P f vs.toArray w fun u w' => u = v ∧ SF w [] w')
    (h : ∀ a' w', Sym n D ((d, v) :: L) B w0 H a' w' → KK a' w') : XO P ops o KK a w :=
  y_call hX hop ho hd hfn hn hb hv hC fun u a' w' ⟨hu, hw⟩ hS => h a' w' ⟨by rw [← hu]; exact hS, hX.sh.join hw⟩
/-- A call that makes one piece of memory. -/
theorem y_callC {α : Type} {V : α → Value} {C : α → Ck} {φ : α → Prop} {f : FuncId} {fn : Func} {xs : List Operand} {ts : Array TypeId} {vs : List Value} (hX : Sym n D L B w0 H a w)
    (hop : o.op = .call { callee := .value (.func f), args := xs.toArray, argTypes := ts }) (ho : o.guard = none ∧ o.dst = some d) (hd : Nat.blt d n = true)
    (hfn : P.funcs[f]? = some fn) (hn : (fn.name == "runtime.NumGoroutine") = false) (hb : fn.body.isNone = false) (hv : evs L xs = some vs) (hC : Ret P f vs.toArray w fun u w' => ∃ x, u = V x ∧ φ x ∧ SF w [C x] w')
    (h : ∀ x a' w', φ x → Sym n D ((d, V x) :: L) B w0 (C x :: H) a' w' → KK a' w') : XO P ops o KK a w :=
  y_call hX hop ho hd hfn hn hb hv hC fun u a' w' ⟨x, hu, hφ, hw⟩ hS => h x a' w' hφ ⟨by rw [← hu]; exact hS, hX.sh.join hw⟩
end
end Go.Proofs.YtcjpcmofajcadaaDoor
namespace Go.Proofs.YtcjpcmofajcadaaDoor
theorem contra_tf {g : Bool} (h1 : g = true) (h0 : g = false) : False := by rw [h1] at h0; cases h0
theorem Sel.refl : ∀ H : List Ck, Sel H H
  | [] => .nil
  | _ :: H => .cons .here (Sel.refl H)
end Go.Proofs.YtcjpcmofajcadaaDoor
namespace Go.Proofs.YtcjpcmofajcadaaDoor
theorem Sel.skip {d : Ck} {H H' : List Ck} (h : Sel H H') : Sel (d :: H) H' := by
  induction h with
  | nil => exact .nil
  | cons h _ ih => exact .cons (.there h) ih
theorem selD1 {c : Ck} {H : List Ck} : Sel (c :: H) H := (Sel.refl H).skip
theorem selD2 {c d : Ck} {H : List Ck} : Sel (c :: d :: H) H := selD1.skip
theorem selD3 {c d e : Ck} {H : List Ck} : Sel (c :: d :: e :: H) H := selD2.skip
theorem selD4 {c d e f : Ck} {H : List Ck} : Sel (c :: d :: e :: f :: H) H := selD3.skip
end Go.Proofs.YtcjpcmofajcadaaDoor
namespace Go.Proofs.YtcjpcmofajcadaaDoor
theorem look_bool {L : List (Nat × Value)} {s : Nat} {b b' : Bool} (h : L.lookup s = some (.bool b)) (e : b = b') : L.lookup s = some (.bool b') := by rw [h, e]
theorem look_int {L : List (Nat × Value)} {s : Nat} {k : IntKind} {b b' : Int} (h : L.lookup s = some (.int k b)) (e : b = b') : L.lookup s = some (.int k b') := by rw [h, e]
theorem look_val {L : List (Nat × Value)} {s : Nat} {b b' : Value} (h : L.lookup s = some b) (e : b = b') : L.lookup s = some b' := by rw [h, e]
end Go.Proofs.YtcjpcmofajcadaaDoor
namespace Go.Proofs.YtcjpcmofajcadaaDoor
theorem tk0 {c : Ck} {H : List Ck} : Take (c :: H) c H := .here
theorem tk1 {c d0 : Ck} {H : List Ck} : Take (d0 :: c :: H) c (d0 :: H) := .there tk0
theorem tk2 {c d0 d1 : Ck} {H : List Ck} : Take (d0 :: d1 :: c :: H) c (d0 :: d1 :: H) := .there tk1
theorem tk3 {c d0 d1 d2 : Ck} {H : List Ck} : Take (d0 :: d1 :: d2 :: c :: H) c (d0 :: d1 :: d2 :: H) := .there tk2
theorem tk4 {c d0 d1 d2 d3 : Ck} {H : List Ck} : Take (d0 :: d1 :: d2 :: d3 :: c :: H) c (d0 :: d1 :: d2 :: d3 :: H) := .there tk3
theorem tk5 {c d0 d1 d2 d3 d4 : Ck} {H : List Ck} : Take (d0 :: d1 :: d2 :: d3 :: d4 :: c :: H) c (d0 :: d1 :: d2 :: d3 :: d4 :: H) := .there tk4
theorem tk6 {c d0 d1 d2 d3 d4 d5 : Ck} {H : List Ck} : Take (d0 :: d1 :: d2 :: d3 :: d4 :: d5 :: c :: H) c (d0 :: d1 :: d2 :: d3 :: d4 :: d5 :: H) := .there tk5
theorem tk7 {c d0 d1 d2 d3 d4 d5 d6 : Ck} {H : List Ck} : Take (d0 :: d1 :: d2 :: d3 :: d4 :: d5 :: d6 :: c :: H) c (d0 :: d1 :: d2 :: d3 :: d4 :: d5 :: d6 :: H) := .there tk6
end Go.Proofs.YtcjpcmofajcadaaDoor

/- The rules: maps that are known entry by entry. -/
namespace Go.Proofs.YtcjpcmofajcadaaDoor
open Go.RowKit
theorem run_checkKey_int {P : Program} {t : TypeId} {k : IntKind} (h : P.underlying t = some (.int k)) (b : Bool) (n : Nat) (x : Int) (w : World) :
    (Instr.checkKey b (n + 1) t (.int k x)).run P w = .ok () w := by
  simp [Instr.checkKey, run_underlying h]
section
variable {P : Program} {ops : Array Oper} {o : Oper} {KK : Act → World → Prop}
variable {n : Nat} {D : List Deferred} {L : List (Nat × Value)} {B : Nat → Prop} {w0 : World} {H : List Ck} {a : Act} {w : World}
variable {T : List (TypeId × TI)} {d : Nat} {K : Ck → List Ck}
theorem y_makeMap {t : TypeId} (hX : Sym n D L B w0 H a w) (hop : o.op = .makeMap t none) (ho : o.guard = none ∧ o.dst = some d) (hd : Nat.blt d n = true)
    (h : ∀ b a' w', Sym n D ((d, .map (some b)) :: L) B w0 (.obj b (.map #[] 0) :: H) a' w' → KK a' w') : XO P ops o KK a w :=
  y_value hX ho hd (by simp [execOp, hop, Instr.makeMap, newObj, Sem.run]) (hX.sh.alloc (.map #[] 0)) (h w.heap.size)
theorem SH.setO (hH : SH B w0 H w) {b : Nat} {x x' : Obj} (hf : Foc H (.obj b x) K) :
    SH B w0 (K (.obj b x')) { w with heap := w.heap.setIfInBounds b x' } := by
  have hc := hH.ok _ hf.mem
  have hlt := (Array.getElem?_eq_some_iff.1 hc.2).1
  have ho : ∀ k, k ≠ b → (w.heap.setIfInBounds b x')[k]? = w.heap[k]? := fun k hk => Array.getElem?_setIfInBounds_ne (Ne.symm hk)
  refine hH.turn hf ⟨rfl, rfl, rfl, by simp, fun k hk => ho k (fun e' => by subst e'; exact hc.1 hk)⟩ ⟨hc.1, by simp [hlt]⟩ (fun b' e' => .inl e') fun b' _ hne => ho b' (fun e' => hne (by subst e'; rfl))
/-- A new key, an integer, is put into a map that is known. -/
theorem y_insert {t kt et : TypeId} {i i' : TI} {u x y : Operand} {b : Nat} {es : List MapEntry} {c : Nat} {k : IntKind} {z : Int} {v : Value} (hX : Sym n D L B w0 H a w) (hop : o.op = .insert t u x y) (ho : o.guard = none ∧ o.dst = none)
    (hT : TabOk P T) (h1 : T.lookup t = some i) (h2 : i.desc = .map kt et) (h3 : T.lookup kt = some i') (h4 : i'.desc = .int k) (hu : ev L u = some (.map (some b))) (hx : ev L x = some (.int k z)) (hy : ev L y = some v)
    (hf : Foc H (.obj b (.map es.toArray c)) K) (hn : Instr.findNow (.int k) (.int k z) es 0 = some none)
    (h : ∀ a' w', Sym n D L B w0 (K (.obj b (.map (es ++ [MapEntry.mk (.int k z) v c]).toArray (c + 1)))) a' w' → KK a' w') : XO P ops o KK a w := by
  have e1 := (hT _ _ h1).1
  rw [h2] at e1
  have e3 := (hT _ _ h3).1
  rw [h4] at e3
  have hb := (hX.sh.ok _ hf.mem).2
  refine y_skip hX ho (w' := { w with heap := w.heap.setIfInBounds b (.map (es ++ [MapEntry.mk (.int k z) v c]).toArray (c + 1)) }) ?_ (hX.sh.setO hf) h
  have : (Instr.mapUpdate t (.map (some b)) (.int k z) v).run P w = .ok () { w with heap := w.heap.setIfInBounds b (.map (es ++ [MapEntry.mk (.int k z) v c]).toArray (c + 1)) } := by
    unfold Instr.mapUpdate
    rw [show (10000 : Nat) = 9999 + 1 from rfl]
    simp only [Sem.run_bind, run_underlying e1, Result.andThen_ok, MapKept.run_getObj_map hb, run_checkKey_int e3]
    simp only [Instr.findKey, Sem.run_bind, run_underlying e3, Result.andThen_ok, hn, Sem.run_pure, MapKept.run_setObj_map _ hb]
    simp
  simp [execOp, hop, hX.ev hu, hX.ev hx, hX.ev hy, this]
/-- A key is looked up in a map that is known. -/
theorem v_lookup {t kt et : TypeId} {i i' i'' : TI} {u x : Operand} {b : Nat} {es : List MapEntry} {c : Nat} {k : IntKind} {z : Int} {res : Option (Nat × Value)} (hS : St n D L a) (hop : o.op = .lookup t u x true)
    (hT : TabOk P T) (h1 : T.lookup t = some i) (h2 : i.desc = .map kt et) (h3 : T.lookup kt = some i') (h4 : i'.desc = .int k) (h5 : T.lookup et = some i'') (hu : ev L u = some (.map (some b))) (hx : ev L x = some (.int k z))
    (hf : Foc H (.obj b (.map es.toArray c)) K) (hn : Instr.findNow (.int k) (.int k z) es 0 = some res) (w : World) (hH : SH B w0 H w) :
    (execOp a.eval o).run P w = .ok (.value (.tuple #[(res.map (·.2)).getD i''.zero, .bool res.isSome])) w := by
  have e1 := (hT _ _ h1).1
  rw [h2] at e1
  have e3 := (hT _ _ h3).1
  rw [h4] at e3
  have e5 := TI.run_zero (hT _ _ h5) w
  have hb := (hH.ok _ hf.mem).2
  have : (Instr.lookup t (.map (some b)) (.int k z) true).run P w = .ok (.tuple #[(res.map (·.2)).getD i''.zero, .bool res.isSome]) w := by
    unfold Instr.lookup
    rw [show (10000 : Nat) = 9999 + 1 from rfl]
    simp only [Sem.run_bind, run_underlying e1, Result.andThen_ok, MapKept.run_getObj_map hb, run_checkKey_int e3, Sem.run_pure]
    simp only [Instr.findKey, Sem.run_bind, run_underlying e3, Result.andThen_ok, hn, Sem.run_pure]
    cases res with
    | none => simp [e5]
    | some p => simp
  simp [execOp, hop, hS.ev hu, hS.ev hx, this]
/-- Structs are put together. -/
def places (T : List (TypeId × TI)) : List Field → Option (List (Nat × Nat))
  | [] => some []
  | f :: fs => match T.lookup f.type, places T fs with
    | some i, some l => some ((f.offset, i.size) :: l)
    | _, _ => none
theorem places_run {P : Program} {T : List (TypeId × TI)} (hT : TabOk P T) (w : World) : ∀ (fs : List Field) (l : List (Nat × Nat)), places T fs = some l →
    (fs.mapM fun f => Prod.mk f.offset <$> sizeOf f.type : Sem (List (Nat × Nat))).run P w = .ok l w := by
  intro fs
  induction fs with
  | nil => intro l h; cases h; simp
  | cons f fs ih =>
    intro l h
    unfold places at h
    cases h1 : T.lookup f.type with
    | none => rw [h1] at h; cases h
    | some i =>
      cases h2 : places T fs with
      | none => rw [h1, h2] at h; cases h
      | some l' =>
        rw [h1, h2] at h
        cases h
        have := ih l' h2
        simp [TI.run_sizeOf (hT _ _ h1), this]
theorem p_build {t : TypeId} {i : TI} {fs : List Field} {pl : List (Nat × Nat)} {z : List Value} {ps : List (Nat × Operand)} {vs : List (Nat × Value)} {cs : Array Value} (hS : St n D L a) (hop : o.op = .build t ps.toArray)
    (hT : TabOk P T) (h1 : T.lookup t = some i) (h2 : i.desc = .struct fs.toArray) (h3 : places T fs = some pl) (hz : i.zero = .agg z.toArray) (hv : evp L ps = some vs)
    (hc : Instr.fill (fun k => pl[k]?) z.toArray vs = some cs) : PV P o a (.agg cs) := fun w => by
  have e1 := (hT _ _ h1).1
  rw [h2] at e1
  have e2 := TI.run_zero (hT _ _ h1) w
  rw [hz] at e2
  have e3 := places_run hT w fs pl h3
  have e4 := hS.evp hv
  have : (Instr.build t (vs.toArray)).run P w = .ok (.agg cs) w := by
    unfold Instr.build
    simp [e2, run_underlying e1, e3, Value.cells, hc]
  simp [execOp, hop, Function.comp_def, e4, this]
end
end Go.Proofs.YtcjpcmofajcadaaDoor

/- The rules: equality of bools, strings and structs. -/
namespace Go.Proofs.YtcjpcmofajcadaaDoor
open Go.RowKit
section
variable {P : Program} {o : Oper} {n : Nat} {D : List Deferred} {L : List (Nat × Value)} {a : Act} {T : List (TypeId × TI)}
theorem p_eql_b {u v : Operand} {t t' : TypeId} {i : TI} {x y : Bool} (hS : St n D L a) (hop : o.op = .binOp .eql t u v t') (hT : TabOk P T) (h1 : T.lookup t = some i) (h2 : i.desc = .bool) (hu : ev L u = some (.bool x)) (hv : ev L v = some (.bool y)) : PV P o a (.bool (x == y)) := fun w => by
  have e1 := (hT _ _ h1).1
  rw [h2] at e1
  have : (Op.equal t (.bool x) (.bool y)).run P w = .ok (x == y) w := run_equalIn_bool w 9999 t x y e1
  simp [execOp, hop, hS.ev hu, hS.ev hv, eqGuard, binOp, this]
theorem p_neq_b {u v : Operand} {t t' : TypeId} {i : TI} {x y : Bool} (hS : St n D L a) (hop : o.op = .binOp .neq t u v t') (hT : TabOk P T) (h1 : T.lookup t = some i) (h2 : i.desc = .bool) (hu : ev L u = some (.bool x)) (hv : ev L v = some (.bool y)) : PV P o a (.bool (x != y)) := fun w => by
  have e1 := (hT _ _ h1).1
  rw [h2] at e1
  have : (Op.equal t (.bool x) (.bool y)).run P w = .ok (x == y) w := run_equalIn_bool w 9999 t x y e1
  simp [execOp, hop, hS.ev hu, hS.ev hv, eqGuard, binOp, this, bne]
theorem p_eql_s {u v : Operand} {t t' : TypeId} {x y : ByteArray} (hS : St n D L a) (hop : o.op = .binOp .eql t u v t') (hu : ev L u = some (.string x)) (hv : ev L v = some (.string y)) : PV P o a (.bool (x.toList == y.toList)) := fun w => by
  simp [execOp, hop, hS.ev hu, hS.ev hv, eqGuard, binOp, Op.stringOp]
theorem p_neq_s {u v : Operand} {t t' : TypeId} {x y : ByteArray} (hS : St n D L a) (hop : o.op = .binOp .neq t u v t') (hu : ev L u = some (.string x)) (hv : ev L v = some (.string y)) : PV P o a (.bool (!(x.toList == y.toList))) := fun w => by
  simp [execOp, hop, hS.ev hu, hS.ev hv, eqGuard, binOp, Op.stringOp]
theorem p_eql_a {u v : Operand} {t t' : TypeId} {x y : Array Value} {r : Bool} (hS : St n D L a) (hop : o.op = .binOp .eql t u v t') (hu : ev L u = some (.agg x)) (hv : ev L v = some (.agg y)) (hm : P.eqGuardType P.depth t = false)
    (he : ∀ w, (Op.equalIn 10000 t (.agg x) (.agg y)).run P w = .ok r w) : PV P o a (.bool r) := fun w => by
  simp [execOp, hop, hS.ev hu, hS.ev hv, run_eqGuard_agg w .eql t u v x y hm, run_eql_struct, he w]
theorem p_neq_a {u v : Operand} {t t' : TypeId} {x y : Array Value} {r : Bool} (hS : St n D L a) (hop : o.op = .binOp .neq t u v t') (hu : ev L u = some (.agg x)) (hv : ev L v = some (.agg y)) (hm : P.eqGuardType P.depth t = false)
    (he : ∀ w, (Op.equalIn 10000 t (.agg x) (.agg y)).run P w = .ok r w) : PV P o a (.bool (!r)) := fun w => by
  simp [execOp, hop, hS.ev hu, hS.ev hv, run_eqGuard_agg w .neq t u v x y hm, run_neq_struct, he w]
end
end Go.Proofs.YtcjpcmofajcadaaDoor
namespace Go.Proofs.YtcjpcmofajcadaaDoor
theorem eq_struct {P : Program} (w : World) (d : Nat) (t : TypeId) (xs ys : Array Value) {fs : List Field} (h : P.underlying t = some (.struct fs.toArray)) (hp : P.stoodInHeld t = false) :
    (Op.equalIn (d + 1) t (.agg xs) (.agg ys)).run P w = (Op.eqFields d xs ys fs).run P w := by
  have hf : P.fieldsOf t = fs.toArray := by simp [Program.fieldsOf, h]
  rw [run_equalIn_struct w d t xs ys (by rw [hf]; exact h) hp, hf]
end Go.Proofs.YtcjpcmofajcadaaDoor

/- The rules: slices: building, appending, making, copying, cutting. -/
namespace Go.Proofs.YtcjpcmofajcadaaDoor
open Go.RowKit

/-! ### The memory behind a row -/
section
variable {w : World} {B : Nat → Prop} {e : TypeId} {size n c : Nat} {A : Option Addr} {xs : List Value}
theorem setCells_row (g : Nat) (e : TypeId) (fr : Nat × Nat) : ∀ (vs : List Value) (o : Nat) (w : World) (cur : Array Value), w.heap[g]? = some (.cells cur e fr) → o + vs.length ≤ cur.size →
    w.setCells g o vs = w.setRow g (cur.toList.take o ++ vs ++ cur.toList.drop (o + vs.length)).toArray
  | [], o, w, cur, hg, _ => by
    simp only [World.setCells, List.append_nil, List.length_nil, Nat.add_zero, List.take_append_drop, Array.toArray_toList]
    exact (setRow_self w g cur e fr hg).symm
  | v :: vs, o, w, cur, hg, hl => by
    simp only [List.length_cons] at hl
    have h1 : w.setCell ⟨g, o, none⟩ v = w.setRow g (cur.setIfInBounds o v) := by
      unfold World.setCell World.setRow
      congr 1
      apply Array.ext
      · simp
      · intro i h1 h2
        simp only [Array.getElem_modify]
        split
        · rename_i hi
          subst hi
          rw [(Array.getElem?_eq_some_iff.1 hg).2]
          simp
        · rfl
    have h2 := setRow_heap w g cur (cur.setIfInBounds o v) e fr hg
    rw [World.setCells, h1, setCells_row g e fr vs (o + 1) _ _ h2 (by simp; omega), setRow_setRow]
    congr 1
    apply congrArg List.toArray
    rw [Array.toList_setIfInBounds, List.take_succ_eq_append_getElem (by simp; omega)]
    simp only [List.getElem_set_self, List.append_assoc, List.length_cons]
    rw [List.take_set_of_le (by omega), List.drop_set_of_lt (by omega)]
    simp [Nat.add_comm, Nat.add_left_comm]
theorem Owns.cells (h : Owns w B e size A c n xs) {g : Nat} (hA : A = some ⟨g, 0, none⟩) (j : Nat) (hj : j < n * size) : w.cell? ⟨g, j, none⟩ = xs[j]? := by
  rcases h.2 with ⟨h1, _⟩ | ⟨g', cur, fr, h1, _, hh, _, _, _, _, ht⟩
  · rw [hA] at h1; cases h1
  · rw [hA] at h1
    have : g = g' := by injection h1 with h1; injection h1
    subst this
    rw [← ht, List.getElem?_take, if_pos hj]
    simp [World.cell?, hh]
theorem Owns.le (h : Owns w B e size A c n xs) : n ≤ c ∧ c ≤ maxLen := by
  rcases h.2 with ⟨_, h1, h2⟩ | ⟨g', cur, fr, h1, _, hh, _, h1, h2, _, ht⟩
  · subst h1; subst h2; exact ⟨Nat.le_refl _, Nat.zero_le _⟩
  · exact ⟨h1, h2⟩
end

section
variable {P : Program} {w : World}
/-- append onto a row of the call's own. -/
theorem run_append_row {B : Nat → Prop} {t ty e : TypeId} {i : TI} (ht : P.underlying t = some (.slice e)) (hi : TI.ok P e i) (hsz : 0 < i.size) (hzs : i.zero.cells.size = i.size)
    {A : Option Addr} {c n : Nat} {xs : List Value} (hown : Owns w B e i.size A c n xs)
    {b : Nat} {p m cc : Nat} {news : List Value} (hl : news.length = m * i.size) (hnews : ∀ j u, news[j]? = some u → w.cell? ⟨b, p + j, none⟩ = some u) (h1 : ∀ u ∈ news, u.oneCell' = true)
    (hbytes : (n + m) * i.bytes ≤ 140737488355328) (hm : n + m ≤ 140737488355328) (hbase : ¬ B w.heap.size) :
    ∃ A' c' w', (Builtin.append_ #[t, t] ty #[.slice A n c, .slice (some ⟨b, p, none⟩) m cc]).run P w = .ok (.slice A' (n + m) c') w' ∧ Owns w' B e i.size A' c' (n + m) (xs ++ news) ∧
      w'.os = w.os ∧ w'.tape = w.tape ∧ w'.output = w.output ∧ w.heap.size ≤ w'.heap.size ∧
      (∀ k, k < w.heap.size → A.map (·.block) ≠ some k → w'.heap[k]? = w.heap[k]?) ∧ (∀ k, A'.map (·.block) = some k → A.map (·.block) = some k ∨ w.heap.size ≤ k) ∧ (n + m ≤ c → c' = c) := by
  obtain ⟨inf, hinf, hs1, hs2, hs3⟩ := TI.info hi
  have hlen : (xs ++ news).length = (n + m) * i.size := by rw [List.length_append, hown.1, hl, Nat.add_mul]
  have hnews' : ∀ j v, news[j]? = some v → w.cell? ((⟨b, p, none⟩ : Addr).add j) = some v := fun j v hj => by rw [Addr.add_lit]; exact hnews j v hj
  have h63 : n + m ≤ maxLen := by simp only [maxLen]; omega
  have grown : ∀ (old : Nat), old < n + m →
      Owns (w.drew.alloc (.cells (xs.toArray ++ news.toArray ++ Builtin.zeroCells i.zero.cells (grownCap w (n + m) old e - (n + m))) e)) B e i.size (some ⟨w.heap.size, 0, none⟩) (grownCap w (n + m) old e) (n + m) (xs ++ news) := by
    intro old _
    have hge := grownCap_ge w (n + m) old e
    have hcm : grownCap w (n + m) old e ≤ maxLen := grownCap_le_maxLen w (n + m) old e h63
    refine ⟨hlen, .inr ⟨w.heap.size, _, (0, 0), rfl, hbase, heap_alloc_new w.drew _, .inl rfl, hge, hcm, ?_, ?_⟩⟩
    · simp only [Array.size_append, List.size_toArray, size_zeroCells, hzs, hown.1, hl, ← Nat.add_mul]
      congr 1
      omega
    · simp only [Array.toList_append, List.append_assoc]
      rw [← List.append_assoc, ← hlen]
      exact List.take_left
  have blk : ∀ o k, k < w.heap.size → (w.drew.alloc o).heap[k]? = w.heap[k]? := fun o k hk => Below.heap_alloc w.drew o k hk
  rcases hown.2 with ⟨rfl, rfl, rfl⟩ | ⟨g, cur, fr, rfl, hbg, hg, hfr, hnc, hcm, hcs, htake⟩
  · have hx : xs = [] := List.eq_nil_of_length_eq_zero (by simpa using hown.1)
    subst hx
    by_cases hm0 : m = 0
    · subst hm0
      have hn : news = [] := List.eq_nil_of_length_eq_zero (by simpa using hl)
      subst hn
      refine ⟨none, 0, w, ?_, by simpa using hown, rfl, rfl, rfl, Nat.le_refl _, fun _ _ _ => rfl, (fun k h => by cases h), fun _ => rfl⟩
      simp [Builtin.append_, run_underlying ht, sizeOf, typeInfo, hinf, Builtin.lenOf, Builtin.firstCells, loadCells, loadCellsFrom]
    · have hr := run_append_nil (P := P) w t ty e inf i.zero ht hinf hs3 ⟨b, p, none⟩ m cc news (by rw [hl, hs1]) hnews' (by omega) (by omega) (by rw [hs2]; have := hbytes; simp only [Nat.zero_add] at this; omega)
      have hgr := grown 0 (by omega)
      simp only [Nat.zero_add, List.nil_append, Array.empty_append] at hgr ⊢
      exact ⟨_, _, _, hr, hgr, rfl, rfl, rfl, by simp, fun k hk _ => blk _ k hk, fun k hk => .inr (by simp at hk; omega), fun hc => by omega⟩
  · have holds : ∀ j u, xs[j]? = some u → w.cell? ((⟨g, 0, none⟩ : Addr).add j) = some u := fun j u hu => by
      rw [Addr.add_lit, Nat.zero_add]
      have hj : j < n * i.size := by have := (List.getElem?_eq_some_iff.1 hu).1; rw [hown.1] at this; exact this
      rw [hown.cells rfl j hj]
      exact hu
    by_cases hroom : n + m ≤ c
    · have hfit : n * i.size + news.length ≤ cur.size := by rw [hl, hcs, ← Nat.add_mul]; exact Nat.mul_le_mul_right _ hroom
      have hf := run_firstCells_some (P := P) w i.size m ⟨b, p, none⟩ m cc news hl hnews'
      have hst := run_storeCells_cells (P := P) g (n * i.size) news 0 w (fun j hj => by
          simp only [World.cell?, hg]
          simp; omega) (fun j hj => by
          simp only [World.frozen?, hg]
          rcases hfr with h | h
          · simp; omega
          · simp; omega) h1
      rw [Nat.add_zero, setCells_row g e fr news _ w cur hg hfit] at hst
      have hrun : (Builtin.append_ #[t, t] ty #[.slice (some ⟨g, 0, none⟩) n c, .slice (some ⟨b, p, none⟩) m cc]).run P w =
          .ok (.slice (some ⟨g, 0, none⟩) (n + m) c) (w.setRow g (cur.toList.take (n * i.size) ++ news ++ cur.toList.drop (n * i.size + news.length)).toArray) := by
        simp [Builtin.append_, run_underlying ht, sizeOf, typeInfo, hinf, hs1, Builtin.lenOf, hroom, hf, Addr.add_lit, hst]
      refine ⟨some ⟨g, 0, none⟩, c, _, hrun, ⟨hlen, .inr ⟨g, _, fr, rfl, hbg, setRow_heap w g cur _ e _ hg, ?_, hroom, hcm, ?_, ?_⟩⟩, rfl, rfl, rfl, by simp, fun k _ hk => setRow_other w g k _ (fun e' => hk (by simp [e'])), fun k hk => .inl hk, fun _ => rfl⟩
      · rcases hfr with h | h
        · exact .inl h
        · exact .inr (by simp; omega)
      · simp only [List.size_toArray, List.length_append, List.length_take, List.length_drop, Array.length_toList]
        omega
      · rw [htake, ← hlen]
        exact List.take_left
    · have hr := run_append_grow (P := P) w t ty e inf i.zero ht hinf hs3 ⟨g, 0, none⟩ n c xs (by rw [hown.1, hs1]) holds ⟨b, p, none⟩ m cc news (by rw [hl, hs1]) hnews' (by omega) (by omega) (growslice_fits (by omega) (by rw [hs2]; exact hbytes))
      exact ⟨_, _, _, hr, grown c (by omega), rfl, rfl, rfl, by simp, fun k hk _ => blk _ k hk, fun k hk => .inr (by simp at hk; omega), fun hc => absurd hc hroom⟩
end
end Go.Proofs.YtcjpcmofajcadaaDoor

namespace Go.Proofs.YtcjpcmofajcadaaDoor
open Go.RowKit
/-- A slice reads as these cells; nil is let in. -/
def Reads (w : World) (A : Option Addr) (m size : Nat) (news : List Value) : Prop :=
  news.length = m * size ∧ (0 < m → ∃ b p, A = some ⟨b, p, none⟩ ∧ ∀ j u, news[j]? = some u → w.cell? ⟨b, p + j, none⟩ = some u)
/-- The address of a slice that is cut at its beginning. -/
def cutA (A : Option Addr) (l size m : Nat) : Option Addr := if m = l then A else A.map (·.add (l * size))
theorem Reads.nil (w : World) (A : Option Addr) (size : Nat) : Reads w A 0 size [] := ⟨by simp, fun h => absurd h (by omega)⟩
theorem Reads.keep {w w' : World} {A : Option Addr} {m size : Nat} {news : List Value} (h : Reads w A m size news) (hk : ∀ b p v, w.cell? ⟨b, p, none⟩ = some v → w'.cell? ⟨b, p, none⟩ = some v) : Reads w' A m size news :=
  ⟨h.1, fun hm => by obtain ⟨b, p, e, hc⟩ := h.2 hm; exact ⟨b, p, e, fun j u hu => hk _ _ _ (hc j u hu)⟩⟩
theorem Reads.below {w w' : World} {A : Option Addr} {m size : Nat} {news : List Value} (h : Reads w A m size news) (hb : Below w.heap.size w w') : Reads w' A m size news :=
  h.keep fun b p v hv => (hb.cell (p := ⟨b, p, none⟩) (World.block_lt_of_cell? w _ hv)).trans hv
theorem Reads.cut {w : World} {A : Option Addr} {m size l h c : Nat} {news : List Value} (hr : Reads w A m size news) (hl : l ≤ h) (hh : h ≤ m) (hc : h ≤ c) :
    Reads w (cutA A l size c) (h - l) size ((news.drop (l * size)).take ((h - l) * size)) := by
  have hsz : h * size ≤ m * size := Nat.mul_le_mul_right _ hh
  have hsl : l * size ≤ h * size := Nat.mul_le_mul_right _ hl
  refine ⟨by rw [List.length_take, List.length_drop, hr.1, Nat.sub_mul]; omega, fun hp => ?_⟩
  obtain ⟨b, p, rfl, hcell⟩ := hr.2 (by omega)
  refine ⟨b, p + l * size, ?_, fun j u hu => ?_⟩
  · unfold cutA
    rw [if_neg (by omega)]
    simp [Addr.add_lit]
  · rw [List.getElem?_take] at hu
    split at hu
    · rw [List.getElem?_drop] at hu
      have := hcell _ u hu
      rw [Nat.add_assoc]
      exact this
    · cases hu
section
variable {w w0 : World} {B : Nat → Prop} {H : List Ck} {K : Ck → List Ck}
theorem Reads.row (hH : SH B w0 H w) {A : Option Addr} {c : Nat} {e : TypeId} {size n : Nat} {xs : List Value} (hf : Foc H (.row A c e size n xs) K) : Reads w A n size xs := by
  have ho : Owns w B e size A c n xs := hH.ok _ hf.mem
  refine ⟨ho.1, fun hn => ?_⟩
  rcases ho.2 with ⟨_, h1, _⟩ | ⟨g, cur, fr, h1, _⟩
  · omega
  · refine ⟨g, 0, h1, fun j u hu => ?_⟩
    rw [Nat.zero_add, ho.cells h1 j (by have := (List.getElem?_eq_some_iff.1 hu).1; rw [ho.1] at this; exact this)]
    exact hu
theorem Reads.cel (hH : SH B w0 H w) {b : Nat} {e : TypeId} {cs : List Value} (hf : Foc H (.cel b cs e) K) (m size : Nat) (hl : cs.length = m * size) : Reads w (some ⟨b, 0, none⟩) m size cs :=
  ⟨hl, fun _ => ⟨b, 0, rfl, fun j u hu => by rw [Nat.zero_add, cel_cell hH hf]; exact hu⟩⟩
theorem Reads.old {w0 w : World} {H : List Ck} (hH : SF w0 H w) {A : Option Addr} {m size : Nat} {xs : List Value} (hr : Reads w0 A m size xs) : Reads w A m size xs := hr.below hH.below.to_below
/-- What is read in memory that is held fast. -/
theorem Reads.held {B : Nat → Prop} {w0 w : World} {H : List Ck} (hH : SH B w0 H w) {b p m size : Nat} {xs : List Value} (hr : Reads w0 (some ⟨b, p, none⟩) m size xs) (hB : B b) : Reads w (some ⟨b, p, none⟩) m size xs :=
  ⟨hr.1, fun hm => by
    obtain ⟨b', p', e, hc⟩ := hr.2 hm
    have : b = b' ∧ p = p' := by injection e with e; injection e with e1 e2; exact ⟨e1, e2⟩
    obtain ⟨rfl, rfl⟩ := this
    exact ⟨b, p, rfl, fun j u hu => (hH.below.cell (p := ⟨b, p + j, none⟩) hB).trans (hc j u hu)⟩⟩
/-- A nil slice is a row to which can be appended. -/
theorem SH.nilRow (hH : SH B w0 H w) (e : TypeId) (size : Nat) : SH B w0 (.row none 0 e size 0 [] :: H) w :=
  ⟨hH.below, hH.base, fun c hc => by
    rcases List.mem_cons.1 hc with rfl | hc
    · exact ⟨by simp, .inl ⟨rfl, rfl, rfl⟩⟩
    · exact hH.ok c hc, List.Pairwise.cons (fun c hc b e => by cases e) hH.apart⟩
end
section
variable {P : Program} {ops : Array Oper} {o : Oper} {KK : Act → World → Prop}
variable {n : Nat} {D : List Deferred} {L : List (Nat × Value)} {B : Nat → Prop} {w0 : World} {H : List Ck} {a : Act} {w : World}
variable {T : List (TypeId × TI)} {d : Nat} {K : Ck → List Ck}
theorem y_appendC {s x : Operand} {t e : TypeId} {i i' : TI} {A A2 : Option Addr} {c k m cc : Nat} {xs news : List Value} (hX : Sym n D L B w0 H a w)
    (hop : o.op = .call { callee := .builtin .append, args := #[s, x], argTypes := #[t, t] }) (ho : o.guard = none ∧ o.dst = some d) (hd : Nat.blt d n = true)
    (hT : TabOk P T) (h1 : T.lookup t = some i) (h2 : i.desc = .slice e) (h3 : T.lookup e = some i') (h4 : Nat.blt 0 i'.size = true) (h5 : i'.zero.cells.size = i'.size) (hs : ev L s = some (.slice A k c)) (hx : ev L x = some (.slice A2 m cc))
    (hf : Foc H (.row A c e i'.size k xs) K) (hr : Reads w A2 m i'.size news) (hone : ∀ u ∈ news, u.oneCell' = true) (hb1 : (k + m) * i'.bytes ≤ 140737488355328) (hb2 : k + m ≤ 140737488355328)
    (h : ∀ A' c' a' w', (k + m ≤ c → c' = c) → Sym n D ((d, .slice A' (k + m) c') :: L) B w0 (K (.row A' c' e i'.size (k + m) (xs ++ news))) a' w' → KK a' w') : XO P ops o KK a w := by
  have e1 := (hT _ _ h1).1
  rw [h2] at e1
  have e3 := hT _ _ h3
  have hown : Owns w B e i'.size A c k xs := hX.sh.ok _ hf.mem
  by_cases hm : m = 0
  · subst hm
    have hn : news = [] := List.eq_nil_of_length_eq_zero (by simpa using hr.1)
    subst hn
    have hrun : (execOp a.eval o).run P w = .ok (.value (.slice A (k + 0) c)) w := by
      have hle := hown.le.1
      have hrun' : (Builtin.append_ #[t, t] o.type #[.slice A k c, .slice A2 0 cc]).run P w = .ok (.slice A k c) w := by
        have e4 := TI.run_sizeOf e3 w
        have hfc : (Builtin.firstCells i'.size 0 (.slice A2 0 cc)).run P w = .ok #[] w := by
          cases A2 <;> simp [Builtin.firstCells, loadCells, loadCellsFrom]
        simp only [Builtin.append_, Sem.run_bind, run_underlying e1, Result.andThen_ok, e4]
        simp [run_underlying e1, Builtin.lenOf, hle, hfc]
        cases A <;> simp [storeCells, e4, hfc]
      simp [execOp, hop, resolve, invoke, builtin, hX.ev hs, hX.ev hx, hrun']
    refine y_value hX ho hd hrun ?_ (fun a' w' => h A c a' w' fun _ => rfl)
    have := hX.sh
    obtain ⟨X, Y, rfl, rfl⟩ := hf
    simpa using this
  · obtain ⟨b, p, rfl, hc⟩ := hr.2 (by omega)
    obtain ⟨A', c', w', hrun, hown', ho1, ho2, ho3, hsz, hkeep, hat, hroom⟩ := run_append_row (P := P) (ty := o.type) e1 e3 (lt_of_blt h4) h5 hown (cc := cc) hr.1 hc hone hb1 hb2 hX.sh.fresh
    refine y_value hX ho hd (w' := w') (v := .slice A' (k + m) c') (by simp [execOp, hop, resolve, invoke, builtin, hX.ev hs, hX.ev hx, hrun]) ?_ (fun a' w' => h A' c' a' w' hroom)
    exact hX.sh.turn hf ⟨ho1, ho2, ho3, hsz, fun q hq => hkeep q (hX.sh.base q hq) (fun e' => (Ck.ok.lt (c := .row A c e i'.size k xs) hown e').1 hq)⟩ hown' hat hkeep
theorem y_append {s x : Operand} {t e : TypeId} {i i' : TI} {A A2 : Option Addr} {c k m cc : Nat} {xs news : List Value} (hX : Sym n D L B w0 H a w)
    (hop : o.op = .call { callee := .builtin .append, args := #[s, x], argTypes := #[t, t] }) (ho : o.guard = none ∧ o.dst = some d) (hd : Nat.blt d n = true)
    (hT : TabOk P T) (h1 : T.lookup t = some i) (h2 : i.desc = .slice e) (h3 : T.lookup e = some i') (h4 : Nat.blt 0 i'.size = true) (h5 : i'.zero.cells.size = i'.size) (hs : ev L s = some (.slice A k c)) (hx : ev L x = some (.slice A2 m cc))
    (hf : Foc H (.row A c e i'.size k xs) K) (hr : Reads w A2 m i'.size news) (hone : ∀ u ∈ news, u.oneCell' = true) (hb1 : (k + m) * i'.bytes ≤ 140737488355328) (hb2 : k + m ≤ 140737488355328)
    (h : ∀ A' c' a' w', Sym n D ((d, .slice A' (k + m) c') :: L) B w0 (K (.row A' c' e i'.size (k + m) (xs ++ news))) a' w' → KK a' w') : XO P ops o KK a w :=
  y_appendC hX hop ho hd hT h1 h2 h3 h4 h5 hs hx hf hr hone hb1 hb2 fun A' c' a' w' _ => h A' c' a' w'
/-- append of a few values that were put together for it. -/
theorem y_append_cel {s x : Operand} {t e e' : TypeId} {i i' : TI} {A : Option Addr} {c k m cc b : Nat} {xs news : List Value} {K' : Ck → List Ck} (hX : Sym n D L B w0 H a w)
    (hop : o.op = .call { callee := .builtin .append, args := #[s, x], argTypes := #[t, t] }) (ho : o.guard = none ∧ o.dst = some d) (hd : Nat.blt d n = true)
    (hT : TabOk P T) (h1 : T.lookup t = some i) (h2 : i.desc = .slice e) (h3 : T.lookup e = some i') (h4 : Nat.blt 0 i'.size = true) (h5 : i'.zero.cells.size = i'.size) (hs : ev L s = some (.slice A k c)) (hx : ev L x = some (.slice (some ⟨b, 0, none⟩) m cc))
    (hf : Foc H (.row A c e i'.size k xs) K) (hf' : Foc H (.cel b news e') K') (hl : news.length = m * i'.size) (hone : news.all (·.oneCell') = true) (hb1 : (k + m) * i'.bytes ≤ 140737488355328) (hb2 : k + m ≤ 140737488355328)
    (h : ∀ A' c' a' w', Sym n D ((d, .slice A' (k + m) c') :: L) B w0 (K (.row A' c' e i'.size (k + m) (xs ++ news))) a' w' → KK a' w') : XO P ops o KK a w :=
  y_append hX hop ho hd hT h1 h2 h3 h4 h5 hs hx hf (Reads.cel hX.sh hf' m i'.size hl) (by simpa using hone) hb1 hb2 h

/-! ### Slices put together out of values -/
theorem fill_ones : ∀ (vs : List Value) (done : List Value) (zs : List Value), (∀ v ∈ vs, v.oneCell' = true) → zs.length = vs.length →
    Instr.fill (fun i => some (i * 1, 1)) (done ++ zs).toArray ((vs.zipIdx done.length).map fun p => (p.2, p.1)) = some (done ++ vs).toArray
  | [], done, zs, _, hl => by
    have : zs = [] := List.eq_nil_of_length_eq_zero hl
    subst this; simp [Instr.fill]
  | v :: vs, done, zs, hv, hl => by
    match zs, hl with
    | z :: zs, hl =>
      have hvc : v.cells = #[v] := by
        have := hv v (by simp)
        cases v <;> first | rfl | (simp [Value.oneCell'] at this)
      have ih := fill_ones vs (done ++ [v]) zs (fun u hu => hv u (List.mem_cons_of_mem _ hu)) (by simpa using hl)
      simp only [List.zipIdx_cons, List.map_cons, Instr.fill]
      rw [hvc]
      simp only [List.length_append, List.length_cons, List.length_nil, Nat.zero_add] at ih
      simp
      have e : (done ++ z :: zs).set done.length v = done ++ v :: zs := by simp
      simpa [e] using ih
theorem y_buildSlice {t e : TypeId} {i i' : TI} {xs : List Operand} {vs : List Value} {N : Nat} {ps : List (Nat × Operand)} (hX : Sym n D L B w0 H a w) (hop : o.op = .buildSlice t N ps.toArray) (ho : o.guard = none ∧ o.dst = some d) (hd : Nat.blt d n = true)
    (hT : TabOk P T) (h1 : T.lookup t = some i) (h2 : i.desc = .slice e) (h3 : T.lookup e = some i') (h4 : i'.size = 1) (h5 : i'.zero.oneCell' = true) (hps : ps = xs.zipIdx.map fun p => (p.2, p.1)) (hv : evs L xs = some vs) (hN : vs.length = N) (hN' : Nat.ble N 16777216 = true) (hone : vs.all (·.oneCell') = true)
    (h : ∀ b a' w', Sym n D ((d, .slice (some ⟨b, 0, none⟩) N N) :: L) B w0 (.cel b vs e :: H) a' w' → KK a' w') : XO P ops o KK a w := by
  have e1 := (hT _ _ h1).1
  rw [h2] at e1
  have e3 := hT _ _ h3
  have hzc : i'.zero.cells = #[i'.zero] := by cases hz : i'.zero <;> first | rfl | (rw [hz] at h5; simp [Value.oneCell'] at h5)
  have hvs := hX.st.evs hv
  have hone' : ∀ v ∈ vs, v.oneCell' = true := by simpa using hone
  have hpv : (ps.map fun p => (p.1, a.eval p.2)) = (vs.zipIdx).map fun p => (p.2, p.1) := by
    subst hps
    rw [← hvs]
    have : ∀ (xs : List Operand) (k : Nat), ((xs.zipIdx k).map fun p => (p.2, p.1)).map (fun p => (p.1, a.eval p.2)) = ((xs.map a.eval).zipIdx k).map fun p => (p.2, p.1) := by
      intro xs
      induction xs with
      | nil => intro k; rfl
      | cons x xs ih => intro k; simp only [List.zipIdx_cons, List.map_cons, List.map_cons, ih]
    exact this xs 0
  have hle : N ≤ 16777216 := Nat.le_of_ble_eq_true hN'
  have hrun : (Instr.buildSlice t N (ps.toArray.map fun p => (p.1, a.eval p.2))).run P w = .ok (.slice (some ⟨w.heap.size, 0, none⟩) N N) (w.alloc (.cells vs.toArray e)) := by
    unfold Instr.buildSlice
    have hfill : Instr.fill (fun i => some (i * 1, 1)) (List.replicate N i'.zero).toArray (vs.zipIdx.map fun p => (p.2, p.1)) = some vs.toArray := by
      have := fill_ones vs [] (List.replicate N i'.zero) hone' (by simp [hN])
      simpa using this
    have hz1 : (Array.range N).map (fun j => [i'.zero][j % 1]?.getD default) = (List.replicate N i'.zero).toArray := by
      apply Array.ext
      · simp
      · intro j h1 h2
        simp [Nat.mod_one]
    simp only [Sem.run_bind, run_underlying e1, Result.andThen_ok, TI.run_sizeOf e3, h4]
    rw [if_neg (by omega)]
    by_cases h0 : N = 0
    · subst h0
      have : vs = [] := List.eq_nil_of_length_eq_zero hN
      subst this
      have hps0 : ps = [] := by
        have := congrArg List.length hpv
        simp at this
        exact this
      subst hps0
      simp [Instr.fill, newRow, newObj, Sem.run]
      rw [show Array.range 0 = #[] from rfl]
      simp
    · have hm : (List.map (fun p => (p.1, a.eval p.2)) ps) = (vs.zipIdx).map fun p => (p.2, p.1) := hpv
      simp only [Nat.mul_one, h0, if_false, Sem.run_bind, TI.run_zero e3, Result.andThen_ok, Sem.run_pure, hzc, List.map_toArray, hm]
      simp only [Nat.mul_one, List.toArray_replicate] at hfill
      simp [hz1, hfill, newRow, newObj, Sem.run]
  refine y_value hX ho hd (v := .slice (some ⟨w.heap.size, 0, none⟩) N N) (w' := w.alloc (.cells vs.toArray e)) ?_ (hX.sh.allocC vs e) (h w.heap.size)
  simp only [execOp, hop, Sem.run_bind, hrun, Result.andThen_ok, Sem.run_pure]
end
end Go.Proofs.YtcjpcmofajcadaaDoor

/- The rules: slices: cutting, making, copying. -/
namespace Go.Proofs.YtcjpcmofajcadaaDoor
open Go.RowKit
section
variable {P : Program} {ops : Array Oper} {o : Oper} {KK : Act → World → Prop}
variable {n : Nat} {D : List Deferred} {L : List (Nat × Value)} {B : Nat → Prop} {w0 : World} {H : List Ck} {a : Act} {w : World}
variable {T : List (TypeId × TI)} {d : Nat} {K : Ck → List Ck}
theorem p_sliceFrom {u x : Operand} {t e : TypeId} {i i' : TI} {A : Option Addr} {m c l : Nat} {k : IntKind} {z : Int} (hS : St n D L a) (hop : o.op = .slice t u (some x) none none)
    (hT : TabOk P T) (h1 : T.lookup t = some i) (h2 : i.desc = .slice e) (h3 : T.lookup e = some i') (hu : ev L u = some (.slice A m c)) (hx : ev L x = some (.int k z)) (hz : z = (l : Int)) (hl : l ≤ m) :
    PV P o a (.slice (cutA A l i'.size c) (m - l) (c - l)) := fun w => by
  subst hz
  have e1 := (hT _ _ h1).1
  rw [h2] at e1
  have hlz : (l : Int) ≤ (m : Int) := by omega
  simp [execOp, hop, hS.ev hu, hS.ev hx, Instr.sliceAt, Instr.slice, Instr.sliceBounds, Instr.sliceBound, asIntOf, run_underlying e1, TI.run_sizeOf (hT _ _ h3), hl, cutA]
theorem p_sliceTo {u x : Operand} {t e : TypeId} {i i' : TI} {A : Option Addr} {m c h : Nat} {k : IntKind} {z : Int} (hS : St n D L a) (hop : o.op = .slice t u none (some x) none)
    (hT : TabOk P T) (h1 : T.lookup t = some i) (h2 : i.desc = .slice e) (h3 : T.lookup e = some i') (hu : ev L u = some (.slice A m c)) (hx : ev L x = some (.int k z)) (hz : z = (h : Int)) (hl : h ≤ c) :
    PV P o a (.slice A h c) := fun w => by
  subst hz
  have e1 := (hT _ _ h1).1
  rw [h2] at e1
  simp [execOp, hop, hS.ev hu, hS.ev hx, Instr.sliceAt, Instr.slice, Instr.sliceBounds, Instr.sliceBound, asIntOf, run_underlying e1, TI.run_sizeOf (hT _ _ h3), hl]
  by_cases hc : c = 0
  · simp [hc]
  · cases A with
    | none => simp
    | some ad => simp [Addr.add]
theorem p_sliceMid {u x y : Operand} {t e : TypeId} {i i' : TI} {A : Option Addr} {m c l h : Nat} {k k' : IntKind} {z z' : Int} (hS : St n D L a) (hop : o.op = .slice t u (some x) (some y) none)
    (hT : TabOk P T) (h1 : T.lookup t = some i) (h2 : i.desc = .slice e) (h3 : T.lookup e = some i') (hu : ev L u = some (.slice A m c)) (hx : ev L x = some (.int k z)) (hy : ev L y = some (.int k' z')) (hz : z = (l : Int)) (hz' : z' = (h : Int)) (hl : l ≤ h) (hh : h ≤ c) :
    PV P o a (.slice (cutA A l i'.size c) (h - l) (c - l)) := fun w => by
  subst hz; subst hz'
  have e1 := (hT _ _ h1).1
  rw [h2] at e1
  simp [execOp, hop, hS.ev hu, hS.ev hx, hS.ev hy, Instr.sliceAt, Instr.slice, Instr.sliceBounds, Instr.sliceBound, asIntOf, run_underlying e1, TI.run_sizeOf (hT _ _ h3), hl, hh, cutA]
theorem p_slice3 {u x y v : Operand} {t e : TypeId} {i i' : TI} {A : Option Addr} {m c l h q : Nat} {k k' k'' : IntKind} {z z' z'' : Int} (hS : St n D L a) (hop : o.op = .slice t u (some x) (some y) (some v))
    (hT : TabOk P T) (h1 : T.lookup t = some i) (h2 : i.desc = .slice e) (h3 : T.lookup e = some i') (hu : ev L u = some (.slice A m c)) (hx : ev L x = some (.int k z)) (hy : ev L y = some (.int k' z')) (hv : ev L v = some (.int k'' z'')) (hz : z = (l : Int)) (hz' : z' = (h : Int)) (hz'' : z'' = (q : Int)) (hl : l ≤ h) (hh : h ≤ q) (hq : q ≤ c) :
    PV P o a (.slice (cutA A l i'.size q) (h - l) (q - l)) := fun w => by
  subst hz; subst hz'; subst hz''
  have e1 := (hT _ _ h1).1
  rw [h2] at e1
  simp [execOp, hop, hS.ev hu, hS.ev hx, hS.ev hy, hS.ev hv, Instr.sliceAt, Instr.slice, Instr.sliceBounds, Instr.sliceBound, asIntOf, run_underlying e1, TI.run_sizeOf (hT _ _ h3), hl, hh, hq, cutA]

/-- The cells of so many elements that are zero. -/
def zeros (z : List Value) (k : Nat) : List Value := (List.replicate k z).flatten
theorem zeros_length (z : List Value) (k : Nat) : (zeros z k).length = k * z.length := by simp [zeros]
theorem range_mod (z : List Value) (hz : 0 < z.length) : ∀ k : Nat, (Array.range (k * z.length)).map (fun j => z.toArray[j % z.toArray.size]!) = (zeros z k).toArray := by
  intro k
  apply Array.ext
  · simp [zeros]
  · intro j h1 h2
    simp only [Array.size_map, Array.size_range] at h1
    simp only [Array.getElem_map, Array.getElem_range, List.size_toArray]
    have hm := Nat.mod_lt j hz
    have hlen : j < (zeros z k).length := by rw [zeros_length]; exact h1
    have key : ∀ (k j : Nat), j < k * z.length → (zeros z k)[j]? = z[j % z.length]? := by
      intro k
      induction k with
      | zero => intro j hj; simp at hj
      | succ k ih =>
        intro j hj
        have : zeros z (k + 1) = z ++ zeros z k := by simp [zeros, List.replicate_succ]
        rw [this]
        by_cases hlt : j < z.length
        · rw [List.getElem?_append_left hlt, Nat.mod_eq_of_lt hlt]
        · rw [List.getElem?_append_right (by omega), ih (j - z.length) (by rw [Nat.add_mul] at hj; omega)]
          congr 1
          exact (Nat.mod_eq_sub_mod (by omega)).symm
    have h3 := key k j h1
    have h4 : (zeros z k)[j]? = some (zeros z k)[j] := List.getElem?_eq_getElem hlen
    rw [h4, List.getElem?_eq_getElem hm] at h3
    have h5 : (zeros z k).toArray[j] = (zeros z k)[j] := by simp
    rw [h5, Option.some.inj h3]
    simp [hm]
theorem y_makeSlice {x y : Operand} {t e : TypeId} {i i' : TI} {z : List Value} {m c : Nat} {k k' : IntKind} {zx zy : Int} (hX : Sym n D L B w0 H a w) (hop : o.op = .makeSlice t x y) (ho : o.guard = none ∧ o.dst = some d) (hd : Nat.blt d n = true)
    (hT : TabOk P T) (h1 : T.lookup t = some i) (h2 : i.desc = .slice e) (h3 : T.lookup e = some i') (h4 : i'.zero.cells = z.toArray) (h5 : z.length = i'.size) (h6 : Nat.blt 0 i'.size = true) (hx : ev L x = some (.int k zx)) (hy : ev L y = some (.int k' zy)) (hzx : zx = (m : Int)) (hzy : zy = (c : Int))
    (hmc : m ≤ c) (hb : i'.bytes * c ≤ 140737488355328) (hc : c ≤ 140737488355328)
    (h : ∀ b a' w', Sym n D ((d, .slice (some ⟨b, 0, none⟩) m c) :: L) B w0 (.row (some ⟨b, 0, none⟩) c e i'.size m (zeros z m) :: H) a' w' → KK a' w') : XO P ops o KK a w := by
  subst hzx; subst hzy
  have e1 := (hT _ _ h1).1
  rw [h2] at e1
  have e3 := hT _ _ h3
  obtain ⟨inf, hinf, hs1, hs2, hs3⟩ := TI.info e3
  have hsz := lt_of_blt h6
  have hb' : (inf.bytes : Int) * (c : Int) ≤ 281474976710656 := by
    have : ((inf.bytes * c : Nat) : Int) ≤ 140737488355328 := by rw [hs2]; omega
    rw [Int.natCast_mul] at this
    omega
  have hrun : (Instr.makeSlice t (.int k (m : Int)) (.int k' (c : Int))).run P w = .ok (.slice (some ⟨w.heap.size, 0, none⟩) m c) (w.alloc (.cells (zeros z c).toArray e)) := by
    have hr := run_make (P := P) w t e inf i'.zero e1 hinf hs3 k k' m c (by omega) (by omega) hb' (by omega)
    simp only [Int.toNat_natCast] at hr
    rw [hr]
    have hz : madeCells i'.zero.cells (c * inf.size) = (zeros z c).toArray := by
      rw [hs1, h4, ← h5]
      unfold madeCells
      exact range_mod z (by omega) c
    rw [hz]
  refine y_value hX ho hd (v := .slice (some ⟨w.heap.size, 0, none⟩) m c) (w' := w.alloc (.cells (zeros z c).toArray e)) (by simp [execOp, hop, hX.ev hx, hX.ev hy, hrun]) ?_ (h w.heap.size)
  have ha := hX.sh.alloc (.cells (zeros z c).toArray e)
  have hp := List.pairwise_cons.1 ha.apart
  refine ⟨ha.below, ha.base, fun ck hck => ?_, List.Pairwise.cons (fun ck hck b e' => hp.1 ck hck b (by simpa [Ck.at] using e')) hp.2⟩
  rcases List.mem_cons.1 hck with rfl | hck
  · refine ⟨by rw [zeros_length, h5], .inr ⟨w.heap.size, _, (0, 0), rfl, hX.sh.fresh, heap_alloc_new w _, .inl rfl, hmc, by unfold maxLen; omega, by simp [zeros_length, h5], ?_⟩⟩
    have : zeros z c = zeros z m ++ zeros z (c - m) := by
      unfold zeros
      rw [← List.flatten_append, List.replicate_append_replicate]
      congr 2
      omega
    show (zeros z c).take _ = _
    rw [this, List.take_left' (by rw [zeros_length, h5])]
  · exact ha.ok ck (List.mem_cons_of_mem _ hck)
/-- copy of a slice onto another of the same length, a row of the call's own. -/
theorem y_copy {s x : Operand} {t e : TypeId} {i i' : TI} {A A2 : Option Addr} {c k cc : Nat} {xs news : List Value} (hX : Sym n D L B w0 H a w)
    (hop : o.op = .call { callee := .builtin .copy, args := #[s, x], argTypes := #[t, t] }) (ho : o.guard = none ∧ o.dst = some d) (hd : Nat.blt d n = true)
    (hT : TabOk P T) (h1 : T.lookup t = some i) (h2 : i.desc = .slice e) (h3 : T.lookup e = some i') (hs : ev L s = some (.slice A k c)) (hx : ev L x = some (.slice A2 k cc))
    (hf : Foc H (.row A c e i'.size k xs) K) (hr : Reads w A2 k i'.size news) (hone : ∀ u ∈ news, u.oneCell' = true)
    (h : ∀ a' w', Sym n D ((d, .int .i64 (k : Int)) :: L) B w0 (K (.row A c e i'.size k news)) a' w' → KK a' w') : XO P ops o KK a w := by
  have e1 := (hT _ _ h1).1
  rw [h2] at e1
  have e3 := hT _ _ h3
  have hown : Owns w B e i'.size A c k xs := hX.sh.ok _ hf.mem
  by_cases hk : k = 0
  · subst hk
    have hn : news = [] := List.eq_nil_of_length_eq_zero (by simpa using hr.1)
    have hn' : xs = [] := List.eq_nil_of_length_eq_zero (by simpa using hown.1)
    subst hn; subst hn'
    have hrun' : (Builtin.copy_ #[t, t] o.type #[.slice A 0 c, .slice A2 0 cc]).run P w = .ok (.int .i64 0) w := by
      have hfc : (Builtin.firstCells i'.size 0 (.slice A2 0 cc)).run P w = .ok #[] w := by
        cases A2 <;> simp [Builtin.firstCells, loadCells, loadCellsFrom]
      cases A <;> simp [Builtin.copy_, run_underlying e1, Builtin.lenOf, TI.run_sizeOf e3, hfc, storeCells, goInt]
    refine y_value hX ho hd (w' := w) (v := .int .i64 ((0 : Nat) : Int)) (by simp [execOp, hop, resolve, invoke, builtin, hX.ev hs, hX.ev hx, hrun']) ?_ h
    have := hX.sh
    obtain ⟨X, Y, rfl, rfl⟩ := hf
    exact this
  · obtain ⟨b, p, rfl, hc⟩ := hr.2 (by omega)
    rcases hown.2 with ⟨_, h0, _⟩ | ⟨g, cur, fr, rfl, hbg, hg, hfr, hnc, hcm, hcs, htake⟩
    · omega
    · have hfit : 0 + news.length ≤ cur.size := by rw [hr.1, hcs, Nat.zero_add]; exact Nat.mul_le_mul_right _ hnc
      have hf' := run_firstCells_some (P := P) w i'.size k ⟨b, p, none⟩ k cc news hr.1 (fun j v hj => by rw [Addr.add_lit]; exact hc j v hj)
      have hst := run_storeCells_cells (P := P) g 0 news 0 w (fun j hj => by
          simp only [World.cell?, hg]
          simp; omega) (fun j hj => by
          simp only [World.frozen?, hg]
          rcases hfr with h | h
          · simp; omega
          · simp; omega) hone
      rw [Nat.add_zero, setCells_row g e fr news _ w cur hg hfit] at hst
      have hrun' : (Builtin.copy_ #[t, t] o.type #[.slice (some ⟨g, 0, none⟩) k c, .slice (some ⟨b, p, none⟩) k cc]).run P w = .ok (.int .i64 (k : Int)) (w.setRow g (cur.toList.take 0 ++ news ++ cur.toList.drop (0 + news.length)).toArray) := by
        have hmin : Nat.min k k = k := Nat.min_self k
        simp only [Builtin.copy_, Sem.run_bind]
        simp [run_underlying e1, Builtin.lenOf, TI.run_sizeOf e3, hmin, hf', hst, goInt]
      refine y_value hX ho hd (w' := w.setRow g (cur.toList.take 0 ++ news ++ cur.toList.drop (0 + news.length)).toArray) (v := .int .i64 (k : Int)) (by simp only [execOp, hop, resolve, invoke, builtin, Sem.run_bind, Sem.run_pure, Result.andThen_ok, List.map_toArray, List.map_cons, List.map_nil, hX.ev hs, hX.ev hx, hrun']) ?_ h
      refine hX.sh.turn hf ⟨rfl, rfl, rfl, by simp, fun q hq => setRow_other w g q _ (fun e' => by subst e'; exact hbg hq)⟩ (c' := .row (some ⟨g, 0, none⟩) c e i'.size k news) ?_ (fun q hq => .inl hq) fun q _ hq => setRow_other w g q _ (fun e' => hq (by subst e'; rfl))
      refine ⟨hr.1, .inr ⟨g, _, fr, rfl, hbg, setRow_heap w g cur _ e _ hg, ?_, hnc, hcm, ?_, ?_⟩⟩
      · rcases hfr with h | h
        · exact .inl h
        · exact .inr (by simp; omega)
      · simp only [List.size_toArray, List.length_append, List.length_take, List.length_drop, Array.length_toList]
        omega
      · simp only [List.take_zero, List.nil_append, ← hr.1]
        exact List.take_left
end
end Go.Proofs.YtcjpcmofajcadaaDoor

namespace Go.Proofs.YtcjpcmofajcadaaDoor
theorem SH.row_eq {B : Nat → Prop} {w0 w : World} {A : Option Addr} {c : Nat} {e : TypeId} {size n n' : Nat} {xs xs' : List Value} {H : List Ck} (h : SH B w0 (.row A c e size n xs :: H) w) (hn : n = n') (hx : xs = xs') : SH B w0 (.row A c e size n' xs' :: H) w := by
  subst hn; subst hx; exact h
end Go.Proofs.YtcjpcmofajcadaaDoor

/- The rules: ranges over functions. -/
namespace Go.Proofs.YtcjpcmofajcadaaDoor
open Go.RowKit

def Ck.isC : Ck → Bool
  | .obj _ _ => false
  | _ => true
/-- A piece of cells lies in a block of cells. -/
theorem Ck.ok.cells {B : Nat → Prop} {w : World} {c : Ck} (h : c.ok B w) (hc : c.isC = true) {b : Nat} (hb : c.at = some b) : ∃ cs e fr, w.heap[b]? = some (.cells cs e fr) := by
  cases c with
  | obj b' o => cases hc
  | cel b' cs e =>
    have : b' = b := Option.some.inj hb
    subst this
    exact ⟨_, _, _, h.2⟩
  | row A c e size n xs =>
    rcases h.2 with ⟨rfl, _⟩ | ⟨g, cur, fr, rfl, hg, hh, _⟩
    · cases hb
    · have : g = b := Option.some.inj hb
      subst this
      exact ⟨_, _, _, hh⟩
/-- A piece of cells, or one that is older. -/
def Ck.safe (N : Nat) (c : Ck) : Prop := c.isC = true ∨ ∀ b, c.at = some b → b < N
section
variable {B : Nat → Prop} {w0 w : World}
theorem SH.turnOther {H : List Ck} {W W' : World} (h : SH B w0 H W) {N : Nat} (hc : ∀ c ∈ H, c.safe N) (hN : ∀ k, B k → k < N) {row : Option Nat} (hg : W.grownBy W' row)
    (hr : ∀ r, row = some r → N ≤ r ∧ ∃ o : Obj, W.heap[r]? = some o ∧ o.isCells = false) : SH B w0 H W' := by
  refine ⟨h.below.trans ⟨hg.os, hg.tape, hg.output, hg.size, fun k hk => hg.block k (h.base k hk) (fun e => ?_)⟩, fun k hk => Nat.lt_of_lt_of_le (h.base k hk) hg.size, fun c hm => (h.ok c hm).keep fun b e => hg.block b ((h.ok c hm).lt e).2 (fun e' => ?_), h.apart⟩
  · have h1 := (hr k e.symm).1
    have h2 := hN k hk
    omega
  · obtain ⟨hNb, o, ho, hcell⟩ := hr b e'.symm
    rcases hc c hm with hc | hc
    · obtain ⟨cs, t, fr, hh⟩ := (h.ok c hm).cells hc e
      rw [hh] at ho
      cases ho
      cases hcell
    · have := hc b e
      omega
/-- What is held fast in a round keeps what is no cells. -/
theorem SH.keepsFrom {H H' : List Ck} {W W' : World} (h : SH (Rest W H) W H' W') (hb : ∀ c ∈ H, c.ok B W) (N : Nat) (hc : ∀ c ∈ H, c.safe N) : KeepsFrom N W W' :=
  ⟨h.below.size, fun k o hNk hk ho => (h.below.block k ⟨(Array.getElem?_eq_some_iff.1 hk).1, fun c hm e => by
    rcases hc c hm with hc | hc
    · obtain ⟨cs, t, fr, hh⟩ := (hb c hm).cells hc e
      rw [hh] at hk
      cases hk
      cases ho
    · have := hc k e
      omega⟩).trans hk⟩
end

/-- How a round may be left. -/
def RP {α β : Type} (Hc : List α → β → List Ck) (φ : List α → β → Prop) (Hr : List α → β → List Ck) (φr : List α → β → Prop) (H0 : List Ck) (W : World) (xs : List α) : Exit → Act → World → Prop
  | .normal, _, W' => ∃ y, φ xs y ∧ SH (Rest W H0) W (Hc xs y) W'
  | .ret, _, W' => ∃ y, φr xs y ∧ SH (Rest W H0) W (Hr xs y) W'
  | _, _, _ => False
def markOf (k : Nat) : Deferred := { target := .collected k, args := #[] }
/-- The blocks of some pieces. -/
def Ats (C : List Ck) (k : Nat) : Prop := ∃ c ∈ C, c.at = some k

theorem c_range {α β : Type} {P : Program} {n : Nat} {D : List Deferred} {L : List (Nat × Value)} {B : Nat → Prop} {w0 : World} {H : List Ck} {a : Act} {w : World} {Q : Exit → Act → World → Prop}
    {g : Operand} {ps : Array Tmp} {assign body : Code} {gf : Nat} {lb : Array Value} {encs : α → Array Value} {S Sp : List α → Prop} {N : Nat}
    (hX : Sym n D L B w0 H a w) (hg : ev L g = some (.func (.func gf) #[] lb)) (eg : ∀ args w, (callFunc gf args).run P w = .ok (.enter gf args) w)
    (C : List Ck) (hC : ∀ c ∈ C, ∃ b cs e, c = .cel b cs e) (hCH : ∀ c ∈ C, c ∈ H)
    (hseq : SeqStopsK Fence.wide 1 P gf lb encs (KO (Ats C)) S Sp N w) (hps : ∀ x, (encs x).size = ps.size)
    (Hc Hr : List α → β → List Ck) (φ φr : List α → β → Prop) (hcc : ∀ xs y, C ⊆ Hc xs y) (hcI : ∀ xs y, ∀ c ∈ Hc xs y, c.safe w.heap.size) (hrI : ∀ xs y, ∀ c ∈ Hr xs y, c.safe w.heap.size)
    (y0 : β) (h0 : φ [] y0) (hs0 : SH B w0 (Hc [] y0) w) (Lp La : α → List (Nat × Value))
    (hLp : ∀ x a0, a0.tmps = (ps.zip (encs x)).foldl (fun t (p, v) => t.setIfInBounds p v) a.tmps → a0.defers = [] → St n [] (Lp x) a0)
    (hassign : ∀ l x H0 a0 W, Sym n [] (Lp x) (Rest W H0) W H0 a0 W → XC (some l) P assign (fun e a' W' => e = .normal ∧ Sym n [] (La x) (Rest W H0) W H0 a' W') a0 W)
    (hbody : ∀ l pre x y a' W, φ pre y → pre.length < N → SH B w0 (Hc pre y) W → Sym n [] (La x) (Rest W (Hc pre y)) W (Hc pre y) a' W → XC (some l) P body (RP Hc φ Hr φr (Hc pre y) W (pre ++ [x])) a' W)
    (hdone : ∀ k xs y a' W, S xs → φ xs y → Sym n (markOf k :: D) L B w0 (.obj k (.deferred (some [])) :: Hc xs y) a' W → Q .normal a' W)
    (hstop : ∀ k xs y a' W, Sp xs → φr xs y → Sym n (markOf k :: D) L B w0 (.obj k (.deferred (some [])) :: Hr xs y) a' W → Q .ret a' W) :
    XC none P (.rangeFunc g ps assign body) Q a w := by
  have hCo : ∀ c ∈ C, c.ok B w := fun c hc => hX.sh.ok c (hCH c hc)
  have hks : ∀ k, Ats C k → k < w.heap.size := fun k ⟨c, hc, e⟩ => ((hCo c hc).lt e).2
  have hKO : ∀ {W W' : World} {H1 H2 : List Ck}, C ⊆ H1 → C ⊆ H2 → SH B w0 H1 W → SH B w0 H2 W' → W'.os = W.os → W'.tape = W.tape → W'.output = W.output → W.heap.size ≤ W'.heap.size → KO (Ats C) W W' := by
    intro W W' H1 H2 h1 h2 s1 s2 e1 e2 e3 e4
    refine ⟨e1, e2, e3, e4, fun k ⟨c, hc, e⟩ => ?_⟩
    obtain ⟨b, cs, t, rfl⟩ := hC c hc
    have : b = k := Option.some.inj e
    subst this
    rw [(s1.ok _ (h1 hc)).2, (s2.ok _ (h2 hc)).2]
  have hup : ∀ (c : Code) (m : Nat) (Q : Exit → Act → World → Prop) a w, c.wpIn Fence.wide m P Q a w ↔ c.wpIn Fence.wide 0 P Q a w := fun c m Q a w => wpIn_wide.trans wpIn_wide.symm
  refine (hup _ 2 _ _ _).1 ?_
  have hown : ∀ (Hq : List α → β → List Ck) (ψ : List α → β → Prop), (∀ xs y, ∀ c ∈ Hq xs y, c.safe w.heap.size) → OwnFrom w.heap.size (fun (xs : List α) W => ∃ y, ψ xs y ∧ SH B w0 (Hq xs y) W) := by
    intro Hq ψ hq xs W W' row ⟨y, hy, hs⟩ hgr hrow
    exact ⟨y, hy, hs.turnOther (hq xs y) hX.sh.base hgr hrow⟩
  have mark : ∀ (k : Nat) (W : World) (Hq : List Ck), (∀ c ∈ Hq, c.safe w.heap.size) → w.heap.size ≤ k → SH B w0 Hq W → W.heap[k]? = some (.deferred (some [])) →
      SH B w0 (.obj k (.deferred (some [])) :: Hq) W := by
    intro k W Hq hq hk hs hd
    refine ⟨hs.below, hs.base, fun c hc => ?_, List.Pairwise.cons (fun c hc b e e' => ?_) hs.apart⟩
    · rcases List.mem_cons.1 hc with rfl | hc
      · exact ⟨fun hB => by have := hX.sh.base k hB; omega, hd⟩
      · exact hs.ok c hc
    · have : k = b := Option.some.inj e
      subst this
      rcases hq c hc with hq | hq
      · obtain ⟨cs, t, fr, hh⟩ := (hs.ok c hc).cells hq e'
        rw [hd] at hh
        cases hh
      · have := hq k e'
        omega
  have st' : ∀ k, St n (markOf k :: D) L { a with defers := { target := .collected k, args := #[] } :: a.defers } := fun k => ⟨hX.st.size, by rw [← hX.st.defs]; rfl, hX.st.has⟩
  refine wpIn_rangeFunc_ownH (F := Fence.wide) (n := 2) rfl (by omega) (gf := gf) (lb := lb) (hX.ev hg) trivial eg hseq (fun h k => h.trans k) ?_ (Below.refl _ _) hps
    (fun xs W => ∃ y, φ xs y ∧ SH B w0 (Hc xs y) W) (fun c xs W => c = .ret ∧ ∃ y, φr xs y ∧ SH B w0 (Hr xs y) W) (hown Hc φ hcI) ?_ ⟨y0, h0, hs0⟩
    (fun x a' _ => St n [] (La x) a') (fun _ _ _ _ _ _ hs _ _ => hs) ?_ ?_ ?_ ?_
  · intro W l o o' hl hh _ _
    exact ⟨rfl, rfl, rfl, by simp, fun k hk => World.putObj_heap_other (fun e => by subst e; have := hks _ hk; omega)⟩
  · intro c xs W W' row hs hgr hrow
    exact ⟨hs.1, hown Hr φr hrI xs W W' row hs.2 hgr hrow⟩
  · rintro l pre x W K ⟨y, hy, hs⟩ hK
    have h1 := hassign l x (Hc pre y) { tmps := (ps.zip (encs x)).foldl (fun t (p, v) => t.setIfInBounds p v) a.tmps, defers := [] } W ⟨hLp x _ rfl rfl, hs.rest⟩
    refine wpIn_mono h1 ?_
    rintro e a' W' ⟨rfl, hS⟩
    have hb := hs.back hS.sh
    exact hK a' W' (hS.sh.keepsFrom hs.ok _ (hcI pre y)) (hKO (hcc pre y) (hcc pre y) hs hb hS.sh.below.os hS.sh.below.tape hS.sh.below.output hS.sh.below.size) ⟨y, hy, hb⟩ hS.st
  · rintro l pre x a' W _ _ ⟨y, hy, hs⟩ hS hlt
    refine wpIn_mono (hbody l pre x y a' W hy hlt hs ⟨hS, hs.rest⟩) ?_
    intro e a'' W' hq
    cases e with
    | normal =>
      obtain ⟨y', hy', hs'⟩ := hq
      have hb := hs.back hs'
      exact ⟨hs'.keepsFrom hs.ok _ (hcI pre y), hKO (hcc pre y) (hcc _ y') hs hb hs'.below.os hs'.below.tape hs'.below.output hs'.below.size, y', hy', hb⟩
    | ret =>
      obtain ⟨y', hy', hs'⟩ := hq
      exact ⟨hs'.keepsFrom hs.ok _ (hcI pre y), rfl, y', hy', hs.back hs'⟩
    | exit id => exact hq.elim
    | goto t => exact hq.elim
    | panic c => exact hq.elim
    | outgrown => exact hq.elim
  · rintro k xs W hk hS ⟨y, hy, hs⟩ hd
    exact hdone k xs y _ W hS hy ⟨st' k, mark k W _ (hcI xs y) hk hs hd⟩
  · rintro k c xs W hk hS ⟨rfl, y, hy, hs⟩ hd
    exact wpIn_ret (hstop k xs y _ W hS hy ⟨st' k, mark k W _ (hrI xs y) hk hs hd⟩)
end Go.Proofs.YtcjpcmofajcadaaDoor

/- The rules: beginnings and ends of functions with ranges over functions; iterators. -/
namespace Go.Proofs.YtcjpcmofajcadaaDoor
open Go.RowKit
section
variable {r : Option Nat} {P : Program} {ops : Array Oper} {Q : Exit → Act → World → Prop} {o : Oper} {KK : Act → World → Prop} {c : Code}
variable {n : Nat} {D : List Deferred} {L : List (Nat × Value)} {B : Nat → Prop} {w0 : World} {H : List Ck} {a : Act} {w : World} {d : Nat}

theorem st_start {N : Nat} {vs : List Value} {fn : Func} (hN : fn.ntmps = N) (hle : vs.length ≤ N) (L0 : List (Nat × Value)) (hL : L0 = vs.zipIdx.map fun p => (p.2, p.1)) :
    St N [] L0 { tmps := vs.toArray ++ Array.replicate (fn.ntmps - vs.toArray.size) undef, defers := [] } := by
  refine ⟨by rw [hN]; exact argsHas vs hle, rfl, fun s v hs => ?_⟩
  have key : ∀ (vs : List Value) (k : Nat), ((vs.zipIdx k).map fun p => (p.2, p.1)).lookup s = some v → k ≤ s ∧ vs[s - k]? = some v := by
    intro vs
    induction vs with
    | nil => intro k h; cases h
    | cons u vs ih =>
      intro k h
      simp only [List.zipIdx_cons, List.map_cons, List.lookup_cons] at h
      by_cases e : s = k
      · subst e
        simp at h
        subst h
        simp
      · have e' : (s == k) = false := by simpa using e
        rw [e'] at h
        obtain ⟨h1, h2⟩ := ih (k + 1) h
        refine ⟨by omega, ?_⟩
        rw [show s - k = (s - (k + 1)) + 1 by omega, List.getElem?_cons_succ]
        exact h2
  have h1 := (key vs 0 (by rw [← hL]; exact hs)).2
  simp only [Nat.sub_zero] at h1
  have hlt : s < vs.length := (List.getElem?_eq_some_iff.1 h1).1
  show (vs.toArray ++ _)[s]? = some v
  rw [Array.getElem?_append_left (by simpa using hlt)]
  simpa using h1
theorem wide_n (c : Code) (m m' : Nat) (Q : Exit → Act → World → Prop) (a : Act) (w : World) : c.wpIn Fence.wide m P Q a w ↔ c.wpIn Fence.wide m' P Q a w := wpIn_wide.trans wpIn_wide.symm
/-- A function with a range over a function begins. -/
theorem f_startM {f : FuncId} {fn : Func} {N : Nat} {vs : List Value} {R : Value → World → Prop} (L0 : List (Nat × Value)) (hH : SH B w0 H w) (hf : P.funcs[f]? = some fn) (hb : fn.body = some c) (hN : fn.ntmps = N) (hl : Nat.ble vs.length N = true)
    (hL : L0 = vs.zipIdx.map fun p => (p.2, p.1))
    (h : ∀ a, Sym N [] L0 B w0 H a w → XC none P c (bodyPostM Fence.wide 0 P fn fun e w' => ∃ v, e = .returned v ∧ R v w') a w) : Ret P f vs.toArray w R :=
  (callsIn_wide (n := 0)).1 (callsIn_of_wp_marks hf hb trivial (h _ ⟨st_start hN (Nat.le_of_ble_eq_true hl) L0 hL, hH⟩))
/-- An iterator begins. -/
theorem f_startI {f : FuncId} {fn : Func} {N : Nat} {vs : List Value} {R : Ending → World → Prop} (L0 : List (Nat × Value)) (hf : P.funcs[f]? = some fn) (hb : fn.body = some c) (hN : fn.ntmps = N) (hl : Nat.ble vs.length N = true)
    (hL : L0 = vs.zipIdx.map fun p => (p.2, p.1))
    (h : ∀ a, Sym N [] L0 (fun k => k < w.heap.size) w [] a w → XC none P c (bodyPost P fn R) a w) : CallsIn Fence.wide 1 P f vs.toArray w R :=
  callsIn_of_wp hf hb trivial ((wide_n _ 0 1 _ _ _).1 (h _ ⟨st_start hN (Nat.le_of_ble_eq_true hl) L0 hL, SH.start w⟩))
/-- An iterator ends. -/
theorem f_endI {fn : Func} {R : Ending → World → Prop} (hX : Sym n [] L B w0 H a w) (hr : fn.results = #[]) (h : R (.returned (.tuple #[])) w) : bodyPost P fn R .ret a w :=
  ⟨hX.st.defs, _, by simp [results, hr], h⟩
theorem f_endN {fn : Func} {R : Ending → World → Prop} (hX : Sym n [] L B w0 H a w) (hr : fn.results = #[]) (h : R (.returned (.tuple #[])) w) : bodyPost P fn R .normal a w :=
  ⟨hX.st.defs, _, by simp [results, hr], h⟩
/-- The marks of ranges over functions are taken away at the end. -/
theorem leaves_marks {fn : Func} {tmps : Array Value} {R : Value → World → Prop} {v : Value} (hres : ∀ w, SH B w0 H w → (results fn tmps).run P w = .ok v w) (h : ∀ w, SH B w0 H w → R v w) :
    ∀ (ks : List Nat) (w : World), SH B w0 (ks.map (fun k => Ck.obj k (.deferred (some []))) ++ H) w → LeavesInM Fence.wide 0 P fn tmps (fun e w' => ∃ v, e = .returned v ∧ R v w') (ks.map markOf) .returning w
  | [], w, hs => ⟨v, hres w hs, v, rfl, h w hs⟩
  | k :: ks, w, hs => by
    have hk := (hs.ok (.obj k (.deferred (some []))) (by simp)).2
    refine ⟨by simp, .inl ⟨k, _, rfl, run_takeDeferred hk, ?_⟩⟩
    refine leaves_marks hres h ks _ ?_
    have := (hs.setO (x' := .deferred none) (K := fun c => c :: (ks.map (fun k => Ck.obj k (.deferred (some []))) ++ H)) foc0).weak (List.sublist_cons_self _ _)
    exact this
theorem f_retM {fn : Func} {R : Value → World → Prop} {v : Value} (ks : List Nat) (hX : Sym n (ks.map markOf) L B w0 (ks.map (fun k => Ck.obj k (.deferred (some []))) ++ H) a w)
    (hres : ∀ w, SH B w0 H w → (results fn a.tmps).run P w = .ok v w) (h : ∀ w, SH B w0 H w → R v w) : bodyPostM Fence.wide 0 P fn (fun e w' => ∃ v, e = .returned v ∧ R v w') .ret a w := by
  show LeavesInM _ _ _ _ _ _ a.defers _ _
  rw [hX.st.defs]
  exact leaves_marks hres h ks w hX.sh
theorem res_tmp1 {fn : Func} {s : Nat} {v : Value} (hS : St n D L a) (hr : fn.results = #[.tmp s]) (hs : L.lookup s = some v) (w : World) : (results fn a.tmps).run P w = .ok v w := by
  have h1 : a.tmps.getD s undef = v := hS.ev (x := .tmp s) hs
  simp [results, hr, ← h1]
/-- yield is called. -/
theorem x_yield {l s : Nat} {u : Operand} {ts : Array TypeId} {x : Value} {rest : List Oper} {R : Ending → World → Prop} (hX : Sym n D L B w0 H a w)
    (hop : o.op = .call { callee := .value (.tmp s), args := #[u], argTypes := ts }) (ho : o.guard = none ∧ o.dst = some d) (hd : Nat.blt d n = true) (hs : L.lookup s = some (.func (.yield l) #[] #[])) (hu : ev L u = some x)
    (hY : YieldAt Fence.wide 0 P l #[x] w R) (hR : ∀ e w', R e w' → ∃ v, e = .returned v)
    (h : ∀ v a' w', R (.returned v) w' → St n D ((d, v) :: L) a' → XL none P ops Q rest a' w') : XL none P ops Q (o :: rest) a w := by
  obtain ⟨fn, tmps, assign, body, hy, hRound⟩ := hY
  have hw : Region.wanted o (yielded ops a.tmps) = true := by simp [Region.wanted, ho.1]
  show (if Region.wanted o (yielded ops a.tmps) then _ else _)
  rw [if_pos hw]
  refine ⟨fun _ _ => trivial, ?_⟩
  have hrun : (execOp a.eval o).run P w = .ok (.round l fn tmps assign body) w := by
    have e1 := hX.ev (x := .tmp s) hs
    simp [execOp, hop, resolve, e1, hX.ev hu, Deferred.ofValue, invoke, hy]
  show Oper.uponIn _ _ _ _ _ _ _ ((o.semAt none a.eval).run P w)
  rw [Oper.semAt_none, hrun]
  refine ⟨(fun h => by cases h), RoundIn.mono hRound ?_⟩
  intro e w' hq
  obtain ⟨v, rfl⟩ := hR e w' hq
  exact h v _ w' hq (by rw [ho.2]; exact hX.st.put d v (lt_of_blt hd))
theorem p_min {k : IntKind} {u v : Operand} {ts : Array TypeId} {x y z : Int} (hS : St n D L a) (hop : o.op = .call { callee := .builtin .min, args := #[u, v], argTypes := ts }) (hu : ev L u = some (.int k x)) (hv : ev L v = some (.int k y)) (hz : (if y < x then y else x) = z) : PV P o a (.int k z) := fun w => by
  subst hz
  simp [execOp, hop, resolve, invoke, builtin, Builtin.min_, Builtin.min2, hS.ev hu, hS.ev hv]
theorem p_max {k : IntKind} {u v : Operand} {ts : Array TypeId} {x y z : Int} (hS : St n D L a) (hop : o.op = .call { callee := .builtin .max, args := #[u, v], argTypes := ts }) (hu : ev L u = some (.int k x)) (hv : ev L v = some (.int k y)) (hz : (if x < y then y else x) = z) : PV P o a (.int k z) := fun w => by
  subst hz
  simp [execOp, hop, resolve, invoke, builtin, Builtin.max_, Builtin.max2, hS.ev hu, hS.ev hv]
end
end Go.Proofs.YtcjpcmofajcadaaDoor
namespace Go.Proofs.YtcjpcmofajcadaaDoor
/-- A call that makes two pieces of memory. -/
theorem y_callC2 {P : Program} {ops : Array Oper} {o : Oper} {KK : Act → World → Prop} {n : Nat} {D : List Deferred} {L : List (Nat × Value)} {B : Nat → Prop} {w0 : World} {H : List Ck} {a : Act} {w : World} {d : Nat}
    {α : Type} {V : α → Value} {C C' : α → Ck} {φ : α → Prop} {f : FuncId} {fn : Func} {xs : List Operand} {ts : Array TypeId} {vs : List Value} (hX : Sym n D L B w0 H a w)
    (hop : o.op = .call { callee := .value (.func f), args := xs.toArray, argTypes := ts }) (ho : o.guard = none ∧ o.dst = some d) (hd : Nat.blt d n = true)
    (hfn : P.funcs[f]? = some fn) (hn : (fn.name == "runtime.NumGoroutine") = false) (hb : fn.body.isNone = false) (hv : evs L xs = some vs) (hC : Ret P f vs.toArray w fun u w' => ∃ x, u = V x ∧ φ x ∧ SF w [C x, C' x] w')
    (h : ∀ x a' w', φ x → Sym n D ((d, V x) :: L) B w0 (C x :: C' x :: H) a' w' → KK a' w') : XO P ops o KK a w :=
  y_call hX hop ho hd hfn hn hb hv hC fun u a' w' ⟨x, hu, hφ, hw⟩ hS => h x a' w' hφ ⟨by rw [← hu]; exact hS, hX.sh.join hw⟩
theorem SH.grown {W w : World} {H : List Ck} (h : SF W H w) : W.grownBy w none :=
  ⟨h.below.os, h.below.tape, h.below.output, h.below.size, fun k hk _ => h.below.block k hk⟩
/-- A call that changes a row. -/
theorem y_callR {P : Program} {ops : Array Oper} {o : Oper} {KK : Act → World → Prop} {n : Nat} {D : List Deferred} {L : List (Nat × Value)} {B : Nat → Prop} {w0 : World} {H H' : List Ck} {a : Act} {w : World} {d : Nat}
    {m : Nat} {C : Option Addr → Nat → Ck} {f : FuncId} {fn : Func} {xs : List Operand} {ts : Array TypeId} {vs : List Value} (hX : Sym n D L B w0 H a w)
    (hop : o.op = .call { callee := .value (.func f), args := xs.toArray, argTypes := ts }) (ho : o.guard = none ∧ o.dst = some d) (hd : Nat.blt d n = true)
    (hfn : P.funcs[f]? = some fn) (hn : (fn.name == "runtime.NumGoroutine") = false) (hb : fn.body.isNone = false) (hv : evs L xs = some vs) (hC : Ret P f vs.toArray w fun u w' => ∃ A' c', u = .slice A' m c' ∧ SH B w0 (C A' c' :: H') w')
    (h : ∀ A' c' a' w', Sym n D ((d, .slice A' m c') :: L) B w0 (C A' c' :: H') a' w' → KK a' w') : XO P ops o KK a w :=
  y_call hX hop ho hd hfn hn hb hv hC fun u a' w' ⟨A', c', hu, hw⟩ hS => h A' c' a' w' ⟨by rw [← hu]; exact hS, hw⟩
/-- What is held fast is held fast by the rest, too. -/
theorem SH.restB {B : Nat → Prop} {w0 w : World} {H : List Ck} (h : SH B w0 H w) {k : Nat} (hk : B k) : Rest w H k := ⟨h.base k hk, fun c hc e => ((h.ok c hc).lt e).1 hk⟩
/-- A part of the memory was changed. -/
theorem SH.frame {B : Nat → Prop} {w0 w w' : World} {H1 H H1' : List Ck} (h : SH B w0 (H1 ++ H) w) (h' : SH (Rest w H1) w H1' w') : SH B w0 (H1' ++ H) w' := by
  have h1 : SH B w0 H1 w := h.weak (List.sublist_append_left _ _)
  have h2 : SH B w0 H w := h.weak (List.sublist_append_right _ _)
  have hk := h1.back h'
  have hap := (List.pairwise_append.1 h.apart).2.2
  have hr : ∀ c ∈ H, ∀ b, c.at = some b → Rest w H1 b := fun c hc b e => ⟨((h2.ok c hc).lt e).2, fun d hd e' => hap d hd c hc b e' e⟩
  refine ⟨hk.below, hk.base, fun c hm => ?_, List.pairwise_append.2 ⟨hk.apart, h2.apart, fun c hm d hd b e e' => ?_⟩⟩
  · rcases List.mem_append.1 hm with hm | hm
    · exact hk.ok c hm
    · exact (h2.ok c hm).keep fun b e => h'.below.block b (hr c hm b e)
  · exact ((h'.ok c hm).lt e).1 (hr d hd b e')
/-- The parameter of a round. -/
theorem St.param {n : Nat} {D : List Deferred} {L : List (Nat × Value)} {a : Act} (hS : St n D L a) {p : Nat} {x : Value} (hp : Nat.blt p n = true) {Lp : List (Nat × Value)} (hs : Sub ((p, x) :: L) Lp) {a0 : Act} (ht : a0.tmps = a.tmps.setIfInBounds p x) (hd : a0.defers = []) : St n [] Lp a0 := by
  have h := (hS.put p x (lt_of_blt hp)).weak hs.all
  refine ⟨by rw [ht]; simpa using hS.size, hd, fun s v hv => ?_⟩
  rw [ht]
  exact h.has s v hv
theorem run_callFunc {P : Program} {f : FuncId} {fn : Func} {args : Array Value} {w : World} (hfn : P.funcs[f]? = some fn) (hn : (fn.name == "runtime.NumGoroutine") = false) (hb : fn.body.isNone = false) : (callFunc f args).run P w = .ok (.enter f args) w := by
  have hn' : fn.name ≠ "runtime.NumGoroutine" := by simpa using hn
  have hb' : fn.body ≠ none := by intro h; rw [h] at hb; cases hb
  simp [callFunc, program, Sem.run, hfn, hn', hb']
end Go.Proofs.YtcjpcmofajcadaaDoor
namespace Go.Proofs.YtcjpcmofajcadaaDoor
theorem Sel.consE {H H' H'' : List Ck} {c c' : Ck} (h : Take H c H') (e : c = c') (hs : Sel H' H'') : Sel H (c' :: H'') := by
  subst e; exact .cons h hs
theorem row_eq {A : Option Addr} {c : Nat} {e : TypeId} {size n n' : Nat} {xs xs' : List Value} (hn : n = n') (hx : xs = xs') : Ck.row A c e size n xs = Ck.row A c e size n' xs' := by rw [hn, hx]
theorem cel_eq {b : Nat} {e : TypeId} {xs xs' : List Value} (hx : xs = xs') : Ck.cel b xs e = Ck.cel b xs' e := by rw [hx]
theorem slice_eq {A : Option Addr} {c n n' : Nat} (hn : n = n') : Value.slice A n c = Value.slice A n' c := by rw [hn]
end Go.Proofs.YtcjpcmofajcadaaDoor

/- The rules: calls that make pieces, results that lie in memory. -/
namespace Go.Proofs.YtcjpcmofajcadaaDoor
open Go.RowKit
section
variable {P : Program} {ops : Array Oper} {o : Oper} {KK : Act → World → Prop} {n : Nat} {D : List Deferred} {L : List (Nat × Value)} {B : Nat → Prop} {w0 : World} {H : List Ck} {a : Act} {w : World} {d : Nat} {T : List (TypeId × TI)}
/-- A call that makes pieces of memory. -/
theorem y_callL {α : Type} {V : α → Value} {C : α → List Ck} {φ : α → Prop} {f : FuncId} {fn : Func} {xs : List Operand} {ts : Array TypeId} {vs : List Value} (hX : Sym n D L B w0 H a w)
    (hop : o.op = .call { callee := .value (.func f), args := xs.toArray, argTypes := ts }) (ho : o.guard = none ∧ o.dst = some d) (hd : Nat.blt d n = true)
    (hfn : P.funcs[f]? = some fn) (hn : (fn.name == "runtime.NumGoroutine") = false) (hb : fn.body.isNone = false) (hv : evs L xs = some vs) (hC : Ret P f vs.toArray w fun u w' => ∃ x, u = V x ∧ φ x ∧ SF w (C x) w')
    (h : ∀ x a' w', φ x → Sym n D ((d, V x) :: L) B w0 (C x ++ H) a' w' → KK a' w') : XO P ops o KK a w :=
  y_call hX hop ho hd hfn hn hb hv hC fun u a' w' ⟨x, hu, hφ, hw⟩ hS => h x a' w' hφ ⟨by rw [← hu]; exact hS, hX.sh.join hw⟩
/-- A call of a function value. -/
theorem run_callV {f : FuncId} {fn : Func} {s : Nat} {lb : List Value} {xs : List Operand} {ts : Array TypeId} {vs : List Value} (hX : Sym n D L B w0 H a w) (hop : o.op = .call { callee := .value (.tmp s), args := xs.toArray, argTypes := ts })
    (hs : L.lookup s = some (.func (.func f) #[] lb.toArray)) (hfn : P.funcs[f]? = some fn)
    (hn : (fn.name == "runtime.NumGoroutine") = false) (hb : fn.body.isNone = false) (hv : evs L xs = some vs) : (execOp a.eval o).run P w = .ok (.enter f (vs ++ lb).toArray) w := by
  have e : a.eval (.tmp s) = .func (.func f) #[] lb.toArray := hX.ev (x := .tmp s) hs
  have hn' : fn.name ≠ "runtime.NumGoroutine" := by simpa using hn
  have hb' : fn.body ≠ none := by intro h; rw [h] at hb; cases hb
  simp [execOp, hop, resolve, e, Deferred.ofValue, invoke, callFunc, program, Sem.run, hfn, hn', hb', hX.st.evs hv]
theorem y_callV {f : FuncId} {fn : Func} {s : Nat} {lb : List Value} {xs : List Operand} {ts : Array TypeId} {vs : List Value} {R : Value → World → Prop} (hX : Sym n D L B w0 H a w)
    (hop : o.op = .call { callee := .value (.tmp s), args := xs.toArray, argTypes := ts }) (ho : o.guard = none ∧ o.dst = some d) (hd : Nat.blt d n = true) (hs : L.lookup s = some (.func (.func f) #[] lb.toArray))
    (hfn : P.funcs[f]? = some fn) (hn : (fn.name == "runtime.NumGoroutine") = false) (hb : fn.body.isNone = false) (hv : evs L xs = some vs) (hC : Ret P f (vs ++ lb).toArray w R)
    (h : ∀ v a' w', R v w' → St n D ((d, v) :: L) a' → KK a' w') : XO P ops o KK a w := by
  refine .inl ⟨by simp [Region.wanted, ho.1], .inr (.inr ⟨f, (vs ++ lb).toArray, w, run_callV hX hop hs hfn hn hb hv, ?_⟩)⟩
  refine Calls.mono hC ?_
  rintro e w' ⟨v, rfl, hR⟩
  exact ⟨v, rfl, h v _ w' hR (by rw [ho.2]; exact hX.st.put d v (lt_of_blt hd))⟩
/-- A result in memory, and one in a slot. -/
theorem f_retCT {fn : Func} {R : Value → World → Prop} {s s' b : Nat} {t e : TypeId} {i : TI} {cs : List Value} {v' : Value} {K : Ck → List Ck} (hX : Sym n [] L B w0 H a w) (hr : fn.results = #[.cell s t, .tmp s'])
    (hT : TabOk P T) (h1 : T.lookup t = some i) (h2 : isAggD i.desc = true) (hs : L.lookup s = some (.pointer (some ⟨b, 0, none⟩))) (hf : Foc H (.cel b cs e) K) (hl : cs.length = i.size) (hs' : L.lookup s' = some v') (h : R (.tuple #[.agg cs.toArray, v']) w) :
    bodyPost P fn (fun e w' => ∃ v, e = .returned v ∧ R v w') .ret a w := by
  have g1 : a.tmps.getD s undef = .pointer (some ⟨b, 0, none⟩) := hX.ev (x := .tmp s) hs
  have g2 : a.tmps.getD s' undef = v' := hX.ev (x := .tmp s') hs'
  have g3 := run_load_agg (w := w) (hT _ _ h1) h2 (b := b) (p := 0) hl (fun j v hj => by
    rw [cel_cell hX.sh hf, Nat.zero_add]; exact hj)
  exact ⟨hX.st.defs, .tuple #[.agg cs.toArray, v'], by
    have g1' : a.tmps[s]?.getD undef = .pointer (some ⟨b, 0, none⟩) := by rw [← Array.getD_eq_getD_getElem?]; exact g1
    simp [results, hr, ← g2, g1', asAddr, g3], _, rfl, h⟩
theorem f_retC {fn : Func} {R : Value → World → Prop} {s b : Nat} {t e : TypeId} {i : TI} {cs : List Value} {K : Ck → List Ck} (hX : Sym n [] L B w0 H a w) (hr : fn.results = #[.cell s t])
    (hT : TabOk P T) (h1 : T.lookup t = some i) (h2 : isAggD i.desc = true) (hs : L.lookup s = some (.pointer (some ⟨b, 0, none⟩))) (hf : Foc H (.cel b cs e) K) (hl : cs.length = i.size) (h : R (.agg cs.toArray) w) :
    bodyPost P fn (fun e w' => ∃ v, e = .returned v ∧ R v w') .ret a w := by
  have g1 : a.tmps.getD s undef = .pointer (some ⟨b, 0, none⟩) := hX.ev (x := .tmp s) hs
  have g3 := run_load_agg (w := w) (hT _ _ h1) h2 (b := b) (p := 0) hl (fun j v hj => by
    rw [cel_cell hX.sh hf, Nat.zero_add]; exact hj)
  exact ⟨hX.st.defs, .agg cs.toArray, by
    have g1' : a.tmps[s]?.getD undef = .pointer (some ⟨b, 0, none⟩) := by rw [← Array.getD_eq_getD_getElem?]; exact g1
    simp [results, hr, g1', asAddr, g3], _, rfl, h⟩
/-- Bytes of a literal: the block is marked behind its end. -/
theorem y_convSS {u : Operand} {t e : TypeId} {i i' : TI} {b m : Nat} {cs : List Value} {K : Ck → List Ck} (hX : Sym n D L B w0 H a w) (hop : o.op = .convert t t u) (ho : o.guard = none ∧ o.dst = some d) (hd : Nat.blt d n = true)
    (hT : TabOk P T) (h1 : T.lookup t = some i) (h2 : i.desc = .slice e) (h3 : T.lookup e = some i') (h4 : i'.desc = .int .u8) (hu : ev L u = some (.slice (some ⟨b, 0, none⟩) m m)) (hf : Foc H (.cel b cs e) K) (hm : cs.length = m) (hm' : m ≤ 140737488355328)
    (h : ∀ a' w', Sym n D ((d, .slice (some ⟨b, 0, none⟩) m m) :: L) B w0 (K (.row (some ⟨b, 0, none⟩) m e 1 m cs)) a' w' → KK a' w') : XO P ops o KK a w := by
  have e1 := (hT _ _ h1).1
  rw [h2] at e1
  have e3 := (hT _ _ h3).1
  rw [h4] at e3
  have hb := cel_block hX.sh hf
  have hsh : w.shape? b = some (e, cs.length) := by simp [World.shape?, hb]
  have hfr : (w.freeze ⟨b, cs.length, none⟩ 1).heap[b]? = some (.cells cs.toArray e (cs.length, cs.length + 1)) := by
    simp [World.freeze, Array.getElem?_modify, hb]
  have hother : ∀ k, k ≠ b → (w.freeze ⟨b, cs.length, none⟩ 1).heap[k]? = w.heap[k]? := fun k hk => by
    simp [World.freeze, Array.getElem?_modify, Ne.symm hk]
  have hc := hX.sh.ok _ hf.mem
  refine y_value hX ho hd (v := .slice (some ⟨b, 0, none⟩) m m) (w' := w.freeze ⟨b, cs.length, none⟩ 1) (by simp [execOp, hop, hX.ev hu, convert, run_underlying e1, run_underlying e3, markStringish, hsh]) ?_ h
  refine hX.sh.turn hf ⟨by simp [World.freeze], by simp [World.freeze], by simp [World.freeze], by simp [World.freeze], fun q hq => hother q (fun e' => by subst e'; exact hc.1 hq)⟩ (c' := .row (some ⟨b, 0, none⟩) m e 1 m cs) ?_ (fun q hq => .inl hq) fun q _ hq => hother q (fun e' => hq (by subst e'; rfl))
  exact ⟨by omega, .inr ⟨b, _, _, rfl, hc.1, hfr, .inr (by simp), Nat.le_refl _, by unfold maxLen; omega, by simp [hm], by subst hm; simp⟩⟩
/-- A known block of cells that starts a row. -/
theorem SH.toRow {b : Nat} {cs : List Value} {e : TypeId} {size m : Nat} (hH : SH B w0 (.cel b cs e :: H) w) (hl : cs.length = m * size) (hm : m ≤ 140737488355328) : SH B w0 (.row (some ⟨b, 0, none⟩) m e size m cs :: H) w := by
  refine ⟨hH.below, hH.base, fun c hc => ?_, ?_⟩
  · rcases List.mem_cons.1 hc with rfl | hc
    · have := hH.ok _ (List.mem_cons_self)
      exact ⟨hl, .inr ⟨b, cs.toArray, (0, 0), rfl, this.1, this.2, .inl rfl, Nat.le_refl _, by unfold maxLen; omega, by simpa using hl, by simp [← hl]⟩⟩
    · exact hH.ok c (List.mem_cons_of_mem _ hc)
  · have := List.pairwise_cons.1 hH.apart
    exact List.Pairwise.cons (fun c hc b e' => this.1 c hc b (by simpa [Ck.at] using e')) this.2
/-- Values are put into a list from a place on. -/
inductive PutAt : List Value → Nat → List Value → List Value → Prop where
  | nil {l : List Value} : PutAt l 0 [] l
  | cons {c v : Value} {l l' vs : List Value} (h : PutAt l 0 vs l') : PutAt (c :: l) 0 (v :: vs) (v :: l')
  | skip {c : Value} {l l' vs : List Value} {k : Nat} (h : PutAt l k vs l') : PutAt (c :: l) (k + 1) vs (c :: l')
theorem PutAt.eq {l l' vs : List Value} {k : Nat} (h : PutAt l k vs l') : l' = l.take k ++ vs ++ l.drop (k + vs.length) ∧ k + vs.length ≤ l.length := by
  induction h with
  | nil => simp
  | cons _ ih => exact ⟨by simp only [Nat.zero_add, List.take_zero, List.nil_append] at ih; rw [ih.1]; simp, by simp only [List.length_cons] at *; omega⟩
  | skip _ ih => exact ⟨by rw [ih.1, show ∀ a b : Nat, a + 1 + b = (a + b) + 1 by omega]; simp, by simp only [List.length_cons] at *; omega⟩
theorem put_fold : ∀ (vs : List Value) (l : List Value) (k j : Nat), k + j + vs.length ≤ l.length →
    ((vs.zipIdx j).foldl (fun (cs : Array Value) (p : Value × Nat) => cs.setIfInBounds (k + p.2) p.1) l.toArray) = (l.take (k + j) ++ vs ++ l.drop (k + j + vs.length)).toArray
  | [], l, k, j, h => by simp
  | v :: vs, l, k, j, h => by
    simp only [List.length_cons] at h
    simp only [List.zipIdx_cons, List.foldl_cons]
    rw [show l.toArray.setIfInBounds (k + j) v = (l.set (k + j) v).toArray by simp]
    rw [put_fold vs _ k (j + 1) (by simp; omega)]
    congr 1
    rw [show k + (j + 1) = k + j + 1 by omega, List.take_succ_eq_append_getElem (by simp; omega)]
    simp only [List.getElem_set_self, List.append_assoc, List.length_cons]
    rw [List.take_set_of_le (by omega), List.drop_set_of_lt (by omega)]
    simp [Nat.add_comm, Nat.add_left_comm]
inductive FillR (pl : List (Nat × Nat)) : List Value → List (Nat × Value) → List Value → Prop where
  | nil {z : List Value} : FillR pl z [] z
  | one {z z' z'' : List Value} {i off : Nat} {v : Value} {rest : List (Nat × Value)} (hp : pl[i]? = some (off, 1)) (hv : v.oneCell' = true) (h : PutAt z off [v] z') (hr : FillR pl z' rest z'') : FillR pl z ((i, v) :: rest) z''
  | agg {z z' z'' : List Value} {i off size : Nat} {vs : List Value} {rest : List (Nat × Value)} (hp : pl[i]? = some (off, size)) (hl : vs.length = size) (h : PutAt z off vs z') (hr : FillR pl z' rest z'') : FillR pl z ((i, .agg vs.toArray) :: rest) z''
theorem fill_step {pl : List (Nat × Nat)} {z z' : List Value} {i off size : Nat} {v : Value} {rest : List (Nat × Value)} (hp : pl[i]? = some (off, size)) (hl : v.cells.size = size) (h : PutAt z off v.cells.toList z') :
    Instr.fill (fun k => pl[k]?) z.toArray ((i, v) :: rest) = Instr.fill (fun k => pl[k]?) z'.toArray rest := by
  obtain ⟨h1, h2⟩ := h.eq
  rw [Instr.fill]
  simp only [hp]
  simp only [Array.length_toList] at h2 h1
  rw [if_neg (by simp [hl]; simp [hl] at h2; omega)]
  congr 1
  have := put_fold v.cells.toList z off 0 (by simp only [Array.length_toList]; omega)
  rw [h1, ← Array.foldl_toList]
  simp only [Nat.add_zero, Array.toList_zipIdx, Array.length_toList] at this ⊢
  exact this
theorem FillR.eq {pl : List (Nat × Nat)} {z z' : List Value} {vs : List (Nat × Value)} (h : FillR pl z vs z') : Instr.fill (fun k => pl[k]?) z.toArray vs = some z'.toArray := by
  induction h with
  | nil => rfl
  | one hp hv h _ ih =>
    rename_i v _ _
    have hvc : v.cells = #[v] := by cases v <;> first | rfl | (simp [Value.oneCell'] at hv)
    rw [fill_step hp (by rw [hvc]; rfl) (by rw [hvc]; exact h)]
    exact ih
  | agg hp hl h _ ih =>
    rw [fill_step hp (by simpa [Value.cells] using hl) (by simpa [Value.cells] using h)]
    exact ih
theorem p_buildR {t : TypeId} {i : TI} {fs : List Field} {pl : List (Nat × Nat)} {z z' : List Value} {ps : List (Nat × Operand)} {vs : List (Nat × Value)} (hS : St n D L a) (hop : o.op = .build t ps.toArray)
    (hT : TabOk P T) (h1 : T.lookup t = some i) (h2 : i.desc = .struct fs.toArray) (h3 : places T fs = some pl) (hz : i.zero = .agg z.toArray) (hv : evp L ps = some vs)
    (hc : FillR pl z vs z') : PV P o a (.agg z'.toArray) := p_build hS hop hT h1 h2 h3 hz hv hc.eq
theorem y_store_agg {x y : Operand} {t e : TypeId} {i : TI} {b : Nat} {cs vs : List Value} {K : Ck → List Ck} (hX : Sym n D L B w0 H a w) (hop : o.op = .store t x y) (ho : o.guard = none ∧ o.dst = none)
    (hT : TabOk P T) (h1 : T.lookup t = some i) (hx : ev L x = some (.pointer (some ⟨b, 0, none⟩))) (hy : ev L y = some (.agg vs.toArray)) (h2 : vs.all (·.oneCell') = true) (hf : Foc H (.cel b cs e) K) (hl : cs.length = i.size) (hl' : vs.length = i.size)
    (h : ∀ a' w', Sym n D L B w0 (K (.cel b vs e)) a' w' → KK a' w') : XO P ops o KK a w := y_store_whole hX hop ho hT h1 hx hy rfl h2 hf hl hl' h
end
end Go.Proofs.YtcjpcmofajcadaaDoor

/- The rules: strings out of bytes, slices of structs, loops with marks, results in memory. -/
namespace Go.Proofs.YtcjpcmofajcadaaDoor
open Go.RowKit
theorem bytes_toList_loop (bs : ByteArray) : ∀ (k i : Nat) (r : List UInt8), bs.size - i = k → ByteArray.toList.loop bs i r = r.reverse ++ bs.data.toList.drop i := by
  intro k
  induction k with
  | zero =>
    intro i r h
    unfold ByteArray.toList.loop
    rw [if_neg (by omega), List.drop_of_length_le (by simp; show bs.size ≤ i; omega), List.append_nil]
  | succ k ih =>
    intro i r h
    have hi : i < bs.size := by omega
    unfold ByteArray.toList.loop
    rw [if_pos hi, ih (i + 1) _ (by omega)]
    have hi' : i < bs.data.toList.length := by simpa using hi
    rw [List.drop_eq_getElem_cons hi']
    have : bs.get! i = bs.data.toList[i] := by
      simp only [ByteArray.get!, Array.getElem_toList]
      exact getElem!_pos bs.data i (by simpa using hi)
    simp [this]
theorem bytes_toList (l : List UInt8) : (ByteArray.mk l.toArray).toList = l := by
  unfold ByteArray.toList
  rw [bytes_toList_loop _ _ 0 [] rfl]
  simp
def strV (l : List UInt8) : Value := .string ⟨l.toArray⟩
section
variable {P : Program} {ops : Array Oper} {Q : Exit → Act → World → Prop} {o : Oper} {KK : Act → World → Prop} {n : Nat} {D : List Deferred} {L : List (Nat × Value)} {B : Nat → Prop} {w0 : World} {H : List Ck} {a : Act} {w : World} {d : Nat} {T : List (TypeId × TI)} {r : Option Nat} {c : Code}
theorem p_eql_S {u v : Operand} {t t' : TypeId} {x y : List UInt8} (hS : St n D L a) (hop : o.op = .binOp .eql t u v t') (hu : ev L u = some (strV x)) (hv : ev L v = some (strV y)) : PV P o a (.bool (x == y)) := by
  have := p_eql_s (P := P) hS hop hu hv
  rw [bytes_toList, bytes_toList] at this
  exact this
theorem p_neq_S {u v : Operand} {t t' : TypeId} {x y : List UInt8} (hS : St n D L a) (hop : o.op = .binOp .neq t u v t') (hu : ev L u = some (strV x)) (hv : ev L v = some (strV y)) : PV P o a (.bool (!(x == y))) := by
  have := p_neq_s (P := P) hS hop hu hv
  rw [bytes_toList, bytes_toList] at this
  exact this
/-- Bytes as a string. -/
theorem v_str {u : Operand} {t t' e : TypeId} {i i' i'' : TI} {A : Option Addr} {m c : Nat} {l : List UInt8} (hS : St n D L a) (hop : o.op = .convert t t' u) (hT : TabOk P T) (h1 : T.lookup t = some i) (h2 : T.lookup t' = some i') (h3 : i.desc = .slice e) (h4 : i'.desc = .string)
    (h5 : T.lookup e = some i'') (h6 : i''.desc = .int .u8) (hu : ev L u = some (.slice A m c)) (w : World) (hr : Reads w A m 1 (l.map fun c => Value.int .u8 c.toNat)) :
    (execOp a.eval o).run P w = .ok (.value (strV l)) w := by
  have e1 := (hT _ _ h1).1
  rw [h3] at e1
  have e2 := (hT _ _ h2).1
  rw [h4] at e2
  have e5 := (hT _ _ h5).1
  rw [h6] at e5
  have hm : l.length = m := by simpa using hr.1
  subst hm
  have : (convert t t' (.slice A l.length c)).run P w = .ok (strV l) w := by
    by_cases h0 : l.length = 0
    · have hl : l = [] := List.eq_nil_of_length_eq_zero h0
      subst hl
      cases A with
      | none => simp [convert, run_underlying e1, run_underlying e2, run_underlying e5, Conv.bytesToString, strV]; rfl
      | some ad => exact run_convert_bytes_back w t t' e ad c [] e1 e5 e2 (fun j hj => by simp at hj)
    · obtain ⟨b, p, rfl, hc⟩ := hr.2 (by omega)
      exact run_convert_bytes_back w t t' e ⟨b, p, none⟩ c l e1 e5 e2 (fun j hj => by rw [Addr.add_lit]; exact hc j _ (by simp [hj]))
  simp [execOp, hop, hS.ev hu, this]
/-- Slices put together out of structs. -/
theorem fill_aggs (size : Nat) : ∀ (vs : List (List Value)) (k : Nat) (done zs : List Value), (∀ v ∈ vs, v.length = size) → done.length = k * size → zs.length = vs.length * size →
    Instr.fill (fun i => some (i * size, size)) (done ++ zs).toArray ((vs.zipIdx k).map fun p => (p.2, .agg p.1.toArray)) = some (done ++ vs.flatten).toArray
  | [], k, done, zs, _, _, hl => by
    have : zs = [] := List.eq_nil_of_length_eq_zero (by simpa using hl)
    subst this; simp [Instr.fill]
  | v :: vs, k, done, zs, hv, hd, hl => by
    have hvl := hv v (by simp)
    have hz : size ≤ zs.length := by rw [hl, List.length_cons, Nat.add_mul]; omega
    have ih := fill_aggs size vs (k + 1) (done ++ v) (zs.drop size) (fun u hu => hv u (List.mem_cons_of_mem _ hu)) (by rw [List.length_append, hd, hvl, Nat.add_mul]; omega) (by rw [List.length_drop, hl, List.length_cons, Nat.add_mul]; omega)
    have hp := put_fold v (done ++ zs) (k * size) 0 (by rw [List.length_append, hd, hvl]; omega)
    simp only [List.zipIdx_cons, List.map_cons, Instr.fill]
    rw [if_neg (by simp [Value.cells, hvl, hd]; omega)]
    have e : (Value.agg v.toArray).cells = v.toArray := rfl
    rw [e, ← Array.foldl_toList]
    simp only [Array.toList_zipIdx]
    simp only [Nat.add_zero] at hp
    rw [hp, ← hd, List.take_left, hvl]
    have e2 : (done ++ zs).drop (done.length + size) = zs.drop size := by rw [List.drop_append]; simp
    rw [e2]
    simpa using ih
theorem y_buildSliceA {t e : TypeId} {i i' : TI} {xs : List Operand} {vs : List (List Value)} {z : List Value} {N : Nat} {ps : List (Nat × Operand)} (hX : Sym n D L B w0 H a w) (hop : o.op = .buildSlice t N ps.toArray) (ho : o.guard = none ∧ o.dst = some d) (hd : Nat.blt d n = true)
    (hT : TabOk P T) (h1 : T.lookup t = some i) (h2 : i.desc = .slice e) (h3 : T.lookup e = some i') (h4 : i'.zero = .agg z.toArray) (hz : z.length = i'.size) (hps : ps = xs.zipIdx.map fun p => (p.2, p.1)) (hv : evs L xs = some (vs.map fun v => .agg v.toArray)) (hN : vs.length = N) (hN' : Nat.ble (N * i'.size) 16777216 = true) (h0 : Nat.blt 0 N = true) (hs0 : Nat.blt 0 i'.size = true) (hone : vs.all (fun v => v.length == i'.size) = true)
    (h : ∀ b a' w', Sym n D ((d, .slice (some ⟨b, 0, none⟩) N N) :: L) B w0 (.cel b vs.flatten e :: H) a' w' → KK a' w') : XO P ops o KK a w := by
  have e1 := (hT _ _ h1).1
  rw [h2] at e1
  have e3 := hT _ _ h3
  have hvs := hX.st.evs hv
  have hone' : ∀ v ∈ vs, v.length = i'.size := by simpa using hone
  have h00 := lt_of_blt h0
  have hs00 := lt_of_blt hs0
  have hle : N * i'.size ≤ 16777216 := Nat.le_of_ble_eq_true hN'
  have hpv : (ps.map fun p => (p.1, a.eval p.2)) = (vs.zipIdx).map fun p => (p.2, .agg p.1.toArray) := by
    subst hps
    have e : ∀ (xs : List Operand) (k : Nat), ((xs.zipIdx k).map fun p => (p.2, p.1)).map (fun p => (p.1, a.eval p.2)) = ((xs.map a.eval).zipIdx k).map fun p => (p.2, p.1) := by
      intro xs
      induction xs with
      | nil => intro k; rfl
      | cons x xs ih => intro k; simp only [List.zipIdx_cons, List.map_cons, ih]
    rw [e, hvs]
    have e2 : ∀ (vs : List (List Value)) (k : Nat), ((vs.map fun v => Value.agg v.toArray).zipIdx k).map (fun p => (p.2, p.1)) = (vs.zipIdx k).map fun p => (p.2, Value.agg p.1.toArray) := by
      intro vs
      induction vs with
      | nil => intro k; rfl
      | cons x vs ih => intro k; simp only [List.zipIdx_cons, List.map_cons, ih]
    exact e2 vs 0
  have hrun : (Instr.buildSlice t N (ps.toArray.map fun p => (p.1, a.eval p.2))).run P w = .ok (.slice (some ⟨w.heap.size, 0, none⟩) N N) (w.alloc (.cells vs.flatten.toArray e)) := by
    unfold Instr.buildSlice
    have hfill := fill_aggs i'.size vs 0 [] (zeros z N) hone' (by simp) (by rw [zeros_length, hz, hN])
    simp only [List.nil_append] at hfill
    have hz1 := range_mod z (by omega) N
    rw [hz] at hz1
    simp only [Sem.run_bind, run_underlying e1, Result.andThen_ok, TI.run_sizeOf e3]
    rw [if_neg (by omega)]
    have hm : (List.map (fun p => (p.1, a.eval p.2)) ps) = (vs.zipIdx).map fun p => (p.2, .agg p.1.toArray) := hpv
    have hne : N * i'.size ≠ 0 := by have := Nat.mul_pos h00 hs00; omega
    simp only [hne, if_false, Sem.run_bind, TI.run_zero e3, Result.andThen_ok, Sem.run_pure, h4, Value.cells, List.map_toArray, hm]
    rw [hz1]
    simp [hfill, newRow, newObj, Sem.run]
  refine y_value hX ho hd (v := .slice (some ⟨w.heap.size, 0, none⟩) N N) (w' := w.alloc (.cells vs.flatten.toArray e)) ?_ (hX.sh.allocC vs.flatten e) (h w.heap.size)
  simp only [execOp, hop, Sem.run_bind, hrun, Result.andThen_ok, Sem.run_pure]

/-- Structs one behind another. -/
inductive FlatA (size : Nat) : List Value → List (List Value) → List Value → Prop where
  | nil : FlatA size [] [] []
  | cons {us : List Value} {l fs : List Value} {vs : List (List Value)} (hl : l.length = size) (h : FlatA size us vs fs) : FlatA size (.agg l.toArray :: us) (l :: vs) (l ++ fs)
theorem FlatA.eq {size : Nat} {us : List Value} {vs : List (List Value)} {fs : List Value} (h : FlatA size us vs fs) : us = vs.map (fun v => .agg v.toArray) ∧ fs = vs.flatten ∧ ∀ v ∈ vs, v.length = size := by
  induction h with
  | nil => simp
  | cons hl _ ih =>
    obtain ⟨h1, h2, h3⟩ := ih
    refine ⟨by rw [h1]; rfl, by rw [h2]; rfl, fun v hv => ?_⟩
    rcases List.mem_cons.1 hv with rfl | hv
    · exact hl
    · exact h3 v hv
theorem y_buildSliceF {t e : TypeId} {i i' : TI} {xs : List Operand} {us : List Value} {vs : List (List Value)} {fs z : List Value} {N : Nat} {ps : List (Nat × Operand)} (hX : Sym n D L B w0 H a w) (hop : o.op = .buildSlice t N ps.toArray) (ho : o.guard = none ∧ o.dst = some d) (hd : Nat.blt d n = true)
    (hT : TabOk P T) (h1 : T.lookup t = some i) (h2 : i.desc = .slice e) (h3 : T.lookup e = some i') (h4 : i'.zero = .agg z.toArray) (hz : z.length = i'.size) (hps : ps = xs.zipIdx.map fun p => (p.2, p.1)) (hv : evs L xs = some us) (hf : FlatA i'.size us vs fs) (hN : vs.length = N) (hN' : Nat.ble (N * i'.size) 16777216 = true) (h0 : Nat.blt 0 N = true) (hs0 : Nat.blt 0 i'.size = true)
    (h : ∀ b a' w', Sym n D ((d, .slice (some ⟨b, 0, none⟩) N N) :: L) B w0 (.cel b fs e :: H) a' w' → KK a' w') : XO P ops o KK a w := by
  obtain ⟨e1, e2, e3⟩ := hf.eq
  subst e2
  exact y_buildSliceA hX hop ho hd hT h1 h2 h3 h4 hz hps (by rw [hv, e1]) hN hN' h0 hs0 (by simpa using e3) h
theorem y_buildSlice1 {t e : TypeId} {i i' : TI} {x : Operand} {l z : List Value} (hX : Sym n D L B w0 H a w) (hop : o.op = .buildSlice t 1 #[(0, x)]) (ho : o.guard = none ∧ o.dst = some d) (hd : Nat.blt d n = true)
    (hT : TabOk P T) (h1 : T.lookup t = some i) (h2 : i.desc = .slice e) (h3 : T.lookup e = some i') (h4 : i'.zero = .agg z.toArray) (hz : z.length = i'.size) (hv : ev L x = some (.agg l.toArray)) (hl : l.length = i'.size) (hN' : Nat.ble (1 * i'.size) 16777216 = true) (hs0 : Nat.blt 0 i'.size = true)
    (h : ∀ b a' w', Sym n D ((d, .slice (some ⟨b, 0, none⟩) 1 1) :: L) B w0 (.cel b l e :: H) a' w' → KK a' w') : XO P ops o KK a w := by
  have h' := y_buildSliceA (ops := ops) (KK := KK) (xs := [x]) (vs := [l]) (N := 1) (ps := [(0, x)]) hX hop ho hd hT h1 h2 h3 h4 hz rfl (by simp [evs, hv]) rfl hN' rfl hs0 (by simp [hl])
  simp only [List.flatten_cons, List.flatten_nil, List.append_nil] at h'
  exact h' h
/-- A loop in which marks of ranges over functions gather. -/
theorem c_loopD {α : Type} (Dx : α → List Deferred) (Lx : α → List (Nat × Value)) (Hx : α → List Ck) (φ : α → Prop) (m : α → Nat) (x0 : α) (hφ : φ x0) (h0 : Sym n (Dx x0) (Lx x0) B w0 (Hx x0) a w)
    (hr : ∀ x a w, φ x → Sym n (Dx x) (Lx x) B w0 (Hx x) a w → XC r P c (Exit.then (fun a' w' => ∃ y, φ y ∧ m y < m x ∧ Sym n (Dx y) (Lx y) B w0 (Hx y) a' w') Q) a w) : XC r P (.loop c) Q a w :=
  c_loop (fun x a w => φ x ∧ Sym n (Dx x) (Lx x) B w0 (Hx x) a w) m x0 ⟨hφ, h0⟩ fun x a w hM => wpIn_mono (hr x a w hM.1 hM.2) fun e a' w' hq => by
    cases e with
    | normal =>
      obtain ⟨y, h1, h2, h3⟩ := hq
      exact ⟨y, ⟨h1, h3⟩, h2⟩
    | _ => exact hq
theorem run_load_one {t : TypeId} {i : TI} {b : Nat} {v : Value} {e : TypeId} {K : Ck → List Ck} (hi : TI.ok P t i) (h2 : isAggD i.desc = false) (hH : SH B w0 H w) (hf : Foc H (.cel b [v] e) K) : (loadVar t ⟨b, 0, none⟩).run P w = .ok v w := by
  have hc := cel_cell hH hf 0
  simp [loadVar, TI.run_isAgg hi, h2, hc]
/-- Three results that lie in memory. -/
theorem res_cell3 {fn : Func} {s1 s2 s3 b1 b2 b3 : Nat} {t1 t2 t3 e1 e2 e3 : TypeId} {i1 i2 i3 : TI} {v1 v2 v3 : Value} {K1 K2 K3 : Ck → List Ck} (hS : St n D L a) (hr : fn.results = #[.cell s1 t1, .cell s2 t2, .cell s3 t3]) (hT : TabOk P T)
    (h1 : T.lookup t1 = some i1) (h2 : T.lookup t2 = some i2) (h3 : T.lookup t3 = some i3) (g1 : isAggD i1.desc = false) (g2 : isAggD i2.desc = false) (g3 : isAggD i3.desc = false)
    (hs1 : L.lookup s1 = some (.pointer (some ⟨b1, 0, none⟩))) (hs2 : L.lookup s2 = some (.pointer (some ⟨b2, 0, none⟩))) (hs3 : L.lookup s3 = some (.pointer (some ⟨b3, 0, none⟩)))
    (f1 : Foc H (.cel b1 [v1] e1) K1) (f2 : Foc H (.cel b2 [v2] e2) K2) (f3 : Foc H (.cel b3 [v3] e3) K3) (w : World) (hH : SH B w0 H w) : (results fn a.tmps).run P w = .ok (.tuple #[v1, v2, v3]) w := by
  have k : ∀ s b, L.lookup s = some (.pointer (some ⟨b, 0, none⟩)) → a.tmps[s]?.getD undef = .pointer (some ⟨b, 0, none⟩) := fun s b h => by
    rw [← Array.getD_eq_getD_getElem?]; exact hS.ev (x := .tmp s) h
  simp [results, hr, k _ _ hs1, k _ _ hs2, k _ _ hs3, asAddr, run_load_one (hT _ _ h1) g1 hH f1, run_load_one (hT _ _ h2) g2 hH f2, run_load_one (hT _ _ h3) g3 hH f3]
end
end Go.Proofs.YtcjpcmofajcadaaDoor
namespace Go.Proofs.YtcjpcmofajcadaaDoor
theorem tk8 {c d0 d1 d2 d3 d4 d5 d6 d7 : Ck} {H : List Ck} : Take (d0 :: d1 :: d2 :: d3 :: d4 :: d5 :: d6 :: d7 :: c :: H) c (d0 :: d1 :: d2 :: d3 :: d4 :: d5 :: d6 :: d7 :: H) := .there tk7
theorem foc8 {c d0 d1 d2 d3 d4 d5 d6 d7 : Ck} {H : List Ck} : Foc (d0 :: d1 :: d2 :: d3 :: d4 :: d5 :: d6 :: d7 :: c :: H) c (fun c => d0 :: d1 :: d2 :: d3 :: d4 :: d5 :: d6 :: d7 :: c :: H) := ⟨[d0, d1, d2, d3, d4, d5, d6, d7], H, rfl, rfl⟩
theorem tk9 {c d0 d1 d2 d3 d4 d5 d6 d7 d8 : Ck} {H : List Ck} : Take (d0 :: d1 :: d2 :: d3 :: d4 :: d5 :: d6 :: d7 :: d8 :: c :: H) c (d0 :: d1 :: d2 :: d3 :: d4 :: d5 :: d6 :: d7 :: d8 :: H) := .there tk8
theorem foc9 {c d0 d1 d2 d3 d4 d5 d6 d7 d8 : Ck} {H : List Ck} : Foc (d0 :: d1 :: d2 :: d3 :: d4 :: d5 :: d6 :: d7 :: d8 :: c :: H) c (fun c => d0 :: d1 :: d2 :: d3 :: d4 :: d5 :: d6 :: d7 :: d8 :: c :: H) := ⟨[d0, d1, d2, d3, d4, d5, d6, d7, d8], H, rfl, rfl⟩
theorem tk10 {c d0 d1 d2 d3 d4 d5 d6 d7 d8 d9 : Ck} {H : List Ck} : Take (d0 :: d1 :: d2 :: d3 :: d4 :: d5 :: d6 :: d7 :: d8 :: d9 :: c :: H) c (d0 :: d1 :: d2 :: d3 :: d4 :: d5 :: d6 :: d7 :: d8 :: d9 :: H) := .there tk9
theorem foc10 {c d0 d1 d2 d3 d4 d5 d6 d7 d8 d9 : Ck} {H : List Ck} : Foc (d0 :: d1 :: d2 :: d3 :: d4 :: d5 :: d6 :: d7 :: d8 :: d9 :: c :: H) c (fun c => d0 :: d1 :: d2 :: d3 :: d4 :: d5 :: d6 :: d7 :: d8 :: d9 :: c :: H) := ⟨[d0, d1, d2, d3, d4, d5, d6, d7, d8, d9], H, rfl, rfl⟩
theorem tk11 {c d0 d1 d2 d3 d4 d5 d6 d7 d8 d9 d10 : Ck} {H : List Ck} : Take (d0 :: d1 :: d2 :: d3 :: d4 :: d5 :: d6 :: d7 :: d8 :: d9 :: d10 :: c :: H) c (d0 :: d1 :: d2 :: d3 :: d4 :: d5 :: d6 :: d7 :: d8 :: d9 :: d10 :: H) := .there tk10
theorem foc11 {c d0 d1 d2 d3 d4 d5 d6 d7 d8 d9 d10 : Ck} {H : List Ck} : Foc (d0 :: d1 :: d2 :: d3 :: d4 :: d5 :: d6 :: d7 :: d8 :: d9 :: d10 :: c :: H) c (fun c => d0 :: d1 :: d2 :: d3 :: d4 :: d5 :: d6 :: d7 :: d8 :: d9 :: d10 :: c :: H) := ⟨[d0, d1, d2, d3, d4, d5, d6, d7, d8, d9, d10], H, rfl, rfl⟩
theorem tk12 {c d0 d1 d2 d3 d4 d5 d6 d7 d8 d9 d10 d11 : Ck} {H : List Ck} : Take (d0 :: d1 :: d2 :: d3 :: d4 :: d5 :: d6 :: d7 :: d8 :: d9 :: d10 :: d11 :: c :: H) c (d0 :: d1 :: d2 :: d3 :: d4 :: d5 :: d6 :: d7 :: d8 :: d9 :: d10 :: d11 :: H) := .there tk11
theorem foc12 {c d0 d1 d2 d3 d4 d5 d6 d7 d8 d9 d10 d11 : Ck} {H : List Ck} : Foc (d0 :: d1 :: d2 :: d3 :: d4 :: d5 :: d6 :: d7 :: d8 :: d9 :: d10 :: d11 :: c :: H) c (fun c => d0 :: d1 :: d2 :: d3 :: d4 :: d5 :: d6 :: d7 :: d8 :: d9 :: d10 :: d11 :: c :: H) := ⟨[d0, d1, d2, d3, d4, d5, d6, d7, d8, d9, d10, d11], H, rfl, rfl⟩
end Go.Proofs.YtcjpcmofajcadaaDoor

/- The rules: elements of rows. -/
namespace Go.Proofs.YtcjpcmofajcadaaDoor
open Go.RowKit
section
variable {P : Program} {ops : Array Oper} {Q : Exit → Act → World → Prop} {o : Oper} {KK : Act → World → Prop} {n : Nat} {D : List Deferred} {L : List (Nat × Value)} {B : Nat → Prop} {w0 : World} {H : List Ck} {a : Act} {w : World} {d : Nat} {T : List (TypeId × TI)} {K : Ck → List Ck}
theorem SH.rowAt (hH : SH B w0 H w) {A : Option Addr} {c : Nat} {e : TypeId} {size m : Nat} {xs : List Value} (hf : Foc H (.row A c e size m xs) K) (hm : 0 < m) : ∃ g, A = some ⟨g, 0, none⟩ := by
  rcases (hH.ok _ hf.mem).2 with ⟨_, h, _⟩ | ⟨g, _, _, h, _⟩
  · omega
  · exact ⟨g, h⟩
theorem SH.rowLe (hH : SH B w0 H w) {A : Option Addr} {c : Nat} {e : TypeId} {size m : Nat} {xs : List Value} (hf : Foc H (.row A c e size m xs) K) : m ≤ c ∧ c ≤ maxLen := Owns.le (hH.ok _ hf.mem)
theorem p_index0 {u x : Operand} {t e : TypeId} {i i' : TI} {b m c j : Nat} {k : IntKind} {z : Int} (hS : St n D L a) (hop : o.op = .indexAddr t u x)
    (hT : TabOk P T) (h1 : T.lookup t = some i) (h2 : i.desc = .slice e) (h4 : T.lookup e = some i') (h5 : i'.size = 1) (hu : ev L u = some (.slice (some ⟨b, 0, none⟩) m c)) (hx : ev L x = some (.int k z)) (hz : z = (j : Int)) (hj : j < m) : PV P o a (.pointer (some ⟨b, j, none⟩)) := by
  have := p_index1 (P := P) hS hop hT h1 h2 h4 h5 hu hx hz hj
  rw [Nat.zero_add] at this
  exact this
theorem v_load_row {x : Operand} {t e : TypeId} {i : TI} {g j c m size : Nat} {xs : List Value} {v : Value} (hS : St n D L a) (hop : o.op = .load t x)
    (hT : TabOk P T) (h1 : T.lookup t = some i) (h2 : isAggD i.desc = false) (hx : ev L x = some (.pointer (some ⟨g, j, none⟩))) (hf : Foc H (.row (some ⟨g, 0, none⟩) c e size m xs) K) (hv : xs[j]? = some v) (w : World) (hH : SH B w0 H w) :
    (execOp a.eval o).run P w = .ok (.value v) w := by
  have hown : Owns w B e size (some ⟨g, 0, none⟩) c m xs := hH.ok _ hf.mem
  have hj : j < m * size := by rw [← hown.1]; exact (List.getElem?_eq_some_iff.1 hv).1
  have hc := hown.cells rfl j hj
  rw [hv] at hc
  simp [execOp, hop, hS.ev hx, Instr.loadAt, Instr.sureAddr, loadVar, TI.run_isAgg (hT _ _ h1), h2, hc]
/-- A struct among the elements of a row. -/
theorem v_load_row_agg {x : Operand} {t e : TypeId} {i : TI} {g j c m size : Nat} {xs vs : List Value} (hS : St n D L a) (hop : o.op = .load t x)
    (hT : TabOk P T) (h1 : T.lookup t = some i) (h2 : isAggD i.desc = true) (hx : ev L x = some (.pointer (some ⟨g, j, none⟩))) (hf : Foc H (.row (some ⟨g, 0, none⟩) c e size m xs) K) (hl : vs.length = i.size) (hv : ∀ q v, vs[q]? = some v → xs[j + q]? = some v) (w : World) (hH : SH B w0 H w) :
    (execOp a.eval o).run P w = .ok (.value (.agg vs.toArray)) w := by
  have hown : Owns w B e size (some ⟨g, 0, none⟩) c m xs := hH.ok _ hf.mem
  have := run_load_agg (w := w) (hT _ _ h1) h2 (b := g) (p := j) hl (fun q v hq => by
    have h3 := hv q v hq
    have hj : j + q < m * size := by rw [← hown.1]; exact (List.getElem?_eq_some_iff.1 h3).1
    rw [hown.cells rfl _ hj]; exact h3)
  simp [execOp, hop, hS.ev hx, Instr.loadAt, Instr.sureAddr, this]
theorem y_store_row {x y : Operand} {t e : TypeId} {i : TI} {g j c m size : Nat} {xs : List Value} {v : Value} (hX : Sym n D L B w0 H a w) (hop : o.op = .store t x y) (ho : o.guard = none ∧ o.dst = none)
    (hT : TabOk P T) (h1 : T.lookup t = some i) (hi : i.size = 1) (hx : ev L x = some (.pointer (some ⟨g, j, none⟩))) (hy : ev L y = some v) (h2 : v.oneCell' = true) (hf : Foc H (.row (some ⟨g, 0, none⟩) c e size m xs) K) (hj : j < m * size)
    (h : ∀ a' w', Sym n D L B w0 (K (.row (some ⟨g, 0, none⟩) c e size m (xs.set j v))) a' w' → KK a' w') : XO P ops o KK a w := by
  have hown : Owns w B e size (some ⟨g, 0, none⟩) c m xs := hX.sh.ok _ hf.mem
  have hxl := hown.1
  rcases hown.2 with ⟨h0, _⟩ | ⟨g', cur, fr, hA, hbg, hg, hfr, hnc, hcm, hcs, htake⟩
  · cases h0
  · have : g = g' := by injection hA with hA; injection hA
    subst this
    have hjc : j < cur.size := by rw [hcs]; exact Nat.lt_of_lt_of_le hj (Nat.mul_le_mul_right _ hnc)
    have hvc : v.cells = #[v] := by cases v <;> first | rfl | (simp [Value.oneCell'] at h2)
    have hst := run_storeCells_cells (P := P) g j [v] 0 w (fun q hq => by
        simp only [World.cell?, hg]
        simp at hq
        subst hq
        simp [hjc]) (fun q hq => by
        simp only [World.frozen?, hg]
        simp at hq
        subst hq
        rcases hfr with h | h
        · simp; omega
        · simp; omega) (by simpa using h2)
    simp only [Nat.add_zero] at hst
    have hsc := setCells_row g e fr [v] j w cur hg (by simp; omega)
    simp only [List.length_cons, List.length_nil, Nat.zero_add] at hsc
    rw [hsc] at hst
    have hrun : (storeVar t ⟨g, j, none⟩ v).run P w = .ok () (w.setRow g (cur.toList.take j ++ [v] ++ cur.toList.drop (j + 1)).toArray) := by
      unfold storeVar
      simp [TI.run_sizeOf (hT _ _ h1), hvc, hi]
      simpa using hst
    refine y_skip hX ho (w' := w.setRow g (cur.toList.take j ++ [v] ++ cur.toList.drop (j + 1)).toArray) (by simp only [execOp, hop, hX.ev hx, hX.ev hy, Instr.storeAt, Instr.sureAddr, Sem.run_bind, Sem.run_pure, Result.andThen_ok, hrun]) ?_ h
    refine hX.sh.turn hf ⟨rfl, rfl, rfl, by simp, fun q hq => setRow_other w g q _ (fun e' => by subst e'; exact hbg hq)⟩ (c' := .row (some ⟨g, 0, none⟩) c e size m (xs.set j v)) ?_ (fun q hq => .inl hq) fun q _ hq => setRow_other w g q _ (fun e' => hq (by subst e'; rfl))
    have hset : cur.toList.take j ++ [v] ++ cur.toList.drop (j + 1) = cur.toList.set j v := by
      rw [List.set_eq_take_append_cons_drop, if_pos (by simpa using hjc)]; simp
    refine ⟨by simpa using hxl, .inr ⟨g, _, fr, rfl, hbg, setRow_heap w g cur _ e _ hg, ?_, hnc, hcm, ?_, ?_⟩⟩
    · rcases hfr with h | h
      · exact .inl h
      · exact .inr (by rw [hset]; simpa using h)
    · rw [hset]; simpa using hcs
    · rw [hset]
      show (cur.toList.set j v).take (m * size) = _
      rw [← htake, List.take_set]
theorem p_shrZ {k k' : IntKind} {u v : Operand} {t t' : TypeId} {x z zy : Int} {y : Nat} (hS : St n D L a) (hop : o.op = .binOp .shr t u v t')
    (hu : ev L u = some (.int k x)) (hv : ev L v = some (.int k' zy)) (hy : zy = (y : Int)) (hz : x.fdiv (2 ^ (min y k.bits)) = z) : PV P o a (.int k z) := by
  subst hy; exact p_shr hS hop hu hv hz
theorem p_shlZ {k k' : IntKind} {u v : Operand} {t t' : TypeId} {x z zy : Int} {y : Nat} (hS : St n D L a) (hop : o.op = .binOp .shl t u v t')
    (hu : ev L u = some (.int k x)) (hv : ev L v = some (.int k' zy)) (hy : zy = (y : Int)) (hz : k.wrap (x * 2 ^ (min y k.bits)) = z) : PV P o a (.int k z) := by
  subst hy; exact p_shl hS hop hu hv hz
end
end Go.Proofs.YtcjpcmofajcadaaDoor

/- A law's row: the answer is true, and nothing that was there has changed. -/
namespace Go.Proofs.YtcjpcmofajcadaaDoor
open Go.ChangeShapes Go.WideShapes Go.ChangeAt Go.RowKit
section
variable {H : Type} {enc : TypeId × Value → H} {P : Program}
theorem trodAll_carry (hl : laidOutB P = true) {W W' : World} (hb : Below W.heap.size W W') {sp : Nat → Bool} :
    ∀ (ts : List TypeId) (vs : List Value) (ds : List (DataW H)) (ps : List MemPlace), (∀ t ∈ ts, P.readableRec t = true ∧ t < P.types.size) → (∀ x ∈ ps, x.block < W.heap.size) → (∀ x ∈ ps, sp x.block = true) →
      DataW.TrodAll enc P W 0 (fun _ => true) true ts vs ds ps → DataW.TrodAll enc P W' 0 sp true ts vs ds ps
  | [], [], [], ps, _, _, _, h => h
  | t :: ts, v :: vs, d :: ds, ps, hr, hlt, hsp, h => by
    obtain ⟨p, q, h1, h2, rfl⟩ := h
    refine ⟨p, q, WideElems.Trod_stays hl (hr t (by simp)).1 (hr t (by simp)).2 h1 (fun x hx => hb.same (hlt x (by simp [hx]))) (fun x hx => hsp x (by simp [hx])), ?_, rfl⟩
    exact trodAll_carry hl hb ts vs ds q (fun t' ht => hr t' (by simp [ht])) (fun x hx => hlt x (by simp [hx])) (fun x hx => hsp x (by simp [hx])) h2
  | [], [], _ :: _, _, _, _, _, h => h.elim
  | [], _ :: _, _, _, _, _, _, h => h.elim
  | _ :: _, [], _, _, _, _, _, h => h.elim
  | _ :: _, _ :: _, [], _, _, _, _, h => h.elim
theorem post_law {f : Func} {s : ChangeSpec} {apart fresh handsOn : Bool} {t : TypeId} {W W' : World} {args : Array Value} {ds gs : List (DataW H)} {before : List MemPlace}
    (hW : DataW.Whole enc P f.params.toList s.vars apart W args.toList ds gs before) (hv : s.vars = []) (hfn : s.fn H (ds ++ gs) = { results := [.lit (.bool true)], args := ds }) (hrt : f.resultTypes = #[t]) (ht : P.underlying t = some .bool)
    (hl : laidOutB P = true) (hread : ∀ t ∈ f.params.toList, P.readableRec t = true ∧ t < P.types.size) (hb : Below W.heap.size W W') : s.post enc P f apart fresh handsOn false W args (.bool true) W' := by
  have hlt : ∀ p ∈ before, p.block < W.heap.size := fun p hp => hW.lt p hp
  have hW' := hW
  obtain ⟨p, q, h1, h2, rfl, _, _⟩ := hW
  rw [hv] at h2
  obtain ⟨rfl, rfl⟩ := trodVars_none h2
  simp only [List.append_nil] at hlt hW' hfn
  refine ⟨ds, [], p, [], p, [], hW', ?_, ?_, ?_, World.keptBut_mono (fun x hx => ⟨hx, Or.inr (Or.inl hx)⟩) (hb.frame (· ∈ p)), fun h => by cases h⟩
  · simp only [List.append_nil, hfn, hrt]
    exact trodAll_mk1 (shut_bool ht true)
  · simp only [List.append_nil, hfn]
    exact trodAll_carry hl hb _ _ _ _ hread hlt (fun x hx => by simpa using hlt x hx) h1
  · simp only [List.append_nil, hfn, hv]
    rfl
/-- Bytes that read as data. -/
theorem open_bytesR {t e : TypeId} {r : Reach} {b0 : Nat} {v : Value} {d : DataW H} {ps : List MemPlace} {W : World} (ht : P.underlying t = some (.slice e)) (he : P.underlying e = some (.int .u8)) (hc : P.cellsOf e = 1) (hval : Value.okWide P W r b0 t v)
    (hd : DataW.Trod enc P W 0 (fun _ => true) true t v d ps) : ∃ A len cap, ∃ l : List UInt8, v = .slice A len cap ∧ l.length = len ∧ len ≤ cap ∧ cap ≤ maxLen ∧ Reads W A len 1 (l.map fun c => Value.int .u8 c.toNat) := by
  obtain ⟨A, len, cap, rfl⟩ := okWide_slice ht hval
  obtain ⟨fuel, hf⟩ := hd
  have e1 : (Value.slice A len cap).cells.toList = [.slice A len cap] := rfl
  rw [e1] at hf
  rcases open_ints ht he hc hf with ⟨h, _⟩ | ⟨a, len', cap', zs, h, _, hl, hm, hz, _, hcell, hwf⟩
  · simp only [List.cons.injEq, Value.slice.injEq, and_true] at h
    obtain ⟨rfl, rfl, rfl⟩ := h
    exact ⟨none, 0, 0, [], rfl, rfl, Nat.le_refl _, Nat.zero_le _, Reads.nil _ _ _⟩
  · simp only [List.cons.injEq, Value.slice.injEq, and_true] at h
    obtain ⟨rfl, rfl, rfl⟩ := h
    simp only [if_true] at hz
    refine ⟨some a, len, cap, (zs.take len).map fun z => UInt8.ofNat z.toNat, rfl, by simp; omega, hl, hm, by simp; omega, fun h0 => ?_⟩
    have hs : a = ⟨a.block, a.off, none⟩ := by
      have h1 := hcell 0 (by omega)
      obtain ⟨b, p, s⟩ := a
      cases s with
      | none => rfl
      | some s =>
        exfalso
        simp only [World.cell?, Addr.add] at h1
        split at h1 <;> simp at h1
    refine ⟨a.block, a.off, congrArg some hs, fun j u hu => ?_⟩
    have hj : j < len := by have := (List.getElem?_eq_some_iff.1 hu).1; simp at this; omega
    have h1 := hcell j (by omega)
    rw [hs, Addr.add_lit] at h1
    have hjz : j < zs.length := by omega
    have hw := hwf zs[j] (List.getElem_mem hjz)
    have hget : zs.getD j 0 = zs[j] := by simp [List.getD_eq_getElem?_getD, hjz]
    rw [h1, hget]
    rw [← hu]
    simp only [List.getElem?_map, List.getElem?_take, hj, if_true, List.getElem?_eq_getElem hjz, Option.map_some]
    congr 2
    have hr : 0 ≤ zs[j] ∧ zs[j] < 256 := by
      have h5 : IntKind.u8.min ≤ zs[j] ∧ zs[j] ≤ IntKind.u8.max := by simpa [Lit.wf] using hw
      have h6 : IntKind.u8.min = 0 := rfl
      have h7 : IntKind.u8.max = 255 := rfl
      omega
    rw [UInt8.toNat_ofNat', Nat.mod_eq_of_lt (by omega)]
    omega
end
end Go.Proofs.YtcjpcmofajcadaaDoor

/- The rules: parts of structs, elements of slices. -/
namespace Go.Proofs.YtcjpcmofajcadaaDoor
open Go.RowKit
section
variable {P : Program} {ops : Array Oper} {Q : Exit → Act → World → Prop} {o : Oper} {KK : Act → World → Prop} {n : Nat} {D : List Deferred} {L : List (Nat × Value)} {B : Nat → Prop} {w0 : World} {H : List Ck} {a : Act} {w : World} {d : Nat} {T : List (TypeId × TI)} {K : Ck → List Ck}
theorem y_store_put {x y : Operand} {t e : TypeId} {i : TI} {b p : Nat} {cs cs' vs : List Value} (hX : Sym n D L B w0 H a w) (hop : o.op = .store t x y) (ho : o.guard = none ∧ o.dst = none)
    (hT : TabOk P T) (h1 : T.lookup t = some i) (hx : ev L x = some (.pointer (some ⟨b, p, none⟩))) (hy : ev L y = some (.agg vs.toArray)) (h2 : vs.all (·.oneCell') = true) (hf : Foc H (.cel b cs e) K) (hl : vs.length = i.size) (hp : PutAt cs p vs cs')
    (h : ∀ a' w', Sym n D L B w0 (K (.cel b cs' e)) a' w' → KK a' w') : XO P ops o KK a w := by
  obtain ⟨rfl, hle⟩ := hp.eq
  have hvc : (Value.agg vs.toArray).cells = vs.toArray := rfl
  have hrun := run_storeVar_at (w := w) (v := .agg vs.toArray) (p := p) (hT _ _ h1) (cel_block hX.sh hf) (by rw [hvc]; simpa using hl) (by rw [hvc]; simpa using h2) (by rw [hvc]; simpa using hle)
  refine y_skip hX ho (w' := _) (by simp [execOp, hop, hX.ev hx, hX.ev hy, Instr.storeAt, Instr.sureAddr, hrun]; rfl) (H' := K (.cel b (cs.take p ++ vs ++ cs.drop (p + vs.length)) e)) ?_ h
  refine hX.sh.setC hf ⟨rfl, rfl, rfl, by simp⟩ ?_ fun k hk => setRow_other w b k _ hk
  rw [setRow_heap w b cs.toArray _ e _ (cel_block hX.sh hf)]
  simp [hvc]
end
theorem flat_length {α : Type} (f : α → List Value) (s : Nat) (hf : ∀ x, (f x).length = s) (l : List α) : (l.flatMap f).length = l.length * s := by
  induction l with
  | nil => simp
  | cons x l ih => rw [List.flatMap_cons, List.length_append, ih, hf, List.length_cons, Nat.add_mul]; omega
theorem flat_get {α : Type} (f : α → List Value) (s : Nat) (hf : ∀ x, (f x).length = s) (l : List α) (k j : Nat) (hk : k < l.length) (v : Value) (hv : (f l[k])[j]? = some v) : (l.flatMap f)[k * s + j]? = some v := by
  induction l generalizing k with
  | nil => simp at hk
  | cons x l ih =>
    have hx := hf x
    cases k with
    | zero =>
      have hj := (List.getElem?_eq_some_iff.1 hv).1
      rw [List.flatMap_cons, List.getElem?_append_left (by simp only [List.getElem_cons_zero] at hj; omega)]
      simpa using hv
    | succ k =>
      have := ih k (by simpa using hk) (by simpa using hv)
      rw [List.flatMap_cons, List.getElem?_append_right (by rw [hx, Nat.add_mul]; omega), hx, show (k + 1) * s + j - s = k * s + j by rw [Nat.add_mul]; omega]
      exact this
theorem Reads.elem {α : Type} {f : α → List Value} {s : Nat} (hf : ∀ x, (f x).length = s) (hs : 0 < s) {w : World} {A : Option Addr} {l : List α} (h : Reads w A l.length s (l.flatMap f)) {k : Nat} (hk : k < l.length) :
    ∃ b p, A = some ⟨b, p, none⟩ ∧ b < w.heap.size ∧ ∀ j v, (f l[k])[j]? = some v → w.cell? ⟨b, p + k * s + j, none⟩ = some v := by
  obtain ⟨b, p, e, hc⟩ := h.2 (by omega)
  have hh : ∀ j v, (f l[k])[j]? = some v → w.cell? ⟨b, p + k * s + j, none⟩ = some v := fun j v hv => by
    have := hc _ v (flat_get f s hf l k j hk v hv)
    rwa [← Nat.add_assoc] at this
  have h0 : 0 < (f l[k]).length := by rw [hf]; exact hs
  exact ⟨b, p, e, World.block_lt_of_cell? w _ (hh 0 _ (List.getElem?_eq_getElem h0)), hh⟩
/-- A piece among many. -/
theorem Reads.rowM {B : Nat → Prop} {w0 w : World} {H : List Ck} (hH : SH B w0 H w) {A : Option Addr} {c : Nat} {e : TypeId} {size n : Nat} {xs : List Value} (hm : Ck.row A c e size n xs ∈ H) : Reads w A n size xs := by
  obtain ⟨X, Y, rfl⟩ := List.append_of_mem hm
  exact Reads.row hH (K := fun c => X ++ c :: Y) ⟨X, Y, rfl, rfl⟩
end Go.Proofs.YtcjpcmofajcadaaDoor

/- Arguments that read as data: slices of structs. -/
namespace Go.Proofs.YtcjpcmofajcadaaDoor
open Go.ChangeShapes Go.WideShapes Go.ChangeAt Go.RowKit
section
variable {H : Type} {enc : TypeId × Value → H} {P : Program} {W : World}
theorem spot_none {a : Addr} {v : Value} (h : W.cell? a = some v) : a = ⟨a.block, a.off, none⟩ := by
  obtain ⟨b, p, s⟩ := a
  cases s with
  | none => rfl
  | some s =>
    exfalso
    simp only [World.cell?] at h
    split at h <;> simp at h
theorem choose_list {α : Type} {Q : Nat → α → Prop} : ∀ n : Nat, (∀ i, i < n → ∃ x, Q i x) → ∃ l : List α, l.length = n ∧ ∀ i (hi : i < l.length), Q i l[i]
  | 0, _ => ⟨[], rfl, fun i hi => by simp at hi⟩
  | n + 1, h => by
    obtain ⟨l, hl, hq⟩ := choose_list n (fun i hi => h i (by omega))
    obtain ⟨x, hx⟩ := h n (by omega)
    refine ⟨l ++ [x], by simp [hl], fun i hi => ?_⟩
    by_cases hi' : i < l.length
    · rw [List.getElem_append_left hi']; exact hq i hi'
    · have : i = n := by simp at hi; omega
      subst this
      rw [List.getElem_append_right (by omega)]
      simpa [hl] using hx
/-- A slice whose elements' cells can be told from their reading. -/
theorem open_list {α : Type} {f : α → List Value} {s : Nat} (hs : ∀ x, (f x).length = s) (hs0 : 0 < s) {t e : TypeId} {r : Reach} {b0 : Nat} {v : Value} {d : DataW H} {ps : List MemPlace} (ht : P.underlying t = some (.slice e)) (hc : P.cellsOf e = s)
    (hdec : ∀ k cs x, DataW.trod enc P W 0 (fun _ => true) true k e cs = some x → ∃ y : α, cs = f y) (hval : Value.okWide P W r b0 t v) (hd : DataW.Trod enc P W 0 (fun _ => true) true t v d ps) :
    ∃ A len cap, ∃ l : List α, v = .slice A len cap ∧ l.length = len ∧ len ≤ cap ∧ cap ≤ maxLen ∧ Reads W A len s (l.flatMap f) := by
  obtain ⟨A, len, cap, rfl⟩ := okWide_slice ht hval
  obtain ⟨fuel, hf⟩ := hd
  have e1 : (Value.slice A len cap).cells.toList = [.slice A len cap] := rfl
  rw [e1] at hf
  rcases DataW.trod_slice ht hf with ⟨h, _⟩ | ⟨a, len', cap', elems, rest, n, _, h, _, _, hl, hm, hlen, hel, _, _⟩
  · simp only [List.cons.injEq, Value.slice.injEq, and_true] at h
    obtain ⟨rfl, rfl, rfl⟩ := h
    exact ⟨none, 0, 0, [], rfl, rfl, Nat.le_refl _, Nat.zero_le _, Reads.nil _ _ _⟩
  · simp only [List.cons.injEq, Value.slice.injEq, and_true] at h
    obtain ⟨rfl, rfl, rfl⟩ := h
    rw [hc] at hel
    obtain ⟨l, hll, hq⟩ := choose_list (Q := fun i (y : α) => ∀ j, j < s → W.cell? ((a.add (i * s)).add j) = (f y)[j]?) len (fun i hi => by
      have h1 := hel i hi
      have h2 : elems[i]? = some (elems[i]'(by omega)) := List.getElem?_eq_getElem (by omega)
      rw [h2, Option.bind_eq_some_iff] at h1
      obtain ⟨cs, h3, h4⟩ := h1
      obtain ⟨y, rfl⟩ := hdec _ _ _ h4
      exact ⟨y, (World.cells?_some h3).2.2⟩)
    refine ⟨some a, len, cap, l, rfl, hll, hl, hm, by rw [flat_length f s hs, hll], fun h0 => ?_⟩
    have hz := hq 0 (by omega) 0 hs0
    have hz' : W.cell? a = some ((f l[0])[0]'(by rw [hs]; exact hs0)) := by
      have e2 : (a.add (0 * s)).add 0 = a := by simp [Addr.add]
      rw [e2, List.getElem?_eq_getElem (by rw [hs]; exact hs0)] at hz
      exact hz
    have hsp := spot_none hz'
    refine ⟨a.block, a.off, congrArg some hsp, fun j u hu => ?_⟩
    have hj : j < len * s := by have := (List.getElem?_eq_some_iff.1 hu).1; rwa [flat_length f s hs, hll] at this
    have hdiv : j / s < len := (Nat.div_lt_iff_lt_mul hs0).2 hj
    have hmod := Nat.mod_lt j hs0
    have h5 := hq (j / s) (by omega) (j % s) hmod
    rw [hsp, Addr.add_lit, Addr.add_lit, List.getElem?_eq_getElem (by rw [hs]; exact hmod)] at h5
    have h6 := flat_get f s hs l (j / s) (j % s) (by omega) _ (List.getElem?_eq_getElem (by rw [hs]; exact hmod))
    have hjs : j / s * s + j % s = j := by rw [Nat.mul_comm]; exact Nat.div_add_mod j s
    rw [hjs, hu] at h6
    rw [Nat.add_assoc, hjs] at h5
    rw [h5, h6]
theorem dec_u8 {e : TypeId} (he : P.underlying e = some (.int .u8)) {k : Nat} {cs : List Value} {x : DataW H × List MemPlace} (h : DataW.trod enc P W 0 (fun _ => true) true k e cs = some x) : ∃ c : UInt8, cs = [.int .u8 c.toNat] := by
  obtain ⟨n, rfl, _, hw⟩ := DataW.trod_int he h
  have h5 : IntKind.u8.min ≤ n ∧ n ≤ IntKind.u8.max := by simpa [Lit.wf] using hw
  have h6 : IntKind.u8.min = 0 := rfl
  have h7 : IntKind.u8.max = 255 := rfl
  refine ⟨UInt8.ofNat n.toNat, ?_⟩
  rw [UInt8.toNat_ofNat', Nat.mod_eq_of_lt (by omega)]
  simp
  omega
theorem dec_i64 {e : TypeId} (he : P.underlying e = some (.int .i64)) {k : Nat} {cs : List Value} {x : DataW H × List MemPlace} (h : DataW.trod enc P W 0 (fun _ => true) true k e cs = some x) : ∃ n : Int, cs = [.int .i64 n] ∧ -9223372036854775808 ≤ n ∧ n ≤ 9223372036854775807 := by
  obtain ⟨n, rfl, _, hw⟩ := DataW.trod_int he h
  have h5 : IntKind.i64.min ≤ n ∧ n ≤ IntKind.i64.max := by simpa [Lit.wf] using hw
  have h6 : IntKind.i64.min = -9223372036854775808 := rfl
  have h7 : IntKind.i64.max = 9223372036854775807 := rfl
  exact ⟨n, rfl, by omega, by omega⟩
end
end Go.Proofs.YtcjpcmofajcadaaDoor

/- The table of types of the translation. -/
namespace Go.Proofs.YtcjpcmofajcadaaDoor

def ti1 : TI := { desc := TypeDesc.func #[] #[] false, size := 1, bytes := 8, zero := Value.nilFunc }
theorem ti1_ok : TI.ok Tryd.prog 1 ti1 := ⟨Tryd.underlying1, by kernel_rfl⟩
def ti2 : TI := { desc := TypeDesc.int IntKind.i64, size := 1, bytes := 8, zero := Value.int IntKind.i64 0 }
theorem ti2_ok : TI.ok Tryd.prog 2 ti2 := ⟨Tryd.underlying2, by kernel_rfl⟩
def ti3 : TI := { desc := TypeDesc.int IntKind.i64, size := 1, bytes := 8, zero := Value.int IntKind.i64 0 }
theorem ti3_ok : TI.ok Tryd.prog 3 ti3 := ⟨Tryd.underlying3, by kernel_rfl⟩
def ti4 : TI := { desc := TypeDesc.bool, size := 1, bytes := 1, zero := Value.bool false }
theorem ti4_ok : TI.ok Tryd.prog 4 ti4 := ⟨Tryd.underlying4, by kernel_rfl⟩
def ti5 : TI := { desc := TypeDesc.int IntKind.u8, size := 1, bytes := 1, zero := Value.int IntKind.u8 0 }
theorem ti5_ok : TI.ok Tryd.prog 5 ti5 := ⟨Tryd.underlying5, by kernel_rfl⟩
def ti6 : TI := { desc := TypeDesc.int IntKind.u8, size := 1, bytes := 1, zero := Value.int IntKind.u8 0 }
theorem ti6_ok : TI.ok Tryd.prog 6 ti6 := ⟨Tryd.underlying6, by kernel_rfl⟩
def ti9 : TI := { desc := TypeDesc.string, size := 1, bytes := 16, zero := Value.string { data := #[] } }
theorem ti9_ok : TI.ok Tryd.prog 9 ti9 := ⟨Tryd.underlying9, by kernel_rfl⟩
def ti10 : TI := { desc := TypeDesc.string, size := 1, bytes := 16, zero := Value.string { data := #[] } }
theorem ti10_ok : TI.ok Tryd.prog 10 ti10 := ⟨Tryd.underlying10, by kernel_rfl⟩
def ti11 : TI := { desc := TypeDesc.string, size := 1, bytes := 16, zero := Value.string { data := #[] } }
theorem ti11_ok : TI.ok Tryd.prog 11 ti11 := ⟨Tryd.underlying11, by kernel_rfl⟩
def ti12 : TI := { desc := TypeDesc.int IntKind.u64, size := 1, bytes := 8, zero := Value.int IntKind.u64 0 }
theorem ti12_ok : TI.ok Tryd.prog 12 ti12 := ⟨Tryd.underlying12, by kernel_rfl⟩
def ti15 : TI := { desc := TypeDesc.pointer 167, size := 1, bytes := 8, zero := Value.pointer none }
theorem ti15_ok : TI.ok Tryd.prog 15 ti15 := ⟨Tryd.underlying15, by kernel_rfl⟩
def ti16 : TI := { desc := TypeDesc.pointer 170, size := 1, bytes := 8, zero := Value.pointer none }
theorem ti16_ok : TI.ok Tryd.prog 16 ti16 := ⟨Tryd.underlying16, by kernel_rfl⟩
def ti17 : TI := { desc := TypeDesc.pointer 178, size := 1, bytes := 8, zero := Value.pointer none }
theorem ti17_ok : TI.ok Tryd.prog 17 ti17 := ⟨Tryd.underlying17, by kernel_rfl⟩
def ti20 : TI := { desc := TypeDesc.interface #[], size := 1, bytes := 16, zero := Value.nilIface }
theorem ti20_ok : TI.ok Tryd.prog 20 ti20 := ⟨Tryd.underlying20, by kernel_rfl⟩
def ti21 : TI := { desc := TypeDesc.int IntKind.i32, size := 1, bytes := 4, zero := Value.int IntKind.i32 0 }
theorem ti21_ok : TI.ok Tryd.prog 21 ti21 := ⟨Tryd.underlying21, by kernel_rfl⟩
def ti22 : TI := { desc := TypeDesc.slice 72, size := 1, bytes := 24, zero := Value.slice none 0 0 }
theorem ti22_ok : TI.ok Tryd.prog 22 ti22 := ⟨Tryd.underlying22, by kernel_rfl⟩
def ti23 : TI := { desc := TypeDesc.slice 72, size := 1, bytes := 24, zero := Value.slice none 0 0 }
theorem ti23_ok : TI.ok Tryd.prog 23 ti23 := ⟨Tryd.underlying23, by kernel_rfl⟩
def ti24 : TI := { desc := TypeDesc.slice 3, size := 1, bytes := 24, zero := Value.slice none 0 0 }
theorem ti24_ok : TI.ok Tryd.prog 24 ti24 := ⟨Tryd.underlying24, by kernel_rfl⟩
def ti26 : TI := { desc := TypeDesc.func #[4] #[24, 24, 24] false, size := 1, bytes := 8, zero := Value.nilFunc }
theorem ti26_ok : TI.ok Tryd.prog 26 ti26 := ⟨Tryd.underlying26, by kernel_rfl⟩
def ti27 : TI := { desc := TypeDesc.slice 55, size := 1, bytes := 24, zero := Value.slice none 0 0 }
theorem ti27_ok : TI.ok Tryd.prog 27 ti27 := ⟨Tryd.underlying27, by kernel_rfl⟩
def ti28 : TI := { desc := TypeDesc.int IntKind.i64, size := 1, bytes := 8, zero := Value.int IntKind.i64 0 }
theorem ti28_ok : TI.ok Tryd.prog 28 ti28 := ⟨Tryd.underlying28, by kernel_rfl⟩
def ti30 : TI := { desc := TypeDesc.func #[24, 24] #[27, 28] false, size := 1, bytes := 8, zero := Value.nilFunc }
theorem ti30_ok : TI.ok Tryd.prog 30 ti30 := ⟨Tryd.underlying30, by kernel_rfl⟩
def ti31 : TI := { desc := TypeDesc.pointer 33, size := 1, bytes := 8, zero := Value.pointer none }
theorem ti31_ok : TI.ok Tryd.prog 31 ti31 := ⟨Tryd.underlying31, by kernel_rfl⟩
def ti32 : TI := { desc := TypeDesc.struct #[{ name := "ops", type := 27, offset := 0, embedded := false, tag := "", pkgPath := "gansey/ganseylaw27", byteOffset := 0 }, { name := "rack", type := 3, offset := 1, embedded := false, tag := "", pkgPath := "gansey/ganseylaw27", byteOffset := 24 }], size := 2, bytes := 32, zero := Value.agg #[Value.slice none 0 0, Value.int IntKind.i64 0] }
theorem ti32_ok : TI.ok Tryd.prog 32 ti32 := ⟨Tryd.underlying32, by kernel_rfl⟩
def ti33 : TI := { desc := TypeDesc.struct #[{ name := "ops", type := 27, offset := 0, embedded := false, tag := "", pkgPath := "gansey/ganseylaw27", byteOffset := 0 }, { name := "rack", type := 3, offset := 1, embedded := false, tag := "", pkgPath := "gansey/ganseylaw27", byteOffset := 24 }], size := 2, bytes := 32, zero := Value.agg #[Value.slice none 0 0, Value.int IntKind.i64 0] }
theorem ti33_ok : TI.ok Tryd.prog 33 ti33 := ⟨Tryd.underlying33, by kernel_rfl⟩
def ti34 : TI := { desc := TypeDesc.func #[24, 3] #[] false, size := 1, bytes := 8, zero := Value.nilFunc }
theorem ti34_ok : TI.ok Tryd.prog 34 ti34 := ⟨Tryd.underlying34, by kernel_rfl⟩
def ti35 : TI := { desc := TypeDesc.func #[3] #[] false, size := 1, bytes := 8, zero := Value.nilFunc }
theorem ti35_ok : TI.ok Tryd.prog 35 ti35 := ⟨Tryd.underlying35, by kernel_rfl⟩
def ti36 : TI := { desc := TypeDesc.func #[27] #[9] false, size := 1, bytes := 8, zero := Value.nilFunc }
theorem ti36_ok : TI.ok Tryd.prog 36 ti36 := ⟨Tryd.underlying36, by kernel_rfl⟩
def ti37 : TI := { desc := TypeDesc.func #[] #[4] false, size := 1, bytes := 8, zero := Value.nilFunc }
theorem ti37_ok : TI.ok Tryd.prog 37 ti37 := ⟨Tryd.underlying37, by kernel_rfl⟩
def ti38 : TI := { desc := TypeDesc.func #[23, 4] #[4] false, size := 1, bytes := 8, zero := Value.nilFunc }
theorem ti38_ok : TI.ok Tryd.prog 38 ti38 := ⟨Tryd.underlying38, by kernel_rfl⟩
def ti39 : TI := { desc := TypeDesc.array 4 5, size := 4, bytes := 4, zero := Value.agg #[Value.int IntKind.u8 0, Value.int IntKind.u8 0, Value.int IntKind.u8 0, Value.int IntKind.u8 0] }
theorem ti39_ok : TI.ok Tryd.prog 39 ti39 := ⟨Tryd.underlying39, by kernel_rfl⟩
def ti40 : TI := { desc := TypeDesc.func #[3, 3, 3, 3] #[3] false, size := 1, bytes := 8, zero := Value.nilFunc }
theorem ti40_ok : TI.ok Tryd.prog 40 ti40 := ⟨Tryd.underlying40, by kernel_rfl⟩
def ti41 : TI := { desc := TypeDesc.func #[39, 4] #[4] false, size := 1, bytes := 8, zero := Value.nilFunc }
theorem ti41_ok : TI.ok Tryd.prog 41 ti41 := ⟨Tryd.underlying41, by kernel_rfl⟩
def ti42 : TI := { desc := TypeDesc.slice 5, size := 1, bytes := 24, zero := Value.slice none 0 0 }
theorem ti42_ok : TI.ok Tryd.prog 42 ti42 := ⟨Tryd.underlying42, by kernel_rfl⟩
def ti43 : TI := { desc := TypeDesc.slice 46, size := 1, bytes := 24, zero := Value.slice none 0 0 }
theorem ti43_ok : TI.ok Tryd.prog 43 ti43 := ⟨Tryd.underlying43, by kernel_rfl⟩
def ti44 : TI := { desc := TypeDesc.int IntKind.u8, size := 1, bytes := 1, zero := Value.int IntKind.u8 0 }
theorem ti44_ok : TI.ok Tryd.prog 44 ti44 := ⟨Tryd.underlying44, by kernel_rfl⟩
def ti45 : TI := { desc := TypeDesc.struct #[{ name := "Bed", type := 44, offset := 0, embedded := false, tag := "", pkgPath := "", byteOffset := 0 }, { name := "At", type := 3, offset := 1, embedded := false, tag := "", pkgPath := "", byteOffset := 8 }], size := 2, bytes := 16, zero := Value.agg #[Value.int IntKind.u8 0, Value.int IntKind.i64 0] }
theorem ti45_ok : TI.ok Tryd.prog 45 ti45 := ⟨Tryd.underlying45, by kernel_rfl⟩
def ti46 : TI := { desc := TypeDesc.struct #[{ name := "Bed", type := 44, offset := 0, embedded := false, tag := "", pkgPath := "", byteOffset := 0 }, { name := "At", type := 3, offset := 1, embedded := false, tag := "", pkgPath := "", byteOffset := 8 }], size := 2, bytes := 16, zero := Value.agg #[Value.int IntKind.u8 0, Value.int IntKind.i64 0] }
theorem ti46_ok : TI.ok Tryd.prog 46 ti46 := ⟨Tryd.underlying46, by kernel_rfl⟩
def ti47 : TI := { desc := TypeDesc.func #[24] #[28] false, size := 1, bytes := 8, zero := Value.nilFunc }
theorem ti47_ok : TI.ok Tryd.prog 47 ti47 := ⟨Tryd.underlying47, by kernel_rfl⟩
def ti48 : TI := { desc := TypeDesc.func #[43] #[27, 28] false, size := 1, bytes := 8, zero := Value.nilFunc }
theorem ti48_ok : TI.ok Tryd.prog 48 ti48 := ⟨Tryd.underlying48, by kernel_rfl⟩
def ti49 : TI := { desc := TypeDesc.func #[24, 24, 42] #[4] false, size := 1, bytes := 8, zero := Value.nilFunc }
theorem ti49_ok : TI.ok Tryd.prog 49 ti49 := ⟨Tryd.underlying49, by kernel_rfl⟩
def ti50 : TI := { desc := TypeDesc.func #[23] #[24] false, size := 1, bytes := 8, zero := Value.nilFunc }
theorem ti50_ok : TI.ok Tryd.prog 50 ti50 := ⟨Tryd.underlying50, by kernel_rfl⟩
def ti51 : TI := { desc := TypeDesc.func #[5, 24] #[27, 28] false, size := 1, bytes := 8, zero := Value.nilFunc }
theorem ti51_ok : TI.ok Tryd.prog 51 ti51 := ⟨Tryd.underlying51, by kernel_rfl⟩
def ti52 : TI := { desc := TypeDesc.int IntKind.u8, size := 1, bytes := 1, zero := Value.int IntKind.u8 0 }
theorem ti52_ok : TI.ok Tryd.prog 52 ti52 := ⟨Tryd.underlying52, by kernel_rfl⟩
def ti53 : TI := { desc := TypeDesc.int IntKind.u8, size := 1, bytes := 1, zero := Value.int IntKind.u8 0 }
theorem ti53_ok : TI.ok Tryd.prog 53 ti53 := ⟨Tryd.underlying53, by kernel_rfl⟩
def ti54 : TI := { desc := TypeDesc.struct #[{ name := "Kind", type := 52, offset := 0, embedded := false, tag := "", pkgPath := "", byteOffset := 0 }, { name := "Dir", type := 53, offset := 1, embedded := false, tag := "", pkgPath := "", byteOffset := 1 }, { name := "Needle", type := 46, offset := 2, embedded := false, tag := "", pkgPath := "", byteOffset := 8 }, { name := "Yarn", type := 5, offset := 4, embedded := false, tag := "", pkgPath := "", byteOffset := 24 }, { name := "Rack", type := 3, offset := 5, embedded := false, tag := "", pkgPath := "", byteOffset := 32 }], size := 6, bytes := 40, zero := Value.agg #[Value.int IntKind.u8 0, Value.int IntKind.u8 0, Value.int IntKind.u8 0, Value.int IntKind.i64 0, Value.int IntKind.u8 0, Value.int IntKind.i64 0] }
theorem ti54_ok : TI.ok Tryd.prog 54 ti54 := ⟨Tryd.underlying54, by kernel_rfl⟩
def ti55 : TI := { desc := TypeDesc.struct #[{ name := "Kind", type := 52, offset := 0, embedded := false, tag := "", pkgPath := "", byteOffset := 0 }, { name := "Dir", type := 53, offset := 1, embedded := false, tag := "", pkgPath := "", byteOffset := 1 }, { name := "Needle", type := 46, offset := 2, embedded := false, tag := "", pkgPath := "", byteOffset := 8 }, { name := "Yarn", type := 5, offset := 4, embedded := false, tag := "", pkgPath := "", byteOffset := 24 }, { name := "Rack", type := 3, offset := 5, embedded := false, tag := "", pkgPath := "", byteOffset := 32 }], size := 6, bytes := 40, zero := Value.agg #[Value.int IntKind.u8 0, Value.int IntKind.u8 0, Value.int IntKind.u8 0, Value.int IntKind.i64 0, Value.int IntKind.u8 0, Value.int IntKind.i64 0] }
theorem ti55_ok : TI.ok Tryd.prog 55 ti55 := ⟨Tryd.underlying55, by kernel_rfl⟩
def ti56 : TI := { desc := TypeDesc.func #[55] #[9] false, size := 1, bytes := 8, zero := Value.nilFunc }
theorem ti56_ok : TI.ok Tryd.prog 56 ti56 := ⟨Tryd.underlying56, by kernel_rfl⟩
def ti57 : TI := { desc := TypeDesc.func #[42] #[27, 28] false, size := 1, bytes := 8, zero := Value.nilFunc }
theorem ti57_ok : TI.ok Tryd.prog 57 ti57 := ⟨Tryd.underlying57, by kernel_rfl⟩
def ti58 : TI := { desc := TypeDesc.func #[23, 5, 5] #[4] false, size := 1, bytes := 8, zero := Value.nilFunc }
theorem ti58_ok : TI.ok Tryd.prog 58 ti58 := ⟨Tryd.underlying58, by kernel_rfl⟩
def ti59 : TI := { desc := TypeDesc.func #[24, 5, 42] #[4] false, size := 1, bytes := 8, zero := Value.nilFunc }
theorem ti59_ok : TI.ok Tryd.prog 59 ti59 := ⟨Tryd.underlying59, by kernel_rfl⟩
def ti60 : TI := { desc := TypeDesc.struct #[{ name := "Width", type := 5, offset := 0, embedded := false, tag := "", pkgPath := "", byteOffset := 0 }, { name := "Rounds", type := 42, offset := 1, embedded := false, tag := "", pkgPath := "", byteOffset := 8 }], size := 2, bytes := 32, zero := Value.agg #[Value.int IntKind.u8 0, Value.slice none 0 0] }
theorem ti60_ok : TI.ok Tryd.prog 60 ti60 := ⟨Tryd.underlying60, by kernel_rfl⟩
def ti61 : TI := { desc := TypeDesc.struct #[{ name := "Width", type := 5, offset := 0, embedded := false, tag := "", pkgPath := "", byteOffset := 0 }, { name := "Rounds", type := 42, offset := 1, embedded := false, tag := "", pkgPath := "", byteOffset := 8 }], size := 2, bytes := 32, zero := Value.agg #[Value.int IntKind.u8 0, Value.slice none 0 0] }
theorem ti61_ok : TI.ok Tryd.prog 61 ti61 := ⟨Tryd.underlying61, by kernel_rfl⟩
def ti62 : TI := { desc := TypeDesc.struct #[{ name := "Width", type := 3, offset := 0, embedded := false, tag := "", pkgPath := "", byteOffset := 0 }, { name := "Rounds", type := 42, offset := 1, embedded := false, tag := "", pkgPath := "", byteOffset := 8 }], size := 2, bytes := 32, zero := Value.agg #[Value.int IntKind.i64 0, Value.slice none 0 0] }
theorem ti62_ok : TI.ok Tryd.prog 62 ti62 := ⟨Tryd.underlying62, by kernel_rfl⟩
def ti63 : TI := { desc := TypeDesc.struct #[{ name := "Width", type := 3, offset := 0, embedded := false, tag := "", pkgPath := "", byteOffset := 0 }, { name := "Rounds", type := 42, offset := 1, embedded := false, tag := "", pkgPath := "", byteOffset := 8 }], size := 2, bytes := 32, zero := Value.agg #[Value.int IntKind.i64 0, Value.slice none 0 0] }
theorem ti63_ok : TI.ok Tryd.prog 63 ti63 := ⟨Tryd.underlying63, by kernel_rfl⟩
def ti64 : TI := { desc := TypeDesc.func #[] #[63] false, size := 1, bytes := 8, zero := Value.nilFunc }
theorem ti64_ok : TI.ok Tryd.prog 64 ti64 := ⟨Tryd.underlying64, by kernel_rfl⟩
def ti65 : TI := { desc := TypeDesc.array 7 4, size := 7, bytes := 7, zero := Value.agg #[Value.bool false, Value.bool false, Value.bool false, Value.bool false, Value.bool false, Value.bool false, Value.bool false] }
theorem ti65_ok : TI.ok Tryd.prog 65 ti65 := ⟨Tryd.underlying65, by kernel_rfl⟩
def ti66 : TI := { desc := TypeDesc.func #[63] #[27, 28] false, size := 1, bytes := 8, zero := Value.nilFunc }
theorem ti66_ok : TI.ok Tryd.prog 66 ti66 := ⟨Tryd.underlying66, by kernel_rfl⟩
def ti68 : TI := { desc := TypeDesc.func #[63] #[24, 28] false, size := 1, bytes := 8, zero := Value.nilFunc }
theorem ti68_ok : TI.ok Tryd.prog 68 ti68 := ⟨Tryd.underlying68, by kernel_rfl⟩
def ti69 : TI := { desc := TypeDesc.func #[24, 24] #[4] false, size := 1, bytes := 8, zero := Value.nilFunc }
theorem ti69_ok : TI.ok Tryd.prog 69 ti69 := ⟨Tryd.underlying69, by kernel_rfl⟩
def ti70 : TI := { desc := TypeDesc.func #[61] #[4] false, size := 1, bytes := 8, zero := Value.nilFunc }
theorem ti70_ok : TI.ok Tryd.prog 70 ti70 := ⟨Tryd.underlying70, by kernel_rfl⟩
def ti71 : TI := { desc := TypeDesc.func #[63] #[4] false, size := 1, bytes := 8, zero := Value.nilFunc }
theorem ti71_ok : TI.ok Tryd.prog 71 ti71 := ⟨Tryd.underlying71, by kernel_rfl⟩
def ti72 : TI := { desc := TypeDesc.array 3 5, size := 3, bytes := 3, zero := Value.agg #[Value.int IntKind.u8 0, Value.int IntKind.u8 0, Value.int IntKind.u8 0] }
theorem ti72_ok : TI.ok Tryd.prog 72 ti72 := ⟨Tryd.underlying72, by kernel_rfl⟩
def ti73 : TI := { desc := TypeDesc.struct #[{ name := "ops", type := 27, offset := 0, embedded := false, tag := "", pkgPath := "gansey/shifts", byteOffset := 0 }, { name := "rack", type := 3, offset := 1, embedded := false, tag := "", pkgPath := "gansey/shifts", byteOffset := 24 }], size := 2, bytes := 32, zero := Value.agg #[Value.slice none 0 0, Value.int IntKind.i64 0] }
theorem ti73_ok : TI.ok Tryd.prog 73 ti73 := ⟨Tryd.underlying73, by kernel_rfl⟩
def ti74 : TI := { desc := TypeDesc.struct #[{ name := "ops", type := 27, offset := 0, embedded := false, tag := "", pkgPath := "gansey/shifts", byteOffset := 0 }, { name := "rack", type := 3, offset := 1, embedded := false, tag := "", pkgPath := "gansey/shifts", byteOffset := 24 }], size := 2, bytes := 32, zero := Value.agg #[Value.slice none 0 0, Value.int IntKind.i64 0] }
theorem ti74_ok : TI.ok Tryd.prog 74 ti74 := ⟨Tryd.underlying74, by kernel_rfl⟩
def ti75 : TI := { desc := TypeDesc.func #[3] #[3] false, size := 1, bytes := 8, zero := Value.nilFunc }
theorem ti75_ok : TI.ok Tryd.prog 75 ti75 := ⟨Tryd.underlying75, by kernel_rfl⟩
def ti76 : TI := { desc := TypeDesc.func #[105] #[] false, size := 1, bytes := 8, zero := Value.nilFunc }
theorem ti76_ok : TI.ok Tryd.prog 76 ti76 := ⟨Tryd.underlying76, by kernel_rfl⟩
def ti77 : TI := { desc := TypeDesc.func #[105] #[] false, size := 1, bytes := 8, zero := Value.nilFunc }
theorem ti77_ok : TI.ok Tryd.prog 77 ti77 := ⟨Tryd.underlying77, by kernel_rfl⟩
def ti78 : TI := { desc := TypeDesc.func #[24] #[77] false, size := 1, bytes := 8, zero := Value.nilFunc }
theorem ti78_ok : TI.ok Tryd.prog 78 ti78 := ⟨Tryd.underlying78, by kernel_rfl⟩
def ti79 : TI := { desc := TypeDesc.func #[27] #[27] false, size := 1, bytes := 8, zero := Value.nilFunc }
theorem ti79_ok : TI.ok Tryd.prog 79 ti79 := ⟨Tryd.underlying79, by kernel_rfl⟩
def ti80 : TI := { desc := TypeDesc.func #[24, 3] #[24] false, size := 1, bytes := 8, zero := Value.nilFunc }
theorem ti80_ok : TI.ok Tryd.prog 80 ti80 := ⟨Tryd.underlying80, by kernel_rfl⟩
def ti81 : TI := { desc := TypeDesc.func #[24, 3, 3] #[4] false, size := 1, bytes := 8, zero := Value.nilFunc }
theorem ti81_ok : TI.ok Tryd.prog 81 ti81 := ⟨Tryd.underlying81, by kernel_rfl⟩
def ti82 : TI := { desc := TypeDesc.slice 24, size := 1, bytes := 24, zero := Value.slice none 0 0 }
theorem ti82_ok : TI.ok Tryd.prog 82 ti82 := ⟨Tryd.underlying82, by kernel_rfl⟩
def ti83 : TI := { desc := TypeDesc.slice 9, size := 1, bytes := 24, zero := Value.slice none 0 0 }
theorem ti83_ok : TI.ok Tryd.prog 83 ti83 := ⟨Tryd.underlying83, by kernel_rfl⟩
def ti84 : TI := { desc := TypeDesc.array 64 4, size := 64, bytes := 64, zero := Value.agg #[Value.bool false, Value.bool false, Value.bool false, Value.bool false, Value.bool false, Value.bool false, Value.bool false, Value.bool false, Value.bool false, Value.bool false, Value.bool false, Value.bool false, Value.bool false, Value.bool false, Value.bool false, Value.bool false, Value.bool false, Value.bool false, Value.bool false, Value.bool false, Value.bool false, Value.bool false, Value.bool false, Value.bool false, Value.bool false, Value.bool false, Value.bool false, Value.bool false, Value.bool false, Value.bool false, Value.bool false, Value.bool false, Value.bool false, Value.bool false, Value.bool false, Value.bool false, Value.bool false, Value.bool false, Value.bool false, Value.bool false, Value.bool false, Value.bool false, Value.bool false, Value.bool false, Value.bool false, Value.bool false, Value.bool false, Value.bool false, Value.bool false, Value.bool false, Value.bool false, Value.bool false, Value.bool false, Value.bool false, Value.bool false, Value.bool false, Value.bool false, Value.bool false, Value.bool false, Value.bool false, Value.bool false, Value.bool false, Value.bool false, Value.bool false] }
theorem ti84_ok : TI.ok Tryd.prog 84 ti84 := ⟨Tryd.underlying84, by kernel_rfl⟩
def ti87 : TI := { desc := TypeDesc.array 3 3, size := 3, bytes := 24, zero := Value.agg #[Value.int IntKind.i64 0, Value.int IntKind.i64 0, Value.int IntKind.i64 0] }
theorem ti87_ok : TI.ok Tryd.prog 87 ti87 := ⟨Tryd.underlying87, by kernel_rfl⟩
def ti88 : TI := { desc := TypeDesc.slice 87, size := 1, bytes := 24, zero := Value.slice none 0 0 }
theorem ti88_ok : TI.ok Tryd.prog 88 ti88 := ⟨Tryd.underlying88, by kernel_rfl⟩
def ti89 : TI := { desc := TypeDesc.func #[3, 3] #[3] false, size := 1, bytes := 8, zero := Value.nilFunc }
theorem ti89_ok : TI.ok Tryd.prog 89 ti89 := ⟨Tryd.underlying89, by kernel_rfl⟩
def ti90 : TI := { desc := TypeDesc.func #[27] #[] true, size := 1, bytes := 8, zero := Value.nilFunc }
theorem ti90_ok : TI.ok Tryd.prog 90 ti90 := ⟨Tryd.underlying90, by kernel_rfl⟩
def ti91 : TI := { desc := TypeDesc.func #[5, 24] #[28] false, size := 1, bytes := 8, zero := Value.nilFunc }
theorem ti91_ok : TI.ok Tryd.prog 91 ti91 := ⟨Tryd.underlying91, by kernel_rfl⟩
def ti92 : TI := { desc := TypeDesc.func #[52, 3] #[55] false, size := 1, bytes := 8, zero := Value.nilFunc }
theorem ti92_ok : TI.ok Tryd.prog 92 ti92 := ⟨Tryd.underlying92, by kernel_rfl⟩
def ti93 : TI := { desc := TypeDesc.func #[3] #[46] false, size := 1, bytes := 8, zero := Value.nilFunc }
theorem ti93_ok : TI.ok Tryd.prog 93 ti93 := ⟨Tryd.underlying93, by kernel_rfl⟩
def ti94 : TI := { desc := TypeDesc.func #[55] #[28] false, size := 1, bytes := 8, zero := Value.nilFunc }
theorem ti94_ok : TI.ok Tryd.prog 94 ti94 := ⟨Tryd.underlying94, by kernel_rfl⟩
def ti95 : TI := { desc := TypeDesc.func #[3] #[9] false, size := 1, bytes := 8, zero := Value.nilFunc }
theorem ti95_ok : TI.ok Tryd.prog 95 ti95 := ⟨Tryd.underlying95, by kernel_rfl⟩
def ti96 : TI := { desc := TypeDesc.array 9 9, size := 9, bytes := 144, zero := Value.agg #[Value.string { data := #[] }, Value.string { data := #[] }, Value.string { data := #[] }, Value.string { data := #[] }, Value.string { data := #[] }, Value.string { data := #[] }, Value.string { data := #[] }, Value.string { data := #[] }, Value.string { data := #[] }] }
theorem ti96_ok : TI.ok Tryd.prog 96 ti96 := ⟨Tryd.underlying96, by kernel_rfl⟩
def ti97 : TI := { desc := TypeDesc.array 2 9, size := 2, bytes := 32, zero := Value.agg #[Value.string { data := #[] }, Value.string { data := #[] }] }
theorem ti97_ok : TI.ok Tryd.prog 97 ti97 := ⟨Tryd.underlying97, by kernel_rfl⟩
def ti98 : TI := { desc := TypeDesc.func #[46] #[9] false, size := 1, bytes := 8, zero := Value.nilFunc }
theorem ti98_ok : TI.ok Tryd.prog 98 ti98 := ⟨Tryd.underlying98, by kernel_rfl⟩
def ti99 : TI := { desc := TypeDesc.func #[83, 9] #[9] false, size := 1, bytes := 8, zero := Value.nilFunc }
theorem ti99_ok : TI.ok Tryd.prog 99 ti99 := ⟨Tryd.underlying99, by kernel_rfl⟩
def ti101 : TI := { desc := TypeDesc.func #[63] #[27, 24, 28] false, size := 1, bytes := 8, zero := Value.nilFunc }
theorem ti101_ok : TI.ok Tryd.prog 101 ti101 := ⟨Tryd.underlying101, by kernel_rfl⟩
def ti102 : TI := { desc := TypeDesc.pointer 74, size := 1, bytes := 8, zero := Value.pointer none }
theorem ti102_ok : TI.ok Tryd.prog 102 ti102 := ⟨Tryd.underlying102, by kernel_rfl⟩
def ti103 : TI := { desc := TypeDesc.func #[24] #[24] false, size := 1, bytes := 8, zero := Value.nilFunc }
theorem ti103_ok : TI.ok Tryd.prog 103 ti103 := ⟨Tryd.underlying103, by kernel_rfl⟩
def ti104 : TI := { desc := TypeDesc.func #[44, 24, 3] #[] false, size := 1, bytes := 8, zero := Value.nilFunc }
theorem ti104_ok : TI.ok Tryd.prog 104 ti104 := ⟨Tryd.underlying104, by kernel_rfl⟩
def ti105 : TI := { desc := TypeDesc.func #[3, 3] #[4] false, size := 1, bytes := 8, zero := Value.nilFunc }
theorem ti105_ok : TI.ok Tryd.prog 105 ti105 := ⟨Tryd.underlying105, by kernel_rfl⟩
def ti106 : TI := { desc := TypeDesc.func #[55] #[4] false, size := 1, bytes := 8, zero := Value.nilFunc }
theorem ti106_ok : TI.ok Tryd.prog 106 ti106 := ⟨Tryd.underlying106, by kernel_rfl⟩
def ti107 : TI := { desc := TypeDesc.func #[46] #[28] false, size := 1, bytes := 8, zero := Value.nilFunc }
theorem ti107_ok : TI.ok Tryd.prog 107 ti107 := ⟨Tryd.underlying107, by kernel_rfl⟩
def ti108 : TI := { desc := TypeDesc.pointer 110, size := 1, bytes := 8, zero := Value.pointer none }
theorem ti108_ok : TI.ok Tryd.prog 108 ti108 := ⟨Tryd.underlying108, by kernel_rfl⟩
def ti109 : TI := { desc := TypeDesc.struct #[{ name := "addr", type := 108, offset := 0, embedded := false, tag := "", pkgPath := "strings", byteOffset := 0 }, { name := "buf", type := 42, offset := 1, embedded := false, tag := "", pkgPath := "strings", byteOffset := 8 }], size := 2, bytes := 32, zero := Value.agg #[Value.pointer none, Value.slice none 0 0] }
theorem ti109_ok : TI.ok Tryd.prog 109 ti109 := ⟨Tryd.underlying109, by kernel_rfl⟩
def ti110 : TI := { desc := TypeDesc.struct #[{ name := "addr", type := 108, offset := 0, embedded := false, tag := "", pkgPath := "strings", byteOffset := 0 }, { name := "buf", type := 42, offset := 1, embedded := false, tag := "", pkgPath := "strings", byteOffset := 8 }], size := 2, bytes := 32, zero := Value.agg #[Value.pointer none, Value.slice none 0 0] }
theorem ti110_ok : TI.ok Tryd.prog 110 ti110 := ⟨Tryd.underlying110, by kernel_rfl⟩
def ti111 : TI := { desc := TypeDesc.interface #[("Error", 115)], size := 1, bytes := 16, zero := Value.nilIface }
theorem ti111_ok : TI.ok Tryd.prog 111 ti111 := ⟨Tryd.underlying111, by kernel_rfl⟩
def ti112 : TI := { desc := TypeDesc.interface #[("Error", 115)], size := 1, bytes := 16, zero := Value.nilIface }
theorem ti112_ok : TI.ok Tryd.prog 112 ti112 := ⟨Tryd.underlying112, by kernel_rfl⟩
def ti114 : TI := { desc := TypeDesc.func #[9] #[3, 112] false, size := 1, bytes := 8, zero := Value.nilFunc }
theorem ti114_ok : TI.ok Tryd.prog 114 ti114 := ⟨Tryd.underlying114, by kernel_rfl⟩
def ti115 : TI := { desc := TypeDesc.func #[] #[9] false, size := 1, bytes := 8, zero := Value.nilFunc }
theorem ti115_ok : TI.ok Tryd.prog 115 ti115 := ⟨Tryd.underlying115, by kernel_rfl⟩
def ti116 : TI := { desc := TypeDesc.func #[63] #[28] false, size := 1, bytes := 8, zero := Value.nilFunc }
theorem ti116_ok : TI.ok Tryd.prog 116 ti116 := ⟨Tryd.underlying116, by kernel_rfl⟩
def ti117 : TI := { desc := TypeDesc.map 5 4, size := 1, bytes := 8, zero := Value.map none }
theorem ti117_ok : TI.ok Tryd.prog 117 ti117 := ⟨Tryd.underlying117, by kernel_rfl⟩
def ti118 : TI := { desc := TypeDesc.func #[44, 3, 53] #[] false, size := 1, bytes := 8, zero := Value.nilFunc }
theorem ti118_ok : TI.ok Tryd.prog 118 ti118 := ⟨Tryd.underlying118, by kernel_rfl⟩
def ti119 : TI := { desc := TypeDesc.func #[42] #[] false, size := 1, bytes := 8, zero := Value.nilFunc }
theorem ti119_ok : TI.ok Tryd.prog 119 ti119 := ⟨Tryd.underlying119, by kernel_rfl⟩
def ti120 : TI := { desc := TypeDesc.struct #[{ name := "dir", type := 4, offset := 0, embedded := false, tag := "", pkgPath := "gansey/operations", byteOffset := 0 }, { name := "needle", type := 4, offset := 1, embedded := false, tag := "", pkgPath := "gansey/operations", byteOffset := 1 }, { name := "yarn", type := 4, offset := 2, embedded := false, tag := "", pkgPath := "gansey/operations", byteOffset := 2 }, { name := "rack", type := 4, offset := 3, embedded := false, tag := "", pkgPath := "gansey/operations", byteOffset := 3 }], size := 4, bytes := 4, zero := Value.agg #[Value.bool false, Value.bool false, Value.bool false, Value.bool false] }
theorem ti120_ok : TI.ok Tryd.prog 120 ti120 := ⟨Tryd.underlying120, by kernel_rfl⟩
def ti121 : TI := { desc := TypeDesc.struct #[{ name := "dir", type := 4, offset := 0, embedded := false, tag := "", pkgPath := "gansey/operations", byteOffset := 0 }, { name := "needle", type := 4, offset := 1, embedded := false, tag := "", pkgPath := "gansey/operations", byteOffset := 1 }, { name := "yarn", type := 4, offset := 2, embedded := false, tag := "", pkgPath := "gansey/operations", byteOffset := 2 }, { name := "rack", type := 4, offset := 3, embedded := false, tag := "", pkgPath := "gansey/operations", byteOffset := 3 }], size := 4, bytes := 4, zero := Value.agg #[Value.bool false, Value.bool false, Value.bool false, Value.bool false] }
theorem ti121_ok : TI.ok Tryd.prog 121 ti121 := ⟨Tryd.underlying121, by kernel_rfl⟩
def ti123 : TI := { desc := TypeDesc.map 52 121, size := 1, bytes := 8, zero := Value.map none }
theorem ti123_ok : TI.ok Tryd.prog 123 ti123 := ⟨Tryd.underlying123, by kernel_rfl⟩
def ti124 : TI := { desc := TypeDesc.func #[] #[123] false, size := 1, bytes := 8, zero := Value.nilFunc }
theorem ti124_ok : TI.ok Tryd.prog 124 ti124 := ⟨Tryd.underlying124, by kernel_rfl⟩
def ti125 : TI := { desc := TypeDesc.func #[2, 3] #[9] false, size := 1, bytes := 8, zero := Value.nilFunc }
theorem ti125_ok : TI.ok Tryd.prog 125 ti125 := ⟨Tryd.underlying125, by kernel_rfl⟩
def ti126 : TI := { desc := TypeDesc.pointer 5, size := 1, bytes := 8, zero := Value.pointer none }
theorem ti126_ok : TI.ok Tryd.prog 126 ti126 := ⟨Tryd.underlying126, by kernel_rfl⟩
def ti127 : TI := { desc := TypeDesc.func #[42, 3, 3, 3] #[] false, size := 1, bytes := 8, zero := Value.nilFunc }
theorem ti127_ok : TI.ok Tryd.prog 127 ti127 := ⟨Tryd.underlying127, by kernel_rfl⟩
def ti128 : TI := { desc := TypeDesc.func #[129] #[3] false, size := 1, bytes := 8, zero := Value.nilFunc }
theorem ti128_ok : TI.ok Tryd.prog 128 ti128 := ⟨Tryd.underlying128, by kernel_rfl⟩
def ti129 : TI := { desc := TypeDesc.int IntKind.u64, size := 1, bytes := 8, zero := Value.int IntKind.u64 0 }
theorem ti129_ok : TI.ok Tryd.prog 129 ti129 := ⟨Tryd.underlying129, by kernel_rfl⟩
def ti130 : TI := { desc := TypeDesc.array 24 5, size := 24, bytes := 24, zero := Value.agg #[Value.int IntKind.u8 0, Value.int IntKind.u8 0, Value.int IntKind.u8 0, Value.int IntKind.u8 0, Value.int IntKind.u8 0, Value.int IntKind.u8 0, Value.int IntKind.u8 0, Value.int IntKind.u8 0, Value.int IntKind.u8 0, Value.int IntKind.u8 0, Value.int IntKind.u8 0, Value.int IntKind.u8 0, Value.int IntKind.u8 0, Value.int IntKind.u8 0, Value.int IntKind.u8 0, Value.int IntKind.u8 0, Value.int IntKind.u8 0, Value.int IntKind.u8 0, Value.int IntKind.u8 0, Value.int IntKind.u8 0, Value.int IntKind.u8 0, Value.int IntKind.u8 0, Value.int IntKind.u8 0, Value.int IntKind.u8 0] }
theorem ti130_ok : TI.ok Tryd.prog 130 ti130 := ⟨Tryd.underlying130, by kernel_rfl⟩
def ti131 : TI := { desc := TypeDesc.int IntKind.u64, size := 1, bytes := 8, zero := Value.int IntKind.u64 0 }
theorem ti131_ok : TI.ok Tryd.prog 131 ti131 := ⟨Tryd.underlying131, by kernel_rfl⟩
def ti132 : TI := { desc := TypeDesc.func #[131] #[3] false, size := 1, bytes := 8, zero := Value.nilFunc }
theorem ti132_ok : TI.ok Tryd.prog 132 ti132 := ⟨Tryd.underlying132, by kernel_rfl⟩
def ti133 : TI := { desc := TypeDesc.func #[42, 131] #[] false, size := 1, bytes := 8, zero := Value.nilFunc }
theorem ti133_ok : TI.ok Tryd.prog 133 ti133 := ⟨Tryd.underlying133, by kernel_rfl⟩
def ti135 : TI := { desc := TypeDesc.func #[42, 131, 3, 4, 4] #[42, 9] false, size := 1, bytes := 8, zero := Value.nilFunc }
theorem ti135_ok : TI.ok Tryd.prog 135 ti135 := ⟨Tryd.underlying135, by kernel_rfl⟩
def ti136 : TI := { desc := TypeDesc.unsafePointer, size := 1, bytes := 8, zero := Value.pointer none }
theorem ti136_ok : TI.ok Tryd.prog 136 ti136 := ⟨Tryd.underlying136, by kernel_rfl⟩
def ti137 : TI := { desc := TypeDesc.func #[136] #[136] false, size := 1, bytes := 8, zero := Value.nilFunc }
theorem ti137_ok : TI.ok Tryd.prog 137 ti137 := ⟨Tryd.underlying137, by kernel_rfl⟩
def ti138 : TI := { desc := TypeDesc.func #[3] #[42] false, size := 1, bytes := 8, zero := Value.nilFunc }
theorem ti138_ok : TI.ok Tryd.prog 138 ti138 := ⟨Tryd.underlying138, by kernel_rfl⟩
def ti139 : TI := { desc := TypeDesc.func #[42, 3, 3] #[] false, size := 1, bytes := 8, zero := Value.nilFunc }
theorem ti139_ok : TI.ok Tryd.prog 139 ti139 := ⟨Tryd.underlying139, by kernel_rfl⟩
def ti140 : TI := { desc := TypeDesc.int IntKind.i64, size := 1, bytes := 8, zero := Value.int IntKind.i64 0 }
theorem ti140_ok : TI.ok Tryd.prog 140 ti140 := ⟨Tryd.underlying140, by kernel_rfl⟩
def ti142 : TI := { desc := TypeDesc.func #[42, 3, 3] #[3, 140] false, size := 1, bytes := 8, zero := Value.nilFunc }
theorem ti142_ok : TI.ok Tryd.prog 142 ti142 := ⟨Tryd.underlying142, by kernel_rfl⟩
def ti143 : TI := { desc := TypeDesc.func #[42, 3, 3] #[4] false, size := 1, bytes := 8, zero := Value.nilFunc }
theorem ti143_ok : TI.ok Tryd.prog 143 ti143 := ⟨Tryd.underlying143, by kernel_rfl⟩
def ti144 : TI := { desc := TypeDesc.func #[5, 5] #[4] false, size := 1, bytes := 8, zero := Value.nilFunc }
theorem ti144_ok : TI.ok Tryd.prog 144 ti144 := ⟨Tryd.underlying144, by kernel_rfl⟩
def ti145 : TI := { desc := TypeDesc.func #[42, 3, 3, 3] #[3] false, size := 1, bytes := 8, zero := Value.nilFunc }
theorem ti145_ok : TI.ok Tryd.prog 145 ti145 := ⟨Tryd.underlying145, by kernel_rfl⟩
def ti147 : TI := { desc := TypeDesc.func #[42, 3, 3, 3] #[3, 4] false, size := 1, bytes := 8, zero := Value.nilFunc }
theorem ti147_ok : TI.ok Tryd.prog 147 ti147 := ⟨Tryd.underlying147, by kernel_rfl⟩
def ti148 : TI := { desc := TypeDesc.func #[149] #[3] false, size := 1, bytes := 8, zero := Value.nilFunc }
theorem ti148_ok : TI.ok Tryd.prog 148 ti148 := ⟨Tryd.underlying148, by kernel_rfl⟩
def ti149 : TI := { desc := TypeDesc.int IntKind.u32, size := 1, bytes := 4, zero := Value.int IntKind.u32 0 }
theorem ti149_ok : TI.ok Tryd.prog 149 ti149 := ⟨Tryd.underlying149, by kernel_rfl⟩
def ti150 : TI := { desc := TypeDesc.func #[4] #[3] false, size := 1, bytes := 8, zero := Value.nilFunc }
theorem ti150_ok : TI.ok Tryd.prog 150 ti150 := ⟨Tryd.underlying150, by kernel_rfl⟩
def ti151 : TI := { desc := TypeDesc.array 20 131, size := 20, bytes := 160, zero := Value.agg #[Value.int IntKind.u64 0, Value.int IntKind.u64 0, Value.int IntKind.u64 0, Value.int IntKind.u64 0, Value.int IntKind.u64 0, Value.int IntKind.u64 0, Value.int IntKind.u64 0, Value.int IntKind.u64 0, Value.int IntKind.u64 0, Value.int IntKind.u64 0, Value.int IntKind.u64 0, Value.int IntKind.u64 0, Value.int IntKind.u64 0, Value.int IntKind.u64 0, Value.int IntKind.u64 0, Value.int IntKind.u64 0, Value.int IntKind.u64 0, Value.int IntKind.u64 0, Value.int IntKind.u64 0, Value.int IntKind.u64 0] }
theorem ti151_ok : TI.ok Tryd.prog 151 ti151 := ⟨Tryd.underlying151, by kernel_rfl⟩
def ti152 : TI := { desc := TypeDesc.array 65 5, size := 65, bytes := 65, zero := Value.agg ([Value.int IntKind.u8 0, Value.int IntKind.u8 0, Value.int IntKind.u8 0, Value.int IntKind.u8 0, Value.int IntKind.u8 0, Value.int IntKind.u8 0, Value.int IntKind.u8 0, Value.int IntKind.u8 0, Value.int IntKind.u8 0, Value.int IntKind.u8 0, Value.int IntKind.u8 0, Value.int IntKind.u8 0, Value.int IntKind.u8 0, Value.int IntKind.u8 0, Value.int IntKind.u8 0, Value.int IntKind.u8 0, Value.int IntKind.u8 0, Value.int IntKind.u8 0, Value.int IntKind.u8 0, Value.int IntKind.u8 0, Value.int IntKind.u8 0, Value.int IntKind.u8 0, Value.int IntKind.u8 0, Value.int IntKind.u8 0, Value.int IntKind.u8 0, Value.int IntKind.u8 0, Value.int IntKind.u8 0, Value.int IntKind.u8 0, Value.int IntKind.u8 0, Value.int IntKind.u8 0, Value.int IntKind.u8 0, Value.int IntKind.u8 0].append [Value.int IntKind.u8 0, Value.int IntKind.u8 0, Value.int IntKind.u8 0, Value.int IntKind.u8 0, Value.int IntKind.u8 0, Value.int IntKind.u8 0, Value.int IntKind.u8 0, Value.int IntKind.u8 0, Value.int IntKind.u8 0, Value.int IntKind.u8 0, Value.int IntKind.u8 0, Value.int IntKind.u8 0, Value.int IntKind.u8 0, Value.int IntKind.u8 0, Value.int IntKind.u8 0, Value.int IntKind.u8 0, Value.int IntKind.u8 0, Value.int IntKind.u8 0, Value.int IntKind.u8 0, Value.int IntKind.u8 0, Value.int IntKind.u8 0, Value.int IntKind.u8 0, Value.int IntKind.u8 0, Value.int IntKind.u8 0, Value.int IntKind.u8 0, Value.int IntKind.u8 0, Value.int IntKind.u8 0, Value.int IntKind.u8 0, Value.int IntKind.u8 0, Value.int IntKind.u8 0, Value.int IntKind.u8 0, Value.int IntKind.u8 0, Value.int IntKind.u8 0]).toArray }
theorem ti152_ok : TI.ok Tryd.prog 152 ti152 := ⟨Tryd.underlying152, by kernel_rfl⟩
def ti153 : TI := { desc := TypeDesc.func #[3] #[4] false, size := 1, bytes := 8, zero := Value.nilFunc }
theorem ti153_ok : TI.ok Tryd.prog 153 ti153 := ⟨Tryd.underlying153, by kernel_rfl⟩
def ti154 : TI := { desc := TypeDesc.int IntKind.u64, size := 1, bytes := 8, zero := Value.int IntKind.u64 0 }
theorem ti154_ok : TI.ok Tryd.prog 154 ti154 := ⟨Tryd.underlying154, by kernel_rfl⟩
def ti155 : TI := { desc := TypeDesc.func #[3] #[129] false, size := 1, bytes := 8, zero := Value.nilFunc }
theorem ti155_ok : TI.ok Tryd.prog 155 ti155 := ⟨Tryd.underlying155, by kernel_rfl⟩
def ti156 : TI := { desc := TypeDesc.func #[] #[131] false, size := 1, bytes := 8, zero := Value.nilFunc }
theorem ti156_ok : TI.ok Tryd.prog 156 ti156 := ⟨Tryd.underlying156, by kernel_rfl⟩
def ti157 : TI := { desc := TypeDesc.func #[42, 3, 158] #[3] false, size := 1, bytes := 8, zero := Value.nilFunc }
theorem ti157_ok : TI.ok Tryd.prog 157 ti157 := ⟨Tryd.underlying157, by kernel_rfl⟩
def ti158 : TI := { desc := TypeDesc.pointer 3, size := 1, bytes := 8, zero := Value.pointer none }
theorem ti158_ok : TI.ok Tryd.prog 158 ti158 := ⟨Tryd.underlying158, by kernel_rfl⟩
def ti159 : TI := { desc := TypeDesc.func #[42, 3, 3, 3, 158] #[3] false, size := 1, bytes := 8, zero := Value.nilFunc }
theorem ti159_ok : TI.ok Tryd.prog 159 ti159 := ⟨Tryd.underlying159, by kernel_rfl⟩
def ti160 : TI := { desc := TypeDesc.func #[5] #[4] false, size := 1, bytes := 8, zero := Value.nilFunc }
theorem ti160_ok : TI.ok Tryd.prog 160 ti160 := ⟨Tryd.underlying160, by kernel_rfl⟩
def ti161 : TI := { desc := TypeDesc.pointer 154, size := 1, bytes := 8, zero := Value.pointer none }
theorem ti161_ok : TI.ok Tryd.prog 161 ti161 := ⟨Tryd.underlying161, by kernel_rfl⟩
def ti163 : TI := { desc := TypeDesc.func #[42, 3, 3, 158] #[3, 3] false, size := 1, bytes := 8, zero := Value.nilFunc }
theorem ti163_ok : TI.ok Tryd.prog 163 ti163 := ⟨Tryd.underlying163, by kernel_rfl⟩
def ti164 : TI := { desc := TypeDesc.array 32 5, size := 32, bytes := 32, zero := Value.agg #[Value.int IntKind.u8 0, Value.int IntKind.u8 0, Value.int IntKind.u8 0, Value.int IntKind.u8 0, Value.int IntKind.u8 0, Value.int IntKind.u8 0, Value.int IntKind.u8 0, Value.int IntKind.u8 0, Value.int IntKind.u8 0, Value.int IntKind.u8 0, Value.int IntKind.u8 0, Value.int IntKind.u8 0, Value.int IntKind.u8 0, Value.int IntKind.u8 0, Value.int IntKind.u8 0, Value.int IntKind.u8 0, Value.int IntKind.u8 0, Value.int IntKind.u8 0, Value.int IntKind.u8 0, Value.int IntKind.u8 0, Value.int IntKind.u8 0, Value.int IntKind.u8 0, Value.int IntKind.u8 0, Value.int IntKind.u8 0, Value.int IntKind.u8 0, Value.int IntKind.u8 0, Value.int IntKind.u8 0, Value.int IntKind.u8 0, Value.int IntKind.u8 0, Value.int IntKind.u8 0, Value.int IntKind.u8 0, Value.int IntKind.u8 0] }
theorem ti164_ok : TI.ok Tryd.prog 164 ti164 := ⟨Tryd.underlying164, by kernel_rfl⟩
def ti165 : TI := { desc := TypeDesc.array 64 5, size := 64, bytes := 64, zero := Value.agg #[Value.int IntKind.u8 0, Value.int IntKind.u8 0, Value.int IntKind.u8 0, Value.int IntKind.u8 0, Value.int IntKind.u8 0, Value.int IntKind.u8 0, Value.int IntKind.u8 0, Value.int IntKind.u8 0, Value.int IntKind.u8 0, Value.int IntKind.u8 0, Value.int IntKind.u8 0, Value.int IntKind.u8 0, Value.int IntKind.u8 0, Value.int IntKind.u8 0, Value.int IntKind.u8 0, Value.int IntKind.u8 0, Value.int IntKind.u8 0, Value.int IntKind.u8 0, Value.int IntKind.u8 0, Value.int IntKind.u8 0, Value.int IntKind.u8 0, Value.int IntKind.u8 0, Value.int IntKind.u8 0, Value.int IntKind.u8 0, Value.int IntKind.u8 0, Value.int IntKind.u8 0, Value.int IntKind.u8 0, Value.int IntKind.u8 0, Value.int IntKind.u8 0, Value.int IntKind.u8 0, Value.int IntKind.u8 0, Value.int IntKind.u8 0, Value.int IntKind.u8 0, Value.int IntKind.u8 0, Value.int IntKind.u8 0, Value.int IntKind.u8 0, Value.int IntKind.u8 0, Value.int IntKind.u8 0, Value.int IntKind.u8 0, Value.int IntKind.u8 0, Value.int IntKind.u8 0, Value.int IntKind.u8 0, Value.int IntKind.u8 0, Value.int IntKind.u8 0, Value.int IntKind.u8 0, Value.int IntKind.u8 0, Value.int IntKind.u8 0, Value.int IntKind.u8 0, Value.int IntKind.u8 0, Value.int IntKind.u8 0, Value.int IntKind.u8 0, Value.int IntKind.u8 0, Value.int IntKind.u8 0, Value.int IntKind.u8 0, Value.int IntKind.u8 0, Value.int IntKind.u8 0, Value.int IntKind.u8 0, Value.int IntKind.u8 0, Value.int IntKind.u8 0, Value.int IntKind.u8 0, Value.int IntKind.u8 0, Value.int IntKind.u8 0, Value.int IntKind.u8 0, Value.int IntKind.u8 0] }
theorem ti165_ok : TI.ok Tryd.prog 165 ti165 := ⟨Tryd.underlying165, by kernel_rfl⟩
def ti168 : TI := { desc := TypeDesc.array 0 16, size := 0, bytes := 0, zero := Value.agg #[] }
theorem ti168_ok : TI.ok Tryd.prog 168 ti168 := ⟨Tryd.underlying168, by kernel_rfl⟩
def ti171 : TI := { desc := TypeDesc.func #[] #[3] false, size := 1, bytes := 8, zero := Value.nilFunc }
theorem ti171_ok : TI.ok Tryd.prog 171 ti171 := ⟨Tryd.underlying171, by kernel_rfl⟩
def ti172 : TI := { desc := TypeDesc.int IntKind.u8, size := 1, bytes := 1, zero := Value.int IntKind.u8 0 }
theorem ti172_ok : TI.ok Tryd.prog 172 ti172 := ⟨Tryd.underlying172, by kernel_rfl⟩
def ti173 : TI := { desc := TypeDesc.int IntKind.u8, size := 1, bytes := 1, zero := Value.int IntKind.u8 0 }
theorem ti173_ok : TI.ok Tryd.prog 173 ti173 := ⟨Tryd.underlying173, by kernel_rfl⟩
def ti174 : TI := { desc := TypeDesc.func #[136, 136] #[4] false, size := 1, bytes := 8, zero := Value.nilFunc }
theorem ti174_ok : TI.ok Tryd.prog 174 ti174 := ⟨Tryd.underlying174, by kernel_rfl⟩
def ti175 : TI := { desc := TypeDesc.int IntKind.i32, size := 1, bytes := 4, zero := Value.int IntKind.i32 0 }
theorem ti175_ok : TI.ok Tryd.prog 175 ti175 := ⟨Tryd.underlying175, by kernel_rfl⟩
def ti176 : TI := { desc := TypeDesc.int IntKind.i32, size := 1, bytes := 4, zero := Value.int IntKind.i32 0 }
theorem ti176_ok : TI.ok Tryd.prog 176 ti176 := ⟨Tryd.underlying176, by kernel_rfl⟩
def ti177 : TI := { desc := TypeDesc.struct #[{ name := "Size_", type := 12, offset := 0, embedded := false, tag := "", pkgPath := "", byteOffset := 0 }, { name := "PtrBytes", type := 12, offset := 1, embedded := false, tag := "", pkgPath := "", byteOffset := 8 }, { name := "Hash", type := 149, offset := 2, embedded := false, tag := "", pkgPath := "", byteOffset := 16 }, { name := "TFlag", type := 172, offset := 3, embedded := false, tag := "", pkgPath := "", byteOffset := 20 }, { name := "Align_", type := 5, offset := 4, embedded := false, tag := "", pkgPath := "", byteOffset := 21 }, { name := "FieldAlign_", type := 5, offset := 5, embedded := false, tag := "", pkgPath := "", byteOffset := 22 }, { name := "Kind_", type := 173, offset := 6, embedded := false, tag := "", pkgPath := "", byteOffset := 23 }, { name := "Equal", type := 174, offset := 7, embedded := false, tag := "", pkgPath := "", byteOffset := 24 }, { name := "GCData", type := 126, offset := 8, embedded := false, tag := "", pkgPath := "", byteOffset := 32 }, { name := "Str", type := 175, offset := 9, embedded := false, tag := "", pkgPath := "", byteOffset := 40 }, { name := "PtrToThis", type := 176, offset := 10, embedded := false, tag := "", pkgPath := "", byteOffset := 44 }], size := 11, bytes := 48, zero := Value.agg #[Value.int IntKind.u64 0, Value.int IntKind.u64 0, Value.int IntKind.u32 0, Value.int IntKind.u8 0, Value.int IntKind.u8 0, Value.int IntKind.u8 0, Value.int IntKind.u8 0, Value.nilFunc, Value.pointer none, Value.int IntKind.i32 0, Value.int IntKind.i32 0] }
theorem ti177_ok : TI.ok Tryd.prog 177 ti177 := ⟨Tryd.underlying177, by kernel_rfl⟩
def ti178 : TI := { desc := TypeDesc.struct #[{ name := "Size_", type := 12, offset := 0, embedded := false, tag := "", pkgPath := "", byteOffset := 0 }, { name := "PtrBytes", type := 12, offset := 1, embedded := false, tag := "", pkgPath := "", byteOffset := 8 }, { name := "Hash", type := 149, offset := 2, embedded := false, tag := "", pkgPath := "", byteOffset := 16 }, { name := "TFlag", type := 172, offset := 3, embedded := false, tag := "", pkgPath := "", byteOffset := 20 }, { name := "Align_", type := 5, offset := 4, embedded := false, tag := "", pkgPath := "", byteOffset := 21 }, { name := "FieldAlign_", type := 5, offset := 5, embedded := false, tag := "", pkgPath := "", byteOffset := 22 }, { name := "Kind_", type := 173, offset := 6, embedded := false, tag := "", pkgPath := "", byteOffset := 23 }, { name := "Equal", type := 174, offset := 7, embedded := false, tag := "", pkgPath := "", byteOffset := 24 }, { name := "GCData", type := 126, offset := 8, embedded := false, tag := "", pkgPath := "", byteOffset := 32 }, { name := "Str", type := 175, offset := 9, embedded := false, tag := "", pkgPath := "", byteOffset := 40 }, { name := "PtrToThis", type := 176, offset := 10, embedded := false, tag := "", pkgPath := "", byteOffset := 44 }], size := 11, bytes := 48, zero := Value.agg #[Value.int IntKind.u64 0, Value.int IntKind.u64 0, Value.int IntKind.u32 0, Value.int IntKind.u8 0, Value.int IntKind.u8 0, Value.int IntKind.u8 0, Value.int IntKind.u8 0, Value.nilFunc, Value.pointer none, Value.int IntKind.i32 0, Value.int IntKind.i32 0] }
theorem ti178_ok : TI.ok Tryd.prog 178 ti178 := ⟨Tryd.underlying178, by kernel_rfl⟩
def tab : List (TypeId × TI) := [(1, ti1), (2, ti2), (3, ti3), (4, ti4), (5, ti5), (6, ti6), (9, ti9), (10, ti10), (11, ti11), (12, ti12), (15, ti15), (16, ti16), (17, ti17), (20, ti20), (21, ti21), (22, ti22), (23, ti23), (24, ti24), (26, ti26), (27, ti27), (28, ti28), (30, ti30), (31, ti31), (32, ti32), (33, ti33), (34, ti34), (35, ti35), (36, ti36), (37, ti37), (38, ti38), (39, ti39), (40, ti40), (41, ti41), (42, ti42), (43, ti43), (44, ti44), (45, ti45), (46, ti46), (47, ti47), (48, ti48), (49, ti49), (50, ti50), (51, ti51), (52, ti52), (53, ti53), (54, ti54), (55, ti55), (56, ti56), (57, ti57), (58, ti58), (59, ti59), (60, ti60), (61, ti61), (62, ti62), (63, ti63), (64, ti64), (65, ti65), (66, ti66), (68, ti68), (69, ti69), (70, ti70), (71, ti71), (72, ti72), (73, ti73), (74, ti74), (75, ti75), (76, ti76), (77, ti77), (78, ti78), (79, ti79), (80, ti80), (81, ti81), (82, ti82), (83, ti83), (84, ti84), (87, ti87), (88, ti88), (89, ti89), (90, ti90), (91, ti91), (92, ti92), (93, ti93), (94, ti94), (95, ti95), (96, ti96), (97, ti97), (98, ti98), (99, ti99), (101, ti101), (102, ti102), (103, ti103), (104, ti104), (105, ti105), (106, ti106), (107, ti107), (108, ti108), (109, ti109), (110, ti110), (111, ti111), (112, ti112), (114, ti114), (115, ti115), (116, ti116), (117, ti117), (118, ti118), (119, ti119), (120, ti120), (121, ti121), (123, ti123), (124, ti124), (125, ti125), (126, ti126), (127, ti127), (128, ti128), (129, ti129), (130, ti130), (131, ti131), (132, ti132), (133, ti133), (135, ti135), (136, ti136), (137, ti137), (138, ti138), (139, ti139), (140, ti140), (142, ti142), (143, ti143), (144, ti144), (145, ti145), (147, ti147), (148, ti148), (149, ti149), (150, ti150), (151, ti151), (152, ti152), (153, ti153), (154, ti154), (155, ti155), (156, ti156), (157, ti157), (158, ti158), (159, ti159), (160, ti160), (161, ti161), (163, ti163), (164, ti164), (165, ti165), (168, ti168), (171, ti171), (172, ti172), (173, ti173), (174, ti174), (175, ti175), (176, ti176), (177, ti177), (178, ti178)]
theorem tab_ok : TabOk Tryd.prog tab := TabOk.cons ti1_ok (TabOk.cons ti2_ok (TabOk.cons ti3_ok (TabOk.cons ti4_ok (TabOk.cons ti5_ok (TabOk.cons ti6_ok (TabOk.cons ti9_ok (TabOk.cons ti10_ok (TabOk.cons ti11_ok (TabOk.cons ti12_ok (TabOk.cons ti15_ok (TabOk.cons ti16_ok (TabOk.cons ti17_ok (TabOk.cons ti20_ok (TabOk.cons ti21_ok (TabOk.cons ti22_ok (TabOk.cons ti23_ok (TabOk.cons ti24_ok (TabOk.cons ti26_ok (TabOk.cons ti27_ok (TabOk.cons ti28_ok (TabOk.cons ti30_ok (TabOk.cons ti31_ok (TabOk.cons ti32_ok (TabOk.cons ti33_ok (TabOk.cons ti34_ok (TabOk.cons ti35_ok (TabOk.cons ti36_ok (TabOk.cons ti37_ok (TabOk.cons ti38_ok (TabOk.cons ti39_ok (TabOk.cons ti40_ok (TabOk.cons ti41_ok (TabOk.cons ti42_ok (TabOk.cons ti43_ok (TabOk.cons ti44_ok (TabOk.cons ti45_ok (TabOk.cons ti46_ok (TabOk.cons ti47_ok (TabOk.cons ti48_ok (TabOk.cons ti49_ok (TabOk.cons ti50_ok (TabOk.cons ti51_ok (TabOk.cons ti52_ok (TabOk.cons ti53_ok (TabOk.cons ti54_ok (TabOk.cons ti55_ok (TabOk.cons ti56_ok (TabOk.cons ti57_ok (TabOk.cons ti58_ok (TabOk.cons ti59_ok (TabOk.cons ti60_ok (TabOk.cons ti61_ok (TabOk.cons ti62_ok (TabOk.cons ti63_ok (TabOk.cons ti64_ok (TabOk.cons ti65_ok (TabOk.cons ti66_ok (TabOk.cons ti68_ok (TabOk.cons ti69_ok (TabOk.cons ti70_ok (TabOk.cons ti71_ok (TabOk.cons ti72_ok (TabOk.cons ti73_ok (TabOk.cons ti74_ok (TabOk.cons ti75_ok (TabOk.cons ti76_ok (TabOk.cons ti77_ok (TabOk.cons ti78_ok (TabOk.cons ti79_ok (TabOk.cons ti80_ok (TabOk.cons ti81_ok (TabOk.cons ti82_ok (TabOk.cons ti83_ok (TabOk.cons ti84_ok (TabOk.cons ti87_ok (TabOk.cons ti88_ok (TabOk.cons ti89_ok (TabOk.cons ti90_ok (TabOk.cons ti91_ok (TabOk.cons ti92_ok (TabOk.cons ti93_ok (TabOk.cons ti94_ok (TabOk.cons ti95_ok (TabOk.cons ti96_ok (TabOk.cons ti97_ok (TabOk.cons ti98_ok (TabOk.cons ti99_ok (TabOk.cons ti101_ok (TabOk.cons ti102_ok (TabOk.cons ti103_ok (TabOk.cons ti104_ok (TabOk.cons ti105_ok (TabOk.cons ti106_ok (TabOk.cons ti107_ok (TabOk.cons ti108_ok (TabOk.cons ti109_ok (TabOk.cons ti110_ok (TabOk.cons ti111_ok (TabOk.cons ti112_ok (TabOk.cons ti114_ok (TabOk.cons ti115_ok (TabOk.cons ti116_ok (TabOk.cons ti117_ok (TabOk.cons ti118_ok (TabOk.cons ti119_ok (TabOk.cons ti120_ok (TabOk.cons ti121_ok (TabOk.cons ti123_ok (TabOk.cons ti124_ok (TabOk.cons ti125_ok (TabOk.cons ti126_ok (TabOk.cons ti127_ok (TabOk.cons ti128_ok (TabOk.cons ti129_ok (TabOk.cons ti130_ok (TabOk.cons ti131_ok (TabOk.cons ti132_ok (TabOk.cons ti133_ok (TabOk.cons ti135_ok (TabOk.cons ti136_ok (TabOk.cons ti137_ok (TabOk.cons ti138_ok (TabOk.cons ti139_ok (TabOk.cons ti140_ok (TabOk.cons ti142_ok (TabOk.cons ti143_ok (TabOk.cons ti144_ok (TabOk.cons ti145_ok (TabOk.cons ti147_ok (TabOk.cons ti148_ok (TabOk.cons ti149_ok (TabOk.cons ti150_ok (TabOk.cons ti151_ok (TabOk.cons ti152_ok (TabOk.cons ti153_ok (TabOk.cons ti154_ok (TabOk.cons ti155_ok (TabOk.cons ti156_ok (TabOk.cons ti157_ok (TabOk.cons ti158_ok (TabOk.cons ti159_ok (TabOk.cons ti160_ok (TabOk.cons ti161_ok (TabOk.cons ti163_ok (TabOk.cons ti164_ok (TabOk.cons ti165_ok (TabOk.cons ti168_ok (TabOk.cons ti171_ok (TabOk.cons ti172_ok (TabOk.cons ti173_ok (TabOk.cons ti174_ok (TabOk.cons ti175_ok (TabOk.cons ti176_ok (TabOk.cons ti177_ok (TabOk.cons ti178_ok (TabOk.nil _))))))))))))))))))))))))))))))))))))))))))))))))))))))))))))))))))))))))))))))))))))))))))))))))))))))))))))))))))))))))))))))))))))))))))))))))))))))))))))
end Go.Proofs.YtcjpcmofajcadaaDoor

/- The rules: structs stored among the elements of a row. -/
namespace Go.Proofs.YtcjpcmofajcadaaDoor
open Go.RowKit
section
variable {P : Program} {ops : Array Oper} {Q : Exit → Act → World → Prop} {o : Oper} {KK : Act → World → Prop} {n : Nat} {D : List Deferred} {L : List (Nat × Value)} {B : Nat → Prop} {w0 : World} {H : List Ck} {a : Act} {w : World} {d : Nat} {T : List (TypeId × TI)} {K : Ck → List Ck}
theorem y_store_row_agg {x y : Operand} {t e : TypeId} {i : TI} {g j c m size : Nat} {xs vs : List Value} (hX : Sym n D L B w0 H a w) (hop : o.op = .store t x y) (ho : o.guard = none ∧ o.dst = none)
    (hT : TabOk P T) (h1 : T.lookup t = some i) (hi : vs.length = i.size) (hx : ev L x = some (.pointer (some ⟨g, j, none⟩))) (hy : ev L y = some (.agg vs.toArray)) (h2 : vs.all (·.oneCell') = true) (hf : Foc H (.row (some ⟨g, 0, none⟩) c e size m xs) K) (hj : j + vs.length ≤ m * size)
    (h : ∀ a' w', Sym n D L B w0 (K (.row (some ⟨g, 0, none⟩) c e size m (xs.take j ++ vs ++ xs.drop (j + vs.length)))) a' w' → KK a' w') : XO P ops o KK a w := by
  have hown : Owns w B e size (some ⟨g, 0, none⟩) c m xs := hX.sh.ok _ hf.mem
  have hxl := hown.1
  have h2' : ∀ v ∈ vs, v.oneCell' = true := by simpa using h2
  rcases hown.2 with ⟨h0, _⟩ | ⟨g', cur, fr, hA, hbg, hg, hfr, hnc, hcm, hcs, htake⟩
  · cases h0
  · have : g = g' := by injection hA with hA; injection hA
    subst this
    have hms : m * size ≤ cur.size := by rw [hcs]; exact Nat.mul_le_mul_right _ hnc
    have hjc : j + vs.length ≤ cur.size := Nat.le_trans hj hms
    have hst := run_storeCells_cells (P := P) g j vs 0 w (fun q hq => by
        simp only [World.cell?, hg]
        simp; omega) (fun q hq => by
        simp only [World.frozen?, hg]
        rcases hfr with h | h
        · simp; omega
        · simp; omega) h2'
    simp only [Nat.add_zero] at hst
    rw [setCells_row g e fr vs j w cur hg hjc] at hst
    have hvc : (Value.agg vs.toArray).cells = vs.toArray := rfl
    have hrun : (storeVar t ⟨g, j, none⟩ (.agg vs.toArray)).run P w = .ok () (w.setRow g (cur.toList.take j ++ vs ++ cur.toList.drop (j + vs.length)).toArray) := by
      unfold storeVar
      simp [TI.run_sizeOf (hT _ _ h1), hvc, hi]
      simpa [hi] using hst
    refine y_skip hX ho (w' := w.setRow g (cur.toList.take j ++ vs ++ cur.toList.drop (j + vs.length)).toArray) (by simp only [execOp, hop, hX.ev hx, hX.ev hy, Instr.storeAt, Instr.sureAddr, Sem.run_bind, Sem.run_pure, Result.andThen_ok, hrun]) ?_ h
    refine hX.sh.turn hf ⟨rfl, rfl, rfl, by simp, fun q hq => setRow_other w g q _ (fun e' => by subst e'; exact hbg hq)⟩ (c' := .row (some ⟨g, 0, none⟩) c e size m (xs.take j ++ vs ++ xs.drop (j + vs.length))) ?_ (fun q hq => .inl hq) fun q _ hq => setRow_other w g q _ (fun e' => hq (by subst e'; rfl))
    have hlen : (cur.toList.take j ++ vs ++ cur.toList.drop (j + vs.length)).length = cur.size := by simp; omega
    refine ⟨by simp; omega, .inr ⟨g, _, fr, rfl, hbg, setRow_heap w g cur _ e _ hg, ?_, hnc, hcm, ?_, ?_⟩⟩
    · rcases hfr with h | h
      · exact .inl h
      · exact .inr (by rw [List.size_toArray, hlen]; exact h)
    · rw [List.size_toArray, hlen]; exact hcs
    · show (cur.toList.take j ++ vs ++ cur.toList.drop (j + vs.length)).take (m * size) = _
      rw [← htake, List.take_take, Nat.min_eq_left (by omega), List.take_append, List.take_of_length_le (by simp; omega), List.drop_take]
      congr 2
      simp; omega
theorem p_slice3n {u y v : Operand} {t e : TypeId} {i i' : TI} {A : Option Addr} {m c h q : Nat} {k' k'' : IntKind} {z' z'' : Int} (hS : St n D L a) (hop : o.op = .slice t u none (some y) (some v))
    (hT : TabOk P T) (h1 : T.lookup t = some i) (h2 : i.desc = .slice e) (h3 : T.lookup e = some i') (hu : ev L u = some (.slice A m c)) (hy : ev L y = some (.int k' z')) (hv : ev L v = some (.int k'' z'')) (hz' : z' = (h : Int)) (hz'' : z'' = (q : Int)) (hh : h ≤ q) (hq : q ≤ c) :
    PV P o a (.slice A h q) := fun w => by
  subst hz'; subst hz''
  have e1 := (hT _ _ h1).1
  rw [h2] at e1
  simp [execOp, hop, hS.ev hu, hS.ev hy, hS.ev hv, Instr.sliceAt, Instr.slice, Instr.sliceBounds, Instr.sliceBound, asIntOf, run_underlying e1, TI.run_sizeOf (hT _ _ h3), hh, hq]
  by_cases hc : q = 0
  · simp [hc]
  · cases A with
    | none => simp
    | some ad => simp [Addr.add]
/-- append where there is no room: a new row. -/
theorem y_append_new {s x : Operand} {t e : TypeId} {i i' : TI} {b p b2 p2 c k m cc : Nat} {xs news : List Value} (hX : Sym n D L B w0 H a w)
    (hop : o.op = .call { callee := .builtin .append, args := #[s, x], argTypes := #[t, t] }) (ho : o.guard = none ∧ o.dst = some d) (hd : Nat.blt d n = true)
    (hT : TabOk P T) (h1 : T.lookup t = some i) (h2 : i.desc = .slice e) (h3 : T.lookup e = some i') (h4 : Nat.blt 0 i'.size = true) (h5 : i'.zero.cells.size = i'.size) (hs : ev L s = some (.slice (some ⟨b, p, none⟩) k c)) (hx : ev L x = some (.slice (some ⟨b2, p2, none⟩) m cc))
    (hk : 0 < k) (hm : 0 < m) (hr1 : Reads w (some ⟨b, p, none⟩) k i'.size xs) (hr : Reads w (some ⟨b2, p2, none⟩) m i'.size news) (hgrow : c < k + m) (hb1 : (k + m) * i'.bytes ≤ 140737488355328) (hb2 : k + m ≤ 140737488355328)
    (h : ∀ g c' a' w', Sym n D ((d, .slice (some ⟨g, 0, none⟩) (k + m) c') :: L) B w0 (.row (some ⟨g, 0, none⟩) c' e i'.size (k + m) (xs ++ news) :: H) a' w' → KK a' w') : XO P ops o KK a w := by
  have e1 := (hT _ _ h1).1
  rw [h2] at e1
  have e3 := hT _ _ h3
  obtain ⟨inf, hinf, hs1, hs2, hs3⟩ := TI.info e3
  obtain ⟨b', p', e', hc1⟩ := hr1.2 hk
  cases e'
  obtain ⟨b', p', e', hc2⟩ := hr.2 hm
  cases e'
  have hlen : (xs ++ news).length = (k + m) * i'.size := by rw [List.length_append, hr1.1, hr.1, Nat.add_mul]
  have hrun := run_append_grow (P := P) w t o.type e inf i'.zero e1 hinf hs3 ⟨b, p, none⟩ k c xs (by rw [hr1.1, hs1]) (fun j u hu => by rw [Addr.add_lit]; exact hc1 j u hu) ⟨b2, p2, none⟩ m cc news (by rw [hr.1, hs1]) (fun j u hu => by rw [Addr.add_lit]; exact hc2 j u hu) (by omega) (by omega) (growslice_fits (by omega) (by rw [hs2]; exact hb1))
  have hge := grownCap_ge w (k + m) c e
  have hcm : grownCap w (k + m) c e ≤ maxLen := grownCap_le_maxLen w (k + m) c e (by simp only [maxLen]; omega)
  refine y_value hX ho hd (v := .slice (some ⟨w.heap.size, 0, none⟩) (k + m) (grownCap w (k + m) c e)) (w' := w.drew.alloc (.cells (xs.toArray ++ news.toArray ++ Builtin.zeroCells i'.zero.cells (grownCap w (k + m) c e - (k + m))) e)) (by simp [execOp, hop, resolve, invoke, builtin, hX.ev hs, hX.ev hx, hrun]) ?_ (h w.heap.size (grownCap w (k + m) c e))
  have hd1 := hX.sh.drew
  have ha := hd1.alloc (.cells (xs.toArray ++ news.toArray ++ Builtin.zeroCells i'.zero.cells (grownCap w (k + m) c e - (k + m))) e)
  have hp := List.pairwise_cons.1 ha.apart
  refine ⟨ha.below, ha.base, fun ck hck => ?_, List.Pairwise.cons (fun ck hck q e' => hp.1 ck hck q (by simpa [Ck.at] using e')) hp.2⟩
  rcases List.mem_cons.1 hck with rfl | hck
  · refine ⟨hlen, .inr ⟨w.heap.size, _, (0, 0), rfl, hX.sh.fresh, heap_alloc_new w.drew _, .inl rfl, hge, hcm, ?_, ?_⟩⟩
    · simp only [Array.size_append, List.size_toArray, size_zeroCells, h5, hr1.1, hr.1, ← Nat.add_mul]
      congr 1
      omega
    · simp only [Array.toList_append, List.append_assoc]
      rw [← List.append_assoc, ← hlen]
      exact List.take_left
  · exact ha.ok ck (List.mem_cons_of_mem _ hck)
end
end Go.Proofs.YtcjpcmofajcadaaDoor

/- Symbolic data: what is frozen, and what is owned. -/
namespace Go.Proofs.YtcjpcmofajcadaaDoor
open Go.RowKit

/-- Kinds of plain data. -/
inductive GTy where
  | int (k : IntKind)
  | bool
  | str
  | sl (g : GTy)
  | csl (g : GTy)
  | unit
  | pair (g h : GTy)
  deriving DecidableEq
abbrev GTy.D : GTy → Type
  | .int _ => Int
  | .bool => Bool
  | .str => List UInt8
  | .sl g => List g.D
  | .csl g => List g.D
  | .unit => Unit
  | .pair g h => g.D × h.D
def GTy.size : GTy → Nat
  | .pair g h => g.size + h.size
  | .unit => 0
  | _ => 1
abbrev GTy.zero : (g : GTy) → g.D
  | .int _ => (0 : Int)
  | .bool => false
  | .str => ([] : List UInt8)
  | .sl g => ([] : List g.D)
  | .csl g => ([] : List g.D)
  | .unit => ()
  | .pair g h => (g.zero, h.zero)

/-- A list of data, its cells one after another. -/
def Flat {α : Type} (R : α → List Value → Prop) : List α → List Value → Prop
  | [], vs => vs = []
  | x :: l, vs => ∃ v1 v2, vs = v1 ++ v2 ∧ R x v1 ∧ Flat R l v2
/-- Cells that a slice reads, in memory that is held fast. -/
def RB (B : Nat → Prop) (w : World) (A : Option Addr) (m size : Nat) (vs : List Value) : Prop := Reads w A m size vs ∧ ∀ b p, 0 < m → A = some ⟨b, p, none⟩ → B b
/-- Data that lie in memory that is held fast. -/
def FR (B : Nat → Prop) (w : World) : (g : GTy) → g.D → List Value → Prop
  | .int k => fun (x : Int) vs => vs = [.int k x]
  | .bool => fun (x : Bool) vs => vs = [.bool x]
  | .str => fun (x : List UInt8) vs => vs = [strV x]
  | .sl g => fun (l : List g.D) vs => ∃ A c xs, vs = [.slice A l.length c] ∧ l.length ≤ c ∧ c ≤ maxLen ∧ Flat (FR B w g) l xs ∧ RB B w A l.length g.size xs
  | .csl g => fun (l : List g.D) vs => ∃ A xs, vs = [.slice A l.length l.length] ∧ l.length ≤ maxLen ∧ Flat (FR B w g) l xs ∧ RB B w A l.length g.size xs
  | .unit => fun _ vs => vs = []
  | .pair g h => fun (x : g.D × h.D) vs => ∃ v1 v2, vs = v1 ++ v2 ∧ FR B w g x.1 v1 ∧ FR B w h x.2 v2

theorem Flat.mono {α : Type} {R R' : α → List Value → Prop} (h : ∀ x vs, R x vs → R' x vs) : ∀ {l : List α} {vs : List Value}, Flat R l vs → Flat R' l vs
  | [], _, hf => hf
  | _ :: _, _, ⟨v1, v2, e, h1, h2⟩ => ⟨v1, v2, e, h _ _ h1, Flat.mono h h2⟩
theorem Flat.length {α : Type} {R : α → List Value → Prop} {k : Nat} (h : ∀ x vs, R x vs → vs.length = k) : ∀ {l : List α} {vs : List Value}, Flat R l vs → vs.length = l.length * k
  | [], _, hf => by rw [show _ = [] from hf]; simp
  | _ :: l, _, ⟨v1, v2, e, h1, h2⟩ => by
    rw [e, List.length_append, h _ _ h1, Flat.length h h2, List.length_cons, Nat.add_mul, Nat.one_mul, Nat.add_comm]
theorem Flat.append {α : Type} {R : α → List Value → Prop} : ∀ {l l' : List α} {vs vs' : List Value}, Flat R l vs → Flat R l' vs' → Flat R (l ++ l') (vs ++ vs')
  | [], _, _, _, h, h' => by rw [show _ = [] from h]; exact h'
  | _ :: l, _, _, _, ⟨v1, v2, e, h1, h2⟩, h' => ⟨v1, _, by rw [e, List.append_assoc], h1, Flat.append h2 h'⟩
theorem Flat.split {α : Type} {R : α → List Value → Prop} {k : Nat} (h : ∀ x vs, R x vs → vs.length = k) : ∀ {l : List α} {vs : List Value} (n : Nat), Flat R l vs → Flat R (l.take n) (vs.take (n * k)) ∧ Flat R (l.drop n) (vs.drop (n * k))
  | [], vs, n, hf => by rw [show vs = [] from hf]; simp [Flat]
  | x :: l, vs, 0, hf => by simp only [List.take_zero, Nat.zero_mul, List.drop_zero]; exact ⟨rfl, hf⟩
  | x :: l, vs, n + 1, ⟨v1, v2, e, h1, h2⟩ => by
    obtain ⟨ha, hb⟩ := Flat.split h n h2
    have hk := h _ _ h1
    have e1 : (v1 ++ v2).take ((n + 1) * k) = v1 ++ v2.take (n * k) := by
      rw [List.take_append, List.take_of_length_le (by rw [hk, Nat.add_mul]; omega), hk]
      congr 2
      rw [Nat.add_mul]; omega
    have e2 : (v1 ++ v2).drop ((n + 1) * k) = v2.drop (n * k) := by
      rw [List.drop_append, List.drop_of_length_le (by rw [hk, Nat.add_mul]; omega), hk, List.nil_append]
      congr 1
      rw [Nat.add_mul]; omega
    rw [e, e1, e2]
    exact ⟨⟨v1, _, rfl, h1, ha⟩, hb⟩
/-- One element's cells. -/
theorem Flat.get {α : Type} {R : α → List Value → Prop} {k : Nat} (h : ∀ x vs, R x vs → vs.length = k) {l : List α} {vs : List Value} (hf : Flat R l vs) {i : Nat} {x : α} (hi : l[i]? = some x) : R x ((vs.drop (i * k)).take k) := by
  obtain ⟨_, h2⟩ := Flat.split h i hf
  have hlt : i < l.length := (List.getElem?_eq_some_iff.1 hi).1
  have e : l.drop i = x :: l.drop (i + 1) := by
    rw [List.drop_eq_getElem_cons hlt, (List.getElem?_eq_some_iff.1 hi).2]
  rw [e] at h2
  obtain ⟨v1, v2, e2, h3, _⟩ := h2
  rw [e2, List.take_append, List.take_of_length_le (by rw [h _ _ h3]; exact Nat.le_refl _), h _ _ h3, Nat.sub_self, List.take_zero, List.append_nil]
  exact h3
theorem Flat.set {α : Type} {R : α → List Value → Prop} {k : Nat} (h : ∀ x vs, R x vs → vs.length = k) {l : List α} {vs : List Value} (hf : Flat R l vs) {i : Nat} (hi : i < l.length) {x : α} {us : List Value} (hx : R x us) :
    Flat R (l.set i x) (vs.take (i * k) ++ us ++ vs.drop (i * k + k)) := by
  obtain ⟨h1, _⟩ := Flat.split h i hf
  obtain ⟨_, h2⟩ := Flat.split h (i + 1) hf
  rw [List.set_eq_take_append_cons_drop, if_pos hi, List.append_assoc]
  refine h1.append ⟨us, _, rfl, hx, ?_⟩
  rw [Nat.add_mul, Nat.one_mul] at h2
  exact h2
theorem FR.length {B : Nat → Prop} {w : World} : ∀ {g : GTy} {x : g.D} {vs : List Value}, FR B w g x vs → vs.length = g.size
  | .int _, _, _, h => by rw [show _ = [_] from h]; rfl
  | .bool, _, _, h => by rw [show _ = [_] from h]; rfl
  | .str, _, _, h => by rw [show _ = [_] from h]; rfl
  | .sl _, _, _, ⟨_, _, _, h, _⟩ => by rw [h]; rfl
  | .csl _, _, _, ⟨_, _, h, _⟩ => by rw [h]; rfl
  | .unit, _, _, h => by rw [show _ = [] from h]; rfl
  | .pair g h, _, _, ⟨v1, v2, e, h1, h2⟩ => by rw [e, List.length_append, FR.length h1, FR.length h2]; rfl
theorem FR.flat_length {B : Nat → Prop} {w : World} {g : GTy} {l : List g.D} {vs : List Value} (h : Flat (FR B w g) l vs) : vs.length = l.length * g.size := Flat.length (fun _ _ => FR.length) h

/-- More may be held fast, as it is. -/
structure Up (B : Nat → Prop) (w : World) (B' : Nat → Prop) (w' : World) : Prop where
  sub : ∀ k, B k → B' k
  same : ∀ k, B k → w'.heap[k]? = w.heap[k]?
theorem Up.refl (B : Nat → Prop) (w : World) : Up B w B w := ⟨fun _ h => h, fun _ _ => rfl⟩
theorem Up.trans {B B1 B2 : Nat → Prop} {w w1 w2 : World} (h : Up B w B1 w1) (k : Up B1 w1 B2 w2) : Up B w B2 w2 := ⟨fun i hi => k.sub i (h.sub i hi), fun i hi => (k.same i (h.sub i hi)).trans (h.same i hi)⟩
theorem Up.cell {B B' : Nat → Prop} {w w' : World} (h : Up B w B' w') {b o : Nat} (hb : B b) : w'.cell? ⟨b, o, none⟩ = w.cell? ⟨b, o, none⟩ := World.cell?_of_block (h.same b hb)
theorem RB.up {B B' : Nat → Prop} {w w' : World} (h : Up B w B' w') {A : Option Addr} {m size : Nat} {vs : List Value} (hr : RB B w A m size vs) : RB B' w' A m size vs := by
  refine ⟨⟨hr.1.1, fun hm => ?_⟩, fun b p hm e => h.sub b (hr.2 b p hm e)⟩
  obtain ⟨b, p, e, hc⟩ := hr.1.2 hm
  exact ⟨b, p, e, fun j u hu => by rw [h.cell (hr.2 b p hm e)]; exact hc j u hu⟩
theorem FR.up {B B' : Nat → Prop} {w w' : World} (h : Up B w B' w') : ∀ {g : GTy} {x : g.D} {vs : List Value}, FR B w g x vs → FR B' w' g x vs
  | .int _, _, _, hf => hf
  | .bool, _, _, hf => hf
  | .str, _, _, hf => hf
  | .sl _, _, _, ⟨A, c, xs, e, h1, h2, h3, h4⟩ => ⟨A, c, xs, e, h1, h2, Flat.mono (fun _ _ => FR.up h) h3, h4.up h⟩
  | .csl _, _, _, ⟨A, xs, e, h2, h3, h4⟩ => ⟨A, xs, e, h2, Flat.mono (fun _ _ => FR.up h) h3, h4.up h⟩
  | .unit, _, _, hf => hf
  | .pair _ _, _, _, ⟨v1, v2, e, h1, h2⟩ => ⟨v1, v2, e, FR.up h h1, FR.up h h2⟩

/-- What a closure holds: a block of one's own, or frozen data. -/
inductive Cap where
  | id (i : Nat)
  | fz (g : GTy) (x : g.D)
/-- What is known of a cell's value. -/
inductive SC where
  | val (v : Value)
  | str (s : List UInt8)
  | dead
  | ptr (id off : Nat)
  | elt (id sz i off : Nat)
  | pel (g : GTy) (x : g.D) (off : Nat)
  | par (g : GTy) (l : List g.D)
  | sl (id : Nat)
  | lst (g : GTy) (l : List g.D) (cap : Option Nat)
  | fn (f : FuncId) (ids : List Cap)
  | mref (id : Nat)
inductive SA where
  | c (x : SC)
  | agg (cs : List SC)
inductive SV where
  | a (x : SA)
  | may (g : Bool) (x : SA)
  | tup (vs : List SA)
abbrev SV.c (x : SC) : SV := .a (.c x)
/-- Where a block of the call's own lies. -/
inductive Loc where
  | no
  | blk (b : Nat)
  | row (A : Option Addr) (c n : Nat)
/-- Frozen data at a place. -/
def At (B : Nat → Prop) (w : World) (g : GTy) (x : g.D) (b o : Nat) : Prop := B b ∧ ∃ vs, FR B w g x vs ∧ ∀ j u, vs[j]? = some u → w.cell? ⟨b, o + j, none⟩ = some u
def capR (env : Nat → Loc) (B : Nat → Prop) (w : World) : Cap → Value → Prop
  | .id i, v => ∃ b, env i = .blk b ∧ v = .pointer (some ⟨b, 0, none⟩)
  | .fz g x, v => ∃ b o, v = .pointer (some ⟨b, o, none⟩) ∧ At B w g x b o
def ptrs (env : Nat → Loc) (B : Nat → Prop) (w : World) : List Cap → List Value → Prop
  | [], vs => vs = []
  | c :: cs, vs => ∃ v r, vs = v :: r ∧ capR env B w c v ∧ ptrs env B w cs r
def CR (env : Nat → Loc) (B : Nat → Prop) (w : World) : SC → Value → Prop
  | .val v, u => u = v
  | .str s, u => u = strV s
  | .dead, _ => True
  | .ptr id off, u => ∃ b, env id = .blk b ∧ u = .pointer (some ⟨b, off, none⟩)
  | .elt id sz i off, u => ∃ b c n, env id = .row (some ⟨b, 0, none⟩) c n ∧ u = .pointer (some ⟨b, i * sz + off, none⟩)
  | .pel g x off, u => ∃ b o, u = .pointer (some ⟨b, o + off, none⟩) ∧ At B w g x b o
  | .par g l, u => ∃ b o vs, u = .pointer (some ⟨b, o, none⟩) ∧ B b ∧ Flat (FR B w g) l vs ∧ ∀ j u, vs[j]? = some u → w.cell? ⟨b, o + j, none⟩ = some u
  | .sl id, u => ∃ A c n, env id = .row A c n ∧ u = .slice A n c
  | .lst g l cap, u => ∃ A c xs, u = .slice A l.length c ∧ l.length ≤ c ∧ c ≤ maxLen ∧ (∀ k, cap = some k → c = k) ∧ Flat (FR B w g) l xs ∧ RB B w A l.length g.size xs
  | .fn f ids, u => ∃ vs, u = .func (.func f) #[] vs.toArray ∧ ptrs env B w ids vs
  | .mref id, u => ∃ b, env id = .blk b ∧ u = .map (some b)
def CsR (env : Nat → Loc) (B : Nat → Prop) (w : World) : List SC → List Value → Prop
  | [], vs => vs = []
  | c :: cs, vs => ∃ v r, vs = v :: r ∧ CR env B w c v ∧ CsR env B w cs r
def SaR (env : Nat → Loc) (B : Nat → Prop) (w : World) : SA → Value → Prop
  | .c x, v => CR env B w x v
  | .agg cs, v => ∃ vs, v = .agg vs.toArray ∧ CsR env B w cs vs
def SasR (env : Nat → Loc) (B : Nat → Prop) (w : World) : List SA → List Value → Prop
  | [], vs => vs = []
  | c :: cs, vs => ∃ v r, vs = v :: r ∧ SaR env B w c v ∧ SasR env B w cs r
def VR (env : Nat → Loc) (B : Nat → Prop) (w : World) : SV → Value → Prop
  | .a x, v => SaR env B w x v
  | .may g x, v => (g = true → SaR env B w x v) ∧ (g = false → v = undef)
  | .tup xs, v => ∃ vs, v = .tuple vs.toArray ∧ SasR env B w xs vs

theorem At.up {B B' : Nat → Prop} {w w' : World} (h : Up B w B' w') {g : GTy} {x : g.D} {b o : Nat} (ha : At B w g x b o) : At B' w' g x b o := by
  obtain ⟨hb, vs, h1, h2⟩ := ha
  exact ⟨h.sub b hb, vs, FR.up h h1, fun j u hu => by rw [h.cell hb]; exact h2 j u hu⟩
theorem ptrs.up {env : Nat → Loc} {B B' : Nat → Prop} {w w' : World} (h : Up B w B' w') : ∀ {cs : List Cap} {vs : List Value}, ptrs env B w cs vs → ptrs env B' w' cs vs
  | [], _, hc => hc
  | .id _ :: _, _, ⟨v, r, e, h1, h2⟩ => ⟨v, r, e, h1, ptrs.up h h2⟩
  | .fz _ _ :: _, _, ⟨v, r, e, ⟨b, o, h1, h3⟩, h2⟩ => ⟨v, r, e, ⟨b, o, h1, h3.up h⟩, ptrs.up h h2⟩
theorem CR.up {env : Nat → Loc} {B B' : Nat → Prop} {w w' : World} (h : Up B w B' w') : ∀ {c : SC} {v : Value}, CR env B w c v → CR env B' w' c v
  | .val _, _, hc => hc
  | .str _, _, hc => hc
  | .dead, _, hc => hc
  | .ptr _ _, _, hc => hc
  | .elt _ _ _ _, _, hc => hc
  | .pel _ _ _, _, ⟨b, o, e, ha⟩ => ⟨b, o, e, ha.up h⟩
  | .par _ _, _, ⟨b, o, vs, e, hb, h1, h2⟩ => ⟨b, o, vs, e, h.sub b hb, Flat.mono (fun _ _ => FR.up h) h1, fun j u hu => by rw [h.cell hb]; exact h2 j u hu⟩
  | .sl _, _, hc => hc
  | .lst _ _ _, _, ⟨A, c, xs, e, h1, h2, h3, h4, h5⟩ => ⟨A, c, xs, e, h1, h2, h3, Flat.mono (fun _ _ => FR.up h) h4, h5.up h⟩
  | .fn _ _, _, ⟨vs, e, hp⟩ => ⟨vs, e, hp.up h⟩
  | .mref _, _, hc => hc
theorem CsR.up {env : Nat → Loc} {B B' : Nat → Prop} {w w' : World} (h : Up B w B' w') : ∀ {c : List SC} {v : List Value}, CsR env B w c v → CsR env B' w' c v
  | [], _, hc => hc
  | _ :: _, _, ⟨v, r, e, h1, h2⟩ => ⟨v, r, e, h1.up h, CsR.up h h2⟩
theorem SaR.up {env : Nat → Loc} {B B' : Nat → Prop} {w w' : World} (h : Up B w B' w') : ∀ {c : SA} {v : Value}, SaR env B w c v → SaR env B' w' c v
  | .c _, _, hc => CR.up h hc
  | .agg _, _, ⟨vs, e, h1⟩ => ⟨vs, e, h1.up h⟩
theorem SasR.up {env : Nat → Loc} {B B' : Nat → Prop} {w w' : World} (h : Up B w B' w') : ∀ {c : List SA} {v : List Value}, SasR env B w c v → SasR env B' w' c v
  | [], _, hc => hc
  | _ :: _, _, ⟨v, r, e, h1, h2⟩ => ⟨v, r, e, h1.up h, SasR.up h h2⟩
theorem VR.up {env : Nat → Loc} {B B' : Nat → Prop} {w w' : World} (h : Up B w B' w') : ∀ {c : SV} {v : Value}, VR env B w c v → VR env B' w' c v
  | .a _, _, hc => SaR.up h hc
  | .may _ _, _, hc => ⟨fun hg => (hc.1 hg).up h, hc.2⟩
  | .tup _, _, ⟨vs, e, h1⟩ => ⟨vs, e, h1.up h⟩
end Go.Proofs.YtcjpcmofajcadaaDoor
