/- Rules for walking through operations with a short list of known slots and a short list of known blocks. -/
import Derived.WalkKit
import Derived.OwnWalkIn
import Derived.TacticsInMore
import Derived.OrdersIn
import Derived.RangeFuncCalls
import Derived.Below
namespace Go.Proofs.Ytjemilhbipaepaa
open Go.RowKit

/-- The wide fence, in a round of a range over a function or in none. -/
def WF (r : Option Nat) : Fence := { Fence.wide with round := r }
theorem WF_none : WF none = Fence.wide := rfl
theorem WF_some (l : Nat) : WF (some l) = Fence.wide.inRound l := rfl

/-- What is known of the slots. -/
structure St (n : Nat) (D : List Deferred) (L : List (Nat × Value)) (a : Act) : Prop where
  size : a.tmps.size = n
  defs : a.defers = D
  has : ∀ s v, L.lookup s = some v → a.tmps[s]? = some v

def ev (L : List (Nat × Value)) : Operand → Option Value
  | .tmp s => L.lookup s
  | .const v => some v
  | .global g => some (.pointer (some ⟨g, 0, none⟩))
  | .func f => some (.func (.func f) #[] #[])

/-- The values of operands, and of parts. -/
def evs (L : List (Nat × Value)) : List Operand → Option (List Value)
  | [] => some []
  | x :: xs => match ev L x, evs L xs with
    | some v, some l => some (v :: l)
    | _, _ => none
def evp (L : List (Nat × Value)) : List (Nat × Operand) → Option (List (Nat × Value))
  | [] => some []
  | p :: ps => match ev L p.2, evp L ps with
    | some v, some l => some ((p.1, v) :: l)
    | _, _ => none
section
variable {n : Nat} {D : List Deferred} {L : List (Nat × Value)} {a : Act}
theorem St.ev (h : St n D L a) {x : Operand} {v : Value} (hx : ev L x = some v) : a.eval x = v := by
  cases x with
  | tmp s =>
    have h1 := h.has s v hx
    show a.tmps.getD s undef = v
    rw [Array.getD_eq_getD_getElem?, h1]; rfl
  | const u => exact Option.some.inj hx
  | global g => exact Option.some.inj hx
  | func f => exact Option.some.inj hx
theorem St.evs (h : St n D L a) : ∀ {xs : List Operand} {vs : List Value}, evs L xs = some vs → xs.map a.eval = vs
  | [], vs, hx => by cases hx; rfl
  | x :: xs, vs, hx => by
    unfold Ytjemilhbipaepaa.evs at hx
    cases h1 : Ytjemilhbipaepaa.ev L x with
    | none => rw [h1] at hx; cases hx
    | some v =>
      cases h2 : Ytjemilhbipaepaa.evs L xs with
      | none => rw [h1, h2] at hx; cases hx
      | some l =>
        rw [h1, h2] at hx
        cases hx
        rw [List.map_cons, h.ev h1, h.evs h2]
theorem St.evp (h : St n D L a) : ∀ {xs : List (Nat × Operand)} {vs : List (Nat × Value)}, evp L xs = some vs → xs.map (fun p => (p.1, a.eval p.2)) = vs
  | [], vs, hx => by cases hx; rfl
  | x :: xs, vs, hx => by
    unfold Ytjemilhbipaepaa.evp at hx
    cases h1 : Ytjemilhbipaepaa.ev L x.2 with
    | none => rw [h1] at hx; cases hx
    | some v =>
      cases h2 : Ytjemilhbipaepaa.evp L xs with
      | none => rw [h1, h2] at hx; cases hx
      | some l =>
        rw [h1, h2] at hx
        cases hx
        rw [List.map_cons, h.ev h1, h.evp h2]
theorem St.put (h : St n D L a) (d : Nat) (v : Value) (hd : d < n) : St n D ((d, v) :: L) (a.put (some d) v) := by
  refine ⟨?_, h.defs, fun s u hs => ?_⟩
  · simpa [Act.put] using h.size
  · by_cases e : s = d
    · subst e
      simp at hs
      subst hs
      simp [Act.put, h.size, hd]
    · have : (s == d) = false := by simpa using e
      rw [List.lookup_cons, this] at hs
      simp only [Act.put]
      rw [Array.getElem?_setIfInBounds_ne (fun e' => e e'.symm)]
      exact h.has s u hs
theorem St.none (h : St n D L a) (v : Value) : St n D L (a.put none v) := h
/-- Slots may be forgotten. -/
theorem St.weak (h : St n D L a) {L' : List (Nat × Value)} (hl : ∀ p ∈ L', L.lookup p.1 = some p.2) : St n D L' a :=
  ⟨h.size, h.defs, fun s v hs => by
    have : ∀ L' : List (Nat × Value), (∀ p ∈ L', L.lookup p.1 = some p.2) → L'.lookup s = some v → a.tmps[s]? = some v := by
      intro L'
      induction L' with
      | nil => intro _ h2; cases h2
      | cons p l ih =>
        intro h1 h2
        rw [List.lookup_cons] at h2
        by_cases e : (s == p.1) = true
        · rw [e] at h2
          have e' : s = p.1 := by simpa using e
          have e2 : p.2 = v := Option.some.inj h2
          have := h1 p (by simp)
          rw [e2, ← e'] at this
          exact h.has s v this
        · have e' : (s == p.1) = false := by simpa using e
          rw [e'] at h2
          exact ih (fun q hq => h1 q (List.mem_cons_of_mem _ hq)) h2
    exact this L' hl hs⟩
end

/-! ### One operation -/

section
variable {r : Option Nat} {P : Program} {ops : Array Oper} {Q : Exit → Act → World → Prop} {o : Oper} {KK : Act → World → Prop}
variable {n : Nat} {D : List Deferred} {L : List (Nat × Value)} {a : Act} {w : World}

/-- A region that does not draw, a list of operations. -/
abbrev XL (r : Option Nat) (P : Program) (ops : Array Oper) (Q : Exit → Act → World → Prop) (l : List Oper) (a : Act) (w : World) : Prop := wpListIn (WF r) 0 P ops Q l a w
/-- It gives a value, or nothing, or a call returns. -/
def OpOk (P : Program) (o : Oper) (a : Act) (w : World) (Kv : Value → World → Prop) : Prop :=
  (∃ v w', (execOp a.eval o).run P w = .ok (.value v) w' ∧ Kv v w') ∨ (∃ w', (execOp a.eval o).run P w = .ok .skip w' ∧ Kv undef w') ∨
  (∃ f args w1, (execOp a.eval o).run P w = .ok (.enter f args) w1 ∧ Calls P f args w1 fun e w' => ∃ v, e = .returned v ∧ Kv v w')
/-- One operation, with its guard. -/
def XO (P : Program) (ops : Array Oper) (o : Oper) (KK : Act → World → Prop) (a : Act) (w : World) : Prop :=
  (Region.wanted o (yielded ops a.tmps) = true ∧ OpOk P o a w fun v w' => KK (a.put o.dst v) w') ∨ (Region.wanted o (yielded ops a.tmps) = false ∧ KK (a.put o.dst undef) w)

theorem nodefer_of {x : Next} {w' : World} (h : (execOp a.eval o).run P w = .ok x w') (hx : ∀ d, x ≠ .defer d) (c : Call) : o.op ≠ .defer c := by
  intro hop
  simp only [execOp, hop, Sem.run_bind] at h
  cases hr : (resolve a.eval c o.type).run P w with
  | ok d w1 =>
    rw [hr] at h
    simp at h
    exact hx d h.1.symm
  | halt y w1 => rw [hr] at h; simp [Result.andThen] at h
theorem semAt_of (h : ∀ c, o.op ≠ .defer c) : o.semAt r a.eval = execOp a.eval o := by
  cases r with
  | none => rfl
  | some l => exact Oper.semAt_some l _ _ h
theorem XO.fenced (h : XO P ops o KK a w) :
    if Region.wanted o (yielded ops a.tmps) = true then Oper.wpIn (WF r) 0 P o a w KK Q else (∀ f, o.about P w a.eval = some f → (WF r).fn f) ∧ KK (a.put o.dst undef) w := by
  rcases h with ⟨hw, h⟩ | ⟨hw, h⟩
  · rw [if_pos hw]
    refine ⟨fun _ _ => trivial, ?_⟩
    show Oper.uponIn _ _ _ _ _ _ _ ((o.semAt r a.eval).run P w)
    rcases h with ⟨v, w', hr, hk⟩ | ⟨w', hr, hk⟩ | ⟨f, args, w1, hr, hc⟩
    · rw [semAt_of (nodefer_of hr (fun _ h => by cases h)), hr]; exact hk
    · rw [semAt_of (nodefer_of hr (fun _ h => by cases h)), hr]; exact hk
    · rw [semAt_of (nodefer_of hr (fun _ h => by cases h)), hr]
      refine ⟨(fun h => by cases h), ?_⟩
      have hC' := (callsIn_wide (n := 0)).2 hc
      refine CallsIn.mono (F := WF r) hC' ?_
      rintro e w' ⟨v, rfl, hv⟩
      exact hv
  · rw [if_neg (by rw [hw]; simp)]
    exact ⟨fun _ _ => trivial, h⟩
theorem xl_cons {rest : List Oper} (h : XO P ops o (XL r P ops Q rest) a w) : XL r P ops Q (o :: rest) a w := XO.fenced h
theorem XO.plain {i : Nat} (hi : ops[i]? = some o) (h : XO P ops o KK a w) : wpOp P ops Q i KK a w := by
  unfold wpOp
  simp only [hi]
  rcases h with ⟨hw, h⟩ | ⟨hw, h⟩
  · rw [if_pos hw]
    refine .inl ?_
    unfold Oper.wp
    rcases h with ⟨v, w', hr, hk⟩ | ⟨w', hr, hk⟩ | ⟨f, args, w1, hr, hc⟩
    · rw [hr]; exact hk
    · rw [hr]; exact hk
    · rw [hr]
      refine Calls.mono hc ?_
      rintro e w' ⟨v, rfl, hv⟩
      exact hv
  · rw [if_neg (by rw [hw]; simp)]
    exact h

/-- An operation that gives a value. -/
theorem x_value {v : Value} {w' : World} {d : Nat} (hS : St n D L a) (hgd : o.guard = none) (hdst : o.dst = some d) (hd : d < n)
    (hrun : (execOp a.eval o).run P w = .ok (.value v) w') (h : ∀ a', St n D ((d, v) :: L) a' → KK a' w') : XO P ops o KK a w :=
  .inl ⟨by simp [Region.wanted, hgd], .inl ⟨v, w', hrun, h _ (by rw [hdst]; exact hS.put d v hd)⟩⟩
/-- An operation without a result. -/
theorem x_skip {w' : World} (hS : St n D L a) (hgd : o.guard = none) (hdst : o.dst = none)
    (hrun : (execOp a.eval o).run P w = .ok .skip w') (h : ∀ a', St n D L a' → KK a' w') : XO P ops o KK a w :=
  .inl ⟨by simp [Region.wanted, hgd], .inr (.inl ⟨w', hrun, h _ (by rw [hdst]; exact hS)⟩)⟩
theorem x_end (h : Q .normal a w) : XL r P ops Q [] a w := h
end
end Go.Proofs.Ytjemilhbipaepaa
