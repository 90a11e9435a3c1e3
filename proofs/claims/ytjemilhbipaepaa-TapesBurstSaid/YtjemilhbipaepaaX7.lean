/- The rules: forgetting slots, loops, calls by their contracts. -/
import Derived.Test.YtjemilhbipaepaaX6
namespace Go.Proofs.Ytjemilhbipaepaa
open Go.RowKit

/-- Some slots are forgotten. -/
inductive Rm (ks : List Nat) : List (Nat × Value) → List (Nat × Value) → Prop where
  | nil : Rm ks [] []
  | skip {k : Nat} {v : Value} {L L' : List (Nat × Value)} (hk : ks.contains k = true) (h : Rm ks L L') : Rm ks ((k, v) :: L) L'
  | keep {k : Nat} {v : Value} {L L' : List (Nat × Value)} (hk : ks.contains k = false) (h : Rm ks L L') : Rm ks ((k, v) :: L) ((k, v) :: L')
theorem Rm.look {ks : List Nat} {L L' : List (Nat × Value)} (h : Rm ks L L') : ∀ s v, L'.lookup s = some v → ks.contains s = false ∧ L.lookup s = some v := by
  induction h with
  | nil => intro s v h; cases h
  | skip hk _ ih =>
    rename_i k u L L' _
    intro s v h
    obtain ⟨h1, h2⟩ := ih s v h
    refine ⟨h1, ?_⟩
    have : (s == k) = false := by
      cases e : (s == k) with
      | false => rfl
      | true =>
        have e' : s = k := by simpa using e
        subst e'
        rw [hk] at h1; cases h1
    rw [List.lookup_cons, this]
    exact h2
  | keep hk _ ih =>
    rename_i k u L L' _
    intro s v h
    rw [List.lookup_cons] at h
    cases e : (s == k) with
    | true =>
      rw [e] at h
      have e' : s = k := by simpa using e
      subst e'
      exact ⟨hk, by rw [List.lookup_cons, e]; exact h⟩
    | false =>
      rw [e] at h
      obtain ⟨h1, h2⟩ := ih s v h
      exact ⟨h1, by rw [List.lookup_cons, e]; exact h2⟩
theorem St.rm {n : Nat} {D : List Deferred} {L L' : List (Nat × Value)} {a : Act} (h : St n D L a) (ks : List Nat) (hr : Rm ks L L') : St n D L' a := ⟨h.size, h.defs, fun s v hs => h.has s v (hr.look s v hs).2⟩
/-- What is asked of slots is known. -/
inductive Sub (L : List (Nat × Value)) : List (Nat × Value) → Prop where
  | nil : Sub L []
  | cons {k : Nat} {v : Value} {L' : List (Nat × Value)} (hk : L.lookup k = some v) (h : Sub L L') : Sub L ((k, v) :: L')
theorem Sub.all {L L' : List (Nat × Value)} (h : Sub L L') : ∀ p ∈ L', L.lookup p.1 = some p.2 := by
  induction h with
  | nil => intro p hp; cases hp
  | cons hk _ ih =>
    intro p hp
    rcases List.mem_cons.1 hp with rfl | hp
    · exact hk
    · exact ih p hp

section
variable {r : Option Nat} {P : Program} {ops : Array Oper} {Q : Exit → Act → World → Prop} {o : Oper} {KK : Act → World → Prop}
variable {n : Nat} {D : List Deferred} {L L' : List (Nat × Value)} {B : Nat → Prop} {w0 : World} {H H' : List Ck} {a : Act} {w : World}
variable {d : Nat} {c : Code}

theorem Sym.rm (hX : Sym n D L B w0 H a w) (ks : List Nat) (hr : Rm ks L L') : Sym n D L' B w0 H a w := ⟨hX.st.rm ks hr, hX.sh⟩
theorem Sym.to (hX : Sym n D L B w0 H a w) (hl : Sub L L') (hs : Sel H H') : Sym n D L' B w0 H' a w := ⟨hX.st.weak hl.all, hX.sh.sel hs⟩
theorem Sym.toL (hX : Sym n D L B w0 H a w) (hl : Sub L L') : Sym n D L' B w0 H a w := ⟨hX.st.weak hl.all, hX.sh⟩
theorem Sym.toH (hX : Sym n D L B w0 H a w) (hs : Sel H H') : Sym n D L B w0 H' a w := ⟨hX.st, hX.sh.sel hs⟩

/-- A loop: an index says what the slots and the memory are at the head of each round. -/
theorem c_loopX {α : Type} (Lx : α → List (Nat × Value)) (Hx : α → List Ck) (φ : α → Prop) (m : α → Nat) (x0 : α) (hφ : φ x0) (h0 : Sym n D (Lx x0) B w0 (Hx x0) a w)
    (hr : ∀ x a w, φ x → Sym n D (Lx x) B w0 (Hx x) a w → XC r P c (Exit.then (fun a' w' => ∃ y, φ y ∧ m y < m x ∧ Sym n D (Lx y) B w0 (Hx y) a' w') Q) a w) : XC r P (.loop c) Q a w :=
  c_loop (fun x a w => φ x ∧ Sym n D (Lx x) B w0 (Hx x) a w) m x0 ⟨hφ, h0⟩ fun x a w hM => wpIn_mono (hr x a w hM.1 hM.2) fun e a' w' hq => by
    cases e with
    | normal =>
      obtain ⟨y, h1, h2, h3⟩ := hq
      exact ⟨y, ⟨h1, h3⟩, h2⟩
    | _ => exact hq

/-- A call whose value is known, and that leaves what there was. -/
theorem y_callP {f : FuncId} {fn : Func} {xs : List Operand} {ts : Array TypeId} {vs : List Value} {v : Value} (hX : Sym n D L B w0 H a w)
    (hop : o.op = .call { callee := .value (.func f), args := xs.toArray, argTypes := ts }) (ho : o.guard = none ∧ o.dst = some d) (hd : Nat.blt d n = true)
    (hfn : P.funcs[f]? = some fn) (hn : (fn.name == "runtime.NumGoroutine") = false) (hb : fn.body.isNone = false) (hv : evs L xs = some vs) (hC : Ret P f vs.toArray w fun u w' => u = v ∧ SF w [] w')
    (h : ∀ a' w', Sym n D ((d, v) :: L) B w0 H a' w' → KK a' w') : XO P ops o KK a w :=
  y_call hX hop ho hd hfn hn hb hv hC fun u a' w' ⟨hu, hw⟩ hS => h a' w' ⟨by rw [← hu]; exact hS, hX.sh.join hw⟩
/-- A call that makes one piece of memory. -/
theorem y_callC {α : Type} {V : α → Value} {C : α → Ck} {φ : α → Prop} {f : FuncId} {fn : Func} {xs : List Operand} {ts : Array TypeId} {vs : List Value} (hX : Sym n D L B w0 H a w)
    (hop : o.op = .call { callee := .value (.func f), args := xs.toArray, argTypes := ts }) (ho : o.guard = none ∧ o.dst = some d) (hd : Nat.blt d n = true)
    (hfn : P.funcs[f]? = some fn) (hn : (fn.name == "runtime.NumGoroutine") = false) (hb : fn.body.isNone = false) (hv : evs L xs = some vs) (hC : Ret P f vs.toArray w fun u w' => ∃ x, u = V x ∧ φ x ∧ SF w [C x] w')
    (h : ∀ x a' w', φ x → Sym n D ((d, V x) :: L) B w0 (C x :: H) a' w' → KK a' w') : XO P ops o KK a w :=
  y_call hX hop ho hd hfn hn hb hv hC fun u a' w' ⟨x, hu, hφ, hw⟩ hS => h x a' w' hφ ⟨by rw [← hu]; exact hS, hX.sh.join hw⟩
end
end Go.Proofs.Ytjemilhbipaepaa
namespace Go.Proofs.Ytjemilhbipaepaa
theorem contra_tf {g : Bool} (h1 : g = true) (h0 : g = false) : False := by rw [h1] at h0; cases h0
theorem Sel.refl : ∀ H : List Ck, Sel H H
  | [] => .nil
  | _ :: H => .cons .here (Sel.refl H)
end Go.Proofs.Ytjemilhbipaepaa
namespace Go.Proofs.Ytjemilhbipaepaa
theorem Sel.skip {d : Ck} {H H' : List Ck} (h : Sel H H') : Sel (d :: H) H' := by
  induction h with
  | nil => exact .nil
  | cons h _ ih => exact .cons (.there h) ih
theorem selD1 {c : Ck} {H : List Ck} : Sel (c :: H) H := (Sel.refl H).skip
theorem selD2 {c d : Ck} {H : List Ck} : Sel (c :: d :: H) H := selD1.skip
theorem selD3 {c d e : Ck} {H : List Ck} : Sel (c :: d :: e :: H) H := selD2.skip
theorem selD4 {c d e f : Ck} {H : List Ck} : Sel (c :: d :: e :: f :: H) H := selD3.skip
end Go.Proofs.Ytjemilhbipaepaa
namespace Go.Proofs.Ytjemilhbipaepaa
theorem look_bool {L : List (Nat × Value)} {s : Nat} {b b' : Bool} (h : L.lookup s = some (.bool b)) (e : b = b') : L.lookup s = some (.bool b') := by rw [h, e]
theorem look_int {L : List (Nat × Value)} {s : Nat} {k : IntKind} {b b' : Int} (h : L.lookup s = some (.int k b)) (e : b = b') : L.lookup s = some (.int k b') := by rw [h, e]
theorem look_val {L : List (Nat × Value)} {s : Nat} {b b' : Value} (h : L.lookup s = some b) (e : b = b') : L.lookup s = some b' := by rw [h, e]
end Go.Proofs.Ytjemilhbipaepaa
namespace Go.Proofs.Ytjemilhbipaepaa
theorem tk0 {c : Ck} {H : List Ck} : Take (c :: H) c H := .here
theorem tk1 {c d0 : Ck} {H : List Ck} : Take (d0 :: c :: H) c (d0 :: H) := .there tk0
theorem tk2 {c d0 d1 : Ck} {H : List Ck} : Take (d0 :: d1 :: c :: H) c (d0 :: d1 :: H) := .there tk1
theorem tk3 {c d0 d1 d2 : Ck} {H : List Ck} : Take (d0 :: d1 :: d2 :: c :: H) c (d0 :: d1 :: d2 :: H) := .there tk2
theorem tk4 {c d0 d1 d2 d3 : Ck} {H : List Ck} : Take (d0 :: d1 :: d2 :: d3 :: c :: H) c (d0 :: d1 :: d2 :: d3 :: H) := .there tk3
theorem tk5 {c d0 d1 d2 d3 d4 : Ck} {H : List Ck} : Take (d0 :: d1 :: d2 :: d3 :: d4 :: c :: H) c (d0 :: d1 :: d2 :: d3 :: d4 :: H) := .there tk4
theorem tk6 {c d0 d1 d2 d3 d4 d5 : Ck} {H : List Ck} : Take (d0 :: d1 :: d2 :: d3 :: d4 :: d5 :: c :: H) c (d0 :: d1 :: d2 :: d3 :: d4 :: d5 :: H) := .there tk5
theorem tk7 {c d0 d1 d2 d3 d4 d5 d6 : Ck} {H : List Ck} : Take (d0 :: d1 :: d2 :: d3 :: d4 :: d5 :: d6 :: c :: H) c (d0 :: d1 :: d2 :: d3 :: d4 :: d5 :: d6 :: H) := .there tk6
end Go.Proofs.Ytjemilhbipaepaa
