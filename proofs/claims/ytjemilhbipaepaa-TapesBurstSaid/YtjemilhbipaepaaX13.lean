/- The rules: beginnings and ends of functions with ranges over functions; iterators. -/
import Derived.Test.YtjemilhbipaepaaX12
namespace Go.Proofs.Ytjemilhbipaepaa
open Go.RowKit
section
variable {r : Option Nat} {P : Program} {ops : Array Oper} {Q : Exit → Act → World → Prop} {o : Oper} {KK : Act → World → Prop} {c : Code}
variable {n : Nat} {D : List Deferred} {L : List (Nat × Value)} {B : Nat → Prop} {w0 : World} {H : List Ck} {a : Act} {w : World} {d : Nat}

theorem st_start {N : Nat} {vs : List Value} {fn : Func} (hN : fn.ntmps = N) (hle : vs.length ≤ N) (L0 : List (Nat × Value)) (hL : L0 = vs.zipIdx.map fun p => (p.2, p.1)) :
    St N [] L0 { tmps := vs.toArray ++ Array.replicate (fn.ntmps - vs.toArray.size) undef, defers := [] } := by
  refine ⟨by rw [hN]; exact argsHas vs hle, rfl, fun s v hs => ?_⟩
  have key : ∀ (vs : List Value) (k : Nat), ((vs.zipIdx k).map fun p => (p.2, p.1)).lookup s = some v → k ≤ s ∧ vs[s - k]? = some v := by
    intro vs
    induction vs with
    | nil => intro k h; cases h
    | cons u vs ih =>
      intro k h
      simp only [List.zipIdx_cons, List.map_cons, List.lookup_cons] at h
      by_cases e : s = k
      · subst e
        simp at h
        subst h
        simp
      · have e' : (s == k) = false := by simpa using e
        rw [e'] at h
        obtain ⟨h1, h2⟩ := ih (k + 1) h
        refine ⟨by omega, ?_⟩
        rw [show s - k = (s - (k + 1)) + 1 by omega, List.getElem?_cons_succ]
        exact h2
  have h1 := (key vs 0 (by rw [← hL]; exact hs)).2
  simp only [Nat.sub_zero] at h1
  have hlt : s < vs.length := (List.getElem?_eq_some_iff.1 h1).1
  show (vs.toArray ++ _)[s]? = some v
  rw [Array.getElem?_append_left (by simpa using hlt)]
  simpa using h1
theorem wide_n (c : Code) (m m' : Nat) (Q : Exit → Act → World → Prop) (a : Act) (w : World) : c.wpIn Fence.wide m P Q a w ↔ c.wpIn Fence.wide m' P Q a w := wpIn_wide.trans wpIn_wide.symm
/-- A function with a range over a function begins. -/
theorem f_startM {f : FuncId} {fn : Func} {N : Nat} {vs : List Value} {R : Value → World → Prop} (L0 : List (Nat × Value)) (hH : SH B w0 H w) (hf : P.funcs[f]? = some fn) (hb : fn.body = some c) (hN : fn.ntmps = N) (hl : Nat.ble vs.length N = true)
    (hL : L0 = vs.zipIdx.map fun p => (p.2, p.1))
    (h : ∀ a, Sym N [] L0 B w0 H a w → XC none P c (bodyPostM Fence.wide 0 P fn fun e w' => ∃ v, e = .returned v ∧ R v w') a w) : Ret P f vs.toArray w R :=
  (callsIn_wide (n := 0)).1 (callsIn_of_wp_marks hf hb trivial (h _ ⟨st_start hN (Nat.le_of_ble_eq_true hl) L0 hL, hH⟩))
/-- An iterator begins. -/
theorem f_startI {f : FuncId} {fn : Func} {N : Nat} {vs : List Value} {R : Ending → World → Prop} (L0 : List (Nat × Value)) (hf : P.funcs[f]? = some fn) (hb : fn.body = some c) (hN : fn.ntmps = N) (hl : Nat.ble vs.length N = true)
    (hL : L0 = vs.zipIdx.map fun p => (p.2, p.1))
    (h : ∀ a, Sym N [] L0 (fun k => k < w.heap.size) w [] a w → XC none P c (bodyPost P fn R) a w) : CallsIn Fence.wide 1 P f vs.toArray w R :=
  callsIn_of_wp hf hb trivial ((wide_n _ 0 1 _ _ _).1 (h _ ⟨st_start hN (Nat.le_of_ble_eq_true hl) L0 hL, SH.start w⟩))
/-- An iterator ends. -/
theorem f_endI {fn : Func} {R : Ending → World → Prop} (hX : Sym n [] L B w0 H a w) (hr : fn.results = #[]) (h : R (.returned (.tuple #[])) w) : bodyPost P fn R .ret a w :=
  ⟨hX.st.defs, _, by simp [results, hr], h⟩
theorem f_endN {fn : Func} {R : Ending → World → Prop} (hX : Sym n [] L B w0 H a w) (hr : fn.results = #[]) (h : R (.returned (.tuple #[])) w) : bodyPost P fn R .normal a w :=
  ⟨hX.st.defs, _, by simp [results, hr], h⟩
/-- The marks of ranges over functions are taken away at the end. -/
theorem leaves_marks {fn : Func} {tmps : Array Value} {R : Value → World → Prop} {v : Value} (hres : ∀ w, SH B w0 H w → (results fn tmps).run P w = .ok v w) (h : ∀ w, SH B w0 H w → R v w) :
    ∀ (ks : List Nat) (w : World), SH B w0 (ks.map (fun k => Ck.obj k (.deferred (some []))) ++ H) w → LeavesInM Fence.wide 0 P fn tmps (fun e w' => ∃ v, e = .returned v ∧ R v w') (ks.map markOf) .returning w
  | [], w, hs => ⟨v, hres w hs, v, rfl, h w hs⟩
  | k :: ks, w, hs => by
    have hk := (hs.ok (.obj k (.deferred (some []))) (by simp)).2
    refine ⟨by simp, .inl ⟨k, _, rfl, run_takeDeferred hk, ?_⟩⟩
    refine leaves_marks hres h ks _ ?_
    have := (hs.setO (x' := .deferred none) (K := fun c => c :: (ks.map (fun k => Ck.obj k (.deferred (some []))) ++ H)) foc0).weak (List.sublist_cons_self _ _)
    exact this
theorem f_retM {fn : Func} {R : Value → World → Prop} {v : Value} (ks : List Nat) (hX : Sym n (ks.map markOf) L B w0 (ks.map (fun k => Ck.obj k (.deferred (some []))) ++ H) a w)
    (hres : ∀ w, SH B w0 H w → (results fn a.tmps).run P w = .ok v w) (h : ∀ w, SH B w0 H w → R v w) : bodyPostM Fence.wide 0 P fn (fun e w' => ∃ v, e = .returned v ∧ R v w') .ret a w := by
  show LeavesInM _ _ _ _ _ _ a.defers _ _
  rw [hX.st.defs]
  exact leaves_marks hres h ks w hX.sh
theorem res_tmp1 {fn : Func} {s : Nat} {v : Value} (hS : St n D L a) (hr : fn.results = #[.tmp s]) (hs : L.lookup s = some v) (w : World) : (results fn a.tmps).run P w = .ok v w := by
  have h1 : a.tmps.getD s undef = v := hS.ev (x := .tmp s) hs
  simp [results, hr, ← h1]
/-- yield is called. -/
theorem x_yield {l s : Nat} {u : Operand} {ts : Array TypeId} {x : Value} {rest : List Oper} {R : Ending → World → Prop} (hX : Sym n D L B w0 H a w)
    (hop : o.op = .call { callee := .value (.tmp s), args := #[u], argTypes := ts }) (ho : o.guard = none ∧ o.dst = some d) (hd : Nat.blt d n = true) (hs : L.lookup s = some (.func (.yield l) #[] #[])) (hu : ev L u = some x)
    (hY : YieldAt Fence.wide 0 P l #[x] w R) (hR : ∀ e w', R e w' → ∃ v, e = .returned v)
    (h : ∀ v a' w', R (.returned v) w' → St n D ((d, v) :: L) a' → XL none P ops Q rest a' w') : XL none P ops Q (o :: rest) a w := by
  obtain ⟨fn, tmps, assign, body, hy, hRound⟩ := hY
  have hw : Region.wanted o (yielded ops a.tmps) = true := by simp [Region.wanted, ho.1]
  show (if Region.wanted o (yielded ops a.tmps) then _ else _)
  rw [if_pos hw]
  refine ⟨fun _ _ => trivial, ?_⟩
  have hrun : (execOp a.eval o).run P w = .ok (.round l fn tmps assign body) w := by
    have e1 := hX.ev (x := .tmp s) hs
    simp [execOp, hop, resolve, e1, hX.ev hu, Deferred.ofValue, invoke, hy]
  show Oper.uponIn _ _ _ _ _ _ _ ((o.semAt none a.eval).run P w)
  rw [Oper.semAt_none, hrun]
  refine ⟨(fun h => by cases h), RoundIn.mono hRound ?_⟩
  intro e w' hq
  obtain ⟨v, rfl⟩ := hR e w' hq
  exact h v _ w' hq (by rw [ho.2]; exact hX.st.put d v (lt_of_blt hd))
theorem p_min {k : IntKind} {u v : Operand} {ts : Array TypeId} {x y z : Int} (hS : St n D L a) (hop : o.op = .call { callee := .builtin .min, args := #[u, v], argTypes := ts }) (hu : ev L u = some (.int k x)) (hv : ev L v = some (.int k y)) (hz : (if y < x then y else x) = z) : PV P o a (.int k z) := fun w => by
  subst hz
  simp [execOp, hop, resolve, invoke, builtin, Builtin.min_, Builtin.min2, hS.ev hu, hS.ev hv]
theorem p_max {k : IntKind} {u v : Operand} {ts : Array TypeId} {x y z : Int} (hS : St n D L a) (hop : o.op = .call { callee := .builtin .max, args := #[u, v], argTypes := ts }) (hu : ev L u = some (.int k x)) (hv : ev L v = some (.int k y)) (hz : (if x < y then y else x) = z) : PV P o a (.int k z) := fun w => by
  subst hz
  simp [execOp, hop, resolve, invoke, builtin, Builtin.max_, Builtin.max2, hS.ev hu, hS.ev hv]
end
end Go.Proofs.Ytjemilhbipaepaa
namespace Go.Proofs.Ytjemilhbipaepaa
/-- A call that makes two pieces of memory. -/
theorem y_callC2 {P : Program} {ops : Array Oper} {o : Oper} {KK : Act → World → Prop} {n : Nat} {D : List Deferred} {L : List (Nat × Value)} {B : Nat → Prop} {w0 : World} {H : List Ck} {a : Act} {w : World} {d : Nat}
    {α : Type} {V : α → Value} {C C' : α → Ck} {φ : α → Prop} {f : FuncId} {fn : Func} {xs : List Operand} {ts : Array TypeId} {vs : List Value} (hX : Sym n D L B w0 H a w)
    (hop : o.op = .call { callee := .value (.func f), args := xs.toArray, argTypes := ts }) (ho : o.guard = none ∧ o.dst = some d) (hd : Nat.blt d n = true)
    (hfn : P.funcs[f]? = some fn) (hn : (fn.name == "runtime.NumGoroutine") = false) (hb : fn.body.isNone = false) (hv : evs L xs = some vs) (hC : Ret P f vs.toArray w fun u w' => ∃ x, u = V x ∧ φ x ∧ SF w [C x, C' x] w')
    (h : ∀ x a' w', φ x → Sym n D ((d, V x) :: L) B w0 (C x :: C' x :: H) a' w' → KK a' w') : XO P ops o KK a w :=
  y_call hX hop ho hd hfn hn hb hv hC fun u a' w' ⟨x, hu, hφ, hw⟩ hS => h x a' w' hφ ⟨by rw [← hu]; exact hS, hX.sh.join hw⟩
theorem SH.grown {W w : World} {H : List Ck} (h : SF W H w) : W.grownBy w none :=
  ⟨h.below.os, h.below.tape, h.below.output, h.below.size, fun k hk _ => h.below.block k hk⟩
/-- A call that changes a row. -/
theorem y_callR {P : Program} {ops : Array Oper} {o : Oper} {KK : Act → World → Prop} {n : Nat} {D : List Deferred} {L : List (Nat × Value)} {B : Nat → Prop} {w0 : World} {H H' : List Ck} {a : Act} {w : World} {d : Nat}
    {m : Nat} {C : Option Addr → Nat → Ck} {f : FuncId} {fn : Func} {xs : List Operand} {ts : Array TypeId} {vs : List Value} (hX : Sym n D L B w0 H a w)
    (hop : o.op = .call { callee := .value (.func f), args := xs.toArray, argTypes := ts }) (ho : o.guard = none ∧ o.dst = some d) (hd : Nat.blt d n = true)
    (hfn : P.funcs[f]? = some fn) (hn : (fn.name == "runtime.NumGoroutine") = false) (hb : fn.body.isNone = false) (hv : evs L xs = some vs) (hC : Ret P f vs.toArray w fun u w' => ∃ A' c', u = .slice A' m c' ∧ SH B w0 (C A' c' :: H') w')
    (h : ∀ A' c' a' w', Sym n D ((d, .slice A' m c') :: L) B w0 (C A' c' :: H') a' w' → KK a' w') : XO P ops o KK a w :=
  y_call hX hop ho hd hfn hn hb hv hC fun u a' w' ⟨A', c', hu, hw⟩ hS => h A' c' a' w' ⟨by rw [← hu]; exact hS, hw⟩
/-- What is held fast is held fast by the rest, too. -/
theorem SH.restB {B : Nat → Prop} {w0 w : World} {H : List Ck} (h : SH B w0 H w) {k : Nat} (hk : B k) : Rest w H k := ⟨h.base k hk, fun c hc e => ((h.ok c hc).lt e).1 hk⟩
/-- A part of the memory was changed. -/
theorem SH.frame {B : Nat → Prop} {w0 w w' : World} {H1 H H1' : List Ck} (h : SH B w0 (H1 ++ H) w) (h' : SH (Rest w H1) w H1' w') : SH B w0 (H1' ++ H) w' := by
  have h1 : SH B w0 H1 w := h.weak (List.sublist_append_left _ _)
  have h2 : SH B w0 H w := h.weak (List.sublist_append_right _ _)
  have hk := h1.back h'
  have hap := (List.pairwise_append.1 h.apart).2.2
  have hr : ∀ c ∈ H, ∀ b, c.at = some b → Rest w H1 b := fun c hc b e => ⟨((h2.ok c hc).lt e).2, fun d hd e' => hap d hd c hc b e' e⟩
  refine ⟨hk.below, hk.base, fun c hm => ?_, List.pairwise_append.2 ⟨hk.apart, h2.apart, fun c hm d hd b e e' => ?_⟩⟩
  · rcases List.mem_append.1 hm with hm | hm
    · exact hk.ok c hm
    · exact (h2.ok c hm).keep fun b e => h'.below.block b (hr c hm b e)
  · exact ((h'.ok c hm).lt e).1 (hr d hd b e')
/-- The parameter of a round. -/
theorem St.param {n : Nat} {D : List Deferred} {L : List (Nat × Value)} {a : Act} (hS : St n D L a) {p : Nat} {x : Value} (hp : Nat.blt p n = true) {Lp : List (Nat × Value)} (hs : Sub ((p, x) :: L) Lp) {a0 : Act} (ht : a0.tmps = a.tmps.setIfInBounds p x) (hd : a0.defers = []) : St n [] Lp a0 := by
  have h := (hS.put p x (lt_of_blt hp)).weak hs.all
  refine ⟨by rw [ht]; simpa using hS.size, hd, fun s v hv => ?_⟩
  rw [ht]
  exact h.has s v hv
theorem run_callFunc {P : Program} {f : FuncId} {fn : Func} {args : Array Value} {w : World} (hfn : P.funcs[f]? = some fn) (hn : (fn.name == "runtime.NumGoroutine") = false) (hb : fn.body.isNone = false) : (callFunc f args).run P w = .ok (.enter f args) w := by
  have hn' : fn.name ≠ "runtime.NumGoroutine" := by simpa using hn
  have hb' : fn.body ≠ none := by intro h; rw [h] at hb; cases hb
  simp [callFunc, program, Sem.run, hfn, hn', hb']
end Go.Proofs.Ytjemilhbipaepaa
namespace Go.Proofs.Ytjemilhbipaepaa
theorem Sel.consE {H H' H'' : List Ck} {c c' : Ck} (h : Take H c H') (e : c = c') (hs : Sel H' H'') : Sel H (c' :: H'') := by
  subst e; exact .cons h hs
theorem row_eq {A : Option Addr} {c : Nat} {e : TypeId} {size n n' : Nat} {xs xs' : List Value} (hn : n = n') (hx : xs = xs') : Ck.row A c e size n xs = Ck.row A c e size n' xs' := by rw [hn, hx]
theorem cel_eq {b : Nat} {e : TypeId} {xs xs' : List Value} (hx : xs = xs') : Ck.cel b xs e = Ck.cel b xs' e := by rw [hx]
theorem slice_eq {A : Option Addr} {c n n' : Nat} (hn : n = n') : Value.slice A n c = Value.slice A n' c := by rw [hn]
end Go.Proofs.Ytjemilhbipaepaa
