/- The rules: guards, control, calls, beginnings and ends. -/
import Derived.Test.YtjemilhbipaepaaX4
namespace Go.Proofs.Ytjemilhbipaepaa
open Go.RowKit

theorem in_i64 {z : Int} (h1 : -9223372036854775808 ≤ z) (h2 : z ≤ 9223372036854775807) : IntKind.i64.wrap z = z := by rw [IntKind.wrap_i64]; omega

/-- A call that returns. -/
def Ret (P : Program) (f : FuncId) (args : Array Value) (w : World) (R : Value → World → Prop) : Prop :=
  Calls P f args w fun e w' => ∃ v, e = .returned v ∧ R v w'
theorem Ret.mono {P : Program} {f : FuncId} {args : Array Value} {w : World} {R R' : Value → World → Prop} (h : Ret P f args w R) (hr : ∀ v w', R v w' → R' v w') : Ret P f args w R' :=
  Calls.mono h fun _ _ ⟨v, e, hv⟩ => ⟨v, e, hr v _ hv⟩

section
variable {r : Option Nat} {P : Program} {ops : Array Oper} {Q : Exit → Act → World → Prop} {o : Oper} {KK : Act → World → Prop}
variable {n : Nat} {D : List Deferred} {L : List (Nat × Value)} {B : Nat → Prop} {w0 : World} {H : List Ck} {a : Act} {w : World}
variable {T : List (TypeId × TI)} {d : Nat}

theorem wanted_of (hX : Sym n D L B w0 H a w) {j s : Nat} {want g : Bool} (hg : o.guard = some (j, want)) (hj : (ops[j]?).bind (·.dst) = some s) (hs : L.lookup s = some (.bool g)) :
    Region.wanted o (yielded ops a.tmps) = (g == want) := by
  have h1 := hX.st.has s _ hs
  have h2 : yielded ops a.tmps j = some g := by simp [yielded, hj, h1]
  simp only [Region.wanted, hg, h2]
  cases g <;> cases want <;> rfl
theorem y_guard1 {j s : Nat} {want g : Bool} (hX : Sym n D L B w0 H a w) (hg : o.guard = some (j, want)) (hj : (ops[j]?).bind (·.dst) = some s) (hs : L.lookup s = some (.bool g)) (hw : g = want)
    (h : XO P ops { dst := o.dst, op := o.op, type := o.type, pos := o.pos, after := o.after, guard := none } KK a w) : XO P ops o KK a w := by
  have h1 := wanted_of (ops := ops) hX hg hj hs
  subst hw
  rcases h with ⟨_, h⟩ | ⟨h, _⟩
  · exact .inl ⟨by rw [h1]; cases g <;> rfl, h⟩
  · simp [Region.wanted] at h
theorem y_guard0 {j s : Nat} {want g : Bool} (hX : Sym n D L B w0 H a w) (hg : o.guard = some (j, want)) (hj : (ops[j]?).bind (·.dst) = some s) (hs : L.lookup s = some (.bool g)) (hw : g = !want)
    (hdst : o.dst = some d) (hd : Nat.blt d n = true) (h : ∀ a' w', Sym n D ((d, undef) :: L) B w0 H a' w' → KK a' w') : XO P ops o KK a w := by
  have h1 := wanted_of (ops := ops) hX hg hj hs
  subst hw
  exact .inr ⟨by rw [h1]; cases want <;> rfl, h _ _ ⟨by rw [hdst]; exact hX.st.put d undef (lt_of_blt hd), hX.sh⟩⟩
theorem unwanted_of (hX : Sym n D L B w0 H a w) {j s : Nat} {want : Bool} (hg : o.guard = some (j, want)) (hj : (ops[j]?).bind (·.dst) = some s) (hs : L.lookup s = some undef) :
    Region.wanted o (yielded ops a.tmps) = false := by
  have h1 := hX.st.has s _ hs
  have h2 : yielded ops a.tmps j = none := by simp [yielded, hj, h1, undef]
  simp only [Region.wanted, hg, h2]
  rfl
theorem y_guardU {j s : Nat} {want : Bool} (hX : Sym n D L B w0 H a w) (hg : o.guard = some (j, want)) (hj : (ops[j]?).bind (·.dst) = some s) (hs : L.lookup s = some undef)
    (hdst : o.dst = some d) (hd : Nat.blt d n = true) (h : ∀ a' w', Sym n D ((d, undef) :: L) B w0 H a' w' → KK a' w') : XO P ops o KK a w :=
  .inr ⟨unwanted_of hX hg hj hs, h _ _ ⟨by rw [hdst]; exact hX.st.put d undef (lt_of_blt hd), hX.sh⟩⟩
theorem y_gsplit {j s : Nat} {want g : Bool} (_hX : Sym n D L B w0 H a w) (_hg : o.guard = some (j, want)) (_hj : (ops[j]?).bind (·.dst) = some s) (_hs : L.lookup s = some (.bool g))
    (h1 : g = true → XO P ops o KK a w) (h0 : g = false → XO P ops o KK a w) : XO P ops o KK a w := by
  cases g
  · exact h0 rfl
  · exact h1 rfl

theorem run_call {f : FuncId} {fn : Func} {xs : List Operand} {ts : Array TypeId} {vs : List Value} (hop : o.op = .call { callee := .value (.func f), args := xs.toArray, argTypes := ts }) (hfn : P.funcs[f]? = some fn)
    (hn : (fn.name == "runtime.NumGoroutine") = false) (hb : fn.body.isNone = false) (hv : xs.map a.eval = vs) : (execOp a.eval o).run P w = .ok (.enter f vs.toArray) w := by
  have e : a.eval (.func f) = .func (.func f) #[] #[] := rfl
  have hn' : fn.name ≠ "runtime.NumGoroutine" := by simpa using hn
  have hb' : fn.body ≠ none := by intro h; rw [h] at hb; cases hb
  simp [execOp, hop, resolve, e, Deferred.ofValue, invoke, callFunc, program, Sem.run, hfn, hn', hb', hv]
theorem y_call {f : FuncId} {fn : Func} {xs : List Operand} {ts : Array TypeId} {vs : List Value} {R : Value → World → Prop} (hX : Sym n D L B w0 H a w)
    (hop : o.op = .call { callee := .value (.func f), args := xs.toArray, argTypes := ts }) (ho : o.guard = none ∧ o.dst = some d) (hd : Nat.blt d n = true)
    (hfn : P.funcs[f]? = some fn) (hn : (fn.name == "runtime.NumGoroutine") = false) (hb : fn.body.isNone = false) (hv : evs L xs = some vs) (hC : Ret P f vs.toArray w R)
    (h : ∀ v a' w', R v w' → St n D ((d, v) :: L) a' → KK a' w') : XO P ops o KK a w := by
  refine .inl ⟨by simp [Region.wanted, ho.1], .inr (.inr ⟨f, vs.toArray, w, run_call hop hfn hn hb (hX.st.evs hv), ?_⟩)⟩
  refine Calls.mono hC ?_
  rintro e w' ⟨v, rfl, hR⟩
  exact ⟨v, rfl, h v _ w' hR (by rw [ho.2]; exact hX.st.put d v (lt_of_blt hd))⟩

/-! ### Control -/
variable {c c1 c2 : Code}
abbrev XC (r : Option Nat) (P : Program) (c : Code) (Q : Exit → Act → World → Prop) (a : Act) (w : World) : Prop := c.wpIn (WF r) 0 P Q a w
theorem c_seq (h : ∀ K : Act → World → Prop, (∀ a w, XC r P c2 Q a w → K a w) → XC r P c1 (Exit.then K Q) a w) : XC r P (.seq c1 c2) Q a w := wpIn_seq_k h
theorem c_region {id : Nat} {l : List Oper} (h : XL r P l.toArray Q l a w) : XC r P (.region id l.toArray false) Q a w := wpIn_region_lit h
/-- A cut: what holds behind a piece. -/
theorem c_cut (M : Act → World → Prop) (h1 : XC r P c (fun e a w => e = .normal ∧ M a w) a w) (h2 : ∀ a w, M a w → Q .normal a w) : XC r P c Q a w :=
  wpIn_mono h1 fun e a w ⟨he, hM⟩ => by subst he; exact h2 a w hM
/-- A piece that does not panic. -/
theorem c_nopanic (h : XC r P c (fun e a w => e = .normal ∧ Q .normal a w) a w) : XC r P c Q a w := c_cut (Q .normal) h fun _ _ h => h
theorem c_skip (h : Q .normal a w) : XC r P .skip Q a w := wpIn_skip h
theorem c_exit {id : Nat} (h : Q (.exit id) a w) : XC r P (.exit id) Q a w := wpIn_exit h
theorem c_ret (h : Q .ret a w) : XC r P .ret Q a w := wpIn_ret h
theorem c_block {id : Nat} (h : XC r P c (Exit.inBlock id Q) a w) : XC r P (.block id c) Q a w := wpIn_block h
theorem c_cond {x : Operand} {g : Bool} (hX : Sym n D L B w0 H a w) (hx : ev L x = some (.bool g)) (h1 : g = true → XC r P c1 Q a w) (h0 : g = false → XC r P c2 Q a w) : XC r P (.cond x c1 c2) Q a w :=
  wpIn_cond_split (hX.ev hx) h1 h0
theorem c_cond_t {x : Operand} (hX : Sym n D L B w0 H a w) (hx : ev L x = some (.bool true)) (h1 : XC r P c1 Q a w) : XC r P (.cond x c1 c2) Q a w := wpIn_cond_true (hX.ev hx) h1
theorem c_cond_f {x : Operand} (hX : Sym n D L B w0 H a w) (hx : ev L x = some (.bool false)) (h0 : XC r P c2 Q a w) : XC r P (.cond x c1 c2) Q a w := wpIn_cond_false (hX.ev hx) h0
theorem c_cond_y {x : Operand} {g : Bool} (hX : Sym n D L B w0 H a w) (hx : ev L x = some (.bool g)) (hg : g = true) (h1 : XC r P c1 Q a w) : XC r P (.cond x c1 c2) Q a w := by subst hg; exact c_cond_t hX hx h1
theorem c_cond_n {x : Operand} {g : Bool} (hX : Sym n D L B w0 H a w) (hx : ev L x = some (.bool g)) (hg : g = false) (h0 : XC r P c2 Q a w) : XC r P (.cond x c1 c2) Q a w := by subst hg; exact c_cond_f hX hx h0
theorem q_then {K : Act → World → Prop} (h : K a w) : Exit.then K Q .normal a w := h
theorem q_then_exit {K : Act → World → Prop} {id : Nat} (h : Q (.exit id) a w) : Exit.then K Q (.exit id) a w := h
theorem q_then_ret {K : Act → World → Prop} (h : Q .ret a w) : Exit.then K Q .ret a w := h
theorem q_block {id : Nat} (h : Q .normal a w) : Exit.inBlock id Q .normal a w := h
theorem q_block_ret {id : Nat} (h : Q .ret a w) : Exit.inBlock id Q .ret a w := h
theorem q_block_exit {id : Nat} (h : Q .normal a w) : Exit.inBlock id Q (.exit id) a w := by simpa [Exit.inBlock] using h
theorem q_block_pass {id id' : Nat} (hne : Nat.beq id' id = false) (h : Q (.exit id') a w) : Exit.inBlock id Q (.exit id') a w := by
  have : id' ≠ id := Nat.ne_of_beq_eq_false hne
  simpa [Exit.inBlock, this] using h

theorem least (S : Nat → Prop) (h : ∃ k, S k) : ∃ k, S k ∧ ∀ j, S j → k ≤ j := by
  obtain ⟨k, hk⟩ := h
  induction k using Nat.strongRecOn with
  | _ k ih =>
    by_cases e : ∃ j, j < k ∧ S j
    · obtain ⟨j, hj, hs⟩ := e; exact ih j hj hs
    · exact ⟨k, hk, fun j hj => Nat.le_of_not_lt fun hlt => e ⟨j, hlt, hj⟩⟩
noncomputable def leastOf (S : Nat → Prop) : Nat := by
  classical
  exact if h : ∃ k, S k then Classical.choose (least S h) else 0
theorem leastOf_le {S : Nat → Prop} {k : Nat} (h : S k) : leastOf S ≤ k := by
  unfold leastOf; rw [dif_pos ⟨k, h⟩]; exact (Classical.choose_spec (least S ⟨k, h⟩)).2 k h
theorem leastOf_mem {S : Nat → Prop} {k : Nat} (h : S k) : S (leastOf S) := by
  unfold leastOf; rw [dif_pos ⟨k, h⟩]; exact (Classical.choose_spec (least S ⟨k, h⟩)).1
/-- A loop whose relation has an index of its own, with a number that goes down. -/
theorem c_loop {α : Type} (M : α → Act → World → Prop) (m : α → Nat) (x : α) (h0 : M x a w)
    (hr : ∀ x a w, M x a w → XC r P c (Exit.then (fun a' w' => ∃ y, M y a' w' ∧ m y < m x) Q) a w) : XC r P (.loop c) Q a w := by
  refine wpIn_loop (fun a w => ∃ x, M x a w) (fun a w => leastOf fun k => ∃ x, M x a w ∧ m x = k) ⟨x, h0⟩ ?_
  rintro a w ⟨y, hy⟩
  obtain ⟨z, hz, hm⟩ := leastOf_mem (S := fun k => ∃ x, M x a w ∧ m x = k) (k := m y) ⟨y, hy, rfl⟩
  refine wpIn_mono (hr z a w hz) ?_
  intro e a' w' hq
  cases e with
  | normal =>
    obtain ⟨u, hu, hlt⟩ := hq
    refine ⟨⟨u, hu⟩, ?_⟩
    have := leastOf_le (S := fun k => ∃ x, M x a' w' ∧ m x = k) (k := m u) ⟨u, hu, rfl⟩
    show _ < leastOf _
    rw [← hm]
    omega
  | _ => exact hq

/-! ### Beginning and end -/
theorem argsHas {N : Nat} (vs : List Value) (hN : vs.length ≤ N) : (vs.toArray ++ Array.replicate (N - vs.toArray.size) undef).size = N := by simp; omega
theorem f_startH {f : FuncId} {fn : Func} {N : Nat} {vs : List Value} {R : Value → World → Prop} (L0 : List (Nat × Value)) (hH : SH B w0 H w) (hf : P.funcs[f]? = some fn) (hb : fn.body = some c) (hN : fn.ntmps = N) (hl : Nat.ble vs.length N = true)
    (hL : L0 = vs.zipIdx.map fun p => (p.2, p.1))
    (h : ∀ a, Sym N [] L0 B w0 H a w → XC none P c (bodyPost P fn fun e w' => ∃ v, e = .returned v ∧ R v w') a w) : Ret P f vs.toArray w R := by
  refine (callsIn_wide (n := 0)).1 (callsIn_of_wp hf hb trivial ?_)
  have hle : vs.length ≤ N := Nat.le_of_ble_eq_true hl
  refine h _ ⟨⟨by rw [hN]; exact argsHas vs hle, rfl, fun s v hs => ?_⟩, hH⟩
  have key : ∀ (vs : List Value) (k : Nat), ((vs.zipIdx k).map fun p => (p.2, p.1)).lookup s = some v → k ≤ s ∧ vs[s - k]? = some v := by
    intro vs
    induction vs with
    | nil => intro k h; cases h
    | cons u vs ih =>
      intro k h
      simp only [List.zipIdx_cons, List.map_cons, List.lookup_cons] at h
      by_cases e : s = k
      · subst e
        simp at h
        subst h
        simp
      · have e' : (s == k) = false := by simpa using e
        rw [e'] at h
        obtain ⟨h1, h2⟩ := ih (k + 1) h
        refine ⟨by omega, ?_⟩
        rw [show s - k = (s - (k + 1)) + 1 by omega, List.getElem?_cons_succ]
        exact h2
  have h1 := (key vs 0 (by rw [← hL]; exact hs)).2
  simp only [Nat.sub_zero] at h1
  have hlt : s < vs.length := (List.getElem?_eq_some_iff.1 h1).1
  show (vs.toArray ++ _)[s]? = some v
  rw [Array.getElem?_append_left (by simpa using hlt)]
  simpa using h1
theorem f_start {f : FuncId} {fn : Func} {N : Nat} {vs : List Value} {R : Value → World → Prop} (L0 : List (Nat × Value)) (hf : P.funcs[f]? = some fn) (hb : fn.body = some c) (hN : fn.ntmps = N) (hl : Nat.ble vs.length N = true)
    (hL : L0 = vs.zipIdx.map fun p => (p.2, p.1))
    (h : ∀ a, Sym N [] L0 (fun k => k < w.heap.size) w [] a w → XC none P c (bodyPost P fn fun e w' => ∃ v, e = .returned v ∧ R v w') a w) : Ret P f vs.toArray w R :=
  f_startH L0 (SH.start w) hf hb hN hl hL h
theorem f_ret1 {fn : Func} {R : Value → World → Prop} {s : Nat} {v : Value} (hX : Sym n [] L B w0 H a w) (hr : fn.results = #[.tmp s]) (hs : L.lookup s = some v) (h : R v w) :
    bodyPost P fn (fun e w' => ∃ v, e = .returned v ∧ R v w') .ret a w := by
  have h1 : a.tmps.getD s undef = v := hX.ev (x := .tmp s) hs
  exact ⟨hX.st.defs, v, by simp [results, hr, ← h1], v, rfl, h⟩
theorem f_ret2 {fn : Func} {R : Value → World → Prop} {s s' : Nat} {v v' : Value} (hX : Sym n [] L B w0 H a w) (hr : fn.results = #[.tmp s, .tmp s']) (hs : L.lookup s = some v) (hs' : L.lookup s' = some v') (h : R (.tuple #[v, v']) w) :
    bodyPost P fn (fun e w' => ∃ v, e = .returned v ∧ R v w') .ret a w := by
  have h1 : a.tmps.getD s undef = v := hX.ev (x := .tmp s) hs
  have h2 : a.tmps.getD s' undef = v' := hX.ev (x := .tmp s') hs'
  exact ⟨hX.st.defs, .tuple #[v, v'], by simp [results, hr, ← h1, ← h2], _, rfl, h⟩
theorem f_ret3 {fn : Func} {R : Value → World → Prop} {s s' s'' : Nat} {v v' v'' : Value} (hX : Sym n [] L B w0 H a w) (hr : fn.results = #[.tmp s, .tmp s', .tmp s'']) (hs : L.lookup s = some v) (hs' : L.lookup s' = some v') (hs'' : L.lookup s'' = some v'') (h : R (.tuple #[v, v', v'']) w) :
    bodyPost P fn (fun e w' => ∃ v, e = .returned v ∧ R v w') .ret a w := by
  have h1 : a.tmps.getD s undef = v := hX.ev (x := .tmp s) hs
  have h2 : a.tmps.getD s' undef = v' := hX.ev (x := .tmp s') hs'
  have h3 : a.tmps.getD s'' undef = v'' := hX.ev (x := .tmp s'') hs''
  exact ⟨hX.st.defs, .tuple #[v, v', v''], by simp [results, hr, ← h1, ← h2, ← h3], _, rfl, h⟩
end
end Go.Proofs.Ytjemilhbipaepaa
