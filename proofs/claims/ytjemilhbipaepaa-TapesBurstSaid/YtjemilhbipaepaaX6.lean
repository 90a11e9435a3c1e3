/- The rules: regions that draw their order; pieces chosen out of the list. -/
import Derived.Test.YtjemilhbipaepaaX5
import Derived.OrdersHeld
namespace Go.Proofs.Ytjemilhbipaepaa
open Go.RowKit

/-- One piece taken out of the list. -/
inductive Take : List Ck → Ck → List Ck → Prop where
  | here {c : Ck} {H : List Ck} : Take (c :: H) c H
  | there {c d : Ck} {H H' : List Ck} (h : Take H c H') : Take (d :: H) c (d :: H')
/-- Some pieces, in another order. -/
inductive Sel : List Ck → List Ck → Prop where
  | nil {H : List Ck} : Sel H []
  | cons {c : Ck} {H H1 H' : List Ck} (h : Take H c H1) (h' : Sel H1 H') : Sel H (c :: H')
theorem Take.perm {H H' : List Ck} {c : Ck} (h : Take H c H') : H.Perm (c :: H') := by
  induction h with
  | here => exact List.Perm.refl _
  | there _ ih => exact (List.Perm.cons _ ih).trans (List.Perm.swap _ _ _)
theorem Sel.split {H H' : List Ck} (h : Sel H H') : ∃ Y, H.Perm (H' ++ Y) := by
  induction h with
  | nil => exact ⟨_, List.Perm.refl _⟩
  | cons h _ ih =>
    obtain ⟨Y, hY⟩ := ih
    exact ⟨Y, h.perm.trans (List.Perm.cons _ hY)⟩
theorem SH.sel {B : Nat → Prop} {w0 w : World} {H H' : List Ck} (h : SH B w0 H w) (hs : Sel H H') : SH B w0 H' w := by
  obtain ⟨Y, hY⟩ := hs.split
  exact (h.perm hY).weak (List.sublist_append_left _ _)

section
variable {P : Program} {ops : Array Oper} {Q : Exit → Act → World → Prop} {o : Oper} {KK : Act → World → Prop}
variable {n : Nat} {D : List Deferred} {L : List (Nat × Value)} {B : Nat → Prop} {w0 : World} {H : List Ck} {a : Act} {w : World}
variable {d : Nat} {S : World → Prop} {listed listed' : Array Bool} {fuel : Nat}

theorem Sym.drew (hX : Sym n D L B w0 H a w) : Sym n D L B w0 H a w.drew := ⟨hX.st, hX.sh.drew⟩
theorem Sym.keep (hX : Sym n D L B w0 H a w) {L' : List (Nat × Value)} {H' : List Ck} (hl : ∀ p ∈ L', L.lookup p.1 = some p.2) (hs : Sel H H') : Sym n D L' B w0 H' a w := ⟨hX.st.weak hl, hX.sh.sel hs⟩

/-- A region that draws its order begins: what is held all the time is what is known of memory. -/
theorem d_begin {id N : Nat} {l : List Oper} {H' : List Ck} (hX : Sym n D L B w0 H a w) (hm : P.follows .mixedOrders = true) (hN : l.toArray.size = N) (_hs : Sel H H')
    (h : ∀ w, Sym n D L B w0 H a w → wpAnyH P .any l.toArray Q (fun w => SH B w0 H' w) N (Array.replicate N false) a w) : XC none P (.region id l.toArray true) Q a w := by
  refine wpIn_wide.2 (wp_region_held (S := fun w => SH B w0 H' w) hm ?_)
  rw [hN]
  exact h _ hX.drew
/-- An operation is taken first that gives one value in every world that is met. -/
theorem d_take {i : Nat} {v : Value} {H' : List Ck} (hX : Sym n D L B w0 H a w) (hi : ops[i]? = some o) (hs : Region.noSelect ops = true) (hf : Region.free .any ops listed i = true) (hr : (Region.ready .any ops listed).contains i = true)
    (hQ : ∀ c a w, Q (.panic c) (a.put o.dst v) w → Q (.panic c) a w) (ho : o.guard = none ∧ o.dst = some d) (hd : Nat.blt d n = true) (hl : listed.setIfInBounds i true = listed') (hH' : Sel H H')
    (hy : ∀ w, SH B w0 H' w → (execOp a.eval o).run P w = .ok (.value v) w) (h : ∀ a', Sym n D ((d, v) :: L) B w0 H a' w → wpAnyH P .any ops Q (fun w => SH B w0 H' w) fuel listed' a' w) :
    wpAnyH P .any ops Q (fun w => SH B w0 H' w) (fuel + 1) listed a w := by
  refine wpAnyH_take hi hs hf hr hQ (.inl ⟨by simp [Region.wanted, ho.1], hy⟩) (hX.sh.sel hH') ?_
  rw [hl]
  exact h _ ⟨by rw [ho.2]; exact hX.st.put d v (lt_of_blt hd), hX.sh⟩
/-- The same with a guard that lets it be carried out, or not. -/
theorem d_take1 {i j s : Nat} {want g : Bool} {v : Value} {H' : List Ck} (hX : Sym n D L B w0 H a w) (hi : ops[i]? = some o) (hs : Region.noSelect ops = true) (hf : Region.free .any ops listed i = true) (hr : (Region.ready .any ops listed).contains i = true)
    (hQ : ∀ c a w, Q (.panic c) (a.put o.dst v) w → Q (.panic c) a w) (hg : o.guard = some (j, want)) (hj : (ops[j]?).bind (·.dst) = some s) (hgs : L.lookup s = some (.bool g)) (hw : g = want) (ho : o.dst = some d) (hd : Nat.blt d n = true) (hl : listed.setIfInBounds i true = listed') (hH' : Sel H H')
    (hy : ∀ w, SH B w0 H' w → (execOp a.eval o).run P w = .ok (.value v) w) (h : ∀ a', Sym n D ((d, v) :: L) B w0 H a' w → wpAnyH P .any ops Q (fun w => SH B w0 H' w) fuel listed' a' w) :
    wpAnyH P .any ops Q (fun w => SH B w0 H' w) (fuel + 1) listed a w := by
  have h1 := wanted_of (ops := ops) hX hg hj hgs
  subst hw
  refine wpAnyH_take hi hs hf hr hQ (.inl ⟨by rw [h1]; cases g <;> rfl, hy⟩) (hX.sh.sel hH') ?_
  rw [hl]
  exact h _ ⟨by rw [ho]; exact hX.st.put d v (lt_of_blt hd), hX.sh⟩
theorem d_take0 {i j s : Nat} {want g : Bool} {H' : List Ck} (hX : Sym n D L B w0 H a w) (hi : ops[i]? = some o) (hs : Region.noSelect ops = true) (hf : Region.free .any ops listed i = true) (hr : (Region.ready .any ops listed).contains i = true)
    (hQ : ∀ c a w, Q (.panic c) (a.put o.dst undef) w → Q (.panic c) a w) (hg : o.guard = some (j, want)) (hj : (ops[j]?).bind (·.dst) = some s) (hgs : L.lookup s = some (.bool g)) (hw : g = !want) (ho : o.dst = some d) (hd : Nat.blt d n = true) (hl : listed.setIfInBounds i true = listed') (hH' : Sel H H')
    (h : ∀ a', Sym n D ((d, undef) :: L) B w0 H a' w → wpAnyH P .any ops Q (fun w => SH B w0 H' w) fuel listed' a' w) :
    wpAnyH P .any ops Q (fun w => SH B w0 H' w) (fuel + 1) listed a w := by
  have h1 := wanted_of (ops := ops) hX hg hj hgs
  subst hw
  refine wpAnyH_take (v := undef) hi hs hf hr hQ (.inr ⟨by rw [h1]; cases want <;> rfl, rfl⟩) (hX.sh.sel hH') ?_
  rw [hl]
  exact h _ ⟨by rw [ho]; exact hX.st.put d undef (lt_of_blt hd), hX.sh⟩
theorem d_takeU {i j s : Nat} {want : Bool} {H' : List Ck} (hX : Sym n D L B w0 H a w) (hi : ops[i]? = some o) (hs : Region.noSelect ops = true) (hf : Region.free .any ops listed i = true) (hr : (Region.ready .any ops listed).contains i = true)
    (hQ : ∀ c a w, Q (.panic c) (a.put o.dst undef) w → Q (.panic c) a w) (hg : o.guard = some (j, want)) (hj : (ops[j]?).bind (·.dst) = some s) (hgs : L.lookup s = some undef) (ho : o.dst = some d) (hd : Nat.blt d n = true) (hl : listed.setIfInBounds i true = listed') (hH' : Sel H H')
    (h : ∀ a', Sym n D ((d, undef) :: L) B w0 H a' w → wpAnyH P .any ops Q (fun w => SH B w0 H' w) fuel listed' a' w) :
    wpAnyH P .any ops Q (fun w => SH B w0 H' w) (fuel + 1) listed a w := by
  refine wpAnyH_take (v := undef) hi hs hf hr hQ (.inr ⟨unwanted_of hX hg hj hgs, rfl⟩) (hX.sh.sel hH') ?_
  rw [hl]
  exact h _ ⟨by rw [ho]; exact hX.st.put d undef (lt_of_blt hd), hX.sh⟩
/-- Whichever comes up. -/
def AllH (P : Program) (ops : Array Oper) (Q : Exit → Act → World → Prop) (S : World → Prop) (fuel : Nat) (listed : Array Bool) (a : Act) (w : World) (rs : List Nat) : Prop :=
  ∀ i ∈ rs, wpOp P ops Q i (fun a' w' => S w' ∧ wpAnyH P .any ops Q S fuel (listed.setIfInBounds i true) a' w') a w
theorem d_nil : AllH P ops Q S fuel listed a w [] := fun _ h => by cases h
theorem d_cons {i : Nat} {rs : List Nat} (hi : ops[i]? = some o) (hl : listed.setIfInBounds i true = listed') (h : XO P ops o (fun a' w' => S w' ∧ wpAnyH P .any ops Q S fuel listed' a' w') a w)
    (hr : AllH P ops Q S fuel listed a w rs) : AllH P ops Q S fuel listed a w (i :: rs) := fun j hj => by
  rcases List.mem_cons.1 hj with rfl | hj
  · rw [hl]; exact XO.plain hi h
  · exact hr j hj
theorem d_ready {i : Nat} {rs : List Nat} (hr : Region.ready .any ops listed = i :: rs) (h : AllH P ops Q S fuel listed a w (i :: rs)) : wpAnyH P .any ops Q S (fuel + 1) listed a w :=
  wpAnyH_all hr (by simp) h
theorem d_done (hr : Region.ready .any ops listed = []) (h : Q .normal a w) : wpAnyH P .any ops Q S fuel listed a w := wpAnyH_done hr h fuel
/-- A split on a guard. -/
theorem d_split {s : Nat} {g : Bool} {X : Prop} (_hs : L.lookup s = some (.bool g)) (_hX : Sym n D L B w0 H a w) (h1 : g = true → X) (h0 : g = false → X) : X := by
  cases g
  · exact h0 rfl
  · exact h1 rfl
end
end Go.Proofs.Ytjemilhbipaepaa
