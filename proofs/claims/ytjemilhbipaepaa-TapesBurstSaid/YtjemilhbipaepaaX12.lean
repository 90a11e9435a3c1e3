/- The rules: ranges over functions. -/
import Derived.Test.YtjemilhbipaepaaX11
import Derived.RangeFuncNested
import Derived.RangeFuncLeaves
import Derived.RangeFuncBound
namespace Go.Proofs.Ytjemilhbipaepaa
open Go.RowKit

def Ck.isC : Ck → Bool
  | .obj _ _ => false
  | _ => true
/-- A piece of cells lies in a block of cells. -/
theorem Ck.ok.cells {B : Nat → Prop} {w : World} {c : Ck} (h : c.ok B w) (hc : c.isC = true) {b : Nat} (hb : c.at = some b) : ∃ cs e fr, w.heap[b]? = some (.cells cs e fr) := by
  cases c with
  | obj b' o => cases hc
  | cel b' cs e =>
    have : b' = b := Option.some.inj hb
    subst this
    exact ⟨_, _, _, h.2⟩
  | row A c e size n xs =>
    rcases h.2 with ⟨rfl, _⟩ | ⟨g, cur, fr, rfl, hg, hh, _⟩
    · cases hb
    · have : g = b := Option.some.inj hb
      subst this
      exact ⟨_, _, _, hh⟩
/-- A piece of cells, or one that is older. -/
def Ck.safe (N : Nat) (c : Ck) : Prop := c.isC = true ∨ ∀ b, c.at = some b → b < N
section
variable {B : Nat → Prop} {w0 w : World}
theorem SH.turnOther {H : List Ck} {W W' : World} (h : SH B w0 H W) {N : Nat} (hc : ∀ c ∈ H, c.safe N) (hN : ∀ k, B k → k < N) {row : Option Nat} (hg : W.grownBy W' row)
    (hr : ∀ r, row = some r → N ≤ r ∧ ∃ o : Obj, W.heap[r]? = some o ∧ o.isCells = false) : SH B w0 H W' := by
  refine ⟨h.below.trans ⟨hg.os, hg.tape, hg.output, hg.size, fun k hk => hg.block k (h.base k hk) (fun e => ?_)⟩, fun k hk => Nat.lt_of_lt_of_le (h.base k hk) hg.size, fun c hm => (h.ok c hm).keep fun b e => hg.block b ((h.ok c hm).lt e).2 (fun e' => ?_), h.apart⟩
  · have h1 := (hr k e.symm).1
    have h2 := hN k hk
    omega
  · obtain ⟨hNb, o, ho, hcell⟩ := hr b e'.symm
    rcases hc c hm with hc | hc
    · obtain ⟨cs, t, fr, hh⟩ := (h.ok c hm).cells hc e
      rw [hh] at ho
      cases ho
      cases hcell
    · have := hc b e
      omega
/-- What is held fast in a round keeps what is no cells. -/
theorem SH.keepsFrom {H H' : List Ck} {W W' : World} (h : SH (Rest W H) W H' W') (hb : ∀ c ∈ H, c.ok B W) (N : Nat) (hc : ∀ c ∈ H, c.safe N) : KeepsFrom N W W' :=
  ⟨h.below.size, fun k o hNk hk ho => (h.below.block k ⟨(Array.getElem?_eq_some_iff.1 hk).1, fun c hm e => by
    rcases hc c hm with hc | hc
    · obtain ⟨cs, t, fr, hh⟩ := (hb c hm).cells hc e
      rw [hh] at hk
      cases hk
      cases ho
    · have := hc k e
      omega⟩).trans hk⟩
end

/-- How a round may be left. -/
def RP {α β : Type} (Hc : List α → β → List Ck) (φ : List α → β → Prop) (Hr : List α → β → List Ck) (φr : List α → β → Prop) (H0 : List Ck) (W : World) (xs : List α) : Exit → Act → World → Prop
  | .normal, _, W' => ∃ y, φ xs y ∧ SH (Rest W H0) W (Hc xs y) W'
  | .ret, _, W' => ∃ y, φr xs y ∧ SH (Rest W H0) W (Hr xs y) W'
  | _, _, _ => False
def markOf (k : Nat) : Deferred := { target := .collected k, args := #[] }
/-- The blocks of some pieces. -/
def Ats (C : List Ck) (k : Nat) : Prop := ∃ c ∈ C, c.at = some k

theorem c_range {α β : Type} {P : Program} {n : Nat} {D : List Deferred} {L : List (Nat × Value)} {B : Nat → Prop} {w0 : World} {H : List Ck} {a : Act} {w : World} {Q : Exit → Act → World → Prop}
    {g : Operand} {ps : Array Tmp} {assign body : Code} {gf : Nat} {lb : Array Value} {encs : α → Array Value} {S Sp : List α → Prop} {N : Nat}
    (hX : Sym n D L B w0 H a w) (hg : ev L g = some (.func (.func gf) #[] lb)) (eg : ∀ args w, (callFunc gf args).run P w = .ok (.enter gf args) w)
    (C : List Ck) (hC : ∀ c ∈ C, ∃ b cs e, c = .cel b cs e) (hCH : ∀ c ∈ C, c ∈ H)
    (hseq : SeqStopsK Fence.wide 1 P gf lb encs (KO (Ats C)) S Sp N w) (hps : ∀ x, (encs x).size = ps.size)
    (Hc Hr : List α → β → List Ck) (φ φr : List α → β → Prop) (hcc : ∀ xs y, C ⊆ Hc xs y) (hcI : ∀ xs y, ∀ c ∈ Hc xs y, c.safe w.heap.size) (hrI : ∀ xs y, ∀ c ∈ Hr xs y, c.safe w.heap.size)
    (y0 : β) (h0 : φ [] y0) (hs0 : SH B w0 (Hc [] y0) w) (Lp La : α → List (Nat × Value))
    (hLp : ∀ x a0, a0.tmps = (ps.zip (encs x)).foldl (fun t (p, v) => t.setIfInBounds p v) a.tmps → a0.defers = [] → St n [] (Lp x) a0)
    (hassign : ∀ l x H0 a0 W, Sym n [] (Lp x) (Rest W H0) W H0 a0 W → XC (some l) P assign (fun e a' W' => e = .normal ∧ Sym n [] (La x) (Rest W H0) W H0 a' W') a0 W)
    (hbody : ∀ l pre x y a' W, φ pre y → pre.length < N → SH B w0 (Hc pre y) W → Sym n [] (La x) (Rest W (Hc pre y)) W (Hc pre y) a' W → XC (some l) P body (RP Hc φ Hr φr (Hc pre y) W (pre ++ [x])) a' W)
    (hdone : ∀ k xs y a' W, S xs → φ xs y → Sym n (markOf k :: D) L B w0 (.obj k (.deferred (some [])) :: Hc xs y) a' W → Q .normal a' W)
    (hstop : ∀ k xs y a' W, Sp xs → φr xs y → Sym n (markOf k :: D) L B w0 (.obj k (.deferred (some [])) :: Hr xs y) a' W → Q .ret a' W) :
    XC none P (.rangeFunc g ps assign body) Q a w := by
  have hCo : ∀ c ∈ C, c.ok B w := fun c hc => hX.sh.ok c (hCH c hc)
  have hks : ∀ k, Ats C k → k < w.heap.size := fun k ⟨c, hc, e⟩ => ((hCo c hc).lt e).2
  have hKO : ∀ {W W' : World} {H1 H2 : List Ck}, C ⊆ H1 → C ⊆ H2 → SH B w0 H1 W → SH B w0 H2 W' → W'.os = W.os → W'.tape = W.tape → W'.output = W.output → W.heap.size ≤ W'.heap.size → KO (Ats C) W W' := by
    intro W W' H1 H2 h1 h2 s1 s2 e1 e2 e3 e4
    refine ⟨e1, e2, e3, e4, fun k ⟨c, hc, e⟩ => ?_⟩
    obtain ⟨b, cs, t, rfl⟩ := hC c hc
    have : b = k := Option.some.inj e
    subst this
    rw [(s1.ok _ (h1 hc)).2, (s2.ok _ (h2 hc)).2]
  have hup : ∀ (c : Code) (m : Nat) (Q : Exit → Act → World → Prop) a w, c.wpIn Fence.wide m P Q a w ↔ c.wpIn Fence.wide 0 P Q a w := fun c m Q a w => wpIn_wide.trans wpIn_wide.symm
  refine (hup _ 2 _ _ _).1 ?_
  have hown : ∀ (Hq : List α → β → List Ck) (ψ : List α → β → Prop), (∀ xs y, ∀ c ∈ Hq xs y, c.safe w.heap.size) → OwnFrom w.heap.size (fun (xs : List α) W => ∃ y, ψ xs y ∧ SH B w0 (Hq xs y) W) := by
    intro Hq ψ hq xs W W' row ⟨y, hy, hs⟩ hgr hrow
    exact ⟨y, hy, hs.turnOther (hq xs y) hX.sh.base hgr hrow⟩
  have mark : ∀ (k : Nat) (W : World) (Hq : List Ck), (∀ c ∈ Hq, c.safe w.heap.size) → w.heap.size ≤ k → SH B w0 Hq W → W.heap[k]? = some (.deferred (some [])) →
      SH B w0 (.obj k (.deferred (some [])) :: Hq) W := by
    intro k W Hq hq hk hs hd
    refine ⟨hs.below, hs.base, fun c hc => ?_, List.Pairwise.cons (fun c hc b e e' => ?_) hs.apart⟩
    · rcases List.mem_cons.1 hc with rfl | hc
      · exact ⟨fun hB => by have := hX.sh.base k hB; omega, hd⟩
      · exact hs.ok c hc
    · have : k = b := Option.some.inj e
      subst this
      rcases hq c hc with hq | hq
      · obtain ⟨cs, t, fr, hh⟩ := (hs.ok c hc).cells hq e'
        rw [hd] at hh
        cases hh
      · have := hq k e'
        omega
  have st' : ∀ k, St n (markOf k :: D) L { a with defers := { target := .collected k, args := #[] } :: a.defers } := fun k => ⟨hX.st.size, by rw [← hX.st.defs]; rfl, hX.st.has⟩
  refine wpIn_rangeFunc_ownH (F := Fence.wide) (n := 2) rfl (by omega) (gf := gf) (lb := lb) (hX.ev hg) trivial eg hseq (fun h k => h.trans k) ?_ (Below.refl _ _) hps
    (fun xs W => ∃ y, φ xs y ∧ SH B w0 (Hc xs y) W) (fun c xs W => c = .ret ∧ ∃ y, φr xs y ∧ SH B w0 (Hr xs y) W) (hown Hc φ hcI) ?_ ⟨y0, h0, hs0⟩
    (fun x a' _ => St n [] (La x) a') (fun _ _ _ _ _ _ hs _ _ => hs) ?_ ?_ ?_ ?_
  · intro W l o o' hl hh _ _
    exact ⟨rfl, rfl, rfl, by simp, fun k hk => World.putObj_heap_other (fun e => by subst e; have := hks _ hk; omega)⟩
  · intro c xs W W' row hs hgr hrow
    exact ⟨hs.1, hown Hr φr hrI xs W W' row hs.2 hgr hrow⟩
  · rintro l pre x W K ⟨y, hy, hs⟩ hK
    have h1 := hassign l x (Hc pre y) { tmps := (ps.zip (encs x)).foldl (fun t (p, v) => t.setIfInBounds p v) a.tmps, defers := [] } W ⟨hLp x _ rfl rfl, hs.rest⟩
    refine wpIn_mono h1 ?_
    rintro e a' W' ⟨rfl, hS⟩
    have hb := hs.back hS.sh
    exact hK a' W' (hS.sh.keepsFrom hs.ok _ (hcI pre y)) (hKO (hcc pre y) (hcc pre y) hs hb hS.sh.below.os hS.sh.below.tape hS.sh.below.output hS.sh.below.size) ⟨y, hy, hb⟩ hS.st
  · rintro l pre x a' W _ _ ⟨y, hy, hs⟩ hS hlt
    refine wpIn_mono (hbody l pre x y a' W hy hlt hs ⟨hS, hs.rest⟩) ?_
    intro e a'' W' hq
    cases e with
    | normal =>
      obtain ⟨y', hy', hs'⟩ := hq
      have hb := hs.back hs'
      exact ⟨hs'.keepsFrom hs.ok _ (hcI pre y), hKO (hcc pre y) (hcc _ y') hs hb hs'.below.os hs'.below.tape hs'.below.output hs'.below.size, y', hy', hb⟩
    | ret =>
      obtain ⟨y', hy', hs'⟩ := hq
      exact ⟨hs'.keepsFrom hs.ok _ (hcI pre y), rfl, y', hy', hs.back hs'⟩
    | exit id => exact hq.elim
    | goto t => exact hq.elim
    | panic c => exact hq.elim
    | outgrown => exact hq.elim
  · rintro k xs W hk hS ⟨y, hy, hs⟩ hd
    exact hdone k xs y _ W hS hy ⟨st' k, mark k W _ (hcI xs y) hk hs hd⟩
  · rintro k c xs W hk hS ⟨rfl, y, hy, hs⟩ hd
    exact wpIn_ret (hstop k xs y _ W hS hy ⟨st' k, mark k W _ (hrI xs y) hk hs hd⟩)
end Go.Proofs.Ytjemilhbipaepaa
