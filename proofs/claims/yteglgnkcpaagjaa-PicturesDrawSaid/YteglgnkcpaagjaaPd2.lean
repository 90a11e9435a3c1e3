/- Part 2 of 4 of the proof. -/
import Derived.Test.YteglgnkcpaagjaaPd1
import Derived.Lib.LaidTab
import Derived.Test.YteglgnkcpaagjaaProg
import Derived.KernelRfl
import Derived.Lib.ItoaNum
import Derived.Test.YteglgnkcpaagjaaRows
import Derived.LaidMore
import Derived.OpenShut
import Derived.Stop.Joined
import Derived.Maps.RangeRun
import Derived.Scope
import Derived.Lib.OthersKept
set_option linter.unusedSimpArgs false
set_option linter.unusedVariables false
/- Calls by contracts. -/
namespace Go.Proofs.Yteglgnkcpaagjaa
open Go.RowKit
abbrev Ps:=List (Nat×Nat)
def renIds (ps:Ps):List Cap→Option (List Cap)
  | []=>some []
  | .id i :: r=>match lk ps i,renIds ps r with
    | some j,some l=>some (.id j :: l)
    | _,_=>none
  | .fz g x :: r=>match renIds ps r with
    | some l=>some (.fz g x :: l)
    | none=>none
def SC.ren (ps:Ps):SC→Option SC
  | .ptr i o=>match lk ps i with
    | some j=>some (.ptr j o)
    | none=>none
  | .elt i sz k o=>match lk ps i with
    | some j=>some (.elt j sz k o)
    | none=>none
  | .sl i=>match lk ps i with
    | some j=>some (.sl j)
    | none=>none
  | .fn f ids=>match renIds ps ids with
    | some l=>some (.fn f l)
    | none=>none
  | .mref i=>match lk ps i with
    | some j=>some (.mref j)
    | none=>none
  | .bfn f i=>match lk ps i with
    | some j=>some (.bfn f j)
    | none=>none
  | .nel i o=>match lk ps i with
    | some j=>some (.nel j o)
    | none=>none
  | .slf b i=>match lk ps i with
    | some j=>some (.slf b j)
    | none=>none
  | .val v=>some (.val v)
  | .str s=>some (.str s)
  | .dead=>some .dead
  | .pel g x o=>some (.pel g x o)
  | .par g l=>some (.par g l)
  | .lst g l c=>some (.lst g l c)
def renCs (ps:Ps):List SC→Option (List SC)
  | []=>some []
  | c :: r=>match c.ren ps,renCs ps r with
    | some c',some r'=>some (c' :: r')
    | _,_=>none
def SA.ren (ps:Ps):SA→Option SA
  | .c x=>match x.ren ps with
    | some y=>some (.c y)
    | none=>none
  | .agg cs=>match renCs ps cs with
    | some l=>some (.agg l)
    | none=>none
  | .arr g l=>some (.arr g l)
def renAs (ps:Ps):List SA→Option (List SA)
  | []=>some []
  | c :: r=>match c.ren ps,renAs ps r with
    | some c',some r'=>some (c' :: r')
    | _,_=>none
def SV.ren (ps:Ps):SV→Option SV
  | .a x=>match x.ren ps with
    | some y=>some (.a y)
    | none=>none
  | .tup xs=>match renAs ps xs with
    | some l=>some (.tup l)
    | none=>none
  | .may _ _=>none
def Blk.ren (ps:Ps):Blk→Option Blk
  | .cells t cs=>match renCs ps cs with
    | some l=>some (.cells t l)
    | none=>none
  | .row t g l c=>some (.row t g l c)
  | .sit s p=>some (.sit s p)
  | .mp gk gv l o=>some (.mp gk gv l o)
  | .it mid es k ps'=>match lk ps mid with
    | some j=>some (.it j es k ps')
    | none=>none
  | .junk=>some .junk
  | .hrow el t g l c i d=>match lk ps d with
    | some j=>some (.hrow el t g l c i j)
    | none=>none
  | .rjunk=>some .rjunk
  | .lrow t g l=>some (.lrow t g l)
def renH (ps:Ps):Hp→Option Hp
  | []=>some []
  | (i,b) :: r=>match lk ps i,b.ren ps,renH ps r with
    | some j,some b',some r'=>some ((j,b') :: r')
    | _,_,_=>none
def anyIn (js:List Nat):List Cap→Bool
  | []=>false
  | .id i :: r=>js.elem i || anyIn js r
  | .fz _ _ :: r=>anyIn js r
def SC.kill:SC→List Nat→SC
  | .ptr i o,js=>match js.elem i with
    | true=>.dead
    | false=>.ptr i o
  | .elt i sz j o,js=>match js.elem i with
    | true=>.dead
    | false=>.elt i sz j o
  | .sl i,js=>match js.elem i with
    | true=>.dead
    | false=>.sl i
  | .fn f ids,js=>match anyIn js ids with
    | true=>.dead
    | false=>.fn f ids
  | .mref i,js=>match js.elem i with
    | true=>.dead
    | false=>.mref i
  | .bfn f i,js=>match js.elem i with
    | true=>.dead
    | false=>.bfn f i
  | .nel i o,js=>match js.elem i with
    | true=>.dead
    | false=>.nel i o
  | .slf b i,js=>match js.elem i with
    | true=>.dead
    | false=>.slf b i
  | c,_=>c
def killCs (js:List Nat):List SC→List SC
  | []=>[]
  | c :: r=>c.kill js :: killCs js r
def SA.kill:SA→List Nat→SA
  | .c x,js=>.c (x.kill js)
  | .agg cs,js=>.agg (killCs js cs)
  | .arr g l,_=>.arr g l
def killAs (js:List Nat):List SA→List SA
  | []=>[]
  | c :: r=>c.kill js :: killAs js r
def SV.kill:SV→List Nat→SV
  | .a x,js=>.a (x.kill js)
  | .may g x,js=>.may g (x.kill js)
  | .tup xs,js=>.tup (killAs js xs)
def killL (js:List Nat):Sl→Sl
  | []=>[]
  | (k,v) :: r=>(k,v.kill js) :: killL js r
def Blk.kill:Blk→List Nat→Blk
  | .cells t cs,js=>.cells t (killCs js cs)
  | .it mid es k ps,js=>match js.elem mid with
    | true=>.junk
    | false=>.it mid es k ps
  | .hrow el t g l c i d,js=>match js.elem d with
    | true=>.rjunk
    | false=>.hrow el t g l c i d
  | b,_=>b
def frameH (js ks:List Nat):Hp→Hp
  | []=>[]
  | (k,b) :: r=>match js.elem k with
    | true=>frameH js ks r
    | false=>(k,b.kill ks) :: frameH js ks r
def seconds:Ps→List Nat
  | []=>[]
  | (_,j) :: r=>j :: seconds r
def keepP (h:Hp) (i:Nat):Bool:=match Nat.ble fixBase i,Nat.ble pinBase i,lk h i with
  | true,_,_=>true
  | _,true,some (.cells _ _)=>true
  | _,true,some (.mp _ _ _ _)=>true
  | _,_,_=>false
def killJs (h:Hp):Ps→List Nat
  | []=>[]
  | (i,j) :: r=>match keepP h i with
    | true=>killJs h r
    | false=>j :: killJs h r
def nodupB:List Nat→Bool
  | []=>true
  | x :: r=>!(r.elem x)&&nodupB r
def firsts:Ps→List Nat
  | []=>[]
  | (i,_) :: r=>i :: firsts r
def pinsB (n:Nat):Ps→Bool
  | []=>true
  | (i,j) :: r=>(Nat.ble fixBase i || (Nat.ble pinBase i&&Nat.blt j fixBase) || Nat.blt j n)&&pinsB n r
def okPs (n:Nat) (ps:Ps):Bool:=nodupB (firsts ps)&&nodupB (seconds ps)&&pinsB n ps
def inv:Ps→Nat→Option Nat
  | [],_=>none
  | (i,j) :: r,k=>if k=j then some i else inv r k
theorem nodupB_ok:∀ {l:List Nat},nodupB l=true→l.Nodup
  | [],_=>List.nodup_nil
  | x :: r,h=>by
    simp only [nodupB,Bool.and_eq_true,Bool.not_eq_true',List.elem_eq_mem,decide_eq_false_iff_not] at h;exact List.nodup_cons.2 ⟨h.1,nodupB_ok h.2⟩
theorem lk_mem {α:Type}:∀ {l:List (Nat×α)} {i:Nat} {x:α},lk l i=some x→(i,x)∈l
  | [],_,_,h=>by cases h
  | (k,v) :: r,i,x,h=>by
    rw [lk_cons] at h
    split at h
    · rename_i e; subst e; cases h; exact List.mem_cons_self
    · exact List.mem_cons_of_mem _ (lk_mem h)
theorem mem_firsts:∀ {ps:Ps} {i j:Nat},(i,j)∈ps→i∈firsts ps
  | [],_,_,h=>by cases h
  | (k,l) :: r,i,j,h=>by
    rcases List.mem_cons.1 h with h | h
    · cases h; exact List.mem_cons_self
    · exact List.mem_cons_of_mem _ (mem_firsts h)
theorem mem_seconds:∀ {ps:Ps} {i j:Nat},(i,j)∈ps→j∈seconds ps
  | [],_,_,h=>by cases h
  | (k,l) :: r,i,j,h=>by
    rcases List.mem_cons.1 h with h | h
    · cases h; exact List.mem_cons_self
    · exact List.mem_cons_of_mem _ (mem_seconds h)
theorem mem_lk:∀ {ps:Ps} {i j:Nat},(firsts ps).Nodup→(i,j)∈ps→lk ps i=some j
  | [],_,_,_,h=>by cases h
  | (k,l) :: r,i,j,hn,h=>by
    have hn':=List.nodup_cons.1 hn;rw [lk_cons]
    rcases List.mem_cons.1 h with hm | hm
    · cases hm; rw [if_pos rfl]
    · rw [if_neg (fun e=>hn'.1 (by subst e; exact mem_firsts hm)),mem_lk hn'.2 hm]
theorem mem_inv:∀ {ps:Ps} {i j:Nat},(seconds ps).Nodup→(i,j)∈ps→inv ps j=some i
  | [],_,_,_,h=>by cases h
  | (k,l) :: r,i,j,hn,h=>by
    have hn':=List.nodup_cons.1 hn;unfold inv
    rcases List.mem_cons.1 h with hm | hm
    · cases hm; rw [if_pos rfl]
    · rw [if_neg (fun e=>hn'.1 (by subst e; exact mem_seconds hm)),mem_inv hn'.2 hm]
theorem inv_mem:∀ {ps:Ps} {i j:Nat},inv ps j=some i→(i,j)∈ps
  | [],_,_,h=>by cases h
  | (k,l) :: r,i,j,h=>by
    unfold inv at h
    split at h
    · rename_i e; subst e; cases h; exact List.mem_cons_self
    · exact List.mem_cons_of_mem _ (inv_mem h)
theorem pinsB_ok {n:Nat}:∀ {ps:Ps} {i j:Nat},pinsB n ps=true→(i,j)∈ps→fixBase≤i∨(pinBase≤i∧j < fixBase)∨j < n
  | [],_,_,_,h=>by cases h
  | (k,l) :: r,i,j,hp,h=>by
    simp only [pinsB,Bool.and_eq_true,Bool.or_eq_true] at hp
    rcases List.mem_cons.1 h with h | h
    · cases h
      rcases hp.1 with (h1 | h1) | h1
      · exact .inl (Nat.le_of_ble_eq_true h1)
      · exact .inr (.inl ⟨Nat.le_of_ble_eq_true h1.1,lt_of_blt h1.2⟩)
      · exact .inr (.inr (lt_of_blt h1))
    · exact pinsB_ok hp.2 h
theorem killJs_mem {h:Hp}:∀ {ps:Ps} {i j:Nat},(i,j)∈ps→(killJs h ps).elem j=false→keepP h i=true
  | [],_,_,h,_=>by cases h
  | (k,l) :: r,i,j,hm,hk=>by
    unfold killJs at hk
    rcases List.mem_cons.1 hm with hm | hm
    · cases hm
      split at hk
      · assumption
      · simp at hk
    · split at hk
      · exact killJs_mem hm hk
      · simp only [List.elem_eq_mem,List.mem_cons,decide_eq_false_iff_not,not_or] at hk
        exact killJs_mem hm (by simpa using hk.2)
section
variable {env env' env'':Nat→Loc} {B:Nat→Prop} {w:World} {ps:Ps} {js:List Nat}
theorem ptrs.ren (he:∀ i j,lk ps i=some j→env' j=env i):∀ {ids l:List Cap} {vs:List Value},renIds ps ids=some l→(ptrs env B w ids vs ↔ ptrs env' B w l vs)
  | [],l,vs,h=>by cases h; exact Iff.rfl
  | .id i :: ids,l,vs,h=>by
    simp only [renIds] at h
    split at h
    · rename_i j r hi hr
      cases h;constructor
      · rintro ⟨v,r',h1,⟨b,h2,h4⟩,h3⟩
        exact ⟨v,r',h1,⟨b,by rw [he i j hi]; exact h2,h4⟩,(ptrs.ren he hr).1 h3⟩
      · rintro ⟨v,r',h1,⟨b,h2,h4⟩,h3⟩
        exact ⟨v,r',h1,⟨b,by rw [← he i j hi]; exact h2,h4⟩,(ptrs.ren he hr).2 h3⟩
    · cases h
  | .fz g x :: ids,l,vs,h=>by
    simp only [renIds] at h
    split at h
    · rename_i r hr
      cases h;constructor
      · rintro ⟨v,r',h1,h2,h3⟩; exact ⟨v,r',h1,h2,(ptrs.ren he hr).1 h3⟩
      · rintro ⟨v,r',h1,h2,h3⟩; exact ⟨v,r',h1,h2,(ptrs.ren he hr).2 h3⟩
    · cases h
theorem CR.ren (he:∀ i j,lk ps i=some j→env' j=env i):∀ {c c':SC} {v:Value},c.ren ps=some c'→(CR env B w c v ↔ CR env' B w c' v)
  | .val _,_,_,h=>by cases h; exact Iff.rfl
  | .str _,_,_,h=>by cases h; exact Iff.rfl
  | .dead,_,_,h=>by cases h; exact Iff.rfl
  | .ptr i o,_,_,h=>by
    simp only [SC.ren] at h
    split at h
    · rename_i j hi
      cases h;simp only [CR,he i j hi]
    · cases h
  | .elt i sz k o,_,_,h=>by
    simp only [SC.ren] at h
    split at h
    · rename_i j hi
      cases h;simp only [CR,he i j hi]
    · cases h
  | .slf b i,_,_,h=>by
    simp only [SC.ren] at h
    split at h
    · rename_i j hi
      cases h;simp only [CR,he i j hi]
    · cases h
  | .nel i o,_,_,h=>by
    simp only [SC.ren] at h
    split at h
    · rename_i j hi
      cases h;simp only [CR,he i j hi]
    · cases h
  | .pel _ _ _,_,_,h=>by cases h; exact Iff.rfl
  | .par _ _,_,_,h=>by cases h; exact Iff.rfl
  | .sl i,_,_,h=>by
    simp only [SC.ren] at h
    split at h
    · rename_i j hi
      cases h;simp only [CR,he i j hi]
    · cases h
  | .lst _ _ _,_,_,h=>by cases h; exact Iff.rfl
  | .fn f ids,_,_,h=>by
    simp only [SC.ren] at h
    split at h
    · rename_i l hl
      cases h;simp only [CR];constructor
      · rintro ⟨vs,h1,h2⟩; exact ⟨vs,h1,(ptrs.ren he hl).1 h2⟩
      · rintro ⟨vs,h1,h2⟩; exact ⟨vs,h1,(ptrs.ren he hl).2 h2⟩
    · cases h
  | .mref i,_,_,h=>by
    simp only [SC.ren] at h
    split at h
    · rename_i j hi
      cases h;simp only [CR,he i j hi]
    · cases h
  | .bfn f i,_,_,h=>by
    simp only [SC.ren] at h
    split at h
    · rename_i j hi
      cases h;simp only [CR,he i j hi]
    · cases h
theorem CsR.ren (he:∀ i j,lk ps i=some j→env' j=env i):∀ {c c':List SC} {v:List Value},renCs ps c=some c'→(CsR env B w c v ↔ CsR env' B w c' v)
  | [],_,_,h=>by cases h; exact Iff.rfl
  | c :: r,_,_,h=>by
    simp only [renCs] at h
    split at h
    · rename_i c' r' h1 h2
      cases h;constructor
      · rintro ⟨v,q,e,h3,h4⟩; exact ⟨v,q,e,(CR.ren he h1).1 h3,(CsR.ren he h2).1 h4⟩
      · rintro ⟨v,q,e,h3,h4⟩; exact ⟨v,q,e,(CR.ren he h1).2 h3,(CsR.ren he h2).2 h4⟩
    · cases h
theorem SaR.ren (he:∀ i j,lk ps i=some j→env' j=env i):∀ {c c':SA} {v:Value},c.ren ps=some c'→(SaR env B w c v ↔ SaR env' B w c' v)
  | .c x,_,_,h=>by
    simp only [SA.ren] at h
    split at h
    · rename_i y hy; cases h; exact CR.ren he hy
    · cases h
  | .agg cs,_,_,h=>by
    simp only [SA.ren] at h
    split at h
    · rename_i l hl
      cases h;constructor
      · rintro ⟨vs,e,h3⟩; exact ⟨vs,e,(CsR.ren he hl).1 h3⟩
      · rintro ⟨vs,e,h3⟩; exact ⟨vs,e,(CsR.ren he hl).2 h3⟩
    · cases h
  | .arr g l,_,_,h=>by cases h; exact Iff.rfl
theorem SasR.ren (he:∀ i j,lk ps i=some j→env' j=env i):∀ {c c':List SA} {v:List Value},renAs ps c=some c'→(SasR env B w c v ↔ SasR env' B w c' v)
  | [],_,_,h=>by cases h; exact Iff.rfl
  | c :: r,_,_,h=>by
    simp only [renAs] at h
    split at h
    · rename_i c' r' h1 h2
      cases h;constructor
      · rintro ⟨v,q,e,h3,h4⟩; exact ⟨v,q,e,(SaR.ren he h1).1 h3,(SasR.ren he h2).1 h4⟩
      · rintro ⟨v,q,e,h3,h4⟩; exact ⟨v,q,e,(SaR.ren he h1).2 h3,(SasR.ren he h2).2 h4⟩
    · cases h
theorem VR.ren (he:∀ i j,lk ps i=some j→env' j=env i):∀ {c c':SV} {v:Value},c.ren ps=some c'→VR env B w c v→VR env' B w c' v
  | .a x,_,_,h,hv=>by
    simp only [SV.ren] at h
    split at h
    · rename_i y hy; cases h; exact (SaR.ren he hy).1 hv
    · cases h
  | .tup xs,_,_,h,⟨vs,e,hv⟩=>by
    simp only [SV.ren] at h
    split at h
    · rename_i l hl; cases h; exact ⟨vs,e,(SasR.ren he hl).1 hv⟩
    · cases h
  | .may _ _,_,_,h,_=>by cases h
theorem BR.ren (he:∀ i j,lk ps i=some j→env' j=env i) {i j:Nat} (hi:lk ps i=some j):∀ {b b':Blk} {c:Ck},b.ren ps=some b'→(BR env B w i b c ↔ BR env' B w j b' c)
  | .cells t cs,_,_,h=>by
    simp only [Blk.ren] at h
    split at h
    · rename_i l hl
      cases h;simp only [BR,he i j hi];constructor
      · rintro ⟨b,vs,h1,h2,h3⟩; exact ⟨b,vs,h1,h2,(CsR.ren he hl).1 h3⟩
      · rintro ⟨b,vs,h1,h2,h3⟩; exact ⟨b,vs,h1,h2,(CsR.ren he hl).2 h3⟩
    · cases h
  | .row t g l c,_,_,h=>by cases h; simp only [BR,he i j hi]
  | .sit s p,_,_,h=>by cases h; simp only [BR,he i j hi]
  | .mp gk gv l o,_,_,h=>by cases h; simp only [BR,he i j hi]
  | .it mid es k ps',_,_,h=>by
    simp only [Blk.ren] at h
    split at h
    · rename_i j' hj
      cases h;simp only [BR,he i j hi,he mid j' hj]
    · cases h
  | .junk,_,_,h=>by cases h; simp only [BR,he i j hi]
  | .hrow el t g l c q d,_,_,h=>by
    simp only [Blk.ren] at h
    split at h
    · rename_i j' hj
      cases h;simp only [BR,he i j hi,he d j' hj]
    · cases h
  | .rjunk,_,_,h=>by cases h; simp only [BR,he i j hi]
  | .lrow t g l,_,_,h=>by cases h; simp only [BR,he i j hi]
theorem HR.ren (he:∀ i j,lk ps i=some j→env' j=env i):∀ {h h':Hp} {H:List Ck},renH ps h=some h'→HR env B w h H→HR env' B w h' H
  | [],_,_,h,hh=>by cases h; exact hh
  | (i,b) :: r,_,_,h,⟨c,H',e,h1,h2⟩=>by
    simp only [renH] at h
    split at h
    · rename_i j b' r' h3 h4 h5
      cases h;exact ⟨c,H',e,(BR.ren he h3 h4).1 h1,HR.ren he h5 h2⟩
    · cases h
theorem ptrs.kill (he:∀ j,js.elem j=false→env' j=env j):∀ {ids:List Cap} {vs:List Value},anyIn js ids=false→ptrs env B w ids vs→ptrs env' B w ids vs
  | [],_,_,h=>h
  | .id i :: ids,_,hn,⟨v,r,e,⟨b,hb,hv⟩,h⟩=>by
    simp only [anyIn,Bool.or_eq_false_iff] at hn;exact ⟨v,r,e,⟨b,by rw [he i hn.1]; exact hb,hv⟩,ptrs.kill he hn.2 h⟩
  | .fz g x :: ids,_,hn,⟨v,r,e,h1,h⟩=>⟨v,r,e,h1,ptrs.kill he (by simpa [anyIn] using hn) h⟩
variable (he:∀ j,js.elem j=false→env' j=env j)
include he
theorem CR.kill:∀ {c:SC} {v:Value},CR env B w c v→CR env' B w (c.kill js) v
  | .val _,_,hc=>hc
  | .str _,_,hc=>hc
  | .dead,_,hc=>hc
  | .ptr i o,v,hc=>by
    simp only [SC.kill]
    split
    · trivial
    · rename_i h
      obtain ⟨b,e,hv⟩:=hc;exact ⟨b,by rw [he i h]; exact e,hv⟩
  | .elt i sz j o,v,hc=>by
    simp only [SC.kill]
    split
    · trivial
    · rename_i h
      obtain ⟨b,c,n,e,hv⟩:=hc;exact ⟨b,c,n,by rw [he i h]; exact e,hv⟩
  | .slf b i,v,hc=>by
    simp only [SC.kill]
    split
    · trivial
    · rename_i h
      obtain ⟨k,e,hv⟩:=hc;exact ⟨k,fun hb=>by rw [he i h]; exact e hb,hv⟩
  | .nel i o,v,hc=>by
    simp only [SC.kill]
    split
    · trivial
    · rename_i h
      obtain ⟨b,c,n,e,hv⟩:=hc;exact ⟨b,c,n,by rw [he i h]; exact e,hv⟩
  | .pel _ _ _,_,hc=>hc
  | .par _ _,_,hc=>hc
  | .sl i,v,hc=>by
    simp only [SC.kill]
    split
    · trivial
    · rename_i h
      obtain ⟨A,c,n,e,hv⟩:=hc;exact ⟨A,c,n,by rw [he i h]; exact e,hv⟩
  | .lst _ _ _,_,hc=>hc
  | .fn f ids,v,hc=>by
    simp only [SC.kill]
    split
    · trivial
    · rename_i h
      obtain ⟨vs,hv,hp⟩:=hc;exact ⟨vs,hv,ptrs.kill he h hp⟩
  | .mref i,v,hc=>by
    simp only [SC.kill]
    split
    · trivial
    · rename_i h
      obtain ⟨b,e,hv⟩:=hc;exact ⟨b,by rw [he i h]; exact e,hv⟩
  | .bfn f i,v,hc=>by
    simp only [SC.kill]
    split
    · trivial
    · rename_i h
      obtain ⟨b,e,hv⟩:=hc;exact ⟨b,by rw [he i h]; exact e,hv⟩
theorem CsR.kill:∀ {c:List SC} {v:List Value},CsR env B w c v→CsR env' B w (killCs js c) v
  | [],_,hc=>hc
  | _ :: _,_,⟨v,r,e,h1,h2⟩=>⟨v,r,e,CR.kill he h1,CsR.kill h2⟩
theorem SaR.kill:∀ {c:SA} {v:Value},SaR env B w c v→SaR env' B w (c.kill js) v
  | .c _,_,hc=>CR.kill he hc
  | .agg _,_,⟨vs,e,h1⟩=>⟨vs,e,CsR.kill he h1⟩
  | .arr _ _,_,h=>h
theorem SasR.kill:∀ {c:List SA} {v:List Value},SasR env B w c v→SasR env' B w (killAs js c) v
  | [],_,hc=>hc
  | _ :: _,_,⟨v,r,e,h1,h2⟩=>⟨v,r,e,SaR.kill he h1,SasR.kill h2⟩
theorem VR.kill:∀ {c:SV} {v:Value},VR env B w c v→VR env' B w (c.kill js) v
  | .a _,_,hc=>SaR.kill he hc
  | .may _ _,_,hc=>⟨fun hg=>SaR.kill he (hc.1 hg),hc.2⟩
  | .tup _,_,⟨vs,e,h1⟩=>⟨vs,e,SasR.kill he h1⟩
theorem BR.kill {k:Nat} (hk:env' k=env k):∀ {b:Blk} {c:Ck},BR env B w k b c→BR env' B w k (b.kill js) c
  | .cells _ _,_,⟨b,vs,e,hc,h1⟩=>⟨b,vs,by rw [hk]; exact e,hc,CsR.kill he h1⟩
  | .row _ _ _ _,_,⟨A,c,xs,e,hc,h1⟩=>⟨A,c,xs,by rw [hk]; exact e,hc,h1⟩
  | .sit _ _,_,⟨b,e,hc⟩=>⟨b,by rw [hk]; exact e,hc⟩
  | .mp _ _ _ _,_,⟨b,es,q,e,hc⟩=>⟨b,es,q,by rw [hk]; exact e,hc⟩
  | .it mid _ _ _,_,⟨b,m,e,hm,hc⟩=>by
    simp only [Blk.kill]
    split
    · exact ⟨b,_,by rw [hk]; exact e,hc⟩
    · rename_i h
      exact ⟨b,m,by rw [hk]; exact e,by rw [he mid h]; exact hm,hc⟩
  | .junk,_,⟨b,o,e,hc⟩=>⟨b,o,by rw [hk]; exact e,hc⟩
  | .hrow el t g l cap i d,_,⟨A,c,ys,A',c',m,e,hc,h1,hi,h2,h3⟩=>by
    simp only [Blk.kill]
    split
    · exact ⟨A,c,_,_,_,_,_,by rw [hk]; exact e,hc⟩
    · rename_i h
      exact ⟨A,c,ys,A',c',m,by rw [hk]; exact e,hc,h1,hi,by rw [he d h]; exact h2,h3⟩
  | .rjunk,_,⟨A,c,n,t,s,m,xs,e,hc⟩=>⟨A,c,n,t,s,m,xs,by rw [hk]; exact e,hc⟩
  | .lrow _ _ _,_,⟨A,c,e,h1⟩=>⟨A,c,by rw [hk]; exact e,h1⟩
omit he in
theorem lk_killL:∀ {l:Sl} {s:Nat} {v:SV},lk (killL js l) s=some v→∃ u,lk l s=some u∧v=u.kill js
  | [],_,_,h=>by cases h
  | (k,u) :: l,s,v,h=>by
    unfold killL at h;rw [lk_cons] at h ⊢
    split at h
    · rename_i e
      cases h;rw [if_pos e];exact ⟨u,rfl,rfl⟩
    · rename_i e
      rw [if_neg e];exact lk_killL h
omit he in
theorem HR.append:∀ {h h':Hp} {H H':List Ck},HR env B w h H→HR env B w h' H'→HR env B w (h++h') (H++H')
  | [],_,_,_,h1,h2=>by rw [show _=[] from h1]; exact h2
  | _ :: _,_,_,_,⟨c,H',e,h1,h2⟩,h3=>⟨c,_,by rw [e]; rfl,h1,HR.append h2 h3⟩
end
section
variable {env env' env'':Nat→Loc} {B:Nat→Prop} {w:World} {ps:Ps} {js ks:List Nat}
theorem HR.frame (he:∀ j,ks.elem j=false→env' j=env j) (hk:∀ k,js.elem k=false→env' k=env k):∀ {l:Hp} {H:List Ck},HR env B w l H→∃ H',H'.Sublist H∧HR env' B w (frameH js ks l) H'∧(js=[]→H'=H)
  | [],_,hh=>⟨[],by rw [show _=[] from hh]; exact List.Sublist.refl _,rfl,fun _=>(show _=[] from hh).symm⟩
  | (k,b) :: l,_,⟨c,H',e,h1,h2⟩=>by
    obtain ⟨H2,hs,h3,h4⟩:=HR.frame he hk h2;subst e;unfold frameH
    split
    · rename_i h
      exact ⟨H2,hs.cons _,h3,fun e=>by rw [e] at h; cases h⟩
    · rename_i h
      exact ⟨c :: H2,hs.cons_cons _,⟨c,H2,rfl,BR.kill he (hk k h) h1,h3⟩,fun e=>by rw [h4 e]⟩
end
def aes (X:Cx) (L:Sl):List Operand→Option (Bool×List SA)
  | []=>some (true,[])
  | u :: r=>match ae X L u,aes X L r with
    | some (g,x),some (c,l)=>some (g&&c,x :: l)
    | _,_=>none
theorem aes_ok {X:Cx} {R:Nat→Prop} {W:World} {Bi:Bk} {n:Nat} {ks:List Nat} {env:Nat→Loc} {B:Nat→Prop} {w0:World} {H:List Ck} {st:ASt} {a:Act} {w:World} (h:AI X R W Bi n ks env B w0 H st a w) :
    ∀ {us:List Operand} {c:Bool} {xs:List SA},aes X st.L us=some (c,xs)→c=true→∃ vs,evs (full a) us=some vs∧SasR env B w0 xs vs
  | [],c,xs,hu,_=>by cases hu; exact ⟨[],rfl,rfl⟩
  | u :: us,c,xs,hu,hc=>by
    simp only [aes] at hu
    split at hu
    · rename_i g x c' l h1 h2
      cases hu;simp only [Bool.and_eq_true] at hc;obtain ⟨v,h3,h4⟩:=h.ev h1 hc.1;obtain ⟨vs,h5,h6⟩:=aes_ok h h2 hc.2;refine ⟨v :: vs,?_,v,vs,rfl,h4,h6⟩;unfold evs;rw [h3,h5]
    · cases hu
theorem AI.called {X:Cx} {R:Nat→Prop} {W:World} {Bi:Bk} {n d:Nat} {ks:List Nat} {env:Nat→Loc} {B:Nat→Prop} {w0:World} {H:List Ck} {st:ASt} {a a':Act} {w w':World} {ps:Ps} {h H1:Hp} {Q:SV→Hp→Prop} {v:Value} (hA:AI X R W Bi n ks env B w0 H st a w)
    (hps:okPs n ps=true) {C1 C2:List Ck} (hperm:H.Perm (C1++C2)) (hC1:HR (fun i=>match lk ps i with | some j=>env j | none=>.no) B w0 h C1) (hC2:HR env B w0 H1 C2)
    (hpost:ACpost X (fun i=>match lk ps i with | some j=>env j | none=>.no) B C1 w Q v w') (hS:St n (ks.map markOf) ((d,v) :: full a) a') :
    ∃ sv h',Q sv h'∧∀ sv' h'',sv.ren ps=some sv'→renH ps h'=some h''→∃ env' B' w0' H',AI X R W Bi n ks env' B' w0' H' ⟨(d,sv') :: killL (killJs h ps) st.L,h''++frameH (seconds ps) (killJs h ps) H1⟩ a' w'∧(∀ k,B k→B' k)∧KO (fun k=>R k∨B k) w0 w0'∧(ps=[]→∀ c∈C2,c∈H'):=by
  obtain ⟨env',B',w0',H',sv,h',hQ,hsub,hnew,hko,hvr,hhr,hsh,hpin⟩:=hpost;refine ⟨sv,h',hQ,fun sv' h'' hsv hh=>?_⟩;simp only [okPs,Bool.and_eq_true] at hps;obtain ⟨⟨hp1,hp2⟩,hp3⟩:=hps;have hf:=nodupB_ok hp1;have hs2:=nodupB_ok hp2;have hs:SH (fun k=>R k∨B k) w0 (C1++(C2++ks.map mkO)) w:=by
    have:=hA.sh.perm (hperm.append_right (ks.map mkO))
    rw [List.append_assoc] at this;exact this
  have hpart:=List.pairwise_append.1 hs.apart;have hRest:∀ k,R k∨B k→Rest w C1 k:=fun k hk=>⟨hs.base k hk,fun c hc e=>((hs.ok c (List.mem_append_left _ hc)).lt e).1 hk⟩
  have hFr:∀ c∈C2++ks.map mkO,∀ b,c.at=some b→Rest w C1 b∧¬ (R b∨B b):=fun c hc b hb=>by
    have h1:=(hs.ok c (List.mem_append_right _ hc)).lt hb;exact ⟨⟨h1.2,fun c' hc' e=>hpart.2.2 c' hc' c hc b e hb⟩,h1.1⟩
  have hsame:∀ k,Rest w C1 k→w'.heap[k]?=w.heap[k]?:=fun k hk=>(hsh.below.block k (.inl hk)).trans (hko.block k hk)
  have hup:Up B w0 B' w0':=⟨hsub,fun k hk=>(hko.block k (hRest k (.inr hk))).trans (hs.below.block k (.inr hk))⟩
  let e2:Nat→Loc:=fun j=>match inv ps j with | some i=>env' i | none=>env j
  have he1:∀ i j,lk ps i=some j→e2 j=env' i:=fun i j hij=>by
    show (match inv ps j with | some i=>env' i | none=>env j)=_;rw [mem_inv hs2 (lk_mem hij)]
  have hBlk:∀ {l:Hp} {C:List Ck} {envc:Nat→Loc} {Bc:Nat→Prop} {wc:World} {i:Nat} {t:TypeId} {cs:List SC},HR envc Bc wc l C→lk l i=some (.cells t cs)→∃ b,envc i=.blk b:=by
    intro l C envc Bc wc i t cs hl hi;obtain ⟨c,K,⟨b,vs,h1,_⟩,_⟩:=hl.foc hi;exact ⟨b,h1⟩
  have hBlkM:∀ {l:Hp} {C:List Ck} {envc:Nat→Loc} {Bc:Nat→Prop} {wc:World} {i:Nat} {gk gv:GTy} {q:List (gk.D×gv.D)} {o:Option (List MapEntry×Nat)},HR envc Bc wc l C→lk l i=some (.mp gk gv q o)→∃ b,envc i=.blk b:=by
    intro l C envc Bc wc i gk gv q o hl hi;obtain ⟨c,K,⟨b,_,_,h1,_⟩,_⟩:=hl.foc hi;exact ⟨b,h1⟩
  have he2:∀ j,(killJs h ps).elem j=false→e2 j=env j:=fun j hj=>by
    show (match inv ps j with | some i=>env' i | none=>env j)=_;cases hi:inv ps j with
    | none=>rfl
    | some i=>
      have hm:=inv_mem hi;have hkeep:=killJs_mem hm hj;have hij:=mem_lk hf hm;unfold keepP at hkeep
      split at hkeep
      · rename_i hb
        show env' i=env j;exact hpin i (env j) (.inr (Nat.le_of_ble_eq_true hb)) (by simp only [hij])
      · rename_i t cs hb hl _
        obtain ⟨b,hb1⟩:=hBlk hC1 hl;have h1:=hpin i (.blk b) (.inl ⟨Nat.le_of_ble_eq_true hb,b,rfl⟩) hb1;rw [hij] at hb1;show env' i=env j;rw [h1];exact hb1.symm
      · rename_i gk gv q o hb hl _
        obtain ⟨b,hb1⟩:=hBlkM hC1 hl;have h1:=hpin i (.blk b) (.inl ⟨Nat.le_of_ble_eq_true hb,b,rfl⟩) hb1;rw [hij] at hb1;show env' i=env j;rw [h1];exact hb1.symm
      · cases hkeep
  have he3:∀ k,(seconds ps).elem k=false→e2 k=env k:=fun k hk=>by
    show (match inv ps k with | some i=>env' i | none=>env k)=_;cases hi:inv ps k with
    | none=>rfl
    | some i=>
      have:=mem_seconds (inv_mem hi)
      simp only [List.elem_eq_mem,decide_eq_false_iff_not] at hk;exact absurd this hk
  obtain ⟨C3,hsl,hC3,hC4⟩:=HR.frame (js:=seconds ps) (ks:=killJs h ps) he2 he3 (hC2.up hup);have hKO:KO (fun k=>R k∨B k) w0 w0':=⟨hko.os.trans hs.below.os,hko.tape.trans hs.below.tape,hko.output.trans hs.below.output,Nat.le_trans hs.below.size hko.size,fun k hk=>(hko.block k (hRest k hk)).trans (hs.below.block k hk)⟩
  refine ⟨e2,B',w0',H'++C3,⟨hS.size,hS.defs,fun s u hu=>?_,(HR.ren he1 hh hhr).append hC3,?_,fun k hk=>hsub k (hA.sub k hk),fun k hk=>?_,fun id b hb=>?_,?_,fun i x hx=>(hA.glob i x hx).up hup⟩,hsub,hKO,fun e c hc=>List.mem_append_right _ (by rw [hC4 (by rw [e]; rfl)]; exact hc)⟩
  · rw [lk_cons] at hu
    split at hu
    · rename_i e; subst e; cases hu; exact ⟨v,hS.this,VR.ren he1 hsv hvr⟩
    · rename_i e
      obtain ⟨u0,hu0,rfl⟩:=lk_killL hu;obtain ⟨u',h3,h4⟩:=hA.has s u0 hu0;exact ⟨u',hS.other e h3,VR.kill he2 (h4.up hup)⟩
  · have hsub2:(C3++ks.map mkO).Sublist (C2++ks.map mkO):=hsl.append_right _
    rw [List.append_assoc];refine ⟨⟨hsh.below.os,hsh.below.tape,hsh.below.output,hsh.below.size,fun k hk=>hsh.below.block k (hk.imp (fun h=>hRest k (.inl h)) id)⟩,fun k hk=>hsh.base k (hk.imp (fun h=>hRest k (.inl h)) id),fun c hc=>?_,List.pairwise_append.2 ⟨hsh.apart,hpart.2.1.sublist hsub2,fun c hc d hd b hb hb'=>?_⟩⟩
    · rcases List.mem_append.1 hc with hc | hc
      · exact (hsh.ok c hc).base fun b hb hk=>((hsh.ok c hc).lt hb).1 (hk.imp (fun h=>hRest b (.inl h)) id)
      · have hc':=hsub2.subset hc
        have hok:=hs.ok c (List.mem_append_right _ hc');refine (hok.keep (w':=w') fun b hb=>hsame b (hFr c hc' b hb).1).base fun b hb hk=>?_
        obtain ⟨h5,h6⟩:=hFr c hc' b hb
        rcases hk with hk | hk
        · exact h6 (.inl hk)
        · rcases hnew b hk with h7 | h7
          · exact h6 (.inr h7)
          · exact h7.1 h5
    · exact ((hsh.ok c hc).lt hb).1 (.inl (hFr d (hsub2.subset hd) b hb').1)
  · rcases hnew k hk with h5 | h5
    · exact (hA.new k h5).imp_right fun h'=>⟨h'.1,h'.2.keep ((hko.block k (hRest k (.inr h5))).trans (hs.below.block k (.inr h5)))⟩
    · exact .inr ⟨fun hR=>h5.1 (hRest k (.inl hR)),h5.2⟩
  · obtain ⟨h5,h6,h8⟩:=hA.pin id b hb
    refine ⟨h5,?_,h8⟩;show (match inv ps id with | some i=>env' i | none=>env id)=_;cases hi:inv ps id with
    | none=>exact h6
    | some i=>
      have hm:=inv_mem hi;have hij:=mem_lk hf hm
      rcases pinsB_ok hp3 hm with h7 | ⟨h7,h9⟩ | h7
      · exact hpin i b (.inr h7) (by simp only [hij]; exact h6)
      · rcases h8 with h8 | h8
        · exact hpin i b (.inl ⟨h7,h8⟩) (by simp only [hij]; exact h6)
        · omega
      · omega
  · exact hA.base.trans ⟨hko.os.trans hs.below.os,hko.tape.trans hs.below.tape,hko.output.trans hs.below.output,Nat.le_trans hs.below.size hko.size,fun k hk=>(hko.block k (hRest k (.inl hk))).trans (hs.below.block k (.inl hk))⟩
section
variable {X:Cx} {M:Bool} {n:Nat} {r:Option Nat} {st:ASt} {Q:Exit→ASt→Prop} {ops rest:List Oper} {o:Oper} {d:Nat}
end
end Go.Proofs.Yteglgnkcpaagjaa

/- Calls of closures, guarded operations, functions with marks. -/
namespace Go.Proofs.Yteglgnkcpaagjaa
open Go.RowKit
def ptrAs:List Cap→List SA
  | []=>[]
  | .id i :: r=>.c (.ptr i 0) :: ptrAs r
  | .fz g x :: r=>.c (.pel g x 0) :: ptrAs r
section
variable {X:Cx} {M:Bool} {n:Nat} {r:Option Nat} {st:ASt} {Q:Exit→ASt→Prop} {ops rest:List Oper} {o:Oper} {d:Nat}
theorem ptrs_sas {env:Nat→Loc} {B:Nat→Prop} {w:World}:∀ {ids:List Cap} {vs:List Value},ptrs env B w ids vs→SasR env B w (ptrAs ids) vs
  | [],_,h=>h
  | .id _ :: ids,_,⟨v,r,e,h1,h⟩=>⟨v,r,e,h1,ptrs_sas h⟩
  | .fz _ _ :: ids,_,⟨v,r,e,⟨b,o,h1,h2⟩,h⟩=>⟨v,r,e,⟨b,o,by rw [h1]; rfl,h2⟩,ptrs_sas h⟩
theorem SasR.append {env:Nat→Loc} {B:Nat→Prop} {w:World}:∀ {xs ys:List SA} {vs us:List Value},SasR env B w xs vs→SasR env B w ys us→SasR env B w (xs++ys) (vs++us)
  | [],_,_,_,h,h'=>by rw [show _=[] from h]; exact h'
  | _ :: _,_,_,_,⟨v,r,e,h1,h2⟩,h'=>⟨v,_,by rw [e]; rfl,h1,SasR.append h2 h'⟩
theorem killL_nil:∀ L:Sl,killL [] L=L:=by
  have h1:∀ c:SC,c.kill []=c:=by
    have h0:∀ ids:List Cap,anyIn [] ids=false:=by
      intro ids
      induction ids with
      | nil=>rfl
      | cons i r ih=>cases i <;> simp [anyIn,ih]
    intro c;cases c with
    | fn f ids=>simp only [SC.kill,h0]
    | _=>rfl
  have h2:∀ cs:List SC,killCs [] cs=cs:=by
    intro cs
    induction cs with
    | nil=>rfl
    | cons c r ih=>simp only [killCs,h1,ih]
  have h3:∀ x:SA,x.kill []=x:=by
    intro x;cases x with
    | c x=>simp only [SA.kill,h1]
    | agg cs=>simp only [SA.kill,h2]
    | arr g l=>rfl
  have h4:∀ xs:List SA,killAs [] xs=xs:=by
    intro xs
    induction xs with
    | nil=>rfl
    | cons c r ih=>simp only [killAs,h3,ih]
  have h5:∀ x:SV,x.kill []=x:=by
    intro x;cases x with
    | a x=>simp only [SV.kill,h3]
    | may g x=>simp only [SV.kill,h3]
    | tup xs=>simp only [SV.kill,h4]
  intro L
  induction L with
  | nil=>rfl
  | cons p r ih=>obtain ⟨k,v⟩:=p; simp only [killL,h5,ih]
theorem frameH_nil:∀ H:Hp,frameH [] [] H=H:=by
  have h1:∀ c:SC,c.kill []=c:=by
    have h0:∀ ids:List Cap,anyIn [] ids=false:=by
      intro ids
      induction ids with
      | nil=>rfl
      | cons i r ih=>cases i <;> simp [anyIn,ih]
    intro c;cases c with
    | fn f ids=>simp only [SC.kill,h0]
    | _=>rfl
  have h2:∀ cs:List SC,killCs [] cs=cs:=by
    intro cs
    induction cs with
    | nil=>rfl
    | cons c r ih=>simp only [killCs,h1,ih]
  intro H
  induction H with
  | nil=>rfl
  | cons p r ih=>
    obtain ⟨k,b⟩:=p;cases b with
    | cells t cs=>simp [frameH,Blk.kill,h2,ih]
    | row t g l c=>simp [frameH,Blk.kill,ih]
    | sit s p=>simp [frameH,Blk.kill,ih]
    | mp gk gv l o=>simp [frameH,Blk.kill,ih]
    | it mid es k ps=>simp [frameH,Blk.kill,ih]
    | junk=>simp [frameH,Blk.kill,ih]
    | hrow el t g l c i d=>simp [frameH,Blk.kill,ih]
    | rjunk=>simp [frameH,Blk.kill,ih]
    | lrow t g l=>simp [frameH,Blk.kill,ih]
end
end Go.Proofs.Yteglgnkcpaagjaa

/- Regions that draw their order. -/
namespace Go.Proofs.Yteglgnkcpaagjaa
open Go.RowKit
section
variable {P:Program} {ops:Array Oper} {Q:Exit→Act→World→Prop} {S:Nat→World→Prop}
def wpAnyJ (P:Program) (ops:Array Oper) (Q:Exit→Act→World→Prop) (S:Nat→World→Prop):Nat→Array Bool→Act→World→Prop
  | 0,listed,a,w=>Region.ready .any ops listed=[]∧Q .normal a w
  | fuel+1,listed,a,w=>(Region.ready .any ops listed=[]→Q .normal a w)∧∀ i∈Region.ready .any ops listed,∃ o,ops[i]?=some o∧XO P ops o (fun a' w'=>S i w'∧wpAnyJ P ops Q S fuel (listed.setIfInBounds i true) a' w') a w
theorem OpOk.mono {o:Oper} {a:Act} {w:World} {K K':Value→World→Prop} (h:OpOk P o a w K) (hk:∀ v w,K v w→K' v w):OpOk P o a w K':=by
  rcases h with ⟨v,w',h1,h2⟩ | ⟨w',h1,h2⟩ | ⟨f,args,w1,h1,h2⟩
  · exact .inl ⟨v,w',h1,hk _ _ h2⟩
  · exact .inr (.inl ⟨w',h1,hk _ _ h2⟩)
  · exact .inr (.inr ⟨f,args,w1,h1,Calls.mono h2 fun e w' ⟨v,he,hv⟩=>⟨v,he,hk _ _ hv⟩⟩)
theorem XO.mono {o:Oper} {a:Act} {w:World} {K K':Act→World→Prop} (h:XO P ops o K a w) (hk:∀ a w,K a w→K' a w):XO P ops o K' a w:=by
  rcases h with ⟨h1,h2⟩ | ⟨h1,h2⟩
  · exact .inl ⟨h1,h2.mono fun _ _=>hk _ _⟩
  · exact .inr ⟨h1,hk _ _ h2⟩
theorem wpAnyJ.any (r:Option Nat):∀ (fuel:Nat) (listed:Array Bool) (a:Act) (w:World),wpAnyJ P ops Q S fuel listed a w→wpAnyIn (WF r) 0 P .any ops Q fuel listed a w
  | 0,_,_,_,h=>h
  | fuel+1,_,_,_,h=>⟨h.1,fun i hi=>by
    obtain ⟨o,ho,hx⟩:=h.2 i hi;unfold wpOpIn;simp only [ho];exact XO.fenced (hx.mono fun a' w' h'=>wpAnyJ.any r fuel _ a' w' h'.2)⟩
theorem XO.putIf {T:World→Prop} {oi oj:Oper} {v:Value} (hap:oi.apart ops oj=true) (hsi:∀ cs b,oi.op≠.select cs b) (hsj:∀ cs b,oj.op≠.select cs b) {K:Act→World→Prop} {a:Act} {w:World} (hy:YieldsIf P ops T oi v a) (h:XO P ops oj K (a.put oi.dst v) w) :
    XO P ops oj (fun a' w'=>YieldsIf P ops T oi v a'∧K (a'.put oi.dst v) w') a w:=by
  obtain ⟨h1,h2,h3⟩:=Oper.apart_spec hap;have keep:∀ u,YieldsIf P ops T oi v (a.put oj.dst u):=fun u=>hy.of_same (execOp_put oi hsi a oj.dst u h3) (wanted_put oi a oj.dst u h3)
  have ew:=wanted_put oj a oi.dst v h1;have ee:=execOp_put oj hsj a oi.dst v h1;have ec:∀ u,(a.put oj.dst u).put oi.dst v=(a.put oi.dst v).put oj.dst u:=fun u=>(Act.put_comm a v u h2).symm
  rcases h with ⟨hw,h⟩ | ⟨hw,h⟩
  · refine .inl ⟨by rw [← ew]; exact hw,?_⟩
    unfold OpOk at h ⊢;rw [ee] at h
    rcases h with ⟨u,w',g1,g2⟩ | ⟨w',g1,g2⟩ | ⟨f,args,w1,g1,g2⟩
    · exact .inl ⟨u,w',g1,keep u,by rw [ec]; exact g2⟩
    · exact .inr (.inl ⟨w',g1,keep _,by rw [ec]; exact g2⟩)
    · exact .inr (.inr ⟨f,args,w1,g1,Calls.mono g2 fun e w' ⟨u,he,hu⟩=>⟨u,he,keep u,by rw [ec]; exact hu⟩⟩)
  · exact .inr ⟨by rw [← ew]; exact hw,keep _,by rw [ec]; exact h⟩
theorem yields_xo {T:World→Prop} {o:Oper} {v:Value} {a:Act} (hy:YieldsIf P ops T o v a) {K:Act→World→Prop} {w:World} (hT:T w) (h:K (a.put o.dst v) w):XO P ops o K a w:=by
  rcases hy with ⟨hw,hv⟩ | ⟨hw,rfl⟩
  · exact .inl ⟨hw,.inl ⟨v,w,hv w hT,h⟩⟩
  · exact .inr ⟨hw,h⟩
def binding (ops:Array Oper) (i:Nat) (D:List Nat) (j:Nat):Prop:=∃ oj e,ops[j]?=some oj∧e∈oj.after∧Region.binds .any e=true∧(e.on=i∨e.on∈D)
theorem wpAnyJ.first {i:Nat} {oi:Oper} {v:Value} {T:World→Prop} (hi:ops[i]?=some oi) (hsel:∀ (j:Nat) (o:Oper) cs b,ops[j]?=some o→o.op≠.select cs b) (D:List Nat) (hbD:∀ j∈D,binding ops i D j):∀ (fuel:Nat) (listed:Array Bool) (a:Act) (w:World),
      (∀ j∈D,listed.getD j true=false)→(∀ j oj,ops[j]?=some oj→j≠i→listed.getD j true=false→(∀ e∈oj.after,Region.binds .any e=true→e.on≠i)→oi.apart ops oj=true∧(j∈D∨∀ w,S j w→T w)) →
      i∈Region.ready .any ops listed→YieldsIf P ops T oi v a→T w →
      wpAnyJ P ops Q S fuel (listed.setIfInBounds i true) (a.put oi.dst v) w→(∀ w',T w'→S i w')→wpAnyJ P ops Q S (fuel+1) listed a w:=by
  intro fuel
  induction fuel with
  | zero=>
    intro listed a w _ _ hr hy hT H hSi;refine ⟨fun h=>(by rw [h] at hr; cases hr),fun j hj=>?_⟩
    by_cases hji:j=i
    · subst hji; exact ⟨oi,hi,yields_xo hy hT ⟨hSi w hT,H⟩⟩
    · have:=ready_mono hj hji
      rw [H.1] at this;cases this
  | succ fuel ih=>
    intro listed a w hDl hfree hr hy hT H hSi;refine ⟨fun h=>(by rw [h] at hr; cases hr),fun j hj=>?_⟩
    by_cases hji:j=i
    · subst hji; exact ⟨oi,hi,yields_xo hy hT ⟨hSi w hT,H⟩⟩
    · obtain ⟨oj',hoj',hH⟩:=H.2 j (ready_mono hj hji)
      obtain ⟨hun,oj,hoj,hall⟩:=mem_ready.1 hj;have hojj:oj'=oj:=Option.some.inj (hoj'.symm.trans hoj);rw [hojj] at hH;have hnot:∀ e∈oj.after,Region.binds .any e=true→e.on≠i:=fun e he hb heq=>by
        have q1:=hall e he hb;have q0:=(mem_ready.1 hr).1;rw [heq] at q1
        rcases Nat.lt_or_ge i listed.size with h' | h'
        · simp [h'] at q0 q1; rw [q0] at q1; cases q1
        · simp [Array.getElem?_eq_none h'] at q1
      have hjD:j ∉ D:=fun hjd=>by
        obtain ⟨ok,e,hk,he,hb,hon⟩:=hbD j hjd
        have:ok=oj:=Option.some.inj (hk.symm.trans hoj)
        subst this;have q1:=hall e he hb
        rcases hon with hon | hon
        · exact hnot e he hb hon
        · have q0:=hDl _ hon
          rcases Nat.lt_or_ge e.on listed.size with h' | h'
          · simp [h'] at q0 q1; rw [q0] at q1; cases q1
          · simp [Array.getElem?_eq_none h'] at q1
      obtain ⟨hap,hST⟩:=hfree j oj hoj hji hun hnot;have hput:=XO.putIf hap (fun cs b=>hsel i oi cs b hi) (fun cs b=>hsel j oj cs b hoj) hy hH;refine ⟨oj,hoj,hput.mono fun a' w' h4=>⟨h4.2.1,?_⟩⟩;have hT':=(hST.resolve_left hjD) w' h4.2.1;refine ih (listed.setIfInBounds j true) a' w' (fun k hk=>?_) (fun k ok hk hki hkun hno=>?_) (ready_mono hr (Ne.symm hji)) h4.1 hT' ?_ hSi
      · rw [getD_set_ne true (fun e=>hjD (by rw [e]; exact hk))]
        exact hDl k hk
      · refine hfree k ok hk hki ?_ hno
        by_cases hjk:j=k
        · subst hjk; exact hun
        · rw [getD_set_ne true hjk] at hkun; exact hkun
      · rw [Array.setIfInBounds_comm _ _ hji]
        exact h4.2.2
end
def isPure:Op→Bool
  | .move _=>true
  | .assign _=>true
  | .pick _ _ _=>true
  | .unOp _ _ _=>true
  | .binOp _ _ _ _ _=>true
  | .load _ _=>true
  | .fieldAddr _ _ _=>true
  | .indexAddr _ _ _=>true
  | .slice _ _ _ _ _=>true
  | .convert _ _ _=>true
  | .build _ _=>true
  | .makeFunc _ _ _=>true
  | .nilCheck _=>true
  | .extract _ _=>true
  | .call ⟨.builtin .len,_,_⟩=>true
  | .call ⟨.builtin .cap,_,_⟩=>true
  | .call ⟨.builtin .min,_,_⟩=>true
  | .call ⟨.builtin .max,_,_⟩=>true
  | _=>false
def bindB (ops:Array Oper) (i:Nat) (D:List Nat) (j:Nat):Bool:=match ops[j]? with
  | some o=>o.after.any fun e=>Region.binds .any e&&(e.on == i || D.elem e.on)
  | none=>false
def behind (ops:Array Oper) (i:Nat):List Nat:=(List.range ops.size).foldl (fun D j=>match bindB ops i D j with
  | true=>j :: D
  | false=>D) []
def restIn (ops:Array Oper) (E D:List Nat) (listed:Array Bool) (i:Nat):Bool:=
  (D.all fun j=>!listed.getD j true&&bindB ops i D j)&&(List.range ops.size).all fun j=>j == i || listed.getD j true || E.elem j || D.elem j
theorem bindB_ok {ops:Array Oper} {i j:Nat} {D:List Nat} (h:bindB ops i D j=true):binding ops i D j:=by
  unfold bindB at h
  split at h
  · rename_i o ho
    simp only [Array.any_eq_true] at h;obtain ⟨k,hk,h2⟩:=h;simp only [Bool.and_eq_true,Bool.or_eq_true,beq_iff_eq,List.elem_eq_mem,decide_eq_true_eq] at h2;exact ⟨o,_,ho,Array.getElem_mem hk,h2.1,h2.2⟩
  · cases h
def baseOk (ops:Array Oper) (listed:Array Bool) (i:Nat):Bool:=Region.noSelect ops&&Region.free .any ops listed i&&(Region.ready .any ops listed).contains i
def kindAt (f:Op→Bool) (ops:Array Oper) (i:Nat):Bool:=match ops[i]? with
  | some o=>f o.op
  | none=>false
def needOk (ops:Array Oper) (E:List Nat) (listed:Array Bool) (pre:Bool) (i:Nat):Bool:=!E.elem i || (pre&&restIn ops E (behind ops i) listed i)
structure DS where
  listed:Array Bool
  early:Bool
  pre:Bool
  nocall:Bool
  all:Bool
def celH:Hp→Hp
  | []=>[]
  | (k,.cells t cs) :: r=>(k,.cells t cs) :: celH r
  | _ :: r=>celH r
def kf (al:Bool) (c:Ck):Bool:=al || isCel c
structure DInv (R:Nat→Prop) (ds:DS) (B0:Nat→Prop) (w00:World) (CS:List Ck) (F:World→Prop) (B:Nat→Prop) (w0:World) (H:List Ck):Prop where
  early:ds.early=true→B0=B∧w00=w0∧CS=H.filter (kf ds.all)
  pre:ds.pre=true→(∀ c∈CS,c∈H∧kf ds.all c=true)∧CS.Pairwise Ck.off∧(∀ k,B0 k→B k)∧KO (fun k=>R k∨B0 k) w00 w0
  frz:ds.nocall=true→F=fun w=>KO (fun k=>R k∨B k) w0 w
  frz':∀ w,KO (fun k=>R k∨B k) w0 w→F w
def AD (X:Cx) (M:Bool) (n:Nat) (ops:List Oper) (E:List Nat) (fuel:Nat) (ds:DS) (st:ASt) (Q:Exit→ASt→Prop):Prop:=
  ∀ (R:Nat→Prop) (W:World) (Bi:Bk) (B0:Nat→Prop) (w00:World) (CS:List Ck) (F:World→Prop) (ks:List Nat) (env:Nat→Loc) (B:Nat→Prop) (w0:World) (H:List Ck) (a:Act) (w:World),MOk M ks Bi→AI X R W Bi n ks env B w0 H st a w→DInv R ds B0 w00 CS F B w0 H →
    wpAnyJ X.P ops.toArray (fun e a w=>e=.normal∧∃ st',Q e st'∧AR X R W Bi M n st' a w) (fun j w=>(E.elem j=true→SH (fun k=>R k∨B0 k) w00 CS w)∧F w) fuel ds.listed a w
def ADo (X:Cx) (M:Bool) (n:Nat) (ops:List Oper) (E:List Nat) (fuel:Nat) (ds:DS) (st:ASt) (Q:Exit→ASt→Prop) (i:Nat):Prop:=
  ∀ (R:Nat→Prop) (W:World) (Bi:Bk) (B0:Nat→Prop) (w00:World) (CS:List Ck) (F:World→Prop) (ks:List Nat) (env:Nat→Loc) (B:Nat→Prop) (w0:World) (H:List Ck) (a:Act) (w:World),MOk M ks Bi→AI X R W Bi n ks env B w0 H st a w→DInv R ds B0 w00 CS F B w0 H →
    ∃ o,ops.toArray[i]?=some o∧XO X.P ops.toArray o (fun a' w'=>((E.elem i=true→SH (fun k=>R k∨B0 k) w00 CS w')∧F w')∧wpAnyJ X.P ops.toArray (fun e a w=>e=.normal∧∃ st',Q e st'∧AR X R W Bi M n st' a w) (fun j w=>(E.elem j=true→SH (fun k=>R k∨B0 k) w00 CS w)∧F w) fuel (ds.listed.setIfInBounds i true) a' w') a w
theorem DInv.T {R:Nat→Prop} {ds:DS} {B0:Nat→Prop} {w00:World} {CS:List Ck} {F:World→Prop} {X:Cx} {W:World} {Bi:Bk} {n:Nat} {ks:List Nat} {env:Nat→Loc} {B:Nat→Prop} {w0:World} {H:List Ck} {st:ASt} {a:Act} {w:World} (hD:DInv R ds B0 w00 CS F B w0 H) (hp:ds.pre=true) (hA:AI X R W Bi n ks env B w0 H st a w):SH (fun k=>R k∨B0 k) w00 CS w:=by
  obtain ⟨h1,h2,h3,h4⟩:=hD.pre hp;have hb:=hA.sh.below;refine ⟨h4.trans ⟨hb.os,hb.tape,hb.output,hb.size,fun k hk=>hb.block k (hk.imp id (h3 k))⟩,fun k hk=>hA.sh.base k (hk.imp id (h3 k)),fun c hc=>?_,h2⟩;have hok:=hA.sh.ok c (List.mem_append_left _ (h1 c hc).1);exact hok.base fun b hb hk=>(hok.lt hb).1 (hk.imp id (h3 b))
theorem DInv.F {R:Nat→Prop} {ds:DS} {B0:Nat→Prop} {w00:World} {CS:List Ck} {F:World→Prop} {X:Cx} {W:World} {Bi:Bk} {n:Nat} {ks:List Nat} {env:Nat→Loc} {B:Nat→Prop} {w0:World} {H:List Ck} {st:ASt} {a:Act} {w:World} (hD:DInv R ds B0 w00 CS F B w0 H) (hA:AI X R W Bi n ks env B w0 H st a w):F w:=
  hD.frz' w ⟨hA.sh.below.os,hA.sh.below.tape,hA.sh.below.output,hA.sh.below.size,hA.sh.below.block⟩
theorem HR.cel {env:Nat→Loc} {B:Nat→Prop} {w:World}:∀ {l:Hp} {H:List Ck},HR env B w l H→HR env B w (celH l) (H.filter isCel)
  | [],_,h=>by rw [show _=[] from h]; exact rfl
  | (k,.cells t cs) :: r,_,⟨c,H',e,h1,h2⟩=>by
    subst e;have hc:isCel c=true:=by
      obtain ⟨b,vs,_,e,_⟩:=h1;rw [e]; rfl
    rw [List.filter_cons_of_pos hc];exact ⟨c,_,rfl,h1,HR.cel h2⟩
  | (k,.row t g l cap) :: r,_,⟨c,H',e,h1,h2⟩=>by
    subst e;have hc:isCel c=false:=h1.notCel (fun _ _ e=>by cases e);rw [List.filter_cons_of_neg (by rw [hc]; simp)];show HR env B w (celH r) _;exact HR.cel h2
  | (k,.sit s p) :: r,_,⟨c,H',e,h1,h2⟩=>by
    subst e;have hc:isCel c=false:=h1.notCel (fun _ _ e=>by cases e);rw [List.filter_cons_of_neg (by rw [hc]; simp)];show HR env B w (celH r) _;exact HR.cel h2
  | (k,.mp gk gv l o) :: r,_,⟨c,H',e,h1,h2⟩=>by
    subst e;have hc:isCel c=false:=h1.notCel (fun _ _ e=>by cases e);rw [List.filter_cons_of_neg (by rw [hc]; simp)];show HR env B w (celH r) _;exact HR.cel h2
  | (k,.it mid es q ps) :: r,_,⟨c,H',e,h1,h2⟩=>by
    subst e;have hc:isCel c=false:=h1.notCel (fun _ _ e=>by cases e);rw [List.filter_cons_of_neg (by rw [hc]; simp)];show HR env B w (celH r) _;exact HR.cel h2
  | (k,.junk) :: r,_,⟨c,H',e,h1,h2⟩=>by
    subst e;have hc:isCel c=false:=h1.notCel (fun _ _ e=>by cases e);rw [List.filter_cons_of_neg (by rw [hc]; simp)];show HR env B w (celH r) _;exact HR.cel h2
  | (k,.hrow el t g l cap i d) :: r,_,⟨c,H',e,h1,h2⟩=>by
    subst e;have hc:isCel c=false:=h1.notCel (fun _ _ e=>by cases e);rw [List.filter_cons_of_neg (by rw [hc]; simp)];show HR env B w (celH r) _;exact HR.cel h2
  | (k,.rjunk) :: r,_,⟨c,H',e,h1,h2⟩=>by
    subst e;have hc:isCel c=false:=h1.notCel (fun _ _ e=>by cases e);rw [List.filter_cons_of_neg (by rw [hc]; simp)];show HR env B w (celH r) _;exact HR.cel h2
  | (k,.lrow t g l) :: r,_,⟨c,H',e,h1,h2⟩=>by
    subst e;have hc:isCel c=false:=h1.notCel (fun _ _ e=>by cases e);rw [List.filter_cons_of_neg (by rw [hc]; simp)];show HR env B w (celH r) _;exact HR.cel h2
section
variable {X:Cx} {M:Bool} {n:Nat} {st st':ASt} {Q:Exit→ASt→Prop} {ops:List Oper} {E:List Nat} {ds ds':DS} {fuel:Nat}
theorem AI.drew {R:Nat→Prop} {W:World} {Bi:Bk} {ks:List Nat} {env:Nat→Loc} {B:Nat→Prop} {w0:World} {H:List Ck} {a:Act} {w:World} (h:AI X R W Bi n ks env B w0 H st a w):AI X R W Bi n ks env B w0 H st a w.drew:=
  ⟨h.size,h.defs,h.has,h.heap,h.sh.drew,h.sub,h.new,h.pin,h.base,h.glob⟩
theorem ax_draw {id N:Nat} {r:Option Nat} {al:Bool} (E:List Nat) (hm:X.P.follows .mixedOrders=true) (hN:ops.length=N) (h:AD X M n ops E N ⟨Array.replicate N false,true,true,true,al⟩ st Q):AX X M n r (.region id ops.toArray true) st Q:=by
  rintro R W Bi a w ⟨ks,env,B,w0,H,hM,hA⟩;have h1:=wpAnyJ.any r _ _ _ _ (h R W Bi B w0 (H.filter (kf al)) _ ks env B w0 H a w.drew hM hA.drew ⟨fun _=>⟨rfl,rfl,rfl⟩,fun _=>⟨fun c hc=>List.mem_filter.1 hc,(List.pairwise_append.1 hA.sh.apart).1.sublist List.filter_sublist,fun _ h=>h,KO.refl _ _⟩,fun _=>rfl,fun _ h=>h⟩);have h2:(Code.region id ops.toArray true).wpIn (WF r) 0 X.P (fun e a w=>e=.normal∧∃ st',Q e st'∧AR X R W Bi M n st' a w) a w:=wpIn_region_any hm (by simp only [List.size_toArray,hN]; exact h1);refine wpIn_mono h2 ?_;rintro e a w ⟨rfl,st',h3,h4⟩;exact ⟨st',h3,h4⟩
theorem ad_done (hr:Region.ready .any ops.toArray ds.listed=[]) (h:Q .normal st):AD X M n ops E 0 ds st Q:=fun R W Bi B0 w00 CS F ks env B w0 H a w hM hA _=>⟨hr,rfl,st,h,ks,env,B,w0,H,hM,hA⟩
theorem nth_arr {i:Nat} {o:Oper} (h:nth ops i=some o):ops.toArray[i]?=some o:=by simpa using nth_get h
theorem ad_tail {R:Nat→Prop} {B0:Nat→Prop} {w00:World} {CS:List Ck} {F:World→Prop} {QQ:Exit→Act→World→Prop} {listed:Array Bool} {fl i:Nat} {o:Oper} {a:Act} {w:World} (need:Bool) (v:Value) (hio:ops.toArray[i]?=some o) (hb:baseOk ops.toArray listed i=true) (hE:E.elem i=true→need=true) (hr:need=true→restIn ops.toArray E (behind ops.toArray i) listed i=true)
    (hy:YieldsIf X.P ops.toArray (fun w=>(need=true→SH (fun k=>R k∨B0 k) w00 CS w)∧F w) o v a) (hT:need=true→SH (fun k=>R k∨B0 k) w00 CS w) (hF:F w) (hIH:wpAnyJ X.P ops.toArray QQ (fun j w=>(E.elem j=true→SH (fun k=>R k∨B0 k) w00 CS w)∧F w) fl (listed.setIfInBounds i true) (a.put o.dst v) w) :
    wpAnyJ X.P ops.toArray QQ (fun j w=>(E.elem j=true→SH (fun k=>R k∨B0 k) w00 CS w)∧F w) (fl+1) listed a w:=by
  simp only [baseOk,Bool.and_eq_true] at hb;obtain ⟨⟨hnosel,hfree⟩,hready⟩:=hb;have hgo:∀ D,(∀ j∈D,binding ops.toArray i D j)→(∀ j∈D,listed.getD j true=false)→(∀ j oj,ops.toArray[j]?=some oj→j≠i→listed.getD j true=false→(∀ e∈oj.after,Region.binds .any e=true→e.on≠i)→j∈D∨(need=true→E.elem j=true))→wpAnyJ X.P ops.toArray QQ (fun j w=>(E.elem j=true→SH (fun k=>R k∨B0 k) w00 CS w)∧F w) (fl+1) listed a w:=by
    intro D h1 h2 h3;refine wpAnyJ.first (T:=fun w=>(need=true→SH (fun k=>R k∨B0 k) w00 CS w)∧F w) hio (Region.noSelect_spec hnosel) D h1 _ _ _ _ h2 ?_ (by simpa using hready) hy ⟨hT,hF⟩ hIH (fun w' hw=>⟨fun he=>hw.1 (hE he),hw.2⟩)
    intro j oj hoj hji hun hno;refine ⟨Region.free_spec hio hfree j oj hoj hji hun hno,?_⟩
    rcases h3 j oj hoj hji hun hno with h4 | h4
    · exact .inl h4
    · exact .inr fun w hSj=>⟨fun hne=>hSj.1 (h4 hne),hSj.2⟩
  cases hn:need with
  | false=>exact hgo [] (fun _ h=>by cases h) (fun _ h=>by cases h) (fun _ _ _ _ _ _=>.inr fun h=>by rw [hn] at h; cases h)
  | true=>
    have hneed:=hr hn;simp only [restIn,Bool.and_eq_true,List.all_eq_true,List.mem_range,Bool.not_eq_true'] at hneed;obtain ⟨hb1,hb2⟩:=hneed;refine hgo (behind ops.toArray i) (fun j hj=>bindB_ok (hb1 j hj).2) (fun j hj=>(hb1 j hj).1) (fun j oj hoj hji hun _=>?_)
    have:=hb2 j (Array.getElem?_eq_some_iff.1 hoj).1
    simp only [Bool.or_eq_true,beq_iff_eq] at this
    rcases this with ((h1 | h1) | h1) | h1
    · exact absurd h1 hji
    · rw [hun] at h1; cases h1
    · exact .inr fun _=>h1
    · exact .inl (by simpa using h1)
theorem need_cases {listed:Array Bool} {pre:Bool} {i:Nat} (h:needOk ops.toArray E listed pre i=true):(E.elem i=true→restIn ops.toArray E (behind ops.toArray i) listed i=true)∧(E.elem i=true→pre=true):=by
  simp only [needOk,Bool.or_eq_true,Bool.not_eq_true',Bool.and_eq_true] at h
  rcases h with h | h
  · exact ⟨fun e=>(by rw [h] at e; cases e),fun e=>(by rw [h] at e; cases e)⟩
  · exact ⟨fun _=>h.2,fun _=>h.1⟩
theorem DInv.kept {R:Nat→Prop} {B0:Nat→Prop} {w00:World} {CS:List Ck} {F:World→Prop} {B:Nat→Prop} {w0:World} {H H':List Ck} (hD:DInv R ds B0 w00 CS F B w0 H) (hk:ds.pre=true→∀ c∈H,kf ds.all c=true→c∈H') {l:Array Bool}:DInv R ⟨l,false,ds.pre,ds.nocall,ds.all⟩ B0 w00 CS F B w0 H':=
  ⟨fun h=>(by cases h),fun h=>by
    obtain ⟨h1,h2,h3,h4⟩:=hD.pre h;exact ⟨fun c hc=>⟨hk h c (h1 c hc).1 (h1 c hc).2,(h1 c hc).2⟩,h2,h3,h4⟩,hD.frz,hD.frz'⟩
theorem DInv.lost {R:Nat→Prop} {B0:Nat→Prop} {w00:World} {CS:List Ck} {F:World→Prop} {B:Nat→Prop} {w0:World} {H H':List Ck} (hD:DInv R ds B0 w00 CS F B w0 H) {l:Array Bool}:DInv R ⟨l,false,false,ds.nocall,ds.all⟩ B0 w00 CS F B w0 H':=
  ⟨fun h=>(by cases h),fun h=>(by cases h),hD.frz,hD.frz'⟩
theorem ado_step (hX:X.tt.ok X.P) {i:Nat} {o:Oper} {c:Bool} {l':Array Bool} (hi:nth ops i=some o) (hE:E.elem i=false) (hs:astep X n (dstsOf ops) st o=.ok c st') (hc:c=true) (hl:ds.listed.setIfInBounds i true=l') (h:AD X M n ops E fuel ⟨l',false,false,ds.nocall,ds.all⟩ st' Q):ADo X M n ops E fuel ds st Q i:=by
  intro R W Bi B0 w00 CS F ks env B w0 H a w hM hA hD;refine ⟨o,nth_arr hi,astep_ok hX hs hc hA fun a' w' env' H' heff hA'=>?_⟩;have hD':=hD.lost (H':=H') (l:=l');rw [hl];exact ⟨⟨fun he=>(by rw [hE] at he; cases he),hD'.F hA'⟩,h R W Bi B0 w00 CS F ks env' B w0 H' a' w' hM hA' hD'⟩
theorem ado_keep (hX:X.tt.ok X.P) {i:Nat} {o:Oper} {c:Bool} {l':Array Bool} (hi:nth ops i=some o) (hk:(ds.pre&&kindKeep o.op&&keepD o st.H&&!ds.all)=true) (hs:astep X n (dstsOf ops) st o=.ok c st') (hc:c=true) (hl:ds.listed.setIfInBounds i true=l') (h:AD X M n ops E fuel ⟨l',false,true,ds.nocall,ds.all⟩ st' Q):ADo X M n ops E fuel ds st Q i:=by
  intro R W Bi B0 w00 CS F ks env B w0 H a w hM hA hD;simp only [Bool.and_eq_true] at hk;refine ⟨o,nth_arr hi,astep_ok hX hs hc hA fun a' w' env' H' heff hA'=>?_⟩;have hal:ds.all=false:=by simpa using hk.2
  have hD':=hD.kept (H':=H') (l:=l') (fun _=>by rw [hal]; exact heff.keep hk.1.1.2 hk.1.2);rw [hl];refine ⟨⟨fun he=>hD'.T hk.1.1.1 hA',hD'.F hA'⟩,h R W Bi B0 w00 CS F ks env' B w0 H' a' w' hM hA' ?_⟩;rw [hk.1.1.1] at hD';exact hD'
def ADs (X:Cx) (M:Bool) (n:Nat) (ops:List Oper) (E:List Nat) (fuel:Nat) (ds:DS) (st:ASt) (Q:Exit→ASt→Prop) (rs:List Nat):Prop:=∀ i∈rs,ADo X M n ops E fuel ds st Q i
theorem ads_nil:ADs X M n ops E fuel ds st Q []:=fun _ h=>by cases h
theorem ads_cons {i:Nat} {rs:List Nat} (h:ADo X M n ops E fuel ds st Q i) (hr:ADs X M n ops E fuel ds st Q rs):ADs X M n ops E fuel ds st Q (i :: rs):=fun j hj=>by
  rcases List.mem_cons.1 hj with rfl | hj
  · exact h
  · exact hr j hj
theorem ad_ready {i:Nat} {rs:List Nat} (hr:Region.ready .any ops.toArray ds.listed=i :: rs) (h:ADs X M n ops E fuel ds st Q (i :: rs)):AD X M n ops E (fuel+1) ds st Q:=by
  intro R W Bi B0 w00 CS F ks env B w0 H a w hM hA hD;refine ⟨fun h0=>(by rw [hr] at h0; cases h0),fun k hk=>?_⟩;rw [hr] at hk;exact h k hk R W Bi B0 w00 CS F ks env B w0 H a w hM hA hD
end
/-! ### A drawn region, behind a call, as at its beginning -/
theorem wpAnyJ.strong {P:Program} {ops:Array Oper} {Q:Exit→Act→World→Prop} {S S':Nat→World→Prop} (hS:∀ j w,S' j w→S j w):∀ (fuel:Nat) (listed:Array Bool) (a:Act) (w:World),wpAnyJ P ops Q S' fuel listed a w→wpAnyJ P ops Q S fuel listed a w
  | 0,_,_,_,h=>h
  | fuel+1,_,_,_,h=>⟨h.1,fun i hi=>by
    obtain ⟨o,ho,hx⟩:=h.2 i hi;exact ⟨o,ho,hx.mono fun a' w' h'=>⟨hS _ _ h'.1,wpAnyJ.strong hS fuel _ a' w' h'.2⟩⟩⟩
theorem ad_fresh {X:Cx} {M:Bool} {n:Nat} {st:ASt} {Q:Exit→ASt→Prop} {ops:List Oper} {E:List Nat} {ds:DS} {fuel:Nat} (hE:(E.isEmpty || ds.pre)=true) (h:AD X M n ops E fuel ⟨ds.listed,true,true,true,ds.all⟩ st Q):AD X M n ops E fuel ds st Q:=by
  intro R W Bi B0 w00 CS F ks env B w0 H a w hM hA hD;refine wpAnyJ.strong ?_ _ _ _ _ (h R W Bi B w0 (H.filter (kf ds.all)) (fun w=>KO (fun k=>R k∨B k) w0 w) ks env B w0 H a w hM hA ⟨fun _=>⟨rfl,rfl,rfl⟩,fun _=>⟨fun c hc=>List.mem_filter.1 hc,(List.pairwise_append.1 hA.sh.apart).1.sublist List.filter_sublist,fun _ h=>h,KO.refl _ _⟩,fun _=>rfl,fun _ h=>h⟩);rintro j w' ⟨h1,h2⟩;refine ⟨fun he=>?_,hD.frz' w' h2⟩;have hp:ds.pre=true:=by
    cases E with
    | nil=>cases he
    | cons e E=>simpa using hE
  obtain ⟨p1,p2,p3,p4⟩:=hD.pre hp;have hs:=h1 he;have hb:=hs.below;refine ⟨p4.trans ⟨hb.os,hb.tape,hb.output,hb.size,fun k hk=>hb.block k (hk.imp id (p3 k))⟩,fun k hk=>hs.base k (hk.imp id (p3 k)),fun c hc=>?_,p2⟩;have hok:=hs.ok c (List.mem_filter.2 ⟨(p1 c hc).1,(p1 c hc).2⟩);exact hok.base fun b hb hk=>(hok.lt hb).1 (hk.imp id (p3 b))
end Go.Proofs.Yteglgnkcpaagjaa

/- Freezing of blocks of cells; calls in drawn regions. -/
namespace Go.Proofs.Yteglgnkcpaagjaa
open Go.RowKit
def fzCaps (id:Nat) (g:GTy) (x:g.D):List Cap→List Cap
  | []=>[]
  | .id i :: r=>match Nat.beq i id with
    | true=>.fz g x :: fzCaps id g x r
    | false=>.id i :: fzCaps id g x r
  | .fz h y :: r=>.fz h y :: fzCaps id g x r
def SC.fzc:SC→Nat→(g:GTy)→g.D→SC
  | .ptr i o,id,g,x=>match Nat.beq i id with
    | true=>.pel g x o
    | false=>.ptr i o
  | .fn f ids,id,g,x=>.fn f (fzCaps id g x ids)
  | c,_,_,_=>c
def fzcCs (id:Nat) (g:GTy) (x:g.D):List SC→List SC
  | []=>[]
  | c :: r=>c.fzc id g x :: fzcCs id g x r
def SA.fzc:SA→Nat→(g:GTy)→g.D→SA
  | .c y,id,g,x=>.c (y.fzc id g x)
  | .agg cs,id,g,x=>.agg (fzcCs id g x cs)
  | .arr g l,_,_,_=>.arr g l
def fzcAs (id:Nat) (g:GTy) (x:g.D):List SA→List SA
  | []=>[]
  | c :: r=>c.fzc id g x :: fzcAs id g x r
def SV.fzc:SV→Nat→(g:GTy)→g.D→SV
  | .a y,id,g,x=>.a (y.fzc id g x)
  | .may b y,id,g,x=>.may b (y.fzc id g x)
  | .tup ys,id,g,x=>.tup (fzcAs id g x ys)
def fzcL (id:Nat) (g:GTy) (x:g.D):Sl→Sl
  | []=>[]
  | (k,v) :: r=>(k,v.fzc id g x) :: fzcL id g x r
def Blk.fzc:Blk→Nat→(g:GTy)→g.D→Blk
  | .cells t cs,id,g,x=>.cells t (fzcCs id g x cs)
  | b,_,_,_=>b
def fzcH (id:Nat) (g:GTy) (x:g.D):Hp→Hp
  | []=>[]
  | (k,b) :: r=>match Nat.beq k id with
    | true=>fzcH id g x r
    | false=>(k,b.fzc id g x) :: fzcH id g x r
section
variable {env:Nat→Loc} {B:Nat→Prop} {w:World} {id b:Nat} {g:GTy} {x:g.D} (he:env id=.blk b) (ha:At B w g x b 0)
include he ha
theorem ptrs.fzc {cs:List Cap}:∀ {vs:List Value},ptrs env B w cs vs→ptrs env B w (fzCaps id g x cs) vs:=by
  induction cs with
  | nil=>intro vs h; exact h
  | cons c cs ih=>
    intro vs h;obtain ⟨v,r,e,h1,h3⟩:=h;cases c with
    | id i=>
      obtain ⟨b',h1,h2⟩:=h1;simp only [fzCaps]
      split
      · rename_i hi
        have:=Nat.eq_of_beq_eq_true hi
        subst this;rw [he] at h1;cases h1;exact ⟨v,r,e,⟨b,0,h2,ha⟩,ih h3⟩
      · exact ⟨v,r,e,⟨b',h1,h2⟩,ih h3⟩
    | fz h y=>exact ⟨v,r,e,h1,ih h3⟩
theorem CR.fzc:∀ {c:SC} {v:Value},CR env B w c v→CR env B w (c.fzc id g x) v
  | .val _,_,hc=>hc
  | .str _,_,hc=>hc
  | .dead,_,hc=>hc
  | .ptr i o,v,hc=>by
    simp only [SC.fzc]
    split
    · rename_i hi
      have:=Nat.eq_of_beq_eq_true hi
      subst this;obtain ⟨b',h1,h2⟩:=hc;rw [he] at h1;cases h1;exact ⟨b,0,by rw [Nat.zero_add]; exact h2,ha⟩
    · exact hc
  | .elt _ _ _ _,_,hc=>hc
  | .pel _ _ _,_,hc=>hc
  | .par _ _,_,hc=>hc
  | .sl _,_,hc=>hc
  | .lst _ _ _,_,hc=>hc
  | .fn _ _,_,⟨vs,h1,h2⟩=>⟨vs,h1,ptrs.fzc he ha h2⟩
  | .mref _,_,hc=>hc
  | .bfn _ _,_,hc=>hc
  | .nel _ _,_,hc=>hc
  | .slf _ _,_,hc=>hc
theorem CsR.fzc:∀ {c:List SC} {v:List Value},CsR env B w c v→CsR env B w (fzcCs id g x c) v
  | [],_,hc=>hc
  | _ :: _,_,⟨v,r,e,h1,h2⟩=>⟨v,r,e,CR.fzc he ha h1,CsR.fzc h2⟩
theorem SaR.fzc:∀ {c:SA} {v:Value},SaR env B w c v→SaR env B w (c.fzc id g x) v
  | .c _,_,hc=>CR.fzc he ha hc
  | .agg _,_,⟨vs,e,h1⟩=>⟨vs,e,CsR.fzc he ha h1⟩
  | .arr _ _,_,h=>h
theorem SasR.fzc:∀ {c:List SA} {v:List Value},SasR env B w c v→SasR env B w (fzcAs id g x c) v
  | [],_,hc=>hc
  | _ :: _,_,⟨v,r,e,h1,h2⟩=>⟨v,r,e,SaR.fzc he ha h1,SasR.fzc h2⟩
theorem VR.fzc:∀ {c:SV} {v:Value},VR env B w c v→VR env B w (c.fzc id g x) v
  | .a _,_,hc=>SaR.fzc he ha hc
  | .may _ _,_,hc=>⟨fun hg=>SaR.fzc he ha (hc.1 hg),hc.2⟩
  | .tup _,_,⟨vs,e,h1⟩=>⟨vs,e,SasR.fzc he ha h1⟩
theorem BR.fzc {k:Nat}:∀ {bl:Blk} {c:Ck},BR env B w k bl c→BR env B w k (bl.fzc id g x) c
  | .cells _ _,_,⟨b',vs,e,hc,h1⟩=>⟨b',vs,e,hc,CsR.fzc he ha h1⟩
  | .row _ _ _ _,_,h=>h
  | .sit _ _,_,h=>h
  | .mp _ _ _ _,_,h=>h
  | .it _ _ _ _,_,h=>h
  | .junk,_,h=>h
  | .hrow _ _ _ _ _ _ _,_,h=>h
  | .rjunk,_,h=>h
  | .lrow _ _ _,_,h=>h
theorem HR.fzc:∀ {l:Hp} {H:List Ck},HR env B w l H→∃ H',H'.Sublist H∧HR env B w (fzcH id g x l) H'
  | [],_,hh=>⟨[],by rw [show _=[] from hh]; exact List.Sublist.refl _,rfl⟩
  | (k,bl) :: l,_,⟨c,H',e,h1,h2⟩=>by
    obtain ⟨H2,hs,h3⟩:=HR.fzc h2;subst e;unfold fzcH
    split
    · exact ⟨H2,hs.cons _,h3⟩
    · exact ⟨c :: H2,hs.cons_cons _,c,H2,rfl,BR.fzc he ha h1,h3⟩
theorem HR.fzc':∀ {l:Hp} {H:List Ck} {bl:Blk},HR env B w l H→lk l id=some bl→∃ c Y Z H',BR env B w id bl c∧H=Y++c :: Z∧H'.Sublist (Y++Z)∧HR env B w (fzcH id g x l) H'
  | [],_,_,_,h=>by cases h
  | (k,b') :: l,H,bl,⟨c,H',e,h1,h2⟩,h=>by
    rw [lk_cons] at h;subst e
    split at h
    · rename_i e
      subst e;cases h;obtain ⟨H2,h3,h4⟩:=HR.fzc he ha h2;refine ⟨c,[],H',H2,h1,rfl,h3,?_⟩;unfold fzcH;rw [Nat.beq_refl];exact h4
    · rename_i e
      obtain ⟨c',Y,Z,H2,h3,h4,h5,h6⟩:=HR.fzc' h2 h;have hk:Nat.beq k id=false:=by
        cases hb:Nat.beq k id with
        | false=>rfl
        | true=>exact absurd (Nat.eq_of_beq_eq_true hb).symm e
      refine ⟨c',c :: Y,Z,c :: H2,h3,by rw [h4]; rfl,h5.cons_cons _,?_⟩;unfold fzcH;rw [hk];exact ⟨c,H2,rfl,BR.fzc he ha h1,h6⟩
omit he ha in
theorem lk_fzcL:∀ {l:Sl} {s:Nat} {v:SV},lk (fzcL id g x l) s=some v→∃ u,lk l s=some u∧v=u.fzc id g x
  | [],_,_,h=>by cases h
  | (k,u) :: l,s,v,h=>by
    unfold fzcL at h;rw [lk_cons] at h ⊢
    split at h
    · rename_i e
      cases h;rw [if_pos e];exact ⟨u,rfl,rfl⟩
    · rename_i e
      rw [if_neg e];exact lk_fzcL h
end
section
variable {X:Cx} {R:Nat→Prop} {W:World} {Bi:Bk} {n:Nat} {ks:List Nat} {env:Nat→Loc} {B:Nat→Prop} {w0:World} {H:List Ck} {st st':ASt} {a:Act} {w:World}
theorem AI.frzC (h:AI X R W Bi n ks env B w0 H st a w) {id:Nat} {t:TypeId} {cs:List SC} {g:GTy} {x:g.D} {c:Bool} (hlk:lk st.H id=some (.cells t cs)) (hdec:dec g cs=some (c,x,[])) (hc:c=true):∃ env' B' w0' H',AI X R W Bi n ks env' B' w0' H' ⟨fzcL id g x st.L,fzcH id g x st.H⟩ a w:=by
  obtain ⟨c0,_,⟨b,vs,he,rfl,hcs⟩,hfoc⟩:=h.heap.foc hlk;have hup:Up B w0 (fun q=>B q∨q=b) w:=⟨fun q hq=>.inl hq,fun q hq=>h.sh.below.block q (.inr hq)⟩
  obtain ⟨v1,v2,hv,hfr,hv2⟩:=dec_ok (hcs.up hup) hdec hc;have hv2':v2=[]:=hv2;subst hv2';rw [List.append_nil] at hv;subst hv;have hat:At (fun q=>B q∨q=b) w g x b 0:=⟨.inr rfl,vs,hfr,fun j u hu=>by rw [Nat.zero_add,cel_cell h.sh hfoc.more]; exact hu⟩
  obtain ⟨c,Y,Z,H2,⟨b',vs',he',rfl,_⟩,h2,h4,h5⟩:=HR.fzc' he hat (h.heap.up hup) hlk;rw [he] at he';cases he';have hmem:Ck.cel b vs' t∈H++ks.map mkO:=by rw [h2]; simp
  have hnew:=(h.sh.ok _ hmem).lt (b:=b) rfl;have hpart:=h.sh.apart;rw [h2,List.append_assoc,List.cons_append] at hpart;refine ⟨env,_,w,H2,h.size,h.defs,fun s u hu=>?_,h5,?_,fun q hq=>.inl (h.sub q hq),fun q hq=>?_,h.pin,h.base.trans ⟨h.sh.below.os,h.sh.below.tape,h.sh.below.output,h.sh.below.size,fun q hq=>h.sh.below.block q (.inl hq)⟩,fun i x hx=>(h.glob i x hx).up hup⟩
  · obtain ⟨u0,hu0,rfl⟩:=lk_fzcL hu
    obtain ⟨u',h6,h7⟩:=h.has s u0 hu0;exact ⟨u',h6,VR.fzc he hat (h7.up hup)⟩
  · have hs:SH (fun k=>R k∨B k) w0 (H2++ks.map mkO) w:=by
      have h6:=h.sh;rw [h2] at h6;have hp:(Y++Ck.cel b vs' t :: Z++ks.map mkO).Perm (Ck.cel b vs' t :: (Y++Z++ks.map mkO)):=by
        simp only [List.append_assoc,List.cons_append];exact List.perm_middle
      exact (h6.perm hp).weak (((h4.append_right _)).cons _)
    refine ⟨KO.refl _ _,fun q hq=>?_,fun c hc=>(hs.ok c hc).base fun q hb hB=>?_,hs.apart⟩
    · rcases hq with hq | hq | hq
      · exact h.sh.base q (.inl hq)
      · exact h.sh.base q (.inr hq)
      · subst hq; exact hnew.2
    · rcases hB with hB | hB | hB
      · exact ((hs.ok c hc).lt hb).1 (.inl hB)
      · exact ((hs.ok c hc).lt hb).1 (.inr hB)
      · subst hB
        have hcm:c∈Y++(Z++ks.map mkO):=by
          rcases List.mem_append.1 hc with hc | hc
          · have:=h4.subset hc
            rcases List.mem_append.1 this with h7 | h7
            · exact List.mem_append_left _ h7
            · exact List.mem_append_right _ (List.mem_append_left _ h7)
          · exact List.mem_append_right _ (List.mem_append_right _ hc)
        rw [List.pairwise_append,List.pairwise_cons] at hpart;obtain ⟨_,⟨h8,_⟩,h9⟩:=hpart
        rcases List.mem_append.1 hcm with h7 | h7
        · exact h9 c h7 _ List.mem_cons_self q hb rfl
        · exact h8 c h7 q rfl hb
  · rcases hq with hq | hq
    · exact (h.new q hq).imp_right fun h'=>⟨h'.1,h'.2.keep (h.sh.below.block q (.inr hq))⟩
    · subst hq; exact .inr ⟨fun hR=>hnew.1 (.inl hR),(h.sh.ok _ hmem).cells rfl rfl⟩
theorem Wk.frzC (id:Nat) (g:GTy) {t:TypeId} {cs:List SC} {x:g.D} {c:Bool} (hlk:lk st.H id=some (.cells t cs)) (hdec:dec g cs=some (c,x,[])) (hc:c=true):Wk X n st ⟨fzcL id g x st.L,fzcH id g x st.H⟩:=fun _ _ _ _ _ _ ⟨ks,env,B,w0,H,hM,hA⟩=>by
  obtain ⟨env',B',w0',H',h⟩:=hA.frzC hlk hdec hc;exact ⟨ks,env',B',w0',H',hM,h⟩
end
section
variable {X:Cx} {M:Bool} {n:Nat} {st:ASt} {Q:Exit→ASt→Prop} {ops:List Oper} {E:List Nat} {ds:DS} {listed':Array Bool} {fuel d i:Nat} {o:Oper}
theorem ad_frz {st':ASt} (z:Nat) (hf:frz z st=some st') (h:AD X M n ops E fuel ⟨ds.listed,false,ds.pre&&!ds.all,false,ds.all⟩ st' Q):AD X M n ops E fuel ds st Q:=by
  intro R W Bi B0 w00 CS F ks env B w0 H a w hM hA hD;obtain ⟨env',B',w0',H',hA',hsub,hKO,hkeep⟩:=hA.frz hf;refine h R W Bi B0 w00 CS F ks env' B' w0' H' a w hM hA' ⟨fun h=>(by cases h),fun hp=>?_,fun h=>(by cases h),fun w hw=>hD.frz' w (hKO.trans ⟨hw.os,hw.tape,hw.output,hw.size,fun k hk=>hw.block k (hk.imp id (hsub k))⟩)⟩;have hp':ds.pre=true∧ds.all=false:=by
    have:(ds.pre&&!ds.all)=true:=hp
    simpa using this
  obtain ⟨g1,g2,g3,g4⟩:=hD.pre hp'.1;exact ⟨fun c hc=>⟨hkeep c (g1 c hc).1 (by have:=(g1 c hc).2; rw [hp'.2] at this; exact this),(g1 c hc).2⟩,g2,fun k hk=>hsub k (g3 k hk),g4.trans ⟨hKO.os,hKO.tape,hKO.output,hKO.size,fun k hk=>hKO.block k (hk.imp id (g3 k))⟩⟩
end
end Go.Proofs.Yteglgnkcpaagjaa

/- Names of blocks are changed; ranges over functions. -/
namespace Go.Proofs.Yteglgnkcpaagjaa
open Go.RowKit
abbrev Re:=Bool→Nat→Option Nat
def capsRe (φ:Re):List Cap→Option (List Cap)
  | []=>some []
  | .id i :: r=>match φ true i,capsRe φ r with
    | some j,some l=>some (.id j :: l)
    | _,_=>none
  | .fz g x :: r=>match capsRe φ r with
    | some l=>some (.fz g x :: l)
    | none=>none
def SC.re:SC→Re→SC
  | .ptr i o,φ=>match φ true i with
    | some j=>.ptr j o
    | none=>.dead
  | .elt i sz k o,φ=>match φ false i with
    | some j=>.elt j sz k o
    | none=>.dead
  | .sl i,φ=>match φ false i with
    | some j=>.sl j
    | none=>.dead
  | .fn f ids,φ=>match capsRe φ ids with
    | some l=>.fn f l
    | none=>.dead
  | .mref i,φ=>match φ true i with
    | some j=>.mref j
    | none=>.dead
  | .bfn f i,φ=>match φ true i with
    | some j=>.bfn f j
    | none=>.dead
  | .nel i o,φ=>match φ false i with
    | some j=>.nel j o
    | none=>.dead
  | .slf b i,φ=>match φ true i with
    | some j=>.slf b j
    | none=>.dead
  | c,_=>c
def reCs (φ:Re):List SC→List SC
  | []=>[]
  | c :: r=>c.re φ :: reCs φ r
def SA.re:SA→Re→SA
  | .c x,φ=>.c (x.re φ)
  | .agg cs,φ=>.agg (reCs φ cs)
  | .arr g l,_=>.arr g l
def reAs (φ:Re):List SA→List SA
  | []=>[]
  | c :: r=>c.re φ :: reAs φ r
def SV.re:SV→Re→SV
  | .a x,φ=>.a (x.re φ)
  | .may g x,φ=>.may g (x.re φ)
  | .tup xs,φ=>.tup (reAs φ xs)
def reL (φ:Re):Sl→Sl
  | []=>[]
  | (k,v) :: r=>(k,v.re φ) :: reL φ r
def Blk.re:Blk→Re→Blk
  | .cells t cs,φ=>.cells t (reCs φ cs)
  | .it mid es k ps,φ=>match φ true mid with
    | some j=>.it j es k ps
    | none=>.junk
  | .hrow el t g l c i d,φ=>match φ false d with
    | some j=>.hrow el t g l c i j
    | none=>.rjunk
  | b,_=>b
def Blk.kd:Blk→Bool
  | .row _ _ _ _=>false
  | .hrow _ _ _ _ _ _ _=>false
  | .rjunk=>false
  | .lrow _ _ _=>false
  | _=>true
def reH (φ:Re):Hp→Hp
  | []=>[]
  | (k,b) :: r=>match φ b.kd k with
    | some j=>(j,b.re φ) :: reH φ r
    | none=>reH φ r
structure ReOk (φ:Re) (env env':Nat→Loc):Prop where
  blk:∀ k j b,φ true k=some j→env k=.blk b→env' j=.blk b
  row:∀ k j A c n,φ false k=some j→env k=.row A c n→env' j=.row A c n
section
variable {φ:Re} {env env':Nat→Loc} {B:Nat→Prop} {w:World} (he:ReOk φ env env')
include he
theorem ptrs.re:∀ {ids l:List Cap} {vs:List Value},capsRe φ ids=some l→ptrs env B w ids vs→ptrs env' B w l vs
  | [],l,vs,h,hv=>by cases h; exact hv
  | .id i :: ids,l,vs,h,⟨v,r,e,⟨b,h2,h4⟩,h3⟩=>by
    simp only [capsRe] at h
    split at h
    · rename_i j r hi hr
      cases h;exact ⟨v,_,e,⟨b,he.blk i j b hi h2,h4⟩,ptrs.re hr h3⟩
    · cases h
  | .fz g x :: ids,l,vs,h,⟨v,r,e,h2,h3⟩=>by
    simp only [capsRe] at h
    split at h
    · rename_i r hr
      cases h;exact ⟨v,_,e,h2,ptrs.re hr h3⟩
    · cases h
theorem CR.re:∀ {c:SC} {v:Value},CR env B w c v→CR env' B w (c.re φ) v
  | .val _,_,hc=>hc
  | .str _,_,hc=>hc
  | .dead,_,hc=>hc
  | .ptr i o,v,hc=>by
    simp only [SC.re]
    split
    · rename_i j h
      obtain ⟨b,e,hv⟩:=hc;exact ⟨b,he.blk i j b h e,hv⟩
    · trivial
  | .elt i sz j o,v,hc=>by
    simp only [SC.re]
    split
    · rename_i j h
      obtain ⟨b,c,n,e,hv⟩:=hc;exact ⟨b,c,n,he.row i j _ _ _ h e,hv⟩
    · trivial
  | .slf b i,v,hc=>by
    simp only [SC.re]
    split
    · rename_i j h
      obtain ⟨k,e,hv⟩:=hc;exact ⟨k,fun hb=>he.blk i j k h (e hb),hv⟩
    · trivial
  | .nel i o,v,hc=>by
    simp only [SC.re]
    split
    · rename_i j h
      obtain ⟨b,c,n,e,hv⟩:=hc;exact ⟨b,c,n,he.row i j _ _ _ h e,hv⟩
    · trivial
  | .pel _ _ _,_,hc=>hc
  | .par _ _,_,hc=>hc
  | .sl i,v,hc=>by
    simp only [SC.re]
    split
    · rename_i j h
      obtain ⟨A,c,n,e,hv⟩:=hc;exact ⟨A,c,n,he.row i j _ _ _ h e,hv⟩
    · trivial
  | .lst _ _ _,_,hc=>hc
  | .fn f ids,v,hc=>by
    simp only [SC.re]
    split
    · rename_i l h
      obtain ⟨vs,hv,hp⟩:=hc;exact ⟨vs,hv,ptrs.re he h hp⟩
    · trivial
  | .mref i,v,hc=>by
    simp only [SC.re]
    split
    · rename_i j h
      obtain ⟨b,e,hv⟩:=hc;exact ⟨b,he.blk i j b h e,hv⟩
    · trivial
  | .bfn f i,v,hc=>by
    simp only [SC.re]
    split
    · rename_i j h
      obtain ⟨b,e,hv⟩:=hc;exact ⟨b,he.blk i j b h e,hv⟩
    · trivial
theorem CsR.re:∀ {c:List SC} {v:List Value},CsR env B w c v→CsR env' B w (reCs φ c) v
  | [],_,hc=>hc
  | _ :: _,_,⟨v,r,e,h1,h2⟩=>⟨v,r,e,CR.re he h1,CsR.re h2⟩
theorem SaR.re:∀ {c:SA} {v:Value},SaR env B w c v→SaR env' B w (c.re φ) v
  | .c _,_,hc=>CR.re he hc
  | .agg _,_,⟨vs,e,h1⟩=>⟨vs,e,CsR.re he h1⟩
  | .arr _ _,_,h=>h
theorem SasR.re:∀ {c:List SA} {v:List Value},SasR env B w c v→SasR env' B w (reAs φ c) v
  | [],_,hc=>hc
  | _ :: _,_,⟨v,r,e,h1,h2⟩=>⟨v,r,e,SaR.re he h1,SasR.re h2⟩
theorem VR.re:∀ {c:SV} {v:Value},VR env B w c v→VR env' B w (c.re φ) v
  | .a _,_,hc=>SaR.re he hc
  | .may _ _,_,hc=>⟨fun hg=>SaR.re he (hc.1 hg),hc.2⟩
  | .tup _,_,⟨vs,e,h1⟩=>⟨vs,e,SasR.re he h1⟩
theorem BR.re {k j:Nat}:∀ {b:Blk} {c:Ck},φ b.kd k=some j→BR env B w k b c→BR env' B w j (b.re φ) c
  | .cells _ _,_,h,⟨b,vs,e,hc,h1⟩=>⟨b,vs,he.blk k j b h e,hc,CsR.re he h1⟩
  | .row _ _ _ _,_,h,⟨A,c,xs,e,hc,h1⟩=>⟨A,c,xs,he.row k j _ _ _ h e,hc,h1⟩
  | .sit _ _,_,h,⟨b,e,hc⟩=>⟨b,he.blk k j b h e,hc⟩
  | .mp _ _ _ _,_,h,⟨b,es,q,e,hc⟩=>⟨b,es,q,he.blk k j b h e,hc⟩
  | .it mid _ _ _,_,h,⟨b,m,e,hm,hc⟩=>by
    simp only [Blk.re]
    split
    · rename_i j' hj
      exact ⟨b,m,he.blk k j b h e,he.blk mid j' m hj hm,hc⟩
    · exact ⟨b,_,he.blk k j b h e,hc⟩
  | .junk,_,h,⟨b,o,e,hc⟩=>⟨b,o,he.blk k j b h e,hc⟩
  | .hrow el t g l cap i d,_,h,⟨A,c,ys,A',c',m,e,hc,h1,hi,h2,h3⟩=>by
    simp only [Blk.re]
    split
    · rename_i j' hj
      exact ⟨A,c,ys,A',c',m,he.row k j _ _ _ h e,hc,h1,hi,he.row d j' _ _ _ hj h2,h3⟩
    · exact ⟨A,c,_,_,_,_,_,he.row k j _ _ _ h e,hc⟩
  | .rjunk,_,h,⟨A,c,n,t,s,m,xs,e,hc⟩=>⟨A,c,n,t,s,m,xs,he.row k j _ _ _ h e,hc⟩
  | .lrow _ _ _,_,h,⟨A,c,e,h1⟩=>⟨A,c,he.row k j _ _ _ h e,h1⟩
theorem HR.re:∀ {l:Hp} {H:List Ck},HR env B w l H→∃ H',H'.Sublist H∧HR env' B w (reH φ l) H'
  | [],_,hh=>⟨[],by rw [show _=[] from hh]; exact List.Sublist.refl _,rfl⟩
  | (k,b) :: l,_,⟨c,H',e,h1,h2⟩=>by
    obtain ⟨H2,hs,h3⟩:=HR.re h2;subst e;unfold reH
    split
    · rename_i j h
      exact ⟨c :: H2,hs.cons_cons _,c,H2,rfl,BR.re he h h1,h3⟩
    · exact ⟨H2,hs.cons _,h3⟩
omit he in
theorem lk_reL:∀ {l:Sl} {s:Nat} {v:SV},lk (reL φ l) s=some v→∃ u,lk l s=some u∧v=u.re φ
  | [],_,_,h=>by cases h
  | (k,u) :: l,s,v,h=>by
    unfold reL at h;rw [lk_cons] at h ⊢
    split at h
    · rename_i e
      cases h;rw [if_pos e];exact ⟨u,rfl,rfl⟩
    · rename_i e
      rw [if_neg e];exact lk_reL h
end
def mvId (i j:Nat):Re:=fun _ k=>match Nat.beq k i with
  | true=>some j
  | false=>match Nat.beq k j with
    | true=>none
    | false=>some k
theorem mvId_ok {i j:Nat} {env:Nat→Loc}:ReOk (mvId i j) env (upd env j (env i)):=by
  have key:∀ b k k',mvId i j b k=some k'→upd env j (env i) k'=env k:=by
    intro b k k' h;unfold mvId at h
    split at h
    · rename_i hb
      cases h
      have:=Nat.eq_of_beq_eq_true hb
      subst this;exact upd_self
    · split at h
      · cases h
      · rename_i hb
        cases h;exact upd_other _ (fun e=>by subst e; rw [Nat.beq_refl] at hb; cases hb)
  exact ⟨fun k j' b h e=>by rw [key _ _ _ h]; exact e,fun k j' A c n h e=>by rw [key _ _ _ h]; exact e⟩
end Go.Proofs.Yteglgnkcpaagjaa

/- Ranges over functions. -/
namespace Go.Proofs.Yteglgnkcpaagjaa
open Go.RowKit
def pinRe (n:Nat):Re:=fun b k=>match b with
  | true=>match Nat.ble n k with
    | true=>some k
    | false=>none
  | false=>match Nat.ble fixBase k with
    | true=>some k
    | false=>none
theorem pinRe_ok {n:Nat} {env env':Nat→Loc} (h:∀ id l,n≤id→env id=l→((∃ b,l=.blk b)∨fixBase≤id)→env' id=l) (hn:n≤fixBase):ReOk (pinRe n) env env':=by
  refine ⟨fun k j b hk e=>?_,fun k j A c m hk e=>?_⟩
  · simp only [pinRe] at hk
    split at hk
    · rename_i hb
      cases hk;exact h _ _ (Nat.le_of_ble_eq_true hb) e (.inl ⟨b,rfl⟩)
    · cases hk
  · simp only [pinRe] at hk
    split at hk
    · rename_i hb
      cases hk
      have:=Nat.le_of_ble_eq_true hb
      exact h _ _ (Nat.le_trans hn this) e (.inr this)
    · cases hk
def capsFz:List Cap→Bool
  | []=>true
  | .id _ :: _=>false
  | .fz _ _ :: r=>capsFz r
section
variable {env env':Nat→Loc} {B:Nat→Prop} {w:World}
theorem ptrs.fzAny:∀ {cs:List Cap} {vs:List Value},capsFz cs=true→ptrs env B w cs vs→ptrs env' B w cs vs
  | [],_,_,h=>h
  | .id _ :: _,_,h,_=>by cases h
  | .fz _ _ :: _,_,h,⟨v,r,e,h1,h2⟩=>⟨v,r,e,h1,ptrs.fzAny (by simpa [capsFz] using h) h2⟩
theorem ptrs.any:∀ {cs:List Cap} {vs:List Value},ptrs (fun _=>.no) B w cs vs→ptrs env B w cs vs
  | [],_,h=>h
  | .id _ :: _,_,⟨v,r,e,⟨b,h1,_⟩,h2⟩=>by cases h1
  | .fz _ _ :: _,_,⟨v,r,e,h1,h2⟩=>⟨v,r,e,h1,ptrs.any h2⟩
theorem CR.any:∀ {c:SC} {v:Value},CR (fun _=>.no) B w c v→CR env B w c v
  | .val _,_,hc=>hc
  | .str _,_,hc=>hc
  | .dead,_,hc=>hc
  | .ptr _ _,_,⟨b,h,_⟩=>by cases h
  | .elt _ _ _ _,_,⟨_,_,_,h,_⟩=>by cases h
  | .pel _ _ _,_,hc=>hc
  | .par _ _,_,hc=>hc
  | .sl _,_,⟨_,_,_,h,_⟩=>by cases h
  | .lst _ _ _,_,hc=>hc
  | .fn _ _,_,⟨vs,h1,h2⟩=>⟨vs,h1,ptrs.any h2⟩
  | .mref _,_,⟨_,h,_⟩=>by cases h
  | .bfn _ _,_,⟨_,h,_⟩=>by cases h
  | .nel _ _,_,⟨_,_,_,h,_⟩=>by cases h
  | .slf true _,_,⟨_,h,_⟩=>by cases h rfl
  | .slf false _,_,⟨k,_,h⟩=>⟨k,fun h=>(by cases h),h⟩
theorem CsR.any:∀ {c:List SC} {v:List Value},CsR (fun _=>.no) B w c v→CsR env B w c v
  | [],_,hc=>hc
  | _ :: _,_,⟨v,r,e,h1,h2⟩=>⟨v,r,e,h1.any,h2.any⟩
theorem SaR.any:∀ {c:SA} {v:Value},SaR (fun _=>.no) B w c v→SaR env B w c v
  | .c _,_,hc=>CR.any hc
  | .agg _,_,⟨vs,e,h1⟩=>⟨vs,e,h1.any⟩
  | .arr _ _,_,h=>h
theorem SasR.any:∀ {c:List SA} {v:List Value},SasR (fun _=>.no) B w c v→SasR env B w c v
  | [],_,hc=>hc
  | _ :: _,_,⟨v,r,e,h1,h2⟩=>⟨v,r,e,h1.any,h2.any⟩
end
/-! ### Slots: parameters and moves -/
structure Has (n:Nat) (env:Nat→Loc) (B:Nat→Prop) (w:World) (L:Sl) (tmps:Array Value):Prop where
  size:tmps.size=n
  has:∀ s sv,lk L s=some sv→∃ v,tmps[s]?=some v∧VR env B w sv v
def parL:List Nat→List SA→Sl→Sl
  | p :: ps,x :: xs,L=>parL ps xs ((p,.a x) :: L)
  | _,_,L=>L
def mvS:List (Nat×Nat)→Sl→Sl
  | [],L=>L
  | (d,s) :: r,L=>match lk L s with
    | some v=>mvS r ((d,v) :: L)
    | none=>mvS r ((d,.a (.c .dead)) :: L)
def mvT:List (Nat×Nat)→Array Value→Array Value
  | [],t=>t
  | (d,s) :: r,t=>mvT r (t.setIfInBounds d (t.getD s undef))
def allLt (n:Nat):List Nat→Bool
  | []=>true
  | p :: r=>Nat.blt p n&&allLt n r
section
variable {n:Nat} {env:Nat→Loc} {B:Nat→Prop} {w:World} {L:Sl} {tmps:Array Value}
theorem Has.set (h:Has n env B w L tmps) {d:Nat} (hd:d < n) {sv:SV} {v:Value} (hv:VR env B w sv v):Has n env B w ((d,sv) :: L) (tmps.setIfInBounds d v):=by
  refine ⟨by simpa using h.size,fun s u hu=>?_⟩;rw [lk_cons] at hu
  split at hu
  · rename_i e
    subst e;cases hu;exact ⟨v,by rw [Array.getElem?_setIfInBounds_self_of_lt (by rw [h.size]; exact hd)],hv⟩
  · rename_i e
    obtain ⟨u',h1,h2⟩:=h.has s u hu;exact ⟨u',by rw [Array.getElem?_setIfInBounds_ne (fun e'=>e e'.symm)]; exact h1,h2⟩
theorem Has.par:∀ {ps:List Nat} {xs:List SA} {vs:List Value} {L:Sl} {tmps:Array Value},Has n env B w L tmps→allLt n ps=true→SasR env B w xs vs→Has n env B w (parL ps xs L) ((ps.zip vs).foldl (fun t (p,v)=>t.setIfInBounds p v) tmps)
  | [],_,_,_,_,h,_,_=>by cases ‹List SA› <;> exact h
  | _ :: _,[],_,_,_,h,_,hx=>by rw [show _=[] from hx]; exact h
  | p :: ps,x :: xs,_,L,tmps,h,hp,⟨v,r,e,h1,h2⟩=>by
    subst e;simp only [allLt,Bool.and_eq_true] at hp;exact Has.par (ps:=ps) (xs:=xs) (vs:=r) (L:=(p,.a x) :: L) (tmps:=tmps.setIfInBounds p v) (h.set (lt_of_blt hp.1) (sv:=.a x) h1) hp.2 h2
theorem Has.mv:∀ {ms:List (Nat×Nat)} {L:Sl} {tmps:Array Value},Has n env B w L tmps→allLt n (ms.map (·.1))=true→Has n env B w (mvS ms L) (mvT ms tmps)
  | [],_,_,h,_=>h
  | (d,s) :: r,L,tmps,h,hp=>by
    simp only [List.map_cons,allLt,Bool.and_eq_true] at hp;unfold mvS mvT
    split
    · rename_i v hv
      obtain ⟨u,h1,h2⟩:=h.has s v hv;refine Has.mv (h.set (lt_of_blt hp.1) ?_) hp.2;rw [Array.getD_eq_getD_getElem?,h1];exact h2
    · exact Has.mv (h.set (lt_of_blt hp.1) trivial) hp.2
end
def asgO (n:Nat):List Oper→Option (List (Nat×Nat))
  | []=>some []
  | o :: r=>match o.guard,o.dst,o.op,asgO n r with
    | none,some d,.assign (.tmp s),some l=>some ((d,s) :: l)
    | none,some d,.move (.tmp s),some l=>some ((d,s) :: l)
    | _,_,_,_=>none
inductive Asg (n:Nat):Code→List (Nat×Nat)→Prop where
  | region {id:Nat} {ops:List Oper} {ms:List (Nat×Nat)} (h:asgO n ops=some ms):Asg n (.region id ops.toArray false) ms
  | skip:Asg n .skip []
theorem asgO_ok {P:Program} {n l:Nat} {ops:Array Oper} {Q:Exit→Act→World→Prop} {w:World}:∀ {os:List Oper} {ms:List (Nat×Nat)} {a:Act},asgO n os=some ms→Q .normal { a with tmps:=mvT ms a.tmps } w→XL (some l) P ops Q os a w
  | [],ms,a,h,hq=>by cases h; exact x_end hq
  | o :: os,ms,a,h,hq=>by
    have key:∀ d s,o.guard=none→o.dst=some d→(o.op=.assign (.tmp s)∨o.op=.move (.tmp s))→∀ l',asgO n os=some l'→ms=(d,s) :: l'→XL (some l) P ops Q (o :: os) a w:=by
      intro d s hg hd hop l' hl hms;subst hms;refine xl_cons (.inl ⟨by simp [Region.wanted,hg],.inl ⟨a.eval (.tmp s),w,?_,asgO_ok hl ?_⟩⟩)
      · rcases hop with hop | hop <;> simp [execOp,hop]
      · rw [hd]
        exact hq
    unfold asgO at h
    split at h
    · rename_i d s l' hg hd hop hl
      cases h;exact key d s hg hd (.inl hop) l' hl rfl
    · rename_i d s l' hg hd hop hl
      cases h;exact key d s hg hd (.inr hop) l' hl rfl
    · cases h
theorem Asg.ok {P:Program} {n l:Nat} {c:Code} {ms:List (Nat×Nat)} {Q:Exit→Act→World→Prop} {w:World} {a:Act} (h:Asg n c ms) (hq:Q .normal { a with tmps:=mvT ms a.tmps } w):XC (some l) P c Q a w:=by
  cases h with
  | region h=>exact c_region (asgO_ok h hq)
  | skip=>exact c_skip hq
end Go.Proofs.Yteglgnkcpaagjaa

/- Ranges over functions: the rule. -/
namespace Go.Proofs.Yteglgnkcpaagjaa
open Go.RowKit
def exitC:Exit→Option Code
  | .ret=>some .ret
  | .exit id=>some (.exit id)
  | _=>none
def exitB:Exit→Bool
  | .normal=>true
  | .ret=>true
  | .exit _=>true
  | _=>false
section
variable {X:Cx} {R:Nat→Prop} {W:World} {Bi:Bk} {n:Nat} {ks:List Nat} {env:Nat→Loc} {B:Nat→Prop} {w0:World} {H:List Ck} {st:ASt} {a:Act} {w:World}
def pinsOf (n:Nat) (env:Nat→Loc):Nat→Loc→Prop:=fun id l=>n≤id∧env id=l∧((∃ b,l=.blk b)∨fixBase≤id)
theorem AI.rebase (h:AI X R W Bi n ks env B w0 H st a w):AI X (fun k=>R k∨B k) w ⟨B,pinsOf n env⟩ n ks env B w H st a w:=by
  have hup:Up B w0 B w:=⟨fun _ h=>h,fun k hk=>h.sh.below.block k (.inr hk)⟩
  refine ⟨h.size,h.defs,fun s sv hs=>?_,h.heap.up hup,?_,fun _ h=>h,fun _ h=>.inl h,fun _ _ h=>h,KO.refl _ _,fun i x hx=>(h.glob i x hx).up hup⟩
  · obtain ⟨v,h1,h2⟩:=h.has s sv hs
    exact ⟨v,h1,h2.up hup⟩
  · exact ⟨KO.refl _ _,fun k hk=>h.sh.base k (hk.elim (fun h=>h) .inr),fun c hc=>(h.sh.ok c hc).base fun b hb hk=>((h.sh.ok c hc).lt hb).1 (hk.elim (fun h=>h) .inr),h.sh.apart⟩
theorem AI.unbase {env':Nat→Loc} {B':Nat→Prop} {w0':World} {H':List Ck} {st':ASt} {a':Act} {w':World} {ks':List Nat} (h:AI X R W Bi n ks env B w0 H st a w) (h':AI X (fun k=>R k∨B k) w ⟨B,pinsOf n env⟩ n ks' env' B' w0' H' st' a' w'):AI X R W Bi n ks' env' B' w0' H' st' a' w':=by
  refine ⟨h'.size,h'.defs,h'.has,h'.heap,?_,fun k hk=>h'.sub k (h.sub k hk),fun k hk=>?_,fun id l hp=>?_,?_,h'.glob⟩
  · exact ⟨⟨h'.sh.below.os,h'.sh.below.tape,h'.sh.below.output,h'.sh.below.size,fun k hk=>h'.sh.below.block k (hk.imp .inl id)⟩,fun k hk=>h'.sh.base k (hk.imp .inl id),fun c hc=>(h'.sh.ok c hc).base fun b hb hk=>((h'.sh.ok c hc).lt hb).1 (hk.imp .inl id),h'.sh.apart⟩
  · have hKO:∀ q,B q→w0'.heap[q]?=w0.heap[q]?:=fun q hq=>(h'.base.block q (.inr hq)).trans (h.sh.below.block q (.inr hq))
    rcases h'.new k hk with h1 | h1
    · exact (h.new k h1).imp_right fun h2=>⟨h2.1,h2.2.keep (hKO k h1)⟩
    · exact .inr ⟨fun hR=>h1.1 (.inl hR),h1.2⟩
  · obtain ⟨h1,h2,h3⟩:=h.pin id l hp
    exact ⟨h1,(h'.pin id l ⟨h1,h2,h3⟩).2.1,h3⟩
  · exact h.base.trans ⟨h.sh.below.os.symm ▸ h'.base.os,h.sh.below.tape ▸ h'.base.tape,h.sh.below.output ▸ h'.base.output,Nat.le_trans h.sh.below.size h'.base.size,fun k hk=>(h'.base.block k (.inl hk)).trans (h.sh.below.block k (.inl hk))⟩
theorem AI.round (h:AI X R W Bi n ks env B w0 H st a w) {L':Sl} {t:Array Value} (hL:Has n env B w L' t):AI X (Rest w H) w ⟨B,pinsOf n env⟩ n [] env B w H ⟨L',st.H⟩ { tmps:=t,defers:=[] } w:=by
  have hup:Up B w0 B w:=⟨fun _ h=>h,fun k hk=>h.sh.below.block k (.inr hk)⟩
  have hs:SH (fun k=>R k∨B k) w0 H w:=h.sh.weak (List.sublist_append_left _ _);refine ⟨hL.size,rfl,hL.has,h.heap.up hup,?_,fun _ h=>h,fun _ h=>.inl h,fun _ _ h=>h,KO.refl _ _,fun i x hx=>(h.glob i x hx).up hup⟩;have h1:=hs.rest;simp only [List.map_nil,List.append_nil];exact ⟨KO.refl _ _,fun k hk=>hk.elim (fun h=>h.1) (fun h=>hs.base k (.inr h)),fun c hc=>(h1.ok c hc).base fun b hb hk=>hk.elim (fun h=>((h1.ok c hc).lt hb).1 h) (fun h=>((hs.ok c hc).lt hb).1 (.inr h)),h1.apart⟩
theorem AI.rounded {env':Nat→Loc} {B':Nat→Prop} {w0':World} {H':List Ck} {st':ASt} {a':Act} {w':World} (h:AI X R W Bi n ks env B w0 H st a w) (h':AI X (Rest w H) w ⟨B,pinsOf n env⟩ n [] env' B' w0' H' st' a' w') {L:Sl} (hL:∀ s sv,lk L s=some sv→∃ v,a.tmps[s]?=some v∧VR env' B' w0' sv v):AI X R W Bi n ks env' B' w0' H' ⟨L,st'.H⟩ a w':=by
  have hs:SH (fun k=>R k∨B k) w0 H w:=h.sh.weak (List.sublist_append_left _ _);have hRest:∀ k,R k∨B k→Rest w H k:=fun k hk=>⟨hs.base k hk,fun c hc e=>((hs.ok c hc).lt e).1 hk⟩
  have hup:Up B w0 B' w0':=⟨h'.sub,fun k hk=>(h'.base.block k (hRest k (.inr hk))).trans (h.sh.below.block k (.inr hk))⟩
  have hsh:=h'.sh;simp only [List.map_nil,List.append_nil] at hsh;have hf:SH (Rest w H) w H' w':=⟨h'.base.trans ⟨hsh.below.os,hsh.below.tape,hsh.below.output,hsh.below.size,fun k hk=>hsh.below.block k (.inl hk)⟩,fun k hk=>hsh.base k (.inl hk),fun c hc=>(hsh.ok c hc).base fun b hb hk=>((hsh.ok c hc).lt hb).1 (.inl hk),hsh.apart⟩
  have hfr:=h.sh.frame hf;have hpart:=List.pairwise_append.1 h.sh.apart;refine ⟨h.size,h.defs,hL,h'.heap,⟨⟨hsh.below.os,hsh.below.tape,hsh.below.output,hsh.below.size,fun k hk=>hsh.below.block k (hk.imp (fun h=>hRest k (.inl h)) id)⟩,fun k hk=>hsh.base k (hk.imp (fun h=>hRest k (.inl h)) id),fun c hc=>(hfr.ok c hc).base fun b hb hk=>?_,hfr.apart⟩,fun k hk=>h'.sub k (h.sub k hk),fun k hk=>?_,fun id l hp=>?_,?_,fun i x hx=>(h.glob i x hx).up hup⟩
  · rcases hk with hk | hk
    · exact ((hfr.ok c hc).lt hb).1 (.inl hk)
    · rcases List.mem_append.1 hc with hc' | hc'
      · exact ((hsh.ok c hc').lt hb).1 (.inr hk)
      · rcases h'.new b hk with h1 | h1
        · exact ((hfr.ok c hc).lt hb).1 (.inr h1)
        · exact h1.1 ⟨((h.sh.ok c (List.mem_append_right _ hc')).lt hb).2,fun c' hc'' e=>hpart.2.2 c' hc'' c hc' b e hb⟩
  · rcases h'.new k hk with h1 | h1
    · exact (h.new k h1).imp_right fun h2=>⟨h2.1,h2.2.keep (hup.2 k h1)⟩
    · exact .inr ⟨fun hR=>h1.1 (hRest k (.inl hR)),h1.2⟩
  · obtain ⟨h1,h2,h3⟩:=h.pin id l hp
    exact ⟨h1,(h'.pin id l ⟨h1,h2,h3⟩).2.1,h3⟩
  · exact h.base.trans ⟨h'.base.os.trans h.sh.below.os,h'.base.tape.trans h.sh.below.tape,h'.base.output.trans h.sh.below.output,Nat.le_trans h.sh.below.size h'.base.size,fun k hk=>(h'.base.block k (hRest k (.inl hk))).trans (h.sh.below.block k (.inl hk))⟩
end
end Go.Proofs.Yteglgnkcpaagjaa

/- Iterators. -/
namespace Go.Proofs.Yteglgnkcpaagjaa
open Go.RowKit
section
variable {X:Cx} {R:Nat→Prop} {W:World} {Bi:Bk} {n:Nat} {ks:List Nat} {B:Nat→Prop} {w0:World} {r:Option Nat} {ops:List Oper} {Q:Exit→Act→World→Prop}
end
section
variable {X:Cx} {B:Nat→Prop} {n:Nat} {L L':Sl} {w1:World} {a:Act} {w:World} {Q:Exit→Act→World→Prop}
theorem evs_map {D:List Deferred} {M:List (Nat×Value)} (hS:St n D M a) {us:List Operand} {vs:List Value} (h:evs M us=some vs):us.toArray.map a.eval=vs.toArray:=by
  have:=hS.evs h
  simp [this]
end
end Go.Proofs.Yteglgnkcpaagjaa

/- Slices that are nil, in cells. -/
namespace Go.Proofs.Yteglgnkcpaagjaa
open Go.RowKit
def nilCs (id:Nat):Nat→List SC→List SC
  | 0,.val (.slice none 0 0) :: r=>.sl id :: r
  | p+1,c :: r=>c :: nilCs id p r
  | _,cs=>cs
def nilH (k p id:Nat):Hp→Hp
  | []=>[]
  | (j,.cells t cs) :: r=>match Nat.beq j k with
    | true=>(j,.cells t (nilCs id p cs)) :: r
    | false=>(j,.cells t cs) :: nilH k p id r
  | b :: r=>b :: nilH k p id r
section
variable {env:Nat→Loc} {B:Nat→Prop} {w:World} {id:Nat} (he:env id=.row none 0 0)
include he
theorem CsR.nilCs:∀ {p:Nat} {cs:List SC} {vs:List Value},CsR env B w cs vs→CsR env B w (nilCs id p cs) vs:=by
  intro p
  induction p with
  | zero=>
    intro cs vs h;unfold Go.Proofs.Yteglgnkcpaagjaa.nilCs
    split
    · obtain ⟨v,r,e,h1,h2⟩:=h
      exact ⟨v,r,e,⟨none,0,0,he,h1⟩,h2⟩
    · omega
    · exact h
  | succ p ih=>
    intro cs vs h;cases cs with
    | nil=>exact h
    | cons c r=>
      obtain ⟨v,q,e,h1,h2⟩:=h;exact ⟨v,q,e,h1,ih h2⟩
theorem HR.nilH {k p:Nat}:∀ {l:Hp} {H:List Ck},HR env B w l H→HR env B w (nilH k p id l) H
  | [],_,h=>h
  | (j,.cells t cs) :: r,_,⟨c,H',e,h1,h2⟩=>by
    unfold Go.Proofs.Yteglgnkcpaagjaa.nilH
    split
    · obtain ⟨b,vs,h3,h4,h5⟩:=h1
      exact ⟨c,H',e,⟨b,vs,h3,h4,CsR.nilCs he h5⟩,h2⟩
    · exact ⟨c,H',e,h1,HR.nilH h2⟩
  | (j,.row _ _ _ _) :: r,_,⟨c,H',e,h1,h2⟩=>⟨c,H',e,h1,HR.nilH h2⟩
  | (j,.sit _ _) :: r,_,⟨c,H',e,h1,h2⟩=>⟨c,H',e,h1,HR.nilH h2⟩
  | (j,.mp _ _ _ _) :: r,_,⟨c,H',e,h1,h2⟩=>⟨c,H',e,h1,HR.nilH h2⟩
  | (j,.it _ _ _ _) :: r,_,⟨c,H',e,h1,h2⟩=>⟨c,H',e,h1,HR.nilH h2⟩
  | (j,.junk) :: r,_,⟨c,H',e,h1,h2⟩=>⟨c,H',e,h1,HR.nilH h2⟩
  | (j,.hrow _ _ _ _ _ _ _) :: r,_,⟨c,H',e,h1,h2⟩=>⟨c,H',e,h1,HR.nilH h2⟩
  | (j,.rjunk) :: r,_,⟨c,H',e,h1,h2⟩=>⟨c,H',e,h1,HR.nilH h2⟩
  | (j,.lrow _ _ _) :: r,_,⟨c,H',e,h1,h2⟩=>⟨c,H',e,h1,HR.nilH h2⟩
end
theorem Wk.nilC {X:Cx} {n:Nat} {st:ASt} (k p id:Nat) (t:TypeId) (g:GTy) (hid:Nat.blt id n=true):Wk X n st ⟨subL id .dead st.L,(id,.row t g [] none) :: nilH k p id (delH id .dead st.H)⟩:=fun R W Bi M a w ⟨ks,env,B,w0,H,hM,h⟩=>by
  obtain ⟨H2,h1,h2⟩:=h.heap.del (z:=.dead) (upd_other (env:=env) (id:=id) (l:=.row none 0 0)) (fun _ _=>trivial);refine ⟨ks,upd env id (.row none 0 0),B,w0,.row none 0 t g.size 0 [] :: H2,hM,h.size,h.defs,fun q u hu=>?_,⟨_,H2,rfl,⟨none,0,[],upd_self,rfl,rfl,fun _ hq=>by cases hq⟩,HR.nilH upd_self h2⟩,(h.sh.nilRow t g.size).weak ((h1.append_right _).cons_cons _),h.sub,h.new,pin_upd h.pin (fun q hp=>by have h1:=(h.pin _ _ hp).1; have h2:=lt_of_blt hid; omega),h.base,h.glob⟩;obtain ⟨u0,hu0,rfl⟩:=lk_subL hu;obtain ⟨u',h6,h7⟩:=h.has q u0 hu0;exact ⟨u',h6,VR.sub (z:=.dead) upd_other (fun _ _=>trivial) h7⟩
end Go.Proofs.Yteglgnkcpaagjaa

/- Contracts of plain data, out of others; tables. -/
namespace Go.Proofs.Yteglgnkcpaagjaa
open Go.RowKit
theorem nil_lst {env:Nat→Loc} {B:Nat→Prop} {w:World} {g:GTy} {v:Value} (h:SaR env B w (.c (.val (.slice none 0 0))) v):SaR env B w (.c (.lst g [] (some 0))) v:=by
  have e:v=_:=h;subst e;exact ⟨none,0,[],rfl,Nat.le_refl _,Nat.zero_le _,fun _ h=>by cases h; rfl,rfl,Reads.nil _ _ _,fun _ _ h=>absurd h (Nat.lt_irrefl 0)⟩
theorem flat_ints {B:Nat→Prop} {w:World} {k:IntKind}:∀ {l:List Int} {vs:List Value},Flat (FR B w (.int k)) l vs→vs=l.map fun z=>Value.int k z
  | [],_,h=>h
  | x :: l,_,⟨v1,v2,e,h1,h2⟩=>by rw [e,show v1=_ from h1,flat_ints h2]; rfl
end Go.Proofs.Yteglgnkcpaagjaa

/- The table of types of the translation. -/
namespace Go.Proofs.Yteglgnkcpaagjaa
def ti1:TI:={ desc:=TypeDesc.func #[] #[] false,size:=1,bytes:=8,zero:=Value.nilFunc }
theorem ti1_ok:TI.ok Try.prog 1 ti1:=⟨Try.underlying1,by kernel_rfl⟩
def ti2:TI:={ desc:=TypeDesc.int IntKind.i64,size:=1,bytes:=8,zero:=Value.int IntKind.i64 0 }
theorem ti2_ok:TI.ok Try.prog 2 ti2:=⟨Try.underlying2,by kernel_rfl⟩
def ti3:TI:={ desc:=TypeDesc.int IntKind.i64,size:=1,bytes:=8,zero:=Value.int IntKind.i64 0 }
theorem ti3_ok:TI.ok Try.prog 3 ti3:=⟨Try.underlying3,by kernel_rfl⟩
def ti4:TI:={ desc:=TypeDesc.bool,size:=1,bytes:=1,zero:=Value.bool false }
theorem ti4_ok:TI.ok Try.prog 4 ti4:=⟨Try.underlying4,by kernel_rfl⟩
def ti5:TI:={ desc:=TypeDesc.int IntKind.u8,size:=1,bytes:=1,zero:=Value.int IntKind.u8 0 }
theorem ti5_ok:TI.ok Try.prog 5 ti5:=⟨Try.underlying5,by kernel_rfl⟩
def ti6:TI:={ desc:=TypeDesc.int IntKind.u8,size:=1,bytes:=1,zero:=Value.int IntKind.u8 0 }
theorem ti6_ok:TI.ok Try.prog 6 ti6:=⟨Try.underlying6,by kernel_rfl⟩
def ti9:TI:={ desc:=TypeDesc.string,size:=1,bytes:=16,zero:=Value.string { data:=#[] } }
theorem ti9_ok:TI.ok Try.prog 9 ti9:=⟨Try.underlying9,by kernel_rfl⟩
def ti10:TI:={ desc:=TypeDesc.string,size:=1,bytes:=16,zero:=Value.string { data:=#[] } }
theorem ti10_ok:TI.ok Try.prog 10 ti10:=⟨Try.underlying10,by kernel_rfl⟩
def ti11:TI:={ desc:=TypeDesc.string,size:=1,bytes:=16,zero:=Value.string { data:=#[] } }
theorem ti11_ok:TI.ok Try.prog 11 ti11:=⟨Try.underlying11,by kernel_rfl⟩
def ti12:TI:={ desc:=TypeDesc.int IntKind.u64,size:=1,bytes:=8,zero:=Value.int IntKind.u64 0 }
theorem ti12_ok:TI.ok Try.prog 12 ti12:=⟨Try.underlying12,by kernel_rfl⟩
def ti15:TI:={ desc:=TypeDesc.pointer 91,size:=1,bytes:=8,zero:=Value.pointer none }
theorem ti15_ok:TI.ok Try.prog 15 ti15:=⟨Try.underlying15,by kernel_rfl⟩
def ti16:TI:={ desc:=TypeDesc.pointer 94,size:=1,bytes:=8,zero:=Value.pointer none }
theorem ti16_ok:TI.ok Try.prog 16 ti16:=⟨Try.underlying16,by kernel_rfl⟩
def ti17:TI:={ desc:=TypeDesc.pointer 103,size:=1,bytes:=8,zero:=Value.pointer none }
theorem ti17_ok:TI.ok Try.prog 17 ti17:=⟨Try.underlying17,by kernel_rfl⟩
def ti20:TI:={ desc:=TypeDesc.interface #[],size:=1,bytes:=16,zero:=Value.nilIface }
theorem ti20_ok:TI.ok Try.prog 20 ti20:=⟨Try.underlying20,by kernel_rfl⟩
def ti21:TI:={ desc:=TypeDesc.int IntKind.i32,size:=1,bytes:=4,zero:=Value.int IntKind.i32 0 }
theorem ti21_ok:TI.ok Try.prog 21 ti21:=⟨Try.underlying21,by kernel_rfl⟩
def ti22:TI:={ desc:=TypeDesc.slice 5,size:=1,bytes:=24,zero:=Value.slice none 0 0 }
theorem ti22_ok:TI.ok Try.prog 22 ti22:=⟨Try.underlying22,by kernel_rfl⟩
def ti23 : TI := { desc := TypeDesc.struct #[{ name := "Width", type := 5, offset := 0, embedded := false, tag := "", pkgPath := "", byteOffset := 0 }, { name := "Height", type := 5, offset := 1, embedded := false, tag := "", pkgPath := "", byteOffset := 1 }, { name := "Stitches", type := 22, offset := 2, embedded := false, tag := "", pkgPath := "", byteOffset := 8 }], size := 3, bytes := 32, zero := Value.agg #[Value.int IntKind.u8 0, Value.int IntKind.u8 0, Value.slice none 0 0] }
theorem ti23_ok:TI.ok Try.prog 23 ti23:=⟨Try.underlying23,by kernel_rfl⟩
def ti24 : TI := { desc := TypeDesc.struct #[{ name := "Width", type := 5, offset := 0, embedded := false, tag := "", pkgPath := "", byteOffset := 0 }, { name := "Height", type := 5, offset := 1, embedded := false, tag := "", pkgPath := "", byteOffset := 1 }, { name := "Stitches", type := 22, offset := 2, embedded := false, tag := "", pkgPath := "", byteOffset := 8 }], size := 3, bytes := 32, zero := Value.agg #[Value.int IntKind.u8 0, Value.int IntKind.u8 0, Value.slice none 0 0] }
theorem ti24_ok:TI.ok Try.prog 24 ti24:=⟨Try.underlying24,by kernel_rfl⟩
def ti25:TI:={ desc:=TypeDesc.func #[] #[4] false,size:=1,bytes:=8,zero:=Value.nilFunc }
theorem ti25_ok:TI.ok Try.prog 25 ti25:=⟨Try.underlying25,by kernel_rfl⟩
def ti26:TI:={ desc:=TypeDesc.slice 34,size:=1,bytes:=24,zero:=Value.slice none 0 0 }
theorem ti26_ok:TI.ok Try.prog 26 ti26:=⟨Try.underlying26,by kernel_rfl⟩
def ti27 : TI := { desc := TypeDesc.struct #[{ name := "Rows", type := 26, offset := 0, embedded := false, tag := "", pkgPath := "", byteOffset := 0 }], size := 1, bytes := 24, zero := Value.agg #[Value.slice none 0 0] }
theorem ti27_ok:TI.ok Try.prog 27 ti27:=⟨Try.underlying27,by kernel_rfl⟩
def ti28 : TI := { desc := TypeDesc.struct #[{ name := "Rows", type := 26, offset := 0, embedded := false, tag := "", pkgPath := "", byteOffset := 0 }], size := 1, bytes := 24, zero := Value.agg #[Value.slice none 0 0] }
theorem ti28_ok:TI.ok Try.prog 28 ti28:=⟨Try.underlying28,by kernel_rfl⟩
def ti29:TI:={ desc:=TypeDesc.func #[] #[28] false,size:=1,bytes:=8,zero:=Value.nilFunc }
theorem ti29_ok:TI.ok Try.prog 29 ti29:=⟨Try.underlying29,by kernel_rfl⟩
def ti30:TI:={ desc:=TypeDesc.slice 22,size:=1,bytes:=24,zero:=Value.slice none 0 0 }
theorem ti30_ok:TI.ok Try.prog 30 ti30:=⟨Try.underlying30,by kernel_rfl⟩
def ti31:TI:={ desc:=TypeDesc.func #[28] #[30] false,size:=1,bytes:=8,zero:=Value.nilFunc }
theorem ti31_ok:TI.ok Try.prog 31 ti31:=⟨Try.underlying31,by kernel_rfl⟩
def ti32:TI:={ desc:=TypeDesc.slice 35,size:=1,bytes:=24,zero:=Value.slice none 0 0 }
theorem ti32_ok:TI.ok Try.prog 32 ti32:=⟨Try.underlying32,by kernel_rfl⟩
def ti33:TI:={ desc:=TypeDesc.func #[28] #[32] false,size:=1,bytes:=8,zero:=Value.nilFunc }
theorem ti33_ok:TI.ok Try.prog 33 ti33:=⟨Try.underlying33,by kernel_rfl⟩
def ti34:TI:={ desc:=TypeDesc.slice 38,size:=1,bytes:=24,zero:=Value.slice none 0 0 }
theorem ti34_ok:TI.ok Try.prog 34 ti34:=⟨Try.underlying34,by kernel_rfl⟩
def ti35:TI:={ desc:=TypeDesc.slice 4,size:=1,bytes:=24,zero:=Value.slice none 0 0 }
theorem ti35_ok:TI.ok Try.prog 35 ti35:=⟨Try.underlying35,by kernel_rfl⟩
def ti36:TI:={ desc:=TypeDesc.int IntKind.u8,size:=1,bytes:=1,zero:=Value.int IntKind.u8 0 }
theorem ti36_ok:TI.ok Try.prog 36 ti36:=⟨Try.underlying36,by kernel_rfl⟩
def ti37 : TI := { desc := TypeDesc.struct #[{ name := "Kind", type := 36, offset := 0, embedded := false, tag := "", pkgPath := "", byteOffset := 0 }, { name := "Yarn", type := 5, offset := 1, embedded := false, tag := "", pkgPath := "", byteOffset := 1 }, { name := "A", type := 3, offset := 2, embedded := false, tag := "", pkgPath := "", byteOffset := 8 }, { name := "B", type := 3, offset := 3, embedded := false, tag := "", pkgPath := "", byteOffset := 16 }, { name := "Front", type := 4, offset := 4, embedded := false, tag := "", pkgPath := "", byteOffset := 24 }], size := 5, bytes := 32, zero := Value.agg #[Value.int IntKind.u8 0, Value.int IntKind.u8 0, Value.int IntKind.i64 0, Value.int IntKind.i64 0, Value.bool false] }
theorem ti37_ok:TI.ok Try.prog 37 ti37:=⟨Try.underlying37,by kernel_rfl⟩
def ti38 : TI := { desc := TypeDesc.struct #[{ name := "Kind", type := 36, offset := 0, embedded := false, tag := "", pkgPath := "", byteOffset := 0 }, { name := "Yarn", type := 5, offset := 1, embedded := false, tag := "", pkgPath := "", byteOffset := 1 }, { name := "A", type := 3, offset := 2, embedded := false, tag := "", pkgPath := "", byteOffset := 8 }, { name := "B", type := 3, offset := 3, embedded := false, tag := "", pkgPath := "", byteOffset := 16 }, { name := "Front", type := 4, offset := 4, embedded := false, tag := "", pkgPath := "", byteOffset := 24 }], size := 5, bytes := 32, zero := Value.agg #[Value.int IntKind.u8 0, Value.int IntKind.u8 0, Value.int IntKind.i64 0, Value.int IntKind.i64 0, Value.bool false] }
theorem ti38_ok:TI.ok Try.prog 38 ti38:=⟨Try.underlying38,by kernel_rfl⟩
def ti39:TI:={ desc:=TypeDesc.int IntKind.i64,size:=1,bytes:=8,zero:=Value.int IntKind.i64 0 }
theorem ti39_ok:TI.ok Try.prog 39 ti39:=⟨Try.underlying39,by kernel_rfl⟩
def ti41:TI:={ desc:=TypeDesc.func #[9] #[28,39] false,size:=1,bytes:=8,zero:=Value.nilFunc }
theorem ti41_ok:TI.ok Try.prog 41 ti41:=⟨Try.underlying41,by kernel_rfl⟩
def ti42:TI:={ desc:=TypeDesc.func #[28] #[9] false,size:=1,bytes:=8,zero:=Value.nilFunc }
theorem ti42_ok:TI.ok Try.prog 42 ti42:=⟨Try.underlying42,by kernel_rfl⟩
def ti43:TI:={ desc:=TypeDesc.func #[28,28] #[4] false,size:=1,bytes:=8,zero:=Value.nilFunc }
theorem ti43_ok:TI.ok Try.prog 43 ti43:=⟨Try.underlying43,by kernel_rfl⟩
def ti44:TI:={ desc:=TypeDesc.func #[24,9] #[4] false,size:=1,bytes:=8,zero:=Value.nilFunc }
theorem ti44_ok:TI.ok Try.prog 44 ti44:=⟨Try.underlying44,by kernel_rfl⟩
def ti46 : TI := { desc := TypeDesc.struct #[{ name := "Yarn", type := 5, offset := 0, embedded := false, tag := "", pkgPath := "", byteOffset := 0 }, { name := "N", type := 3, offset := 1, embedded := false, tag := "", pkgPath := "", byteOffset := 8 }], size := 2, bytes := 16, zero := Value.agg #[Value.int IntKind.u8 0, Value.int IntKind.i64 0] }
theorem ti46_ok:TI.ok Try.prog 46 ti46:=⟨Try.underlying46,by kernel_rfl⟩
def ti51:TI:={ desc:=TypeDesc.func #[38] #[5] false,size:=1,bytes:=8,zero:=Value.nilFunc }
theorem ti51_ok:TI.ok Try.prog 51 ti51:=⟨Try.underlying51,by kernel_rfl⟩
def ti53:TI:={ desc:=TypeDesc.func #[38] #[4] false,size:=1,bytes:=8,zero:=Value.nilFunc }
theorem ti53_ok:TI.ok Try.prog 53 ti53:=⟨Try.underlying53,by kernel_rfl⟩
def ti57:TI:={ desc:=TypeDesc.pointer 59,size:=1,bytes:=8,zero:=Value.pointer none }
theorem ti57_ok:TI.ok Try.prog 57 ti57:=⟨Try.underlying57,by kernel_rfl⟩
def ti58 : TI := { desc := TypeDesc.struct #[{ name := "addr", type := 57, offset := 0, embedded := false, tag := "", pkgPath := "strings", byteOffset := 0 }, { name := "buf", type := 22, offset := 1, embedded := false, tag := "", pkgPath := "strings", byteOffset := 8 }], size := 2, bytes := 32, zero := Value.agg #[Value.pointer none, Value.slice none 0 0] }
theorem ti58_ok:TI.ok Try.prog 58 ti58:=⟨Try.underlying58,by kernel_rfl⟩
def ti59 : TI := { desc := TypeDesc.struct #[{ name := "addr", type := 57, offset := 0, embedded := false, tag := "", pkgPath := "strings", byteOffset := 0 }, { name := "buf", type := 22, offset := 1, embedded := false, tag := "", pkgPath := "strings", byteOffset := 8 }], size := 2, bytes := 32, zero := Value.agg #[Value.pointer none, Value.slice none 0 0] }
theorem ti59_ok:TI.ok Try.prog 59 ti59:=⟨Try.underlying59,by kernel_rfl⟩
def ti61:TI:={ desc:=TypeDesc.func #[74] #[] false,size:=1,bytes:=8,zero:=Value.nilFunc }
theorem ti61_ok:TI.ok Try.prog 61 ti61:=⟨Try.underlying61,by kernel_rfl⟩
def ti64 : TI := { desc := TypeDesc.interface #[("Error", 66)], size := 1, bytes := 16, zero := Value.nilIface }
theorem ti64_ok:TI.ok Try.prog 64 ti64:=⟨Try.underlying64,by kernel_rfl⟩
def ti65:TI:={ desc:=TypeDesc.func #[5] #[64] false,size:=1,bytes:=8,zero:=Value.nilFunc }
theorem ti65_ok:TI.ok Try.prog 65 ti65:=⟨Try.underlying65,by kernel_rfl⟩
def ti69:TI:={ desc:=TypeDesc.func #[38,38] #[4] false,size:=1,bytes:=8,zero:=Value.nilFunc }
theorem ti69_ok:TI.ok Try.prog 69 ti69:=⟨Try.underlying69,by kernel_rfl⟩
def ti70:TI:={ desc:=TypeDesc.func #[34,34] #[4] false,size:=1,bytes:=8,zero:=Value.nilFunc }
theorem ti70_ok:TI.ok Try.prog 70 ti70:=⟨Try.underlying70,by kernel_rfl⟩
def ti74:TI:={ desc:=TypeDesc.func #[3,34] #[4] false,size:=1,bytes:=8,zero:=Value.nilFunc }
theorem ti74_ok:TI.ok Try.prog 74 ti74:=⟨Try.underlying74,by kernel_rfl⟩
def ti75:TI:={ desc:=TypeDesc.pointer 5,size:=1,bytes:=8,zero:=Value.pointer none }
theorem ti75_ok:TI.ok Try.prog 75 ti75:=⟨Try.underlying75,by kernel_rfl⟩
def ti76:TI:={ desc:=TypeDesc.slice 82,size:=1,bytes:=24,zero:=Value.slice none 0 0 }
theorem ti76_ok:TI.ok Try.prog 76 ti76:=⟨Try.underlying76,by kernel_rfl⟩
def ti79:TI:={ desc:=TypeDesc.unsafePointer,size:=1,bytes:=8,zero:=Value.pointer none }
theorem ti79_ok:TI.ok Try.prog 79 ti79:=⟨Try.underlying79,by kernel_rfl⟩
def ti82:TI:={ desc:=TypeDesc.slice 3,size:=1,bytes:=24,zero:=Value.slice none 0 0 }
theorem ti82_ok:TI.ok Try.prog 82 ti82:=⟨Try.underlying82,by kernel_rfl⟩
def ti84:TI:={ desc:=TypeDesc.func #[38] #[3] false,size:=1,bytes:=8,zero:=Value.nilFunc }
theorem ti84_ok:TI.ok Try.prog 84 ti84:=⟨Try.underlying84,by kernel_rfl⟩
def ti92:TI:={ desc:=TypeDesc.array 0 16,size:=0,bytes:=0,zero:=Value.agg #[] }
theorem ti92_ok:TI.ok Try.prog 92 ti92:=⟨Try.underlying92,by kernel_rfl⟩
def ti96:TI:={ desc:=TypeDesc.int IntKind.u32,size:=1,bytes:=4,zero:=Value.int IntKind.u32 0 }
theorem ti96_ok:TI.ok Try.prog 96 ti96:=⟨Try.underlying96,by kernel_rfl⟩
def ti97:TI:={ desc:=TypeDesc.int IntKind.u8,size:=1,bytes:=1,zero:=Value.int IntKind.u8 0 }
theorem ti97_ok:TI.ok Try.prog 97 ti97:=⟨Try.underlying97,by kernel_rfl⟩
def ti98:TI:={ desc:=TypeDesc.int IntKind.u8,size:=1,bytes:=1,zero:=Value.int IntKind.u8 0 }
theorem ti98_ok:TI.ok Try.prog 98 ti98:=⟨Try.underlying98,by kernel_rfl⟩
def ti99:TI:={ desc:=TypeDesc.func #[79,79] #[4] false,size:=1,bytes:=8,zero:=Value.nilFunc }
theorem ti99_ok:TI.ok Try.prog 99 ti99:=⟨Try.underlying99,by kernel_rfl⟩
def ti100:TI:={ desc:=TypeDesc.int IntKind.i32,size:=1,bytes:=4,zero:=Value.int IntKind.i32 0 }
theorem ti100_ok:TI.ok Try.prog 100 ti100:=⟨Try.underlying100,by kernel_rfl⟩
def ti101:TI:={ desc:=TypeDesc.int IntKind.i32,size:=1,bytes:=4,zero:=Value.int IntKind.i32 0 }
theorem ti101_ok:TI.ok Try.prog 101 ti101:=⟨Try.underlying101,by kernel_rfl⟩
def ti103 : TI := { desc := TypeDesc.struct #[{ name := "Size_", type := 12, offset := 0, embedded := false, tag := "", pkgPath := "", byteOffset := 0 }, { name := "PtrBytes", type := 12, offset := 1, embedded := false, tag := "", pkgPath := "", byteOffset := 8 }, { name := "Hash", type := 96, offset := 2, embedded := false, tag := "", pkgPath := "", byteOffset := 16 }, { name := "TFlag", type := 97, offset := 3, embedded := false, tag := "", pkgPath := "", byteOffset := 20 }, { name := "Align_", type := 5, offset := 4, embedded := false, tag := "", pkgPath := "", byteOffset := 21 }, { name := "FieldAlign_", type := 5, offset := 5, embedded := false, tag := "", pkgPath := "", byteOffset := 22 }, { name := "Kind_", type := 98, offset := 6, embedded := false, tag := "", pkgPath := "", byteOffset := 23 }, { name := "Equal", type := 99, offset := 7, embedded := false, tag := "", pkgPath := "", byteOffset := 24 }, { name := "GCData", type := 75, offset := 8, embedded := false, tag := "", pkgPath := "", byteOffset := 32 }, { name := "Str", type := 100, offset := 9, embedded := false, tag := "", pkgPath := "", byteOffset := 40 }, { name := "PtrToThis", type := 101, offset := 10, embedded := false, tag := "", pkgPath := "", byteOffset := 44 }], size := 11, bytes := 48, zero := Value.agg #[Value.int IntKind.u64 0, Value.int IntKind.u64 0, Value.int IntKind.u32 0, Value.int IntKind.u8 0, Value.int IntKind.u8 0, Value.int IntKind.u8 0, Value.int IntKind.u8 0, Value.nilFunc, Value.pointer none, Value.int IntKind.i32 0, Value.int IntKind.i32 0] }
theorem ti103_ok:TI.ok Try.prog 103 ti103:=⟨Try.underlying103,by kernel_rfl⟩
def tab:List (TypeId×TI):=[(1,ti1),(2,ti2),(3,ti3),(4,ti4),(5,ti5),(6,ti6),(9,ti9),(10,ti10),(11,ti11),(12,ti12),(15,ti15),(16,ti16),(17,ti17),(20,ti20),(21,ti21),(22,ti22),(23,ti23),(24,ti24),(25,ti25),(26,ti26),(27,ti27),(28,ti28),(29,ti29),(30,ti30),(31,ti31),(32,ti32),(33,ti33),(34,ti34),(35,ti35),(36,ti36),(37,ti37),(38,ti38),(39,ti39),(41,ti41),(42,ti42),(43,ti43),(44,ti44),(46,ti46),(51,ti51),(53,ti53),(57,ti57),(58,ti58),(59,ti59),(61,ti61),(64,ti64),(65,ti65),(69,ti69),(70,ti70),(74,ti74),(75,ti75),(76,ti76),(79,ti79),(82,ti82),(84,ti84),(92,ti92),(96,ti96),(97,ti97),(98,ti98),(99,ti99),(100,ti100),(101,ti101),(103,ti103)]
theorem tab_ok:TabOk Try.prog tab:=TabOk.cons ti1_ok (TabOk.cons ti2_ok (TabOk.cons ti3_ok (TabOk.cons ti4_ok (TabOk.cons ti5_ok (TabOk.cons ti6_ok (TabOk.cons ti9_ok (TabOk.cons ti10_ok (TabOk.cons ti11_ok (TabOk.cons ti12_ok (TabOk.cons ti15_ok (TabOk.cons ti16_ok (TabOk.cons ti17_ok (TabOk.cons ti20_ok (TabOk.cons ti21_ok (TabOk.cons ti22_ok (TabOk.cons ti23_ok (TabOk.cons ti24_ok (TabOk.cons ti25_ok (TabOk.cons ti26_ok (TabOk.cons ti27_ok (TabOk.cons ti28_ok (TabOk.cons ti29_ok (TabOk.cons ti30_ok (TabOk.cons ti31_ok (TabOk.cons ti32_ok (TabOk.cons ti33_ok (TabOk.cons ti34_ok (TabOk.cons ti35_ok (TabOk.cons ti36_ok (TabOk.cons ti37_ok (TabOk.cons ti38_ok (TabOk.cons ti39_ok (TabOk.cons ti41_ok (TabOk.cons ti42_ok (TabOk.cons ti43_ok (TabOk.cons ti44_ok (TabOk.cons ti46_ok (TabOk.cons ti51_ok (TabOk.cons ti53_ok (TabOk.cons ti57_ok (TabOk.cons ti58_ok (TabOk.cons ti59_ok (TabOk.cons ti61_ok (TabOk.cons ti64_ok (TabOk.cons ti65_ok (TabOk.cons ti69_ok (TabOk.cons ti70_ok (TabOk.cons ti74_ok (TabOk.cons ti75_ok (TabOk.cons ti76_ok (TabOk.cons ti79_ok (TabOk.cons ti82_ok (TabOk.cons ti84_ok (TabOk.cons ti92_ok (TabOk.cons ti96_ok (TabOk.cons ti97_ok (TabOk.cons ti98_ok (TabOk.cons ti99_ok (TabOk.cons ti100_ok (TabOk.cons ti101_ok (TabOk.cons ti103_ok (TabOk.nil _))))))))))))))))))))))))))))))))))))))))))))))))))))))))))))))
end Go.Proofs.Yteglgnkcpaagjaa

/- The table of types as a tree. -/
namespace Go.Proofs.Yteglgnkcpaagjaa
def te1:TE:=⟨ti1,none⟩
theorem te1_ok:TE.ok Try.prog 1 te1:=⟨ti1_ok,fun g hg=>by cases hg⟩
def te2:TE:=⟨ti2,some (.int .i64)⟩
theorem te2_ok:TE.ok Try.prog 2 te2:=⟨ti2_ok,fun g hg=>by cases hg; exact ⟨rfl,rfl,by decide⟩⟩
def te3:TE:=⟨ti3,some (.int .i64)⟩
theorem te3_ok:TE.ok Try.prog 3 te3:=⟨ti3_ok,fun g hg=>by cases hg; exact ⟨rfl,rfl,by decide⟩⟩
def te4:TE:=⟨ti4,some (.bool)⟩
theorem te4_ok:TE.ok Try.prog 4 te4:=⟨ti4_ok,fun g hg=>by cases hg; exact ⟨rfl,rfl,by decide⟩⟩
def te5:TE:=⟨ti5,some (.int .u8)⟩
theorem te5_ok:TE.ok Try.prog 5 te5:=⟨ti5_ok,fun g hg=>by cases hg; exact ⟨rfl,rfl,by decide⟩⟩
def te6:TE:=⟨ti6,some (.int .u8)⟩
theorem te6_ok:TE.ok Try.prog 6 te6:=⟨ti6_ok,fun g hg=>by cases hg; exact ⟨rfl,rfl,by decide⟩⟩
def te9:TE:=⟨ti9,some (.str)⟩
theorem te9_ok:TE.ok Try.prog 9 te9:=⟨ti9_ok,fun g hg=>by cases hg; exact ⟨rfl,rfl,by decide⟩⟩
def te10:TE:=⟨ti10,some (.str)⟩
theorem te10_ok:TE.ok Try.prog 10 te10:=⟨ti10_ok,fun g hg=>by cases hg; exact ⟨rfl,rfl,by decide⟩⟩
def te11:TE:=⟨ti11,some (.str)⟩
theorem te11_ok:TE.ok Try.prog 11 te11:=⟨ti11_ok,fun g hg=>by cases hg; exact ⟨rfl,rfl,by decide⟩⟩
def te12:TE:=⟨ti12,some (.int .u64)⟩
theorem te12_ok:TE.ok Try.prog 12 te12:=⟨ti12_ok,fun g hg=>by cases hg; exact ⟨rfl,rfl,by decide⟩⟩
def te15:TE:=⟨ti15,none⟩
theorem te15_ok:TE.ok Try.prog 15 te15:=⟨ti15_ok,fun g hg=>by cases hg⟩
def te16:TE:=⟨ti16,none⟩
theorem te16_ok:TE.ok Try.prog 16 te16:=⟨ti16_ok,fun g hg=>by cases hg⟩
def te17:TE:=⟨ti17,none⟩
theorem te17_ok:TE.ok Try.prog 17 te17:=⟨ti17_ok,fun g hg=>by cases hg⟩
def te20:TE:=⟨ti20,none⟩
theorem te20_ok:TE.ok Try.prog 20 te20:=⟨ti20_ok,fun g hg=>by cases hg⟩
def te21:TE:=⟨ti21,some (.int .i32)⟩
theorem te21_ok:TE.ok Try.prog 21 te21:=⟨ti21_ok,fun g hg=>by cases hg; exact ⟨rfl,rfl,by decide⟩⟩
def te22:TE:=⟨ti22,some (.sl (.int .u8))⟩
theorem te22_ok:TE.ok Try.prog 22 te22:=⟨ti22_ok,fun g hg=>by cases hg; exact ⟨rfl,rfl,by decide⟩⟩
def te23:TE:=⟨ti23,some (.pair (.int .u8) (.pair (.int .u8) (.sl (.int .u8))))⟩
theorem te23_ok:TE.ok Try.prog 23 te23:=⟨ti23_ok,fun g hg=>by cases hg; exact ⟨rfl,rfl,by decide⟩⟩
def te24:TE:=⟨ti24,some (.pair (.int .u8) (.pair (.int .u8) (.sl (.int .u8))))⟩
theorem te24_ok:TE.ok Try.prog 24 te24:=⟨ti24_ok,fun g hg=>by cases hg; exact ⟨rfl,rfl,by decide⟩⟩
def te25:TE:=⟨ti25,none⟩
theorem te25_ok:TE.ok Try.prog 25 te25:=⟨ti25_ok,fun g hg=>by cases hg⟩
def te26:TE:=⟨ti26,some (.sl (.sl (.pair (.int .u8) (.pair (.int .u8) (.pair (.int .i64) (.pair (.int .i64) (.bool)))))))⟩
theorem te26_ok:TE.ok Try.prog 26 te26:=⟨ti26_ok,fun g hg=>by cases hg; exact ⟨rfl,rfl,by decide⟩⟩
def te27:TE:=⟨ti27,some (.sl (.sl (.pair (.int .u8) (.pair (.int .u8) (.pair (.int .i64) (.pair (.int .i64) (.bool)))))))⟩
theorem te27_ok:TE.ok Try.prog 27 te27:=⟨ti27_ok,fun g hg=>by cases hg; exact ⟨rfl,rfl,by decide⟩⟩
def te28:TE:=⟨ti28,some (.sl (.sl (.pair (.int .u8) (.pair (.int .u8) (.pair (.int .i64) (.pair (.int .i64) (.bool)))))))⟩
theorem te28_ok:TE.ok Try.prog 28 te28:=⟨ti28_ok,fun g hg=>by cases hg; exact ⟨rfl,rfl,by decide⟩⟩
def te29:TE:=⟨ti29,none⟩
theorem te29_ok:TE.ok Try.prog 29 te29:=⟨ti29_ok,fun g hg=>by cases hg⟩
def te30:TE:=⟨ti30,some (.sl (.csl (.int .u8)))⟩
theorem te30_ok:TE.ok Try.prog 30 te30:=⟨ti30_ok,fun g hg=>by cases hg; exact ⟨rfl,rfl,by decide⟩⟩
def te31:TE:=⟨ti31,none⟩
theorem te31_ok:TE.ok Try.prog 31 te31:=⟨ti31_ok,fun g hg=>by cases hg⟩
def te32:TE:=⟨ti32,some (.sl (.csl (.bool)))⟩
theorem te32_ok:TE.ok Try.prog 32 te32:=⟨ti32_ok,fun g hg=>by cases hg; exact ⟨rfl,rfl,by decide⟩⟩
def te33:TE:=⟨ti33,none⟩
theorem te33_ok:TE.ok Try.prog 33 te33:=⟨ti33_ok,fun g hg=>by cases hg⟩
def te34:TE:=⟨ti34,some (.sl (.pair (.int .u8) (.pair (.int .u8) (.pair (.int .i64) (.pair (.int .i64) (.bool))))))⟩
theorem te34_ok:TE.ok Try.prog 34 te34:=⟨ti34_ok,fun g hg=>by cases hg; exact ⟨rfl,rfl,by decide⟩⟩
def te35:TE:=⟨ti35,some (.sl (.bool))⟩
theorem te35_ok:TE.ok Try.prog 35 te35:=⟨ti35_ok,fun g hg=>by cases hg; exact ⟨rfl,rfl,by decide⟩⟩
def te36:TE:=⟨ti36,some (.int .u8)⟩
theorem te36_ok:TE.ok Try.prog 36 te36:=⟨ti36_ok,fun g hg=>by cases hg; exact ⟨rfl,rfl,by decide⟩⟩
def te37:TE:=⟨ti37,some (.pair (.int .u8) (.pair (.int .u8) (.pair (.int .i64) (.pair (.int .i64) (.bool)))))⟩
theorem te37_ok:TE.ok Try.prog 37 te37:=⟨ti37_ok,fun g hg=>by cases hg; exact ⟨rfl,rfl,by decide⟩⟩
def te38:TE:=⟨ti38,some (.pair (.int .u8) (.pair (.int .u8) (.pair (.int .i64) (.pair (.int .i64) (.bool)))))⟩
theorem te38_ok:TE.ok Try.prog 38 te38:=⟨ti38_ok,fun g hg=>by cases hg; exact ⟨rfl,rfl,by decide⟩⟩
def te39:TE:=⟨ti39,some (.int .i64)⟩
theorem te39_ok:TE.ok Try.prog 39 te39:=⟨ti39_ok,fun g hg=>by cases hg; exact ⟨rfl,rfl,by decide⟩⟩
def te41:TE:=⟨ti41,none⟩
theorem te41_ok:TE.ok Try.prog 41 te41:=⟨ti41_ok,fun g hg=>by cases hg⟩
def te42:TE:=⟨ti42,none⟩
theorem te42_ok:TE.ok Try.prog 42 te42:=⟨ti42_ok,fun g hg=>by cases hg⟩
def te43:TE:=⟨ti43,none⟩
theorem te43_ok:TE.ok Try.prog 43 te43:=⟨ti43_ok,fun g hg=>by cases hg⟩
def te44:TE:=⟨ti44,none⟩
theorem te44_ok:TE.ok Try.prog 44 te44:=⟨ti44_ok,fun g hg=>by cases hg⟩
def te46:TE:=⟨ti46,some (.pair (.int .u8) (.int .i64))⟩
theorem te46_ok:TE.ok Try.prog 46 te46:=⟨ti46_ok,fun g hg=>by cases hg; exact ⟨rfl,rfl,by decide⟩⟩
def te51:TE:=⟨ti51,none⟩
theorem te51_ok:TE.ok Try.prog 51 te51:=⟨ti51_ok,fun g hg=>by cases hg⟩
def te53:TE:=⟨ti53,none⟩
theorem te53_ok:TE.ok Try.prog 53 te53:=⟨ti53_ok,fun g hg=>by cases hg⟩
def te57:TE:=⟨ti57,none⟩
theorem te57_ok:TE.ok Try.prog 57 te57:=⟨ti57_ok,fun g hg=>by cases hg⟩
def te58:TE:=⟨ti58,none⟩
theorem te58_ok:TE.ok Try.prog 58 te58:=⟨ti58_ok,fun g hg=>by cases hg⟩
def te59:TE:=⟨ti59,none⟩
theorem te59_ok:TE.ok Try.prog 59 te59:=⟨ti59_ok,fun g hg=>by cases hg⟩
def te61:TE:=⟨ti61,none⟩
theorem te61_ok:TE.ok Try.prog 61 te61:=⟨ti61_ok,fun g hg=>by cases hg⟩
def te64:TE:=⟨ti64,none⟩
theorem te64_ok:TE.ok Try.prog 64 te64:=⟨ti64_ok,fun g hg=>by cases hg⟩
def te65:TE:=⟨ti65,none⟩
theorem te65_ok:TE.ok Try.prog 65 te65:=⟨ti65_ok,fun g hg=>by cases hg⟩
def te69:TE:=⟨ti69,none⟩
theorem te69_ok:TE.ok Try.prog 69 te69:=⟨ti69_ok,fun g hg=>by cases hg⟩
def te70:TE:=⟨ti70,none⟩
theorem te70_ok:TE.ok Try.prog 70 te70:=⟨ti70_ok,fun g hg=>by cases hg⟩
def te74:TE:=⟨ti74,none⟩
theorem te74_ok:TE.ok Try.prog 74 te74:=⟨ti74_ok,fun g hg=>by cases hg⟩
def te75:TE:=⟨ti75,none⟩
theorem te75_ok:TE.ok Try.prog 75 te75:=⟨ti75_ok,fun g hg=>by cases hg⟩
def te76:TE:=⟨ti76,some (.sl (.sl (.int .i64)))⟩
theorem te76_ok:TE.ok Try.prog 76 te76:=⟨ti76_ok,fun g hg=>by cases hg; exact ⟨rfl,rfl,by decide⟩⟩
def te79:TE:=⟨ti79,none⟩
theorem te79_ok:TE.ok Try.prog 79 te79:=⟨ti79_ok,fun g hg=>by cases hg⟩
def te82:TE:=⟨ti82,some (.sl (.int .i64))⟩
theorem te82_ok:TE.ok Try.prog 82 te82:=⟨ti82_ok,fun g hg=>by cases hg; exact ⟨rfl,rfl,by decide⟩⟩
def te84:TE:=⟨ti84,none⟩
theorem te84_ok:TE.ok Try.prog 84 te84:=⟨ti84_ok,fun g hg=>by cases hg⟩
def te92:TE:=⟨ti92,none⟩
theorem te92_ok:TE.ok Try.prog 92 te92:=⟨ti92_ok,fun g hg=>by cases hg⟩
def te96:TE:=⟨ti96,some (.int .u32)⟩
theorem te96_ok:TE.ok Try.prog 96 te96:=⟨ti96_ok,fun g hg=>by cases hg; exact ⟨rfl,rfl,by decide⟩⟩
def te97:TE:=⟨ti97,some (.int .u8)⟩
theorem te97_ok:TE.ok Try.prog 97 te97:=⟨ti97_ok,fun g hg=>by cases hg; exact ⟨rfl,rfl,by decide⟩⟩
def te98:TE:=⟨ti98,some (.int .u8)⟩
theorem te98_ok:TE.ok Try.prog 98 te98:=⟨ti98_ok,fun g hg=>by cases hg; exact ⟨rfl,rfl,by decide⟩⟩
def te99:TE:=⟨ti99,none⟩
theorem te99_ok:TE.ok Try.prog 99 te99:=⟨ti99_ok,fun g hg=>by cases hg⟩
def te100:TE:=⟨ti100,some (.int .i32)⟩
theorem te100_ok:TE.ok Try.prog 100 te100:=⟨ti100_ok,fun g hg=>by cases hg; exact ⟨rfl,rfl,by decide⟩⟩
def te101:TE:=⟨ti101,some (.int .i32)⟩
theorem te101_ok:TE.ok Try.prog 101 te101:=⟨ti101_ok,fun g hg=>by cases hg; exact ⟨rfl,rfl,by decide⟩⟩
def te103:TE:=⟨ti103,none⟩
theorem te103_ok:TE.ok Try.prog 103 te103:=⟨ti103_ok,fun g hg=>by cases hg⟩
def tt:TT:=(.node (.node (.node (.node (.node (.node .leaf 1 te1 .leaf) 2 te2 (.node .leaf 3 te3 .leaf)) 4 te4 (.node (.node .leaf 5 te5 .leaf) 6 te6 (.node .leaf 9 te9 .leaf))) 10 te10 (.node (.node (.node .leaf 11 te11 .leaf) 12 te12 (.node .leaf 15 te15 .leaf)) 16 te16 (.node (.node .leaf 17 te17 .leaf) 20 te20 (.node .leaf 21 te21 .leaf)))) 22 te22 (.node (.node (.node (.node .leaf 23 te23 .leaf) 24 te24 (.node .leaf 25 te25 .leaf)) 26 te26 (.node (.node .leaf 27 te27 .leaf) 28 te28 (.node .leaf 29 te29 .leaf))) 30 te30 (.node (.node (.node .leaf 31 te31 .leaf) 32 te32 (.node .leaf 33 te33 .leaf)) 34 te34 (.node (.node .leaf 35 te35 .leaf) 36 te36 (.node .leaf 37 te37 .leaf))))) 38 te38 (.node (.node (.node (.node (.node .leaf 39 te39 .leaf) 41 te41 (.node .leaf 42 te42 .leaf)) 43 te43 (.node (.node .leaf 44 te44 .leaf) 46 te46 (.node .leaf 51 te51 .leaf))) 53 te53 (.node (.node (.node .leaf 57 te57 .leaf) 58 te58 (.node .leaf 59 te59 .leaf)) 61 te61 (.node (.node .leaf 64 te64 .leaf) 65 te65 (.node .leaf 69 te69 .leaf)))) 70 te70 (.node (.node (.node (.node .leaf 74 te74 .leaf) 75 te75 (.node .leaf 76 te76 .leaf)) 79 te79 (.node (.node .leaf 82 te82 .leaf) 84 te84 (.node .leaf 92 te92 .leaf))) 96 te96 (.node (.node (.node .leaf 97 te97 .leaf) 98 te98 (.node .leaf 99 te99 .leaf)) 100 te100 (.node (.node .leaf 101 te101 .leaf) 103 te103 .leaf)))))
theorem tt_ok:tt.ok Try.prog:=⟨⟨⟨⟨⟨⟨trivial,te1_ok,trivial⟩,te2_ok,⟨trivial,te3_ok,trivial⟩⟩,te4_ok,⟨⟨trivial,te5_ok,trivial⟩,te6_ok,⟨trivial,te9_ok,trivial⟩⟩⟩,te10_ok,⟨⟨⟨trivial,te11_ok,trivial⟩,te12_ok,⟨trivial,te15_ok,trivial⟩⟩,te16_ok,⟨⟨trivial,te17_ok,trivial⟩,te20_ok,⟨trivial,te21_ok,trivial⟩⟩⟩⟩,te22_ok,⟨⟨⟨⟨trivial,te23_ok,trivial⟩,te24_ok,⟨trivial,te25_ok,trivial⟩⟩,te26_ok,⟨⟨trivial,te27_ok,trivial⟩,te28_ok,⟨trivial,te29_ok,trivial⟩⟩⟩,te30_ok,⟨⟨⟨trivial,te31_ok,trivial⟩,te32_ok,⟨trivial,te33_ok,trivial⟩⟩,te34_ok,⟨⟨trivial,te35_ok,trivial⟩,te36_ok,⟨trivial,te37_ok,trivial⟩⟩⟩⟩⟩,te38_ok,⟨⟨⟨⟨⟨trivial,te39_ok,trivial⟩,te41_ok,⟨trivial,te42_ok,trivial⟩⟩,te43_ok,⟨⟨trivial,te44_ok,trivial⟩,te46_ok,⟨trivial,te51_ok,trivial⟩⟩⟩,te53_ok,⟨⟨⟨trivial,te57_ok,trivial⟩,te58_ok,⟨trivial,te59_ok,trivial⟩⟩,te61_ok,⟨⟨trivial,te64_ok,trivial⟩,te65_ok,⟨trivial,te69_ok,trivial⟩⟩⟩⟩,te70_ok,⟨⟨⟨⟨trivial,te74_ok,trivial⟩,te75_ok,⟨trivial,te76_ok,trivial⟩⟩,te79_ok,⟨⟨trivial,te82_ok,trivial⟩,te84_ok,⟨trivial,te92_ok,trivial⟩⟩⟩,te96_ok,⟨⟨⟨trivial,te97_ok,trivial⟩,te98_ok,⟨trivial,te99_ok,trivial⟩⟩,te100_ok,⟨⟨trivial,te101_ok,trivial⟩,te103_ok,trivial⟩⟩⟩⟩⟩
end Go.Proofs.Yteglgnkcpaagjaa

/- The program, its types, its package-level variables. -/
namespace Go.Proofs.Yteglgnkcpaagjaa
open Go.RowKit
def glT:Nat→Option GL
  | _=>none
noncomputable def cx:Cx:=⟨Try.prog,tt,glT⟩
end Go.Proofs.Yteglgnkcpaagjaa

/- From a row's conditions to what the walks ask: arguments, package-level variables; back to the row. -/
namespace Go.Proofs.Yteglgnkcpaagjaa
open Go.ChangeShapes Go.WideShapes Go.ChangeAt Go.WideElems Go.RowKit
section
variable {H:Type} {enc:TypeId×Value→H} {P:Program} {W:World}
def DecOk (enc:TypeId×Value→H) (P:Program) (W:World) (t:TypeId) (g:GTy) (R:g.D→Prop):Prop:=
  ∀ k cs x,DataW.trod enc P W 0 (fun _=>true) true k t cs=some x→∃ y:g.D,R y∧FR (fun b=>b < W.heap.size) W g y cs
theorem dec_int {t:TypeId} {k:IntKind} (ht:P.underlying t=some (.int k)):DecOk enc P W t (.int k) (fun (y:Int)=>k.min≤y∧y≤k.max):=fun n cs x h=>by
  obtain ⟨z,rfl,_,hw⟩:=DataW.trod_int ht h;exact ⟨z,by simpa [Lit.wf] using hw,rfl⟩
theorem flat_sub {g:GTy} {R:g.D→Prop}:∀ l:List { p:g.D×List Value // R p.1∧FR (fun b=>b < W.heap.size) W g p.1 p.2 },Flat (FR (fun b=>b < W.heap.size) W g) (l.map (·.1.1)) (l.flatMap (·.1.2))
  | []=>rfl
  | x :: l=>⟨x.1.2,l.flatMap (·.1.2),rfl,x.2.2,flat_sub l⟩
theorem cell_lt {b o:Nat} {v:Value} (h:W.cell? ⟨b,o,none⟩=some v):b < W.heap.size:=by
  by_cases hb:b < W.heap.size
  · exact hb
  · simp [World.cell?,Array.getElem?_eq_none (by omega:W.heap.size≤b)] at h
end
theorem AC.law {X:Cx} {f:FuncId} {args:List SA} {vs:List Value} {W:World} (h:AC X f args [] (fun sv h=>sv=.c (.val (.bool true))∧h=[])) (hg:GlobOk X (fun b=>b < W.heap.size) W) (ha:SasR (fun _=>.no) (fun b=>b < W.heap.size) W args vs):Ret X.P f vs.toArray W (fun v w'=>v=.bool true∧Below W.heap.size W w'):=by
  refine (h (fun b=>b < W.heap.size) W (fun _=>.no) vs [] W hg ha rfl (SH.start W)).mono ?_;rintro v w' ⟨env',B',w0',H',sv,h',⟨rfl,rfl⟩,h1,h2,h3,h4,h5,h6,h7⟩;have hr:∀ k,k < W.heap.size→Rest W [] k:=fun k hk=>⟨hk,fun c hc=>by cases hc⟩
  exact ⟨h4,h6.below.os.trans h3.os,h6.below.tape.trans h3.tape,h6.below.output.trans h3.output,Nat.le_trans h3.size h6.below.size,fun k hk=>(h6.below.block k (.inl (hr k hk))).trans (h3.block k (hr k hk))⟩
end Go.Proofs.Yteglgnkcpaagjaa

/- What the walks printed by tr.py need: models of functions in Option, and how a walk follows them. -/
namespace Go.Proofs.Yteglgnkcpaagjaa
open Go.RowKit
def gd {α:Type} (c:Bool) (k:Option α):Option α:=match c with
  | true=>k
  | false=>none
theorem gd_some {α:Type} {c:Bool} {k:Option α} {r:α} (h:gd c k=some r):c=true∧k=some r:=by
  cases c with
  | true=>exact ⟨rfl,h⟩
  | false=>cases h
theorem bd {α β:Type} {x:Option α} {f:α→Option β} {r:β} (h:x.bind f=some r):∃ a,x=some a∧f a=some r:=by
  cases x with
  | none=>cases h
  | some a=>exact ⟨a,rfl,h⟩
theorem cond_t {α:Type} {b:Bool} {x y z:α} (hb:b=true) (h:cond b x y=z):x=z:=by rw [hb] at h; exact h
theorem cond_f {α:Type} {b:Bool} {x y z:α} (hb:b=false) (h:cond b x y=z):y=z:=by rw [hb] at h; exact h
abbrev sm {α β γ:Type} (x:α⊕β) (f:α→Option γ) (g:β→Option γ):Option γ:=match x with
  | .inl a=>f a
  | .inr b=>g b
def nocapH (id:Nat):Hp→Hp
  | []=>[]
  | (j,.row t g l c) :: r=>match Nat.beq j id with
    | true=>(j,.row t g l none) :: r
    | false=>(j,.row t g l c) :: nocapH id r
  | b :: r=>b :: nocapH id r
section
variable {X:Cx} {M:Bool} {n:Nat} {r:Option Nat} {c:Code} {st:ASt} {Q:Exit→ASt→Prop}
theorem Wk.conv {s:Nat} {sv:SV} (sv':SV) (hs:lk st.L s=some sv) (hV:∀ env B w v,VR env B w sv v→VR env B w sv' v):Wk X n st ⟨(s,sv') :: st.L,st.H⟩:=fun R W Bi M a w ⟨ks,env,B,w0,H,hM,h⟩=>
  ⟨ks,env,B,w0,H,hM,h.size,h.defs,fun q u hu=>by
    rw [lk_cons] at hu
    split at hu
    · rename_i e
      subst e;cases hu;obtain ⟨v,h1,h2⟩:=h.has _ _ hs;exact ⟨v,h1,hV _ _ _ _ h2⟩
    · exact h.has q u hu,h.heap,h.sh,h.sub,h.new,h.pin,h.base,h.glob⟩
theorem HR.nocap {env:Nat→Loc} {B:Nat→Prop} {w:World} (id:Nat):∀ {l:Hp} {H:List Ck},HR env B w l H→HR env B w (nocapH id l) H
  | [],_,h=>h
  | (j,.row t g l c) :: r,_,⟨k,H',e,h1,h2⟩=>by
    unfold nocapH
    split
    · obtain ⟨A,q,xs,h3,h4,h5,h6⟩:=h1
      exact ⟨k,H',e,⟨A,q,xs,h3,h4,h5,fun _ h=>by cases h⟩,h2⟩
    · exact ⟨k,H',e,h1,HR.nocap id h2⟩
  | (j,.cells _ _) :: r,_,⟨k,H',e,h1,h2⟩=>⟨k,H',e,h1,HR.nocap id h2⟩
  | (j,.sit _ _) :: r,_,⟨k,H',e,h1,h2⟩=>⟨k,H',e,h1,HR.nocap id h2⟩
  | (j,.mp _ _ _ _) :: r,_,⟨k,H',e,h1,h2⟩=>⟨k,H',e,h1,HR.nocap id h2⟩
  | (j,.it _ _ _ _) :: r,_,⟨k,H',e,h1,h2⟩=>⟨k,H',e,h1,HR.nocap id h2⟩
  | (j,.junk) :: r,_,⟨k,H',e,h1,h2⟩=>⟨k,H',e,h1,HR.nocap id h2⟩
  | (j,.hrow _ _ _ _ _ _ _) :: r,_,⟨k,H',e,h1,h2⟩=>⟨k,H',e,h1,HR.nocap id h2⟩
  | (j,.rjunk) :: r,_,⟨k,H',e,h1,h2⟩=>⟨k,H',e,h1,HR.nocap id h2⟩
  | (j,.lrow _ _ _) :: r,_,⟨k,H',e,h1,h2⟩=>⟨k,H',e,h1,HR.nocap id h2⟩
theorem Wk.rowcap (id:Nat) {st':ASt} (h:st'=⟨st.L,nocapH id st.H⟩):Wk X n st st':=fun R W Bi M a w ⟨ks,env,B,w0,H,hM,hA⟩=>by
  subst h;exact ⟨ks,env,B,w0,H,hM,hA.size,hA.defs,hA.has,HR.nocap id hA.heap,hA.sh,hA.sub,hA.new,hA.pin,hA.base,hA.glob⟩
end
theorem CsR.data {env:Nat→Loc} {B:Nat→Prop} {w:World} {g:GTy} {cs cs':List SC} {x:g.D} {c:Bool} {vs:List Value} (h1:CsR env B w cs vs) (hd:dec g cs=some (c,x,[])) (hc:c=true) (hg:gcells g x 0 g.size=some cs'):CsR env B w cs' vs:=by
  obtain ⟨v1,v2,e2,hf,h2⟩:=dec_ok h1 hd hc;have h4:v2=[]:=h2;subst h4;rw [List.append_nil] at e2;subst e2;obtain ⟨us,⟨hl,hp⟩,h3⟩:=FR.cells hf hg;have hvl:=FR.length hf;have hus:us=vs:=by
    apply List.ext_getElem?
    intro j;cases hj:us[j]? with
    | some u=>
      have:=hp j u hj
      rw [Nat.zero_add] at this;exact this.symm
    | none=>
      rw [List.getElem?_eq_none_iff] at hj;exact (List.getElem?_eq_none_iff.2 (by omega)).symm
  subst hus;exact h3
theorem Wk.data {X:Cx} {n:Nat} {st:ASt} (s:Nat) (g:GTy) {cs cs':List SC} {x:g.D} {c:Bool} (hs:lk st.L s=some (.a (.agg cs))) (hd:dec g cs=some (c,x,[])) (hc:c=true) (hg:gcells g x 0 g.size=some cs'):Wk X n st ⟨(s,.a (.agg cs')) :: st.L,st.H⟩:=Wk.conv _ hs fun env B w v ⟨vs,e,h1⟩=>⟨vs,e,h1.data hd hc hg⟩
theorem Wk.dataB {X:Cx} {n:Nat} {st:ASt} (id:Nat) (g:GTy) {t:TypeId} {cs cs':List SC} {x:g.D} {c:Bool} (hs:lk st.H id=some (.cells t cs)) (hd:dec g cs=some (c,x,[])) (hc:c=true) (hg:gcells g x 0 g.size=some cs'):Wk X n st ⟨st.L,putH id (.cells t cs') st.H⟩:=fun R W Bi M a w ⟨ks,env,B,w0,H,hM,h⟩=>by
  obtain ⟨ck,K,⟨b,vs,he,e,hcs⟩,⟨Y,Z,h1,h2⟩,h3⟩:=h.setBlk (b':=.cells t cs') hs;obtain ⟨H',h4⟩:=h3 ck a w ⟨b,vs,he,e,hcs.data hd hc hg⟩ (by rw [h2]; dsimp only; rw [← h1]; exact h.sh) h.stt;exact ⟨ks,env,B,w0,H',hM,h4⟩
end Go.Proofs.Yteglgnkcpaagjaa

/- What the rows of laws need beyond L1. -/
namespace Go.Proofs.Yteglgnkcpaagjaa
open Go.ChangeShapes Go.WideShapes Go.ChangeAt Go.WideElems Go.RowKit
theorem Try.own:ownKnob Try.prog.godebug=none:=by kernel_rfl
theorem Try.laidOut:laidOutB Try.prog=true:=by kernel_rfl
end Go.Proofs.Yteglgnkcpaagjaa

/- Maps: making, looking up, setting. -/
namespace Go.Proofs.Yteglgnkcpaagjaa
open Go.RowKit
def GTy.beq:(g:GTy)→g.D→g.D→Bool
  | .int _=>fun (x:Int) (y:Int)=>x == y
  | .bool=>fun (x:Bool) (y:Bool)=>x == y
  | .str=>fun (x:List UInt8) (y:List UInt8)=>x == y
  | .pair g h=>fun x y=>g.beq x.1 y.1&&h.beq x.2 y.2
  | _=>fun _ _=>false
def vSA:(g:GTy)→g.D→Option SA
  | .pair a b,x=>(gcells (.pair a b) x 0 (a.size+b.size)).map .agg
  | g,x=>(gcell g x 0).map .c
section
variable {B:Nat→Prop} {w:World} {k:IntKind} {gv:GTy}
theorem VD.sa {env:Nat→Loc} {g:GTy} {x:g.D} {v:Value} {sa:SA} (h:VD B w g x v) (hs:vSA g x=some sa):SaR env B w sa v:=by
  have one:∀ {g:GTy} {x:g.D} {v:Value} {sa:SA},FR B w g x [v]→(gcell g x 0).map SA.c=some sa→SaR env B w sa v:=by
    intro g x v sa h hs;obtain ⟨c,hc,rfl⟩:=Option.map_eq_some_iff.1 hs;obtain ⟨u,h1,h2⟩:=FR.cell (env:=env) h hc;simp only [List.getElem?_cons_zero,Option.some.injEq] at h1;rw [h1];exact h2
  cases g with
  | pair a b=>
    obtain ⟨vs,e,h1⟩:=h;obtain ⟨l,hl,rfl⟩:=Option.map_eq_some_iff.1 (show (gcells (.pair a b) x 0 (a.size+b.size)).map SA.agg=some sa from hs);obtain ⟨us,⟨h2,h3⟩,h4⟩:=FR.cells (env:=env) h1 hl;have hlen:vs.length=a.size+b.size:=FR.length h1
    have:us=vs:=by
      apply List.ext_getElem?
      intro i
      by_cases hi:i < us.length
      · rw [List.getElem?_eq_getElem hi]
        have:=h3 i us[i] (List.getElem?_eq_getElem hi)
        rw [Nat.zero_add] at this;exact this.symm
      · rw [List.getElem?_eq_none (by omega),List.getElem?_eq_none (by omega)]
    subst this;exact ⟨us,e,h4⟩
  | _=>exact one h hs
end
section
variable {X:Cx} {M:Bool} {n:Nat} {r:Option Nat} {st:ASt} {Q:Exit→ASt→Prop} {ops rest:List Oper} {o:Oper} {d:Nat}
end
end Go.Proofs.Yteglgnkcpaagjaa

/- Ranges over maps. -/
namespace Go.Proofs.Yteglgnkcpaagjaa
open Go.RowKit
section
variable {X:Cx} {M:Bool} {n:Nat} {r:Option Nat} {st:ASt} {Q:Exit→ASt→Prop} {ops rest:List Oper} {o:Oper} {d:Nat}
end
end Go.Proofs.Yteglgnkcpaagjaa

/- What ranges over maps compute: the same in all orders. -/
namespace Go.Proofs.Yteglgnkcpaagjaa
open Go.RowKit
section
variable {α β:Type}
end
end Go.Proofs.Yteglgnkcpaagjaa

/- Strings by index. -/
namespace Go.Proofs.Yteglgnkcpaagjaa
open Go.RowKit
section
variable {X:Cx} {M:Bool} {n:Nat} {r:Option Nat} {st:ASt} {Q:Exit→ASt→Prop} {ops rest:List Oper} {o:Oper} {d:Nat}
end
end Go.Proofs.Yteglgnkcpaagjaa

/- Arrays of the call's own are rows. -/
namespace Go.Proofs.Yteglgnkcpaagjaa
open Go.RowKit
def decs (g:GTy):Nat→List SC→Option (Bool×List g.D×List SC)
  | 0,r=>some (true,[],r)
  | m+1,r=>match dec g r with
    | some (c1,x,r1)=>match decs g m r1 with
      | some (c2,l,r2)=>some (c1&&c2,x :: l,r2)
      | none=>none
    | none=>none
section
variable {env:Nat→Loc} {B:Nat→Prop} {w:World}
theorem decs_ok {g:GTy}:∀ {m:Nat} {cs:List SC} {c:Bool} {l:List g.D} {r:List SC} {vs:List Value},CsR env B w cs vs→decs g m cs=some (c,l,r)→c=true→l.length=m∧∃ v1 v2,vs=v1++v2∧Flat (FR B w g) l v1∧CsR env B w r v2
  | 0,cs,c,l,r,vs,h,hd,_=>by
    cases hd;exact ⟨rfl,[],vs,rfl,rfl,h⟩
  | m+1,cs,c,l,r,vs,h,hd,hc=>by
    simp only [decs] at hd
    split at hd
    · rename_i c1 x r1 h1
      split at hd
      · rename_i c2 l2 r2 h2
        cases hd;simp only [Bool.and_eq_true] at hc;obtain ⟨v1,v2,rfl,h3,h4⟩:=dec_ok h h1 hc.1;obtain ⟨hl,v3,v4,rfl,h5,h6⟩:=decs_ok h4 h2 hc.2;exact ⟨by rw [List.length_cons,hl],v1++v3,v4,by rw [List.append_assoc],⟨v1,v3,rfl,h3,h5⟩,h6⟩
      · cases hd
    · cases hd
end
section
variable {X:Cx} {R:Nat→Prop} {W:World} {Bi:Bk} {n:Nat} {ks:List Nat} {env:Nat→Loc} {B:Nat→Prop} {w0:World} {H:List Ck} {st st':ASt} {a:Act} {w:World}
theorem Wk.arr (s:Nat) (g:GTy) (m:Nat) (l:List g.D) {t:TypeId} {cs:List SC} {c:Bool} (hid:Nat.blt s n=true) (hs:lk st.L s=some (.c (.ptr s 0))) (hlk:lk st.H s=some (.cells t cs)) (hdec:decs g m cs=some (c,l,[])) (hc:c=true) (hm:m≤140737488355328) :
    Wk X n st ⟨(s,.c (.elt s g.size 0 0)) :: subL s .dead st.L,(s,.row t g l (some m)) :: delH s .dead st.H⟩:=fun R W Bi M a w ⟨ks,env,B,w0,H,hM,h⟩=>by
  obtain ⟨ck,Y,Z,⟨b,vs,he,rfl,hcs⟩,h2,h3⟩:=h.heap.take hlk;obtain ⟨hl,v1,v2,hv,hfl,hv2⟩:=decs_ok hcs hdec hc;have hv2':v2=[]:=hv2;subst hv2';rw [List.append_nil] at hv;subst hv;subst hl;obtain ⟨H2,h4,h5,_⟩:=h3 (upd env s (.row (some ⟨b,0,none⟩) l.length l.length)) .dead upd_other (fun _ _=>trivial);have hp:(H++ks.map mkO).Perm (Ck.cel b vs t :: (Y++Z++ks.map mkO)):=by
    rw [h2];simp only [List.append_assoc,List.cons_append];exact List.perm_middle
  have hs1:SH (fun k=>R k∨B k) w0 (Ck.cel b vs t :: (H2++ks.map mkO)) w:=(h.sh.perm hp).weak ((h4.append_right _).cons_cons _);refine ⟨ks,upd env s (.row (some ⟨b,0,none⟩) l.length l.length),B,w0,.row (some ⟨b,0,none⟩) l.length t g.size l.length vs :: H2,hM,h.size,h.defs,fun q u hu=>?_,⟨_,H2,rfl,⟨_,_,vs,upd_self,rfl,hfl,fun q hq=>by cases hq; rfl⟩,h5⟩,hs1.toRow (FR.flat_length hfl) hm,h.sub,h.new,pin_upd h.pin (fun q hp=>by have h1:=(h.pin _ _ hp).1; have h2:=lt_of_blt hid; omega),h.base,h.glob⟩;rw [lk_cons] at hu
  split at hu
  · rename_i e
    subst e;cases hu;obtain ⟨u',h6,b',h7,h8⟩:=h.has _ _ hs;rw [he] at h7;cases h7;exact ⟨u',h6,b,_,_,upd_self,by rw [h8]; simp⟩
  · obtain ⟨u0,hu0,rfl⟩:=lk_subL hu
    obtain ⟨u',h6,h7⟩:=h.has q u0 hu0;exact ⟨u',h6,VR.sub (z:=.dead) upd_other (fun _ _=>trivial) h7⟩
end
section
variable {X:Cx} {M:Bool} {n:Nat} {r:Option Nat} {st:ASt} {Q:Exit→ASt→Prop} {ops rest:List Oper} {o:Oper} {d:Nat}
end
end Go.Proofs.Yteglgnkcpaagjaa

/- Structs are compared. -/
namespace Go.Proofs.Yteglgnkcpaagjaa
open Go.RowKit
def GTy.key:GTy→Bool
  | .int _=>true
  | .bool=>true
  | .str=>true
  | .pair g h=>g.key&&h.key
  | _=>false
def GTy.vals:(g:GTy)→g.D→List Value
  | .int k,x=>[.int k x]
  | .bool,x=>[.bool x]
  | .str,x=>[strV x]
  | .pair g h,x=>g.vals x.1++h.vals x.2
  | _,_=>[]
theorem FR.vals {B:Nat→Prop} {w:World}:∀ {g:GTy} {x:g.D} {vs:List Value},g.key=true→FR B w g x vs→vs=g.vals x
  | .int _,_,_,_,h=>h
  | .bool,_,_,_,h=>h
  | .str,_,_,_,h=>h
  | .sl _,_,_,h,_=>by cases h
  | .csl _,_,_,h,_=>by cases h
  | .unit,_,_,h,_=>by cases h
  | .pair g h,x,_,hk,⟨v1,v2,e,h1,h2⟩=>by
    simp only [GTy.key,Bool.and_eq_true] at hk;rw [e,FR.vals hk.1 h1,FR.vals hk.2 h2]
    rfl
structure KeyOk (P:Program) (t:TypeId) (g:GTy):Prop where
  key:g.key=true
  eq:∀ (x y:g.D) (w:World),(Op.equalIn 10000 t (.agg (g.vals x).toArray) (.agg (g.vals y).toArray)).run P w=.ok (g.beq x y) w
  guard:P.eqGuardType P.depth t=false
def GTy.isK:GTy→Nat→Bool
  | .int _,0=>true
  | .bool,1=>true
  | .str,2=>true
  | _,_=>false
def eqFs (e:TypeId→GTy→Bool):Nat→List Field→GTy→Bool
  | _,[],_=>false
  | off, [f], g => decide (f.name ≠ "_") && (Nat.beq f.offset off && e f.type g)
  | off, f :: fs, .pair g h => decide (f.name ≠ "_") && (Nat.beq f.offset off && (e f.type g && eqFs e (off + g.size) fs h))
  | _,_,_=>false
def eqT (P:Program) (tt:TT):Nat→TypeId→GTy→Bool
  | 0,_,_=>false
  | d+1,t,g=>match tt.find t with
    | none=>false
    | some te=>match te.ti.desc with
      | .int _=>g.isK 0
      | .bool=>g.isK 1
      | .string=>g.isK 2
      | .struct fs=>Nat.beq te.ti.size g.size&&(!P.stoodInHeld t&&eqFs (eqT P tt d) 0 fs.toList g)
      | _=>false
def vd (tt:TT) (t:TypeId) (vs:List Value):Value:=match tt.find t with
  | some te=>match isAggD te.ti.desc with
    | true=>.agg vs.toArray
    | false=>vs.headD undef
  | none=>undef
theorem vals_len:∀ {g:GTy} (x:g.D),g.key=true→(g.vals x).length=g.size
  | .int _,_,_=>rfl
  | .bool,_,_=>rfl
  | .str,_,_=>rfl
  | .sl _,_,h=>by cases h
  | .csl _,_,h=>by cases h
  | .unit,_,h=>by cases h
  | .pair g h,x,hk=>by
    simp only [GTy.key,Bool.and_eq_true] at hk;show (g.vals x.1++h.vals x.2).length=g.size+h.size;rw [List.length_append,vals_len x.1 hk.1,vals_len x.2 hk.2]
theorem run_part_vd {P:Program} {tt:TT} (hX:tt.ok P) {d:Nat} {t:TypeId} {g:GTy} {x:g.D} {xs:Array Value} {off:Nat} {r:List Value} (hk:g.key=true) (he:eqT P tt d t g=true) (hx:xs.toList.drop off=g.vals x++r) (w:World):(part t xs off).run P w=.ok (vd tt t (g.vals x)) w:=by
  cases d with
  | zero=>cases he
  | succ d=>
    unfold eqT at he;cases hf:tt.find t with
    | none=>simp [hf] at he
    | some te=>
      rw [hf] at he;dsimp only at he;have hti:=(TT.get hX hf).ti;have h1:∀ v,g.vals x=[v]→xs[off]?=some v:=fun v hv=>by
        have h2:(xs.toList.drop off)[0]?=some v:=by rw [hx,hv]; rfl
        rw [List.getElem?_drop] at h2
        simpa using h2
      unfold part;simp only [Sem.run_bind,TI.run_isAgg hti,Result.andThen_ok];unfold vd;rw [hf];dsimp only;have hone:∀ q,g.isK q=true→∃ v,g.vals x=[v]:=fun q hq=>by
        cases g with
        | int k=>exact ⟨_,rfl⟩
        | bool=>exact ⟨_,rfl⟩
        | str=>exact ⟨_,rfl⟩
        | sl _=>cases hk
        | csl _=>cases hk
        | unit=>cases hk
        | pair _ _=>cases q <;> cases hq
      split at he
      · rename_i hd
        obtain ⟨v,hv⟩:=hone _ he;rw [hd,h1 v hv,hv]
        rfl
      · rename_i hd
        obtain ⟨v,hv⟩:=hone _ he;rw [hd,h1 v hv,hv]
        rfl
      · rename_i hd
        obtain ⟨v,hv⟩:=hone _ he;rw [hd,h1 v hv,hv]
        rfl
      · rename_i fs hd
        simp only [Bool.and_eq_true] at he;rw [hd];have hs:=Nat.eq_of_beq_eq_true he.1;simp only [isAggD,if_true,Sem.run_bind,TI.run_sizeOf hti,Result.andThen_ok,Sem.run_pure,hs];have h3:xs.extract off (off+g.size)=(g.vals x).toArray:=by
          apply Array.toList_inj.1
          rw [Array.toList_extract,List.extract_eq_take_drop,hx,Nat.add_sub_cancel_left,List.take_left' (vals_len x hk)]
        rw [h3]
      · cases he
theorem eqFs_ok {P:Program} {tt:TT} (hX:tt.ok P) {k d:Nat} (ih:∀ t (g:GTy) (x y:g.D) w,g.key=true→eqT P tt k t g=true→(Op.equalIn d t (vd tt t (g.vals x)) (vd tt t (g.vals y))).run P w=.ok (g.beq x y) w) :
    ∀ (fs:List Field) (off:Nat) (g:GTy) (x y:g.D) (xs ys:Array Value) (w:World),g.key=true→eqFs (eqT P tt k) off fs g=true→xs.toList.drop off=g.vals x→ys.toList.drop off=g.vals y→(Op.eqFields d xs ys fs).run P w=.ok (g.beq x y) w:=by
  intro fs
  induction fs with
  | nil=>intro off g x y xs ys w _ h; simp [eqFs] at h
  | cons f fs ihf=>
    intro off g x y xs ys w hk h hx hy;cases fs with
    | nil=>
      have h' : (decide (f.name ≠ "_") && (Nat.beq f.offset off && eqT P tt k f.type g)) = true := by
        cases g <;> exact h
      simp only [Bool.and_eq_true,decide_eq_true_eq] at h';obtain ⟨hn,ho,he⟩:=h';have ho:=Nat.eq_of_beq_eq_true ho;simp only [Op.eqFields,if_pos hn,Sem.run_bind,ho,run_part_vd hX hk he (r:=[]) (by rw [hx,List.append_nil]),run_part_vd hX hk he (r:=[]) (by rw [hy,List.append_nil]),Result.andThen_ok,ih _ _ _ _ _ hk he];cases g.beq x y <;> simp
    | cons f2 fs=>
      cases g with
      | pair g h2=>
        have h' : (decide (f.name ≠ "_") && (Nat.beq f.offset off && (eqT P tt k f.type g && eqFs (eqT P tt k) (off + g.size) (f2 :: fs) h2))) = true := h
        simp only [Bool.and_eq_true,decide_eq_true_eq] at h';obtain ⟨hn,ho,he,hr⟩:=h';have ho:=Nat.eq_of_beq_eq_true ho;simp only [GTy.key,Bool.and_eq_true] at hk;have hx':xs.toList.drop off=g.vals x.1++h2.vals x.2:=hx;have hy':ys.toList.drop off=g.vals y.1++h2.vals y.2:=hy;have hrest:=ihf (off+g.size) h2 x.2 y.2 xs ys w hk.2 hr (by rw [← List.drop_drop,hx',← vals_len x.1 hk.1,List.drop_left]) (by rw [← List.drop_drop,hy',← vals_len y.1 hk.1,List.drop_left]);show _=Result.ok (g.beq x.1 y.1&&h2.beq x.2 y.2) w;rw [Op.eqFields,if_pos hn];simp only [Sem.run_bind,ho,run_part_vd hX hk.1 he hx',run_part_vd hX hk.1 he hy',Result.andThen_ok,ih _ _ _ _ _ hk.1 he];cases hb:g.beq x.1 y.1 with
        | true=>simpa using hrest
        | false=>simp
      | int _=>simp [eqFs] at h
      | bool=>simp [eqFs] at h
      | str=>simp [eqFs] at h
      | sl _=>simp [eqFs] at h
      | csl _=>simp [eqFs] at h
      | unit=>simp [eqFs] at h
theorem eqT_ok {P:Program} {tt:TT} (hX:tt.ok P) (m:Nat):∀ (k:Nat) (t:TypeId) (g:GTy) (x y:g.D) (w:World),g.key=true→eqT P tt k t g=true→(Op.equalIn (m+k) t (vd tt t (g.vals x)) (vd tt t (g.vals y))).run P w=.ok (g.beq x y) w:=by
  intro k
  induction k with
  | zero=>intro t g x y w _ h; cases h
  | succ k ih=>
    intro t g x y w hk h;have h0:=h;unfold eqT at h;cases hf:tt.find t with
    | none=>simp [hf] at h
    | some te=>
      rw [hf] at h;dsimp only at h;have hti:=(TT.get hX hf).ti;have hd0:=hti.1;unfold vd;rw [hf];dsimp only
      split at h
      · rename_i k1 hd
        rw [hd] at hd0 ⊢;cases g with
        | int k=>exact run_equalIn_int w _ t _ _ _ _ hd0
        | _=>cases h
      · rename_i hd
        rw [hd] at hd0 ⊢;cases g with
        | bool=>exact run_equalIn_bool w _ t _ _ hd0
        | _=>cases h
      · rename_i hd
        rw [hd] at hd0 ⊢;cases g with
        | str=>
          have:=run_equalIn_string (P:=P) w (m+k) t ⟨List.toArray x⟩ ⟨List.toArray y⟩ hd0
          simp only [bytes_toList] at this;exact this
        | _=>cases h
      · rename_i fs hd
        rw [hd] at hd0 ⊢;simp only [Bool.and_eq_true,Bool.not_eq_true'] at h;have hfs:P.underlying t=some (.struct fs.toList.toArray):=by simpa using hd0
        show (Op.equalIn (m+k+1) t (.agg _) (.agg _)).run P w=_;rw [eq_struct w (m+k) t _ _ hfs h.2.1];exact eqFs_ok hX ih fs.toList 0 g x y _ _ w hk h.2.2 (by simp) (by simp)
      · cases h
theorem KeyOk.of {P:Program} {tt:TT} (hX:tt.ok P) {t:TypeId} {te:TE} {g:GTy} {fs:Array Field} (hk:g.key=true) (hf:tt.find t=some te) (hd:te.ti.desc=.struct fs) (h:eqT P tt 12 t g=true) (hg:P.eqGuardType P.depth t=false):KeyOk P t g:=by
  refine ⟨hk,fun x y w=>?_,hg⟩
  have:=eqT_ok hX 9988 12 t g x y w hk h
  unfold vd at this;rw [hf] at this;dsimp only at this;rw [hd] at this;exact this
section
variable {X:Cx} {M:Bool} {n:Nat} {r:Option Nat} {st:ASt} {Q:Exit→ASt→Prop} {ops rest:List Oper} {o:Oper} {d:Nat}
theorem CsR.vals {env:Nat→Loc} {B:Nat→Prop} {w:World} {g:GTy} {cs:List SC} {x:g.D} {c:Bool} {v:Value} (hk:g.key=true) (h1:SaR env B w (.agg cs) v) (hd:dec g cs=some (c,x,[])) (hc:c=true):v=.agg (g.vals x).toArray:=by
  obtain ⟨vs,rfl,h1⟩:=h1;obtain ⟨v1,v2,e2,hf,h2⟩:=dec_ok h1 hd hc;have h4:v2=[]:=h2;subst h4;rw [List.append_nil] at e2;subst e2;rw [FR.vals hk hf]
end
end Go.Proofs.Yteglgnkcpaagjaa

/- Arguments of any kind of plain data. -/
namespace Go.Proofs.Yteglgnkcpaagjaa
open Go.ChangeShapes Go.WideShapes Go.ChangeAt Go.WideElems Go.RowKit
def WfD:(g:GTy)→g.D→Prop
  | .int k,(x:Int)=>k.min≤x∧x≤k.max
  | .sl g,(l:List g.D)=>∀ y∈l,WfD g y
  | .pair g h,x=>WfD g x.1∧WfD h x.2
  | _,_=>True
def sizeIs (tt:TT) (t:TypeId) (n:Nat):Bool:=match tt.find t with
  | some te=>Nat.beq te.ti.size n
  | none=>false
def fsG (tt:TT) (e:TypeId→GTy→Bool):Nat→List Field→GTy→Bool
  | _,[],_=>false
  | off,[f],g=>Nat.beq f.offset off&&(sizeIs tt f.type g.size&&e f.type g)
  | off,f :: fs,.pair g h=>Nat.beq f.offset off&&(sizeIs tt f.type g.size&&(e f.type g&&fsG tt e (off+g.size) fs h))
  | _,_,_=>false
def arG (tt:TT) (e:TypeId→GTy→Bool) (t:TypeId) (s:Nat):Nat→GTy→Bool
  | 0,_=>false
  | 1,g=>Nat.beq g.size s&&e t g
  | n+1,.pair g h=>Nat.beq g.size s&&(e t g&&arG tt e t s n h)
  | _,_=>false
def GTy.isI:GTy→IntKind→Bool
  | .int k,k'=>decide (k=k')
  | _,_=>false
def tyG (tt:TT):Nat→TypeId→GTy→Bool
  | 0,_,_=>false
  | d+1,t,g=>match tt.find t with
    | none=>false
    | some te=>match te.ti.desc with
      | .int k=>g.isI k
      | .bool=>g.isK 1
      | .string=>g.isK 2
      | .slice e=>match g with
        | .sl h=>Nat.blt 0 h.size&&(sizeIs tt e h.size&&tyG tt d e h)
        | _=>false
      | .struct fs=>Nat.beq te.ti.size g.size&&fsG tt (tyG tt d) 0 fs.toList g
      | .array n e=>Nat.beq te.ti.size g.size&&(match tt.find e with
        | some ee=>arG tt (tyG tt d) e ee.ti.size n g
        | none=>false)
      | _=>false
section
variable {H:Type} {enc:TypeId×Value→H} {P:Program} {W:World} {tt:TT}
theorem cells_tt (hX:tt.ok P) {t:TypeId} {te:TE} (h:tt.find t=some te):P.cellsOf t=te.ti.size:=by
  obtain ⟨x,h1,h2,_⟩:=TI.info (TT.get hX h).ti;unfold Program.cellsOf;rw [h1];exact h2
theorem cells_is (hX:tt.ok P) {t:TypeId} {n:Nat} (h:sizeIs tt t n=true):P.cellsOf t=n:=by
  unfold sizeIs at h
  split at h
  · rename_i te hf
    rw [cells_tt hX hf];exact Nat.eq_of_beq_eq_true h
  · cases h
theorem slice_dec {g:GTy} {R:g.D→Prop} (hs0:0 < g.size) {t e:TypeId} (ht:P.underlying t=some (.slice e)) (hc:P.cellsOf e=g.size) (hdec:DecOk enc P W e g R):DecOk enc P W t (.sl g) (fun (l:List g.D)=>∀ y∈l,R y):=fun k cs x hf=>by
  let α:={ p:g.D×List Value // R p.1∧FR (fun b=>b < W.heap.size) W g p.1 p.2 }
  let f:α→List Value:=fun p=>p.1.2
  have hs:∀ x:α,(f x).length=g.size:=fun x=>x.2.2.length
  rcases DataW.trod_slice ht hf with ⟨h,_⟩ | ⟨a,len,cap,elems,rest,n,_,h,_,_,hl,hm,hlen,hel,_,_⟩
  · subst h
    exact ⟨([]:List g.D),(fun y hy=>by cases hy),none,0,[],rfl,Nat.le_refl _,Nat.zero_le _,rfl,Reads.nil _ _ _,fun _ _ h=>absurd h (Nat.lt_irrefl _)⟩
  · subst h
    rw [hc] at hel;obtain ⟨l,hll,hq⟩:=choose_list (Q:=fun i (y:α)=>∀ j,j < g.size→W.cell? ((a.add (i * g.size)).add j)=(f y)[j]?) len (fun i hi=>by
      have h1:=hel i hi;have h2:elems[i]?=some (elems[i]'(by omega)):=List.getElem?_eq_getElem (by omega);rw [h2,Option.bind_eq_some_iff] at h1;obtain ⟨cs,h3,h4⟩:=h1;obtain ⟨y,hy1,hy2⟩:=hdec _ _ _ h4;exact ⟨⟨(y,cs),hy1,hy2⟩,(World.cells?_some h3).2.2⟩)
    have hr:Reads W (some a) len g.size (l.flatMap f):=by
      refine ⟨by rw [flat_length f g.size hs,hll],fun h0=>?_⟩;have hz:=hq 0 (by omega) 0 hs0;have hz':W.cell? a=some ((f l[0])[0]'(by rw [hs]; exact hs0)):=by
        have e2:(a.add (0 * g.size)).add 0=a:=by simp [Addr.add]
        rw [e2,List.getElem?_eq_getElem (by rw [hs]; exact hs0)] at hz;exact hz
      have hsp:=spot_none hz';refine ⟨a.block,a.off,congrArg some hsp,fun j u hu=>?_⟩;have hj:j < len * g.size:=by have:=(List.getElem?_eq_some_iff.1 hu).1; rwa [flat_length f g.size hs,hll] at this
      have hdiv:j / g.size < len:=(Nat.div_lt_iff_lt_mul hs0).2 hj;have hmod:=Nat.mod_lt j hs0;have h5:=hq (j / g.size) (by omega) (j % g.size) hmod;rw [hsp,Addr.add_lit,Addr.add_lit,List.getElem?_eq_getElem (by rw [hs]; exact hmod)] at h5;have h6:=flat_get f g.size hs l (j / g.size) (j % g.size) (by omega) _ (List.getElem?_eq_getElem (by rw [hs]; exact hmod));have hjs:j / g.size * g.size+j % g.size=j:=by rw [Nat.mul_comm]; exact Nat.div_add_mod j g.size
      rw [hjs,hu] at h6;rw [Nat.add_assoc,hjs] at h5;rw [h5,h6]
    refine ⟨l.map (·.1.1),fun x hx=>?_,some a,cap,l.flatMap f,by rw [List.length_map,hll],by rw [List.length_map,hll]; exact hl,hm,flat_sub l,by rw [List.length_map,hll]; exact hr,fun b p hm e=>?_⟩
    · obtain ⟨p,_,rfl⟩:=List.mem_map.1 hx
      exact p.2.1
    · rw [List.length_map] at hm
      obtain ⟨b',p',e',hcell⟩:=hr.2 (by omega);rw [e] at e';cases e';cases hx:(l.flatMap f)[0]? with
      | some u=>exact cell_lt (hcell 0 u hx)
      | none=>
        exfalso
        have h3:=hr.1;rw [List.getElem?_eq_none_iff] at hx;have h4:0 < len * g.size:=Nat.mul_pos (by omega) hs0;omega
theorem fs_dec (hX:tt.ok P) {e:TypeId→GTy→Bool} (ih:∀ t g,e t g=true→DecOk enc P W t g (WfD g)):∀ (fs:List Field) (off:Nat) (g:GTy) (cs:List Value),fsG tt e off fs g=true→cs.length=off+g.size →
    (∀ f∈fs,∃ m x,DataW.trod enc P W 0 (fun _=>true) true m f.type ((cs.drop f.offset).take (P.cellsOf f.type))=some x)→∃ y:g.D,WfD g y∧FR (fun b=>b < W.heap.size) W g y (cs.drop off):=by
  intro fs
  induction fs with
  | nil=>intro off g cs h; simp [fsG] at h
  | cons f fs ihf=>
    intro off g cs h hl hf;cases fs with
    | nil=>
      have h':(Nat.beq f.offset off&&(sizeIs tt f.type g.size&&e f.type g))=true:=by
        cases g <;> exact h
      simp only [Bool.and_eq_true] at h';obtain ⟨ho,hs,he⟩:=h';have ho:=Nat.eq_of_beq_eq_true ho;obtain ⟨m,x,hx⟩:=hf f List.mem_cons_self;obtain ⟨y,h1,h2⟩:=ih _ _ he _ _ _ hx;rw [ho,cells_is hX hs,List.take_of_length_le (by rw [List.length_drop]; omega)] at h2;exact ⟨y,h1,h2⟩
    | cons f2 fs=>
      cases g with
      | pair g h2=>
        have h':(Nat.beq f.offset off&&(sizeIs tt f.type g.size&&(e f.type g&&fsG tt e (off+g.size) (f2 :: fs) h2)))=true:=h;simp only [Bool.and_eq_true] at h';obtain ⟨ho,hs,he,hr⟩:=h';have ho:=Nat.eq_of_beq_eq_true ho;have hl':cs.length=off+(g.size+h2.size):=hl;obtain ⟨m,x,hx⟩:=hf f List.mem_cons_self;obtain ⟨y1,h3,h4⟩:=ih _ _ he _ _ _ hx;rw [ho,cells_is hX hs] at h4;obtain ⟨y2,h5,h6⟩:=ihf (off+g.size) h2 cs hr (by omega) (fun q hq=>hf q (List.mem_cons_of_mem _ hq));refine ⟨(y1,y2),⟨h3,h5⟩,_,_,?_,h4,h6⟩;rw [← List.drop_drop,List.take_append_drop]
      | int _=>simp [fsG] at h
      | bool=>simp [fsG] at h
      | str=>simp [fsG] at h
      | sl _=>simp [fsG] at h
      | csl _=>simp [fsG] at h
      | unit=>simp [fsG] at h
theorem ar_dec {e:TypeId→GTy→Bool} {t:TypeId} {s:Nat} (ih:∀ g,e t g=true→DecOk enc P W t g (WfD g)):∀ (n:Nat) (i0:Nat) (g:GTy) (cs:List Value),arG tt e t s n g=true→cs.length=i0 * s+g.size →
    (∀ i,i < n→∃ m x,DataW.trod enc P W 0 (fun _=>true) true m t ((cs.drop ((i0+i) * s)).take s)=some x)→∃ y:g.D,WfD g y∧FR (fun b=>b < W.heap.size) W g y (cs.drop (i0 * s)):=by
  intro n
  induction n with
  | zero=>intro i0 g cs h; simp [arG] at h
  | succ n ihn=>
    intro i0 g cs h hl hf;cases n with
    | zero=>
      have h':(Nat.beq g.size s&&e t g)=true:=by
        cases g <;> exact h
      simp only [Bool.and_eq_true] at h';obtain ⟨hs,he⟩:=h';have hs:=Nat.eq_of_beq_eq_true hs;obtain ⟨m,x,hx⟩:=hf 0 (by omega);obtain ⟨y,h1,h2⟩:=ih _ he _ _ _ hx;rw [Nat.add_zero,List.take_of_length_le (by rw [List.length_drop]; omega)] at h2;exact ⟨y,h1,h2⟩
    | succ n=>
      cases g with
      | pair g h2=>
        have h':(Nat.beq g.size s&&(e t g&&arG tt e t s (n+1) h2))=true:=h;simp only [Bool.and_eq_true] at h';obtain ⟨hs,he,hr⟩:=h';have hs:=Nat.eq_of_beq_eq_true hs;have hl':cs.length=i0 * s+(g.size+h2.size):=hl;obtain ⟨m,x,hx⟩:=hf 0 (by omega);obtain ⟨y1,h3,h4⟩:=ih _ he _ _ _ hx;obtain ⟨y2,h5,h6⟩:=ihn (i0+1) h2 cs hr (by rw [Nat.add_mul]; omega) (fun i hi=>by
          have:=hf (i+1) (by omega)
          rw [show i0+1+i=i0+(i+1) by omega];exact this)
        refine ⟨(y1,y2),⟨h3,h5⟩,_,_,?_,h4,h6⟩;rw [Nat.add_zero,Nat.add_mul,Nat.one_mul,← List.drop_drop,List.take_append_drop]
      | int _=>simp [arG] at h
      | bool=>simp [arG] at h
      | str=>simp [arG] at h
      | sl _=>simp [arG] at h
      | csl _=>simp [arG] at h
      | unit=>simp [arG] at h
theorem tyG_dec (hX:tt.ok P):∀ (d:Nat) (t:TypeId) (g:GTy),tyG tt d t g=true→DecOk enc P W t g (WfD g):=by
  intro d
  induction d with
  | zero=>intro t g h; cases h
  | succ d ih=>
    intro t g h k cs x hx;unfold tyG at h;cases hf:tt.find t with
    | none=>simp [hf] at h
    | some te=>
      rw [hf] at h;dsimp only at h;have hti:=(TT.get hX hf).ti;have hd0:=hti.1;have hsz:=cells_tt hX hf
      split at h
      · rename_i k1 hd
        rw [hd] at hd0;cases g with
        | int k2=>
          have:k2=k1:=of_decide_eq_true h
          subst this;exact dec_int hd0 k cs x hx
        | _=>cases h
      · rename_i hd
        rw [hd] at hd0;cases g with
        | bool=>
          obtain ⟨b,rfl,_⟩:=DataW.trod_bool hd0 hx;exact ⟨b,trivial,rfl⟩
        | _=>cases h
      · rename_i hd
        rw [hd] at hd0;cases g with
        | str=>
          obtain ⟨s,rfl,_⟩:=DataW.trod_string hd0 hx;exact ⟨s.data.toList,trivial,rfl⟩
        | _=>cases h
      · rename_i e hd
        rw [hd] at hd0;cases g with
        | sl g=>
          simp only [Bool.and_eq_true] at h;exact slice_dec (lt_of_blt h.1) hd0 (cells_is hX h.2.1) (ih _ _ h.2.2) k cs x hx
        | _=>cases h
      · rename_i fs hd
        rw [hd] at hd0;simp only [Bool.and_eq_true] at h;have hs:=Nat.eq_of_beq_eq_true h.1;obtain ⟨xs,n,_,_,hlen,hxl,hel⟩:=DataW.trod_struct hd0 hx;rw [hsz,hs] at hlen;obtain ⟨y,h1,h2⟩:=fs_dec (enc:=enc) (W:=W) hX ih fs.toList 0 g cs h.2 (by omega) (fun f hfm=>by
          obtain ⟨i,hi,rfl⟩:=List.mem_iff_getElem.1 hfm;have hi':i < fs.size:=by simpa using hi
          have h3:=hel i fs[i] (Array.getElem?_eq_getElem hi');rw [List.getElem?_eq_getElem (by omega)] at h3;exact ⟨n,_,by simpa using h3⟩)
        exact ⟨y,h1,h2⟩
      · rename_i n e hd
        rw [hd] at hd0;simp only [Bool.and_eq_true] at h;have hs:=Nat.eq_of_beq_eq_true h.1;obtain ⟨xs,m,_,_,hlen,hxl,hel⟩:=DataW.trod_array hd0 hx;rw [hsz,hs] at hlen;have h2:=h.2
        split at h2
        · rename_i ee hee
          rw [cells_tt hX hee] at hel;obtain ⟨y,h1,h3⟩:=ar_dec (enc:=enc) (W:=W) (tt:=tt) (fun g hg=>ih e g hg) n 0 g cs h2 (by omega) (fun i hi=>by
            have h3:=hel i hi;rw [List.getElem?_eq_getElem (by omega)] at h3;rw [Nat.zero_add];exact ⟨m,_,h3⟩)
          rw [Nat.zero_mul] at h3;exact ⟨y,h1,h3⟩
        · cases h2
      · cases h
theorem open_agg (hX:tt.ok P) {t:TypeId} {te:TE} {g:GTy} (hf:tt.find t=some te) (ha:isAggD te.ti.desc=true) (h:tyG tt 12 t g=true) {r:Reach} {b0:Nat} {v:Value} {d:DataW H} {ps:List MemPlace} (hval:Value.okWide P W r b0 t v) (hd:DataW.Trod enc P W 0 (fun _=>true) true t v d ps) :
    ∃ y:g.D,WfD g y∧∀ env ds,gcells g y 0 g.size=some ds→SaR env (fun b=>b < W.heap.size) W (.agg ds) v:=by
  have hti:=(TT.get hX hf).ti;obtain ⟨cs,rfl⟩:∃ cs,v=.agg cs:=by
    have hd0:=hti.1;unfold Value.okWide at hval;rw [hd0] at hval;cases hdd:te.ti.desc with
    | struct fs=>rw [hdd] at hval; obtain ⟨cs,e,_⟩:=hval; exact ⟨cs,e⟩
    | array n e=>rw [hdd] at hval; obtain ⟨cs,e,_⟩:=hval; exact ⟨cs,e⟩
    | _=>rw [hdd] at ha; cases ha
  obtain ⟨n,hn⟩:=hd;obtain ⟨y,h1,h2⟩:=tyG_dec hX 12 t g h n _ _ hn;refine ⟨y,h1,fun env ds hds=>?_⟩;obtain ⟨us,hp,hc⟩:=FR.cells (env:=env) h2 hds;have hl:cs.toList.length=g.size:=h2.length;have hu:us=cs.toList:=by
    refine List.ext_getElem? fun j=>?_
    by_cases hj:j < us.length
    · have:=hp.2 j _ (List.getElem?_eq_getElem hj)
      rw [Nat.zero_add] at this;rw [List.getElem?_eq_getElem hj];exact this.symm
    · rw [List.getElem?_eq_none (by omega),List.getElem?_eq_none (by rw [hl]; have:=hp.1; omega)]
  subst hu;exact ⟨cs.toList,rfl,hc⟩
end
end Go.Proofs.Yteglgnkcpaagjaa

/- Short names of the kinds of structs. -/
namespace Go.Proofs.Yteglgnkcpaagjaa
set_option linter.unusedSimpArgs false
set_option linter.unusedVariables false
open Go.RowKit
abbrev kd1:GTy:=.pair (.int .u8) (.int .i64)
abbrev Kt1:Type:=Int×Int
abbrev kd2:GTy:=.pair (.int .u8) (.pair (.int .u8) (.sl (.int .u8)))
abbrev Kt2:Type:=Int×(Int×(List Int))
abbrev kd4:GTy:=.pair (.int .u8) (.pair (.int .u8) (.pair (.int .i64) (.pair (.int .i64) .bool)))
abbrev Kt4:Type:=Int×(Int×(Int×(Int×Bool)))
end Go.Proofs.Yteglgnkcpaagjaa

/- Arrays in cells by variable indexes; maps: looking up with ok, literals. -/
namespace Go.Proofs.Yteglgnkcpaagjaa
open Go.RowKit
section
variable {env:Nat→Loc} {B:Nat→Prop} {w:World}
end
def GTy.isPair:GTy→Bool
  | .pair _ _=>true
  | _=>false
theorem VD.of_FR {B:Nat→Prop} {w:World} {g:GTy} {x:g.D} {vs:List Value} (h:FR B w g x vs) (hp:g.isPair=true):VD B w g x (.agg vs.toArray):=by
  cases g with
  | pair a b=>exact ⟨vs,rfl,h⟩
  | _=>cases hp
theorem VD.of_FR1 {B:Nat→Prop} {w:World} {g:GTy} {x:g.D} {v:Value} (h:FR B w g x [v]) (hp:g.isPair=false):VD B w g x v:=by
  cases g with
  | pair a b=>cases hp
  | _=>exact h
section
variable {X:Cx} {M:Bool} {n:Nat} {r:Option Nat} {st:ASt} {Q:Exit→ASt→Prop} {ops rest:List Oper} {o:Oper} {d:Nat}
end
end Go.Proofs.Yteglgnkcpaagjaa

/- Scopes of labels. -/
namespace Go.Proofs.Yteglgnkcpaagjaa
open Go.RowKit
section
variable {P:Program} {b:Frame} {a:Act} {k:List Item} {cs:List Frame} {w:World} {Q:Exit→Act→World→Prop} {F:Fence} {n:Nat}
theorem stepR_scope {c:Code}:step P (lone (b.atR a (.code (.scope c) :: k)) cs w)=.next (lone (b.atR a (.code c :: .inScope c :: k)) cs w):=
  step_lone_go (by simp [stepG,stepG.exec,Frame.atR])
theorem stepR_inScope {c:Code}:step P (lone (b.atR a (.inScope c :: k)) cs w)=.next (lone (b.atR a k) cs w):=
  step_lone_go (by simp [stepG,stepG.exec,Frame.atR])
theorem wpIn_scope {c:Code} (h:c.wpIn F n P (Exit.noGoto Q) a w):(Code.scope c).wpIn F n P Q a w:=by
  intro b k cs hro hb hr;have h0:(lone (b.atR a (.code (.scope c) :: k)) cs w).fenced P F:=fenced_calm hb hr rfl;obtain ⟨e,a₁,w₁,hq,harr⟩:=h b (.inScope c :: k) cs hro hb hr;have hx:∀ id,exitTo id (.inScope c :: k)=exitTo id k:=fun id=>by simp [exitTo]
  cases e with
  | normal=>exact ⟨.normal,a₁,w₁,hq,.head h0 stepR_scope (StepsIn.trans harr (.one (fenced_calm hb hr rfl) stepR_inScope))⟩
  | exit id=>exact ⟨.exit id,a₁,w₁,hq,.of_steps (.one h0 stepR_scope) ⟨fun k' hk=>harr.1 k' (by rw [hx]; exact hk),fun hr hk=>harr.2 hr (by rw [hx]; exact hk)⟩⟩
  | goto l=>exact hq.elim
  | ret=>exact ⟨_,a₁,w₁,hq,.of_steps (.one h0 stepR_scope) harr⟩
  | panic ch=>exact ⟨_,a₁,w₁,hq,.of_steps (.one h0 stepR_scope) harr⟩
  | outgrown=>exact ⟨_,a₁,w₁,hq,.of_steps (.one h0 stepR_scope) harr⟩
end
section
variable {X:Cx} {M:Bool} {n:Nat} {r:Option Nat} {st:ASt} {Q:Exit→ASt→Prop} {c:Code}
theorem ax_label {l:Nat} (h:Q .normal st):AX X M n r (.label l) st Q:=fun R W Bi a w hA=>wpIn_label ⟨st,h,hA⟩
end
end Go.Proofs.Yteglgnkcpaagjaa

/- Rows of slices, one of which is a row of one's own for a while. -/
namespace Go.Proofs.Yteglgnkcpaagjaa
open Go.RowKit
section
variable {X:Cx} {M:Bool} {n:Nat} {r:Option Nat} {st:ASt} {Q:Exit→ASt→Prop} {ops rest:List Oper} {o:Oper} {d:Nat}
end
end Go.Proofs.Yteglgnkcpaagjaa

/- Arrays as values; tables of functions. -/
namespace Go.Proofs.Yteglgnkcpaagjaa
open Go.RowKit
theorem run_indexA {P:Program} {t e:TypeId} {m:Nat} {i':TI} {cs:List Value} {k:IntKind} {j:Nat} {w:World} (ht:P.underlying t=some (.array m e)) (he:TI.ok P e i') (hj:j < m) {v:Value} (hv:(part e cs.toArray (j * i'.size)).run P w=.ok v w):(Instr.index t (.agg cs.toArray) (.int k (j:Int))).run P w=.ok v w:=by
  have h0:(0:Int)≤(j:Int):=Int.natCast_nonneg j;unfold Instr.index;simp only [asIntOf,Sem.run_bind,Sem.run_pure,Result.andThen_ok,run_underlying ht];rw [if_pos ⟨h0,by omega⟩];simp only [Sem.run_bind,TI.run_sizeOf he,Result.andThen_ok,Int.toNat_natCast,hv]
theorem part_elem {P:Program} {e:TypeId} {i':TI} {B:Nat→Prop} {w0 w:World} {g:GTy} {l:List g.D} {vs:List Value} {j:Nat} (he:TI.ok P e i') (hf:Flat (FR B w0 g) l vs) (hj:j < l.length) (hsz:g.size=i'.size) (hag:isAggD i'.desc=g.isPair) (hone:(g.isPair || Nat.beq g.size 1)=true) :
    ∃ v,(part e vs.toArray (j * i'.size)).run P w=.ok v w∧VD B w0 g (l.getD j g.zero) v:=by
  have hxl:l[j]?=some (l.getD j g.zero):=by rw [List.getD_eq_getElem?_getD,List.getElem?_eq_getElem hj]; rfl
  have h2:=Flat.get (fun _ _=>FR.length) hf hxl;have hlen:=FR.length h2;cases hp:g.isPair with
  | true=>
    refine ⟨.agg (vs.toArray.extract (j * i'.size) (j * i'.size+i'.size)),?_,?_⟩
    · unfold part
      simp [TI.run_isAgg he,hag,hp,TI.run_sizeOf he]
    · have:=VD.of_FR h2 hp
      rw [← hsz];have e1:vs.toArray.extract (j * g.size) (j * g.size+g.size)=((vs.drop (j * g.size)).take g.size).toArray:=by
        apply Array.ext'
        simp [Array.toList_extract,List.extract]
      rw [e1];exact this
  | false=>
    rw [hp,Bool.false_or] at hone;have h1s:=Nat.eq_of_beq_eq_true hone;obtain ⟨v,hv1⟩:∃ v,(vs.drop (j * g.size)).take g.size=[v]:=by
      match hm:(vs.drop (j * g.size)).take g.size,hlen with
      | [v],_=>exact ⟨v,rfl⟩
      | [],h=>simp [h1s] at h
      | _ :: _ :: _,h=>simp [h1s] at h
    have hget:vs[j * i'.size]?=some v:=by
      have:=congrArg (·[0]?) hv1
      rw [← hsz]
      simpa [List.getElem?_take,List.getElem?_drop,h1s] using this
    refine ⟨v,?_,VD.of_FR1 (by rw [← hv1]; exact h2) hp⟩;unfold part
    simp [TI.run_isAgg he,hag,hp,hget]
def arrL (g:GTy) (m:Nat):SA→Option (Bool×List g.D)
  | .agg cs=>match decs g m cs with
    | some (c,l,[])=>some (c,l)
    | _=>none
  | .arr g' l=>match decEq g' g with
    | isTrue h=>some (true,h ▸ l)
    | isFalse _=>none
  | _=>none
theorem arrL_ok {env:Nat→Loc} {B:Nat→Prop} {w:World} {g:GTy} {m:Nat} {x:SA} {c:Bool} {l:List g.D} {v:Value} (h:SaR env B w x v) (ha:arrL g m x=some (c,l)) (hc:c=true):∃ vs,v=.agg vs.toArray∧Flat (FR B w g) l vs:=by
  unfold arrL at ha
  split at ha
  · split at ha
    · rename_i c' l' hd
      cases ha;obtain ⟨vs,rfl,h1⟩:=h;obtain ⟨_,v1,v2,e,h2,h3⟩:=decs_ok h1 hd hc;have h4:v2=[]:=h3;rw [h4,List.append_nil] at e;subst e;exact ⟨_,rfl,h2⟩
    · cases ha
  · split at ha
    · rename_i hg _
      subst hg;cases ha;exact h
    · cases ha
  · cases ha
section
variable {X:Cx} {M:Bool} {n:Nat} {r:Option Nat} {st:ASt} {Q:Exit→ASt→Prop} {ops rest:List Oper} {o:Oper} {d:Nat}
end
end Go.Proofs.Yteglgnkcpaagjaa

/- Strings: out of bytes, parts. -/
namespace Go.Proofs.Yteglgnkcpaagjaa
open Go.RowKit
def bsOf (l:List Int):List UInt8:=l.map fun z=>UInt8.ofNat z.toNat
def isBs (l:List Int):Bool:=l.all fun z=>decide (0≤z)&&decide (z < 256)
theorem by_back:∀ l:List Int,isBs l=true→(bsOf l).map (fun c=>Value.int .u8 (c.toNat:Int))=l.map fun z=>Value.int .u8 z
  | [],_=>rfl
  | z :: l,h=>by
    simp only [isBs,List.all_cons,Bool.and_eq_true,decide_eq_true_eq] at h;show Value.int .u8 (((UInt8.ofNat z.toNat).toNat:Nat):Int) :: (bsOf l).map _=_;rw [by_back l h.2,List.map_cons]
    congr 2
    have:(UInt8.ofNat z.toNat).toNat=z.toNat:=UInt8.toNat_ofNat_of_lt' (by show z.toNat < 256; omega)
    rw [this,Int.toNat_of_nonneg h.1.1]
theorem strV_extract (s:List UInt8) (a b:Nat):Value.string ((ByteArray.mk s.toArray).extract a b)=strV ((s.take b).drop a):=by
  unfold strV
  congr 1
  apply ByteArray.ext
  rw [ByteArray.data_extract]
  apply Array.ext'
  simp [Array.toList_extract,List.extract,List.drop_take]
section
variable {X:Cx} {M:Bool} {n:Nat} {r:Option Nat} {st:ASt} {Q:Exit→ASt→Prop} {ops rest:List Oper} {o:Oper} {d:Nat}
theorem run_sliceS {P:Program} {t:TypeId} {s:List UInt8} {w:World} (ht:P.underlying t=some .string) {lo hi:Option Value} {a b:Nat} (h:(Instr.sliceBounds false s.length s.length lo hi none).run P w=.ok (a,b,s.length) w):(Instr.sliceAt t (strV s) lo hi none).run P w=.ok (strV ((s.take b).drop a)) w:=by
  have hsz:(ByteArray.mk s.toArray).size=s.length:=by simp [ByteArray.size]
  unfold Instr.sliceAt Instr.slice;simp only [strV,Sem.run_bind,run_underlying ht,Result.andThen_ok,hsz,h,Option.isSome_none,Bool.false_eq_true,if_false,Sem.run_pure]
  have:=strV_extract s a b
  simp only [strV] at this;rw [this]
end
end Go.Proofs.Yteglgnkcpaagjaa

/- append to slices that are full: rows that are one's own, or frozen as a whole. -/
namespace Go.Proofs.Yteglgnkcpaagjaa
open Go.RowKit
section
variable {P:Program} {o:Oper} {n d:Nat} {D:List Deferred} {L:List (Nat×Value)} {a:Act} {w w0:World} {B:Nat→Prop} {H:List Ck} {T:List (TypeId×TI)} {ops:Array Oper} {KK:Act→World→Prop}
theorem y_append_full {s x:Operand} {t e:TypeId} {i i':TI} {A A2:Option Addr} {k m cc:Nat} {xs news:List Value} (hX:Sym n D L B w0 H a w)
    (hop:o.op=.call { callee:=.builtin .append,args:=#[s,x],argTypes:=#[t,t] }) (ho:o.guard=none∧o.dst=some d) (hd:Nat.blt d n=true)
    (hT:TabOk P T) (h1:T.lookup t=some i) (h2:i.desc=.slice e) (h3:T.lookup e=some i') (h4:Nat.blt 0 i'.size=true) (h5:i'.zero.cells.size=i'.size) (hs:ev L s=some (.slice A k k)) (hx:ev L x=some (.slice A2 m cc))
    (hr1:Reads w A k i'.size xs) (hr:Reads w A2 m i'.size news) (hone:∀ u∈news,u.oneCell'=true) (hb1:(k+m) * i'.bytes≤140737488355328) (hb2:k+m≤140737488355328)
    (hz:m=0→∀ a' w',Sym n D ((d,.slice A k k) :: L) B w0 H a' w'→KK a' w')
    (h:∀ A' c' a' w',Sym n D ((d,.slice A' (k+m) c') :: L) B w0 (.row A' c' e i'.size (k+m) (xs++news) :: H) a' w'→KK a' w'):XO P ops o KK a w:=by
  have e1:=(hT _ _ h1).1;rw [h2] at e1;have e3:=hT _ _ h3
  by_cases hm:m=0
  · subst hm
    have hrun:(execOp a.eval o).run P w=.ok (.value (.slice A k k)) w:=by
      have hrun':(Builtin.append_ #[t,t] o.type #[.slice A k k,.slice A2 0 cc]).run P w=.ok (.slice A k k) w:=by
        have e4:=TI.run_sizeOf e3 w;have hfc:(Builtin.firstCells i'.size 0 (.slice A2 0 cc)).run P w=.ok #[] w:=by
          cases A2 <;> simp [Builtin.firstCells,loadCells,loadCellsFrom]
        simp only [Builtin.append_,Sem.run_bind,run_underlying e1,Result.andThen_ok,e4]
        simp [run_underlying e1,Builtin.lenOf,hfc]
        cases A <;> simp [storeCells,e4,hfc]
      simp [execOp,hop,resolve,invoke,builtin,hX.ev hs,hX.ev hx,hrun']
    exact y_value hX ho hd hrun hX.sh (hz rfl)
  · have hm0:0 < m:=by omega
    cases A with
    | none=>
      have hk:k=0:=by
        by_cases hk:k=0
        · exact hk
        · obtain ⟨b,p,e,_⟩:=hr1.2 (by omega)
          cases e
      subst hk;have hxs:xs=[]:=List.eq_nil_of_length_eq_zero (by rw [hr1.1]; simp);subst hxs;have hsym:Sym n D L B w0 (.row none 0 e i'.size 0 [] :: H) a w:=⟨hX.st,hX.sh.nilRow e i'.size⟩
      exact y_append hsym hop ho hd hT h1 h2 h3 h4 h5 hs hx foc0 hr hone hb1 hb2 h
    | some ad=>
      obtain ⟨inf,hinf,hs1,hs2,hs3⟩:=TI.info e3;obtain ⟨b2,p2,e',hc2⟩:=hr.2 hm0;subst e';have holds:∀ j u,xs[j]?=some u→w.cell? (ad.add j)=some u:=fun j u hu=>by
        have hlt:j < xs.length:=(List.getElem?_eq_some_iff.1 hu).1;rw [hr1.1] at hlt;have hk:0 < k:=by
          rcases Nat.eq_zero_or_pos k with hk | hk
          · rw [hk,Nat.zero_mul] at hlt; omega
          · exact hk
        obtain ⟨b,p,e',hc1⟩:=hr1.2 hk;cases e';rw [Addr.add_lit];exact hc1 j u hu
      have hlen:(xs++news).length=(k+m) * i'.size:=by rw [List.length_append,hr1.1,hr.1,Nat.add_mul]
      have hrun:=run_append_grow (P:=P) w t o.type e inf i'.zero e1 hinf hs3 ad k k xs (by rw [hr1.1,hs1]) holds ⟨b2,p2,none⟩ m cc news (by rw [hr.1,hs1]) (fun j u hu=>by rw [Addr.add_lit]; exact hc2 j u hu) (by omega) (by omega) (growslice_fits (by omega) (by rw [hs2]; exact hb1));have hge:=grownCap_ge w (k+m) k e;have hcm:grownCap w (k+m) k e≤maxLen:=grownCap_le_maxLen w (k+m) k e (by simp only [maxLen]; omega);refine y_value hX ho hd (v:=.slice (some ⟨w.heap.size,0,none⟩) (k+m) (grownCap w (k+m) k e)) (w':=w.drew.alloc (.cells (xs.toArray++news.toArray++Builtin.zeroCells i'.zero.cells (grownCap w (k+m) k e - (k+m))) e)) (by simp [execOp,hop,resolve,invoke,builtin,hX.ev hs,hX.ev hx,hrun]) ?_ (h (some ⟨w.heap.size,0,none⟩) (grownCap w (k+m) k e));have hd1:=hX.sh.drew;have ha:=hd1.alloc (.cells (xs.toArray++news.toArray++Builtin.zeroCells i'.zero.cells (grownCap w (k+m) k e - (k+m))) e);have hp:=List.pairwise_cons.1 ha.apart;refine ⟨ha.below,ha.base,fun ck hck=>?_,List.Pairwise.cons (fun ck hck q e'=>hp.1 ck hck q (by simpa [Ck.at] using e')) hp.2⟩
      rcases List.mem_cons.1 hck with rfl | hck
      · refine ⟨hlen,.inr ⟨w.heap.size,_,(0,0),rfl,hX.sh.fresh,heap_alloc_new w.drew _,.inl rfl,hge,hcm,?_,?_⟩⟩
        · simp only [Array.size_append,List.size_toArray,size_zeroCells,h5,hr1.1,hr.1,← Nat.add_mul]
          congr 1
          omega
        · simp only [Array.toList_append,List.append_assoc]
          rw [← List.append_assoc,← hlen];exact List.take_left
      · exact ha.ok ck (List.mem_cons_of_mem _ hck)
end
section
variable {X:Cx} {M:Bool} {n:Nat} {r:Option Nat} {st:ASt} {Q:Exit→ASt→Prop} {ops rest:List Oper} {o:Oper} {d:Nat}
def StepOk (X:Cx) (n:Nat) (o:Oper) (st st':ASt):Prop:=∀ (R:Nat→Prop) (W:World) (Bi:Bk) (ks:List Nat) (env:Nat→Loc) (B:Nat→Prop) (w0:World) (H:List Ck) (a:Act) (w:World),AI X R W Bi n ks env B w0 H st a w→∀ (KK:Act→World→Prop) (l:List Oper),(∀ a' w' env' H',AI X R W Bi n ks env' B w0 H' st' a' w'→KK a' w')→XO X.P l.toArray o KK a w
theorem ado_sk {st':ASt} {E:List Nat} {ds:DS} {fuel i:Nat} {l':Array Bool} (hi:nth ops i=some o) (hp:StepOk X n o st st') (hE:E.elem i=false) (hl:ds.listed.setIfInBounds i true=l')
    (h:AD X M n ops E fuel ⟨l',false,false,ds.nocall,ds.all⟩ st' Q):ADo X M n ops E fuel ds st Q i:=by
  intro R W Bi B0 w00 CS F ks env B w0 H a w hM hA hD;refine ⟨o,nth_arr hi,hp R W Bi ks env B w0 H a w hA _ _ fun a' w' env' H' hA'=>?_⟩;have hD':=hD.lost (H':=H') (l:=l');rw [hl];exact ⟨⟨fun he=>(by rw [hE] at he; cases he),hD'.F hA'⟩,h R W Bi B0 w00 CS F ks env' B w0 H' a' w' hM hA' hD'⟩
theorem sk_appendR (hX:X.tt.ok X.P) {t e:TypeId} {x y:Operand} {g1 g2:Bool} {sy:SA} {id sz bts:Nat} {ge g:GTy} {l l2:List g.D} {te:TE} {ds:TypeDesc} {zz:Value} (hop:o.op=.call ⟨.builtin .append,⟨[x,y]⟩,⟨[t,t]⟩⟩) (ho:o.guard=none∧o.dst=some d) (hd:(Nat.blt d n&&Nat.blt id fixBase)=true)
    (ht:X.tt.find t=some te) (hte:te.ti.desc=.slice e) (he:X.tt.find e=some ⟨⟨ds,sz,bts,zz⟩,some ge⟩) (hx:ae X st.L x=some (g1,.c (.sl id))) (hg:g1=true) (hy:ae X st.L y=some (g2,sy)) (hg':g2=true)
    (hlk:lk st.H id=some (.lrow e g l)) (hsz:Nat.beq g.size sz=true) (hsrc:srcL st g sy=some l2) (hc:fitB bts (l.length+l2.length)=true):StepOk X n o st ⟨(d,.c (.sl id)) :: subL id .dead st.L,(id,.lrow e g (l++l2)) :: delH id .dead st.H⟩:=by
  intro R W Bi ks env B w0 H a w h KK lo hnext;obtain ⟨vx,hvx,hrx⟩:=h.ev hx hg;obtain ⟨vy,hvy,hry⟩:=h.ev hy hg';obtain ⟨hg1,hg2,hg3⟩:=(TT.get hX he).g ge rfl;obtain ⟨T,hT,h1,h4⟩:=tab2 (TT.get hX ht).ti (TT.get hX he).ti;dsimp only at hg1 hg2 h4;have hzs:zz.cells.size=sz:=by
    have:zz.cells.toList.length=sz:=by rw [hg2,← hg1]; exact FR.length (FR.zeros (B:=B) (w:=w0) ge)
    simpa using this
  simp only [Bool.and_eq_true] at hd;obtain ⟨hd,hfix⟩:=hd;have hsz':=Nat.eq_of_beq_eq_true hsz;simp only [fitB,Bool.and_eq_true,decide_eq_true_eq] at hc;obtain ⟨A2,c2,xs2,rfl,hfl2,hR2⟩:=srcL_ok h hsrc hry;obtain ⟨A,c,m,hen,rfl⟩:=hrx;obtain ⟨ck,K,⟨A',k',hen',hor⟩,hfoc,hturn⟩:=h.turnRow (d:=d) (b':=.lrow e g (l++l2)) hlk (fun q hp=>by
    obtain ⟨_,h5,h6⟩:=h.pin _ _ hp;rw [hen] at h5
    rcases h6 with ⟨b,h6⟩ | h6
    · rw [← h5] at h6; cases h6
    · have:=lt_of_blt hfix; omega)
  rw [hen] at hen';cases hen';have hp4:Nat.blt 0 sz=true:=by rw [← hg1]; exact Nat.ble_eq_true_of_le hg3
  rcases hor with ⟨xs,rfl,hfl⟩ | ⟨rfl,rfl,q2,xs,hfl,hrb⟩
  · rw [hsz'] at hfoc hR2
    refine y_append h.sym hop ho hd hT h1 hte h4 hp4 hzs hvx hvy hfoc hR2 (Flat.ones (fun _ _=>FR.ones) hfl2) hc.1 hc.2 fun A' c' a' w' hY=>?_
    obtain ⟨H',_,h8⟩:=hturn (.row A' c' (l++l2).length) (.row A' c' e g.size (l++l2).length (xs++xs2)) a' w' (.c (.sl id)) _ ⟨A',c',upd_self,.inl ⟨_,rfl,hfl.append hfl2⟩⟩ ⟨A',c',_,upd_self,by rw [List.length_append]⟩ (by rw [hsz',List.length_append]; exact hY.sh) hY.st;exact hnext a' w' _ H' h8
  · have hR1:=hrb.old h.sh
    rw [hsz'] at hR1 hR2;refine y_append_full h.sym hop ho hd hT h1 hte h4 hp4 hzs hvx hvy hR1 hR2 (Flat.ones (fun _ _=>FR.ones) hfl2) hc.1 hc.2 (fun hm a' w' hY=>?_) fun A' c' a' w' hY=>?_
    · have hl2:l2=[]:=List.eq_nil_of_length_eq_zero hm
      subst hl2;obtain ⟨Y,Z,e5,e6⟩:=hfoc;obtain ⟨H',_,h8⟩:=hturn (.row A l.length (l++[]).length) (.row none 0 e g.size 0 []) a' w' (.c (.sl id)) (.slice A l.length l.length) ⟨A,l.length,upd_self,.inr ⟨rfl,by simp,q2,xs,by rw [List.append_nil]; exact hfl,by rw [List.append_nil]; exact hrb⟩⟩ ⟨A,l.length,_,upd_self,by simp⟩ (by rw [e6]; dsimp only; rw [← e5]; exact hY.sh) hY.st;exact hnext a' w' _ H' h8
    · obtain ⟨Y,Z,e5,e6⟩:=hfoc
      obtain ⟨H',_,h8⟩:=hturn (.row A' c' (l++l2).length) (.row A' c' e g.size (l++l2).length (xs++xs2)) a' w' (.c (.sl id)) (.slice A' (l.length+l2.length) c') ⟨A',c',upd_self,.inl ⟨_,rfl,hfl.append hfl2⟩⟩ ⟨A',c',_,upd_self,by rw [List.length_append]⟩ (by
        have h9:=hY.sh;rw [e5] at h9;rw [e6];dsimp only;have hp:(Ck.row A' c' e sz (l.length+l2.length) (xs++xs2) :: (Y++Ck.row none 0 e g.size 0 [] :: Z)).Perm (Ck.row none 0 e g.size 0 [] :: (Y++Ck.row A' c' e sz (l.length+l2.length) (xs++xs2) :: Z)):=by
          refine (List.Perm.cons _ List.perm_middle).trans ?_;refine (List.Perm.swap _ _ _).trans (List.Perm.cons _ List.perm_middle.symm)
        have h10:=(h9.perm hp).weak (List.sublist_cons_self _ _);rw [hsz',List.length_append];exact h10) hY.st
      exact hnext a' w' _ H' h8
end
section
variable {X:Cx} {n:Nat} {st:ASt}
theorem Wk.row2l (id:Nat) {t:TypeId} {g:GTy} {l:List g.D} {cap:Option Nat} (hs:lk st.H id=some (.row t g l cap)):Wk X n st ⟨st.L,putH id (.lrow t g l) st.H⟩:=fun R W Bi M a w ⟨ks,env,B,w0,H,hM,h⟩=>by
  obtain ⟨ck,K,⟨A,k,xs,he,e,hfl,_⟩,⟨Y,Z,h1,h2⟩,h3⟩:=h.setBlk (b':=.lrow t g l) hs;obtain ⟨H',h4⟩:=h3 ck a w ⟨A,k,he,.inl ⟨xs,e,hfl⟩⟩ (by rw [h2]; dsimp only; rw [← h1]; exact h.sh) h.stt;exact ⟨ks,env,B,w0,H',hM,h4⟩
theorem Wk.lfull (s id:Nat) (t:TypeId) (hid:Nat.blt id n=true) {g:GTy} {l:List g.D} {c:Nat} (hs:lk st.L s=some (.c (.lst g l (some c)))) (hc:c=l.length):Wk X n st ⟨(s,.c (.sl id)) :: subL id .dead st.L,(id,.lrow t g l) :: delH id .dead st.H⟩:=fun R W Bi M a w ⟨ks,env,B,w0,H,hM,h⟩=>by
  obtain ⟨v,hv,A,c',xs,rfl,q1,q2,hcap,hfl,hrb⟩:=h.has _ _ hs;have e3:c'=l.length:=(hcap c rfl).trans hc;subst e3;obtain ⟨H2,h1,h2⟩:=h.heap.del (z:=.dead) (upd_other (env:=env) (id:=id) (l:=.row A l.length l.length)) (fun _ _=>trivial);refine ⟨ks,upd env id (.row A l.length l.length),B,w0,.row none 0 t g.size 0 [] :: H2,hM,h.size,h.defs,fun q u hu=>?_,⟨_,H2,rfl,⟨A,_,upd_self,.inr ⟨rfl,rfl,q2,xs,hfl,hrb⟩⟩,h2⟩,(h.sh.nilRow t g.size).weak ((h1.append_right _).cons_cons _),h.sub,h.new,pin_upd h.pin (fun q hp=>by have h1:=(h.pin _ _ hp).1; have h2:=lt_of_blt hid; omega),h.base,h.glob⟩;rw [lk_cons] at hu
  split at hu
  · rename_i e
    subst e;cases hu;exact ⟨_,hv,A,_,_,upd_self,rfl⟩
  · obtain ⟨u0,hu0,rfl⟩:=lk_subL hu
    obtain ⟨u',h6,h7⟩:=h.has q u0 hu0;exact ⟨u',h6,VR.sub (z:=.dead) upd_other (fun _ _=>trivial) h7⟩
def frzL (id:Nat) (st:ASt):Option ASt:=
  match lk st.H id with
  | some (.lrow _ g l)=>some ⟨subL id (.lst g l none) st.L,delH id (.lst g l none) st.H⟩
  | _=>none
theorem lk_putH {b b2:Blk} {id:Nat}:∀ {l:Hp},lk l id=some b→lk (putH id b2 l) id=some b2
  | [],h=>by cases h
  | (k,b') :: r,h=>by
    rw [lk_cons] at h;unfold putH
    split
    · rename_i hk
      rw [lk_cons,if_pos (Nat.eq_of_beq_eq_true hk).symm]
    · rename_i hk
      have hne:¬ id=k:=fun e=>by rw [e,Nat.beq_refl] at hk; cases hk
      rw [if_neg hne] at h;rw [lk_cons,if_neg hne];exact lk_putH h
theorem delH_putH {b:Blk} {id:Nat} {z:SC}:∀ {l:Hp} {b2:Blk},lk l id=some b2→delH id z (putH id b l)=delH id z l
  | [],_,h=>by cases h
  | (k,b') :: r,b2,h=>by
    rw [lk_cons] at h;unfold putH;cases hk:Nat.beq k id with
    | true=>simp only [delH,hk]
    | false=>
      have hne:¬ id=k:=fun e=>by rw [e,Nat.beq_refl] at hk; cases hk
      rw [if_neg hne] at h;simp only [delH,hk,delH_putH h]
theorem Wk.frzL {id:Nat} {st':ASt} (hf:frzL id st=some st'):Wk X n st st':=fun R W Bi M a w ⟨ks,env,B,w0,H,hM,h⟩=>by
  unfold Go.Proofs.Yteglgnkcpaagjaa.frzL at hf
  split at hf
  · rename_i t g l hlk
    cases hf;obtain ⟨ck,K,⟨A,k,he,hor⟩,⟨Y,Z,e1,e2⟩,h5⟩:=h.setBlk (b':=.row t g l none) hlk
    rcases hor with ⟨xs,rfl,hfl⟩ | ⟨rfl,rfl,q2,xs,hfl,hrb⟩
    · obtain ⟨H',h6⟩:=h5 _ a w ⟨A,k,xs,he,rfl,hfl,fun _ hq=>by cases hq⟩ (by rw [e2]; dsimp only; rw [← e1]; exact h.sh) h.stt
      have hfz:Go.Proofs.Yteglgnkcpaagjaa.frz id ⟨st.L,putH id (.row t g l none) st.H⟩=some ⟨subL id (.lst g l none) st.L,delH id (.lst g l none) st.H⟩:=by
        unfold Go.Proofs.Yteglgnkcpaagjaa.frz;dsimp only;rw [lk_putH hlk];dsimp only;rw [delH_putH hlk]
      exact Wk.frz (X:=X) (n:=n) hfz R W Bi M a w ⟨ks,env,B,w0,H',hM,h6⟩
    · have hcr:∀ v,CR env B w0 (.sl id) v→CR env B w0 (.lst g l none) v:=by
        rintro v ⟨A',c',m,he',rfl⟩;rw [he] at he';cases he';exact ⟨A,l.length,xs,rfl,Nat.le_refl _,q2,(fun _ hq=>by cases hq),hfl,hrb⟩
      obtain ⟨H2,h1,h2⟩:=h.heap.del (id:=id) (env':=env) (fun _ _=>rfl) hcr;refine ⟨ks,env,B,w0,H2,hM,h.size,h.defs,fun q u hu=>?_,h2,h.sh.weak (h1.append_right _),h.sub,h.new,h.pin,h.base,h.glob⟩;obtain ⟨u0,hu0,rfl⟩:=lk_subL hu;obtain ⟨u',h6,h7⟩:=h.has q u0 hu0;exact ⟨u',h6,VR.sub (fun _ _=>rfl) hcr h7⟩
  · cases hf
end
end Go.Proofs.Yteglgnkcpaagjaa

/- Operations that give a value, by lemmas of their own: also in regions that draw. -/
namespace Go.Proofs.Yteglgnkcpaagjaa
open Go.RowKit
section
variable {X:Cx} {M:Bool} {n:Nat} {r:Option Nat} {st:ASt} {Q:Exit→ASt→Prop} {ops rest:List Oper} {o:Oper} {d:Nat} {sa:SA}
theorem pk_loadH (hX:X.tt.ok X.P) {t T:TypeId} {te:TE} {x:Operand} {id d2 i:Nat} {el:Bool} {g:GTy} {l:List (List g.D)} {cap:Option Nat} {g1:Bool} (hop:o.op=.load t x)
    (ht:X.tt.find t=some te) (hag:isAggD te.ti.desc=false) (hx:ae X st.L x=some (g1,.c (.elt id 1 i 0))) (hg1:g1=true) (hlk:lk st.H id=some (.hrow el T g l cap i d2)):PureOk X st o (.c (.sl d2)):=by
  intro R W Bi n ks env B w0 H a w1 hA;obtain ⟨vx,h1,b,c,m,he,rfl⟩:=hA.ev hx hg1;obtain ⟨ck,K,⟨A,k,ys,A',c',m',he',rfl,hfl,hi,he2,_⟩,hf⟩:=hA.heap.foc hlk;rw [he] at he';cases he';have hyl':ys.length=l.length:=FRe.flat_length hfl;refine ⟨.slice A' m' c',⟨A',c',m',he2,rfl⟩,fun w hs=>?_⟩;have hown:Owns w (fun k=>R k∨B k) T 1 (some ⟨b,0,none⟩) c l.length (ys.set i (.slice A' m' c')):=(hs (by rw [hop]; rfl)).ok _ hf.more.mem;have hcell:w.cell? ⟨b,i * 1+0,none⟩=some (.slice A' m' c'):=by
    rw [hown.cells rfl _ (by omega)]
    simp [List.getElem?_set,hyl',hi]
  exact run_load1 hA.stt hop (TT.get hX ht).ti hag h1 hcell
theorem pk_eqlA {t t':TypeId} {u v:Operand} {g1 g2 c1 c2:Bool} {cs ds:List SC} {g:GTy} {x y:g.D} (hK:KeyOk X.P t g) (hop:o.op=.binOp .eql t u v t')
    (hu:ae X st.L u=some (g1,.agg cs)) (hg1:g1=true) (hv:ae X st.L v=some (g2,.agg ds)) (hg2:g2=true) (hx:dec g cs=some (c1,x,[])) (hc1:c1=true) (hy:dec g ds=some (c2,y,[])) (hc2:c2=true):PureOk X st o (.c (.val (.bool (g.beq x y)))):=by
  intro R W Bi n ks env B w0 H a w1 hA;obtain ⟨vu,h1,h2⟩:=hA.ev hu hg1;obtain ⟨vv,h3,h4⟩:=hA.ev hv hg2;rw [CsR.vals hK.key h2 hx hc1] at h1;rw [CsR.vals hK.key h4 hy hc2] at h3;exact ⟨_,rfl,fun w _=>p_eql_a hA.stt hop h1 h3 hK.guard (hK.eq x y) w⟩
theorem pk_neqA {t t':TypeId} {u v:Operand} {g1 g2 c1 c2:Bool} {cs ds:List SC} {g:GTy} {x y:g.D} (hK:KeyOk X.P t g) (hop:o.op=.binOp .neq t u v t')
    (hu:ae X st.L u=some (g1,.agg cs)) (hg1:g1=true) (hv:ae X st.L v=some (g2,.agg ds)) (hg2:g2=true) (hx:dec g cs=some (c1,x,[])) (hc1:c1=true) (hy:dec g ds=some (c2,y,[])) (hc2:c2=true):PureOk X st o (.c (.val (.bool (!(g.beq x y))))):=by
  intro R W Bi n ks env B w0 H a w1 hA;obtain ⟨vu,h1,h2⟩:=hA.ev hu hg1;obtain ⟨vv,h3,h4⟩:=hA.ev hv hg2;rw [CsR.vals hK.key h2 hx hc1] at h1;rw [CsR.vals hK.key h4 hy hc2] at h3;exact ⟨_,rfl,fun w _=>p_neq_a hA.stt hop h1 h3 hK.guard (hK.eq x y) w⟩
end
end Go.Proofs.Yteglgnkcpaagjaa

/- A row of one's own that a callee reads as a list. -/
namespace Go.Proofs.Yteglgnkcpaagjaa
open Go.RowKit
section
variable {env:Nat→Loc} {B B':Nat→Prop} {w w':World}
end
end Go.Proofs.Yteglgnkcpaagjaa

/- A frozen slice without room, in a cell, is a row to which can be appended. -/
namespace Go.Proofs.Yteglgnkcpaagjaa
open Go.RowKit
def setCs (p:Nat) (c:SC):List SC→List SC
  | []=>[]
  | x :: r=>match p with
    | 0=>c :: r
    | q+1=>x :: setCs q c r
def setCl (k p:Nat) (c:SC):Hp→Hp
  | []=>[]
  | (j,b) :: r=>match Nat.beq j k with
    | true=>(j,match b with
      | .cells t cs=>.cells t (setCs p c cs)
      | b=>b) :: r
    | false=>(j,b) :: setCl k p c r
theorem CsR.at {env:Nat→Loc} {B:Nat→Prop} {w:World}:∀ {p:Nat} {cs:List SC} {vs:List Value} {c:SC},CsR env B w cs vs→cs[p]?=some c→∃ v,vs[p]?=some v∧CR env B w c v
  | _,[],_,_,_,hp=>by cases hp
  | 0,x :: cs,_,c,⟨v,r,e,h1,_⟩,hp=>by
    cases hp;exact ⟨v,by rw [e]; rfl,h1⟩
  | p+1,x :: cs,_,c,⟨v,r,e,_,h2⟩,hp=>by
    obtain ⟨u,h3,h4⟩:=CsR.at (p:=p) (cs:=cs) h2 (by simpa using hp);exact ⟨u,by rw [e]; simpa using h3,h4⟩
theorem CsR.setAt {env:Nat→Loc} {B:Nat→Prop} {w:World} {c:SC}:∀ {p:Nat} {cs:List SC} {vs:List Value} {v:Value},CsR env B w cs vs→vs[p]?=some v→CR env B w c v→CsR env B w (setCs p c cs) vs
  | 0,[],_,_,h,_,_=>h
  | _+1,[],_,_,h,_,_=>h
  | 0,x :: cs,_,v,⟨u,r,e,_,h2⟩,hp,hc=>by
    rw [e] at hp;cases hp;exact ⟨_,r,e,hc,h2⟩
  | p+1,x :: cs,_,v,⟨u,r,e,h1,h2⟩,hp,hc=>by
    rw [e] at hp;exact ⟨u,r,e,h1,CsR.setAt (p:=p) h2 (by simpa using hp) hc⟩
section
variable {env:Nat→Loc} {B:Nat→Prop} {w:World}
theorem HR.lfull {k p id:Nat} {t:TypeId} {cs:List SC} {g:GTy} {li:List g.D} {c:Nat} (hk:Nat.beq k id=false) (hc:c=li.length):∀ {l:Hp} {H:List Ck},HR env B w l H→lk l k=some (.cells t cs)→cs[p]?=some (.lst g li (some c)) →
    ∃ A xs,li.length≤maxLen∧Flat (FR B w g) li xs∧RB B w A li.length g.size xs∧∀ env',(∀ j,j≠id→env' j=env j)→env' id=.row A li.length li.length→∃ H',H'.Sublist H∧HR env' B w (setCl k p (.sl id) (delH id .dead l)) H'
  | [],_,_,hl,_=>by cases hl
  | (j,b) :: l,_,⟨ck,H',e,h1,h2⟩,hl,hp=>by
    rw [lk_cons] at hl;subst e
    split at hl
    · rename_i e
      subst e;cases hl;obtain ⟨bb,vs,q1,q2,q3⟩:=h1;obtain ⟨v,q4,A,c',xs,q5,q6,q7,q8,q9,q10⟩:=CsR.at q3 hp;have ec:c'=li.length:=(q8 c rfl).trans hc;subst ec;refine ⟨A,xs,q7,q9,q10,fun env' he hid=>?_⟩;obtain ⟨H2,hs,h3⟩:=HR.del (z:=.dead) he (fun _ _=>trivial) h2;have hb:BR env' B w k ((Blk.cells t cs).sub id .dead) ck:=BR.sub (z:=.dead) he (fun _ _=>trivial) (Nat.ne_of_beq_eq_false hk) (b:=.cells t cs) ⟨bb,vs,q1,q2,q3⟩;obtain ⟨bb',vs',r1,r2,r3⟩:=hb;have hvs:vs'=vs:=by
        rw [q2] at r2;cases r2
        rfl
      subst hvs;refine ⟨ck :: H2,hs.cons_cons _,?_⟩;unfold delH;rw [hk];show HR env' B w (setCl k p (.sl id) ((k,(Blk.cells t cs).sub id .dead) :: delH id .dead l)) (ck :: H2);unfold setCl;rw [Nat.beq_refl];exact ⟨ck,H2,rfl,⟨bb',vs',r1,r2,CsR.setAt r3 q4 ⟨A,_,_,hid,q5⟩⟩,h3⟩
    · rename_i hne
      obtain ⟨A,xs,q1,q2,q3,q4⟩:=HR.lfull hk hc h2 hl hp;refine ⟨A,xs,q1,q2,q3,fun env' he hid=>?_⟩;obtain ⟨H2,hs,h3⟩:=q4 env' he hid;unfold delH
      split
      · exact ⟨H2,hs.cons _,h3⟩
      · rename_i hj
        refine ⟨ck :: H2,hs.cons_cons _,?_⟩;unfold setCl;have hjk:Nat.beq j k=false:=by
          cases hb:Nat.beq j k with
          | false=>rfl
          | true=>exact absurd (Nat.eq_of_beq_eq_true hb).symm hne
        rw [hjk];exact ⟨ck,H2,rfl,BR.sub (z:=.dead) he (fun _ _=>trivial) (Nat.ne_of_beq_eq_false hj) h1,h3⟩
end
theorem Wk.lfullC {X:Cx} {n:Nat} {st:ASt} (k p id:Nat) (t:TypeId) (hid:Nat.blt id n=true) (hki:Nat.beq k id=false) {T:TypeId} {cs:List SC} {g:GTy} {l:List g.D} {c:Nat} (hs:lk st.H k=some (.cells T cs)) (hp:cs[p]?=some (.lst g l (some c))) (hc:c=l.length) :
    Wk X n st ⟨subL id .dead st.L,(id,.lrow t g l) :: setCl k p (.sl id) (delH id .dead st.H)⟩:=fun R W Bi M a w ⟨ks,env,B,w0,H,hM,h⟩=>by
  obtain ⟨A,xs,q2,hfl,hrb,hq⟩:=HR.lfull hki hc h.heap hs hp;obtain ⟨H2,h1,h2⟩:=hq (upd env id (.row A l.length l.length)) upd_other upd_self;refine ⟨ks,upd env id (.row A l.length l.length),B,w0,.row none 0 t g.size 0 [] :: H2,hM,h.size,h.defs,fun q u hu=>?_,⟨_,H2,rfl,⟨A,_,upd_self,.inr ⟨rfl,rfl,q2,xs,hfl,hrb⟩⟩,h2⟩,(h.sh.nilRow t g.size).weak ((h1.append_right _).cons_cons _),h.sub,h.new,pin_upd h.pin (fun q hp=>by have h1:=(h.pin _ _ hp).1; have h2:=lt_of_blt hid; omega),h.base,h.glob⟩;obtain ⟨u0,hu0,rfl⟩:=lk_subL hu;obtain ⟨u',h6,h7⟩:=h.has q u0 hu0;exact ⟨u',h6,VR.sub (z:=.dead) upd_other (fun _ _=>trivial) h7⟩
end Go.Proofs.Yteglgnkcpaagjaa

/- Calls of functions with one bound argument (a method's receiver); a value taken apart. -/
namespace Go.Proofs.Yteglgnkcpaagjaa
open Go.RowKit
section
variable {P:Program} {ops:Array Oper} {o:Oper} {KK:Act→World→Prop} {n:Nat} {D:List Deferred} {L:List (Nat×Value)} {B:Nat→Prop} {w0:World} {H:List Ck} {a:Act} {w:World} {d:Nat}
theorem run_callB {f:FuncId} {fn:Func} {s:Nat} {p:Value} {xs:List Operand} {ts:Array TypeId} {vs:List Value} (hX:Sym n D L B w0 H a w) (hop:o.op=.call { callee:=.value (.tmp s),args:=xs.toArray,argTypes:=ts })
    (hs:L.lookup s=some (.func (.func f) #[p] #[])) (hfn:P.funcs[f]?=some fn)
    (hn : (fn.name == "runtime.NumGoroutine") = false) (hb : fn.body.isNone = false) (hv : evs L xs = some vs) : (execOp a.eval o).run P w = .ok (.enter f (p :: vs).toArray) w := by
  have e:a.eval (.tmp s)=.func (.func f) #[p] #[]:=hX.ev (x:=.tmp s) hs
  have hn' : fn.name ≠ "runtime.NumGoroutine" := by simpa using hn
  have hb':fn.body≠none:=by intro h; rw [h] at hb; cases hb
  simp [execOp,hop,resolve,e,Deferred.ofValue,invoke,callFunc,program,Sem.run,hfn,hn',hb',hX.st.evs hv]
theorem y_callB {f:FuncId} {fn:Func} {s:Nat} {p:Value} {xs:List Operand} {ts:Array TypeId} {vs:List Value} {R:Value→World→Prop} (hX:Sym n D L B w0 H a w)
    (hop:o.op=.call { callee:=.value (.tmp s),args:=xs.toArray,argTypes:=ts }) (ho:o.guard=none∧o.dst=some d) (hd:Nat.blt d n=true) (hs:L.lookup s=some (.func (.func f) #[p] #[]))
    (hfn : P.funcs[f]? = some fn) (hn : (fn.name == "runtime.NumGoroutine") = false) (hb : fn.body.isNone = false) (hv : evs L xs = some vs) (hC : Ret P f (p :: vs).toArray w R)
    (h:∀ v a' w',R v w'→St n D ((d,v) :: L) a'→KK a' w'):XO P ops o KK a w:=by
  refine .inl ⟨by simp [Region.wanted,ho.1],.inr (.inr ⟨f,(p :: vs).toArray,w,run_callB hX hop hs hfn hn hb hv,?_⟩)⟩;refine Calls.mono hC ?_;rintro e w' ⟨v,rfl,hR⟩;exact ⟨v,rfl,h v _ w' hR (by rw [ho.2]; exact hX.st.put d v (lt_of_blt hd))⟩
end
section
variable {X:Cx} {M:Bool} {n:Nat} {r:Option Nat} {st:ASt} {Q:Exit→ASt→Prop} {ops rest:List Oper} {o:Oper} {d:Nat}
end
section
variable {X:Cx} {M:Bool} {n:Nat} {st:ASt} {Q:Exit→ASt→Prop} {ops:List Oper} {E:List Nat} {ds:DS} {listed':Array Bool} {fuel d i:Nat} {o:Oper}
end
end Go.Proofs.Yteglgnkcpaagjaa

/- Operations under a guard that may not be there itself. -/
namespace Go.Proofs.Yteglgnkcpaagjaa
open Go.RowKit
section
variable {X:Cx} {M:Bool} {n:Nat} {r:Option Nat} {st:ASt} {Q:Exit→ASt→Prop} {ops rest:List Oper} {o:Oper} {d:Nat}
end
end Go.Proofs.Yteglgnkcpaagjaa

/- copy(x, y): a row of one's own takes the entries of a slice of the same length. -/
namespace Go.Proofs.Yteglgnkcpaagjaa
open Go.RowKit
section
variable {X:Cx} {M:Bool} {n:Nat} {r:Option Nat} {ops:List Oper} {rest:List Oper} {o:Oper} {d:Nat} {st:ASt} {Q:Exit→ASt→Prop}
theorem sk_copy (hX:X.tt.ok X.P) {t e:TypeId} {x y:Operand} {g1 g2:Bool} {sy:SA} {id sz bts:Nat} {ge g:GTy} {l l2:List g.D} {cap:Option Nat} {te:TE} {ds:TypeDesc} {zz:Value} (hop:o.op=.call ⟨.builtin .copy,⟨[x,y]⟩,⟨[t,t]⟩⟩) (ho:o.guard=none∧o.dst=some d) (hd:Nat.blt d n=true)
    (ht:X.tt.find t=some te) (hte:te.ti.desc=.slice e) (he:X.tt.find e=some ⟨⟨ds,sz,bts,zz⟩,some ge⟩) (hx:ae X st.L x=some (g1,.c (.sl id))) (hg:g1=true) (hy:ae X st.L y=some (g2,sy)) (hg':g2=true)
    (hlk:lk st.H id=some (.row e g l cap)) (hsz:Nat.beq g.size sz=true) (hsrc:srcL st g sy=some l2) (hc:Nat.beq l2.length l.length=true):StepOk X n o st ⟨(d,.c (.val (.int .i64 (l.length:Int)))) :: st.L,putH id (.row e g l2 cap) st.H⟩:=by
  intro R W Bi ks env B w0 H a w h KK lo hnext;obtain ⟨vx,hvx,hrx⟩:=h.ev hx hg;obtain ⟨vy,hvy,hry⟩:=h.ev hy hg';obtain ⟨hg1,hg2,hg3⟩:=(TT.get hX he).g ge rfl;obtain ⟨T,hT,h1,h4⟩:=tab2 (TT.get hX ht).ti (TT.get hX he).ti;have hsz':=Nat.eq_of_beq_eq_true hsz;have hcl:=Nat.eq_of_beq_eq_true hc;obtain ⟨A2,c2,xs2,rfl,hfl2,hR2⟩:=srcL_ok h hsrc hry;obtain ⟨A,c,m,hen,rfl⟩:=hrx;obtain ⟨ck,K,⟨A',k',xs,hen',rfl,hfl,hcap⟩,hfoc,hturn⟩:=h.setBlk (b':=.row e g l2 cap) hlk;rw [hen] at hen';cases hen';rw [hsz'] at hfoc hR2;rw [hcl] at hvy hR2;refine y_copy h.sym hop ho hd hT h1 hte h4 hvx hvy hfoc hR2 (Flat.ones (fun _ _=>FR.ones) hfl2) fun a' w' hY=>?_
  obtain ⟨H',h8⟩:=hturn (.row A c e g.size l.length xs2) a w' ⟨A,c,xs2,by rw [hcl]; exact hen,by rw [hcl],hfl2,hcap⟩ (by rw [hsz']; exact hY.sh) h.stt;exact hnext a' w' _ H' (h8.set rfl hY.st)
end
end Go.Proofs.Yteglgnkcpaagjaa

/- Arrays of arrays of the call's own, indexed by variables: one row of the innermost elements. -/
namespace Go.Proofs.Yteglgnkcpaagjaa
open Go.RowKit
section
variable {X:Cx} {M:Bool} {n:Nat} {r:Option Nat} {ops rest:List Oper} {o:Oper} {d:Nat} {st:ASt} {Q:Exit→ASt→Prop}
end
end Go.Proofs.Yteglgnkcpaagjaa

/- Names for long terms. -/
namespace Go.Proofs.Yteglgnkcpaagjaa
open Go.RowKit
def nm {α β:Type} (x:α) (k:α→Option β):Option β:=k x
section
variable {X:Cx} {n:Nat} {st:ASt}
end
/-! ### Arrays that are rows are frozen -/
section
variable {X:Cx} {R:Nat→Prop} {W:World} {Bi:Bk} {n:Nat} {ks:List Nat} {env:Nat→Loc} {B:Nat→Prop} {w0:World} {H:List Ck} {st st':ASt} {a:Act} {w:World}
theorem AI.frzA (h:AI X R W Bi n ks env B w0 H st a w) (s:Nat) {id sz:Nat} {t:TypeId} {g:GTy} {l:List g.D} {cap:Option Nat} (hs:lk st.L s=some (.c (.elt id sz 0 0))) (hlk:lk st.H id=some (.row t g l cap)):∃ env' B' w0' H',AI X R W Bi n ks env' B' w0' H' ⟨(s,.c (.par g l)) :: subL id .dead st.L,delH id .dead st.H⟩ a w:=by
  obtain ⟨c0,_,⟨A,k,xs0,he,rfl,_,hcap⟩,hfoc0⟩:=h.heap.foc hlk;have hup:Up B w0 (fun q=>B q∨A.map (·.block)=some q) w:=⟨fun q hq=>.inl hq,fun q hq=>h.sh.below.block q (.inr hq)⟩
  obtain ⟨c,Y,Z,⟨A',k',xs,he',rfl,hfl,_⟩,h2,h3⟩:=(h.heap.up hup).take hlk;rw [he] at he';cases he';have hmem:Ck.row A k t g.size l.length xs∈H++ks.map mkO:=by rw [h2]; simp
  have hown:Owns w (fun k=>R k∨B k) t g.size A k l.length xs:=h.sh.ok _ hmem;have hnew:∀ q,A.map (·.block)=some q→¬ (R q∨B q)∧q < w.heap.size:=fun q hq=>(h.sh.ok _ hmem).lt hq
  obtain ⟨H2,h4,h5,h45⟩:=h3 env .dead (fun _ _=>rfl) (fun _ _=>trivial);have hpart:=h.sh.apart;rw [h2,List.append_assoc,List.cons_append] at hpart;refine ⟨env,_,w,H2,⟨h.size,h.defs,fun q u hu=>?_,h5,?_,fun q hq=>.inl (h.sub q hq),fun q hq=>?_,h.pin,h.base.trans ⟨h.sh.below.os,h.sh.below.tape,h.sh.below.output,h.sh.below.size,fun q hq=>h.sh.below.block q (.inl hq)⟩,fun i x hx=>(h.glob i x hx).up hup⟩⟩
  · rw [lk_cons] at hu
    split at hu
    · rename_i e
      subst e;cases hu;obtain ⟨u',h6,b,c',n',h7,h8⟩:=h.has _ _ hs;rw [he] at h7;cases h7;refine ⟨u',h6,b,0,xs,by rw [h8]; simp,.inr rfl,hfl,fun j u hj=>?_⟩;have hr:Reads w (some ⟨b,0,none⟩) l.length g.size xs:=Reads.rowM h.sh hmem;have hl:=FR.flat_length hfl;have hpos:0 < l.length:=by
        rcases Nat.eq_zero_or_pos l.length with e | e
        · rw [e,Nat.zero_mul] at hl
          have:=(List.getElem?_eq_some_iff.1 hj).1
          omega
        · exact e
      obtain ⟨b',p,e,hc⟩:=hr.2 hpos;cases e;exact hc j u hj
    · obtain ⟨u0,hu0,rfl⟩:=lk_subL hu
      obtain ⟨u',h6,h7⟩:=h.has q u0 hu0;exact ⟨u',h6,VR.sub (z:=.dead) (fun _ _=>rfl) (fun _ _=>trivial) (h7.up hup)⟩
  · have hs:SH (fun k=>R k∨B k) w0 (H2++ks.map mkO) w:=by
      have h6:=h.sh;rw [h2] at h6;have hp:(Y++Ck.row A k t g.size l.length xs :: Z++ks.map mkO).Perm (Ck.row A k t g.size l.length xs :: (Y++Z++ks.map mkO)):=by
        simp only [List.append_assoc,List.cons_append];exact List.perm_middle
      exact (h6.perm hp).weak (((h4.append_right _)).cons _)
    refine ⟨KO.refl _ _,fun q hq=>?_,fun c hc=>(hs.ok c hc).base fun b hb hB=>?_,hs.apart⟩
    · rcases hq with hq | hq | hq
      · exact h.sh.base q (.inl hq)
      · exact h.sh.base q (.inr hq)
      · exact (hnew q hq).2
    · rcases hB with hB | hB | hB
      · exact ((hs.ok c hc).lt hb).1 (.inl hB)
      · exact ((hs.ok c hc).lt hb).1 (.inr hB)
      · have hcm:c∈Y++(Z++ks.map mkO):=by
          rcases List.mem_append.1 hc with hc | hc
          · have:=h4.subset hc
            rcases List.mem_append.1 this with h7 | h7
            · exact List.mem_append_left _ h7
            · exact List.mem_append_right _ (List.mem_append_left _ h7)
          · exact List.mem_append_right _ (List.mem_append_right _ hc)
        rw [List.pairwise_append,List.pairwise_cons] at hpart;obtain ⟨_,⟨h8,_⟩,h9⟩:=hpart
        rcases List.mem_append.1 hcm with h7 | h7
        · exact h9 c h7 _ List.mem_cons_self b hb hB
        · exact h8 c h7 b hB hb
  · rcases hq with hq | hq
    · exact (h.new q hq).imp_right fun h'=>⟨h'.1,h'.2.keep (h.sh.below.block q (.inr hq))⟩
    · exact .inr ⟨fun hR=>(hnew q hq).1 (.inl hR),(h.sh.ok _ hmem).cells rfl hq⟩
theorem Wk.frzA (s:Nat) {id sz:Nat} {t:TypeId} {g:GTy} {l:List g.D} {cap:Option Nat} (hs:lk st.L s=some (.c (.elt id sz 0 0))) (hlk:lk st.H id=some (.row t g l cap)):Wk X n st ⟨(s,.c (.par g l)) :: subL id .dead st.L,delH id .dead st.H⟩:=fun _ _ _ _ _ _ ⟨ks,env,B,w0,H,hM,hA⟩=>by
  obtain ⟨env',B',w0',H',h⟩:=hA.frzA s hs hlk;exact ⟨ks,env',B',w0',H',hM,h⟩
end
end Go.Proofs.Yteglgnkcpaagjaa

/- Shapes: states with data in them, known but for the data. -/
namespace Go.Proofs.Yteglgnkcpaagjaa
open Go.RowKit
abbrev HL:List Type→Type
  | []=>Unit
  | A :: r=>A×HL r
abbrev TupT:List Type→Type
  | []=>Unit
  | [A]=>A
  | A :: B :: r=>A×TupT (B :: r)
def toT:(l:List Type)→HL l→TupT l
  | [],_=>()
  | [_],u=>u.1
  | _ :: B :: r,u=>(u.1,toT (B :: r) u.2)
def ofT:(l:List Type)→TupT l→HL l
  | [],_=>()
  | [_],u=>(u,())
  | _ :: B :: r,u=>(u.1,ofT (B :: r) u.2)
theorem ofT_toT:∀ (l:List Type) (u:HL l),ofT l (toT l u)=u
  | [],_=>rfl
  | [_],_=>rfl
  | _ :: B :: r,u=>by
    show (u.1,ofT (B :: r) (toT (B :: r) u.2))=u;rw [ofT_toT (B :: r)]
inductive CapS where
  | id (i:Nat)
  | fz (g:GTy)
abbrev capsLT:List CapS→List Type→List Type
  | [],T=>T
  | .id _ :: r,T=>capsLT r T
  | .fz g :: r,T=>g.D :: capsLT r T
def capsS:(l:List CapS)→{T:List Type}→HL (capsLT l T)→List Cap×HL T
  | [],_,t=>([],t)
  | .id i :: r,_,u=>(.id i :: (capsS r u).1,(capsS r u).2)
  | .fz g :: r,_,u=>(.fz g u.1 :: (capsS r u.2).1,(capsS r u.2).2)
def castD {g g':GTy} (h:g'=g) (x:g'.D):g.D:=h ▸ x
def castL {g g':GTy} (h:g'=g) (l:List g'.D):List g.D:=h ▸ l
def capsGet:(l:List CapS)→List Cap→{T:List Type}→HL T→Option (HL (capsLT l T))
  | [],[],_,t=>some t
  | .id i :: r,.id j :: s,_,t=>match Nat.beq i j with
    | true=>capsGet r s t
    | false=>none
  | .fz g :: r,.fz g' x :: s,_,t=>match decEq g' g with
    | isTrue h=>match capsGet r s t with
      | some u=>some (castD h x,u)
      | none=>none
    | isFalse _=>none
  | _,_,_,_=>none
theorem capsGet_ok:∀ {l:List CapS} {s:List Cap} {T:List Type} {t:HL T} {u:HL (capsLT l T)},capsGet l s t=some u→capsS l u=(s,t)
  | [],[],_,_,_,h=>by cases h; rfl
  | .id i :: r,.id j :: s,_,t,u,h=>by
    unfold capsGet at h
    split at h
    · rename_i e
      have:=Nat.eq_of_beq_eq_true e
      subst this
      have:=capsGet_ok h
      unfold capsS;rw [this]
    · cases h
  | .fz g :: r,.fz g' x :: s,_,t,u,h=>by
    unfold capsGet at h
    split at h
    · rename_i e _
      subst e
      split at h
      · rename_i u' e
        cases h
        have:=capsGet_ok e
        unfold capsS;rw [this]
        rfl
      · cases h
    · cases h
  | [],_ :: _,_,_,_,h=>by cases h
  | .id _ :: _,[],_,_,_,h=>by cases h
  | .fz _ :: _,[],_,_,_,h=>by cases h
  | .id _ :: _,.fz _ _ :: _,_,_,_,h=>by cases h
  | .fz _ :: _,.id _ :: _,_,_,_,h=>by cases h
inductive CS where
  | raw (c:SC)
  | int (k:IntKind)
  | bool
  | str
  | lst (g:GTy)
  | lstc (g:GTy)
  | lstx (g:GTy)
  | lstq (g:GTy)
  | pel (g:GTy) (off:Nat)
  | par (g:GTy)
  | fn (f:FuncId) (cs:List CapS)
  | elt (id sz off:Nat)
  | nel (id:Nat)
  | slf (id:Nat)
abbrev CS.LT:CS→List Type→List Type
  | .raw _,T=>T
  | .int _,T=>Int :: T
  | .bool,T=>Bool :: T
  | .str,T=>List UInt8 :: T
  | .lst g,T=>List g.D :: T
  | .lstc g,T=>List g.D :: T
  | .lstx g,T=>List g.D :: Nat :: T
  | .lstq g,T=>List g.D :: Option Nat :: T
  | .pel g _,T=>g.D :: T
  | .par g,T=>List g.D :: T
  | .fn _ cs,T=>capsLT cs T
  | .elt _ _ _,T=>Nat :: T
  | .nel _,T=>Nat :: T
  | .slf _,T=>Bool :: T
def CS.S:(s:CS)→{T:List Type}→HL (s.LT T)→SC×HL T
  | .raw c,_,t=>(c,t)
  | .int k,_,u=>(.val (.int k u.1),u.2)
  | .bool,_,u=>(.val (.bool u.1),u.2)
  | .str,_,u=>(.str u.1,u.2)
  | .lst g,_,u=>(.lst g u.1 none,u.2)
  | .lstc g,_,u=>(.lst g u.1 (some u.1.length),u.2)
  | .lstx g,_,u=>(.lst g u.1 (some u.2.1),u.2.2)
  | .lstq g,_,u=>(.lst g u.1 u.2.1,u.2.2)
  | .pel g off,_,u=>(.pel g u.1 off,u.2)
  | .par g,_,u=>(.par g u.1,u.2)
  | .fn f cs,_,u=>(.fn f (capsS cs u).1,(capsS cs u).2)
  | .elt id sz off,_,u=>(.elt id sz u.1 off,u.2)
  | .nel id,_,u=>(.nel id u.1,u.2)
  | .slf id,_,u=>(.slf u.1 id,u.2)
def valEqv:Value→Value→Bool
  | .slice none 0 0,.slice none 0 0=>true
  | .pointer none,.pointer none=>true
  | .map none,.map none=>true
  | .nilIface,.nilIface=>true
  | _,_=>false
def SC.eqv:SC→SC→Bool
  | .dead,_=>true
  | .ptr i o,.ptr j p=>Nat.beq i j&&Nat.beq o p
  | .sl i,.sl j=>Nat.beq i j
  | .mref i,.mref j=>Nat.beq i j
  | .nel i o,.nel j p=>Nat.beq i j&&Nat.beq o p
  | .bfn f i,.bfn g j=>Nat.beq f g&&Nat.beq i j
  | .val v,.val u=>valEqv v u
  | _,_=>false
def CI (x y:SC):Prop:=∀ env B w v,CR env B w x v→CR env B w y v
theorem valEqv_ok:∀ {v u:Value},valEqv v u=true→v=u:=by
  intro v u h;unfold valEqv at h
  split at h <;> first | rfl | cases h
theorem SC.eqv_ok {c x:SC} (h:c.eqv x=true):CI x c:=by
  unfold SC.eqv at h
  split at h
  · intro _ _ _ _ _; trivial
  · simp only [Bool.and_eq_true] at h
    rw [Nat.eq_of_beq_eq_true h.1,Nat.eq_of_beq_eq_true h.2]; exact fun _ _ _ _ h=>h
  · rw [Nat.eq_of_beq_eq_true h]; exact fun _ _ _ _ h=>h
  · rw [Nat.eq_of_beq_eq_true h]; exact fun _ _ _ _ h=>h
  · simp only [Bool.and_eq_true] at h
    rw [Nat.eq_of_beq_eq_true h.1,Nat.eq_of_beq_eq_true h.2]; exact fun _ _ _ _ h=>h
  · simp only [Bool.and_eq_true] at h
    rw [Nat.eq_of_beq_eq_true h.1,Nat.eq_of_beq_eq_true h.2]; exact fun _ _ _ _ h=>h
  · rw [valEqv_ok h]; exact fun _ _ _ _ h=>h
  · cases h
def isNil:Value→Bool
  | .slice none 0 0=>true
  | _=>false
theorem isNil_ok {v:Value} (h:isNil v=true):v=.slice none 0 0:=by
  unfold isNil at h
  split at h
  · rfl
  · cases h
def CS.get:(s:CS)→SC→{T:List Type}→HL T→Option (HL (s.LT T))
  | .raw c,x,_,t=>match c.eqv x with
    | true=>some t
    | false=>none
  | .int k,.val (.int k' z),_,t=>match decEq k' k with
    | isTrue _=>some (z,t)
    | isFalse _=>none
  | .bool,.val (.bool b),_,t=>some (b,t)
  | .str,.str s,_,t=>some (s,t)
  | .lst g,.lst g' l _,_,t=>match decEq g' g with
    | isTrue h=>some (castL h l,t)
    | isFalse _=>none
  | .lst g,.val v,_,t=>match isNil v with
    | true=>some (([]:List g.D),t)
    | false=>none
  | .lstc g,.lst g' l (some c),_,t=>match decEq g' g,Nat.beq c l.length with
    | isTrue h,true=>some (castL h l,t)
    | _,_=>none
  | .lstc g,.val v,_,t=>match isNil v with
    | true=>some (([]:List g.D),t)
    | false=>none
  | .lstx g,.lst g' l (some c),_,t=>match decEq g' g with
    | isTrue h=>some (castL h l,c,t)
    | isFalse _=>none
  | .lstx g,.val v,_,t=>match isNil v with
    | true=>some (([]:List g.D),0,t)
    | false=>none
  | .lstq g,.lst g' l c,_,t=>match decEq g' g with
    | isTrue h=>some (castL h l,c,t)
    | isFalse _=>none
  | .lstq g,.val v,_,t=>match isNil v with
    | true=>some (([]:List g.D),some 0,t)
    | false=>none
  | .pel g off,.pel g' x o,_,t=>match decEq g' g,Nat.beq off o with
    | isTrue h,true=>some (castD h x,t)
    | _,_=>none
  | .par g,.par g' l,_,t=>match decEq g' g with
    | isTrue h=>some (castL h l,t)
    | isFalse _=>none
  | .fn f cs,.fn f' ids,_,t=>match Nat.beq f f' with
    | true=>capsGet cs ids t
    | false=>none
  | .elt id sz off,.elt id' sz' i off',_,t=>match Nat.beq id id',Nat.beq sz sz',Nat.beq off off' with
    | true,true,true=>some (i,t)
    | _,_,_=>none
  | .nel id,.nel id' i,_,t=>match Nat.beq id id' with
    | true=>some (i,t)
    | false=>none
  | .slf id,.slf b id',_,t=>match Nat.beq id id' with
    | true=>some (b,t)
    | false=>none
  | .slf id,.ptr id' 0,_,t=>match Nat.beq id id' with
    | true=>some (true,t)
    | false=>none
  | .slf _,.val (.pointer none),_,t=>some (false,t)
  | _,_,_,_=>none
theorem CI.nil {g:GTy} {v:Value} (h:isNil v=true) (k:Option Nat) (hk:∀ q,k=some q→q=0):CI (.val v) (.lst g [] k):=fun env B w u hu=>by
  rw [isNil_ok h] at hu;obtain ⟨A,c,xs,h1,h2,h3,h4,h5⟩:=nil_lst (env:=env) (B:=B) (w:=w) (g:=g) hu;exact ⟨A,c,xs,h1,h2,h3,fun q hq=>by rw [hk q hq]; exact h4 0 rfl,h5⟩
theorem fn_fin {f:FuncId} {cs:List CapS} {ids:List Cap} {T:List Type} {t:HL T} {u:HL (capsLT cs T)} (h:capsGet cs ids t=some u):((CS.fn f cs).S (T:=T) u).2=t∧CI (.fn f ids) ((CS.fn f cs).S (T:=T) u).1:=by
  show (capsS cs u).2=t∧CI _ (.fn f (capsS cs u).1);rw [capsGet_ok h];exact ⟨rfl,fun _ _ _ _ h=>h⟩
theorem CS.get_ok {s:CS} {x:SC} {T:List Type} {t:HL T} {u:HL (s.LT T)} (h:s.get x t=some u):(s.S u).2=t∧CI x (s.S u).1:=by
  unfold CS.get at h
  split at h
  · split at h
    · rename_i e; cases h; exact ⟨rfl,SC.eqv_ok e⟩
    · cases h
  · split at h
    · rename_i e _; subst e; cases h; exact ⟨rfl,fun _ _ _ _ h=>h⟩
    · cases h
  · cases h; exact ⟨rfl,fun _ _ _ _ h=>h⟩
  · cases h; exact ⟨rfl,fun _ _ _ _ h=>h⟩
  · split at h
    · rename_i e _; subst e; cases h
      exact ⟨rfl,fun _ _ _ _ ⟨A,c,xs,h1,h2,h3,_,h5⟩=>⟨A,c,xs,h1,h2,h3,(fun _ e=>by cases e),h5⟩⟩
    · cases h
  · split at h
    · rename_i e; cases h; exact ⟨rfl,CI.nil e _ fun _ e=>by cases e⟩
    · cases h
  · split at h
    · rename_i e _ hc; subst e; cases h
      have:=Nat.eq_of_beq_eq_true hc
      subst this;exact ⟨rfl,fun _ _ _ _ h=>h⟩
    · cases h
  · split at h
    · rename_i e; cases h; exact ⟨rfl,CI.nil e _ fun _ e=>by cases e; rfl⟩
    · cases h
  · split at h
    · rename_i e _; subst e; cases h; exact ⟨rfl,fun _ _ _ _ h=>h⟩
    · cases h
  · split at h
    · rename_i e; cases h; exact ⟨rfl,CI.nil e _ fun _ e=>by cases e; rfl⟩
    · cases h
  · split at h
    · rename_i e _; subst e; cases h; exact ⟨rfl,fun _ _ _ _ h=>h⟩
    · cases h
  · split at h
    · rename_i e; cases h; exact ⟨rfl,CI.nil e _ fun _ e=>by cases e; rfl⟩
    · cases h
  · split at h
    · rename_i e _ hc; subst e; cases h
      have:=Nat.eq_of_beq_eq_true hc
      subst this;exact ⟨rfl,fun _ _ _ _ h=>h⟩
    · cases h
  · split at h
    · rename_i e _; subst e; cases h; exact ⟨rfl,fun _ _ _ _ h=>h⟩
    · cases h
  · split at h
    · rename_i e
      have:=Nat.eq_of_beq_eq_true e
      subst this;exact fn_fin h
    · cases h
  · split at h
    · rename_i e1 e2 e3
      cases h;rw [← Nat.eq_of_beq_eq_true e1,← Nat.eq_of_beq_eq_true e2,← Nat.eq_of_beq_eq_true e3];exact ⟨rfl,fun _ _ _ _ h=>h⟩
    · cases h
  · split at h
    · rename_i e1
      cases h;rw [← Nat.eq_of_beq_eq_true e1];exact ⟨rfl,fun _ _ _ _ h=>h⟩
    · cases h
  · split at h
    · rename_i e1
      cases h;rw [← Nat.eq_of_beq_eq_true e1];exact ⟨rfl,fun _ _ _ _ h=>h⟩
    · cases h
  · split at h
    · rename_i e1
      cases h;rw [← Nat.eq_of_beq_eq_true e1];exact ⟨rfl,fun _ _ _ _ ⟨b,h1,h2⟩=>⟨b,fun _=>h1,h2⟩⟩
    · cases h
  · cases h
    exact ⟨rfl,fun _ _ _ _ h=>⟨0,fun h=>(by cases h),h⟩⟩
  · cases h
abbrev csLT:List CS→List Type→List Type
  | [],T=>T
  | c :: r,T=>c.LT (csLT r T)
def csS:(l:List CS)→{T:List Type}→HL (csLT l T)→List SC×HL T
  | [],_,t=>([],t)
  | c :: r,_,u=>((c.S u).1 :: (csS r (c.S u).2).1,(csS r (c.S u).2).2)
def csGet:(l:List CS)→List SC→{T:List Type}→HL T→Option (HL (csLT l T))
  | [],[],_,t=>some t
  | c :: r,x :: s,_,t=>match csGet r s t with
    | some u=>c.get x u
    | none=>none
  | _,_,_,_=>none
theorem csGet_ok:∀ {l:List CS} {s:List SC} {T:List Type} {t:HL T} {u:HL (csLT l T)},csGet l s t=some u→(csS l u).2=t∧∀ env B w vs,CsR env B w s vs→CsR env B w (csS l u).1 vs
  | [],[],_,_,_,h=>by cases h; exact ⟨rfl,fun _ _ _ _ h=>h⟩
  | c :: r,x :: s,_,t,u,h=>by
    unfold csGet at h
    split at h
    · rename_i u' e
      obtain ⟨h1,h2⟩:=csGet_ok e;obtain ⟨h3,h4⟩:=CS.get_ok h;unfold csS;rw [h3];refine ⟨h1,fun env B w vs ⟨v,q,e,ha,hb⟩=>⟨v,q,e,h4 _ _ _ _ ha,h2 _ _ _ _ hb⟩⟩
    · cases h
  | [],_ :: _,_,_,_,h=>by cases h
  | _ :: _,[],_,_,_,h=>by cases h
inductive AS where
  | c (x:CS)
  | agg (l:List CS)
  | arr (g:GTy)
  | dat (g:GTy)
abbrev AS.LT:AS→List Type→List Type
  | .c x,T=>x.LT T
  | .agg l,T=>csLT l T
  | .arr g,T=>List g.D :: T
  | .dat g,T=>g.D :: T
def datS (g:GTy) (x:g.D):SA:=match gcells g x 0 g.size with
  | some cs=>.agg cs
  | none=>.agg []
def AS.S:(s:AS)→{T:List Type}→HL (s.LT T)→SA×HL T
  | .c x,_,u=>(.c (x.S u).1,(x.S u).2)
  | .agg l,_,u=>(.agg (csS l u).1,(csS l u).2)
  | .arr g,_,u=>(.arr g u.1,u.2)
  | .dat g,_,u=>(datS g u.1,u.2)
def AS.get:(s:AS)→SA→{T:List Type}→HL T→Option (HL (s.LT T))
  | .c x,.c y,_,t=>x.get y t
  | .agg l,.agg cs,_,t=>csGet l cs t
  | .arr g,.arr g' l,_,t=>match decEq g' g with
    | isTrue h=>some (castL h l,t)
    | isFalse _=>none
  | .dat g,.agg cs,_,t=>match dec g cs with
    | some (true,x,[])=>match gcells g x 0 g.size with
      | some _=>some (x,t)
      | none=>none
    | _=>none
  | _,_,_,_=>none
theorem AS.get_ok {s:AS} {x:SA} {T:List Type} {t:HL T} {u:HL (s.LT T)} (h:s.get x t=some u):(s.S u).2=t∧∀ env B w v,SaR env B w x v→SaR env B w (s.S u).1 v:=by
  unfold AS.get at h
  split at h
  · exact CS.get_ok h
  · obtain ⟨h1,h2⟩:=csGet_ok h
    exact ⟨h1,fun env B w v ⟨vs,e,hc⟩=>⟨vs,e,h2 _ _ _ _ hc⟩⟩
  · split at h
    · rename_i e _; subst e; cases h; exact ⟨rfl,fun _ _ _ _ h=>h⟩
    · cases h
  · split at h
    · rename_i e1
      split at h
      · rename_i cs' e2
        cases h;refine ⟨rfl,fun env B w v ⟨vs,e,hc⟩=>?_⟩;show SaR env B w (datS _ _) v;unfold datS;rw [e2];exact ⟨vs,e,hc.data e1 rfl e2⟩
      · cases h
    · cases h
  · cases h
abbrev asLT:List AS→List Type→List Type
  | [],T=>T
  | c :: r,T=>c.LT (asLT r T)
def asS:(l:List AS)→{T:List Type}→HL (asLT l T)→List SA×HL T
  | [],_,t=>([],t)
  | c :: r,_,u=>((c.S u).1 :: (asS r (c.S u).2).1,(asS r (c.S u).2).2)
def asGet:(l:List AS)→List SA→{T:List Type}→HL T→Option (HL (asLT l T))
  | [],[],_,t=>some t
  | c :: r,x :: s,_,t=>match asGet r s t with
    | some u=>c.get x u
    | none=>none
  | _,_,_,_=>none
theorem asGet_ok:∀ {l:List AS} {s:List SA} {T:List Type} {t:HL T} {u:HL (asLT l T)},asGet l s t=some u→(asS l u).2=t∧∀ env B w vs,SasR env B w s vs→SasR env B w (asS l u).1 vs
  | [],[],_,_,_,h=>by cases h; exact ⟨rfl,fun _ _ _ _ h=>h⟩
  | c :: r,x :: s,_,t,u,h=>by
    unfold asGet at h
    split at h
    · rename_i u' e
      obtain ⟨h1,h2⟩:=asGet_ok e;obtain ⟨h3,h4⟩:=AS.get_ok h;unfold asS;rw [h3];refine ⟨h1,fun env B w vs ⟨v,q,e,ha,hb⟩=>⟨v,q,e,h4 _ _ _ _ ha,h2 _ _ _ _ hb⟩⟩
    · cases h
  | [],_ :: _,_,_,_,h=>by cases h
  | _ :: _,[],_,_,_,h=>by cases h
inductive VS where
  | a (x:AS)
  | tup (l:List AS)
abbrev VS.LT:VS→List Type→List Type
  | .a x,T=>x.LT T
  | .tup l,T=>asLT l T
def VS.S:(s:VS)→{T:List Type}→HL (s.LT T)→SV×HL T
  | .a x,_,u=>(.a (x.S u).1,(x.S u).2)
  | .tup l,_,u=>(.tup (asS l u).1,(asS l u).2)
def VS.get:(s:VS)→SV→{T:List Type}→HL T→Option (HL (s.LT T))
  | .a x,.a y,_,t=>x.get y t
  | .tup l,.tup cs,_,t=>asGet l cs t
  | _,_,_,_=>none
def VI (x y:SV):Prop:=∀ env B w v,VR env B w x v→VR env B w y v
theorem VS.get_ok {s:VS} {x:SV} {T:List Type} {t:HL T} {u:HL (s.LT T)} (h:s.get x t=some u):(s.S u).2=t∧VI x (s.S u).1:=by
  unfold VS.get at h
  split at h
  · exact AS.get_ok h
  · obtain ⟨h1,h2⟩:=asGet_ok h
    exact ⟨h1,fun env B w v ⟨vs,e,hc⟩=>⟨vs,e,h2 _ _ _ _ hc⟩⟩
  · cases h
abbrev slLT:List (Nat×VS)→List Type→List Type
  | [],T=>T
  | c :: r,T=>c.2.LT (slLT r T)
def slS:(l:List (Nat×VS))→{T:List Type}→HL (slLT l T)→Sl×HL T
  | [],_,t=>([],t)
  | c :: r,_,u=>((c.1,(c.2.S u).1) :: (slS r (c.2.S u).2).1,(slS r (c.2.S u).2).2)
def slGet:(l:List (Nat×VS))→Sl→{T:List Type}→HL T→Option (HL (slLT l T))
  | [],_,_,t=>some t
  | c :: r,L,_,t=>match lk L c.1,slGet r L t with
    | some x,some u=>c.2.get x u
    | _,_=>none
theorem slGet_ok:∀ {l:List (Nat×VS)} {L:Sl} {T:List Type} {t:HL T} {u:HL (slLT l T)},slGet l L t=some u→(slS l u).2=t∧∀ s sv,lk (slS l u).1 s=some sv→∃ x,lk L s=some x∧VI x sv
  | [],_,_,_,_,h=>by cases h; exact ⟨rfl,fun _ _ h=>by cases h⟩
  | c :: r,L,_,t,u,h=>by
    unfold slGet at h
    split at h
    · rename_i x u' e1 e
      obtain ⟨h1,h2⟩:=slGet_ok e;obtain ⟨h3,h4⟩:=VS.get_ok h;unfold slS;rw [h3];refine ⟨h1,fun s sv hs=>?_⟩;rw [lk_cons] at hs
      split at hs
      · rename_i e; subst e; cases hs; exact ⟨x,e1,h4⟩
      · exact h2 s sv hs
    · cases h
inductive BS where
  | cells (t:TypeId) (l:List CS)
  | row (t:TypeId) (g:GTy)
  | rowx (t:TypeId) (g:GTy)
  | lrow (t:TypeId) (g:GTy)
  | mp (gk gv:GTy)
  | hrow (el:Bool) (t:TypeId) (g:GTy) (d:Nat)
  | hrowx (el:Bool) (t:TypeId) (g:GTy) (d:Nat)
  | sit
abbrev BS.LT:BS→List Type→List Type
  | .cells _ l,T=>csLT l T
  | .row _ g,T=>List g.D :: T
  | .rowx _ g,T=>List g.D :: Nat :: T
  | .lrow _ g,T=>List g.D :: T
  | .mp gk gv,T=>List (gk.D×gv.D) :: T
  | .hrow _ _ g _,T=>List (List g.D) :: Nat :: T
  | .hrowx _ _ g _,T=>List (List g.D) :: Nat :: Nat :: T
  | .sit,T=>ByteArray :: Nat :: T
def BS.S:(s:BS)→{T:List Type}→HL (s.LT T)→Blk×HL T
  | .cells t l,_,u=>(.cells t (csS l u).1,(csS l u).2)
  | .row t g,_,u=>(.row t g u.1 none,u.2)
  | .rowx t g,_,u=>(.row t g u.1 (some u.2.1),u.2.2)
  | .lrow t g,_,u=>(.lrow t g u.1,u.2)
  | .mp gk gv,_,u=>(.mp gk gv u.1 none,u.2)
  | .hrow el t g d,_,u=>(.hrow el t g u.1 none u.2.1 d,u.2.2)
  | .hrowx el t g d,_,u=>(.hrow el t g u.1 (some u.2.2.1) u.2.1 d,u.2.2.2)
  | .sit,_,u=>(.sit u.1 u.2.1,u.2.2)
def castLL {g g':GTy} (h:g'=g) (l:List (List g'.D)):List (List g.D):=h ▸ l
def castM {gk gk' gv gv':GTy} (h:gk'=gk) (h2:gv'=gv) (l:List (gk'.D×gv'.D)):List (gk.D×gv.D):=h ▸ h2 ▸ l
def BS.get:(s:BS)→Blk→{T:List Type}→HL T→Option (HL (s.LT T))
  | .cells t l,.cells t' cs,_,u=>match Nat.beq t' t with
    | true=>csGet l cs u
    | false=>none
  | .row t g,.row t' g' l _,_,u=>match Nat.beq t' t,decEq g' g with
    | true,isTrue h=>some (castL h l,u)
    | _,_=>none
  | .rowx t g,.row t' g' l (some c),_,u=>match Nat.beq t' t,decEq g' g with
    | true,isTrue h=>some (castL h l,c,u)
    | _,_=>none
  | .lrow t g,.lrow t' g' l,_,u=>match Nat.beq t' t,decEq g' g with
    | true,isTrue h=>some (castL h l,u)
    | _,_=>none
  | .lrow t g,.row t' g' l _,_,u=>match Nat.beq t' t,decEq g' g with
    | true,isTrue h=>some (castL h l,u)
    | _,_=>none
  | .mp gk gv,.mp gk' gv' l _,_,u=>match decEq gk' gk,decEq gv' gv with
    | isTrue h,isTrue h2=>some (castM h h2 l,u)
    | _,_=>none
  | .hrow el t g d,.hrow el' t' g' l _ i d',_,u=>match decEq el' el,Nat.beq t' t,Nat.beq d' d,decEq g' g with
    | isTrue _,true,true,isTrue h=>some (castLL h l,i,u)
    | _,_,_,_=>none
  | .hrowx el t g d,.hrow el' t' g' l (some c) i d',_,u=>match decEq el' el,Nat.beq t' t,Nat.beq d' d,decEq g' g with
    | isTrue _,true,true,isTrue h=>some (castLL h l,i,c,u)
    | _,_,_,_=>none
  | .sit,.sit s p,_,u=>some (s,p,u)
  | _,_,_,_=>none
def BI (id:Nat) (x y:Blk):Prop:=∀ env B w c,BR env B w id x c→BR env B w id y c
theorem BS.get_ok {s:BS} {x:Blk} {T:List Type} {t:HL T} {u:HL (s.LT T)} (id:Nat) (h:s.get x t=some u):(s.S u).2=t∧BI id x (s.S u).1:=by
  unfold BS.get at h
  split at h
  · split at h
    · rename_i e
      rw [Nat.eq_of_beq_eq_true e];obtain ⟨h1,h2⟩:=csGet_ok h;exact ⟨h1,fun env B w c ⟨b,vs,e,hc,h3⟩=>⟨b,vs,e,hc,h2 _ _ _ _ h3⟩⟩
    · cases h
  · split at h
    · rename_i h2 e _
      subst h2;rw [Nat.eq_of_beq_eq_true e];cases h;exact ⟨rfl,fun env B w c ⟨A,k,xs,e,hc,h3,_⟩=>⟨A,k,xs,e,hc,h3,fun _ e=>by cases e⟩⟩
    · cases h
  · split at h
    · rename_i h2 e _
      subst h2;rw [Nat.eq_of_beq_eq_true e];cases h;exact ⟨rfl,fun env B w c h=>h⟩
    · cases h
  · split at h
    · rename_i h2 e _
      subst h2;rw [Nat.eq_of_beq_eq_true e];cases h;exact ⟨rfl,fun env B w c h=>h⟩
    · cases h
  · split at h
    · rename_i h2 e _
      subst h2;rw [Nat.eq_of_beq_eq_true e];cases h;exact ⟨rfl,fun env B w c ⟨A,k,xs,e,hc,h3,_⟩=>⟨A,k,e,.inl ⟨xs,hc,h3⟩⟩⟩
    · cases h
  · split at h
    · rename_i h1 h2 _ _
      subst h1;subst h2;cases h;exact ⟨rfl,fun env B w c ⟨b,es,k,e,hc,h3,h4,_⟩=>⟨b,es,k,e,hc,h3,h4,fun _ e=>by cases e⟩⟩
    · cases h
  · split at h
    · rename_i he h3 _ h1 h2 _
      subst he;subst h3;rw [Nat.eq_of_beq_eq_true h1,Nat.eq_of_beq_eq_true h2];cases h;exact ⟨rfl,fun env B w c ⟨A,k,ys,A',c',m,e,hc,h1,hi,h2,_,h4⟩=>⟨A,k,ys,A',c',m,e,hc,h1,hi,h2,(fun _ e=>by cases e),h4⟩⟩
    · cases h
  · split at h
    · rename_i he h3 _ h1 h2 _
      subst he;subst h3;rw [Nat.eq_of_beq_eq_true h1,Nat.eq_of_beq_eq_true h2];cases h;exact ⟨rfl,fun env B w c h=>h⟩
    · cases h
  · cases h
    exact ⟨rfl,fun env B w c h=>h⟩
  · cases h
abbrev hpLT:List (Nat×BS)→List Type→List Type
  | [],T=>T
  | c :: r,T=>c.2.LT (hpLT r T)
def hpS:(l:List (Nat×BS))→{T:List Type}→HL (hpLT l T)→Hp×HL T
  | [],_,t=>([],t)
  | c :: r,_,u=>((c.1,(c.2.S u).1) :: (hpS r (c.2.S u).2).1,(hpS r (c.2.S u).2).2)
def hpGet:(l:List (Nat×BS))→Hp→{T:List Type}→HL T→Option (HL (hpLT l T))
  | [],[],_,t=>some t
  | c :: r,x :: s,_,t=>match Nat.beq c.1 x.1,hpGet r s t with
    | true,some u=>c.2.get x.2 u
    | _,_=>none
  | _,_,_,_=>none
theorem hpGet_ok:∀ {l:List (Nat×BS)} {h:Hp} {T:List Type} {t:HL T} {u:HL (hpLT l T)},hpGet l h t=some u→(hpS l u).2=t∧∀ env B w H,HR env B w h H→HR env B w (hpS l u).1 H
  | [],[],_,_,_,h=>by cases h; exact ⟨rfl,fun _ _ _ _ h=>h⟩
  | c :: r,x :: s,_,t,u,h=>by
    unfold hpGet at h
    split at h
    · rename_i u' e1 e
      obtain ⟨h1,h2⟩:=hpGet_ok e;obtain ⟨h3,h4⟩:=BS.get_ok x.1 h;unfold hpS;rw [h3];refine ⟨h1,fun env B w H ⟨q,H',e,ha,hb⟩=>⟨q,H',e,?_,h2 _ _ _ _ hb⟩⟩;rw [Nat.eq_of_beq_eq_true e1];exact h4 _ _ _ _ ha
    · cases h
  | [],_ :: _,_,_,_,h=>by cases h
  | _ :: _,[],_,_,_,h=>by cases h
structure Sh where
  L:List (Nat×VS)
  H:List (Nat×BS)
  kL:List Nat:=[]
  kH:List Nat:=[]
abbrev Sh.T (s:Sh):List Type:=slLT s.L (hpLT s.H [])
abbrev Sh.D (s:Sh):Type:=TupT s.T
end Go.Proofs.Yteglgnkcpaagjaa

/- Contracts by shapes, and calls by them. -/
namespace Go.Proofs.Yteglgnkcpaagjaa
open Go.RowKit
structure CT (X:Cx) where
  f:FuncId
  fn:Func
  A:List AS
  HA:List (Nat×BS)
  ρ:Type
  df:ρ
  m:HL (asLT A (hpLT HA []))→Option ρ
  out:HL (asLT A (hpLT HA []))→ρ→SV×Hp
  hf:X.P.funcs[f]?=some fn
  hn : (fn.name == "runtime.NumGoroutine") = false
  hb:fn.body.isNone=false
  ok:∀ d r,m d=some r→AC X f (asS A d).1 (hpS HA (asS A d).2).1 (fun sv h=>sv=(out d r).1∧h=(out d r).2)
def swapP:Ps→Ps
  | []=>[]
  | (i,j) :: r=>(j,i) :: swapP r
theorem mem_swap:∀ {ps:Ps} {i j:Nat},(j,i)∈swapP ps ↔ (i,j)∈ps
  | [],_,_=>by simp [swapP]
  | (a,b) :: r,i,j=>by
    unfold swapP;rw [List.mem_cons,List.mem_cons,mem_swap];simp only [Prod.mk.injEq];constructor <;> rintro (⟨h1,h2⟩ | h)
    · exact .inl ⟨h2,h1⟩
    · exact .inr h
    · exact .inl ⟨h2,h1⟩
    · exact .inr h
theorem firsts_swap:∀ ps:Ps,firsts (swapP ps)=seconds ps
  | []=>rfl
  | (a,b) :: r=>by
    unfold swapP firsts seconds;rw [firsts_swap r]
theorem lk_swap {ps:Ps} (h1:(firsts ps).Nodup) (h2:(seconds ps).Nodup) {i j:Nat}:lk (swapP ps) j=some i ↔ lk ps i=some j:=by
  constructor
  · intro h
    exact mem_lk h1 (mem_swap.1 (lk_mem h))
  · intro h
    exact mem_lk (by rw [firsts_swap]; exact h2) (mem_swap.2 (lk_mem h))
def passG (ps qs:Ps):List Nat→Hp→Option (Hp×Hp)
  | [],H=>some ([],H)
  | i :: is,H=>match lk ps i with
    | some j=>match lk H j with
      | some b'=>match b'.ren qs,passG ps qs is (eraseH j H) with
        | some b,some (h,H')=>some ((i,b) :: h,H')
        | _,_=>none
      | none=>none
    | none=>none
section
variable {X:Cx} {R:Nat→Prop} {W:World} {Bi:Bk} {n:Nat} {ks:List Nat} {env envC:Nat→Loc} {B:Nat→Prop} {w0:World} {H:List Ck} {st st':ASt} {a a':Act} {w w':World} {o:Oper} {d:Nat} {ps:Ps}
theorem passG_ok (h1:(firsts ps).Nodup) (h2:(seconds ps).Nodup) (he:∀ i j,lk ps i=some j→envC i=env j):∀ {is:List Nat} {l h l':Hp} {C:List Ck},passG ps (swapP ps) is l=some (h,l')→HR env B w0 l C→∃ C1 C2,C.Perm (C1++C2)∧HR envC B w0 h C1∧HR env B w0 l' C2
  | [],l,h,l',C,hp,hC=>by cases hp; exact ⟨[],C,List.Perm.refl _,rfl,hC⟩
  | i :: is,l,h,l',C,hp,hC=>by
    unfold passG at hp
    split at hp
    · rename_i j hj
      split at hp
      · rename_i b' hl
        split at hp
        · rename_i b h0 l0 hb hr
          cases hp;obtain ⟨c,H2,e1,e2,e3⟩:=hC.erase hl;obtain ⟨C1,C2,e4,e5,e6⟩:=passG_ok h1 h2 he hr e3;have hq:lk (swapP ps) j=some i:=(lk_swap h1 h2).2 hj;exact ⟨c :: C1,C2,e2.trans (List.Perm.cons _ e4),⟨c,C1,rfl,(BR.ren (fun j i h=>he i j ((lk_swap h1 h2).1 h)) hq hb).1 e1,e5⟩,e6⟩
        · cases hp
      · cases hp
    · cases hp
structure Pre (X:Cx) (e:CT X) where
  d:HL (asLT e.A (hpLT e.HA []))
  H1:Hp
def prep (X:Cx) (n:Nat) (e:CT X) (ps:Ps) (H:Hp) (args:List SA):Option (Pre X e):=
  match okPs n ps,renAs (swapP ps) args,passG ps (swapP ps) (e.HA.map (·.1)) H with
  | true,some args1,some (h1,H1)=>match hpGet (T:=[]) e.HA h1 () with
    | some u=>match asGet e.A args1 u with
      | some d=>some ⟨d,H1⟩
      | none=>none
    | none=>none
  | _,_,_=>none
def after (X:Cx) (e:CT X) (ps:Ps) (st:ASt) (d:Nat) (p:Pre X e) (r:e.ρ):Option ASt:=
  match ((e.out p.d r).1).ren ps,renH ps (e.out p.d r).2 with
  | some sv',some h''=>match ps with
    | []=>some ⟨(d,sv') :: st.L,h''++st.H⟩
    | _=>some ⟨(d,sv') :: killL (killJs (hpS e.HA (asS e.A p.d).2).1 ps) st.L,h''++frameH (seconds ps) (killJs (hpS e.HA (asS e.A p.d).2).1 ps) p.H1⟩
  | _,_=>none
def StepC (X:Cx) (n:Nat) (o:Oper) (keep:Bool) (st st':ASt):Prop:=∀ (R:Nat→Prop) (W:World) (Bi:Bk) (ks:List Nat) (env:Nat→Loc) (B:Nat→Prop) (w0:World) (H:List Ck) (a:Act) (w:World),AI X R W Bi n ks env B w0 H st a w→∀ (KK:Act→World→Prop) (l:List Oper),
  (∀ a' w' env' B' w0' H',AI X R W Bi n ks env' B' w0' H' st' a' w'→(∀ k,B k→B' k)→KO (fun k=>R k∨B k) w0 w0'→(keep=true→∀ c∈H,c∈H')→KK a' w')→XO X.P l.toArray o KK a w
theorem StepOk.c (h:StepOk X n o st st'):StepC X n o false st st':=fun R W Bi ks env B w0 H a w hA KK l hK=>h R W Bi ks env B w0 H a w hA KK l fun a' w' env' H' hA'=>hK a' w' env' B w0 H' hA' (fun _ h=>h) (KO.refl _ _) (fun h=>by cases h)
def Callee (X:Cx) (st:ASt) (o:Oper) (f:FuncId) (xs:List Operand) (pre post:List SA):Prop:=
  ∃ ts,(o.op=.call { callee:=.value (.func f),args:=xs.toArray,argTypes:=ts }∧pre=[]∧post=[]) ∨
    (∃ s ids,o.op=.call { callee:=.value (.tmp s),args:=xs.toArray,argTypes:=ts }∧lk st.L s=some (.c (.fn f ids))∧pre=[]∧post=ptrAs ids) ∨
    ∃ s id,o.op=.call { callee:=.value (.tmp s),args:=xs.toArray,argTypes:=ts }∧lk st.L s=some (.c (.bfn f id))∧pre=[.c (.ptr id 0)]∧post=[]
def ArgsOk (X:Cx) (n:Nat) (st:ASt) (xs:List Operand) (args:List SA):Prop:=∀ (R:Nat→Prop) (W:World) (Bi:Bk) (ks:List Nat) (env:Nat→Loc) (B:Nat→Prop) (w0:World) (H:List Ck) (a:Act) (w:World),AI X R W Bi n ks env B w0 H st a w→∃ vs,evs (full a) xs=some vs∧SasR env B w0 args vs
theorem ArgsOk.of {xs:List Operand} {args:List SA} {c:Bool} (h:aes X st.L xs=some (c,args)) (hc:c=true):ArgsOk X n st xs args:=fun _ _ _ _ _ _ _ _ _ _ hA=>aes_ok hA h hc
theorem call_ok (e:CT X) {xs:List Operand} {pre post args':List SA} (ps:Ps) (hcal:Callee X st o e.f xs pre post) (ho:o.guard=none∧o.dst=some d) (hd:Nat.blt d n=true) (hargs:ArgsOk X n st xs args')
    {p:Pre X e} (hp:prep X n e ps st.H (pre++(args'++post))=some p) {r:e.ρ} (hr:e.m p.d=some r) (ha:after X e ps st d p r=some st'):StepC X n o ps.isEmpty st st':=by
  intro R W Bi ks env B w0 H a w hA KK l hK;unfold prep at hp
  split at hp
  · rename_i args1 h1 H1 hps hren hpass
    split at hp
    · rename_i u hu
      split at hp
      · rename_i dd hdd
        cases hp;have hps':=hps;simp only [okPs,Bool.and_eq_true] at hps';obtain ⟨⟨hn1,hn2⟩,hn3⟩:=hps';have n1:=nodupB_ok hn1;have n2:=nodupB_ok hn2;obtain ⟨vs,g1,g2⟩:=hargs _ _ _ _ _ _ _ _ _ _ hA;obtain ⟨hu2,hu3⟩:=hpGet_ok hu;obtain ⟨ha2,ha3⟩:=asGet_ok hdd;have he:∀ i j,lk ps i=some j→(fun i=>match lk ps i with | some j=>env j | none=>Loc.no) i=env j:=fun i j hij=>by simp only [hij]
        obtain ⟨C1,C2,e3,e4,e5⟩:=passG_ok n1 n2 he hpass hA.heap;have hs:SH B w0 C1 w:=by
          have h6:=(hA.sh.perm (e3.append_right (ks.map mkO))).weak (H':=C1) (by rw [List.append_assoc]; exact List.sublist_append_left _ _);exact ⟨⟨h6.below.os,h6.below.tape,h6.below.output,h6.below.size,fun k hk=>h6.below.block k (.inr hk)⟩,fun k hk=>h6.base k (.inr hk),fun c hc=>(h6.ok c hc).base fun b hb hk=>((h6.ok c hc).lt hb).1 (.inr hk),h6.apart⟩
        have hC:HR (fun i=>match lk ps i with | some j=>env j | none=>Loc.no) B w0 (hpS e.HA (asS e.A dd).2).1 C1:=by rw [ha2]; exact hu3 _ _ _ _ e4
        have key:∀ vs',SasR env B w0 (pre++(args'++post)) vs'→Ret X.P e.f vs'.toArray w (ACpost X (fun i=>match lk ps i with | some j=>env j | none=>Loc.no) B C1 w (fun sv h=>sv=(e.out dd r).1∧h=(e.out dd r).2)):=fun vs' h=>by
          have h2:=(SasR.ren (env:=env) (env':=fun i=>match lk ps i with | some j=>env j | none=>Loc.no) (fun j i hji=>he i j ((lk_swap n1 n2).1 hji)) hren).1 h;exact e.ok dd r hr B w0 _ vs' C1 w (fun i x hx=>hA.glob i x hx) (ha3 _ _ _ _ h2) hC hs
        have fin:∀ v a' w',ACpost X (fun i=>match lk ps i with | some j=>env j | none=>Loc.no) B C1 w (fun sv h=>sv=(e.out dd r).1∧h=(e.out dd r).2) v w'→St n (ks.map markOf) ((d,v) :: full a) a'→KK a' w':=fun v a' w' hpost hS=>by
          obtain ⟨sv,h',⟨rfl,rfl⟩,hnx⟩:=hA.called hps e3 hC e5 hpost hS;unfold after at ha
          split at ha
          · rename_i sv' h'' f1 f2
            obtain ⟨env',B',w0',H',hA',k1,k2,k3⟩:=hnx sv' h'' f1 f2;have k4:ps.isEmpty=true→∀ c∈H,c∈H':=fun h0=>by
              have h0':ps=[]:=by simpa using h0
              subst h0'
              have:C1=[]:=by
                have h8:e.HA=[]:=by
                  cases h9:e.HA with
                  | nil=>rfl
                  | cons q _=>rw [h9] at hpass; cases hpass
                have h10:h1=[]:=by rw [h8] at hpass; cases hpass; rfl
                rw [h10] at e4;exact e4
              intro c hc;have h7:=e3.mem_iff.1 hc;rw [this] at h7;exact k3 rfl c (by simpa using h7)
            split at ha
            · cases ha
              have h8:H1=st.H:=by
                cases h9:e.HA with
                | nil=>rw [h9] at hpass; cases hpass; rfl
                | cons q _=>rw [h9] at hpass; cases hpass
              have hA2:AI X R W Bi n ks env' B' w0' H' ⟨(d,sv') :: killL [] st.L,h''++frameH [] [] H1⟩ a' w':=hA';rw [killL_nil,frameH_nil,h8] at hA2;exact hK a' w' env' B' w0' H' hA2 k1 k2 k4
            · cases ha
              exact hK a' w' env' B' w0' H' hA' k1 k2 k4
          · cases ha
        obtain ⟨ts,hcal⟩:=hcal
        rcases hcal with ⟨hop,rfl,rfl⟩ | ⟨s,ids,hop,hl,rfl,rfl⟩ | ⟨s,id,hop,hl,rfl,rfl⟩
        · exact y_call hA.sym hop ho hd e.hf e.hn e.hb g1 (key vs (by simpa using g2)) fun v a' w' hpost hS=>fin v a' w' hpost hS
        · obtain ⟨fv,hf1,lb,rfl,hf2⟩:=hA.has _ _ hl
          exact y_callV hA.sym hop ho hd (full_look hf1) e.hf e.hn e.hb g1 (key (vs++lb) (by simpa using g2.append (ptrs_sas hf2))) fun v a' w' hpost hS=>fin v a' w' hpost hS
        · obtain ⟨fv,hf1,b,hbk,rfl⟩:=hA.has _ _ hl
          exact y_callB hA.sym hop ho hd (full_look hf1) e.hf e.hn e.hb g1 (key (.pointer (some ⟨b,0,none⟩) :: vs) (by rw [List.append_nil]; exact ⟨_,_,rfl,⟨b,hbk,rfl⟩,g2⟩)) fun v a' w' hpost hS=>fin v a' w' hpost hS
      · cases hp
    · cases hp
  · cases hp
end
end Go.Proofs.Yteglgnkcpaagjaa

/- Special operations, as steps. -/
namespace Go.Proofs.Yteglgnkcpaagjaa
open Go.RowKit
set_option linter.unusedSectionVars false
section
variable {X:Cx} {M:Bool} {n:Nat} {r:Option Nat} {st:ASt} {Q:Exit→ASt→Prop} {ops rest:List Oper} {o:Oper} {d:Nat}
theorem sk_strIndex (hX:X.tt.ok X.P) {t:TypeId} {te:TE} {u x:Operand} {s:List UInt8} {k:IntKind} {z:Int} {g g2:Bool} (hop:o.op=.index t u x) (ho:o.guard=none∧o.dst=some d) (hd:Nat.blt d n=true)
    (ht:X.tt.find t=some te) (hte:te.ti.desc=.string) (hu:ae X st.L u=some (g,.c (.str s))) (hg:g=true) (hx:ae X st.L x=some (g2,.c (.val (.int k z)))) (hg2:g2=true) (hb:inB z s.length=true)
    : StepOk X n o st ⟨(d,.c (.val (.int .u8 ((s.getD z.toNat 0).toNat:Int)))) :: st.L,st.H⟩:=by
  intro R W Bi ks env B w0 H a w hA KK lops hnext;obtain ⟨vu,h1,h2⟩:=hA.ev hu hg;rw [show vu=strV s from h2] at h1;obtain ⟨vx,h3,h4⟩:=hA.ev hx hg2;rw [show vx=_ from h4] at h3;obtain ⟨j,rfl,hj,hjn⟩:=inB_ok hb;have e1:=(TT.get hX ht).ti.1;rw [hte] at e1;have hget:(ByteArray.mk s.toArray)[j]?=some (s.getD j 0):=by
    have hlt:j < (ByteArray.mk s.toArray).size:=by simpa [ByteArray.size] using hj
    have e2:(ByteArray.mk s.toArray)[j]?=some ((ByteArray.mk s.toArray)[j]'hlt):=by
      exact getElem?_pos (ByteArray.mk s.toArray) j hlt
    rw [e2,List.getD_eq_getElem?_getD,List.getElem?_eq_getElem hj]
    rfl
  refine (x_value hA.stt ho.1 ho.2 (lt_of_blt hd) (v:=.int .u8 ((s.getD j 0).toNat:Int)) (w':=w) ?_ fun a' hS=>?_)
  · have h0:(0:Int)≤(j:Int):=Int.natCast_nonneg j
    have hrun:(Instr.index t (strV s) (.int k (j:Int))).run X.P w=.ok (.int .u8 ((s.getD j 0).toNat:Int)) w:=by
      simp only [Instr.index,strV,asIntOf,Sem.run_bind,Sem.run_pure,Result.andThen_ok,run_underlying e1,h0,if_true,Int.toNat_natCast,hget]
    simp [execOp,hop,hA.stt.ev h1,hA.stt.ev h3,hrun]
  · simp only [Int.toNat_natCast] at hnext
    exact hnext a' _ env H (hA.set (sv:=.c (.val (.int .u8 ((s.getD j 0).toNat:Int)))) rfl hS)
theorem sk_storeH (hX:X.tt.ok X.P) {t T T2:TypeId} {te:TE} {x y:Operand} {id d i:Nat} {g g':GTy} {l:List (List g.D)} {l2:List g'.D} {cap cap2:Option Nat} {g1 g2:Bool} (hop:o.op=.store t x y) (ho:o.guard=none∧o.dst=none)
    (ht:X.tt.find t=some te) (hsz:Nat.beq te.ti.size 1=true) (hx:ae X st.L x=some (g1,.c (.elt id 1 i 0))) (hg1:g1=true) (hy:ae X st.L y=some (g2,.c (.sl d))) (hg2:g2=true) (hlk:lk st.H id=some (.row T (.sl g) l cap)) (hlk2:lk st.H d=some (.row T2 g' l2 cap2))
    (hi:decide (i < l.length)=true)
    : StepOk X n o st ⟨st.L,putH id (.hrow false T g l cap i d) st.H⟩:=by
  intro R W Bi ks env B w0 H a w hA KK lops hnext;obtain ⟨vx,h1,b,c,m,he,rfl⟩:=hA.ev hx hg1;obtain ⟨vy,hvy,A2,c2,m2,he2,rfl⟩:=hA.ev hy hg2;obtain ⟨ck,K,⟨A,k,xs,he',rfl,hfl,hcap⟩,hf,hset⟩:=hA.setBlk (b':=.hrow false T g l cap i d) hlk;rw [he] at he';cases he';have hlt:=of_decide_eq_true hi;have hxl:=FR.flat_length hfl;have hxl':xs.length=l.length:=by rw [hxl]; show l.length * 1=_; omega
  have hi':=(TT.get hX ht).ti;have hs1:=Nat.eq_of_beq_eq_true hsz;refine (run_store_row (v:=.slice A2 m2 c2) hA.sym hop ho hi' h1 hvy (by rw [hs1]; rfl) (by intro u hu; simp [Value.cells] at hu; subst hu; rfl) hf (by show i * 1+0+1≤l.length * 1; omega) fun a' w' hY=>?_);obtain ⟨H',h3⟩:=hset _ a' w' ⟨some ⟨b,0,none⟩,c,xs,A2,c2,m2,he,rfl,hfl,hlt,he2,hcap,fun h=>by cases h⟩ (by
    have e:xs.take (i * 1+0)++(Value.slice A2 m2 c2).cells.toList++xs.drop (i * 1+0+(Value.slice A2 m2 c2).cells.toList.length)=xs.set i (.slice A2 m2 c2):=by
      rw [List.set_eq_take_append_cons_drop,if_pos (by omega)]
      simp [Value.cells]
    have:=hY.sh
    rw [e] at this;exact this) hY.st
  exact hnext a' _ env H' (h3)
theorem sk_storeHc (hX:X.tt.ok X.P) {t T T2:TypeId} {te:TE} {x y:Operand} {id d i:Nat} {g g':GTy} {l:List (List g.D)} {l2:List g'.D} {cap:Option Nat} {q:Nat} {g1 g2:Bool} (hop:o.op=.store t x y) (ho:o.guard=none∧o.dst=none)
    (ht:X.tt.find t=some te) (hsz:Nat.beq te.ti.size 1=true) (hx:ae X st.L x=some (g1,.c (.elt id 1 i 0))) (hg1:g1=true) (hy:ae X st.L y=some (g2,.c (.sl d))) (hg2:g2=true) (hlk:lk st.H id=some (.row T (.csl g) l cap)) (hlk2:lk st.H d=some (.row T2 g' l2 (some q)))
    (hi:decide (i < l.length)=true) (hq:Nat.beq q l2.length=true)
    : StepOk X n o st ⟨st.L,putH id (.hrow true T g l cap i d) st.H⟩:=by
  intro R W Bi ks env B w0 H a w hA KK lops hnext;obtain ⟨vx,h1,b,c,m,he,rfl⟩:=hA.ev hx hg1;obtain ⟨vy,hvy,A2,c2,m2,he2,rfl⟩:=hA.ev hy hg2;obtain ⟨ck,K,⟨A,k,xs,he',rfl,hfl,hcap⟩,hf,hset⟩:=hA.setBlk (b':=.hrow true T g l cap i d) hlk;rw [he] at he';cases he';have hlt:=of_decide_eq_true hi;have hcm:c2=m2:=by
    obtain ⟨ck2,K2,⟨A3,k3,xs3,he3,_,_,hk3⟩,_⟩:=hA.heap.foc hlk2;rw [he2] at he3;cases he3;rw [hk3 q rfl];exact Nat.eq_of_beq_eq_true hq
  have hxl:=FR.flat_length hfl;have hxl':xs.length=l.length:=by rw [hxl]; show l.length * 1=_; omega
  have hi':=(TT.get hX ht).ti;have hs1:=Nat.eq_of_beq_eq_true hsz;refine (run_store_row (v:=.slice A2 m2 c2) hA.sym hop ho hi' h1 hvy (by rw [hs1]; rfl) (by intro u hu; simp [Value.cells] at hu; subst hu; rfl) hf (by show i * 1+0+1≤l.length * 1; omega) fun a' w' hY=>?_);obtain ⟨H',h3⟩:=hset _ a' w' ⟨some ⟨b,0,none⟩,c,xs,A2,c2,m2,he,rfl,hfl,hlt,he2,hcap,fun _=>hcm⟩ (by
    have e:xs.take (i * 1+0)++(Value.slice A2 m2 c2).cells.toList++xs.drop (i * 1+0+(Value.slice A2 m2 c2).cells.toList.length)=xs.set i (.slice A2 m2 c2):=by
      rw [List.set_eq_take_append_cons_drop,if_pos (by omega)]
      simp [Value.cells]
    have:=hY.sh
    rw [e] at this;exact this) hY.st
  exact hnext a' _ env H' (h3)
theorem sk_idxA (g:GTy) (m:Nat) (z:Int) (hX:X.tt.ok X.P) {t e:TypeId} {te ee:TE} {u x:Operand} {ux:SA} {k:IntKind} {l:List g.D} {g1 g2 c:Bool} {sa:SA} (hop:o.op=.index t u x) (ho:o.guard=none∧o.dst=some d) (hd:Nat.blt d n=true)
    (ht:X.tt.find t=some te) (hte:te.ti.desc=.array m e) (he:X.tt.find e=some ee) (hsz:Nat.beq g.size ee.ti.size=true) (hag:isAggD ee.ti.desc=g.isPair) (hone:(g.isPair || Nat.beq g.size 1)=true) (hu:ae X st.L u=some (g1,ux)) (hg1:g1=true)
    (hx:ae X st.L x=some (g2,.c (.val (.int k z)))) (hg2:g2=true) (ha:arrL g m ux=some (c,l)) (hc:c=true) (hz:inB z m=true) (hz2:inB z l.length=true) (hsa:vSA g (l.getD z.toNat g.zero)=some sa)
    : StepOk X n o st ⟨(d,.a sa) :: st.L,st.H⟩:=by
  intro R W Bi ks env B w0 H a w hA KK lops hnext;obtain ⟨vu,h1,h2⟩:=hA.ev hu hg1;obtain ⟨vs,rfl,hfl⟩:=arrL_ok h2 ha hc;obtain ⟨vx,h3,h4⟩:=hA.ev hx hg2;rw [show vx=_ from h4] at h3;obtain ⟨j,rfl,hj,_⟩:=inB_ok hz;obtain ⟨j',hjj,hj',_⟩:=inB_ok hz2;have hjl:j < l.length:=by omega
  rw [Int.toNat_natCast] at hsa;have e1:=(TT.get hX ht).ti.1;rw [hte] at e1;obtain ⟨v,hv,hvd⟩:=part_elem (w:=w) (TT.get hX he).ti hfl hjl (Nat.eq_of_beq_eq_true hsz) hag hone;have hrun:=run_indexA (k:=k) e1 (TT.get hX he).ti hj hv;refine (x_value hA.stt ho.1 ho.2 (lt_of_blt hd) (v:=v) (w':=w) (by simp [execOp,hop,hA.stt.ev h1,hA.stt.ev h3,hrun]) fun a' hS=>?_);exact hnext a' _ env H (hA.set (sv:=.a sa) (hvd.sa hsa) hS)
theorem sk_loadA (hX:X.tt.ok X.P) {t T e:TypeId} {te:TE} {x:Operand} {id m sz:Nat} {g:GTy} {l:List g.D} {cap:Option Nat} {g1:Bool} (hop:o.op=.load t x) (ho:o.guard=none∧o.dst=some d) (hd:Nat.blt d n=true)
    (ht:X.tt.find t=some te) (hte:te.ti.desc=.array m e) (hx:ae X st.L x=some (g1,.c (.elt id sz 0 0))) (hg1:g1=true) (hlk:lk st.H id=some (.row T g l cap)) (hsz:Nat.beq te.ti.size (m * g.size)=true) (hl:decide (l.length=m)=true)
    : StepOk X n o st ⟨(d,.a (.arr g l)) :: st.L,st.H⟩:=by
  intro R W Bi ks env B w0 H a w hA KK lops hnext;obtain ⟨vx,h1,b,c,q,he,rfl⟩:=hA.ev hx hg1;obtain ⟨ck,K,⟨A,k,xs,he',rfl,hfl,_⟩,hf⟩:=hA.heap.foc hlk;rw [he] at he';cases he';have hown:Owns w (fun k=>R k∨B k) T g.size (some ⟨b,0,none⟩) c l.length xs:=hA.sh.ok _ hf.more.mem;have hlen:=FR.flat_length hfl;have hl':=of_decide_eq_true hl;refine (x_value hA.stt ho.1 ho.2 (lt_of_blt hd) (v:=.agg xs.toArray) (w':=w) (run_loadN hA.stt hop (TT.get hX ht).ti (by rw [hte]; rfl) h1 (by rw [hlen,hl',Nat.eq_of_beq_eq_true hsz]) fun j v hj=>?_) fun a' hS=>?_)
  · rw [show 0 * sz+0+j=j by omega,hown.cells rfl _ (by rw [← hlen]; exact (List.getElem?_eq_some_iff.1 hj).1)]
    exact hj
  · exact hnext a' _ env H (hA.set (sv:=.a (.arr g l)) ⟨xs,rfl,hfl⟩ hS)
theorem sk_loadP (hX:X.tt.ok X.P) {t e:TypeId} {te:TE} {x:Operand} {m:Nat} {g:GTy} {l:List g.D} {g1:Bool} (hop:o.op=.load t x) (ho:o.guard=none∧o.dst=some d) (hd:Nat.blt d n=true)
    (ht:X.tt.find t=some te) (hte:te.ti.desc=.array m e) (hx:ae X st.L x=some (g1,.c (.par g l))) (hg1:g1=true) (hsz:Nat.beq te.ti.size (m * g.size)=true) (hl:decide (l.length=m)=true)
    : StepOk X n o st ⟨(d,.a (.arr g l)) :: st.L,st.H⟩:=by
  intro R W Bi ks env B w0 H a w hA KK lops hnext;obtain ⟨vx,h1,b,p,vs,rfl,hb,hfl,hcell⟩:=hA.ev hx hg1;have hlen:=FR.flat_length hfl;have hl':=of_decide_eq_true hl;refine (x_value hA.stt ho.1 ho.2 (lt_of_blt hd) (v:=.agg vs.toArray) (w':=w) (run_loadN hA.stt hop (TT.get hX ht).ti (by rw [hte]; rfl) h1 (by rw [hlen,hl',Nat.eq_of_beq_eq_true hsz]) fun j v hj=>frozen_cell hb (hcell j v hj) hA.sh) fun a' hS=>?_);exact hnext a' _ env H (hA.set (sv:=.a (.arr g l)) ⟨vs,rfl,hfl⟩ hS)
theorem sk_strOf (hX:X.tt.ok X.P) {t t' e:TypeId} {te te' ee:TE} {u:Operand} {ux:SA} {l:List Int} {g:Bool} (hop:o.op=.convert t t' u) (ho:o.guard=none∧o.dst=some d) (hd:Nat.blt d n=true)
    (ht:X.tt.find t=some te) (hte:te.ti.desc=.slice e) (ht':X.tt.find t'=some te') (hte':te'.ti.desc=.string) (he:X.tt.find e=some ee) (hee:ee.ti.desc=.int .u8)
    (hu:ae X st.L u=some (g,ux)) (hg:g=true) (hs:srcL st (.int .u8) ux=some l) (hb:isBs l=true)
    : StepOk X n o st ⟨(d,.c (.str (bsOf l))) :: st.L,st.H⟩:=by
  intro R W Bi ks env B w0 H a w hA KK lops hnext;obtain ⟨vu,h1,h2⟩:=hA.ev hu hg;obtain ⟨A,c,xs,rfl,hfl,hr⟩:=srcL_ok hA hs h2;obtain ⟨T,hT,q1,q2,q3⟩:=tab3 (TT.get hX ht).ti (TT.get hX ht').ti (TT.get hX he).ti;rw [flat_ints hfl,← by_back l hb] at hr;have hlen:(bsOf l).length=l.length:=by simp [bsOf]
  rw [← hlen] at h1 hr;refine (x_value hA.stt ho.1 ho.2 (lt_of_blt hd) (v:=strV (bsOf l)) (w':=w) (v_str hA.stt hop hT q1 q2 hte hte' q3 hee h1 w hr) fun a' hS=>?_);exact hnext a' _ env H (hA.set (sv:=.c (.str (bsOf l))) rfl hS)
theorem sk_sliceSf (hX:X.tt.ok X.P) {t:TypeId} {te:TE} {u x:Operand} {s:List UInt8} {k:IntKind} {z:Int} {g g2:Bool} (hop:o.op=.slice t u (some x) none none) (ho:o.guard=none∧o.dst=some d) (hd:Nat.blt d n=true)
    (ht:X.tt.find t=some te) (hte:te.ti.desc=.string) (hu:ae X st.L u=some (g,.c (.str s))) (hg:g=true) (hx:ae X st.L x=some (g2,.c (.val (.int k z)))) (hg2:g2=true) (h0:decide (0≤z)=true) (h1:decide (z≤(s.length:Int))=true)
    : StepOk X n o st ⟨(d,.c (.str (s.drop z.toNat))) :: st.L,st.H⟩:=by
  intro R W Bi ks env B w0 H a w hA KK lops hnext;obtain ⟨vu,q1,q2⟩:=hA.ev hu hg;rw [show vu=strV s from q2] at q1;obtain ⟨vx,q3,q4⟩:=hA.ev hx hg2;rw [show vx=_ from q4] at q3;have e1:=(TT.get hX ht).ti.1;rw [hte] at e1;have h0':=of_decide_eq_true h0;have h1':=of_decide_eq_true h1;have hrun:=run_sliceS (w:=w) (s:=s) (lo:=some (.int k z)) (hi:=none) (a:=z.toNat) (b:=s.length) e1 (by simp [Instr.sliceBounds,Instr.sliceBound,asIntOf,h0',h1']);rw [List.take_length] at hrun;refine (x_value hA.stt ho.1 ho.2 (lt_of_blt hd) (v:=strV (s.drop z.toNat)) (w':=w) (by simp [execOp,hop,hA.stt.ev q1,hA.stt.ev q3,hrun]) fun a' hS=>?_);exact hnext a' _ env H (hA.set (sv:=.c (.str (s.drop z.toNat))) rfl hS)
theorem sk_sliceSt (hX:X.tt.ok X.P) {t:TypeId} {te:TE} {u x:Operand} {s:List UInt8} {k:IntKind} {z:Int} {g g2:Bool} (hop:o.op=.slice t u none (some x) none) (ho:o.guard=none∧o.dst=some d) (hd:Nat.blt d n=true)
    (ht:X.tt.find t=some te) (hte:te.ti.desc=.string) (hu:ae X st.L u=some (g,.c (.str s))) (hg:g=true) (hx:ae X st.L x=some (g2,.c (.val (.int k z)))) (hg2:g2=true) (h0:decide (0≤z)=true) (h1:decide (z≤(s.length:Int))=true)
    : StepOk X n o st ⟨(d,.c (.str (s.take z.toNat))) :: st.L,st.H⟩:=by
  intro R W Bi ks env B w0 H a w hA KK lops hnext;obtain ⟨vu,q1,q2⟩:=hA.ev hu hg;rw [show vu=strV s from q2] at q1;obtain ⟨vx,q3,q4⟩:=hA.ev hx hg2;rw [show vx=_ from q4] at q3;have e1:=(TT.get hX ht).ti.1;rw [hte] at e1;have h0':=of_decide_eq_true h0;have h1':=of_decide_eq_true h1;have hrun:=run_sliceS (w:=w) (s:=s) (lo:=none) (hi:=some (.int k z)) (a:=0) (b:=z.toNat) e1 (by simp [Instr.sliceBounds,Instr.sliceBound,asIntOf,h0',h1']);rw [List.drop_zero] at hrun;refine (x_value hA.stt ho.1 ho.2 (lt_of_blt hd) (v:=strV (s.take z.toNat)) (w':=w) (by simp [execOp,hop,hA.stt.ev q1,hA.stt.ev q3,hrun]) fun a' hS=>?_);exact hnext a' _ env H (hA.set (sv:=.c (.str (s.take z.toNat))) rfl hS)
theorem sk_sliceSm (hX:X.tt.ok X.P) {t:TypeId} {te:TE} {u x y:Operand} {s:List UInt8} {k k2:IntKind} {z z2:Int} {g g2 g3:Bool} (hop:o.op=.slice t u (some x) (some y) none) (ho:o.guard=none∧o.dst=some d) (hd:Nat.blt d n=true)
    (ht:X.tt.find t=some te) (hte:te.ti.desc=.string) (hu:ae X st.L u=some (g,.c (.str s))) (hg:g=true) (hx:ae X st.L x=some (g2,.c (.val (.int k z)))) (hg2:g2=true) (hy:ae X st.L y=some (g3,.c (.val (.int k2 z2)))) (hg3:g3=true) (h0:decide (0≤z)=true) (h1:decide (z≤z2)=true) (h2:decide (z2≤(s.length:Int))=true)
    : StepOk X n o st ⟨(d,.c (.str ((s.take z2.toNat).drop z.toNat))) :: st.L,st.H⟩:=by
  intro R W Bi ks env B w0 H a w hA KK lops hnext;obtain ⟨vu,q1,q2⟩:=hA.ev hu hg;rw [show vu=strV s from q2] at q1;obtain ⟨vx,q3,q4⟩:=hA.ev hx hg2;rw [show vx=_ from q4] at q3;obtain ⟨vy,q5,q6⟩:=hA.ev hy hg3;rw [show vy=_ from q6] at q5;have e1:=(TT.get hX ht).ti.1;rw [hte] at e1;have h0':=of_decide_eq_true h0;have h1':=of_decide_eq_true h1;have h2':=of_decide_eq_true h2;have h3':0≤z2:=by omega
  have h4':z≤(z2.toNat:Int):=by omega
  have hrun:=run_sliceS (w:=w) (s:=s) (lo:=some (.int k z)) (hi:=some (.int k2 z2)) (a:=z.toNat) (b:=z2.toNat) e1 (by
    have h5':z≤max z2 0:=by omega
    simp [Instr.sliceBounds,Instr.sliceBound,asIntOf,h0',h2',h3',h5'])
  refine (x_value hA.stt ho.1 ho.2 (lt_of_blt hd) (v:=strV ((s.take z2.toNat).drop z.toNat)) (w':=w) (by simp [execOp,hop,hA.stt.ev q1,hA.stt.ev q3,hA.stt.ev q5,hrun]) fun a' hS=>?_);exact hnext a' _ env H (hA.set (sv:=.c (.str ((s.take z2.toNat).drop z.toNat))) rfl hS)
theorem sk_appendL (hX:X.tt.ok X.P) {t e:TypeId} {x y:Operand} {g1 g2:Bool} {sy:SA} {sz bts c:Nat} {ge g:GTy} {l l2:List g.D} {te:TE} {ds:TypeDesc} {zz:Value} (hop:o.op=.call ⟨.builtin .append,⟨[x,y]⟩,⟨[t,t]⟩⟩) (ho:o.guard=none∧o.dst=some d) (hd:Nat.blt d n=true)
    (ht:X.tt.find t=some te) (hte:te.ti.desc=.slice e) (he:X.tt.find e=some ⟨⟨ds,sz,bts,zz⟩,some ge⟩) (hx:ae X st.L x=some (g1,.c (.lst g l (some c)))) (hg:g1=true) (hy:ae X st.L y=some (g2,sy)) (hg':g2=true)
    (hsz:Nat.beq g.size sz=true) (hsrc:srcL st g sy=some l2) (hc:fitB bts (l.length+l2.length)=true) (hcl:decide (c=l.length)=true)
    : StepOk X n o st ⟨(d,.c (.sl d)) :: subL d .dead st.L,(d,.lrow e g (l++l2)) :: delH d .dead st.H⟩:=by
  intro R W Bi ks env B w0 H a w h KK lops hnext;obtain ⟨vx,hvx,A,c',xs,rfl,q1,q2,hcap,hfl,hrb⟩:=h.ev hx hg;obtain ⟨vy,hvy,hry⟩:=h.ev hy hg';have e1:=hcap c rfl;have e2:=of_decide_eq_true hcl;have e3:c'=l.length:=e1.trans e2;rw [e3] at hvx q2;obtain ⟨hg1,hg2,hg3⟩:=(TT.get hX he).g ge rfl;obtain ⟨T,hT,h1,h4⟩:=tab2 (TT.get hX ht).ti (TT.get hX he).ti;dsimp only at hg1 hg2 h4;have hzs:zz.cells.size=sz:=by
    have:zz.cells.toList.length=sz:=by rw [hg2,← hg1]; exact FR.length (FR.zeros (B:=B) (w:=w0) ge)
    simpa using this
  have hsz':=Nat.eq_of_beq_eq_true hsz;simp only [fitB,Bool.and_eq_true,decide_eq_true_eq] at hc;obtain ⟨A2,c2,xs2,rfl,hfl2,hR2⟩:=srcL_ok h hsrc hry;have hR1:=hrb.old h.sh;rw [hsz'] at hR1 hR2;refine (y_append_full h.sym hop ho hd hT h1 hte h4 (by rw [← hg1]; exact Nat.ble_eq_true_of_le hg3) hzs hvx hvy hR1 hR2 (Flat.ones (fun _ _=>FR.ones) hfl2) hc.1 hc.2 (fun hm a' w' hY=>?_) fun A' c' a' w' hY=>?_)
  · have hl2:l2=[]:=List.eq_nil_of_length_eq_zero hm
    subst hl2;obtain ⟨H',_,h8⟩:=h.newBlk (d:=d) hd (l:=.row A l.length (l++[]).length) (c:=.row none 0 e g.size 0 []) (blk:=.lrow e g (l++[])) (sv:=.c (.sl d)) (v:=.slice A l.length l.length) (hY.sh.nilRow e g.size) ⟨A,l.length,upd_self,.inr ⟨rfl,by simp,q2,xs,by rw [List.append_nil]; exact hfl,by rw [List.append_nil]; exact hrb⟩⟩ ⟨A,l.length,_,upd_self,by simp⟩ hY.st;exact hnext a' w' _ H' (h8)
  · obtain ⟨H',_,h8⟩:=h.newBlk (d:=d) hd (l:=.row A' c' (l++l2).length) (c:=.row A' c' e g.size (l++l2).length (xs++xs2)) (blk:=.lrow e g (l++l2)) (sv:=.c (.sl d)) (v:=.slice A' (l.length+l2.length) c') (by have:=hY.sh; rw [← hsz'] at this; rw [List.length_append]; exact this) ⟨A',c',upd_self,.inl ⟨_,rfl,hfl.append hfl2⟩⟩ ⟨A',c',_,upd_self,by rw [List.length_append]⟩ hY.st
    exact hnext a' w' _ H' (h8)
end
end Go.Proofs.Yteglgnkcpaagjaa

/- Ranges over strings. -/
namespace Go.Proofs.Yteglgnkcpaagjaa
open Go.RowKit
section
variable {X:Cx} {n:Nat} {st st':ASt} {o:Oper} {d:Nat}
theorem sk_range (hX:X.tt.ok X.P) {t:TypeId} {te:TE} {u:Operand} {g:Bool} {s:List UInt8} (hop:o.op=.range t u) (ho:o.guard=none∧o.dst=some d) (hd:Nat.blt d n=true) (ht:X.tt.find t=some te) (hte:te.ti.desc=.string) (hu:ae X st.L u=some (g,.c (.str s))) (hg:g=true) :
    StepOk X n o st ⟨(d,.c (.ptr d 0)) :: subL d .dead st.L,(d,.sit ⟨s.toArray⟩ 0) :: delH d .dead st.H⟩:=by
  intro R W Bi ks env B w0 H a w h KK lops hnext;obtain ⟨vu,h1,h2⟩:=h.ev hu hg;rw [show vu=strV s from h2] at h1;have e1:=(TT.get hX ht).ti.1;rw [hte] at e1;refine x_value h.stt ho.1 ho.2 (lt_of_blt hd) (v:=.pointer (some ⟨w.heap.size,0,none⟩)) (w':=w.alloc (.stringIter ⟨s.toArray⟩ 0)) (by simp [execOp,hop,h.stt.ev h1,Instr.range,run_underlying e1,strV,newObj,Sem.run]) fun a' hS=>?_
  obtain ⟨H',_,h3⟩:=h.newBlk (d:=d) hd (l:=.blk w.heap.size) (blk:=.sit ⟨s.toArray⟩ 0) (sv:=.c (.ptr d 0)) (w':=w.alloc (.stringIter ⟨s.toArray⟩ 0)) (h.sh.alloc _) ⟨_,upd_self,rfl⟩ ⟨_,upd_self,rfl⟩ hS;exact hnext a' _ _ H' h3
theorem sk_nextT {x:Operand} {g:Bool} {id p:Nat} {S:ByteArray} (hop:o.op=.next x true) (ho:o.guard=none∧o.dst=some d) (hd:Nat.blt d n=true) (hx:ae X st.L x=some (g,.c (.ptr id 0))) (hg:g=true) (hlk:lk st.H id=some (.sit S p)) (hp:p < S.size) :
    StepOk X n o st ⟨(d,.tup [.c (.val (.bool true)),.c (.val (.int .i64 (p:Int))),.c (.val (.int .i32 (Utf8.decode S p).1))]) :: st.L,putH id (.sit S (p+(Utf8.decode S p).2)) st.H⟩:=by
  intro R W Bi ks env B w0 H a w h KK lops hnext;obtain ⟨vx,h1,b,hb,rfl⟩:=h.ev hx hg;obtain ⟨ck,K,⟨b',hb',rfl⟩,hfoc,hset⟩:=h.setBlk (b':=.sit S (p+(Utf8.decode S p).2)) hlk;rw [hb] at hb';cases hb';have hob:=(h.sh.ok _ hfoc.mem).2;refine x_value h.stt ho.1 ho.2 (lt_of_blt hd) (v:=.tuple #[.bool true,.int .i64 p,.int .i32 (Utf8.decode S p).1]) (w':={ w with heap:=w.heap.setIfInBounds b (.stringIter S (p+(Utf8.decode S p).2)) }) ?_ fun a' hS=>?_
  · have:=Lib.run_next_any_at (P:=X.P) w b S p o.type hob hp
    simp [execOp,hop,h.stt.ev h1,this,World.iterAt]
  · obtain ⟨H',h3⟩:=hset (.obj b (.stringIter S (p+(Utf8.decode S p).2))) a { w with heap:=w.heap.setIfInBounds b (.stringIter S (p+(Utf8.decode S p).2)) } ⟨b,hb,rfl⟩ (h.sh.setO hfoc) h.stt
    exact hnext a' _ _ H' (h3.set ⟨[.bool true,.int .i64 p,.int .i32 (Utf8.decode S p).1],rfl,_,_,rfl,rfl,_,_,rfl,rfl,_,_,rfl,rfl,rfl⟩ hS)
theorem sk_nextF {x:Operand} {g:Bool} {id p:Nat} {S:ByteArray} (hop:o.op=.next x true) (ho:o.guard=none∧o.dst=some d) (hd:Nat.blt d n=true) (hx:ae X st.L x=some (g,.c (.ptr id 0))) (hg:g=true) (hlk:lk st.H id=some (.sit S p)) (hp:¬ p < S.size) :
    StepOk X n o st ⟨(d,.tup [.c (.val (.bool false))]) :: st.L,st.H⟩:=by
  intro R W Bi ks env B w0 H a w h KK lops hnext;obtain ⟨vx,h1,b,hb,rfl⟩:=h.ev hx hg;obtain ⟨ck,K,⟨b',hb',rfl⟩,hfoc,hset⟩:=h.setBlk (b':=.sit S p) hlk;rw [hb] at hb';cases hb';have hob:=(h.sh.ok _ hfoc.mem).2;refine x_value h.stt ho.1 ho.2 (lt_of_blt hd) (v:=.tuple #[.bool false]) (w':=w) ?_ fun a' hS=>?_
  · have:=Lib.run_next_end_at (P:=X.P) w b S p o.type hob hp
    simp [execOp,hop,h.stt.ev h1,this]
  · exact hnext a' _ _ H (h.set ⟨[.bool false],rfl,_,_,rfl,rfl,rfl⟩ hS)
end
end Go.Proofs.Yteglgnkcpaagjaa

/- What is not touched stays as it is. -/
namespace Go.Proofs.Yteglgnkcpaagjaa
open Go.RowKit
def SC.free:SC→Bool
  | .val _=>true
  | .str _=>true
  | .pel _ _ _=>true
  | .par _ _=>true
  | .lst _ _ _=>true
  | .fn _ cs=>capsFz cs
  | _=>false
def scFree:List SC→Bool
  | []=>true
  | c :: r=>match c.free with
    | true=>scFree r
    | false=>false
def SA.free:SA→Bool
  | .c x=>x.free
  | .agg cs=>scFree cs
  | .arr _ _=>true
def saFree:List SA→Bool
  | []=>true
  | c :: r=>match c.free with
    | true=>saFree r
    | false=>false
def SV.free:SV→Bool
  | .a x=>x.free
  | .may _ x=>x.free
  | .tup xs=>saFree xs
def Blk.free:Blk→Bool
  | .cells _ cs=>scFree cs
  | .row _ _ _ _=>true
  | .mp _ _ _ _=>true
  | .lrow _ _ _=>true
  | _=>false
theorem hasCap_free {id:Nat}:∀ {cs:List Cap},capsFz cs=true→hasCap id cs=false
  | [],_=>rfl
  | .id _ :: _,h=>by cases h
  | .fz _ _ :: cs,h=>hasCap_free (cs:=cs) h
theorem anyIn_free {js:List Nat}:∀ {cs:List Cap},capsFz cs=true→anyIn js cs=false
  | [],_=>rfl
  | .id _ :: _,h=>by cases h
  | .fz _ _ :: cs,h=>anyIn_free (cs:=cs) h
theorem fzCaps_free {id:Nat} {g:GTy} {x:g.D}:∀ {cs:List Cap},capsFz cs=true→fzCaps id g x cs=cs
  | [],_=>rfl
  | .id _ :: _,h=>by cases h
  | .fz _ _ :: cs,h=>by
    show Cap.fz _ _ :: fzCaps id g x cs=_;rw [fzCaps_free (cs:=cs) h]
structure Fix (f:SC→SC):Prop where
  fix:∀ c,c.free=true→f c=c
theorem fix_sub (id:Nat) (z:SC):Fix fun c=>c.sub id z:=⟨fun c h=>by
  cases c with
  | fn f cs=>simp only [SC.sub]; rw [hasCap_free h]
  | _=>first | rfl | cases h⟩
theorem fix_kill (js:List Nat):Fix fun c=>c.kill js:=⟨fun c h=>by
  cases c with
  | fn f cs=>simp only [SC.kill]; rw [anyIn_free h]
  | _=>first | rfl | cases h⟩
theorem fix_fzc (id:Nat) (g:GTy) (x:g.D):Fix fun c=>c.fzc id g x:=⟨fun c h=>by
  cases c with
  | fn f cs=>simp only [SC.fzc]; rw [fzCaps_free h]
  | _=>first | rfl | cases h⟩
def mapCs (f:SC→SC):List SC→List SC
  | []=>[]
  | c :: r=>f c :: mapCs f r
theorem mapCs_free {f:SC→SC} (hf:Fix f):∀ {cs:List SC},scFree cs=true→mapCs f cs=cs
  | [],_=>rfl
  | c :: r,h=>by
    unfold scFree at h
    split at h
    · rename_i e
      show f c :: mapCs f r=_;rw [hf.fix c e,mapCs_free hf h]
    · cases h
theorem subs_map (id:Nat) (z:SC):∀ cs:List SC,subs id z cs=mapCs (fun c=>c.sub id z) cs
  | []=>rfl
  | c :: r=>by
    show c.sub id z :: subs id z r=_;rw [subs_map id z r]; rfl
theorem kill_map (js:List Nat):∀ cs:List SC,killCs js cs=mapCs (fun c=>c.kill js) cs
  | []=>rfl
  | c :: r=>by
    show c.kill js :: killCs js r=_;rw [kill_map js r]; rfl
theorem fzc_map (id:Nat) (g:GTy) (x:g.D):∀ cs:List SC,fzcCs id g x cs=mapCs (fun c=>c.fzc id g x) cs
  | []=>rfl
  | c :: r=>by
    show c.fzc id g x :: fzcCs id g x r=_;rw [fzc_map id g x r]; rfl
theorem sa_sub_free {id:Nat} {z:SC} {x:SA} (h:x.free=true):x.sub id z=x:=by
  cases x with
  | c x=>simp only [SA.sub]; rw [(fix_sub id z).fix x h]
  | agg cs=>simp only [SA.sub]; rw [subs_map,mapCs_free (fix_sub id z) h]
  | arr g l=>rfl
theorem sa_kill_free {js:List Nat} {x:SA} (h:x.free=true):x.kill js=x:=by
  cases x with
  | c x=>simp only [SA.kill]; rw [(fix_kill js).fix x h]
  | agg cs=>simp only [SA.kill]; rw [kill_map,mapCs_free (fix_kill js) h]
  | arr g l=>rfl
theorem sa_fzc_free {id:Nat} {g:GTy} {y:g.D} {x:SA} (h:x.free=true):x.fzc id g y=x:=by
  cases x with
  | c x=>simp only [SA.fzc]; rw [(fix_fzc id g y).fix x h]
  | agg cs=>simp only [SA.fzc]; rw [fzc_map,mapCs_free (fix_fzc id g y) h]
  | arr g l=>rfl
theorem asubs_free {id:Nat} {z:SC}:∀ {xs:List SA},saFree xs=true→asubs id z xs=xs
  | [],_=>rfl
  | c :: r,h=>by
    unfold saFree at h
    split at h
    · rename_i e
      show c.sub id z :: asubs id z r=_;rw [sa_sub_free e,asubs_free h]
    · cases h
theorem killAs_free {js:List Nat}:∀ {xs:List SA},saFree xs=true→killAs js xs=xs
  | [],_=>rfl
  | c :: r,h=>by
    unfold saFree at h
    split at h
    · rename_i e
      show c.kill js :: killAs js r=_;rw [sa_kill_free e,killAs_free h]
    · cases h
theorem fzcAs_free {id:Nat} {g:GTy} {y:g.D}:∀ {xs:List SA},saFree xs=true→fzcAs id g y xs=xs
  | [],_=>rfl
  | c :: r,h=>by
    unfold saFree at h
    split at h
    · rename_i e
      show c.fzc id g y :: fzcAs id g y r=_;rw [sa_fzc_free e,fzcAs_free h]
    · cases h
theorem sv_sub_free {id:Nat} {z:SC} {v:SV} (h:v.free=true):v.sub id z=v:=by
  cases v with
  | a x=>simp only [SV.sub]; rw [sa_sub_free h]
  | may g x=>simp only [SV.sub]; rw [sa_sub_free h]
  | tup xs=>simp only [SV.sub]; rw [asubs_free h]
theorem sv_kill_free {js:List Nat} {v:SV} (h:v.free=true):v.kill js=v:=by
  cases v with
  | a x=>simp only [SV.kill]; rw [sa_kill_free h]
  | may g x=>simp only [SV.kill]; rw [sa_kill_free h]
  | tup xs=>simp only [SV.kill]; rw [killAs_free h]
theorem sv_fzc_free {id:Nat} {g:GTy} {y:g.D} {v:SV} (h:v.free=true):v.fzc id g y=v:=by
  cases v with
  | a x=>simp only [SV.fzc]; rw [sa_fzc_free h]
  | may g x=>simp only [SV.fzc]; rw [sa_fzc_free h]
  | tup xs=>simp only [SV.fzc]; rw [fzcAs_free h]
theorem blk_sub_free {id:Nat} {z:SC} {b:Blk} (h:b.free=true):b.sub id z=b:=by
  cases b with
  | cells t cs=>simp only [Blk.sub]; rw [subs_map,mapCs_free (fix_sub id z) h]
  | _=>first | rfl | cases h
theorem blk_kill_free {js:List Nat} {b:Blk} (h:b.free=true):b.kill js=b:=by
  cases b with
  | cells t cs=>simp only [Blk.kill]; rw [kill_map,mapCs_free (fix_kill js) h]
  | _=>first | rfl | cases h
theorem blk_fzc_free {id:Nat} {g:GTy} {y:g.D} {b:Blk} (h:b.free=true):b.fzc id g y=b:=by
  cases b with
  | cells t cs=>simp only [Blk.fzc]; rw [fzc_map,mapCs_free (fix_fzc id g y) h]
  | _=>first | rfl | cases h
def inN (q:Nat):List Nat→Bool
  | []=>false
  | k :: r=>match Nat.beq k q with
    | true=>true
    | false=>inN q r
theorem inN_app {q:Nat}:∀ {l r:List Nat},inN q (l++r)=false ↔ inN q l=false∧inN q r=false
  | [],r=>by simp [inN]
  | k :: l,r=>by
    show (match Nat.beq k q with | true=>true | false=>inN q (l++r))=false ↔ (match Nat.beq k q with | true=>true | false=>inN q l)=false∧_;cases Nat.beq k q with
    | true=>simp
    | false=>exact inN_app
theorem inN_ne {q k:Nat} {r:List Nat} (h:inN q (k :: r)=false):q≠k∧inN q r=false:=by
  unfold inN at h
  split at h
  · cases h
  · rename_i e
    exact ⟨(fun e'=>by rw [e',Nat.beq_refl] at e; cases e),h⟩
def Kp {α:Type} (fr:α→Bool) (V:List Nat) (L L':List (Nat×α)):Prop:=∀ q v,inN q V=false→lk L' q=some v→∃ u,lk L q=some u∧(fr u=true→v=u)
theorem Kp.refl {α:Type} {fr:α→Bool} {V:List Nat} (L:List (Nat×α)):Kp fr V L L:=fun _ v _ h=>⟨v,h,fun _=>rfl⟩
theorem Kp.trans {α:Type} {fr:α→Bool} {V V2:List Nat} {L L1 L2:List (Nat×α)} (h:Kp fr V L L1) (k:Kp fr V2 L1 L2):Kp fr (V2++V) L L2:=fun q v hq hl=>by
  obtain ⟨h1,h2⟩:=inN_app.1 hq;obtain ⟨u,h3,h4⟩:=k q v h1 hl;obtain ⟨u2,h5,h6⟩:=h q u h2 h3;exact ⟨u2,h5,fun hf=>by have:=h6 hf; subst this; exact h4 hf⟩
theorem Kp.more {α:Type} {fr:α→Bool} {V V2:List Nat} {L L1:List (Nat×α)} (h:Kp fr V L L1) (hv:∀ q,inN q V2=false→inN q V=false):Kp fr V2 L L1:=fun q v hq hl=>h q v (hv q hq) hl
theorem Kp.cons {α:Type} {fr:α→Bool} {V:List Nat} {L L':List (Nat×α)} {d:Nat} {v:α} (h:Kp fr V L L'):Kp fr (d :: V) L ((d,v) :: L'):=fun q u hq hl=>by
  obtain ⟨h1,h2⟩:=inN_ne hq;rw [lk_cons,if_neg h1] at hl;exact h q u h2 hl
theorem Kp.append {α:Type} {fr:α→Bool} {V:List Nat} {L L':List (Nat×α)} (h:Kp fr V L L'):∀ {h2:List (Nat×α)} {ks:List Nat},h2.map (·.1)=ks→Kp fr (ks++V) L (h2++L')
  | [],_,rfl=>h
  | (k,v) :: r,_,rfl=>Kp.cons (V:=r.map (·.1)++V) (Kp.append h rfl)
theorem Kp.map {α:Type} {fr:α→Bool} {V:List Nat} {L L':List (Nat×α)} {f:α→α} (hf:∀ v,fr v=true→f v=v) (h:∀ q v,lk L' q=some v→∃ u,lk L q=some u∧v=f u):Kp fr V L L':=fun q v _ hl=>by
  obtain ⟨u,h1,h2⟩:=h q v hl;exact ⟨u,h1,fun hu=>by rw [h2,hf u hu]⟩
theorem Kp.less {α:Type} {fr:α→Bool} {V:List Nat} {L L':List (Nat×α)} (h:∀ q v,lk L' q=some v→lk L q=some v):Kp fr V L L':=fun q v _ hl=>⟨v,h q v hl,fun _=>rfl⟩
abbrev KL:=Kp SV.free
abbrev KH:=Kp Blk.free
theorem kl_sub (id:Nat) (z:SC) (L:Sl) {V:List Nat}:KL V L (subL id z L):=Kp.map (f:=fun v=>v.sub id z) (fun _ h=>sv_sub_free h) fun _ _ h=>lk_subL h
theorem kl_kill (js:List Nat) (L:Sl) {V:List Nat}:KL V L (killL js L):=Kp.map (f:=fun v=>v.kill js) (fun _ h=>sv_kill_free h) fun _ _ h=>lk_killL h
theorem kl_fzc (id:Nat) (g:GTy) (x:g.D) (L:Sl) {V:List Nat}:KL V L (fzcL id g x L):=Kp.map (f:=fun v=>v.fzc id g x) (fun _ h=>sv_fzc_free h) fun _ _ h=>lk_fzcL h
theorem kh_del (id:Nat) (z:SC) {V:List Nat}:∀ H:Hp,KH V H (delH id z H)
  | []=>Kp.refl []
  | (k,b) :: r=>fun q v hq hl=>by
    unfold delH at hl
    split at hl
    · rename_i e
      have hk:=Nat.eq_of_beq_eq_true e;obtain ⟨u,h1,h2⟩:=kh_del id z (V:=V) r q v hq hl;have hne:q≠k:=fun e'=>by
        subst e';rw [hk] at hl;exact lk_del_none hl
      exact ⟨u,by rw [lk_cons,if_neg hne]; exact h1,h2⟩
    · rw [lk_cons] at hl ⊢
      split at hl
      · rename_i e
        cases hl;rw [if_pos e];exact ⟨b,rfl,fun hf=>blk_sub_free hf⟩
      · rename_i e
        rw [if_neg e];exact kh_del id z r q v hq hl
where lk_del_none {id:Nat} {z:SC} {v:Blk}:∀ {H:Hp},lk (delH id z H) id=some v→False
  | [],h=>by cases h
  | (k,b) :: r,h=>by
    unfold delH at h
    split at h
    · exact lk_del_none h
    · rename_i e
      rw [lk_cons,if_neg (fun e'=>by rw [e',Nat.beq_refl] at e; cases e)] at h;exact lk_del_none h
theorem kh_put {id:Nat} {b:Blk} {V:List Nat} (hV:inN id V=true):∀ {H:Hp},KH V H (putH id b H)
  | []=>Kp.refl []
  | (k,b') :: r=>fun q v hq hl=>by
    have hne:q≠id:=fun e=>by rw [e,hV] at hq; cases hq
    unfold putH at hl
    split at hl
    · rename_i e
      have hk:=Nat.eq_of_beq_eq_true e;rw [lk_cons,if_neg (by rw [hk]; exact hne)] at hl;exact ⟨v,by rw [lk_cons,if_neg (by rw [hk]; exact hne)]; exact hl,fun _=>rfl⟩
    · rw [lk_cons] at hl ⊢
      split at hl
      · rename_i e
        rw [if_pos e];exact ⟨b',rfl,fun _=>by cases hl; rfl⟩
      · rename_i e
        rw [if_neg e];exact kh_put hV q v hq hl
end Go.Proofs.Yteglgnkcpaagjaa

/- States told in other words, by computation. -/
namespace Go.Proofs.Yteglgnkcpaagjaa
open Go.RowKit
inductive Wi where
  | frz (id:Nat)
  | frzC (id:Nat) (g:GTy)
  | nil (s id:Nat) (t:TypeId) (g:GTy)
  | nilC (k p id:Nat) (t:TypeId) (g:GTy)
  | frzL (id:Nat)
  | row2l (id:Nat)
  | lfull (s id:Nat) (t:TypeId)
  | lfullC (k p id:Nat) (t:TypeId)
  | arr (s:Nat) (g:GTy) (m:Nat)
  | frzA (s:Nat)
  | pick (ks hs:List Nat)
  | conv (s:Nat) (x:VS)
  | rowcap (id:Nat)
  | data (s:Nat) (g:GTy)
  | dataB (id:Nat) (g:GTy)
def wki (n:Nat):Wi→ASt→Option (Bool×ASt)
  | .frz id,st=>match Go.Proofs.Yteglgnkcpaagjaa.frz id st with
    | some st'=>some (true,st')
    | none=>none
  | .frzC id g,st=>match lk st.H id with
    | some (.cells _ cs)=>match dec g cs with
      | some (c,x,[])=>some (c,⟨fzcL id g x st.L,fzcH id g x st.H⟩)
      | _=>none
    | _=>none
  | .nil s id t g,st=>match Nat.blt id n,lk st.L s with
    | true,some (.a (.c (.val v)))=>match isNil v with
      | true=>some (true,⟨(s,.c (.sl id)) :: subL id .dead st.L,(id,.row t g [] none) :: delH id .dead st.H⟩)
      | false=>none
    | _,_=>none
  | .nilC k p id t g,st=>match Nat.blt id n with
    | true=>some (true,⟨subL id .dead st.L,(id,.row t g [] none) :: nilH k p id (delH id .dead st.H)⟩)
    | false=>none
  | .frzL id,st=>match Go.Proofs.Yteglgnkcpaagjaa.frzL id st with
    | some st'=>some (true,st')
    | none=>none
  | .row2l id,st=>match lk st.H id with
    | some (.row t g l _)=>some (true,⟨st.L,putH id (.lrow t g l) st.H⟩)
    | _=>none
  | .lfull s id t,st=>match Nat.blt id n,lk st.L s with
    | true,some (.a (.c (.lst g l (some c))))=>some (Nat.beq c l.length,⟨(s,.c (.sl id)) :: subL id .dead st.L,(id,.lrow t g l) :: delH id .dead st.H⟩)
    | _,_=>none
  | .lfullC k p id t,st=>match Nat.blt id n,Nat.beq k id,lk st.H k with
    | true,false,some (.cells _ cs)=>match cs[p]? with
      | some (.lst g l (some c))=>some (Nat.beq c l.length,⟨subL id .dead st.L,(id,.lrow t g l) :: setCl k p (.sl id) (delH id .dead st.H)⟩)
      | _=>none
    | _,_,_=>none
  | .arr s g m,st=>match Nat.blt s n,lk st.L s,lk st.H s with
    | true,some (.a (.c (.ptr q 0))),some (.cells t cs)=>match Nat.beq q s,Nat.ble m 140737488355328,decs g m cs with
      | true,true,some (c,l,[])=>some (c,⟨(s,.c (.elt s g.size 0 0)) :: subL s .dead st.L,(s,.row t g l (some m)) :: delH s .dead st.H⟩)
      | _,_,_=>none
    | _,_,_=>none
  | .frzA s,st=>match lk st.L s with
    | some (.a (.c (.elt id _ 0 0)))=>match lk st.H id with
      | some (.row _ g l _)=>some (true,⟨(s,.c (.par g l)) :: subL id .dead st.L,delH id .dead st.H⟩)
      | _=>none
    | _=>none
  | .pick ks hs,st=>match pickL st.L ks,pickH st.H hs with
    | some L',some H'=>some (true,⟨L',H'⟩)
    | _,_=>none
  | .conv s x,st=>match lk st.L s with
    | some sv=>match x.get (T:=[]) sv () with
      | some u=>some (true,⟨(s,(x.S u).1) :: st.L,st.H⟩)
      | none=>none
    | none=>none
  | .rowcap id,st=>some (true,⟨st.L,nocapH id st.H⟩)
  | .data s g,st=>match lk st.L s with
    | some (.a (.agg cs))=>match dec g cs with
      | some (c,x,[])=>match gcells g x 0 g.size with
        | some cs'=>some (c,⟨(s,.a (.agg cs')) :: st.L,st.H⟩)
        | none=>none
      | _=>none
    | _=>none
  | .dataB id g,st=>match lk st.H id with
    | some (.cells t cs)=>match dec g cs with
      | some (c,x,[])=>match gcells g x 0 g.size with
        | some cs'=>some (c,⟨st.L,putH id (.cells t cs') st.H⟩)
        | none=>none
      | _=>none
    | _=>none
theorem wki_ok {X:Cx} {n:Nat} {x:Wi} {st st':ASt} {c:Bool} (h:wki n x st=some (c,st')) (hc:c=true):Wk X n st st':=by
  unfold wki at h
  split at h
  · split at h
    · rename_i e; cases h; exact Wk.frz e
    · cases h
  · split at h
    · rename_i e
      split at h
      · rename_i e2; cases h; exact Wk.frzC _ _ e e2 hc
      · cases h
    · cases h
  · split at h
    · rename_i e e2
      split at h
      · rename_i e3
        cases h;rw [isNil_ok e3] at e2;exact Wk.nil _ _ _ _ e e2
      · cases h
    · cases h
  · split at h
    · rename_i e; cases h; exact Wk.nilC _ _ _ _ _ e
    · cases h
  · split at h
    · rename_i e; cases h; exact Wk.frzL e
    · cases h
  · split at h
    · rename_i e; cases h; exact Wk.row2l _ e
    · cases h
  · split at h
    · rename_i e1 e2
      cases h;exact Wk.lfull _ _ _ e1 e2 (Nat.eq_of_beq_eq_true hc)
    · cases h
  · split at h
    · rename_i e1 e2 e3
      split at h
      · rename_i e4
        cases h;exact Wk.lfullC _ _ _ _ e1 e2 e3 e4 (Nat.eq_of_beq_eq_true hc)
      · cases h
    · cases h
  · split at h
    · rename_i e1 e2 e3
      split at h
      · rename_i e4 e5 e6
        cases h;rw [Nat.eq_of_beq_eq_true e4] at e2;exact Wk.arr _ _ _ _ e1 e2 e3 e6 hc (Nat.le_of_ble_eq_true e5)
      · cases h
    · cases h
  · split at h
    · rename_i e1
      split at h
      · rename_i e2
        cases h;exact Wk.frzA _ e1 e2
      · cases h
    · cases h
  · split at h
    · rename_i e1 e2; cases h; exact Wk.pick _ _ e1 e2
    · cases h
  · split at h
    · rename_i e1
      split at h
      · rename_i e2
        cases h;exact Wk.conv _ e1 (VS.get_ok e2).2
      · cases h
    · cases h
  · cases h
    exact Wk.rowcap _ rfl
  · split at h
    · rename_i e1
      split at h
      · rename_i e2
        split at h
        · rename_i e3
          cases h;exact Wk.data _ _ e1 e2 hc e3
        · cases h
      · cases h
    · cases h
  · split at h
    · rename_i e1
      split at h
      · rename_i e2
        split at h
        · rename_i e3
          cases h;exact Wk.dataB _ _ e1 e2 hc e3
        · cases h
      · cases h
    · cases h
def Wi.touch:Wi→List Nat
  | .nil s id _ _=>[s,id]
  | .nilC k _ id _ _=>[k,id]
  | .row2l id=>[id]
  | .lfull s id _=>[s,id]
  | .lfullC k _ id _=>[k,id]
  | .arr s _ _=>[s]
  | .frzA s=>[s]
  | .conv s _=>[s]
  | .rowcap id=>[id]
  | .data s _=>[s]
  | .dataB id _=>[id]
  | _=>[]
theorem beq_false_of_ne' {a b:Nat} (h:a≠b):Nat.beq b a=false:=by
  cases e:Nat.beq b a with
  | false=>rfl
  | true=>exact absurd (Nat.eq_of_beq_eq_true e).symm h
theorem in1 (a:Nat) (r:List Nat):inN a (a :: r)=true:=by
  unfold inN;rw [Nat.beq_refl]
theorem kh_fzc {id:Nat} {g:GTy} {x:g.D} {V:List Nat}:∀ H:Hp,KH V H (fzcH id g x H)
  | []=>Kp.refl []
  | (k,b) :: r=>fun q v hq hl=>by
    unfold fzcH at hl
    split at hl
    · rename_i e
      have hk:=Nat.eq_of_beq_eq_true e;obtain ⟨u,h1,h2⟩:=kh_fzc r q v hq hl
      by_cases hne:q=k
      · subst hne
        subst hk;exact (fzc_none hl).elim
      · exact ⟨u,by rw [lk_cons,if_neg hne]; exact h1,h2⟩
    · rw [lk_cons] at hl ⊢
      split at hl
      · rename_i e
        cases hl;rw [if_pos e];exact ⟨b,rfl,fun hf=>blk_fzc_free hf⟩
      · rename_i e
        rw [if_neg e];exact kh_fzc r q v hq hl
where fzc_none {id:Nat} {g:GTy} {x:g.D} {v:Blk}:∀ {H:Hp},lk (fzcH id g x H) id=some v→False
  | [],h=>by cases h
  | (k,b) :: r,h=>by
    unfold fzcH at h
    split at h
    · exact fzc_none h
    · rename_i e
      rw [lk_cons,if_neg (fun e'=>by rw [e',Nat.beq_refl] at e; cases e)] at h;exact fzc_none h
theorem kh_nil {k p id:Nat} {V:List Nat} (hV:inN k V=true):∀ H:Hp,KH V H (nilH k p id H)
  | []=>Kp.refl []
  | (j,b) :: r=>fun q v hq hl=>by
    have hne:q≠k:=fun e=>by rw [e,hV] at hq; cases hq
    unfold nilH at hl
    split at hl
    · cases hl
    · rename_i e0
      cases e0
      split at hl
      · rename_i e
        have hk:=Nat.eq_of_beq_eq_true e;subst hk;rw [lk_cons,if_neg hne] at hl;exact ⟨v,by rw [lk_cons,if_neg hne]; exact hl,fun _=>rfl⟩
      · rw [lk_cons] at hl ⊢
        split at hl
        · rename_i e
          rw [if_pos e];exact ⟨_,rfl,fun _=>by cases hl; rfl⟩
        · rename_i e
          rw [if_neg e];exact kh_nil hV r q v hq hl
    · rename_i e0
      cases e0;rw [lk_cons] at hl ⊢
      split at hl
      · rename_i e
        rw [if_pos e];exact ⟨_,rfl,fun _=>by cases hl; rfl⟩
      · rename_i e
        rw [if_neg e];exact kh_nil hV r q v hq hl
theorem pickL_less {L:Sl}:∀ {ks:List Nat} {L':Sl},pickL L ks=some L'→∀ q v,lk L' q=some v→lk L q=some v:=fun h q v hq=>(pickL_ok h).look q v hq
theorem subH_less {h h':Hp} (hs:SubH h h'):∀ q b,lk h' q=some b→lk h q=some b:=by
  induction hs with
  | nil=>intro q b h; cases h
  | cons hk _ _ ih=>
    intro q b h;rw [lk_cons] at h
    split at h
    · rename_i e; cases h; rw [e]; exact hk
    · exact ih q b h
theorem kh_nocap {id:Nat} {V:List Nat} (hV:inN id V=true):∀ H:Hp,KH V H (nocapH id H)
  | []=>Kp.refl []
  | (j,b) :: r=>fun q v hq hl=>by
    have hne:q≠id:=fun e=>by rw [e,hV] at hq; cases hq
    unfold nocapH at hl
    split at hl
    · cases hl
    · rename_i e0
      cases e0
      split at hl
      · rename_i e
        have hk:=Nat.eq_of_beq_eq_true e;subst hk;rw [lk_cons,if_neg hne] at hl;exact ⟨v,by rw [lk_cons,if_neg hne]; exact hl,fun _=>rfl⟩
      · rw [lk_cons] at hl ⊢
        split at hl
        · rename_i e
          rw [if_pos e];exact ⟨_,rfl,fun _=>by cases hl; rfl⟩
        · rename_i e
          rw [if_neg e];exact kh_nocap hV r q v hq hl
    · rename_i e0
      cases e0;rw [lk_cons] at hl ⊢
      split at hl
      · rename_i e
        rw [if_pos e];exact ⟨_,rfl,fun _=>by cases hl; rfl⟩
      · rename_i e
        rw [if_neg e];exact kh_nocap hV r q v hq hl
theorem kh_setCl {k p:Nat} {c:SC} {V:List Nat} (hV:inN k V=true):∀ H:Hp,KH V H (setCl k p c H)
  | []=>Kp.refl []
  | (j,b) :: r=>fun q v hq hl=>by
    have hne:q≠k:=fun e=>by rw [e,hV] at hq; cases hq
    unfold setCl at hl
    split at hl
    · rename_i e
      have hk:=Nat.eq_of_beq_eq_true e;subst hk;rw [lk_cons,if_neg hne] at hl;exact ⟨v,by rw [lk_cons,if_neg hne]; exact hl,fun _=>rfl⟩
    · rw [lk_cons] at hl ⊢
      split at hl
      · rename_i e
        rw [if_pos e];exact ⟨_,rfl,fun _=>by cases hl; rfl⟩
      · rename_i e
        rw [if_neg e];exact kh_setCl hV r q v hq hl
theorem inN_cons {q k:Nat} {r:List Nat}:inN q (k :: r)=false ↔ q≠k∧inN q r=false:=⟨inN_ne,fun ⟨h1,h2⟩=>by
  unfold inN;rw [beq_false_of_ne' h1];exact h2⟩
theorem inN_swap {q a b:Nat} (h:inN q [a,b]=false):inN q (b :: ([a]++[]))=false:=by
  obtain ⟨h1,h2⟩:=inN_cons.1 h;obtain ⟨h3,h4⟩:=inN_cons.1 h2;exact inN_cons.2 ⟨h3,inN_cons.2 ⟨h1,rfl⟩⟩
theorem kh_nil2 {k p id:Nat} {z:SC} {b:Blk} (H:Hp):KH [k,id] H ((id,b) :: nilH k p id (delH id z H)):=
  (((kh_del id z (V:=[]) H).trans (kh_nil (k:=k) (p:=p) (id:=id) (in1 k []) _)).cons (d:=id) (v:=b)).more fun _ h=>inN_swap h
theorem kh_set2 {k p id:Nat} {z c:SC} {b:Blk} (H:Hp):KH [k,id] H ((id,b) :: setCl k p c (delH id z H)):=
  (((kh_del id z (V:=[]) H).trans (kh_setCl (k:=k) (p:=p) (c:=c) (in1 k []) _)).cons (d:=id) (v:=b)).more fun _ h=>inN_swap h
def KS (V:List Nat) (st st':ASt):Prop:=KL V st.L st'.L∧KH V st.H st'.H
theorem KS.refl {V:List Nat} (st:ASt):KS V st st:=⟨Kp.refl _,Kp.refl _⟩
theorem KS.trans {V V2:List Nat} {a b c:ASt} (h:KS V a b) (k:KS V2 b c):KS (V2++V) a c:=⟨h.1.trans k.1,h.2.trans k.2⟩
theorem KS.more {V V2:List Nat} {a b:ASt} (h:KS V a b) (hv:∀ q,inN q V2=false→inN q V=false):KS V2 a b:=⟨h.1.more hv,h.2.more hv⟩
theorem wki_ks {n:Nat} {x:Wi} {st st':ASt} {c:Bool} (h:wki n x st=some (c,st')):KS x.touch st st':=by
  unfold wki at h
  split at h
  · split at h
    · rename_i e
      cases h;unfold Go.Proofs.Yteglgnkcpaagjaa.frz at e
      split at e
      · cases e; exact ⟨kl_sub _ _ _,kh_del _ _ _⟩
      · cases e
    · cases h
  · split at h
    · split at h
      · cases h; exact ⟨kl_fzc _ _ _ _,kh_fzc _⟩
      · cases h
    · cases h
  · split at h
    · split at h
      · cases h
        exact ⟨Kp.cons (kl_sub _ _ _),(Kp.cons (V:=[]) (kh_del _ _ _)).more fun q hq=>by obtain ⟨h1,h2⟩:=inN_ne hq; exact h2⟩
      · cases h
    · cases h
  · split at h
    · cases h
      exact ⟨kl_sub _ _ _,kh_nil2 _⟩
    · cases h
  · split at h
    · rename_i e
      cases h;unfold Go.Proofs.Yteglgnkcpaagjaa.frzL at e
      split at e
      · cases e; exact ⟨kl_sub _ _ _,kh_del _ _ _⟩
      · cases e
    · cases h
  · split at h
    · cases h; exact ⟨Kp.refl _,kh_put (in1 _ _)⟩
    · cases h
  · split at h
    · cases h
      exact ⟨Kp.cons (kl_sub _ _ _),(Kp.cons (V:=[]) (kh_del _ _ _)).more fun q hq=>by obtain ⟨h1,h2⟩:=inN_ne hq; exact h2⟩
    · cases h
  · split at h
    · split at h
      · cases h
        exact ⟨kl_sub _ _ _,kh_set2 _⟩
      · cases h
    · cases h
  · split at h
    · split at h
      · cases h
        exact ⟨Kp.cons (kl_sub _ _ _),Kp.cons (kh_del _ _ _)⟩
      · cases h
    · cases h
  · split at h
    · split at h
      · cases h
        exact ⟨Kp.cons (kl_sub _ _ _),kh_del _ _ _⟩
      · cases h
    · cases h
  · split at h
    · rename_i e1 e2
      cases h;exact ⟨Kp.less (pickL_less e1),Kp.less (subH_less (pickH_ok e2))⟩
    · cases h
  · split at h
    · split at h
      · cases h
        exact ⟨Kp.cons (Kp.refl _),Kp.refl _⟩
      · cases h
    · cases h
  · cases h
    exact ⟨Kp.refl _,kh_nocap (in1 _ _) _⟩
  · split at h
    · split at h
      · split at h
        · cases h
          exact ⟨Kp.cons (Kp.refl _),Kp.refl _⟩
        · cases h
      · cases h
    · cases h
  · split at h
    · split at h
      · split at h
        · cases h
          exact ⟨Kp.refl _,kh_put (in1 _ _)⟩
        · cases h
      · cases h
    · cases h
end Go.Proofs.Yteglgnkcpaagjaa

/- Special pure operations, by computation. -/
namespace Go.Proofs.Yteglgnkcpaagjaa
open Go.RowKit
def keyB (X:Cx) (t:TypeId) (g:GTy):Bool:=match X.tt.find t with
  | some ⟨⟨.struct _,_,_,_⟩,_⟩=>g.key&&(eqT X.P X.tt 12 t g&&!(X.P.eqGuardType X.P.depth t))
  | _=>false
theorem keyB_ok {X:Cx} (hX:X.tt.ok X.P) {t:TypeId} {g:GTy} (h:keyB X t g=true):KeyOk X.P t g:=by
  unfold keyB at h
  split at h
  · rename_i hf
    simp only [Bool.and_eq_true,Bool.not_eq_true'] at h;exact KeyOk.of hX h.1 hf rfl h.2.1 h.2.2
  · cases h
def elG (X:Cx) (e:TypeId):Option (TE×GTy):=match X.tt.find e with
  | some te=>match te.g with
    | some g=>some (te,g)
    | none=>none
  | none=>none
def eqv2 (X:Cx) (L:Sl) (t:TypeId) (u v:Operand):Option (Bool×Bool):=match ae X L u,ae X L v,X.tt.find t with
  | some (g1,.agg cs),some (g2,.agg ds),some te=>match te.g with
    | some g=>match dec g cs,dec g ds,keyB X t g with
      | some (c1,x,[]),some (c2,y,[]),true=>some (g1&&(g2&&(c1&&c2)),g.beq x y)
      | _,_,_=>none
    | none=>none
  | _,_,_=>none
def xpure (X:Cx) (st:ASt):Op→Option (Bool×SA)
  | .binOp .eql t u v _=>match eqv2 X st.L t u v with
    | some (c,b)=>some (c,.c (.val (.bool b)))
    | none=>none
  | .binOp .neq t u v _=>match eqv2 X st.L t u v with
    | some (c,b)=>some (c,.c (.val (.bool (!b))))
    | none=>none
  | .load t x=>match ae X st.L x,X.tt.find t with
    | some (g1,.c (.elt id 1 i 0)),some te=>match lk st.H id,isAggD te.ti.desc with
      | some (.hrow _ _ _ _ _ j d2),false=>some (g1&&Nat.beq i j,.c (.sl d2))
      | _,_=>none
    | _,_=>none
  | _=>none
theorem eqv2_ok {X:Cx} (hX:X.tt.ok X.P) {L:Sl} {t:TypeId} {u v:Operand} {c b:Bool} (h:eqv2 X L t u v=some (c,b)) (hc:c=true):∃ g1 g2 c1 c2 cs ds g x y,ae X L u=some (g1,.agg cs)∧ae X L v=some (g2,.agg ds)∧KeyOk X.P t g∧dec g cs=some (c1,x,[])∧dec g ds=some (c2,y,[])∧g1=true∧g2=true∧c1=true∧c2=true∧b=g.beq x y:=by
  unfold eqv2 at h
  split at h
  · rename_i hu hv ht
    split at h
    · split at h
      · rename_i e1 e2 e3
        cases h;simp only [Bool.and_eq_true] at hc;exact ⟨_,_,_,_,_,_,_,_,_,hu,hv,keyB_ok hX e3,e1,e2,hc.1,hc.2.1,hc.2.2.1,hc.2.2.2,rfl⟩
      · cases h
    · cases h
  · cases h
theorem xpure_ok {X:Cx} {st:ASt} (hX:X.tt.ok X.P) {o:Oper} {c:Bool} {sa:SA} (h:xpure X st o.op=some (c,sa)) (hc:c=true):PureOk X st o sa:=by
  unfold xpure at h
  split at h
  · rename_i hop
    split at h
    · rename_i e
      cases h;obtain ⟨g1,g2,c1,c2,cs,ds,g,x,y,hu,hv,hK,hx,hy,h1,h2,h3,h4,rfl⟩:=eqv2_ok hX e hc;exact pk_eqlA hK hop hu h1 hv h2 hx h3 hy h4
    · cases h
  · rename_i hop
    split at h
    · rename_i e
      cases h;obtain ⟨g1,g2,c1,c2,cs,ds,g,x,y,hu,hv,hK,hx,hy,h1,h2,h3,h4,rfl⟩:=eqv2_ok hX e hc;exact pk_neqA hK hop hu h1 hv h2 hx h3 hy h4
    · cases h
  · rename_i hop
    split at h
    · rename_i hx ht
      split at h
      · rename_i hl ha
        cases h;simp only [Bool.and_eq_true] at hc
        have:=Nat.eq_of_beq_eq_true hc.2
        subst this;intro R W Bi n ks env B w0 H a w1 hA;exact pk_loadH hX hop ht ha hx hc.1 hl hA
      · cases h
    · cases h
  · cases h
end Go.Proofs.Yteglgnkcpaagjaa
