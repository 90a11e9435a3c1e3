/- Part 2 of 4 of the proof. -/
import Derived.Test.YteglgnkcpaagjaaDoorSl1
import Derived.Lib.LaidTab
import Derived.Test.YteglgnkcpaagjaaDoorProg
import Derived.KernelRfl
import Derived.Lib.ItoaNum
import Derived.Test.YteglgnkcpaagjaaDoorRows
import Derived.LaidMore
import Derived.OpenShut
import Derived.Stop.Joined
import Derived.Test.YteglgnkcpaagjaaDoorCards
import Derived.Test.YteglgnkcpaagjaaDoorTie
import Derived.SevenTiedAt
import Derived.Maps.RangeRun
import Derived.Scope
set_option linter.unusedSimpArgs false
set_option linter.unusedVariables false
set_option maxRecDepth 20000
set_option maxHeartbeats 4000000
/- Calls by contracts. -/
namespace Go.Proofs.YteglgnkcpaagjaaDoor
open Go.RowKit
abbrev Ps:=List (Nat×Nat)
def renIds (ps:Ps):List Cap→Option (List Cap)
  | []=>some []
  | .id i :: r=>match lk ps i,renIds ps r with
    | some j,some l=>some (.id j :: l)
    | _,_=>none
  | .fz g x :: r=>match renIds ps r with
    | some l=>some (.fz g x :: l)
    | none=>none
def SC.ren (ps:Ps):SC→Option SC
  | .ptr i o=>match lk ps i with
    | some j=>some (.ptr j o)
    | none=>none
  | .elt i sz k o=>match lk ps i with
    | some j=>some (.elt j sz k o)
    | none=>none
  | .sl i=>match lk ps i with
    | some j=>some (.sl j)
    | none=>none
  | .fn f ids=>match renIds ps ids with
    | some l=>some (.fn f l)
    | none=>none
  | .mref i=>match lk ps i with
    | some j=>some (.mref j)
    | none=>none
  | .bfn f i=>match lk ps i with
    | some j=>some (.bfn f j)
    | none=>none
  | .nel i o=>match lk ps i with
    | some j=>some (.nel j o)
    | none=>none
  | .val v=>some (.val v)
  | .str s=>some (.str s)
  | .dead=>some .dead
  | .pel g x o=>some (.pel g x o)
  | .par g l=>some (.par g l)
  | .lst g l c=>some (.lst g l c)
def renCs (ps:Ps):List SC→Option (List SC)
  | []=>some []
  | c :: r=>match c.ren ps,renCs ps r with
    | some c',some r'=>some (c' :: r')
    | _,_=>none
def SA.ren (ps:Ps):SA→Option SA
  | .c x=>match x.ren ps with
    | some y=>some (.c y)
    | none=>none
  | .agg cs=>match renCs ps cs with
    | some l=>some (.agg l)
    | none=>none
  | .arr g l=>some (.arr g l)
def renAs (ps:Ps):List SA→Option (List SA)
  | []=>some []
  | c :: r=>match c.ren ps,renAs ps r with
    | some c',some r'=>some (c' :: r')
    | _,_=>none
def SV.ren (ps:Ps):SV→Option SV
  | .a x=>match x.ren ps with
    | some y=>some (.a y)
    | none=>none
  | .tup xs=>match renAs ps xs with
    | some l=>some (.tup l)
    | none=>none
  | .may _ _=>none
def Blk.ren (ps:Ps):Blk→Option Blk
  | .cells t cs=>match renCs ps cs with
    | some l=>some (.cells t l)
    | none=>none
  | .row t g l c=>some (.row t g l c)
  | .sit s p=>some (.sit s p)
  | .mp gk gv l o=>some (.mp gk gv l o)
  | .it mid es k ps'=>match lk ps mid with
    | some j=>some (.it j es k ps')
    | none=>none
  | .junk=>some .junk
  | .hrow t g l c i d=>match lk ps d with
    | some j=>some (.hrow t g l c i j)
    | none=>none
  | .rjunk=>some .rjunk
  | .lrow t g l=>some (.lrow t g l)
def renH (ps:Ps):Hp→Option Hp
  | []=>some []
  | (i,b) :: r=>match lk ps i,b.ren ps,renH ps r with
    | some j,some b',some r'=>some ((j,b') :: r')
    | _,_,_=>none
def anyIn (js:List Nat):List Cap→Bool
  | []=>false
  | .id i :: r=>js.elem i || anyIn js r
  | .fz _ _ :: r=>anyIn js r
def SC.kill:SC→List Nat→SC
  | .ptr i o,js=>match js.elem i with
    | true=>.dead
    | false=>.ptr i o
  | .elt i sz j o,js=>match js.elem i with
    | true=>.dead
    | false=>.elt i sz j o
  | .sl i,js=>match js.elem i with
    | true=>.dead
    | false=>.sl i
  | .fn f ids,js=>match anyIn js ids with
    | true=>.dead
    | false=>.fn f ids
  | .mref i,js=>match js.elem i with
    | true=>.dead
    | false=>.mref i
  | .bfn f i,js=>match js.elem i with
    | true=>.dead
    | false=>.bfn f i
  | .nel i o,js=>match js.elem i with
    | true=>.dead
    | false=>.nel i o
  | c,_=>c
def killCs (js:List Nat):List SC→List SC
  | []=>[]
  | c :: r=>c.kill js :: killCs js r
def SA.kill:SA→List Nat→SA
  | .c x,js=>.c (x.kill js)
  | .agg cs,js=>.agg (killCs js cs)
  | .arr g l,_=>.arr g l
def killAs (js:List Nat):List SA→List SA
  | []=>[]
  | c :: r=>c.kill js :: killAs js r
def SV.kill:SV→List Nat→SV
  | .a x,js=>.a (x.kill js)
  | .may g x,js=>.may g (x.kill js)
  | .tup xs,js=>.tup (killAs js xs)
def killL (js:List Nat):Sl→Sl
  | []=>[]
  | (k,v) :: r=>(k,v.kill js) :: killL js r
def Blk.kill:Blk→List Nat→Blk
  | .cells t cs,js=>.cells t (killCs js cs)
  | .it mid es k ps,js=>match js.elem mid with
    | true=>.junk
    | false=>.it mid es k ps
  | .hrow t g l c i d,js=>match js.elem d with
    | true=>.rjunk
    | false=>.hrow t g l c i d
  | b,_=>b
def qz (js ks:List Nat):Hp→Hp
  | []=>[]
  | (k,b) :: r=>match js.elem k with
    | true=>qz js ks r
    | false=>(k,b.kill ks) :: qz js ks r
def seconds:Ps→List Nat
  | []=>[]
  | (_,j) :: r=>j :: seconds r
def keepP (h:Hp) (i:Nat):Bool:=match Nat.ble zR i,Nat.ble qi i,lk h i with
  | true,_,_=>true
  | _,true,some (.cells _ _)=>true
  | _,true,some (.mp _ _ _ _)=>true
  | _,_,_=>false
def qg (h:Hp):Ps→List Nat
  | []=>[]
  | (i,j) :: r=>match keepP h i with
    | true=>qg h r
    | false=>j :: qg h r
def nodupB:List Nat→Bool
  | []=>true
  | x :: r=>!(r.elem x)&&nodupB r
def firsts:Ps→List Nat
  | []=>[]
  | (i,_) :: r=>i :: firsts r
def pinsB (n:Nat):Ps→Bool
  | []=>true
  | (i,j) :: r=>(Nat.ble zR i || (Nat.ble qi i&&Nat.blt j zR) || Nat.blt j n)&&pinsB n r
def okPs (n:Nat) (ps:Ps):Bool:=nodupB (firsts ps)&&nodupB (seconds ps)&&pinsB n ps
def inv:Ps→Nat→Option Nat
  | [],_=>none
  | (i,j) :: r,k=>if k=j then some i else inv r k
theorem nodupB_ok:∀ {l:List Nat},nodupB l=true→l.Nodup
  | [],_=>List.nodup_nil
  | x :: r,h=>by
    simp only [nodupB,Bool.and_eq_true,Bool.not_eq_true',List.elem_eq_mem,decide_eq_false_iff_not] at h;exact List.nodup_cons.2 ⟨h.1,nodupB_ok h.2⟩
theorem lk_mem {α:Type}:∀ {l:List (Nat×α)} {i:Nat} {x:α},lk l i=some x→(i,x)∈l
  | [],_,_,h=>by cases h
  | (k,v) :: r,i,x,h=>by
    rw [zB] at h
    split at h
    · rename_i e; subst e; cases h; exact List.mem_cons_self
    · exact List.mem_cons_of_mem _ (lk_mem h)
theorem mem_firsts:∀ {ps:Ps} {i j:Nat},(i,j)∈ps→i∈firsts ps
  | [],_,_,h=>by cases h
  | (k,l) :: r,i,j,h=>by
    rcases List.mem_cons.1 h with h | h
    · cases h; exact List.mem_cons_self
    · exact List.mem_cons_of_mem _ (mem_firsts h)
theorem mem_seconds:∀ {ps:Ps} {i j:Nat},(i,j)∈ps→j∈seconds ps
  | [],_,_,h=>by cases h
  | (k,l) :: r,i,j,h=>by
    rcases List.mem_cons.1 h with h | h
    · cases h; exact List.mem_cons_self
    · exact List.mem_cons_of_mem _ (mem_seconds h)
theorem mem_lk:∀ {ps:Ps} {i j:Nat},(firsts ps).Nodup→(i,j)∈ps→lk ps i=some j
  | [],_,_,_,h=>by cases h
  | (k,l) :: r,i,j,hn,h=>by
    have hn':=List.nodup_cons.1 hn;rw [zB]
    rcases List.mem_cons.1 h with hm | hm
    · cases hm; rw [if_pos rfl]
    · rw [if_neg (fun e=>hn'.1 (by subst e; exact mem_firsts hm)),mem_lk hn'.2 hm]
theorem mem_inv:∀ {ps:Ps} {i j:Nat},(seconds ps).Nodup→(i,j)∈ps→inv ps j=some i
  | [],_,_,_,h=>by cases h
  | (k,l) :: r,i,j,hn,h=>by
    have hn':=List.nodup_cons.1 hn;unfold inv
    rcases List.mem_cons.1 h with hm | hm
    · cases hm; rw [if_pos rfl]
    · rw [if_neg (fun e=>hn'.1 (by subst e; exact mem_seconds hm)),mem_inv hn'.2 hm]
theorem inv_mem:∀ {ps:Ps} {i j:Nat},inv ps j=some i→(i,j)∈ps
  | [],_,_,h=>by cases h
  | (k,l) :: r,i,j,h=>by
    unfold inv at h
    split at h
    · rename_i e; subst e; cases h; exact List.mem_cons_self
    · exact List.mem_cons_of_mem _ (inv_mem h)
theorem pinsB_ok {n:Nat}:∀ {ps:Ps} {i j:Nat},pinsB n ps=true→(i,j)∈ps→zR≤i∨(qi≤i∧j < zR)∨j < n
  | [],_,_,_,h=>by cases h
  | (k,l) :: r,i,j,hp,h=>by
    simp only [pinsB,Bool.and_eq_true,Bool.or_eq_true] at hp
    rcases List.mem_cons.1 h with h | h
    · cases h
      rcases hp.1 with (h1 | h1) | h1
      · exact .inl (Nat.le_of_ble_eq_true h1)
      · exact .inr (.inl ⟨Nat.le_of_ble_eq_true h1.1,zh h1.2⟩)
      · exact .inr (.inr (zh h1))
    · exact pinsB_ok hp.2 h
theorem killJs_mem {h:Hp}:∀ {ps:Ps} {i j:Nat},(i,j)∈ps→(qg h ps).elem j=false→keepP h i=true
  | [],_,_,h,_=>by cases h
  | (k,l) :: r,i,j,hm,hk=>by
    unfold qg at hk
    rcases List.mem_cons.1 hm with hm | hm
    · cases hm
      split at hk
      · assumption
      · simp at hk
    · split at hk
      · exact killJs_mem hm hk
      · simp only [List.elem_eq_mem,List.mem_cons,decide_eq_false_iff_not,not_or] at hk
        exact killJs_mem hm (by simpa using hk.2)
section
variable {env env' env'':Nat→Loc} {B:Nat→Prop} {w:World} {ps:Ps} {js:List Nat}
theorem ptrs.ren (he:∀ i j,lk ps i=some j→env' j=env i):∀ {ids l:List Cap} {vs:List Value},renIds ps ids=some l→(ptrs env B w ids vs ↔ ptrs env' B w l vs)
  | [],l,vs,h=>by cases h; exact Iff.rfl
  | .id i :: ids,l,vs,h=>by
    simp only [renIds] at h
    split at h
    · rename_i j r hi hr
      cases h;constructor
      · rintro ⟨v,r',h1,⟨b,h2,h4⟩,h3⟩
        exact ⟨v,r',h1,⟨b,by rw [he i j hi]; exact h2,h4⟩,(ptrs.ren he hr).1 h3⟩
      · rintro ⟨v,r',h1,⟨b,h2,h4⟩,h3⟩
        exact ⟨v,r',h1,⟨b,by rw [← he i j hi]; exact h2,h4⟩,(ptrs.ren he hr).2 h3⟩
    · cases h
  | .fz g x :: ids,l,vs,h=>by
    simp only [renIds] at h
    split at h
    · rename_i r hr
      cases h;constructor
      · rintro ⟨v,r',h1,h2,h3⟩; exact ⟨v,r',h1,h2,(ptrs.ren he hr).1 h3⟩
      · rintro ⟨v,r',h1,h2,h3⟩; exact ⟨v,r',h1,h2,(ptrs.ren he hr).2 h3⟩
    · cases h
theorem CR.ren (he:∀ i j,lk ps i=some j→env' j=env i):∀ {c c':SC} {v:Value},c.ren ps=some c'→(CR env B w c v ↔ CR env' B w c' v)
  | .val _,_,_,h=>by cases h; exact Iff.rfl
  | .str _,_,_,h=>by cases h; exact Iff.rfl
  | .dead,_,_,h=>by cases h; exact Iff.rfl
  | .ptr i o,_,_,h=>by
    simp only [SC.ren] at h
    split at h
    · rename_i j hi
      cases h;simp only [CR,he i j hi]
    · cases h
  | .elt i sz k o,_,_,h=>by
    simp only [SC.ren] at h
    split at h
    · rename_i j hi
      cases h;simp only [CR,he i j hi]
    · cases h
  | .nel i o,_,_,h=>by
    simp only [SC.ren] at h
    split at h
    · rename_i j hi
      cases h;simp only [CR,he i j hi]
    · cases h
  | .pel _ _ _,_,_,h=>by cases h; exact Iff.rfl
  | .par _ _,_,_,h=>by cases h; exact Iff.rfl
  | .sl i,_,_,h=>by
    simp only [SC.ren] at h
    split at h
    · rename_i j hi
      cases h;simp only [CR,he i j hi]
    · cases h
  | .lst _ _ _,_,_,h=>by cases h; exact Iff.rfl
  | .fn f ids,_,_,h=>by
    simp only [SC.ren] at h
    split at h
    · rename_i l hl
      cases h;simp only [CR];constructor
      · rintro ⟨vs,h1,h2⟩; exact ⟨vs,h1,(ptrs.ren he hl).1 h2⟩
      · rintro ⟨vs,h1,h2⟩; exact ⟨vs,h1,(ptrs.ren he hl).2 h2⟩
    · cases h
  | .mref i,_,_,h=>by
    simp only [SC.ren] at h
    split at h
    · rename_i j hi
      cases h;simp only [CR,he i j hi]
    · cases h
  | .bfn f i,_,_,h=>by
    simp only [SC.ren] at h
    split at h
    · rename_i j hi
      cases h;simp only [CR,he i j hi]
    · cases h
theorem CsR.ren (he:∀ i j,lk ps i=some j→env' j=env i):∀ {c c':List SC} {v:List Value},renCs ps c=some c'→(CsR env B w c v ↔ CsR env' B w c' v)
  | [],_,_,h=>by cases h; exact Iff.rfl
  | c :: r,_,_,h=>by
    simp only [renCs] at h
    split at h
    · rename_i c' r' h1 h2
      cases h;constructor
      · rintro ⟨v,q,e,h3,h4⟩; exact ⟨v,q,e,(CR.ren he h1).1 h3,(CsR.ren he h2).1 h4⟩
      · rintro ⟨v,q,e,h3,h4⟩; exact ⟨v,q,e,(CR.ren he h1).2 h3,(CsR.ren he h2).2 h4⟩
    · cases h
theorem SaR.ren (he:∀ i j,lk ps i=some j→env' j=env i):∀ {c c':SA} {v:Value},c.ren ps=some c'→(SaR env B w c v ↔ SaR env' B w c' v)
  | .c x,_,_,h=>by
    simp only [SA.ren] at h
    split at h
    · rename_i y hy; cases h; exact CR.ren he hy
    · cases h
  | .agg cs,_,_,h=>by
    simp only [SA.ren] at h
    split at h
    · rename_i l hl
      cases h;constructor
      · rintro ⟨vs,e,h3⟩; exact ⟨vs,e,(CsR.ren he hl).1 h3⟩
      · rintro ⟨vs,e,h3⟩; exact ⟨vs,e,(CsR.ren he hl).2 h3⟩
    · cases h
  | .arr g l,_,_,h=>by cases h; exact Iff.rfl
theorem SasR.ren (he:∀ i j,lk ps i=some j→env' j=env i):∀ {c c':List SA} {v:List Value},renAs ps c=some c'→(SasR env B w c v ↔ SasR env' B w c' v)
  | [],_,_,h=>by cases h; exact Iff.rfl
  | c :: r,_,_,h=>by
    simp only [renAs] at h
    split at h
    · rename_i c' r' h1 h2
      cases h;constructor
      · rintro ⟨v,q,e,h3,h4⟩; exact ⟨v,q,e,(SaR.ren he h1).1 h3,(SasR.ren he h2).1 h4⟩
      · rintro ⟨v,q,e,h3,h4⟩; exact ⟨v,q,e,(SaR.ren he h1).2 h3,(SasR.ren he h2).2 h4⟩
    · cases h
theorem VR.ren (he:∀ i j,lk ps i=some j→env' j=env i):∀ {c c':SV} {v:Value},c.ren ps=some c'→VR env B w c v→VR env' B w c' v
  | .a x,_,_,h,hv=>by
    simp only [SV.ren] at h
    split at h
    · rename_i y hy; cases h; exact (SaR.ren he hy).1 hv
    · cases h
  | .tup xs,_,_,h,⟨vs,e,hv⟩=>by
    simp only [SV.ren] at h
    split at h
    · rename_i l hl; cases h; exact ⟨vs,e,(SasR.ren he hl).1 hv⟩
    · cases h
  | .may _ _,_,_,h,_=>by cases h
theorem BR.ren (he:∀ i j,lk ps i=some j→env' j=env i) {i j:Nat} (hi:lk ps i=some j):∀ {b b':Blk} {c:Ck},b.ren ps=some b'→(BR env B w i b c ↔ BR env' B w j b' c)
  | .cells t cs,_,_,h=>by
    simp only [Blk.ren] at h
    split at h
    · rename_i l hl
      cases h;simp only [BR,he i j hi];constructor
      · rintro ⟨b,vs,h1,h2,h3⟩; exact ⟨b,vs,h1,h2,(CsR.ren he hl).1 h3⟩
      · rintro ⟨b,vs,h1,h2,h3⟩; exact ⟨b,vs,h1,h2,(CsR.ren he hl).2 h3⟩
    · cases h
  | .row t g l c,_,_,h=>by cases h; simp only [BR,he i j hi]
  | .sit s p,_,_,h=>by cases h; simp only [BR,he i j hi]
  | .mp gk gv l o,_,_,h=>by cases h; simp only [BR,he i j hi]
  | .it mid es k ps',_,_,h=>by
    simp only [Blk.ren] at h
    split at h
    · rename_i j' hj
      cases h;simp only [BR,he i j hi,he mid j' hj]
    · cases h
  | .junk,_,_,h=>by cases h; simp only [BR,he i j hi]
  | .hrow t g l c q d,_,_,h=>by
    simp only [Blk.ren] at h
    split at h
    · rename_i j' hj
      cases h;simp only [BR,he i j hi,he d j' hj]
    · cases h
  | .rjunk,_,_,h=>by cases h; simp only [BR,he i j hi]
  | .lrow t g l,_,_,h=>by cases h; simp only [BR,he i j hi]
theorem HR.ren (he:∀ i j,lk ps i=some j→env' j=env i):∀ {h h':Hp} {H:List Ck},renH ps h=some h'→HR env B w h H→HR env' B w h' H
  | [],_,_,h,hh=>by cases h; exact hh
  | (i,b) :: r,_,_,h,⟨c,H',e,h1,h2⟩=>by
    simp only [renH] at h
    split at h
    · rename_i j b' r' h3 h4 h5
      cases h;exact ⟨c,H',e,(BR.ren he h3 h4).1 h1,HR.ren he h5 h2⟩
    · cases h
theorem ptrs.kill (he:∀ j,js.elem j=false→env' j=env j):∀ {ids:List Cap} {vs:List Value},anyIn js ids=false→ptrs env B w ids vs→ptrs env' B w ids vs
  | [],_,_,h=>h
  | .id i :: ids,_,hn,⟨v,r,e,⟨b,hb,hv⟩,h⟩=>by
    simp only [anyIn,Bool.or_eq_false_iff] at hn;exact ⟨v,r,e,⟨b,by rw [he i hn.1]; exact hb,hv⟩,ptrs.kill he hn.2 h⟩
  | .fz g x :: ids,_,hn,⟨v,r,e,h1,h⟩=>⟨v,r,e,h1,ptrs.kill he (by simpa [anyIn] using hn) h⟩
variable (he:∀ j,js.elem j=false→env' j=env j)
include he
theorem CR.kill:∀ {c:SC} {v:Value},CR env B w c v→CR env' B w (c.kill js) v
  | .val _,_,hc=>hc
  | .str _,_,hc=>hc
  | .dead,_,hc=>hc
  | .ptr i o,v,hc=>by
    simp only [SC.kill]
    split
    · trivial
    · rename_i h
      obtain ⟨b,e,hv⟩:=hc;exact ⟨b,by rw [he i h]; exact e,hv⟩
  | .elt i sz j o,v,hc=>by
    simp only [SC.kill]
    split
    · trivial
    · rename_i h
      obtain ⟨b,c,n,e,hv⟩:=hc;exact ⟨b,c,n,by rw [he i h]; exact e,hv⟩
  | .nel i o,v,hc=>by
    simp only [SC.kill]
    split
    · trivial
    · rename_i h
      obtain ⟨b,c,n,e,hv⟩:=hc;exact ⟨b,c,n,by rw [he i h]; exact e,hv⟩
  | .pel _ _ _,_,hc=>hc
  | .par _ _,_,hc=>hc
  | .sl i,v,hc=>by
    simp only [SC.kill]
    split
    · trivial
    · rename_i h
      obtain ⟨A,c,n,e,hv⟩:=hc;exact ⟨A,c,n,by rw [he i h]; exact e,hv⟩
  | .lst _ _ _,_,hc=>hc
  | .fn f ids,v,hc=>by
    simp only [SC.kill]
    split
    · trivial
    · rename_i h
      obtain ⟨vs,hv,hp⟩:=hc;exact ⟨vs,hv,ptrs.kill he h hp⟩
  | .mref i,v,hc=>by
    simp only [SC.kill]
    split
    · trivial
    · rename_i h
      obtain ⟨b,e,hv⟩:=hc;exact ⟨b,by rw [he i h]; exact e,hv⟩
  | .bfn f i,v,hc=>by
    simp only [SC.kill]
    split
    · trivial
    · rename_i h
      obtain ⟨b,e,hv⟩:=hc;exact ⟨b,by rw [he i h]; exact e,hv⟩
theorem CsR.kill:∀ {c:List SC} {v:List Value},CsR env B w c v→CsR env' B w (killCs js c) v
  | [],_,hc=>hc
  | _ :: _,_,⟨v,r,e,h1,h2⟩=>⟨v,r,e,CR.kill he h1,CsR.kill h2⟩
theorem SaR.kill:∀ {c:SA} {v:Value},SaR env B w c v→SaR env' B w (c.kill js) v
  | .c _,_,hc=>CR.kill he hc
  | .agg _,_,⟨vs,e,h1⟩=>⟨vs,e,CsR.kill he h1⟩
  | .arr _ _,_,h=>h
theorem SasR.kill:∀ {c:List SA} {v:List Value},SasR env B w c v→SasR env' B w (killAs js c) v
  | [],_,hc=>hc
  | _ :: _,_,⟨v,r,e,h1,h2⟩=>⟨v,r,e,SaR.kill he h1,SasR.kill h2⟩
theorem VR.kill:∀ {c:SV} {v:Value},VR env B w c v→VR env' B w (c.kill js) v
  | .a _,_,hc=>SaR.kill he hc
  | .may _ _,_,hc=>⟨fun hg=>SaR.kill he (hc.1 hg),hc.2⟩
  | .tup _,_,⟨vs,e,h1⟩=>⟨vs,e,SasR.kill he h1⟩
theorem BR.kill {k:Nat} (hk:env' k=env k):∀ {b:Blk} {c:Ck},BR env B w k b c→BR env' B w k (b.kill js) c
  | .cells _ _,_,⟨b,vs,e,hc,h1⟩=>⟨b,vs,by rw [hk]; exact e,hc,CsR.kill he h1⟩
  | .row _ _ _ _,_,⟨A,c,xs,e,hc,h1⟩=>⟨A,c,xs,by rw [hk]; exact e,hc,h1⟩
  | .sit _ _,_,⟨b,e,hc⟩=>⟨b,by rw [hk]; exact e,hc⟩
  | .mp _ _ _ _,_,⟨b,es,q,e,hc⟩=>⟨b,es,q,by rw [hk]; exact e,hc⟩
  | .it mid _ _ _,_,⟨b,m,e,hm,hc⟩=>by
    simp only [Blk.kill]
    split
    · exact ⟨b,_,by rw [hk]; exact e,hc⟩
    · rename_i h
      exact ⟨b,m,by rw [hk]; exact e,by rw [he mid h]; exact hm,hc⟩
  | .junk,_,⟨b,o,e,hc⟩=>⟨b,o,by rw [hk]; exact e,hc⟩
  | .hrow t g l cap i d,_,⟨A,c,ys,A',c',m,e,hc,h1,hi,h2,h3⟩=>by
    simp only [Blk.kill]
    split
    · exact ⟨A,c,_,_,_,_,_,by rw [hk]; exact e,hc⟩
    · rename_i h
      exact ⟨A,c,ys,A',c',m,by rw [hk]; exact e,hc,h1,hi,by rw [he d h]; exact h2,h3⟩
  | .rjunk,_,⟨A,c,n,t,s,m,xs,e,hc⟩=>⟨A,c,n,t,s,m,xs,by rw [hk]; exact e,hc⟩
  | .lrow _ _ _,_,⟨A,c,e,h1⟩=>⟨A,c,by rw [hk]; exact e,h1⟩
omit he in
theorem lk_killL:∀ {l:Sl} {s:Nat} {v:SV},lk (killL js l) s=some v→∃ u,lk l s=some u∧v=u.kill js
  | [],_,_,h=>by cases h
  | (k,u) :: l,s,v,h=>by
    unfold killL at h;rw [zB] at h ⊢
    split at h
    · rename_i e
      cases h;rw [if_pos e];exact ⟨u,rfl,rfl⟩
    · rename_i e
      rw [if_neg e];exact lk_killL h
omit he in
theorem HR.append:∀ {h h':Hp} {H H':List Ck},HR env B w h H→HR env B w h' H'→HR env B w (h++h') (H++H')
  | [],_,_,_,h1,h2=>by rw [show _=[] from h1]; exact h2
  | _ :: _,_,_,_,⟨c,H',e,h1,h2⟩,h3=>⟨c,_,by rw [e]; rfl,h1,HR.append h2 h3⟩
end
inductive PassH (ps:Ps):Hp→Hp→Hp→Prop where
  | nil {H:Hp}:PassH ps [] H H
  | cons {i j:Nat} {b b':Blk} {r H H':Hp} (hi:lk ps i=some j) (hb:b.ren ps=some b') (hl:lk H j=some b') (hr:PassH ps r (eraseH j H) H'):PassH ps ((i,b) :: r) H H'
section
variable {env env' env'':Nat→Loc} {B:Nat→Prop} {w:World} {ps:Ps} {js ks:List Nat}
theorem PassH.split (he:∀ i j,lk ps i=some j→env' j=env i) {h H H':Hp} (hp:PassH ps h H H'):∀ {C:List Ck},HR env' B w H C→∃ C1 C2,C.Perm (C1++C2)∧HR env B w h C1∧HR env' B w H' C2:=by
  induction hp with
  | nil=>intro C hC; exact ⟨[],C,List.Perm.refl _,rfl,hC⟩
  | cons hi hb hl _ ih=>
    intro C hC;obtain ⟨c,H2,h1,h2,h3⟩:=hC.erase hl;obtain ⟨C1,C2,h4,h5,h6⟩:=ih h3;exact ⟨c :: C1,C2,h2.trans (List.Perm.cons _ h4),⟨c,C1,rfl,(BR.ren he hi hb).2 h1,h5⟩,h6⟩
theorem HR.frame (he:∀ j,ks.elem j=false→env' j=env j) (hk:∀ k,js.elem k=false→env' k=env k):∀ {l:Hp} {H:List Ck},HR env B w l H→∃ H',H'.Sublist H∧HR env' B w (qz js ks l) H'∧(js=[]→H'=H)
  | [],_,hh=>⟨[],by rw [show _=[] from hh]; exact List.Sublist.refl _,rfl,fun _=>(show _=[] from hh).symm⟩
  | (k,b) :: l,_,⟨c,H',e,h1,h2⟩=>by
    obtain ⟨H2,hs,h3,h4⟩:=HR.frame he hk h2;subst e;unfold qz
    split
    · rename_i h
      exact ⟨H2,hs.cons _,h3,fun e=>by rw [e] at h; cases h⟩
    · rename_i h
      exact ⟨c :: H2,hs.cons_cons _,⟨c,H2,rfl,BR.kill he (hk k h) h1,h3⟩,fun e=>by rw [h4 e]⟩
end
def aes (X:Cx) (L:Sl):List Operand→Option (Bool×List SA)
  | []=>some (true,[])
  | u :: r=>match ae X L u,aes X L r with
    | some (g,x),some (c,l)=>some (g&&c,x :: l)
    | _,_=>none
theorem aes_ok {X:Cx} {R:Nat→Prop} {W:World} {Bi:Bk} {n:Nat} {ks:List Nat} {env:Nat→Loc} {B:Nat→Prop} {w0:World} {H:List Ck} {st:ASt} {a:Act} {w:World} (h:AI X R W Bi n ks env B w0 H st a w) :
    ∀ {us:List Operand} {c:Bool} {xs:List SA},aes X st.L us=some (c,xs)→c=true→∃ vs,evs (full a) us=some vs∧SasR env B w0 xs vs
  | [],c,xs,hu,_=>by cases hu; exact ⟨[],rfl,rfl⟩
  | u :: us,c,xs,hu,hc=>by
    simp only [aes] at hu
    split at hu
    · rename_i g x c' l h1 h2
      cases hu;simp only [Bool.and_eq_true] at hc;obtain ⟨v,h3,h4⟩:=h.ev h1 hc.1;obtain ⟨vs,h5,h6⟩:=aes_ok h h2 hc.2;refine ⟨v :: vs,?_,v,vs,rfl,h4,h6⟩;unfold evs;rw [h3,h5]
    · cases hu
theorem AI.called {X:Cx} {R:Nat→Prop} {W:World} {Bi:Bk} {n d:Nat} {ks:List Nat} {env:Nat→Loc} {B:Nat→Prop} {w0:World} {H:List Ck} {st:ASt} {a a':Act} {w w':World} {ps:Ps} {h H1:Hp} {Q:SV→Hp→Prop} {v:Value} (hA:AI X R W Bi n ks env B w0 H st a w)
    (hps:okPs n ps=true) {C1 C2:List Ck} (hperm:H.Perm (C1++C2)) (hC1:HR (fun i=>match lk ps i with | some j=>env j | none=>.no) B w0 h C1) (hC2:HR env B w0 H1 C2)
    (hpost:ACpost X (fun i=>match lk ps i with | some j=>env j | none=>.no) B C1 w Q v w') (hS:St n (ks.map qf) ((d,v) :: full a) a') :
    ∃ sv h',Q sv h'∧∀ sv' h'',sv.ren ps=some sv'→renH ps h'=some h''→∃ env' B' w0' H',AI X R W Bi n ks env' B' w0' H' ⟨(d,sv') :: killL (qg h ps) st.L,h''++qz (seconds ps) (qg h ps) H1⟩ a' w'∧(∀ k,B k→B' k)∧KO (fun k=>R k∨B k) w0 w0'∧(ps=[]→∀ c∈C2,c∈H'):=by
  obtain ⟨env',B',w0',H',sv,h',hQ,hsub,hnew,hko,hvr,hhr,hsh,hpin⟩:=hpost;refine ⟨sv,h',hQ,fun sv' h'' hsv hh=>?_⟩;simp only [okPs,Bool.and_eq_true] at hps;obtain ⟨⟨hp1,hp2⟩,hp3⟩:=hps;have hf:=nodupB_ok hp1;have hs2:=nodupB_ok hp2;have hs:SH (fun k=>R k∨B k) w0 (C1++(C2++ks.map mkO)) w:=by
    have:=hA.sh.perm (hperm.append_right (ks.map mkO))
    rw [List.append_assoc] at this;exact this
  have hpart:=List.pairwise_append.1 hs.apart;have hRest:∀ k,R k∨B k→Rest w C1 k:=fun k hk=>⟨hs.base k hk,fun c hc e=>((hs.ok c (List.mem_append_left _ hc)).lt e).1 hk⟩
  have hFr:∀ c∈C2++ks.map mkO,∀ b,c.at=some b→Rest w C1 b∧¬ (R b∨B b):=fun c hc b hb=>by
    have h1:=(hs.ok c (List.mem_append_right _ hc)).lt hb;exact ⟨⟨h1.2,fun c' hc' e=>hpart.2.2 c' hc' c hc b e hb⟩,h1.1⟩
  have hsame:∀ k,Rest w C1 k→w'.heap[k]?=w.heap[k]?:=fun k hk=>(hsh.below.block k (.inl hk)).trans (hko.block k hk)
  have hup:Up B w0 B' w0':=⟨hsub,fun k hk=>(hko.block k (hRest k (.inr hk))).trans (hs.below.block k (.inr hk))⟩
  let e2:Nat→Loc:=fun j=>match inv ps j with | some i=>env' i | none=>env j
  have he1:∀ i j,lk ps i=some j→e2 j=env' i:=fun i j hij=>by
    show (match inv ps j with | some i=>env' i | none=>env j)=_;rw [mem_inv hs2 (lk_mem hij)]
  have hBlk:∀ {l:Hp} {C:List Ck} {envc:Nat→Loc} {Bc:Nat→Prop} {wc:World} {i:Nat} {t:TypeId} {cs:List SC},HR envc Bc wc l C→lk l i=some (.cells t cs)→∃ b,envc i=.blk b:=by
    intro l C envc Bc wc i t cs hl hi;obtain ⟨c,K,⟨b,vs,h1,_⟩,_⟩:=hl.foc hi;exact ⟨b,h1⟩
  have hBlkM:∀ {l:Hp} {C:List Ck} {envc:Nat→Loc} {Bc:Nat→Prop} {wc:World} {i:Nat} {gk gv:GTy} {q:List (gk.D×gv.D)} {o:Option (List MapEntry×Nat)},HR envc Bc wc l C→lk l i=some (.mp gk gv q o)→∃ b,envc i=.blk b:=by
    intro l C envc Bc wc i gk gv q o hl hi;obtain ⟨c,K,⟨b,_,_,h1,_⟩,_⟩:=hl.foc hi;exact ⟨b,h1⟩
  have he2:∀ j,(qg h ps).elem j=false→e2 j=env j:=fun j hj=>by
    show (match inv ps j with | some i=>env' i | none=>env j)=_;cases hi:inv ps j with
    | none=>rfl
    | some i=>
      have hm:=inv_mem hi;have hkeep:=killJs_mem hm hj;have hij:=mem_lk hf hm;unfold keepP at hkeep
      split at hkeep
      · rename_i hb
        show env' i=env j;exact hpin i (env j) (.inr (Nat.le_of_ble_eq_true hb)) (by simp only [hij])
      · rename_i t cs hb hl _
        obtain ⟨b,hb1⟩:=hBlk hC1 hl;have h1:=hpin i (.blk b) (.inl ⟨Nat.le_of_ble_eq_true hb,b,rfl⟩) hb1;rw [hij] at hb1;show env' i=env j;rw [h1];exact hb1.symm
      · rename_i gk gv q o hb hl _
        obtain ⟨b,hb1⟩:=hBlkM hC1 hl;have h1:=hpin i (.blk b) (.inl ⟨Nat.le_of_ble_eq_true hb,b,rfl⟩) hb1;rw [hij] at hb1;show env' i=env j;rw [h1];exact hb1.symm
      · cases hkeep
  have he3:∀ k,(seconds ps).elem k=false→e2 k=env k:=fun k hk=>by
    show (match inv ps k with | some i=>env' i | none=>env k)=_;cases hi:inv ps k with
    | none=>rfl
    | some i=>
      have:=mem_seconds (inv_mem hi)
      simp only [List.elem_eq_mem,decide_eq_false_iff_not] at hk;exact absurd this hk
  obtain ⟨C3,hsl,hC3,hC4⟩:=HR.frame (js:=seconds ps) (ks:=qg h ps) he2 he3 (hC2.up hup);have hKO:KO (fun k=>R k∨B k) w0 w0':=⟨hko.os.trans hs.below.os,hko.tape.trans hs.below.tape,hko.output.trans hs.below.output,Nat.le_trans hs.below.size hko.size,fun k hk=>(hko.block k (hRest k hk)).trans (hs.below.block k hk)⟩
  refine ⟨e2,B',w0',H'++C3,⟨hS.size,hS.defs,fun s u hu=>?_,(HR.ren he1 hh hhr).append hC3,?_,fun k hk=>hsub k (hA.sub k hk),fun k hk=>?_,fun id b hb=>?_,?_,fun i x hx=>(hA.glob i x hx).up hup⟩,hsub,hKO,fun e c hc=>List.mem_append_right _ (by rw [hC4 (by rw [e]; rfl)]; exact hc)⟩
  · rw [zB] at hu
    split at hu
    · rename_i e; subst e; cases hu; exact ⟨v,hS.this,VR.ren he1 hsv hvr⟩
    · rename_i e
      obtain ⟨u0,hu0,rfl⟩:=lk_killL hu;obtain ⟨u',h3,h4⟩:=hA.has s u0 hu0;exact ⟨u',hS.other e h3,VR.kill he2 (h4.up hup)⟩
  · have hsub2:(C3++ks.map mkO).Sublist (C2++ks.map mkO):=hsl.append_right _
    rw [List.append_assoc];refine ⟨⟨hsh.below.os,hsh.below.tape,hsh.below.output,hsh.below.size,fun k hk=>hsh.below.block k (hk.imp (fun h=>hRest k (.inl h)) id)⟩,fun k hk=>hsh.base k (hk.imp (fun h=>hRest k (.inl h)) id),fun c hc=>?_,List.pairwise_append.2 ⟨hsh.apart,hpart.2.1.sublist hsub2,fun c hc d hd b hb hb'=>?_⟩⟩
    · rcases List.mem_append.1 hc with hc | hc
      · exact (hsh.ok c hc).base fun b hb hk=>((hsh.ok c hc).lt hb).1 (hk.imp (fun h=>hRest b (.inl h)) id)
      · have hc':=hsub2.subset hc
        have hok:=hs.ok c (List.mem_append_right _ hc');refine (hok.keep (w':=w') fun b hb=>hsame b (hFr c hc' b hb).1).base fun b hb hk=>?_
        obtain ⟨h5,h6⟩:=hFr c hc' b hb
        rcases hk with hk | hk
        · exact h6 (.inl hk)
        · rcases hnew b hk with h7 | h7
          · exact h6 (.inr h7)
          · exact h7.1 h5
    · exact ((hsh.ok c hc).lt hb).1 (.inl (hFr d (hsub2.subset hd) b hb').1)
  · rcases hnew k hk with h5 | h5
    · exact (hA.new k h5).imp_right fun h'=>⟨h'.1,h'.2.keep ((hko.block k (hRest k (.inr h5))).trans (hs.below.block k (.inr h5)))⟩
    · exact .inr ⟨fun hR=>h5.1 (hRest k (.inl hR)),h5.2⟩
  · obtain ⟨h5,h6,h8⟩:=hA.pin id b hb
    refine ⟨h5,?_,h8⟩;show (match inv ps id with | some i=>env' i | none=>env id)=_;cases hi:inv ps id with
    | none=>exact h6
    | some i=>
      have hm:=inv_mem hi;have hij:=mem_lk hf hm
      rcases pinsB_ok hp3 hm with h7 | ⟨h7,h9⟩ | h7
      · exact hpin i b (.inr h7) (by simp only [hij]; exact h6)
      · rcases h8 with h8 | h8
        · exact hpin i b (.inl ⟨h7,h8⟩) (by simp only [hij]; exact h6)
        · omega
      · omega
  · exact hA.base.trans ⟨hko.os.trans hs.below.os,hko.tape.trans hs.below.tape,hko.output.trans hs.below.output,Nat.le_trans hs.below.size hko.size,fun k hk=>(hko.block k (hRest k (.inl hk))).trans (hs.below.block k (.inl hk))⟩
section
variable {X:Cx} {M:Bool} {n:Nat} {r:Option Nat} {st:ASt} {Q:Exit→ASt→Prop} {ops rest:List Oper} {o:Oper} {d:Nat}
theorem al_call {f:FuncId} {fn:Func} {xs:List Operand} {ts:Array TypeId} {args args':List SA} {h H1:Hp} {Qc:SV→Hp→Prop} {c:Bool} (ps:Ps) (hC:AC X f args h Qc) (hop:o.op=.call { callee:=.value (.func f),args:=xs.toArray,argTypes:=ts }) (ho:o.guard=none∧o.dst=some d) (hd:Nat.blt d n=true)
    (hfn : X.P.funcs[f]? = some fn) (hn : (fn.name == "runtime.NumGoroutine") = false) (hb : fn.body.isNone = false) (hargs : aes X st.L xs = some (c, args')) (hc : c = true) (hren : renAs ps args = some args') (hps : okPs n ps = true) (hpass : PassH ps h st.H H1)
    (hnext:∀ sv h',Qc sv h'→∃ sv' h'',sv.ren ps=some sv'∧renH ps h'=some h''∧AL X M n r ops rest ⟨(d,sv') :: killL (qg h ps) st.L,h''++qz (seconds ps) (qg h ps) H1⟩ Q):AL X M n r ops (o :: rest) st Q:=by
  rintro R W Bi a w ⟨ks,env,B,w0,H,hM,hA⟩;obtain ⟨vs,h1,h2⟩:=aes_ok hA hargs hc;have he:∀ i j,lk ps i=some j→env j=(fun i=>match lk ps i with | some j=>env j | none=>Loc.no) i:=fun i j hij=>by simp only [hij]
  obtain ⟨C1,C2,h3,h4,h5⟩:=PassH.split (env:=fun i=>match lk ps i with | some j=>env j | none=>Loc.no) he hpass hA.heap;have hs:SH B w0 C1 w:=by
    have h6:=(hA.sh.perm (h3.append_right (ks.map mkO))).weak (H':=C1) (by rw [List.append_assoc]; exact List.sublist_append_left _ _);exact ⟨⟨h6.below.os,h6.below.tape,h6.below.output,h6.below.size,fun k hk=>h6.below.block k (.inr hk)⟩,fun k hk=>h6.base k (.inr hk),fun c hc=>(h6.ok c hc).base fun b hb hk=>((h6.ok c hc).lt hb).1 (.inr hk),h6.apart⟩
  refine zW (y_call hA.sym hop ho hd hfn hn hb h1 (hC B w0 _ vs C1 w (fun i x hx=>hA.glob i x hx) ((SasR.ren he hren).2 h2) h4 hs) fun v a' w' hpost hS=>?_);obtain ⟨sv,h',hQ,hnx⟩:=hA.called hps h3 h4 h5 hpost hS;obtain ⟨sv',h'',e1,e2,hAL⟩:=hnext sv h' hQ;obtain ⟨env',B',w0',H',hA',_,_,_⟩:=hnx sv' h'' e1 e2;exact hAL R W Bi a' w' ⟨ks,env',B',w0',H',hM,hA'⟩
end
end Go.Proofs.YteglgnkcpaagjaaDoor

/- Calls of closures, guarded operations, functions with marks. -/
namespace Go.Proofs.YteglgnkcpaagjaaDoor
open Go.RowKit
def ptrAs:List Cap→List SA
  | []=>[]
  | .id i :: r=>.c (.ptr i 0) :: ptrAs r
  | .fz g x :: r=>.c (.pel g x 0) :: ptrAs r
section
variable {X:Cx} {M:Bool} {n:Nat} {r:Option Nat} {st:ASt} {Q:Exit→ASt→Prop} {ops rest:List Oper} {o:Oper} {d:Nat}
theorem ptrs_sas {env:Nat→Loc} {B:Nat→Prop} {w:World}:∀ {ids:List Cap} {vs:List Value},ptrs env B w ids vs→SasR env B w (ptrAs ids) vs
  | [],_,h=>h
  | .id _ :: ids,_,⟨v,r,e,h1,h⟩=>⟨v,r,e,h1,ptrs_sas h⟩
  | .fz _ _ :: ids,_,⟨v,r,e,⟨b,o,h1,h2⟩,h⟩=>⟨v,r,e,⟨b,o,by rw [h1]; rfl,h2⟩,ptrs_sas h⟩
theorem SasR.append {env:Nat→Loc} {B:Nat→Prop} {w:World}:∀ {xs ys:List SA} {vs us:List Value},SasR env B w xs vs→SasR env B w ys us→SasR env B w (xs++ys) (vs++us)
  | [],_,_,_,h,h'=>by rw [show _=[] from h]; exact h'
  | _ :: _,_,_,_,⟨v,r,e,h1,h2⟩,h'=>⟨v,_,by rw [e]; rfl,h1,SasR.append h2 h'⟩
theorem al_callV {f:FuncId} {fn:Func} {s:Nat} {ids:List Cap} {xs:List Operand} {ts:Array TypeId} {args args':List SA} {h H1:Hp} {Qc:SV→Hp→Prop} {c:Bool} (ps:Ps) (hC:AC X f args h Qc) (hop:o.op=.call { callee:=.value (.tmp s),args:=xs.toArray,argTypes:=ts }) (ho:o.guard=none∧o.dst=some d) (hd:Nat.blt d n=true)
    (hs : lk st.L s = some (.c (.fn f ids))) (hfn : X.P.funcs[f]? = some fn) (hn : (fn.name == "runtime.NumGoroutine") = false) (hb : fn.body.isNone = false) (hargs : aes X st.L xs = some (c, args')) (hc : c = true) (hren : renAs ps args = some (args' ++ ptrAs ids)) (hps : okPs n ps = true) (hpass : PassH ps h st.H H1)
    (hnext:∀ sv h',Qc sv h'→∃ sv' h'',sv.ren ps=some sv'∧renH ps h'=some h''∧AL X M n r ops rest ⟨(d,sv') :: killL (qg h ps) st.L,h''++qz (seconds ps) (qg h ps) H1⟩ Q):AL X M n r ops (o :: rest) st Q:=by
  rintro R W Bi a w ⟨ks,env,B,w0,H,hM,hA⟩;obtain ⟨vs,h1,h2⟩:=aes_ok hA hargs hc;obtain ⟨fv,hf1,lb,rfl,hf2⟩:=hA.has _ _ hs;have he:∀ i j,lk ps i=some j→env j=(fun i=>match lk ps i with | some j=>env j | none=>Loc.no) i:=fun i j hij=>by simp only [hij]
  obtain ⟨C1,C2,h3,h4,h5⟩:=PassH.split (env:=fun i=>match lk ps i with | some j=>env j | none=>Loc.no) he hpass hA.heap;have hs':SH B w0 C1 w:=by
    have h6:=(hA.sh.perm (h3.append_right (ks.map mkO))).weak (H':=C1) (by rw [List.append_assoc]; exact List.sublist_append_left _ _);exact ⟨⟨h6.below.os,h6.below.tape,h6.below.output,h6.below.size,fun k hk=>h6.below.block k (.inr hk)⟩,fun k hk=>h6.base k (.inr hk),fun c hc=>(h6.ok c hc).base fun b hb hk=>((h6.ok c hc).lt hb).1 (.inr hk),h6.apart⟩
  refine zW (y_callV hA.sym hop ho hd (zo hf1) hfn hn hb h1 (hC B w0 _ (vs++lb) C1 w (fun i x hx=>hA.glob i x hx) ((SasR.ren he hren).2 (h2.append (ptrs_sas hf2))) h4 hs') fun v a' w' hpost hS=>?_);obtain ⟨sv,h',hQ,hnx⟩:=hA.called hps h3 h4 h5 hpost hS;obtain ⟨sv',h'',e1,e2,hAL⟩:=hnext sv h' hQ;obtain ⟨env',B',w0',H',hA',_,_,_⟩:=hnx sv' h'' e1 e2;exact hAL R W Bi a' w' ⟨ks,env',B',w0',H',hM,hA'⟩
theorem killL_nil:∀ L:Sl,killL [] L=L:=by
  have h1:∀ c:SC,c.kill []=c:=by
    have h0:∀ ids:List Cap,anyIn [] ids=false:=by
      intro ids
      induction ids with
      | nil=>rfl
      | cons i r ih=>cases i <;> simp [anyIn,ih]
    intro c;cases c with
    | fn f ids=>simp only [SC.kill,h0]
    | _=>rfl
  have h2:∀ cs:List SC,killCs [] cs=cs:=by
    intro cs
    induction cs with
    | nil=>rfl
    | cons c r ih=>simp only [killCs,h1,ih]
  have h3:∀ x:SA,x.kill []=x:=by
    intro x;cases x with
    | c x=>simp only [SA.kill,h1]
    | agg cs=>simp only [SA.kill,h2]
    | arr g l=>rfl
  have h4:∀ xs:List SA,killAs [] xs=xs:=by
    intro xs
    induction xs with
    | nil=>rfl
    | cons c r ih=>simp only [killAs,h3,ih]
  have h5:∀ x:SV,x.kill []=x:=by
    intro x;cases x with
    | a x=>simp only [SV.kill,h3]
    | may g x=>simp only [SV.kill,h3]
    | tup xs=>simp only [SV.kill,h4]
  intro L
  induction L with
  | nil=>rfl
  | cons p r ih=>obtain ⟨k,v⟩:=p; simp only [killL,h5,ih]
theorem frameH_nil:∀ H:Hp,qz [] [] H=H:=by
  have h1:∀ c:SC,c.kill []=c:=by
    have h0:∀ ids:List Cap,anyIn [] ids=false:=by
      intro ids
      induction ids with
      | nil=>rfl
      | cons i r ih=>cases i <;> simp [anyIn,ih]
    intro c;cases c with
    | fn f ids=>simp only [SC.kill,h0]
    | _=>rfl
  have h2:∀ cs:List SC,killCs [] cs=cs:=by
    intro cs
    induction cs with
    | nil=>rfl
    | cons c r ih=>simp only [killCs,h1,ih]
  intro H
  induction H with
  | nil=>rfl
  | cons p r ih=>
    obtain ⟨k,b⟩:=p;cases b with
    | cells t cs=>simp [qz,Blk.kill,h2,ih]
    | row t g l c=>simp [qz,Blk.kill,ih]
    | sit s p=>simp [qz,Blk.kill,ih]
    | mp gk gv l o=>simp [qz,Blk.kill,ih]
    | it mid es k ps=>simp [qz,Blk.kill,ih]
    | junk=>simp [qz,Blk.kill,ih]
    | hrow t g l c i d=>simp [qz,Blk.kill,ih]
    | rjunk=>simp [qz,Blk.kill,ih]
    | lrow t g l=>simp [qz,Blk.kill,ih]
theorem zg {f:FuncId} {fn:Func} {xs:List Operand} {ts:Array TypeId} {args args':List SA} {V:SV} {c:Bool} (hC:AC X f args [] (fun sv h=>sv=V∧h=[])) (hop:o.op=.call { callee:=.value (.func f),args:=xs.toArray,argTypes:=ts }) (ho:o.guard=none∧o.dst=some d) (hd:Nat.blt d n=true)
    (hfn : X.P.funcs[f]? = some fn) (hn : (fn.name == "runtime.NumGoroutine") = false) (hb : fn.body.isNone = false) (hargs : aes X st.L xs = some (c, args')) (hc : c = true) (hren : renAs [] args = some args') (hV : V.ren [] = some V)
    (hnext:AL X M n r ops rest ⟨(d,V) :: st.L,st.H⟩ Q):AL X M n r ops (o :: rest) st Q:=
  al_call (n:=n) [] hC hop ho hd hfn hn hb hargs hc hren rfl PassH.nil fun sv h' ⟨h1,h2⟩=>by
    subst h1; subst h2;refine ⟨sv,[],hV,rfl,?_⟩;show AL X M n r ops rest ⟨(d,sv) :: killL [] st.L,[]++qz [] [] st.H⟩ Q;rw [killL_nil,frameH_nil];exact hnext
theorem al_guard (x0:SA) {j s:Nat} {want b:Bool} (hg:o.guard=some (j,want)) (hj:nth (zU ops) j=some (some s)) (hs:lk st.L s=some (.c (.val (.bool b)))) (hdst:o.dst=some d) (hd:Nat.blt d n=true)
    (h1:b=want→AL X M n r ops ({ dst:=o.dst,op:=o.op,type:=o.type,pos:=o.pos,after:=o.after,guard:=none } :: rest) st Q) (h0:b=!want→AL X M n r ops rest ⟨(d,.may false x0) :: st.L,st.H⟩ Q):AL X M n r ops (o :: rest) st Q:=by
  rintro R W Bi a w ⟨ks,env,B,w0,H,hM,hA⟩;obtain ⟨oj,hoj,hsj⟩:=nth_map hj;have hj':(ops.toArray[j]?).bind (·.dst)=some s:=by simp [hoj,← hsj]
  obtain ⟨v,h2,h3⟩:=hA.has _ _ hs;rw [show v=_ from h3] at h2;have hw:=zX hA.sym hg hj' (zo h2)
  by_cases hb:b=want
  · have h4:=h1 hb R W Bi a w ⟨ks,env,B,w0,H,hM,hA⟩
    show (if Region.wanted o (yielded ops.toArray a.tmps) then _ else _);rw [hw,if_pos (by simp [hb])];have h5:(if Region.wanted { dst:=o.dst,op:=o.op,type:=o.type,pos:=o.pos,after:=o.after,guard:=none } (yielded ops.toArray a.tmps) then _ else _):=h4;rw [show Region.wanted { dst:=o.dst,op:=o.op,type:=o.type,pos:=o.pos,after:=o.after,guard:=none } (yielded ops.toArray a.tmps)=true by simp [Region.wanted],if_pos rfl] at h5;exact h5
  · have hb':b=!want:=by cases b <;> cases want <;> simp_all
    have hS:St n (ks.map qf) ((d,undef) :: full a) (a.put o.dst undef):=by rw [hdst]; exact hA.stt.put d undef (zh hd)
    show (if Region.wanted o (yielded ops.toArray a.tmps) then _ else _);rw [hw,if_neg (by simp [hb])];exact ⟨fun _ _=>trivial,h0 hb' R W Bi _ w ⟨ks,env,B,w0,H,hM,hA.set (sv:=.may false x0) ⟨fun h=>(by cases h),fun _=>rfl⟩ hS⟩⟩
end
theorem ac_bodyM {X:Cx} {n:Nat} (hX:X.tt.ok X.P) {f:FuncId} {fn:Func} {c:Code} {args:List SA} {h:Hp} {Q:SV→Hp→Prop} {res:List ResultVar} (hf:X.P.funcs[f]?=some fn) (hb:fn.body=some c) (hN:fn.ntmps=n) (hl:Nat.ble args.length n=true) (hn:Nat.ble n qi=true) (hr:fn.results=res.toArray)
    (hB:AX X true n none c ⟨argL 0 args,h⟩ (fun e st=>e=.ret∧retQ X n res Q .ret st)):AC X f args h Q:=by
  intro B w0 env vs H W hg ha hh hs;have hlen:=ha.length;have hle:vs.length≤n:=by rw [hlen]; exact Nat.le_of_ble_eq_true hl
  refine (callsIn_wide (n:=0)).1 (callsIn_of_wp_marks hf hb trivial ?_);have hup:Up B w0 B W:=⟨fun _ h=>h,fun k hk=>hs.below.block k hk⟩
  have hsub:∀ k,B k→Rest W H k:=fun k hk=>⟨hs.base k hk,fun c hc e=>((hs.ok c hc).lt e).1 hk⟩
  have hS:=st_start (fn:=fn) hN hle _ rfl (vs:=vs);have hA:AI X (Rest W H) W ⟨B,fun id l=>((qi≤id∧∃ b,l=.blk b)∨zR≤id)∧env id=l⟩ n [] env B W H ⟨argL 0 args,h⟩ { tmps:=vs.toArray++Array.replicate (fn.ntmps - vs.toArray.size) undef,defers:=[] } W:=by
    refine ⟨hS.size,rfl,fun s sv hsv=>?_,hh.up hup,?_,fun _ h=>h,fun _ h=>.inl h,fun id l hp=>⟨Nat.le_trans (Nat.le_of_ble_eq_true hn) (hp.1.elim (fun h=>h.1) (fun h=>Nat.le_trans (by decide) h)),hp.2,hp.1.imp (fun h=>h.2) (fun h=>h)⟩,KO.refl _ _,fun i x hx=>(hg i x hx).up hup⟩
    · obtain ⟨_,v,h1,h2⟩:=argL_ok ha hsv
      rw [Nat.sub_zero] at h1;refine ⟨v,?_,h2.up hup⟩;have hlt:s < vs.length:=(List.getElem?_eq_some_iff.1 h1).1;show (vs.toArray++_)[s]?=some v;rw [Array.getElem?_append_left (by simpa using hlt)]
      simpa using h1
    · have h1:=hs.rest
      simp only [List.map_nil,List.append_nil];exact ⟨KO.refl _ _,fun k hk=>hk.elim (fun h=>h.1) (fun h=>hs.base k h),fun c hc=>(h1.ok c hc).base fun b hb hk=>hk.elim (fun h=>((h1.ok c hc).lt hb).1 h) (fun h=>((h1.ok c hc).lt hb).1 (hsub b h)),h1.apart⟩
  refine wpIn_mono (hB _ _ _ _ _ ⟨[],env,B,W,H,⟨(fun h=>by cases h),fun _ id l (hp:((qi≤id∧∃ b,l=.blk b)∨zR≤id)∧env id=l)=>hp.1.elim (fun h=>h.1) (fun h=>Nat.le_trans (by decide) h)⟩,hA⟩) ?_;rintro e a w ⟨st,⟨rfl,st',hw,c,sv,hres,hc,hQ⟩,h2⟩;obtain ⟨ks,env',B',w0',H',hM,hA'⟩:=hw _ _ _ _ _ _ h2;have hA0:AI X (Rest W H) W ⟨B,fun id l=>((qi≤id∧∃ b,l=.blk b)∨zR≤id)∧env id=l⟩ n [] env' B' w0' H' st' { tmps:=a.tmps,defers:=[] } w:=
    ⟨hA'.size,rfl,hA'.has,hA'.heap,by simpa using hA'.sh.weak (List.sublist_append_left _ _),hA'.sub,hA'.new,hA'.pin,hA'.base,hA'.glob⟩
  obtain ⟨v,h3,h4⟩:=ares_ok hX hA0 hr hres hc;have hsym:Sym n (ks.map qf) (full a) (fun k=>Rest W H k∨B' k) w0' (ks.map (fun k=>Ck.obj k (.deferred (some [])))++H') a w:=⟨hA'.stt,hA'.sh.perm List.perm_append_comm⟩
  exact f_retM ks hsym (fun w hw=>h4 w (by simpa using hw)) fun w hw=>⟨env',B',w0',H',sv,st'.H,hQ,hA'.sub,hA'.new,hA'.base,h3,hA'.heap,hw,fun id l h5 h6=>(hA'.pin id l ⟨h5,h6⟩).2.1⟩
end Go.Proofs.YteglgnkcpaagjaaDoor

/- Regions that draw their order. -/
namespace Go.Proofs.YteglgnkcpaagjaaDoor
open Go.RowKit
section
variable {P:Program} {ops:Array Oper} {Q:Exit→Act→World→Prop} {S:Nat→World→Prop}
def wpAnyJ (P:Program) (ops:Array Oper) (Q:Exit→Act→World→Prop) (S:Nat→World→Prop):Nat→Array Bool→Act→World→Prop
  | 0,listed,a,w=>Region.ready .any ops listed=[]∧Q .normal a w
  | fuel+1,listed,a,w=>(Region.ready .any ops listed=[]→Q .normal a w)∧∀ i∈Region.ready .any ops listed,∃ o,ops[i]?=some o∧XO P ops o (fun a' w'=>S i w'∧wpAnyJ P ops Q S fuel (listed.setIfInBounds i true) a' w') a w
theorem OpOk.mono {o:Oper} {a:Act} {w:World} {K K':Value→World→Prop} (h:OpOk P o a w K) (hk:∀ v w,K v w→K' v w):OpOk P o a w K':=by
  rcases h with ⟨v,w',h1,h2⟩ | ⟨w',h1,h2⟩ | ⟨f,args,w1,h1,h2⟩
  · exact .inl ⟨v,w',h1,hk _ _ h2⟩
  · exact .inr (.inl ⟨w',h1,hk _ _ h2⟩)
  · exact .inr (.inr ⟨f,args,w1,h1,Calls.mono h2 fun e w' ⟨v,he,hv⟩=>⟨v,he,hk _ _ hv⟩⟩)
theorem XO.mono {o:Oper} {a:Act} {w:World} {K K':Act→World→Prop} (h:XO P ops o K a w) (hk:∀ a w,K a w→K' a w):XO P ops o K' a w:=by
  rcases h with ⟨h1,h2⟩ | ⟨h1,h2⟩
  · exact .inl ⟨h1,h2.mono fun _ _=>hk _ _⟩
  · exact .inr ⟨h1,hk _ _ h2⟩
theorem wpAnyJ.any (r:Option Nat):∀ (fuel:Nat) (listed:Array Bool) (a:Act) (w:World),wpAnyJ P ops Q S fuel listed a w→wpAnyIn (WF r) 0 P .any ops Q fuel listed a w
  | 0,_,_,_,h=>h
  | fuel+1,_,_,_,h=>⟨h.1,fun i hi=>by
    obtain ⟨o,ho,hx⟩:=h.2 i hi;unfold wpOpIn;simp only [ho];exact XO.fenced (hx.mono fun a' w' h'=>wpAnyJ.any r fuel _ a' w' h'.2)⟩
theorem XO.putIf {T:World→Prop} {oi oj:Oper} {v:Value} (hap:oi.apart ops oj=true) (hsi:∀ cs b,oi.op≠.select cs b) (hsj:∀ cs b,oj.op≠.select cs b) {K:Act→World→Prop} {a:Act} {w:World} (hy:YieldsIf P ops T oi v a) (h:XO P ops oj K (a.put oi.dst v) w) :
    XO P ops oj (fun a' w'=>YieldsIf P ops T oi v a'∧K (a'.put oi.dst v) w') a w:=by
  obtain ⟨h1,h2,h3⟩:=Oper.apart_spec hap;have keep:∀ u,YieldsIf P ops T oi v (a.put oj.dst u):=fun u=>hy.of_same (execOp_put oi hsi a oj.dst u h3) (wanted_put oi a oj.dst u h3)
  have ew:=wanted_put oj a oi.dst v h1;have ee:=execOp_put oj hsj a oi.dst v h1;have ec:∀ u,(a.put oj.dst u).put oi.dst v=(a.put oi.dst v).put oj.dst u:=fun u=>(Act.put_comm a v u h2).symm
  rcases h with ⟨hw,h⟩ | ⟨hw,h⟩
  · refine .inl ⟨by rw [← ew]; exact hw,?_⟩
    unfold OpOk at h ⊢;rw [ee] at h
    rcases h with ⟨u,w',g1,g2⟩ | ⟨w',g1,g2⟩ | ⟨f,args,w1,g1,g2⟩
    · exact .inl ⟨u,w',g1,keep u,by rw [ec]; exact g2⟩
    · exact .inr (.inl ⟨w',g1,keep _,by rw [ec]; exact g2⟩)
    · exact .inr (.inr ⟨f,args,w1,g1,Calls.mono g2 fun e w' ⟨u,he,hu⟩=>⟨u,he,keep u,by rw [ec]; exact hu⟩⟩)
  · exact .inr ⟨by rw [← ew]; exact hw,keep _,by rw [ec]; exact h⟩
theorem yields_xo {T:World→Prop} {o:Oper} {v:Value} {a:Act} (hy:YieldsIf P ops T o v a) {K:Act→World→Prop} {w:World} (hT:T w) (h:K (a.put o.dst v) w):XO P ops o K a w:=by
  rcases hy with ⟨hw,hv⟩ | ⟨hw,rfl⟩
  · exact .inl ⟨hw,.inl ⟨v,w,hv w hT,h⟩⟩
  · exact .inr ⟨hw,h⟩
def binding (ops:Array Oper) (i:Nat) (D:List Nat) (j:Nat):Prop:=∃ oj e,ops[j]?=some oj∧e∈oj.after∧Region.binds .any e=true∧(e.on=i∨e.on∈D)
theorem wpAnyJ.first {i:Nat} {oi:Oper} {v:Value} {T:World→Prop} (hi:ops[i]?=some oi) (hsel:∀ (j:Nat) (o:Oper) cs b,ops[j]?=some o→o.op≠.select cs b) (D:List Nat) (hbD:∀ j∈D,binding ops i D j):∀ (fuel:Nat) (listed:Array Bool) (a:Act) (w:World),
      (∀ j∈D,listed.getD j true=false)→(∀ j oj,ops[j]?=some oj→j≠i→listed.getD j true=false→(∀ e∈oj.after,Region.binds .any e=true→e.on≠i)→oi.apart ops oj=true∧(j∈D∨∀ w,S j w→T w)) →
      i∈Region.ready .any ops listed→YieldsIf P ops T oi v a→T w →
      wpAnyJ P ops Q S fuel (listed.setIfInBounds i true) (a.put oi.dst v) w→(∀ w',T w'→S i w')→wpAnyJ P ops Q S (fuel+1) listed a w:=by
  intro fuel
  induction fuel with
  | zero=>
    intro listed a w _ _ hr hy hT H hSi;refine ⟨fun h=>(by rw [h] at hr; cases hr),fun j hj=>?_⟩
    by_cases hji:j=i
    · subst hji; exact ⟨oi,hi,yields_xo hy hT ⟨hSi w hT,H⟩⟩
    · have:=ready_mono hj hji
      rw [H.1] at this;cases this
  | succ fuel ih=>
    intro listed a w hDl hfree hr hy hT H hSi;refine ⟨fun h=>(by rw [h] at hr; cases hr),fun j hj=>?_⟩
    by_cases hji:j=i
    · subst hji; exact ⟨oi,hi,yields_xo hy hT ⟨hSi w hT,H⟩⟩
    · obtain ⟨oj',hoj',hH⟩:=H.2 j (ready_mono hj hji)
      obtain ⟨hun,oj,hoj,hall⟩:=mem_ready.1 hj;have hojj:oj'=oj:=Option.some.inj (hoj'.symm.trans hoj);rw [hojj] at hH;have hnot:∀ e∈oj.after,Region.binds .any e=true→e.on≠i:=fun e he hb heq=>by
        have q1:=hall e he hb;have q0:=(mem_ready.1 hr).1;rw [heq] at q1
        rcases Nat.lt_or_ge i listed.size with h' | h'
        · simp [h'] at q0 q1; rw [q0] at q1; cases q1
        · simp [Array.getElem?_eq_none h'] at q1
      have hjD:j ∉ D:=fun hjd=>by
        obtain ⟨ok,e,hk,he,hb,hon⟩:=hbD j hjd
        have:ok=oj:=Option.some.inj (hk.symm.trans hoj)
        subst this;have q1:=hall e he hb
        rcases hon with hon | hon
        · exact hnot e he hb hon
        · have q0:=hDl _ hon
          rcases Nat.lt_or_ge e.on listed.size with h' | h'
          · simp [h'] at q0 q1; rw [q0] at q1; cases q1
          · simp [Array.getElem?_eq_none h'] at q1
      obtain ⟨hap,hST⟩:=hfree j oj hoj hji hun hnot;have hput:=XO.putIf hap (fun cs b=>hsel i oi cs b hi) (fun cs b=>hsel j oj cs b hoj) hy hH;refine ⟨oj,hoj,hput.mono fun a' w' h4=>⟨h4.2.1,?_⟩⟩;have hT':=(hST.resolve_left hjD) w' h4.2.1;refine ih (listed.setIfInBounds j true) a' w' (fun k hk=>?_) (fun k ok hk hki hkun hno=>?_) (ready_mono hr (Ne.symm hji)) h4.1 hT' ?_ hSi
      · rw [getD_set_ne true (fun e=>hjD (by rw [e]; exact hk))]
        exact hDl k hk
      · refine hfree k ok hk hki ?_ hno
        by_cases hjk:j=k
        · subst hjk; exact hun
        · rw [getD_set_ne true hjk] at hkun; exact hkun
      · rw [Array.setIfInBounds_comm _ _ hji]
        exact h4.2.2
end
def isPure:Op→Bool
  | .move _=>true
  | .assign _=>true
  | .pick _ _ _=>true
  | .unOp _ _ _=>true
  | .binOp _ _ _ _ _=>true
  | .load _ _=>true
  | .fieldAddr _ _ _=>true
  | .indexAddr _ _ _=>true
  | .slice _ _ _ _ _=>true
  | .convert _ _ _=>true
  | .build _ _=>true
  | .makeFunc _ _ _=>true
  | .nilCheck _=>true
  | .extract _ _=>true
  | .call ⟨.builtin .len,_,_⟩=>true
  | .call ⟨.builtin .cap,_,_⟩=>true
  | .call ⟨.builtin .min,_,_⟩=>true
  | .call ⟨.builtin .max,_,_⟩=>true
  | _=>false
def bindB (ops:Array Oper) (i:Nat) (D:List Nat) (j:Nat):Bool:=match ops[j]? with
  | some o=>o.after.any fun e=>Region.binds .any e&&(e.on == i || D.elem e.on)
  | none=>false
def behind (ops:Array Oper) (i:Nat):List Nat:=(List.range ops.size).foldl (fun D j=>match bindB ops i D j with
  | true=>j :: D
  | false=>D) []
def restIn (ops:Array Oper) (E D:List Nat) (listed:Array Bool) (i:Nat):Bool:=
  (D.all fun j=>!listed.getD j true&&bindB ops i D j)&&(List.range ops.size).all fun j=>j == i || listed.getD j true || E.elem j || D.elem j
theorem bindB_ok {ops:Array Oper} {i j:Nat} {D:List Nat} (h:bindB ops i D j=true):binding ops i D j:=by
  unfold bindB at h
  split at h
  · rename_i o ho
    simp only [Array.any_eq_true] at h;obtain ⟨k,hk,h2⟩:=h;simp only [Bool.and_eq_true,Bool.or_eq_true,beq_iff_eq,List.elem_eq_mem,decide_eq_true_eq] at h2;exact ⟨o,_,ho,Array.getElem_mem hk,h2.1,h2.2⟩
  · cases h
def baseOk (ops:Array Oper) (listed:Array Bool) (i:Nat):Bool:=Region.noSelect ops&&Region.free .any ops listed i&&(Region.ready .any ops listed).contains i
def kindAt (f:Op→Bool) (ops:Array Oper) (i:Nat):Bool:=match ops[i]? with
  | some o=>f o.op
  | none=>false
def needOk (ops:Array Oper) (E:List Nat) (listed:Array Bool) (pre:Bool) (i:Nat):Bool:=!E.elem i || (pre&&restIn ops E (behind ops i) listed i)
structure DS where
  listed:Array Bool
  early:Bool
  pre:Bool
  nocall:Bool
def trGo (ops:Array Oper) (E:List Nat):List (Nat×Nat)→DS→Option DS
  | [],s=>some s
  | (i,0) :: tr,⟨listed,early,pre,nc⟩=>match baseOk ops listed i&&needOk ops E listed pre i&&kindAt (fun o=>isPure o&&!isLoad o) ops i with
    | true=>trGo ops E tr ⟨listed.setIfInBounds i true,early,pre,nc⟩
    | false=>none
  | (i,1) :: tr,⟨listed,early,pre,nc⟩=>match baseOk ops listed i&&needOk ops E listed pre i&&kindAt isPure ops i&&nc with
    | true=>trGo ops E tr ⟨listed.setIfInBounds i true,early,pre,nc⟩
    | false=>none
  | (i,3) :: tr,⟨listed,early,pre,nc⟩=>match baseOk ops listed i&&restIn ops E (behind ops i) listed i&&kindAt isPure ops i&&early&&pre with
    | true=>trGo ops E tr ⟨listed.setIfInBounds i true,early,pre,nc⟩
    | false=>none
  | (i,4) :: tr,⟨listed,_,pre,nc⟩=>match (Region.ready .any ops listed == [i])&&pre&&kindAt kindKeep ops i with
    | true=>trGo ops E tr ⟨listed.setIfInBounds i true,false,pre,nc⟩
    | false=>none
  | (i,_) :: tr,⟨listed,_,_,nc⟩=>match (Region.ready .any ops listed == [i])&&!E.elem i with
    | true=>trGo ops E tr ⟨listed.setIfInBounds i true,false,false,nc⟩
    | false=>none
def celH:Hp→Hp
  | []=>[]
  | (k,.cells t cs) :: r=>(k,.cells t cs) :: celH r
  | _ :: r=>celH r
def arunT (X:Cx) (n:Nat) (dsts:List (Option Nat)) (ops:List Oper):List (Nat×Nat)→Bool→ASt→Out
  | [],c,st=>.done c st
  | (i,m) :: tr,c,⟨L,H⟩=>match nth ops i with
    | some o=>match m with
      | 1=>match astep X n dsts ⟨L,[]⟩ o with
        | .ok c' ⟨L',_⟩=>arunT X n dsts ops tr (c&&c') ⟨L',H⟩
        | .stop=>.stop c ⟨L,H⟩ []
      | 3=>match astep X n dsts ⟨L,celH H⟩ o with
        | .ok c' ⟨L',_⟩=>arunT X n dsts ops tr (c&&c') ⟨L',H⟩
        | .stop=>.stop c ⟨L,H⟩ []
      | 4=>match astep X n dsts ⟨L,H⟩ o with
        | .ok c' st'=>match keepD o H with
          | true=>arunT X n dsts ops tr (c&&c') st'
          | false=>.stop c ⟨L,H⟩ []
        | .stop=>.stop c ⟨L,H⟩ []
      | _=>match astep X n dsts ⟨L,H⟩ o with
        | .ok c' st'=>arunT X n dsts ops tr (c&&c') st'
        | .stop=>.stop c ⟨L,H⟩ []
    | none=>.stop c ⟨L,H⟩ []
structure DInv (R:Nat→Prop) (ds:DS) (B0:Nat→Prop) (w00:World) (CS:List Ck) (F:World→Prop) (B:Nat→Prop) (w0:World) (H:List Ck):Prop where
  early:ds.early=true→B0=B∧w00=w0∧CS=H.filter qx
  pre:ds.pre=true→(∀ c∈CS,c∈H∧qx c=true)∧CS.Pairwise Ck.off∧(∀ k,B0 k→B k)∧KO (fun k=>R k∨B0 k) w00 w0
  frz:ds.nocall=true→F=fun w=>KO (fun k=>R k∨B k) w0 w
  frz':∀ w,KO (fun k=>R k∨B k) w0 w→F w
def AD (X:Cx) (M:Bool) (n:Nat) (ops:List Oper) (E:List Nat) (fuel:Nat) (ds:DS) (st:ASt) (Q:Exit→ASt→Prop):Prop:=
  ∀ (R:Nat→Prop) (W:World) (Bi:Bk) (B0:Nat→Prop) (w00:World) (CS:List Ck) (F:World→Prop) (ks:List Nat) (env:Nat→Loc) (B:Nat→Prop) (w0:World) (H:List Ck) (a:Act) (w:World),MOk M ks Bi→AI X R W Bi n ks env B w0 H st a w→DInv R ds B0 w00 CS F B w0 H →
    wpAnyJ X.P ops.toArray (fun e a w=>e=.normal∧∃ st',Q e st'∧AR X R W Bi M n st' a w) (fun j w=>(E.elem j=true→SH (fun k=>R k∨B0 k) w00 CS w)∧F w) fuel ds.listed a w
def ADo (X:Cx) (M:Bool) (n:Nat) (ops:List Oper) (E:List Nat) (fuel:Nat) (ds:DS) (st:ASt) (Q:Exit→ASt→Prop) (i:Nat):Prop:=
  ∀ (R:Nat→Prop) (W:World) (Bi:Bk) (B0:Nat→Prop) (w00:World) (CS:List Ck) (F:World→Prop) (ks:List Nat) (env:Nat→Loc) (B:Nat→Prop) (w0:World) (H:List Ck) (a:Act) (w:World),MOk M ks Bi→AI X R W Bi n ks env B w0 H st a w→DInv R ds B0 w00 CS F B w0 H →
    ∃ o,ops.toArray[i]?=some o∧XO X.P ops.toArray o (fun a' w'=>((E.elem i=true→SH (fun k=>R k∨B0 k) w00 CS w')∧F w')∧wpAnyJ X.P ops.toArray (fun e a w=>e=.normal∧∃ st',Q e st'∧AR X R W Bi M n st' a w) (fun j w=>(E.elem j=true→SH (fun k=>R k∨B0 k) w00 CS w)∧F w) fuel (ds.listed.setIfInBounds i true) a' w') a w
theorem DInv.T {R:Nat→Prop} {ds:DS} {B0:Nat→Prop} {w00:World} {CS:List Ck} {F:World→Prop} {X:Cx} {W:World} {Bi:Bk} {n:Nat} {ks:List Nat} {env:Nat→Loc} {B:Nat→Prop} {w0:World} {H:List Ck} {st:ASt} {a:Act} {w:World} (hD:DInv R ds B0 w00 CS F B w0 H) (hp:ds.pre=true) (hA:AI X R W Bi n ks env B w0 H st a w):SH (fun k=>R k∨B0 k) w00 CS w:=by
  obtain ⟨h1,h2,h3,h4⟩:=hD.pre hp;have hb:=hA.sh.below;refine ⟨h4.trans ⟨hb.os,hb.tape,hb.output,hb.size,fun k hk=>hb.block k (hk.imp id (h3 k))⟩,fun k hk=>hA.sh.base k (hk.imp id (h3 k)),fun c hc=>?_,h2⟩;have hok:=hA.sh.ok c (List.mem_append_left _ (h1 c hc).1);exact hok.base fun b hb hk=>(hok.lt hb).1 (hk.imp id (h3 b))
theorem DInv.F {R:Nat→Prop} {ds:DS} {B0:Nat→Prop} {w00:World} {CS:List Ck} {F:World→Prop} {X:Cx} {W:World} {Bi:Bk} {n:Nat} {ks:List Nat} {env:Nat→Loc} {B:Nat→Prop} {w0:World} {H:List Ck} {st:ASt} {a:Act} {w:World} (hD:DInv R ds B0 w00 CS F B w0 H) (hA:AI X R W Bi n ks env B w0 H st a w):F w:=
  hD.frz' w ⟨hA.sh.below.os,hA.sh.below.tape,hA.sh.below.output,hA.sh.below.size,hA.sh.below.block⟩
theorem HR.cel {env:Nat→Loc} {B:Nat→Prop} {w:World}:∀ {l:Hp} {H:List Ck},HR env B w l H→HR env B w (celH l) (H.filter qx)
  | [],_,h=>by rw [show _=[] from h]; exact rfl
  | (k,.cells t cs) :: r,_,⟨c,H',e,h1,h2⟩=>by
    subst e;have hc:qx c=true:=by
      obtain ⟨b,vs,_,e,_⟩:=h1;rw [e]; rfl
    rw [List.filter_cons_of_pos hc];exact ⟨c,_,rfl,h1,HR.cel h2⟩
  | (k,.row t g l cap) :: r,_,⟨c,H',e,h1,h2⟩=>by
    subst e;have hc:qx c=false:=h1.notCel (fun _ _ e=>by cases e);rw [List.filter_cons_of_neg (by rw [hc]; simp)];show HR env B w (celH r) _;exact HR.cel h2
  | (k,.sit s p) :: r,_,⟨c,H',e,h1,h2⟩=>by
    subst e;have hc:qx c=false:=h1.notCel (fun _ _ e=>by cases e);rw [List.filter_cons_of_neg (by rw [hc]; simp)];show HR env B w (celH r) _;exact HR.cel h2
  | (k,.mp gk gv l o) :: r,_,⟨c,H',e,h1,h2⟩=>by
    subst e;have hc:qx c=false:=h1.notCel (fun _ _ e=>by cases e);rw [List.filter_cons_of_neg (by rw [hc]; simp)];show HR env B w (celH r) _;exact HR.cel h2
  | (k,.it mid es q ps) :: r,_,⟨c,H',e,h1,h2⟩=>by
    subst e;have hc:qx c=false:=h1.notCel (fun _ _ e=>by cases e);rw [List.filter_cons_of_neg (by rw [hc]; simp)];show HR env B w (celH r) _;exact HR.cel h2
  | (k,.junk) :: r,_,⟨c,H',e,h1,h2⟩=>by
    subst e;have hc:qx c=false:=h1.notCel (fun _ _ e=>by cases e);rw [List.filter_cons_of_neg (by rw [hc]; simp)];show HR env B w (celH r) _;exact HR.cel h2
  | (k,.hrow t g l cap i d) :: r,_,⟨c,H',e,h1,h2⟩=>by
    subst e;have hc:qx c=false:=h1.notCel (fun _ _ e=>by cases e);rw [List.filter_cons_of_neg (by rw [hc]; simp)];show HR env B w (celH r) _;exact HR.cel h2
  | (k,.rjunk) :: r,_,⟨c,H',e,h1,h2⟩=>by
    subst e;have hc:qx c=false:=h1.notCel (fun _ _ e=>by cases e);rw [List.filter_cons_of_neg (by rw [hc]; simp)];show HR env B w (celH r) _;exact HR.cel h2
  | (k,.lrow t g l) :: r,_,⟨c,H',e,h1,h2⟩=>by
    subst e;have hc:qx c=false:=h1.notCel (fun _ _ e=>by cases e);rw [List.filter_cons_of_neg (by rw [hc]; simp)];show HR env B w (celH r) _;exact HR.cel h2
section
variable {X:Cx} {M:Bool} {n:Nat} {st st':ASt} {Q:Exit→ASt→Prop} {ops:List Oper} {E:List Nat} {ds ds':DS} {fuel:Nat}
theorem AI.drew {R:Nat→Prop} {W:World} {Bi:Bk} {ks:List Nat} {env:Nat→Loc} {B:Nat→Prop} {w0:World} {H:List Ck} {a:Act} {w:World} (h:AI X R W Bi n ks env B w0 H st a w):AI X R W Bi n ks env B w0 H st a w.drew:=
  ⟨h.size,h.defs,h.has,h.heap,h.sh.drew,h.sub,h.new,h.pin,h.base,h.glob⟩
theorem zJ {id N:Nat} {r:Option Nat} (E:List Nat) (hm:X.P.follows .mixedOrders=true) (hN:ops.length=N) (h:AD X M n ops E N ⟨Array.replicate N false,true,true,true⟩ st Q):AX X M n r (.region id ops.toArray true) st Q:=by
  rintro R W Bi a w ⟨ks,env,B,w0,H,hM,hA⟩;have h1:=wpAnyJ.any r _ _ _ _ (h R W Bi B w0 (H.filter qx) _ ks env B w0 H a w.drew hM hA.drew ⟨fun _=>⟨rfl,rfl,rfl⟩,fun _=>⟨fun c hc=>List.mem_filter.1 hc,(List.pairwise_append.1 hA.sh.apart).1.sublist List.filter_sublist,fun _ h=>h,KO.refl _ _⟩,fun _=>rfl,fun _ h=>h⟩);have h2:(Code.region id ops.toArray true).wpIn (WF r) 0 X.P (fun e a w=>e=.normal∧∃ st',Q e st'∧AR X R W Bi M n st' a w) a w:=wpIn_region_any hm (by simp only [List.size_toArray,hN]; exact h1);refine wpIn_mono h2 ?_;rintro e a w ⟨rfl,st',h3,h4⟩;exact ⟨st',h3,h4⟩
theorem zD (hr:Region.ready .any ops.toArray ds.listed=[]) (h:Q .normal st):AD X M n ops E 0 ds st Q:=fun R W Bi B0 w00 CS F ks env B w0 H a w hM hA _=>⟨hr,rfl,st,h,ks,env,B,w0,H,hM,hA⟩
theorem nth_arr {i:Nat} {o:Oper} (h:nth ops i=some o):ops.toArray[i]?=some o:=by simpa using nth_get h
theorem isPure_eff {op:Op} (h:isPure op=true) (d:Option Nat):aeff X n st d op=none:=by
  unfold isPure at h
  split at h <;> first | rfl | (cases h)
theorem astep_pure (hX:X.tt.ok X.P) {R:Nat→Prop} {W:World} {Bi:Bk} {ks:List Nat} {env:Nat→Loc} {B:Nat→Prop} {w0:World} {H:List Ck} {a:Act} {w:World} {o:Oper} {c:Bool} (hp:isPure o.op=true) (hs:astep X n (zU ops) st o=.ok c st') (hc:c=true) (hA:AI X R W Bi n ks env B w0 H st a w) :
    ∃ v,AI X R W Bi n ks env B w0 H st' (a.put o.dst v) w∧(∀ T:World→Prop,(isLoad o.op=true→T=fun w=>SH (fun k=>R k∨B k) w0 (H++ks.map mkO) w)→YieldsIf X.P ops.toArray T o v a):=by
  obtain ⟨L,HH⟩:=st;simp only [astep] at hs;have pure1:∀ {sa:SA} {v:Value} {T:World→Prop},(∀ w,(isLoad o.op=true→SH (fun k=>R k∨B k) w0 (H++ks.map mkO) w)→(execOp a.eval o).run X.P w=.ok (.value v) w)→(isLoad o.op=true→T=fun w=>SH (fun k=>R k∨B k) w0 (H++ks.map mkO) w)→∀ w,T w→(execOp a.eval o).run X.P w=.ok (.value v) w:=by
    intro sa v T h1 h2 w hw;exact h1 w fun hl=>by have:=h2 hl; rw [this] at hw; exact hw
  split at hs
  · rename_i hgd
    split at hs
    · rename_i c' sa hpu
      split at hs
      · rename_i d hdst
        split at hs
        · rename_i hd
          cases hs;obtain ⟨v,h1,h2⟩:=apure_ok hX hpu hc hA;refine ⟨v,hA.set h1 (by rw [hdst]; exact hA.stt.put d v (zh hd)),fun T hT=>.inl ⟨by simp [Region.wanted,hgd],pure1 (sa:=sa) h2 hT⟩⟩
        · cases hs
      · cases hs
    · split at hs
      · rename_i xs hm
        split at hs
        · rename_i d hdst
          split at hs
          · rename_i hd
            cases hs;obtain ⟨v,h1,h2⟩:=tupMv_ok hA hm;exact ⟨v,hA.set h1 (by rw [hdst]; exact hA.stt.put d v (zh hd)),fun T hT=>.inl ⟨by simp [Region.wanted,hgd],fun w _=>h2 w⟩⟩
          · cases hs
        · cases hs
      · rw [isPure_eff hp] at hs
        cases hs
  · rename_i j want hgd
    split at hs
    · rename_i s hj
      obtain ⟨oj,hoj,hsj⟩:=nth_map hj;have hj':(ops.toArray[j]?).bind (·.dst)=some s:=by simp [hoj,← hsj]
      have key:∀ g:Bool,agrd X n L HH o g=.ok c st'→Region.wanted o (yielded ops.toArray a.tmps)=g→∃ v,AI X R W Bi n ks env B w0 H st' (a.put o.dst v) w∧(∀ T:World→Prop,(isLoad o.op=true→T=fun w=>SH (fun k=>R k∨B k) w0 (H++ks.map mkO) w)→YieldsIf X.P ops.toArray T o v a):=by
        intro g hg hw;unfold agrd at hg
        split at hg
        · rename_i c' sa d hpu hdst
          split at hg
          · rename_i hd
            cases hg;cases g with
            | true=>
              obtain ⟨v,h1,h2⟩:=apure_ok hX hpu (by simpa using hc) hA;exact ⟨v,hA.set (sv:=.may true sa) ⟨fun _=>h1,fun h=>by cases h⟩ (by rw [hdst]; exact hA.stt.put d v (zh hd)),fun T hT=>.inl ⟨hw,pure1 (sa:=sa) h2 hT⟩⟩
            | false=>exact ⟨undef,hA.set (sv:=.may false sa) ⟨(fun h=>by cases h),fun _=>rfl⟩ (by rw [hdst]; exact hA.stt.put d undef (zh hd)),fun T hT=>.inr ⟨hw,rfl⟩⟩
          · cases hg
        · cases hg
      split at hs
      · rename_i b hlk
        obtain ⟨v,h1,h2⟩:=hA.has _ _ hlk;rw [show v=_ from h2] at h1;refine key _ hs ?_;rw [zX hA.sym hgd hj' (zo h1)];cases b <;> rfl
      · rename_i b hlk
        obtain ⟨v,h1,h2⟩:=hA.has _ _ hlk;rw [show v=_ from h2] at h1;refine key _ hs ?_;rw [zX hA.sym hgd hj' (zo h1)];cases b <;> rfl
      · rename_i g b hlk
        obtain ⟨v,h1,h2,h3⟩:=hA.has _ _ hlk;refine key _ hs ?_;cases g with
        | true=>
          rw [show v=_ from h2 rfl] at h1;rw [zX hA.sym hgd hj' (zo h1)];cases b <;> rfl
        | false=>
          rw [h3 rfl] at h1;rw [unwanted_of hA.sym hgd hj' (zo h1)]
          rfl
      · rename_i g b hlk
        obtain ⟨v,h1,h2,h3⟩:=hA.has _ _ hlk;refine key _ hs ?_;cases g with
        | true=>
          rw [show v=_ from h2 rfl] at h1;rw [zX hA.sym hgd hj' (zo h1)];cases b <;> rfl
        | false=>
          rw [h3 rfl] at h1;rw [unwanted_of hA.sym hgd hj' (zo h1)]
          rfl
      · cases hs
    · cases hs
theorem arunT_c:∀ {tr:List (Nat×Nat)} {c c':Bool} {st st':ASt} {dsts:List (Option Nat)},arunT X n dsts ops tr c st=.done c' st'→c'=true→c=true
  | [],c,c',st,st',dsts,h,hc=>by cases h; exact hc
  | (i,m) :: tr,c,c',⟨L,H⟩,st',dsts,h,hc=>by
    simp only [arunT] at h
    split at h
    · split at h
      · split at h
        · have:=arunT_c h hc
          simp only [Bool.and_eq_true] at this;exact this.1
        · cases h
      · split at h
        · have:=arunT_c h hc
          simp only [Bool.and_eq_true] at this;exact this.1
        · cases h
      · split at h
        · split at h
          · have:=arunT_c h hc
            simp only [Bool.and_eq_true] at this;exact this.1
          · cases h
        · cases h
      · split at h
        · have:=arunT_c h hc
          simp only [Bool.and_eq_true] at this;exact this.1
        · cases h
    · cases h
theorem ad_tail {R:Nat→Prop} {B0:Nat→Prop} {w00:World} {CS:List Ck} {F:World→Prop} {QQ:Exit→Act→World→Prop} {listed:Array Bool} {fl i:Nat} {o:Oper} {a:Act} {w:World} (need:Bool) (v:Value) (hio:ops.toArray[i]?=some o) (hb:baseOk ops.toArray listed i=true) (hE:E.elem i=true→need=true) (hr:need=true→restIn ops.toArray E (behind ops.toArray i) listed i=true)
    (hy:YieldsIf X.P ops.toArray (fun w=>(need=true→SH (fun k=>R k∨B0 k) w00 CS w)∧F w) o v a) (hT:need=true→SH (fun k=>R k∨B0 k) w00 CS w) (hF:F w) (hIH:wpAnyJ X.P ops.toArray QQ (fun j w=>(E.elem j=true→SH (fun k=>R k∨B0 k) w00 CS w)∧F w) fl (listed.setIfInBounds i true) (a.put o.dst v) w) :
    wpAnyJ X.P ops.toArray QQ (fun j w=>(E.elem j=true→SH (fun k=>R k∨B0 k) w00 CS w)∧F w) (fl+1) listed a w:=by
  simp only [baseOk,Bool.and_eq_true] at hb;obtain ⟨⟨hnosel,hfree⟩,hready⟩:=hb;have hgo:∀ D,(∀ j∈D,binding ops.toArray i D j)→(∀ j∈D,listed.getD j true=false)→(∀ j oj,ops.toArray[j]?=some oj→j≠i→listed.getD j true=false→(∀ e∈oj.after,Region.binds .any e=true→e.on≠i)→j∈D∨(need=true→E.elem j=true))→wpAnyJ X.P ops.toArray QQ (fun j w=>(E.elem j=true→SH (fun k=>R k∨B0 k) w00 CS w)∧F w) (fl+1) listed a w:=by
    intro D h1 h2 h3;refine wpAnyJ.first (T:=fun w=>(need=true→SH (fun k=>R k∨B0 k) w00 CS w)∧F w) hio (Region.noSelect_spec hnosel) D h1 _ _ _ _ h2 ?_ (by simpa using hready) hy ⟨hT,hF⟩ hIH (fun w' hw=>⟨fun he=>hw.1 (hE he),hw.2⟩)
    intro j oj hoj hji hun hno;refine ⟨Region.free_spec hio hfree j oj hoj hji hun hno,?_⟩
    rcases h3 j oj hoj hji hun hno with h4 | h4
    · exact .inl h4
    · exact .inr fun w hSj=>⟨fun hne=>hSj.1 (h4 hne),hSj.2⟩
  cases hn:need with
  | false=>exact hgo [] (fun _ h=>by cases h) (fun _ h=>by cases h) (fun _ _ _ _ _ _=>.inr fun h=>by rw [hn] at h; cases h)
  | true=>
    have hneed:=hr hn;simp only [restIn,Bool.and_eq_true,List.all_eq_true,List.mem_range,Bool.not_eq_true'] at hneed;obtain ⟨hb1,hb2⟩:=hneed;refine hgo (behind ops.toArray i) (fun j hj=>bindB_ok (hb1 j hj).2) (fun j hj=>(hb1 j hj).1) (fun j oj hoj hji hun _=>?_)
    have:=hb2 j (Array.getElem?_eq_some_iff.1 hoj).1
    simp only [Bool.or_eq_true,beq_iff_eq] at this
    rcases this with ((h1 | h1) | h1) | h1
    · exact absurd h1 hji
    · rw [hun] at h1; cases h1
    · exact .inr fun _=>h1
    · exact .inl (by simpa using h1)
theorem need_cases {listed:Array Bool} {pre:Bool} {i:Nat} (h:needOk ops.toArray E listed pre i=true):(E.elem i=true→restIn ops.toArray E (behind ops.toArray i) listed i=true)∧(E.elem i=true→pre=true):=by
  simp only [needOk,Bool.or_eq_true,Bool.not_eq_true',Bool.and_eq_true] at h
  rcases h with h | h
  · exact ⟨fun e=>(by rw [h] at e; cases e),fun e=>(by rw [h] at e; cases e)⟩
  · exact ⟨fun _=>h.2,fun _=>h.1⟩
theorem yieldsIf_weak {P:Program} {ops:Array Oper} {T T':World→Prop} {o:Oper} {v:Value} {a:Act} (h:YieldsIf P ops T o v a) (hw:∀ w,T' w→T w):YieldsIf P ops T' o v a:=by
  rcases h with ⟨h1,h2⟩ | h1
  · exact .inl ⟨h1,fun w hT=>h2 w (hw w hT)⟩
  · exact .inr h1
theorem part_load (hX:X.tt.ok X.P) {R:Nat→Prop} {W:World} {Bi:Bk} {ks:List Nat} {env:Nat→Loc} {B:Nat→Prop} {w0:World} {H C:List Ck} {L L':Sl} {HH h H0:Hp} {a:Act} {w:World} {o:Oper} {c:Bool} (hA:AI X R W Bi n ks env B w0 H ⟨L,HH⟩ a w) (hh:HR env B w0 h C) (hC:C.Sublist H) (hp:isPure o.op=true) (hs:astep X n (zU ops) ⟨L,h⟩ o=.ok c ⟨L',H0⟩) (hc:c=true) :
    ∃ v,AI X R W Bi n ks env B w0 H ⟨L',HH⟩ (a.put o.dst v) w∧YieldsIf X.P ops.toArray (fun w=>SH (fun k=>R k∨B k) w0 C w) o v a:=by
  have hA1:AI X R W Bi n [] env B w0 C ⟨L,h⟩ { tmps:=a.tmps,defers:=[] } w:=⟨hA.size,rfl,hA.has,hh,hA.sh.weak (by simpa using hC.trans (List.sublist_append_left _ _)),hA.sub,hA.new,hA.pin,hA.base,hA.glob⟩
  obtain ⟨v,hA2,hy⟩:=astep_pure hX hp hs hc hA1;have hput:(({ tmps:=a.tmps,defers:=[] }:Act).put o.dst v).tmps=(a.put o.dst v).tmps:=by cases o.dst <;> rfl
  have hdef:(a.put o.dst v).defers=a.defers:=by cases o.dst <;> rfl
  refine ⟨v,⟨by rw [← hput]; exact hA2.size,by rw [hdef]; exact hA.defs,fun s sv h=>by rw [← hput]; exact hA2.has s sv h,hA.heap,hA.sh,hA.sub,hA.new,hA.pin,hA.base,hA.glob⟩,?_⟩;have h1:=hy _ (fun _=>rfl);simp only [List.map_nil,List.append_nil] at h1;exact h1
theorem DInv.kept {R:Nat→Prop} {B0:Nat→Prop} {w00:World} {CS:List Ck} {F:World→Prop} {B:Nat→Prop} {w0:World} {H H':List Ck} (hD:DInv R ds B0 w00 CS F B w0 H) (hk:ds.pre=true→∀ c∈H,qx c=true→c∈H') {l:Array Bool}:DInv R ⟨l,false,ds.pre,ds.nocall⟩ B0 w00 CS F B w0 H':=
  ⟨fun h=>(by cases h),fun h=>by
    obtain ⟨h1,h2,h3,h4⟩:=hD.pre h;exact ⟨fun c hc=>⟨hk h c (h1 c hc).1 (h1 c hc).2,(h1 c hc).2⟩,h2,h3,h4⟩,hD.frz,hD.frz'⟩
theorem DInv.lost {R:Nat→Prop} {B0:Nat→Prop} {w00:World} {CS:List Ck} {F:World→Prop} {B:Nat→Prop} {w0:World} {H H':List Ck} (hD:DInv R ds B0 w00 CS F B w0 H) {l:Array Bool}:DInv R ⟨l,false,false,ds.nocall⟩ B0 w00 CS F B w0 H':=
  ⟨fun h=>(by cases h),fun h=>(by cases h),hD.frz,hD.frz'⟩
theorem ad_go (hX:X.tt.ok X.P):∀ {tr:List (Nat×Nat)} {c c':Bool} {st st':ASt} {ds ds':DS},trGo ops.toArray E tr ds=some ds'→arunT X n (zU ops) ops tr c st=.done c' st'→c'=true →
    AD X M n ops E fuel ds' st' Q→AD X M n ops E (tr.length+fuel) ds st Q
  | [],c,c',st,st',ds,ds',ht,hr,hc,h=>by
    cases ht; cases hr;simp only [List.length_nil,Nat.zero_add];exact h
  | (i,m) :: tr,c,c',⟨L,HH⟩,st',⟨listed,early,pre,nc⟩,ds',ht,hr,hc,h=>by
    simp only [arunT] at hr
    split at hr
    case h_2=>cases hr
    rename_i o hi;have hio:=nth_arr hi;rw [List.length_cons,show tr.length+1+fuel=(tr.length+fuel)+1 by omega];intro R W Bi B0 w00 CS F ks env B w0 H a w hM hA hD;have hFw:F w:=hD.F hA
    split at hr
    · -- a load of what is frozen
      split at hr
      case h_2=>cases hr
      rename_i c2 L' H0 hs;have hc2:=arunT_c hr hc;simp only [Bool.and_eq_true] at hc2;simp only [trGo] at ht
      split at ht
      case h_2=>cases ht
      rename_i htake;simp only [kindAt,hio,Bool.and_eq_true] at htake;obtain ⟨⟨⟨hbase,hneed⟩,hpure⟩,hnc⟩:=htake;obtain ⟨hn1,hn2⟩:=need_cases hneed;obtain ⟨v,hA3,hy⟩:=part_load hX hA (h:=[]) (C:=[]) rfl (List.nil_sublist _) hpure hs hc2.2;refine ad_tail (E.elem i) v hio hbase id hn1 (yieldsIf_weak hy fun w' hw'=>?_) (fun he=>hD.T (hn2 he) hA) hFw (ad_go hX ht hr hc h R W Bi B0 w00 CS F ks env B w0 H _ w hM hA3 ⟨hD.early,hD.pre,hD.frz,hD.frz'⟩);have hw2:=hw'.2;rw [hD.frz hnc] at hw2;refine ⟨hw2,fun k hk=>?_,(fun _ h=>by cases h),List.Pairwise.nil⟩;have h3:=hA.sh.base k hk;have h4:=hA.sh.below.block k hk;have h5:=hw2.block k hk;rw [← h4,Array.getElem?_eq_getElem h3] at h5;exact (Array.getElem?_eq_some_iff.1 h5).1
    · -- a load of one's own cells
      split at hr
      case h_2=>cases hr
      rename_i c2 L' H0 hs;have hc2:=arunT_c hr hc;simp only [Bool.and_eq_true] at hc2;simp only [trGo] at ht
      split at ht
      case h_2=>cases ht
      rename_i htake;simp only [kindAt,hio,Bool.and_eq_true] at htake;obtain ⟨⟨⟨⟨hbase,hrest⟩,hpure⟩,hearly⟩,hpre⟩:=htake;obtain ⟨v,hA3,hy⟩:=part_load hX hA (h:=celH HH) (C:=H.filter qx) hA.heap.cel List.filter_sublist hpure hs hc2.2;refine ad_tail true v hio hbase (fun _=>rfl) (fun _=>hrest) (yieldsIf_weak hy fun w' hw'=>?_) (fun _=>hD.T hpre hA) hFw (ad_go hX ht hr hc h R W Bi B0 w00 CS F ks env B w0 H _ w hM hA3 ⟨hD.early,hD.pre,hD.frz,hD.frz'⟩);have hw2:=hw'.1 rfl;obtain ⟨e1,e2,e3⟩:=hD.early hearly;rw [e1,e2,e3] at hw2;exact hw2
    · -- one that keeps all cells
      split at hr
      case h_2=>cases hr
      rename_i c2 st2 hs
      split at hr
      case h_2=>cases hr
      rename_i hkd;have hc2:=arunT_c hr hc;simp only [Bool.and_eq_true] at hc2;simp only [trGo] at ht
      split at ht
      case h_2=>cases ht
      rename_i htake;simp only [kindAt,hio,Bool.and_eq_true,beq_iff_eq] at htake;obtain ⟨⟨hrd,hpre⟩,hkind⟩:=htake;refine ⟨fun h0=>(by rw [hrd] at h0; cases h0),fun k hk=>?_⟩;rw [hrd] at hk;have hki:k=i:=by simpa using hk
      subst hki;refine ⟨o,hio,qh hX hs hc2.2 hA fun a' w' env' H' heff hA'=>?_⟩;have hD':=hD.kept (H':=H') (l:=listed.setIfInBounds k true) (fun _=>heff.keep hkind hkd);exact ⟨⟨fun _=>hD'.T hpre hA',hD'.F hA'⟩,ad_go hX ht hr hc h R W Bi B0 w00 CS F ks env' B w0 H' a' w' hM hA' hD'⟩
    · rename_i hm1 hm3 hm4
      split at hr
      case h_2=>cases hr
      rename_i c2 st2 hs;have hc2:=arunT_c hr hc;simp only [Bool.and_eq_true] at hc2
      by_cases hm:m=0
      · subst hm
        simp only [trGo] at ht
        split at ht
        case h_2=>cases ht
        rename_i htake;simp only [kindAt,hio,Bool.and_eq_true,Bool.not_eq_true'] at htake;obtain ⟨⟨hbase,hneed⟩,hpure,hload⟩:=htake;obtain ⟨hn1,hn2⟩:=need_cases hneed;obtain ⟨v,hA2,hy⟩:=astep_pure hX hpure hs hc2.2 hA;exact ad_tail (E.elem i) v hio hbase id hn1 (hy _ (fun h=>by rw [hload] at h; cases h)) (fun he=>hD.T (hn2 he) hA) hFw (ad_go hX ht hr hc h R W Bi B0 w00 CS F ks env B w0 H _ w hM hA2 ⟨hD.early,hD.pre,hD.frz,hD.frz'⟩)
      · have ht':(match (Region.ready .any ops.toArray listed == [i])&&!E.elem i with | true=>trGo ops.toArray E tr ⟨listed.setIfInBounds i true,false,false,nc⟩ | false=>none)=some ds':=by
          rw [← ht]
          match m,hm,hm1,hm3,hm4 with
          | 0,h,_,_,_=>exact absurd rfl h
          | 1,_,h,_,_=>exact absurd rfl h
          | 2,_,_,_,_=>rfl
          | 3,_,_,h,_=>exact absurd rfl h
          | 4,_,_,_,h=>exact absurd rfl h
          | _+5,_,_,_,_=>rfl
        split at ht'
        case h_2=>cases ht'
        rename_i hsolo;simp only [Bool.and_eq_true,beq_iff_eq,Bool.not_eq_true'] at hsolo;obtain ⟨hrd,hE⟩:=hsolo;refine ⟨fun h0=>(by rw [hrd] at h0; cases h0),fun k hk=>?_⟩;rw [hrd] at hk;have hki:k=i:=by simpa using hk
        subst hki;refine ⟨o,hio,qh hX hs hc2.2 hA fun a' w' env' H' heff hA'=>?_⟩;have hD':=hD.lost (H':=H') (l:=listed.setIfInBounds k true);exact ⟨⟨fun he=>(by rw [hE] at he; cases he),hD'.F hA'⟩,ad_go hX ht' hr hc h R W Bi B0 w00 CS F ks env' B w0 H' a' w' hM hA' hD'⟩
theorem zr (hX:X.tt.ok X.P) (tr:List (Nat×Nat)) {c:Bool} (ht:trGo ops.toArray E tr ds=some ds') (hr:arunT X n (zU ops) ops tr true st=.done c st') (hc:c=true)
    (h:AD X M n ops E fuel ds' st' Q):AD X M n ops E (tr.length+fuel) ds st Q:=ad_go hX ht hr hc h
theorem ado_step (hX:X.tt.ok X.P) {i:Nat} {o:Oper} {c:Bool} {l':Array Bool} (hi:nth ops i=some o) (hE:E.elem i=false) (hs:astep X n (zU ops) st o=.ok c st') (hc:c=true) (hl:ds.listed.setIfInBounds i true=l') (h:AD X M n ops E fuel ⟨l',false,false,ds.nocall⟩ st' Q):ADo X M n ops E fuel ds st Q i:=by
  intro R W Bi B0 w00 CS F ks env B w0 H a w hM hA hD;refine ⟨o,nth_arr hi,qh hX hs hc hA fun a' w' env' H' heff hA'=>?_⟩;have hD':=hD.lost (H':=H') (l:=l');rw [hl];exact ⟨⟨fun he=>(by rw [hE] at he; cases he),hD'.F hA'⟩,h R W Bi B0 w00 CS F ks env' B w0 H' a' w' hM hA' hD'⟩
theorem ado_keep (hX:X.tt.ok X.P) {i:Nat} {o:Oper} {c:Bool} {l':Array Bool} (hi:nth ops i=some o) (hk:(ds.pre&&kindKeep o.op&&keepD o st.H)=true) (hs:astep X n (zU ops) st o=.ok c st') (hc:c=true) (hl:ds.listed.setIfInBounds i true=l') (h:AD X M n ops E fuel ⟨l',false,true,ds.nocall⟩ st' Q):ADo X M n ops E fuel ds st Q i:=by
  intro R W Bi B0 w00 CS F ks env B w0 H a w hM hA hD;simp only [Bool.and_eq_true] at hk;refine ⟨o,nth_arr hi,qh hX hs hc hA fun a' w' env' H' heff hA'=>?_⟩;have hD':=hD.kept (H':=H') (l:=l') (fun _=>heff.keep hk.1.2 hk.2);rw [hl];refine ⟨⟨fun he=>hD'.T hk.1.1 hA',hD'.F hA'⟩,h R W Bi B0 w00 CS F ks env' B w0 H' a' w' hM hA' ?_⟩;rw [hk.1.1] at hD';exact hD'
def ADs (X:Cx) (M:Bool) (n:Nat) (ops:List Oper) (E:List Nat) (fuel:Nat) (ds:DS) (st:ASt) (Q:Exit→ASt→Prop) (rs:List Nat):Prop:=∀ i∈rs,ADo X M n ops E fuel ds st Q i
theorem zG:ADs X M n ops E fuel ds st Q []:=fun _ h=>by cases h
theorem zp {i:Nat} {rs:List Nat} (h:ADo X M n ops E fuel ds st Q i) (hr:ADs X M n ops E fuel ds st Q rs):ADs X M n ops E fuel ds st Q (i :: rs):=fun j hj=>by
  rcases List.mem_cons.1 hj with rfl | hj
  · exact h
  · exact hr j hj
theorem zt {i:Nat} {rs:List Nat} (hr:Region.ready .any ops.toArray ds.listed=i :: rs) (h:ADs X M n ops E fuel ds st Q (i :: rs)):AD X M n ops E (fuel+1) ds st Q:=by
  intro R W Bi B0 w00 CS F ks env B w0 H a w hM hA hD;refine ⟨fun h0=>(by rw [hr] at h0; cases h0),fun k hk=>?_⟩;rw [hr] at hk;exact h k hk R W Bi B0 w00 CS F ks env B w0 H a w hM hA hD
end
/-! ### A drawn region, behind a call, as at its beginning -/
theorem wpAnyJ.strong {P:Program} {ops:Array Oper} {Q:Exit→Act→World→Prop} {S S':Nat→World→Prop} (hS:∀ j w,S' j w→S j w):∀ (fuel:Nat) (listed:Array Bool) (a:Act) (w:World),wpAnyJ P ops Q S' fuel listed a w→wpAnyJ P ops Q S fuel listed a w
  | 0,_,_,_,h=>h
  | fuel+1,_,_,_,h=>⟨h.1,fun i hi=>by
    obtain ⟨o,ho,hx⟩:=h.2 i hi;exact ⟨o,ho,hx.mono fun a' w' h'=>⟨hS _ _ h'.1,wpAnyJ.strong hS fuel _ a' w' h'.2⟩⟩⟩
theorem ad_fresh {X:Cx} {M:Bool} {n:Nat} {st:ASt} {Q:Exit→ASt→Prop} {ops:List Oper} {E:List Nat} {ds:DS} {fuel:Nat} (hE:(E.isEmpty || ds.pre)=true) (h:AD X M n ops E fuel ⟨ds.listed,true,true,true⟩ st Q):AD X M n ops E fuel ds st Q:=by
  intro R W Bi B0 w00 CS F ks env B w0 H a w hM hA hD;refine wpAnyJ.strong ?_ _ _ _ _ (h R W Bi B w0 (H.filter qx) (fun w=>KO (fun k=>R k∨B k) w0 w) ks env B w0 H a w hM hA ⟨fun _=>⟨rfl,rfl,rfl⟩,fun _=>⟨fun c hc=>List.mem_filter.1 hc,(List.pairwise_append.1 hA.sh.apart).1.sublist List.filter_sublist,fun _ h=>h,KO.refl _ _⟩,fun _=>rfl,fun _ h=>h⟩);rintro j w' ⟨h1,h2⟩;refine ⟨fun he=>?_,hD.frz' w' h2⟩;have hp:ds.pre=true:=by
    cases E with
    | nil=>cases he
    | cons e E=>simpa using hE
  obtain ⟨p1,p2,p3,p4⟩:=hD.pre hp;have hs:=h1 he;have hb:=hs.below;refine ⟨p4.trans ⟨hb.os,hb.tape,hb.output,hb.size,fun k hk=>hb.block k (hk.imp id (p3 k))⟩,fun k hk=>hs.base k (hk.imp id (p3 k)),fun c hc=>?_,p2⟩;have hok:=hs.ok c (List.mem_filter.2 ⟨(p1 c hc).1,(p1 c hc).2⟩);exact hok.base fun b hb hk=>(hok.lt hb).1 (hk.imp id (p3 b))
end Go.Proofs.YteglgnkcpaagjaaDoor

/- Freezing of blocks of cells; calls in drawn regions. -/
namespace Go.Proofs.YteglgnkcpaagjaaDoor
open Go.RowKit
def fzCaps (id:Nat) (g:GTy) (x:g.D):List Cap→List Cap
  | []=>[]
  | .id i :: r=>match Nat.beq i id with
    | true=>.fz g x :: fzCaps id g x r
    | false=>.id i :: fzCaps id g x r
  | .fz h y :: r=>.fz h y :: fzCaps id g x r
def SC.fzc:SC→Nat→(g:GTy)→g.D→SC
  | .ptr i o,id,g,x=>match Nat.beq i id with
    | true=>.pel g x o
    | false=>.ptr i o
  | .fn f ids,id,g,x=>.fn f (fzCaps id g x ids)
  | c,_,_,_=>c
def fzcCs (id:Nat) (g:GTy) (x:g.D):List SC→List SC
  | []=>[]
  | c :: r=>c.fzc id g x :: fzcCs id g x r
def SA.fzc:SA→Nat→(g:GTy)→g.D→SA
  | .c y,id,g,x=>.c (y.fzc id g x)
  | .agg cs,id,g,x=>.agg (fzcCs id g x cs)
  | .arr g l,_,_,_=>.arr g l
def fzcAs (id:Nat) (g:GTy) (x:g.D):List SA→List SA
  | []=>[]
  | c :: r=>c.fzc id g x :: fzcAs id g x r
def SV.fzc:SV→Nat→(g:GTy)→g.D→SV
  | .a y,id,g,x=>.a (y.fzc id g x)
  | .may b y,id,g,x=>.may b (y.fzc id g x)
  | .tup ys,id,g,x=>.tup (fzcAs id g x ys)
def fzcL (id:Nat) (g:GTy) (x:g.D):Sl→Sl
  | []=>[]
  | (k,v) :: r=>(k,v.fzc id g x) :: fzcL id g x r
def Blk.fzc:Blk→Nat→(g:GTy)→g.D→Blk
  | .cells t cs,id,g,x=>.cells t (fzcCs id g x cs)
  | b,_,_,_=>b
def fzcH (id:Nat) (g:GTy) (x:g.D):Hp→Hp
  | []=>[]
  | (k,b) :: r=>match Nat.beq k id with
    | true=>fzcH id g x r
    | false=>(k,b.fzc id g x) :: fzcH id g x r
section
variable {env:Nat→Loc} {B:Nat→Prop} {w:World} {id b:Nat} {g:GTy} {x:g.D} (he:env id=.blk b) (ha:At B w g x b 0)
include he ha
theorem ptrs.fzc {cs:List Cap}:∀ {vs:List Value},ptrs env B w cs vs→ptrs env B w (fzCaps id g x cs) vs:=by
  induction cs with
  | nil=>intro vs h; exact h
  | cons c cs ih=>
    intro vs h;obtain ⟨v,r,e,h1,h3⟩:=h;cases c with
    | id i=>
      obtain ⟨b',h1,h2⟩:=h1;simp only [fzCaps]
      split
      · rename_i hi
        have:=Nat.eq_of_beq_eq_true hi
        subst this;rw [he] at h1;cases h1;exact ⟨v,r,e,⟨b,0,h2,ha⟩,ih h3⟩
      · exact ⟨v,r,e,⟨b',h1,h2⟩,ih h3⟩
    | fz h y=>exact ⟨v,r,e,h1,ih h3⟩
theorem CR.fzc:∀ {c:SC} {v:Value},CR env B w c v→CR env B w (c.fzc id g x) v
  | .val _,_,hc=>hc
  | .str _,_,hc=>hc
  | .dead,_,hc=>hc
  | .ptr i o,v,hc=>by
    simp only [SC.fzc]
    split
    · rename_i hi
      have:=Nat.eq_of_beq_eq_true hi
      subst this;obtain ⟨b',h1,h2⟩:=hc;rw [he] at h1;cases h1;exact ⟨b,0,by rw [Nat.zero_add]; exact h2,ha⟩
    · exact hc
  | .elt _ _ _ _,_,hc=>hc
  | .pel _ _ _,_,hc=>hc
  | .par _ _,_,hc=>hc
  | .sl _,_,hc=>hc
  | .lst _ _ _,_,hc=>hc
  | .fn _ _,_,⟨vs,h1,h2⟩=>⟨vs,h1,ptrs.fzc he ha h2⟩
  | .mref _,_,hc=>hc
  | .bfn _ _,_,hc=>hc
  | .nel _ _,_,hc=>hc
theorem CsR.fzc:∀ {c:List SC} {v:List Value},CsR env B w c v→CsR env B w (fzcCs id g x c) v
  | [],_,hc=>hc
  | _ :: _,_,⟨v,r,e,h1,h2⟩=>⟨v,r,e,CR.fzc he ha h1,CsR.fzc h2⟩
theorem SaR.fzc:∀ {c:SA} {v:Value},SaR env B w c v→SaR env B w (c.fzc id g x) v
  | .c _,_,hc=>CR.fzc he ha hc
  | .agg _,_,⟨vs,e,h1⟩=>⟨vs,e,CsR.fzc he ha h1⟩
  | .arr _ _,_,h=>h
theorem SasR.fzc:∀ {c:List SA} {v:List Value},SasR env B w c v→SasR env B w (fzcAs id g x c) v
  | [],_,hc=>hc
  | _ :: _,_,⟨v,r,e,h1,h2⟩=>⟨v,r,e,SaR.fzc he ha h1,SasR.fzc h2⟩
theorem VR.fzc:∀ {c:SV} {v:Value},VR env B w c v→VR env B w (c.fzc id g x) v
  | .a _,_,hc=>SaR.fzc he ha hc
  | .may _ _,_,hc=>⟨fun hg=>SaR.fzc he ha (hc.1 hg),hc.2⟩
  | .tup _,_,⟨vs,e,h1⟩=>⟨vs,e,SasR.fzc he ha h1⟩
theorem BR.fzc {k:Nat}:∀ {bl:Blk} {c:Ck},BR env B w k bl c→BR env B w k (bl.fzc id g x) c
  | .cells _ _,_,⟨b',vs,e,hc,h1⟩=>⟨b',vs,e,hc,CsR.fzc he ha h1⟩
  | .row _ _ _ _,_,h=>h
  | .sit _ _,_,h=>h
  | .mp _ _ _ _,_,h=>h
  | .it _ _ _ _,_,h=>h
  | .junk,_,h=>h
  | .hrow _ _ _ _ _ _,_,h=>h
  | .rjunk,_,h=>h
  | .lrow _ _ _,_,h=>h
theorem HR.fzc:∀ {l:Hp} {H:List Ck},HR env B w l H→∃ H',H'.Sublist H∧HR env B w (fzcH id g x l) H'
  | [],_,hh=>⟨[],by rw [show _=[] from hh]; exact List.Sublist.refl _,rfl⟩
  | (k,bl) :: l,_,⟨c,H',e,h1,h2⟩=>by
    obtain ⟨H2,hs,h3⟩:=HR.fzc h2;subst e;unfold fzcH
    split
    · exact ⟨H2,hs.cons _,h3⟩
    · exact ⟨c :: H2,hs.cons_cons _,c,H2,rfl,BR.fzc he ha h1,h3⟩
theorem HR.fzc':∀ {l:Hp} {H:List Ck} {bl:Blk},HR env B w l H→lk l id=some bl→∃ c Y Z H',BR env B w id bl c∧H=Y++c :: Z∧H'.Sublist (Y++Z)∧HR env B w (fzcH id g x l) H'
  | [],_,_,_,h=>by cases h
  | (k,b') :: l,H,bl,⟨c,H',e,h1,h2⟩,h=>by
    rw [zB] at h;subst e
    split at h
    · rename_i e
      subst e;cases h;obtain ⟨H2,h3,h4⟩:=HR.fzc he ha h2;refine ⟨c,[],H',H2,h1,rfl,h3,?_⟩;unfold fzcH;rw [Nat.beq_refl];exact h4
    · rename_i e
      obtain ⟨c',Y,Z,H2,h3,h4,h5,h6⟩:=HR.fzc' h2 h;have hk:Nat.beq k id=false:=by
        cases hb:Nat.beq k id with
        | false=>rfl
        | true=>exact absurd (Nat.eq_of_beq_eq_true hb).symm e
      refine ⟨c',c :: Y,Z,c :: H2,h3,by rw [h4]; rfl,h5.cons_cons _,?_⟩;unfold fzcH;rw [hk];exact ⟨c,H2,rfl,BR.fzc he ha h1,h6⟩
omit he ha in
theorem lk_fzcL:∀ {l:Sl} {s:Nat} {v:SV},lk (fzcL id g x l) s=some v→∃ u,lk l s=some u∧v=u.fzc id g x
  | [],_,_,h=>by cases h
  | (k,u) :: l,s,v,h=>by
    unfold fzcL at h;rw [zB] at h ⊢
    split at h
    · rename_i e
      cases h;rw [if_pos e];exact ⟨u,rfl,rfl⟩
    · rename_i e
      rw [if_neg e];exact lk_fzcL h
end
section
variable {X:Cx} {R:Nat→Prop} {W:World} {Bi:Bk} {n:Nat} {ks:List Nat} {env:Nat→Loc} {B:Nat→Prop} {w0:World} {H:List Ck} {st st':ASt} {a:Act} {w:World}
theorem AI.frzC (h:AI X R W Bi n ks env B w0 H st a w) {id:Nat} {t:TypeId} {cs:List SC} {g:GTy} {x:g.D} {c:Bool} (hlk:lk st.H id=some (.cells t cs)) (hdec:dec g cs=some (c,x,[])) (hc:c=true):∃ env' B' w0' H',AI X R W Bi n ks env' B' w0' H' ⟨fzcL id g x st.L,fzcH id g x st.H⟩ a w:=by
  obtain ⟨c0,_,⟨b,vs,he,rfl,hcs⟩,hfoc⟩:=h.heap.foc hlk;have hup:Up B w0 (fun q=>B q∨q=b) w:=⟨fun q hq=>.inl hq,fun q hq=>h.sh.below.block q (.inr hq)⟩
  obtain ⟨v1,v2,hv,hfr,hv2⟩:=dec_ok (hcs.up hup) hdec hc;have hv2':v2=[]:=hv2;subst hv2';rw [List.append_nil] at hv;subst hv;have hat:At (fun q=>B q∨q=b) w g x b 0:=⟨.inr rfl,vs,hfr,fun j u hu=>by rw [Nat.zero_add,cel_cell h.sh hfoc.more]; exact hu⟩
  obtain ⟨c,Y,Z,H2,⟨b',vs',he',rfl,_⟩,h2,h4,h5⟩:=HR.fzc' he hat (h.heap.up hup) hlk;rw [he] at he';cases he';have hmem:Ck.cel b vs' t∈H++ks.map mkO:=by rw [h2]; simp
  have hnew:=(h.sh.ok _ hmem).lt (b:=b) rfl;have hpart:=h.sh.apart;rw [h2,List.append_assoc,List.cons_append] at hpart;refine ⟨env,_,w,H2,h.size,h.defs,fun s u hu=>?_,h5,?_,fun q hq=>.inl (h.sub q hq),fun q hq=>?_,h.pin,h.base.trans ⟨h.sh.below.os,h.sh.below.tape,h.sh.below.output,h.sh.below.size,fun q hq=>h.sh.below.block q (.inl hq)⟩,fun i x hx=>(h.glob i x hx).up hup⟩
  · obtain ⟨u0,hu0,rfl⟩:=lk_fzcL hu
    obtain ⟨u',h6,h7⟩:=h.has s u0 hu0;exact ⟨u',h6,VR.fzc he hat (h7.up hup)⟩
  · have hs:SH (fun k=>R k∨B k) w0 (H2++ks.map mkO) w:=by
      have h6:=h.sh;rw [h2] at h6;have hp:(Y++Ck.cel b vs' t :: Z++ks.map mkO).Perm (Ck.cel b vs' t :: (Y++Z++ks.map mkO)):=by
        simp only [List.append_assoc,List.cons_append];exact List.perm_middle
      exact (h6.perm hp).weak (((h4.append_right _)).cons _)
    refine ⟨KO.refl _ _,fun q hq=>?_,fun c hc=>(hs.ok c hc).base fun q hb hB=>?_,hs.apart⟩
    · rcases hq with hq | hq | hq
      · exact h.sh.base q (.inl hq)
      · exact h.sh.base q (.inr hq)
      · subst hq; exact hnew.2
    · rcases hB with hB | hB | hB
      · exact ((hs.ok c hc).lt hb).1 (.inl hB)
      · exact ((hs.ok c hc).lt hb).1 (.inr hB)
      · subst hB
        have hcm:c∈Y++(Z++ks.map mkO):=by
          rcases List.mem_append.1 hc with hc | hc
          · have:=h4.subset hc
            rcases List.mem_append.1 this with h7 | h7
            · exact List.mem_append_left _ h7
            · exact List.mem_append_right _ (List.mem_append_left _ h7)
          · exact List.mem_append_right _ (List.mem_append_right _ hc)
        rw [List.pairwise_append,List.pairwise_cons] at hpart;obtain ⟨_,⟨h8,_⟩,h9⟩:=hpart
        rcases List.mem_append.1 hcm with h7 | h7
        · exact h9 c h7 _ List.mem_cons_self q hb rfl
        · exact h8 c h7 q rfl hb
  · rcases hq with hq | hq
    · exact (h.new q hq).imp_right fun h'=>⟨h'.1,h'.2.keep (h.sh.below.block q (.inr hq))⟩
    · subst hq; exact .inr ⟨fun hR=>hnew.1 (.inl hR),(h.sh.ok _ hmem).cells rfl rfl⟩
theorem Wk.frzC (id:Nat) (g:GTy) {t:TypeId} {cs:List SC} {x:g.D} {c:Bool} (hlk:lk st.H id=some (.cells t cs)) (hdec:dec g cs=some (c,x,[])) (hc:c=true):Wk X n st ⟨fzcL id g x st.L,fzcH id g x st.H⟩:=fun _ _ _ _ _ _ ⟨ks,env,B,w0,H,hM,hA⟩=>by
  obtain ⟨env',B',w0',H',h⟩:=hA.frzC hlk hdec hc;exact ⟨ks,env',B',w0',H',hM,h⟩
end
section
variable {X:Cx} {M:Bool} {n:Nat} {st:ASt} {Q:Exit→ASt→Prop} {ops:List Oper} {E:List Nat} {ds:DS} {listed':Array Bool} {fuel d i:Nat} {o:Oper}
theorem ax_cut {r:Option Nat} {c:Code} {st'':ASt} (h1:AX X M n r c st (fun e s=>e=.normal∧Wk X n s st'')) (h2:Q .normal st''):AX X M n r c st Q:=fun R W Bi a w hA=>wpIn_mono (h1 R W Bi a w hA) fun e a w ⟨s,⟨he,hw⟩,hA'⟩=>by
  subst he;exact ⟨st'',h2,hw _ _ _ _ _ _ hA'⟩
def ADx (X:Cx) (M:Bool) (n:Nat) (ops:List Oper) (E:List Nat) (fuel:Nat) (ds:DS) (st:ASt) (Q:Exit→ASt→Prop) (i:Nat) (o:Oper):Prop:=
  ∀ (R:Nat→Prop) (W:World) (Bi:Bk) (B0:Nat→Prop) (w00:World) (CS:List Ck) (F:World→Prop) (ks:List Nat) (env:Nat→Loc) (B:Nat→Prop) (w0:World) (H:List Ck) (a:Act) (w:World),MOk M ks Bi→AI X R W Bi n ks env B w0 H st a w→DInv R ds B0 w00 CS F B w0 H →
    XO X.P ops.toArray o (fun a' w'=>((E.elem i=true→SH (fun k=>R k∨B0 k) w00 CS w')∧F w')∧wpAnyJ X.P ops.toArray (fun e a w=>e=.normal∧∃ st',Q e st'∧AR X R W Bi M n st' a w) (fun j w=>(E.elem j=true→SH (fun k=>R k∨B0 k) w00 CS w)∧F w) fuel (ds.listed.setIfInBounds i true) a' w') a w
theorem ado_of (hi:nth ops i=some o) (h:ADx X M n ops E fuel ds st Q i o):ADo X M n ops E fuel ds st Q i:=fun R W Bi B0 w00 CS F ks env B w0 H a w hM hA hD=>⟨o,nth_arr hi,h R W Bi B0 w00 CS F ks env B w0 H a w hM hA hD⟩
theorem qk (x0:SA) {j s:Nat} {want b:Bool} (hi:nth ops i=some o) (hg:o.guard=some (j,want)) (hj:nth (zU ops) j=some (some s)) (hs:lk st.L s=some (.c (.val (.bool b)))) (hdst:o.dst=some d) (hd:Nat.blt d n=true) (hE:(!E.elem i || ds.pre)=true) (hl:ds.listed.setIfInBounds i true=listed')
    (h1:b=want→ADx X M n ops E fuel ds st Q i { dst:=o.dst,op:=o.op,type:=o.type,pos:=o.pos,after:=o.after,guard:=none }) (h0:b=!want→AD X M n ops E fuel ⟨listed',false,ds.pre,ds.nocall⟩ ⟨(d,.may false x0) :: st.L,st.H⟩ Q):ADo X M n ops E fuel ds st Q i:=by
  intro R W Bi B0 w00 CS F ks env B w0 H a w hM hA hD;refine ⟨o,nth_arr hi,?_⟩;obtain ⟨oj,hoj,hsj⟩:=nth_map hj;have hj':(ops.toArray[j]?).bind (·.dst)=some s:=by simp [hoj,← hsj]
  obtain ⟨v,h2,h3⟩:=hA.has _ _ hs;rw [show v=_ from h3] at h2;have hw:=zX hA.sym hg hj' (zo h2)
  by_cases hb:b=want
  · have h4:=h1 hb R W Bi B0 w00 CS F ks env B w0 H a w hM hA hD
    rcases h4 with ⟨_,h4⟩ | ⟨h5,_⟩
    · exact .inl ⟨by rw [hw]; simp [hb],h4⟩
    · simp [Region.wanted] at h5
  · have hb':b=!want:=by cases b <;> cases want <;> simp_all
    have hS:St n (ks.map qf) ((d,undef) :: full a) (a.put o.dst undef):=by rw [hdst]; exact hA.stt.put d undef (zh hd)
    have hA':=hA.set (sv:=.may false x0) ⟨fun h=>(by cases h),fun _=>rfl⟩ hS;have hD':=hD.kept (H':=H) (l:=listed') (fun _ c hc _=>hc);refine .inr ⟨by rw [hw]; simp [hb],⟨fun he=>?_,hD.F hA⟩,?_⟩
    · refine hD.T ?_ hA
      rw [he] at hE;exact hE
    · rw [hl]
      exact h0 hb' R W Bi B0 w00 CS F ks env B w0 H _ w hM hA' hD'
theorem zP {f:FuncId} {fn:Func} {xs:List Operand} {ts:Array TypeId} {args args':List SA} {h H1:Hp} {Qc:SV→Hp→Prop} {c pre':Bool} (ps:Ps) (hC:AC X f args h Qc) (hE:(!E.elem i || pre')=true) (hpr:(ds.pre&&ps.isEmpty)=pre') (hl:ds.listed.setIfInBounds i true=listed')
    (hop:o.op=.call { callee:=.value (.func f),args:=xs.toArray,argTypes:=ts }) (ho:o.guard=none∧o.dst=some d) (hd:Nat.blt d n=true)
    (hfn : X.P.funcs[f]? = some fn) (hn : (fn.name == "runtime.NumGoroutine") = false) (hb : fn.body.isNone = false) (hargs : aes X st.L xs = some (c, args')) (hc : c = true) (hren : renAs ps args = some args') (hps : okPs n ps = true) (hpass : PassH ps h st.H H1)
    (hnext:∀ sv h',Qc sv h'→∃ sv' h'',sv.ren ps=some sv'∧renH ps h'=some h''∧AD X M n ops E fuel ⟨listed',false,pre',false⟩ ⟨(d,sv') :: killL (qg h ps) st.L,h''++qz (seconds ps) (qg h ps) H1⟩ Q):ADx X M n ops E fuel ds st Q i o:=by
  intro R W Bi B0 w00 CS F ks env B w0 H a w hM hA hD;obtain ⟨vs,h1,h2⟩:=aes_ok hA hargs hc;have he:∀ i j,lk ps i=some j→env j=(fun i=>match lk ps i with | some j=>env j | none=>Loc.no) i:=fun i j hij=>by simp only [hij]
  obtain ⟨C1,C2,h3,h4,h5⟩:=PassH.split (env:=fun i=>match lk ps i with | some j=>env j | none=>Loc.no) he hpass hA.heap;have hs:SH B w0 C1 w:=by
    have h6:=(hA.sh.perm (h3.append_right (ks.map mkO))).weak (H':=C1) (by rw [List.append_assoc]; exact List.sublist_append_left _ _);exact ⟨⟨h6.below.os,h6.below.tape,h6.below.output,h6.below.size,fun k hk=>h6.below.block k (.inr hk)⟩,fun k hk=>h6.base k (.inr hk),fun c hc=>(h6.ok c hc).base fun b hb hk=>((h6.ok c hc).lt hb).1 (.inr hk),h6.apart⟩
  have hC1:ps=[]→C1=[]:=fun e=>by
    subst e;cases hpass with
    | nil=>exact h4
    | cons hi _ _ _=>cases hi
  refine y_call hA.sym hop ho hd hfn hn hb h1 (hC B w0 _ vs C1 w (fun i x hx=>hA.glob i x hx) ((SasR.ren he hren).2 h2) h4 hs) fun v a' w' hpost hS=>?_
  obtain ⟨sv,h',hQ,hnx⟩:=hA.called hps h3 h4 h5 hpost hS;obtain ⟨sv',h'',e1,e2,hAD⟩:=hnext sv h' hQ;obtain ⟨env',B',w0',H',hA',hsub,hKO,hkeep⟩:=hnx sv' h'' e1 e2;have hD':DInv R ⟨listed',false,pre',false⟩ B0 w00 CS F B' w0' H':=⟨fun h=>(by cases h),fun h=>by
    have h':pre'=true:=h;rw [← hpr,Bool.and_eq_true] at h';have hps0:ps=[]:=by simpa using h'.2
    obtain ⟨g1,g2,g3,g4⟩:=hD.pre h'.1;refine ⟨fun c hc=>⟨hkeep hps0 c ?_,(g1 c hc).2⟩,g2,fun k hk=>hsub k (g3 k hk),g4.trans ⟨hKO.os,hKO.tape,hKO.output,hKO.size,fun k hk=>hKO.block k (hk.imp id (g3 k))⟩⟩
    have:=h3.mem_iff.1 (g1 c hc).1
    rw [hC1 hps0] at this
    simpa using this,fun h=>(by cases h),fun w hw=>hD.frz' w (hKO.trans ⟨hw.os,hw.tape,hw.output,hw.size,fun k hk=>hw.block k (hk.imp id (hsub k))⟩)⟩
  rw [hl];refine ⟨⟨fun hh=>hD'.T ?_ hA',hD'.F hA'⟩,hAD R W Bi B0 w00 CS F ks env' B' w0' H' a' w' hM hA' hD'⟩;rw [hh] at hE;exact hE
theorem adx_callV {f:FuncId} {fn:Func} {s:Nat} {ids:List Cap} {xs:List Operand} {ts:Array TypeId} {args args':List SA} {h H1:Hp} {Qc:SV→Hp→Prop} {c pre':Bool} (ps:Ps) (hC:AC X f args h Qc) (hE:(!E.elem i || pre')=true) (hpr:(ds.pre&&ps.isEmpty)=pre') (hl:ds.listed.setIfInBounds i true=listed')
    (hop:o.op=.call { callee:=.value (.tmp s),args:=xs.toArray,argTypes:=ts }) (ho:o.guard=none∧o.dst=some d) (hd:Nat.blt d n=true) (hsl:lk st.L s=some (.c (.fn f ids)))
    (hfn : X.P.funcs[f]? = some fn) (hn : (fn.name == "runtime.NumGoroutine") = false) (hb : fn.body.isNone = false) (hargs : aes X st.L xs = some (c, args')) (hc : c = true) (hren : renAs ps args = some (args' ++ ptrAs ids)) (hps : okPs n ps = true) (hpass : PassH ps h st.H H1)
    (hnext:∀ sv h',Qc sv h'→∃ sv' h'',sv.ren ps=some sv'∧renH ps h'=some h''∧AD X M n ops E fuel ⟨listed',false,pre',false⟩ ⟨(d,sv') :: killL (qg h ps) st.L,h''++qz (seconds ps) (qg h ps) H1⟩ Q):ADx X M n ops E fuel ds st Q i o:=by
  intro R W Bi B0 w00 CS F ks env B w0 H a w hM hA hD;obtain ⟨vs,h1,h2⟩:=aes_ok hA hargs hc;obtain ⟨fv,hf1,lb,rfl,hf2⟩:=hA.has _ _ hsl;have he:∀ i j,lk ps i=some j→env j=(fun i=>match lk ps i with | some j=>env j | none=>Loc.no) i:=fun i j hij=>by simp only [hij]
  obtain ⟨C1,C2,h3,h4,h5⟩:=PassH.split (env:=fun i=>match lk ps i with | some j=>env j | none=>Loc.no) he hpass hA.heap;have hs:SH B w0 C1 w:=by
    have h6:=(hA.sh.perm (h3.append_right (ks.map mkO))).weak (H':=C1) (by rw [List.append_assoc]; exact List.sublist_append_left _ _);exact ⟨⟨h6.below.os,h6.below.tape,h6.below.output,h6.below.size,fun k hk=>h6.below.block k (.inr hk)⟩,fun k hk=>h6.base k (.inr hk),fun c hc=>(h6.ok c hc).base fun b hb hk=>((h6.ok c hc).lt hb).1 (.inr hk),h6.apart⟩
  have hC1:ps=[]→C1=[]:=fun e=>by
    subst e;cases hpass with
    | nil=>exact h4
    | cons hi _ _ _=>cases hi
  refine y_callV hA.sym hop ho hd (zo hf1) hfn hn hb h1 (hC B w0 _ (vs++lb) C1 w (fun i x hx=>hA.glob i x hx) ((SasR.ren he hren).2 (h2.append (ptrs_sas hf2))) h4 hs) fun v a' w' hpost hS=>?_
  obtain ⟨sv,h',hQ,hnx⟩:=hA.called hps h3 h4 h5 hpost hS;obtain ⟨sv',h'',e1,e2,hAD⟩:=hnext sv h' hQ;obtain ⟨env',B',w0',H',hA',hsub,hKO,hkeep⟩:=hnx sv' h'' e1 e2;have hD':DInv R ⟨listed',false,pre',false⟩ B0 w00 CS F B' w0' H':=⟨fun h=>(by cases h),fun h=>by
    have h':pre'=true:=h;rw [← hpr,Bool.and_eq_true] at h';have hps0:ps=[]:=by simpa using h'.2
    obtain ⟨g1,g2,g3,g4⟩:=hD.pre h'.1;refine ⟨fun c hc=>⟨hkeep hps0 c ?_,(g1 c hc).2⟩,g2,fun k hk=>hsub k (g3 k hk),g4.trans ⟨hKO.os,hKO.tape,hKO.output,hKO.size,fun k hk=>hKO.block k (hk.imp id (g3 k))⟩⟩
    have:=h3.mem_iff.1 (g1 c hc).1
    rw [hC1 hps0] at this
    simpa using this,fun h=>(by cases h),fun w hw=>hD.frz' w (hKO.trans ⟨hw.os,hw.tape,hw.output,hw.size,fun k hk=>hw.block k (hk.imp id (hsub k))⟩)⟩
  rw [hl];refine ⟨⟨fun hh=>hD'.T ?_ hA',hD'.F hA'⟩,hAD R W Bi B0 w00 CS F ks env' B' w0' H' a' w' hM hA' hD'⟩;rw [hh] at hE;exact hE
end
end Go.Proofs.YteglgnkcpaagjaaDoor

/- Names of blocks are changed; ranges over functions. -/
namespace Go.Proofs.YteglgnkcpaagjaaDoor
open Go.RowKit
abbrev Re:=Bool→Nat→Option Nat
def capsRe (φ:Re):List Cap→Option (List Cap)
  | []=>some []
  | .id i :: r=>match φ true i,capsRe φ r with
    | some j,some l=>some (.id j :: l)
    | _,_=>none
  | .fz g x :: r=>match capsRe φ r with
    | some l=>some (.fz g x :: l)
    | none=>none
def SC.re:SC→Re→SC
  | .ptr i o,φ=>match φ true i with
    | some j=>.ptr j o
    | none=>.dead
  | .elt i sz k o,φ=>match φ false i with
    | some j=>.elt j sz k o
    | none=>.dead
  | .sl i,φ=>match φ false i with
    | some j=>.sl j
    | none=>.dead
  | .fn f ids,φ=>match capsRe φ ids with
    | some l=>.fn f l
    | none=>.dead
  | .mref i,φ=>match φ true i with
    | some j=>.mref j
    | none=>.dead
  | .bfn f i,φ=>match φ true i with
    | some j=>.bfn f j
    | none=>.dead
  | .nel i o,φ=>match φ false i with
    | some j=>.nel j o
    | none=>.dead
  | c,_=>c
def reCs (φ:Re):List SC→List SC
  | []=>[]
  | c :: r=>c.re φ :: reCs φ r
def SA.re:SA→Re→SA
  | .c x,φ=>.c (x.re φ)
  | .agg cs,φ=>.agg (reCs φ cs)
  | .arr g l,_=>.arr g l
def reAs (φ:Re):List SA→List SA
  | []=>[]
  | c :: r=>c.re φ :: reAs φ r
def SV.re:SV→Re→SV
  | .a x,φ=>.a (x.re φ)
  | .may g x,φ=>.may g (x.re φ)
  | .tup xs,φ=>.tup (reAs φ xs)
def reL (φ:Re):Sl→Sl
  | []=>[]
  | (k,v) :: r=>(k,v.re φ) :: reL φ r
def Blk.re:Blk→Re→Blk
  | .cells t cs,φ=>.cells t (reCs φ cs)
  | .it mid es k ps,φ=>match φ true mid with
    | some j=>.it j es k ps
    | none=>.junk
  | .hrow t g l c i d,φ=>match φ false d with
    | some j=>.hrow t g l c i j
    | none=>.rjunk
  | b,_=>b
def Blk.kd:Blk→Bool
  | .row _ _ _ _=>false
  | .hrow _ _ _ _ _ _=>false
  | .rjunk=>false
  | .lrow _ _ _=>false
  | _=>true
def reH (φ:Re):Hp→Hp
  | []=>[]
  | (k,b) :: r=>match φ b.kd k with
    | some j=>(j,b.re φ) :: reH φ r
    | none=>reH φ r
structure ReOk (φ:Re) (env env':Nat→Loc):Prop where
  blk:∀ k j b,φ true k=some j→env k=.blk b→env' j=.blk b
  row:∀ k j A c n,φ false k=some j→env k=.row A c n→env' j=.row A c n
section
variable {φ:Re} {env env':Nat→Loc} {B:Nat→Prop} {w:World} (he:ReOk φ env env')
include he
theorem ptrs.re:∀ {ids l:List Cap} {vs:List Value},capsRe φ ids=some l→ptrs env B w ids vs→ptrs env' B w l vs
  | [],l,vs,h,hv=>by cases h; exact hv
  | .id i :: ids,l,vs,h,⟨v,r,e,⟨b,h2,h4⟩,h3⟩=>by
    simp only [capsRe] at h
    split at h
    · rename_i j r hi hr
      cases h;exact ⟨v,_,e,⟨b,he.blk i j b hi h2,h4⟩,ptrs.re hr h3⟩
    · cases h
  | .fz g x :: ids,l,vs,h,⟨v,r,e,h2,h3⟩=>by
    simp only [capsRe] at h
    split at h
    · rename_i r hr
      cases h;exact ⟨v,_,e,h2,ptrs.re hr h3⟩
    · cases h
theorem CR.re:∀ {c:SC} {v:Value},CR env B w c v→CR env' B w (c.re φ) v
  | .val _,_,hc=>hc
  | .str _,_,hc=>hc
  | .dead,_,hc=>hc
  | .ptr i o,v,hc=>by
    simp only [SC.re]
    split
    · rename_i j h
      obtain ⟨b,e,hv⟩:=hc;exact ⟨b,he.blk i j b h e,hv⟩
    · trivial
  | .elt i sz j o,v,hc=>by
    simp only [SC.re]
    split
    · rename_i j h
      obtain ⟨b,c,n,e,hv⟩:=hc;exact ⟨b,c,n,he.row i j _ _ _ h e,hv⟩
    · trivial
  | .nel i o,v,hc=>by
    simp only [SC.re]
    split
    · rename_i j h
      obtain ⟨b,c,n,e,hv⟩:=hc;exact ⟨b,c,n,he.row i j _ _ _ h e,hv⟩
    · trivial
  | .pel _ _ _,_,hc=>hc
  | .par _ _,_,hc=>hc
  | .sl i,v,hc=>by
    simp only [SC.re]
    split
    · rename_i j h
      obtain ⟨A,c,n,e,hv⟩:=hc;exact ⟨A,c,n,he.row i j _ _ _ h e,hv⟩
    · trivial
  | .lst _ _ _,_,hc=>hc
  | .fn f ids,v,hc=>by
    simp only [SC.re]
    split
    · rename_i l h
      obtain ⟨vs,hv,hp⟩:=hc;exact ⟨vs,hv,ptrs.re he h hp⟩
    · trivial
  | .mref i,v,hc=>by
    simp only [SC.re]
    split
    · rename_i j h
      obtain ⟨b,e,hv⟩:=hc;exact ⟨b,he.blk i j b h e,hv⟩
    · trivial
  | .bfn f i,v,hc=>by
    simp only [SC.re]
    split
    · rename_i j h
      obtain ⟨b,e,hv⟩:=hc;exact ⟨b,he.blk i j b h e,hv⟩
    · trivial
theorem CsR.re:∀ {c:List SC} {v:List Value},CsR env B w c v→CsR env' B w (reCs φ c) v
  | [],_,hc=>hc
  | _ :: _,_,⟨v,r,e,h1,h2⟩=>⟨v,r,e,CR.re he h1,CsR.re h2⟩
theorem SaR.re:∀ {c:SA} {v:Value},SaR env B w c v→SaR env' B w (c.re φ) v
  | .c _,_,hc=>CR.re he hc
  | .agg _,_,⟨vs,e,h1⟩=>⟨vs,e,CsR.re he h1⟩
  | .arr _ _,_,h=>h
theorem SasR.re:∀ {c:List SA} {v:List Value},SasR env B w c v→SasR env' B w (reAs φ c) v
  | [],_,hc=>hc
  | _ :: _,_,⟨v,r,e,h1,h2⟩=>⟨v,r,e,SaR.re he h1,SasR.re h2⟩
theorem VR.re:∀ {c:SV} {v:Value},VR env B w c v→VR env' B w (c.re φ) v
  | .a _,_,hc=>SaR.re he hc
  | .may _ _,_,hc=>⟨fun hg=>SaR.re he (hc.1 hg),hc.2⟩
  | .tup _,_,⟨vs,e,h1⟩=>⟨vs,e,SasR.re he h1⟩
theorem BR.re {k j:Nat}:∀ {b:Blk} {c:Ck},φ b.kd k=some j→BR env B w k b c→BR env' B w j (b.re φ) c
  | .cells _ _,_,h,⟨b,vs,e,hc,h1⟩=>⟨b,vs,he.blk k j b h e,hc,CsR.re he h1⟩
  | .row _ _ _ _,_,h,⟨A,c,xs,e,hc,h1⟩=>⟨A,c,xs,he.row k j _ _ _ h e,hc,h1⟩
  | .sit _ _,_,h,⟨b,e,hc⟩=>⟨b,he.blk k j b h e,hc⟩
  | .mp _ _ _ _,_,h,⟨b,es,q,e,hc⟩=>⟨b,es,q,he.blk k j b h e,hc⟩
  | .it mid _ _ _,_,h,⟨b,m,e,hm,hc⟩=>by
    simp only [Blk.re]
    split
    · rename_i j' hj
      exact ⟨b,m,he.blk k j b h e,he.blk mid j' m hj hm,hc⟩
    · exact ⟨b,_,he.blk k j b h e,hc⟩
  | .junk,_,h,⟨b,o,e,hc⟩=>⟨b,o,he.blk k j b h e,hc⟩
  | .hrow t g l cap i d,_,h,⟨A,c,ys,A',c',m,e,hc,h1,hi,h2,h3⟩=>by
    simp only [Blk.re]
    split
    · rename_i j' hj
      exact ⟨A,c,ys,A',c',m,he.row k j _ _ _ h e,hc,h1,hi,he.row d j' _ _ _ hj h2,h3⟩
    · exact ⟨A,c,_,_,_,_,_,he.row k j _ _ _ h e,hc⟩
  | .rjunk,_,h,⟨A,c,n,t,s,m,xs,e,hc⟩=>⟨A,c,n,t,s,m,xs,he.row k j _ _ _ h e,hc⟩
  | .lrow _ _ _,_,h,⟨A,c,e,h1⟩=>⟨A,c,he.row k j _ _ _ h e,h1⟩
theorem HR.re:∀ {l:Hp} {H:List Ck},HR env B w l H→∃ H',H'.Sublist H∧HR env' B w (reH φ l) H'
  | [],_,hh=>⟨[],by rw [show _=[] from hh]; exact List.Sublist.refl _,rfl⟩
  | (k,b) :: l,_,⟨c,H',e,h1,h2⟩=>by
    obtain ⟨H2,hs,h3⟩:=HR.re h2;subst e;unfold reH
    split
    · rename_i j h
      exact ⟨c :: H2,hs.cons_cons _,c,H2,rfl,BR.re he h h1,h3⟩
    · exact ⟨H2,hs.cons _,h3⟩
omit he in
theorem lk_reL:∀ {l:Sl} {s:Nat} {v:SV},lk (reL φ l) s=some v→∃ u,lk l s=some u∧v=u.re φ
  | [],_,_,h=>by cases h
  | (k,u) :: l,s,v,h=>by
    unfold reL at h;rw [zB] at h ⊢
    split at h
    · rename_i e
      cases h;rw [if_pos e];exact ⟨u,rfl,rfl⟩
    · rename_i e
      rw [if_neg e];exact lk_reL h
end
def mvId (i j:Nat):Re:=fun _ k=>match Nat.beq k i with
  | true=>some j
  | false=>match Nat.beq k j with
    | true=>none
    | false=>some k
theorem mvId_ok {i j:Nat} {env:Nat→Loc}:ReOk (mvId i j) env (upd env j (env i)):=by
  have key:∀ b k k',mvId i j b k=some k'→upd env j (env i) k'=env k:=by
    intro b k k' h;unfold mvId at h
    split at h
    · rename_i hb
      cases h
      have:=Nat.eq_of_beq_eq_true hb
      subst this;exact zC
    · split at h
      · cases h
      · rename_i hb
        cases h;exact zM _ (fun e=>by subst e; rw [Nat.beq_refl] at hb; cases hb)
  exact ⟨fun k j' b h e=>by rw [key _ _ _ h]; exact e,fun k j' A c n h e=>by rw [key _ _ _ h]; exact e⟩
theorem ax_mv {X:Cx} {n:Nat} {r:Option Nat} {c:Code} {st:ASt} {Q:Exit→ASt→Prop} (i j:Nat) (hj:Nat.blt j qi=true) (h:AX X true n r c ⟨reL (mvId i j) st.L,reH (mvId i j) st.H⟩ Q):AX X true n r c st Q:=by
  rintro R W Bi a w ⟨ks,env,B,w0,H,hM,hA⟩;obtain ⟨H',h1,h2⟩:=HR.re (mvId_ok (i:=i) (j:=j)) hA.heap;refine h R W Bi a w ⟨ks,upd env j (env i),B,w0,H',hM,hA.size,hA.defs,fun s sv hs=>?_,h2,hA.sh.weak (h1.append_right _),hA.sub,hA.new,pin_upd hA.pin (fun q hp=>by have h1:=hM.2 rfl _ _ hp; have h2:=zh hj; omega),hA.base,hA.glob⟩;obtain ⟨u,h3,rfl⟩:=lk_reL hs;obtain ⟨v,h4,h5⟩:=hA.has s u h3;exact ⟨v,h4,VR.re mvId_ok h5⟩
end Go.Proofs.YteglgnkcpaagjaaDoor

/- Ranges over functions. -/
namespace Go.Proofs.YteglgnkcpaagjaaDoor
open Go.RowKit
def pinRe (n:Nat):Re:=fun b k=>match b with
  | true=>match Nat.ble n k with
    | true=>some k
    | false=>none
  | false=>match Nat.ble zR k with
    | true=>some k
    | false=>none
theorem pinRe_ok {n:Nat} {env env':Nat→Loc} (h:∀ id l,n≤id→env id=l→((∃ b,l=.blk b)∨zR≤id)→env' id=l) (hn:n≤zR):ReOk (pinRe n) env env':=by
  refine ⟨fun k j b hk e=>?_,fun k j A c m hk e=>?_⟩
  · simp only [pinRe] at hk
    split at hk
    · rename_i hb
      cases hk;exact h _ _ (Nat.le_of_ble_eq_true hb) e (.inl ⟨b,rfl⟩)
    · cases hk
  · simp only [pinRe] at hk
    split at hk
    · rename_i hb
      cases hk
      have:=Nat.le_of_ble_eq_true hb
      exact h _ _ (Nat.le_trans hn this) e (.inr this)
    · cases hk
def capsFz:List Cap→Bool
  | []=>true
  | .id _ :: _=>false
  | .fz _ _ :: r=>capsFz r
section
variable {env env':Nat→Loc} {B:Nat→Prop} {w:World}
theorem ptrs.fzAny:∀ {cs:List Cap} {vs:List Value},capsFz cs=true→ptrs env B w cs vs→ptrs env' B w cs vs
  | [],_,_,h=>h
  | .id _ :: _,_,h,_=>by cases h
  | .fz _ _ :: _,_,h,⟨v,r,e,h1,h2⟩=>⟨v,r,e,h1,ptrs.fzAny (by simpa [capsFz] using h) h2⟩
theorem ptrs.any:∀ {cs:List Cap} {vs:List Value},ptrs (fun _=>.no) B w cs vs→ptrs env B w cs vs
  | [],_,h=>h
  | .id _ :: _,_,⟨v,r,e,⟨b,h1,_⟩,h2⟩=>by cases h1
  | .fz _ _ :: _,_,⟨v,r,e,h1,h2⟩=>⟨v,r,e,h1,ptrs.any h2⟩
theorem CR.any:∀ {c:SC} {v:Value},CR (fun _=>.no) B w c v→CR env B w c v
  | .val _,_,hc=>hc
  | .str _,_,hc=>hc
  | .dead,_,hc=>hc
  | .ptr _ _,_,⟨b,h,_⟩=>by cases h
  | .elt _ _ _ _,_,⟨_,_,_,h,_⟩=>by cases h
  | .pel _ _ _,_,hc=>hc
  | .par _ _,_,hc=>hc
  | .sl _,_,⟨_,_,_,h,_⟩=>by cases h
  | .lst _ _ _,_,hc=>hc
  | .fn _ _,_,⟨vs,h1,h2⟩=>⟨vs,h1,ptrs.any h2⟩
  | .mref _,_,⟨_,h,_⟩=>by cases h
  | .bfn _ _,_,⟨_,h,_⟩=>by cases h
  | .nel _ _,_,⟨_,_,_,h,_⟩=>by cases h
theorem CsR.any:∀ {c:List SC} {v:List Value},CsR (fun _=>.no) B w c v→CsR env B w c v
  | [],_,hc=>hc
  | _ :: _,_,⟨v,r,e,h1,h2⟩=>⟨v,r,e,h1.any,h2.any⟩
theorem SaR.any:∀ {c:SA} {v:Value},SaR (fun _=>.no) B w c v→SaR env B w c v
  | .c _,_,hc=>CR.any hc
  | .agg _,_,⟨vs,e,h1⟩=>⟨vs,e,h1.any⟩
  | .arr _ _,_,h=>h
theorem SasR.any:∀ {c:List SA} {v:List Value},SasR (fun _=>.no) B w c v→SasR env B w c v
  | [],_,hc=>hc
  | _ :: _,_,⟨v,r,e,h1,h2⟩=>⟨v,r,e,h1.any,h2.any⟩
end
/-! ### Slots: parameters and moves -/
structure Has (n:Nat) (env:Nat→Loc) (B:Nat→Prop) (w:World) (L:Sl) (tmps:Array Value):Prop where
  size:tmps.size=n
  has:∀ s sv,lk L s=some sv→∃ v,tmps[s]?=some v∧VR env B w sv v
def parL:List Nat→List SA→Sl→Sl
  | p :: ps,x :: xs,L=>parL ps xs ((p,.a x) :: L)
  | _,_,L=>L
def mvS:List (Nat×Nat)→Sl→Sl
  | [],L=>L
  | (d,s) :: r,L=>match lk L s with
    | some v=>mvS r ((d,v) :: L)
    | none=>mvS r ((d,.a (.c .dead)) :: L)
def mvT:List (Nat×Nat)→Array Value→Array Value
  | [],t=>t
  | (d,s) :: r,t=>mvT r (t.setIfInBounds d (t.getD s undef))
def allLt (n:Nat):List Nat→Bool
  | []=>true
  | p :: r=>Nat.blt p n&&allLt n r
section
variable {n:Nat} {env:Nat→Loc} {B:Nat→Prop} {w:World} {L:Sl} {tmps:Array Value}
theorem Has.set (h:Has n env B w L tmps) {d:Nat} (hd:d < n) {sv:SV} {v:Value} (hv:VR env B w sv v):Has n env B w ((d,sv) :: L) (tmps.setIfInBounds d v):=by
  refine ⟨by simpa using h.size,fun s u hu=>?_⟩;rw [zB] at hu
  split at hu
  · rename_i e
    subst e;cases hu;exact ⟨v,by rw [Array.getElem?_setIfInBounds_self_of_lt (by rw [h.size]; exact hd)],hv⟩
  · rename_i e
    obtain ⟨u',h1,h2⟩:=h.has s u hu;exact ⟨u',by rw [Array.getElem?_setIfInBounds_ne (fun e'=>e e'.symm)]; exact h1,h2⟩
theorem Has.par:∀ {ps:List Nat} {xs:List SA} {vs:List Value} {L:Sl} {tmps:Array Value},Has n env B w L tmps→allLt n ps=true→SasR env B w xs vs→Has n env B w (parL ps xs L) ((ps.zip vs).foldl (fun t (p,v)=>t.setIfInBounds p v) tmps)
  | [],_,_,_,_,h,_,_=>by cases ‹List SA› <;> exact h
  | _ :: _,[],_,_,_,h,_,hx=>by rw [show _=[] from hx]; exact h
  | p :: ps,x :: xs,_,L,tmps,h,hp,⟨v,r,e,h1,h2⟩=>by
    subst e;simp only [allLt,Bool.and_eq_true] at hp;exact Has.par (ps:=ps) (xs:=xs) (vs:=r) (L:=(p,.a x) :: L) (tmps:=tmps.setIfInBounds p v) (h.set (zh hp.1) (sv:=.a x) h1) hp.2 h2
theorem Has.mv:∀ {ms:List (Nat×Nat)} {L:Sl} {tmps:Array Value},Has n env B w L tmps→allLt n (ms.map (·.1))=true→Has n env B w (mvS ms L) (mvT ms tmps)
  | [],_,_,h,_=>h
  | (d,s) :: r,L,tmps,h,hp=>by
    simp only [List.map_cons,allLt,Bool.and_eq_true] at hp;unfold mvS mvT
    split
    · rename_i v hv
      obtain ⟨u,h1,h2⟩:=h.has s v hv;refine Has.mv (h.set (zh hp.1) ?_) hp.2;rw [Array.getD_eq_getD_getElem?,h1];exact h2
    · exact Has.mv (h.set (zh hp.1) trivial) hp.2
end
def asgO (n:Nat):List Oper→Option (List (Nat×Nat))
  | []=>some []
  | o :: r=>match o.guard,o.dst,o.op,asgO n r with
    | none,some d,.assign (.tmp s),some l=>some ((d,s) :: l)
    | none,some d,.move (.tmp s),some l=>some ((d,s) :: l)
    | _,_,_,_=>none
inductive Asg (n:Nat):Code→List (Nat×Nat)→Prop where
  | region {id:Nat} {ops:List Oper} {ms:List (Nat×Nat)} (h:asgO n ops=some ms):Asg n (.region id ops.toArray false) ms
  | skip:Asg n .skip []
theorem asgO_ok {P:Program} {n l:Nat} {ops:Array Oper} {Q:Exit→Act→World→Prop} {w:World}:∀ {os:List Oper} {ms:List (Nat×Nat)} {a:Act},asgO n os=some ms→Q .normal { a with tmps:=mvT ms a.tmps } w→XL (some l) P ops Q os a w
  | [],ms,a,h,hq=>by cases h; exact x_end hq
  | o :: os,ms,a,h,hq=>by
    have key:∀ d s,o.guard=none→o.dst=some d→(o.op=.assign (.tmp s)∨o.op=.move (.tmp s))→∀ l',asgO n os=some l'→ms=(d,s) :: l'→XL (some l) P ops Q (o :: os) a w:=by
      intro d s hg hd hop l' hl hms;subst hms;refine zW (.inl ⟨by simp [Region.wanted,hg],.inl ⟨a.eval (.tmp s),w,?_,asgO_ok hl ?_⟩⟩)
      · rcases hop with hop | hop <;> simp [execOp,hop]
      · rw [hd]
        exact hq
    unfold asgO at h
    split at h
    · rename_i d s l' hg hd hop hl
      cases h;exact key d s hg hd (.inl hop) l' hl rfl
    · rename_i d s l' hg hd hop hl
      cases h;exact key d s hg hd (.inr hop) l' hl rfl
    · cases h
theorem Asg.ok {P:Program} {n l:Nat} {c:Code} {ms:List (Nat×Nat)} {Q:Exit→Act→World→Prop} {w:World} {a:Act} (h:Asg n c ms) (hq:Q .normal { a with tmps:=mvT ms a.tmps } w):XC (some l) P c Q a w:=by
  cases h with
  | region h=>exact c_region (asgO_ok h hq)
  | skip=>exact c_skip hq
end Go.Proofs.YteglgnkcpaagjaaDoor

/- Ranges over functions: the rule. -/
namespace Go.Proofs.YteglgnkcpaagjaaDoor
open Go.RowKit
def AIt {α:Type} (X:Cx) (gf:FuncId) (caps:List Cap) (sas:α→List SA) (S Sp:List α→Prop) (N:Nat):Prop:=
  ∀ (B:Nat→Prop) (w:World) (lb:List Value),(∀ k,B k→k < w.heap.size)→GlobOk X B w→ptrs (fun _=>.no) B w caps lb→∃ encs:α→Array Value,(∀ x,SasR (fun _=>.no) B w (sas x) (encs x).toList)∧SeqStopsK Fence.wide 1 X.P gf lb.toArray encs (KO B) S Sp N w
def noSit:Hp→Bool
  | []=>true
  | (_,.sit _ _) :: _=>false
  | (_,.mp _ _ _ _) :: _=>false
  | (_,.it _ _ _ _) :: _=>false
  | (_,.junk) :: _=>false
  | _ :: r=>noSit r
theorem HR.isC {env:Nat→Loc} {B:Nat→Prop} {w:World}:∀ {l:Hp} {H:List Ck},noSit l=true→HR env B w l H→∀ c∈H,c.isC=true
  | [],_,_,h,c,hc=>by rw [show _=[] from h] at hc; cases hc
  | (_,.sit _ _) :: _,_,h,_,_,_=>by cases h
  | (_,.mp _ _ _ _) :: _,_,h,_,_,_=>by cases h
  | (_,.it _ _ _ _) :: _,_,h,_,_,_=>by cases h
  | (_,.junk) :: _,_,h,_,_,_=>by cases h
  | (_,.cells _ _) :: r,_,hn,⟨c0,H',e,⟨b,vs,_,h1,_⟩,h2⟩,c,hc=>by
    subst e
    rcases List.mem_cons.1 hc with hc | hc
    · subst hc; rw [h1]; rfl
    · exact HR.isC (by simpa [noSit] using hn) h2 c hc
  | (_,.row _ _ _ _) :: r,_,hn,⟨c0,H',e,⟨A,k,xs,_,h1,_⟩,h2⟩,c,hc=>by
    subst e
    rcases List.mem_cons.1 hc with hc | hc
    · subst hc; rw [h1]; rfl
    · exact HR.isC (by simpa [noSit] using hn) h2 c hc
  | (_,.hrow _ _ _ _ _ _) :: r,_,hn,⟨c0,H',e,⟨A,k,ys,A',c',m,_,h1,_⟩,h2⟩,c,hc=>by
    subst e
    rcases List.mem_cons.1 hc with hc | hc
    · subst hc; rw [h1]; rfl
    · exact HR.isC (by simpa [noSit] using hn) h2 c hc
  | (_,.rjunk) :: r,_,hn,⟨c0,H',e,⟨A,k,n,t,s,m,xs,_,h1⟩,h2⟩,c,hc=>by
    subst e
    rcases List.mem_cons.1 hc with hc | hc
    · subst hc; rw [h1]; rfl
    · exact HR.isC (by simpa [noSit] using hn) h2 c hc
  | (_,.lrow _ _ _) :: r,_,hn,⟨c0,H',e,⟨A,k,_,h1⟩,h2⟩,c,hc=>by
    subst e
    rcases List.mem_cons.1 hc with hc | hc
    · subst hc
      rcases h1 with ⟨_,h1,_⟩ | ⟨h1,_⟩
      · rw [h1]; rfl
      · rw [h1]; rfl
    · exact HR.isC (by simpa [noSit] using hn) h2 c hc
def exitC:Exit→Option Code
  | .ret=>some .ret
  | .exit id=>some (.exit id)
  | _=>none
def exitB:Exit→Bool
  | .normal=>true
  | .ret=>true
  | .exit _=>true
  | _=>false
section
variable {X:Cx} {R:Nat→Prop} {W:World} {Bi:Bk} {n:Nat} {ks:List Nat} {env:Nat→Loc} {B:Nat→Prop} {w0:World} {H:List Ck} {st:ASt} {a:Act} {w:World}
def pinsOf (n:Nat) (env:Nat→Loc):Nat→Loc→Prop:=fun id l=>n≤id∧env id=l∧((∃ b,l=.blk b)∨zR≤id)
theorem AI.rebase (h:AI X R W Bi n ks env B w0 H st a w):AI X (fun k=>R k∨B k) w ⟨B,pinsOf n env⟩ n ks env B w H st a w:=by
  have hup:Up B w0 B w:=⟨fun _ h=>h,fun k hk=>h.sh.below.block k (.inr hk)⟩
  refine ⟨h.size,h.defs,fun s sv hs=>?_,h.heap.up hup,?_,fun _ h=>h,fun _ h=>.inl h,fun _ _ h=>h,KO.refl _ _,fun i x hx=>(h.glob i x hx).up hup⟩
  · obtain ⟨v,h1,h2⟩:=h.has s sv hs
    exact ⟨v,h1,h2.up hup⟩
  · exact ⟨KO.refl _ _,fun k hk=>h.sh.base k (hk.elim (fun h=>h) .inr),fun c hc=>(h.sh.ok c hc).base fun b hb hk=>((h.sh.ok c hc).lt hb).1 (hk.elim (fun h=>h) .inr),h.sh.apart⟩
theorem AI.unbase {env':Nat→Loc} {B':Nat→Prop} {w0':World} {H':List Ck} {st':ASt} {a':Act} {w':World} {ks':List Nat} (h:AI X R W Bi n ks env B w0 H st a w) (h':AI X (fun k=>R k∨B k) w ⟨B,pinsOf n env⟩ n ks' env' B' w0' H' st' a' w'):AI X R W Bi n ks' env' B' w0' H' st' a' w':=by
  refine ⟨h'.size,h'.defs,h'.has,h'.heap,?_,fun k hk=>h'.sub k (h.sub k hk),fun k hk=>?_,fun id l hp=>?_,?_,h'.glob⟩
  · exact ⟨⟨h'.sh.below.os,h'.sh.below.tape,h'.sh.below.output,h'.sh.below.size,fun k hk=>h'.sh.below.block k (hk.imp .inl id)⟩,fun k hk=>h'.sh.base k (hk.imp .inl id),fun c hc=>(h'.sh.ok c hc).base fun b hb hk=>((h'.sh.ok c hc).lt hb).1 (hk.imp .inl id),h'.sh.apart⟩
  · have hKO:∀ q,B q→w0'.heap[q]?=w0.heap[q]?:=fun q hq=>(h'.base.block q (.inr hq)).trans (h.sh.below.block q (.inr hq))
    rcases h'.new k hk with h1 | h1
    · exact (h.new k h1).imp_right fun h2=>⟨h2.1,h2.2.keep (hKO k h1)⟩
    · exact .inr ⟨fun hR=>h1.1 (.inl hR),h1.2⟩
  · obtain ⟨h1,h2,h3⟩:=h.pin id l hp
    exact ⟨h1,(h'.pin id l ⟨h1,h2,h3⟩).2.1,h3⟩
  · exact h.base.trans ⟨h.sh.below.os.symm ▸ h'.base.os,h.sh.below.tape ▸ h'.base.tape,h.sh.below.output ▸ h'.base.output,Nat.le_trans h.sh.below.size h'.base.size,fun k hk=>(h'.base.block k (.inl hk)).trans (h.sh.below.block k (.inl hk))⟩
theorem AI.turn {W':World} {row:Option Nat} (h:AI X R W Bi n ks env B w0 H st a w) {N:Nat} (hR:∀ k,R k→k < N) (hB:∀ k,Bi.b k→k < N) (hs:noSit st.H=true) (hks:∀ k∈ks,k < N) (hg:w.grownBy W' row) (hr:∀ r,row=some r→N≤r∧∃ o:Obj,w.heap[r]?=some o∧o.isCells=false):AI X R W Bi n ks env B w0 H st a W':=by
  have hC:=h.heap.isC hs;have hcell:∀ k,IsC w k→row≠some k:=fun k ⟨cs,t,fr,hk⟩ e=>by
    obtain ⟨_,o,ho,hc⟩:=hr k e;rw [hk] at ho;cases ho;cases hc
  have hbase:∀ k,R k∨B k→row≠some k:=fun k hk e=>by
    have hN:=(hr k e).1
    rcases hk with hk | hk
    · have:=hR k hk; omega
    · rcases h.new k hk with h1 | h1
      · have:=hB k h1; omega
      · exact hcell k (h1.2.keep (h.sh.below.block k (.inr hk))) e
  refine ⟨h.size,h.defs,h.has,h.heap,⟨h.sh.below.trans ⟨hg.os,hg.tape,hg.output,hg.size,fun k hk=>hg.block k (h.sh.base k hk) (fun e=>hbase k hk e.symm)⟩,fun k hk=>Nat.lt_of_lt_of_le (h.sh.base k hk) hg.size,fun c hm=>(h.sh.ok c hm).keep fun b e=>hg.block b ((h.sh.ok c hm).lt e).2 (fun e'=>?_),h.sh.apart⟩,h.sub,h.new,h.pin,h.base,h.glob⟩
  rcases List.mem_append.1 hm with hm' | hm'
  · exact hcell b ((h.sh.ok c hm).cells (hC c hm') e) e'.symm
  · obtain ⟨k,hk,rfl⟩:=List.mem_map.1 hm'
    have h1:=hks k hk;have h2:=(hr b e'.symm).1
    have:k=b:=Option.some.inj e
    omega
theorem AI.round (h:AI X R W Bi n ks env B w0 H st a w) {L':Sl} {t:Array Value} (hL:Has n env B w L' t):AI X (Rest w H) w ⟨B,pinsOf n env⟩ n [] env B w H ⟨L',st.H⟩ { tmps:=t,defers:=[] } w:=by
  have hup:Up B w0 B w:=⟨fun _ h=>h,fun k hk=>h.sh.below.block k (.inr hk)⟩
  have hs:SH (fun k=>R k∨B k) w0 H w:=h.sh.weak (List.sublist_append_left _ _);refine ⟨hL.size,rfl,hL.has,h.heap.up hup,?_,fun _ h=>h,fun _ h=>.inl h,fun _ _ h=>h,KO.refl _ _,fun i x hx=>(h.glob i x hx).up hup⟩;have h1:=hs.rest;simp only [List.map_nil,List.append_nil];exact ⟨KO.refl _ _,fun k hk=>hk.elim (fun h=>h.1) (fun h=>hs.base k (.inr h)),fun c hc=>(h1.ok c hc).base fun b hb hk=>hk.elim (fun h=>((h1.ok c hc).lt hb).1 h) (fun h=>((hs.ok c hc).lt hb).1 (.inr h)),h1.apart⟩
theorem AI.rounded {env':Nat→Loc} {B':Nat→Prop} {w0':World} {H':List Ck} {st':ASt} {a':Act} {w':World} (h:AI X R W Bi n ks env B w0 H st a w) (h':AI X (Rest w H) w ⟨B,pinsOf n env⟩ n [] env' B' w0' H' st' a' w') {L:Sl} (hL:∀ s sv,lk L s=some sv→∃ v,a.tmps[s]?=some v∧VR env' B' w0' sv v):AI X R W Bi n ks env' B' w0' H' ⟨L,st'.H⟩ a w':=by
  have hs:SH (fun k=>R k∨B k) w0 H w:=h.sh.weak (List.sublist_append_left _ _);have hRest:∀ k,R k∨B k→Rest w H k:=fun k hk=>⟨hs.base k hk,fun c hc e=>((hs.ok c hc).lt e).1 hk⟩
  have hup:Up B w0 B' w0':=⟨h'.sub,fun k hk=>(h'.base.block k (hRest k (.inr hk))).trans (h.sh.below.block k (.inr hk))⟩
  have hsh:=h'.sh;simp only [List.map_nil,List.append_nil] at hsh;have hf:SH (Rest w H) w H' w':=⟨h'.base.trans ⟨hsh.below.os,hsh.below.tape,hsh.below.output,hsh.below.size,fun k hk=>hsh.below.block k (.inl hk)⟩,fun k hk=>hsh.base k (.inl hk),fun c hc=>(hsh.ok c hc).base fun b hb hk=>((hsh.ok c hc).lt hb).1 (.inl hk),hsh.apart⟩
  have hfr:=h.sh.frame hf;have hpart:=List.pairwise_append.1 h.sh.apart;refine ⟨h.size,h.defs,hL,h'.heap,⟨⟨hsh.below.os,hsh.below.tape,hsh.below.output,hsh.below.size,fun k hk=>hsh.below.block k (hk.imp (fun h=>hRest k (.inl h)) id)⟩,fun k hk=>hsh.base k (hk.imp (fun h=>hRest k (.inl h)) id),fun c hc=>(hfr.ok c hc).base fun b hb hk=>?_,hfr.apart⟩,fun k hk=>h'.sub k (h.sub k hk),fun k hk=>?_,fun id l hp=>?_,?_,fun i x hx=>(h.glob i x hx).up hup⟩
  · rcases hk with hk | hk
    · exact ((hfr.ok c hc).lt hb).1 (.inl hk)
    · rcases List.mem_append.1 hc with hc' | hc'
      · exact ((hsh.ok c hc').lt hb).1 (.inr hk)
      · rcases h'.new b hk with h1 | h1
        · exact ((hfr.ok c hc).lt hb).1 (.inr h1)
        · exact h1.1 ⟨((h.sh.ok c (List.mem_append_right _ hc')).lt hb).2,fun c' hc'' e=>hpart.2.2 c' hc'' c hc' b e hb⟩
  · rcases h'.new k hk with h1 | h1
    · exact (h.new k h1).imp_right fun h2=>⟨h2.1,h2.2.keep (hup.2 k h1)⟩
    · exact .inr ⟨fun hR=>h1.1 (hRest k (.inl hR)),h1.2⟩
  · obtain ⟨h1,h2,h3⟩:=h.pin id l hp
    exact ⟨h1,(h'.pin id l ⟨h1,h2,h3⟩).2.1,h3⟩
  · exact h.base.trans ⟨h'.base.os.trans h.sh.below.os,h'.base.tape.trans h.sh.below.tape,h'.base.output.trans h.sh.below.output,Nat.le_trans h.sh.below.size h'.base.size,fun k hk=>(h'.base.block k (hRest k (.inl hk))).trans (h.sh.below.block k (.inl hk))⟩
end
theorem ax_range {α β:Type} {X:Cx} {n:Nat} {st:ASt} {Q:Exit→ASt→Prop} {g:Operand} {pl:List Nat} {assign body:Code} {gf:FuncId} {fn:Func} {caps:List Cap} {sas:α→List SA} {S Sp:List α→Prop} {N:Nat} {b:Bool} {ms:List (Nat×Nat)}
    (hg : ae X st.L g = some (b, .c (.fn gf caps))) (hb : b = true) (hfz : capsFz caps = true) (hfn : X.P.funcs[gf]? = some fn) (hnm : (fn.name == "runtime.NumGoroutine") = false) (hbd : fn.body.isNone = false) (hit : AIt X gf caps sas S Sp N) (hlen : ∀ x, (sas x).length = pl.length) (hpl : allLt n pl = true) (hasg : Asg n assign ms) (hms : allLt n (ms.map (·.1)) = true) (hn : Nat.ble n zR = true)
    (Hv:Exit→List α→β→Hp) (φ:Exit→List α→β→Prop) (hns:∀ e xs y,noSit (Hv e xs y)=true) (y0:β) (h0:φ .normal [] y0) (hH:st.H=Hv .normal [] y0)
    (hbody:∀ l pre x y,φ .normal pre y→pre.length < N→AX X false n (some l) body ⟨mvS ms (parL pl (sas x) (reL (pinRe n) st.L)),Hv .normal pre y⟩ (fun e s=>exitB e=true∧∃ y',φ e (pre++[x]) y'∧∃ L',Wk X n s ⟨L',Hv e (pre++[x]) y'⟩))
    (hdone:∀ xs y,S xs→φ .normal xs y→Q .normal ⟨reL (pinRe n) st.L,Hv .normal xs y⟩)
    (hstop:∀ e c xs y,exitC e=some c→Sp xs→φ e xs y→Q e ⟨reL (pinRe n) st.L,Hv e xs y⟩):AX X true n none (.rangeFunc g pl.toArray assign body) st Q:=by
  rintro R W Bi a w ⟨ks,env,B,w0,H,hM,hA⟩;obtain ⟨gv,hg1,lb,rfl,hg2⟩:=hA.ev hg hb;have hA0:=hA.rebase;have hupw:Up B w0 B w:=⟨fun _ h=>h,fun k hk=>hA.sh.below.block k (.inr hk)⟩
  obtain ⟨encs,henc,hseq⟩:=hit B w lb (fun k hk=>hA.sh.base k (.inr hk)) (fun i x hx=>(hA.glob i x hx).up hupw) ((hg2.up hupw).fzAny hfz);have hRN:∀ k,R k∨B k→k < w.heap.size:=fun k hk=>hA.sh.base k hk
  have hksN:∀ k∈ks,k < w.heap.size:=fun k hk=>((hA.sh.ok (mkO k) (List.mem_append_right _ (List.mem_map.2 ⟨k,hk,rfl⟩))).lt rfl).2
  have hn':=Nat.le_of_ble_eq_true hn
  let I:Exit→List α→World→Prop:=fun e xs W'=>∃ y,φ e xs y∧∃ env' B' w0' H',AI X (fun k=>R k∨B k) w ⟨B,pinsOf n env⟩ n ks env' B' w0' H' ⟨reL (pinRe n) st.L,Hv e xs y⟩ a W'
  have hown:∀ e,OwnFrom w.heap.size (I e):=by
    rintro e xs W1 W2 row ⟨y,hy,env',B',w0',H',h1⟩ hgr hrow;exact ⟨y,hy,env',B',w0',H',h1.turn hRN (fun k hk=>hRN k (.inr hk)) (hns e xs y) hksN hgr hrow⟩
  -- the slots of the function itself, whenever
  have hLp:∀ {B':Nat→Prop} {w0':World} {env':Nat→Loc},(∀ k,B k→B' k)→(∀ k,B k→w0'.heap[k]?=w.heap[k]?)→(∀ id l,pinsOf n env id l→env' id=l)→∀ s sv,lk (reL (pinRe n) st.L) s=some sv→∃ v,a.tmps[s]?=some v∧VR env' B' w0' sv v:=by
    intro B' w0' env' hB hw he s sv hs;obtain ⟨u,h1,rfl⟩:=lk_reL hs;obtain ⟨v,h2,h3⟩:=hA0.has s u h1;exact ⟨v,h2,VR.re (pinRe_ok (fun id l h4 h5 h6=>he id l ⟨h4,h5,h6⟩) hn') (h3.up ⟨hB,hw⟩)⟩
  have hback:∀ {e:Exit} {xs:List α} {W1:World} (k:Nat),w.heap.size≤k→W1.heap[k]?=some (.deferred (some []))→I e xs W1→∃ y,φ e xs y∧AR X R W Bi true n ⟨reL (pinRe n) st.L,Hv e xs y⟩ { a with defers:={ target:=.collected k,args:=#[] } :: a.defers } W1:=by
    rintro e xs W1 k hk hd ⟨y,hy,env',B',w0',H',h1⟩;refine ⟨y,hy,k :: ks,env',B',w0',H',⟨(fun h=>by cases h),hM.2⟩,hA.unbase ?_⟩;have hC:=h1.heap.isC (hns e xs y);have hperm:(mkO k :: (H'++ks.map mkO)).Perm (H'++(k :: ks).map mkO):=by
      rw [List.map_cons];exact List.perm_middle.symm
    have hnot:∀ q,q=k→¬ ((R q∨B q)∨B' q):=by
      rintro q rfl hq;have hcase:(R q∨B q)∨IsC w0' q∧B' q:=hq.elim .inl fun h=>(h1.new q h).elim (fun h=>.inl (.inr h)) fun h'=>.inr ⟨h'.2,h⟩
      rcases hcase with h2 | ⟨h2,h3⟩
      · have:=hRN q h2; omega
      · obtain ⟨cs,t,fr,h4⟩:=h2.keep (h1.sh.below.block q (.inr h3))
        rw [hd] at h4;cases h4
    have hsh:SH (fun q=>(R q∨B q)∨B' q) w0' (mkO k :: (H'++ks.map mkO)) W1:=by
      refine ⟨h1.sh.below,h1.sh.base,fun c hc=>?_,List.Pairwise.cons (fun c hc q e1 e2=>?_) h1.sh.apart⟩
      · rcases List.mem_cons.1 hc with rfl | hc
        · exact ⟨hnot k rfl,hd⟩
        · exact h1.sh.ok c hc
      · have:k=q:=Option.some.inj e1
        subst this
        rcases List.mem_append.1 hc with hc' | hc'
        · obtain ⟨cs,t,fr,hh⟩:=(h1.sh.ok c hc).cells (hC c hc') e2
          rw [hd] at hh;cases hh
        · obtain ⟨k',hk',rfl⟩:=List.mem_map.1 hc'
          have h2:=hksN k' hk'
          have:k'=k:=Option.some.inj e2
          omega
    refine ⟨h1.size,by rw [List.map_cons,← h1.defs]; rfl,h1.has,h1.heap,hsh.perm hperm,h1.sub,h1.new,h1.pin,h1.base,h1.glob⟩
  have hup:∀ (c:Code) (m:Nat) (Q:Exit→Act→World→Prop) a w,c.wpIn Fence.wide m X.P Q a w ↔ c.wpIn Fence.wide 0 X.P Q a w:=fun c m Q a w=>wpIn_wide.trans wpIn_wide.symm
  refine (hup _ 2 _ _ _).1 ?_;have hpar:∀ x,(pl.toArray.zip (encs x)).foldl (fun t (p,v)=>t.setIfInBounds p v) a.tmps=(pl.zip (encs x).toList).foldl (fun t (p,v)=>t.setIfInBounds p v) a.tmps:=fun x=>by
    rw [← Array.foldl_toList,Array.toList_zip]
  refine wpIn_rangeFunc_ownH (F:=Fence.wide) (n:=2) rfl (by omega) (gf:=gf) (lb:=lb.toArray) (hA.stt.ev hg1) trivial (fun args w=>run_callFunc hfn hnm hbd) hseq (fun h k=>h.trans k) ?_ (Below.refl _ _) (fun x=>by have:=(henc x).length; rw [hlen x] at this; simpa using this)
    (I .normal) (fun c xs W'=>∃ e,exitC e=some c∧I e xs W') (hown .normal) ?_ ?_
    (fun x a' _=>a'={ tmps:=mvT ms ((pl.zip (encs x).toList).foldl (fun t (p,v)=>t.setIfInBounds p v) a.tmps),defers:=[] }) (fun _ _ _ _ _ _ hs _ _=>hs) ?_ ?_ ?_ ?_
  · intro W1 l o o' hl hh _ _
    exact ⟨rfl,rfl,rfl,by simp,fun k hk=>World.putObj_heap_other (fun e=>by subst e; have:=hRN _ (.inr hk); omega)⟩
  · rintro c xs W1 W2 row ⟨e,he,hI⟩ hgr hrow
    exact ⟨e,he,hown e xs W1 W2 row hI hgr hrow⟩
  · refine ⟨y0,h0,env,B,w,H,hA0.size,hA0.defs,hLp (fun _ h=>h) (fun _ _=>rfl) (fun _ _ h=>h.2.1),?_,hA0.sh,hA0.sub,hA0.new,hA0.pin,hA0.base,hA0.glob⟩
    show HR env B w (Hv .normal [] y0) H;rw [← hH];exact hA0.heap
  · intro l pre x W1 K hI hK
    rw [hpar];refine Asg.ok (l:=l) hasg (hK _ _ (KeepsFrom.refl _ _) (KO.refl _ _) hI rfl)
  · rintro l pre x a' W1 _ _ ⟨y,hy,env1,B1,w1,H1,h1⟩ rfl hlt
    have hs1:SH (fun k=>(R k∨B k)∨B1 k) w1 H1 W1:=h1.sh.weak (List.sublist_append_left _ _);have hup1:Up B1 w1 B1 W1:=⟨fun _ h=>h,fun k hk=>h1.sh.below.block k (.inr hk)⟩
    have hB1:∀ k,B k→W1.heap[k]?=w.heap[k]?:=fun k hk=>(h1.sh.below.block k (.inl (.inr hk))).trans (h1.base.block k (.inr hk))
    have hasL:Has n env1 B1 W1 (reL (pinRe n) st.L) a.tmps:=⟨hA.size,fun s sv hs=>by
      obtain ⟨v,h2,h3⟩:=h1.has s sv hs;exact ⟨v,h2,h3.up hup1⟩⟩
    have hr:=h1.round (Has.mv (Has.par hasL hpl ((henc x).any.up ⟨fun k hk=>h1.sub k hk,hB1⟩)) hms);refine wpIn_mono (hbody l pre x y hy hlt _ _ _ _ _ ⟨[],env1,B1,W1,H1,⟨fun _=>rfl,fun h=>by cases h⟩,hr⟩) ?_;rintro e a3 W3 ⟨s,⟨hex,y',hy',L',hw⟩,h2⟩;obtain ⟨ks3,env3,B3,w3,H3,hM3,h3⟩:=hw _ _ _ _ _ _ h2
    have:=hM3.1 rfl
    subst this;have hRest:∀ k,(R k∨B k)∨B1 k→Rest W1 H1 k:=fun k hk=>⟨hs1.base k hk,fun c hc e=>((hs1.ok c hc).lt e).1 hk⟩
    have hsame:∀ k,Rest W1 H1 k→W3.heap[k]?=W1.heap[k]?:=fun k hk=>(h3.sh.below.block k (.inl hk)).trans (h3.base.block k hk)
    have h4:=h1.rounded h3 (L:=reL (pinRe n) st.L) (hLp (fun k hk=>h3.sub k (h1.sub k hk)) (fun k hk=>(h3.base.block k (hRest k (.inl (.inr hk)))).trans (hB1 k hk)) (fun id l hp=>(h3.pin id l ⟨(h1.pin id l hp).1,(h1.pin id l hp).2.1,(h1.pin id l hp).2.2⟩).2.1));have hI:I e (pre++[x]) W3:=⟨y',hy',env3,B3,w3,H3,h4⟩
    have hC:=h1.heap.isC (hns .normal pre y);have hKF:KeepsFrom w.heap.size W1 W3:=⟨Nat.le_trans h3.base.size h3.sh.below.size,fun k o _ hk ho=>(hsame k ⟨(Array.getElem?_eq_some_iff.1 hk).1,fun c hm e=>by
      obtain ⟨cs,t,fr,hh⟩:=(hs1.ok c hm).cells (hC c hm) e;rw [hh] at hk;cases hk;cases ho⟩).trans hk⟩
    cases e with
    | normal=>exact ⟨hKF,⟨h3.sh.below.os.trans h3.base.os,h3.sh.below.tape.trans h3.base.tape,h3.sh.below.output.trans h3.base.output,Nat.le_trans h3.base.size h3.sh.below.size,fun k hk=>hsame k (hRest k (.inl (.inr hk)))⟩,hI⟩
    | ret=>exact ⟨hKF,.ret,rfl,hI⟩
    | exit id=>exact ⟨hKF,.exit id,rfl,hI⟩
    | goto t=>cases hex
    | panic c=>cases hex
    | outgrown=>cases hex
  · rintro k xs W1 hk hS hI hd
    obtain ⟨y,hy,hAR⟩:=hback k hk hd hI;exact ⟨_,hdone xs y hS hy,hAR⟩
  · rintro k c xs W1 hk hS ⟨e,he,hI⟩ hd
    obtain ⟨y,hy,hAR⟩:=hback k hk hd hI;have hq:=hstop e c xs y he hS hy;cases e with
    | ret=>cases he; exact wpIn_ret ⟨_,hq,hAR⟩
    | exit id=>cases he; exact (hup _ 2 _ _ _).2 (c_exit ⟨_,hq,hAR⟩)
    | normal=>cases he
    | goto t=>cases he
    | panic c=>cases he
    | outgrown=>cases he
end Go.Proofs.YteglgnkcpaagjaaDoor

/- Iterators. -/
namespace Go.Proofs.YteglgnkcpaagjaaDoor
open Go.RowKit
section
variable {X:Cx} {R:Nat→Prop} {W:World} {Bi:Bk} {n:Nat} {ks:List Nat} {B:Nat→Prop} {w0:World} {r:Option Nat} {ops:List Oper} {Q:Exit→Act→World→Prop}
theorem xl_upto (hX:X.tt.ok X.P):∀ {l rest:List Oper} {c c':Bool} {st st':ASt} {env:Nat→Loc} {H:List Ck} {a:Act} {w:World},arun X n (zU ops) l c st=.stop c' st' rest→c'=true→AI X R W Bi n ks env B w0 H st a w →
    (∀ env' H' a' w',AI X R W Bi n ks env' B w0 H' st' a' w'→XL r X.P ops.toArray Q rest a' w')→XL r X.P ops.toArray Q l a w
  | [],_,_,_,_,_,_,_,_,_,h,_,_,_=>by cases h
  | o :: l,rest,c,c',st,st',env,H,a,w,h,hc,hA,hK=>by
    simp only [arun] at h
    split at h
    · rename_i c2 st2 hs
      have h2:=arun_c' h hc;simp only [Bool.and_eq_true] at h2;exact zW (qh hX hs h2.2 hA fun a' w' env' H' _ hA'=>xl_upto hX h hc hA' hK)
    · cases h
      exact hK _ _ _ _ hA
theorem xl_run (hX:X.tt.ok X.P):∀ {l:List Oper} {c c':Bool} {st st':ASt} {env:Nat→Loc} {H:List Ck} {a:Act} {w:World},arun X n (zU ops) l c st=.done c' st'→c'=true→AI X R W Bi n ks env B w0 H st a w →
    (∀ env' H' a' w',AI X R W Bi n ks env' B w0 H' st' a' w'→Q .normal a' w')→XL r X.P ops.toArray Q l a w
  | [],_,_,_,_,_,_,_,_,h,_,hA,hK=>by
    cases h;exact x_end (hK _ _ _ _ hA)
  | o :: l,c,c',st,st',env,H,a,w,h,hc,hA,hK=>by
    simp only [arun] at h
    split at h
    · rename_i c2 st2 hs
      have h2:=arun_c h hc;simp only [Bool.and_eq_true] at h2;exact zW (qh hX hs h2.2 hA fun a' w' env' H' _ hA'=>xl_run hX h hc hA' hK)
    · cases h
end
def AJ (X:Cx) (B:Nat→Prop) (n:Nat) (L:Sl) (w1:World) (a:Act) (w:World):Prop:=
  ∃ env H,AI X (fun k=>k < w1.heap.size) w1 ⟨B,fun _ _=>False⟩ n [] env B w1 H ⟨L,[]⟩ a w
section
variable {X:Cx} {B:Nat→Prop} {n:Nat} {L L':Sl} {w1:World} {a:Act} {w:World} {Q:Exit→Act→World→Prop}
theorem AJ.grown (h:AJ X B n L w1 a w):w1.grownBy w none:=by
  obtain ⟨env,H,h⟩:=h;exact ⟨h.sh.below.os,h.sh.below.tape,h.sh.below.output,h.sh.below.size,fun k hk _=>h.sh.below.block k (.inl hk)⟩
theorem AJ.weak (h:AJ X B n L w1 a w) (hs:SubL L L'):AJ X B n L' w1 a w:=by
  obtain ⟨env,H,h⟩:=h;obtain ⟨H',h'⟩:=h.weak (st':=⟨L',[]⟩) hs (by constructor);exact ⟨env,H',h'⟩
theorem aj_region (hX:X.tt.ok X.P) {l:List Oper} {id:Nat} {c:Bool} (hr:arun X n (zU l) l true ⟨L,[]⟩=.done c ⟨L',[]⟩) (hc:c=true) (h:AJ X B n L w1 a w) (hK:∀ a' w',AJ X B n L' w1 a' w'→Q .normal a' w'):XC none X.P (.region id l.toArray false) Q a w:=by
  obtain ⟨env,H,h⟩:=h;exact c_region (xl_run hX hr hc h fun env' H' a' w' h'=>hK a' w' ⟨env',H',h'⟩)
theorem aj_cond {c1 c2:Code} {x:Operand} {b:Bool} (h:AJ X B n L w1 a w) (hx:ae X L x=some (true,.c (.val (.bool b)))) (h1:b=true→XC none X.P c1 Q a w) (h0:b=false→XC none X.P c2 Q a w):XC none X.P (.cond x c1 c2) Q a w:=by
  obtain ⟨env,H,h⟩:=h;obtain ⟨v,h2,h3⟩:=h.ev hx rfl;rw [show v=_ from h3] at h2;exact c_cond h.sym h2 h1 h0
theorem AJ.again (h:AJ X B n L w1 a w) {d:Nat} (hd:Nat.blt d n=true) {v:Value} {w2:World} (hK:KO B w w2):AJ X B n ((d,.c (.val v)) :: L) w2 (a.put (some d) v) w2:=by
  obtain ⟨env,H,h⟩:=h;have hS:=h.stt.put d v (zh hd);have hup:Up B w1 B w2:=⟨fun _ h=>h,fun k hk=>(hK.block k hk).trans (h.sh.below.block k (.inr hk))⟩
  refine ⟨env,[],hS.size,hS.defs,fun s sv hs=>?_,rfl,⟨KO.refl _ _,fun k hk=>hk.elim (fun h=>h) (fun hb=>Nat.lt_of_lt_of_le (h.sh.base k (.inr hb)) hK.size),(fun c hc=>by cases hc),List.Pairwise.nil⟩,fun _ h=>h,fun _ h=>.inl h,fun _ _ h=>h.elim,KO.refl _ _,fun i x hx=>(h.glob i x hx).up hup⟩;rw [zB] at hs
  split at hs
  · rename_i e; subst e; cases hs; exact ⟨v,hS.this,rfl⟩
  · rename_i e
    obtain ⟨u,h1,h2⟩:=h.has s sv hs;exact ⟨u,hS.other e h1,h2.up hup⟩
theorem evs_map {D:List Deferred} {M:List (Nat×Value)} (hS:St n D M a) {us:List Operand} {vs:List Value} (h:evs M us=some vs):us.toArray.map a.eval=vs.toArray:=by
  have:=hS.evs h
  simp [this]
theorem aj_yield (hX:X.tt.ok X.P) {l rest:List Oper} {o:Oper} {id d s la:Nat} {us:List Operand} {ts:Array TypeId} {c c2:Bool} {xs:List SA} {L2:Sl} {vs:List Value} {Rr:World→Ending→World→Prop}
    (hr:arun X n (zU l) l true ⟨L,[]⟩=.stop c ⟨L2,[]⟩ (o :: rest)) (hc:c=true) (h:AJ X B n L w1 a w)
    (hop:o.op=.call { callee:=.value (.tmp s),args:=us.toArray,argTypes:=ts }) (ho:o.guard=none∧o.dst=some d) (hs:lk L2 s=some (.c (.val (.func (.yield la) #[] #[])))) (hus:aes X L2 us=some (c2,xs)) (hc2:c2=true) (hv:∀ env' vs',SasR env' B w1 xs vs'→vs'=vs)
    (hY:∀ w',w1.grownBy w' none→YieldAt Fence.wide 0 X.P la vs.toArray w' (Rr w')) (hR:∀ w e w',Rr w e w'→∃ v,e=.returned v)
    (hK:∀ a' w' v w2,AJ X B n L2 w1 a' w'→Rr w' (.returned v) w2→XL none X.P l.toArray Q rest (a'.put (some d) v) w2):XC none X.P (.region id l.toArray false) Q a w:=by
  obtain ⟨env,H,h⟩:=h;refine c_region (xl_upto hX hr hc h fun env' H' a' w' h'=>?_);have hJ:AJ X B n L2 w1 a' w':=⟨env',H',h'⟩
  obtain ⟨vs',h1,h2⟩:=aes_ok h' hus hc2
  have:=hv _ _ h2
  subst this;obtain ⟨fv,h3,h4⟩:=h'.has _ _ hs;rw [show fv=_ from h4] at h3;obtain ⟨fn,tmps,assign,body,hy,hRound⟩:=hY w' hJ.grown;have hw:Region.wanted o (yielded l.toArray a'.tmps)=true:=by simp [Region.wanted,ho.1]
  show (if Region.wanted o (yielded l.toArray a'.tmps) then _ else _);rw [if_pos hw];refine ⟨fun _ _=>trivial,?_⟩;have hrun:(execOp a'.eval o).run X.P w'=.ok (.round la fn tmps assign body) w':=by
    have e1:=h'.stt.ev (x:=.tmp s) (zo h3);have e2:(us.toArray.map a'.eval)=vs'.toArray:=evs_map h'.stt h1;simp only [execOp,hop,resolve,e1]
    simp [Deferred.ofValue,invoke,e2,hy,go_sem]
  show Oper.uponIn _ _ _ _ _ _ _ ((o.semAt none a'.eval).run X.P w');rw [Oper.semAt_none,hrun];refine ⟨(fun h=>by cases h),RoundIn.mono hRound ?_⟩;intro e w2 hq;obtain ⟨v,rfl⟩:=hR w' e w2 hq
  have:=hK a' w' v w2 hJ hq
  rw [ho.2];exact this
end
theorem it_body {X:Cx} {n:Nat} {gf:FuncId} {fn:Func} {c:Code} {caps:List Cap} {B:Nat→Prop} {w W:World} {lb:List Value} {l:Nat} {Rr:Ending→World→Prop} (hf:X.P.funcs[gf]?=some fn) (hb:fn.body=some c) (hN:fn.ntmps=n) (hl:Nat.ble (ptrAs caps).length (n - 1)=true) (hn:Nat.blt 0 n=true)
    (hB:∀ k,B k→k < w.heap.size) (hg:GlobOk X B w) (hlb:ptrs (fun _=>.no) B w caps lb) (hW:Below w.heap.size w W)
    (h:∀ a,AJ X B n (argL 0 (.c (.val (.func (.yield l) #[] #[])) :: ptrAs caps)) W a W→XC none X.P c (bodyPost X.P fn Rr) a W):CallsIn Fence.wide 1 X.P gf (#[.func (.yield l) #[] #[]]++lb.toArray) W Rr:=by
  have hup:Up B w B W:=⟨fun _ h=>h,fun k hk=>hW.block k (hB k hk)⟩
  have ha:SasR (fun _=>.no) B W (.c (.val (.func (.yield l) #[] #[])) :: ptrAs caps) (.func (.yield l) #[] #[] :: lb):=⟨_,_,rfl,rfl,(ptrs_sas hlb).up hup⟩
  have hlen:=ha.length;have hle:(Value.func (.yield l) #[] #[] :: lb).length≤n:=by
    rw [hlen,List.length_cons];have h1:=Nat.le_of_ble_eq_true hl;have h2:=zh hn;omega
  have hS:=st_start (fn:=fn) hN hle _ rfl (vs:=.func (.yield l) #[] #[] :: lb);have e:#[Value.func (.yield l) #[] #[]]++lb.toArray=(Value.func (.yield l) #[] #[] :: lb).toArray:=by simp
  rw [e];refine callsIn_of_wp hf hb trivial ((wide_n _ 0 1 _ _ _).1 (h _ ⟨fun _=>.no,[],hS.size,rfl,fun s sv hs=>?_,rfl,⟨KO.refl _ _,fun k hk=>hk.elim (fun h=>h) (fun hb=>Nat.lt_of_lt_of_le (hB k hb) hW.size),(fun c hc=>by cases hc),List.Pairwise.nil⟩,fun _ h=>h,fun _ h=>.inl h,fun _ _ h=>h.elim,KO.refl _ _,fun i x hx=>(hg i x hx).up hup⟩));obtain ⟨_,v,h1,h2⟩:=argL_ok ha hs;rw [Nat.sub_zero] at h1;refine ⟨v,?_,h2⟩;have hlt:s < (Value.func (.yield l) #[] #[] :: lb).length:=(List.getElem?_eq_some_iff.1 h1).1;show ((Value.func (.yield l) #[] #[] :: lb).toArray++_)[s]?=some v;rw [Array.getElem?_append_left (by simpa using hlt)]
  simpa using h1
end Go.Proofs.YteglgnkcpaagjaaDoor

/- Slices that are nil, in cells. -/
namespace Go.Proofs.YteglgnkcpaagjaaDoor
open Go.RowKit
def nilCs (id:Nat):Nat→List SC→List SC
  | 0,.val (.slice none 0 0) :: r=>.sl id :: r
  | p+1,c :: r=>c :: nilCs id p r
  | _,cs=>cs
def nilH (k p id:Nat):Hp→Hp
  | []=>[]
  | (j,.cells t cs) :: r=>match Nat.beq j k with
    | true=>(j,.cells t (nilCs id p cs)) :: r
    | false=>(j,.cells t cs) :: nilH k p id r
  | b :: r=>b :: nilH k p id r
section
variable {env:Nat→Loc} {B:Nat→Prop} {w:World} {id:Nat} (he:env id=.row none 0 0)
include he
theorem CsR.nilCs:∀ {p:Nat} {cs:List SC} {vs:List Value},CsR env B w cs vs→CsR env B w (nilCs id p cs) vs:=by
  intro p
  induction p with
  | zero=>
    intro cs vs h;unfold Go.Proofs.YteglgnkcpaagjaaDoor.nilCs
    split
    · obtain ⟨v,r,e,h1,h2⟩:=h
      exact ⟨v,r,e,⟨none,0,0,he,h1⟩,h2⟩
    · omega
    · exact h
  | succ p ih=>
    intro cs vs h;cases cs with
    | nil=>exact h
    | cons c r=>
      obtain ⟨v,q,e,h1,h2⟩:=h;exact ⟨v,q,e,h1,ih h2⟩
theorem HR.nilH {k p:Nat}:∀ {l:Hp} {H:List Ck},HR env B w l H→HR env B w (nilH k p id l) H
  | [],_,h=>h
  | (j,.cells t cs) :: r,_,⟨c,H',e,h1,h2⟩=>by
    unfold Go.Proofs.YteglgnkcpaagjaaDoor.nilH
    split
    · obtain ⟨b,vs,h3,h4,h5⟩:=h1
      exact ⟨c,H',e,⟨b,vs,h3,h4,CsR.nilCs he h5⟩,h2⟩
    · exact ⟨c,H',e,h1,HR.nilH h2⟩
  | (j,.row _ _ _ _) :: r,_,⟨c,H',e,h1,h2⟩=>⟨c,H',e,h1,HR.nilH h2⟩
  | (j,.sit _ _) :: r,_,⟨c,H',e,h1,h2⟩=>⟨c,H',e,h1,HR.nilH h2⟩
  | (j,.mp _ _ _ _) :: r,_,⟨c,H',e,h1,h2⟩=>⟨c,H',e,h1,HR.nilH h2⟩
  | (j,.it _ _ _ _) :: r,_,⟨c,H',e,h1,h2⟩=>⟨c,H',e,h1,HR.nilH h2⟩
  | (j,.junk) :: r,_,⟨c,H',e,h1,h2⟩=>⟨c,H',e,h1,HR.nilH h2⟩
  | (j,.hrow _ _ _ _ _ _) :: r,_,⟨c,H',e,h1,h2⟩=>⟨c,H',e,h1,HR.nilH h2⟩
  | (j,.rjunk) :: r,_,⟨c,H',e,h1,h2⟩=>⟨c,H',e,h1,HR.nilH h2⟩
  | (j,.lrow _ _ _) :: r,_,⟨c,H',e,h1,h2⟩=>⟨c,H',e,h1,HR.nilH h2⟩
end
theorem Wk.nilC {X:Cx} {n:Nat} {st:ASt} (k p id:Nat) (t:TypeId) (g:GTy) (hid:Nat.blt id n=true):Wk X n st ⟨subL id .dead st.L,(id,.row t g [] none) :: nilH k p id (delH id .dead st.H)⟩:=fun R W Bi M a w ⟨ks,env,B,w0,H,hM,h⟩=>by
  obtain ⟨H2,h1,h2⟩:=h.heap.del (z:=.dead) (zM (env:=env) (id:=id) (l:=.row none 0 0)) (fun _ _=>trivial);refine ⟨ks,upd env id (.row none 0 0),B,w0,.row none 0 t g.size 0 [] :: H2,hM,h.size,h.defs,fun q u hu=>?_,⟨_,H2,rfl,⟨none,0,[],zC,rfl,rfl,fun _ hq=>by cases hq⟩,HR.nilH zC h2⟩,(h.sh.nilRow t g.size).weak ((h1.append_right _).cons_cons _),h.sub,h.new,pin_upd h.pin (fun q hp=>by have h1:=(h.pin _ _ hp).1; have h2:=zh hid; omega),h.base,h.glob⟩;obtain ⟨u0,hu0,rfl⟩:=lk_subL hu;obtain ⟨u',h6,h7⟩:=h.has q u0 hu0;exact ⟨u',h6,VR.sub (z:=.dead) zM (fun _ _=>trivial) h7⟩
end Go.Proofs.YteglgnkcpaagjaaDoor

/- Contracts of plain data, out of others; tables. -/
namespace Go.Proofs.YteglgnkcpaagjaaDoor
open Go.RowKit
theorem AC.ofRet {X:Cx} {f:FuncId} {args:List SA} {sv:SV} {v0:Value} (hV:∀ env B w,VR env B w sv v0)
    (hR:∀ (env:Nat→Loc) (B:Nat→Prop) (w0:World) (vs:List Value) (W:World),GlobOk X B W→SasR env B W args vs→(∀ k,B k→k < W.heap.size)→Ret X.P f vs.toArray W (fun v w'=>v=v0∧Below W.heap.size W w')):AC X f args [] (fun s h=>s=sv∧h=[]):=by
  intro B w0 env vs H W hg ha hh hs;have e:H=[]:=hh;subst e;have hup:Up B w0 B W:=⟨fun _ h=>h,hs.below.block⟩
  refine (hR env B w0 vs W (fun i x hx=>(hg i x hx).up hup) (ha.up hup) hs.base).mono ?_;rintro v w' ⟨rfl,hb⟩;refine ⟨env,B,W,[],sv,[],⟨rfl,rfl⟩,fun _ h=>h,fun _ h=>.inl h,KO.refl _ _,hV _ _ _,rfl,⟨⟨hb.os,hb.tape,hb.output,hb.size,fun k hk=>hb.block k (hk.elim (fun h=>h.1) (hs.base k))⟩,fun k hk=>Nat.lt_of_lt_of_le (hk.elim (fun h=>h.1) (hs.base k)) hb.size,(fun _ h=>by cases h),List.Pairwise.nil⟩,fun _ _ _ h=>h⟩
theorem AC.weakV {X:Cx} {f:FuncId} {args:List SA} {h0:Hp} {sv sv':SV} (hV:∀ env B w v,VR env B w sv v→VR env B w sv' v) (h:AC X f args h0 (fun s h=>s=sv∧h=[])):AC X f args h0 (fun s h=>s=sv'∧h=[]):=by
  intro B w0 env vs H W hg ha hh hs;refine (h B w0 env vs H W hg ha hh hs).mono ?_;rintro v w' ⟨env',B',w0',H',s,h',⟨rfl,rfl⟩,h1,h2,h3,h4,h5,h6,h7⟩;exact ⟨env',B',w0',H',sv',[],⟨rfl,rfl⟩,h1,h2,h3,hV _ _ _ _ h4,h5,h6,h7⟩
theorem nil_lst {env:Nat→Loc} {B:Nat→Prop} {w:World} {g:GTy} {v:Value} (h:SaR env B w (.c (.val (.slice none 0 0))) v):SaR env B w (.c (.lst g [] (some 0))) v:=by
  have e:v=_:=h;subst e;exact ⟨none,0,[],rfl,Nat.le_refl _,Nat.zero_le _,fun _ h=>by cases h; rfl,rfl,Reads.nil _ _ _,fun _ _ h=>absurd h (Nat.lt_irrefl 0)⟩
theorem flat_ints {B:Nat→Prop} {w:World} {k:IntKind}:∀ {l:List Int} {vs:List Value},Flat (FR B w (.int k)) l vs→vs=l.map fun z=>Value.int k z
  | [],_,h=>h
  | x :: l,_,⟨v1,v2,e,h1,h2⟩=>by rw [e,show v1=_ from h1,flat_ints h2]; rfl
theorem flat_strs {B:Nat→Prop} {w:World}:∀ {l:List (List UInt8)} {vs:List Value},Flat (FR B w .str) l vs→vs=l.map qo
  | [],_,h=>h
  | x :: l,_,⟨v1,v2,e,h1,h2⟩=>by rw [e,show v1=_ from h1,flat_strs h2]; rfl
theorem GR.tab {P:Program} {B:Nat→Prop} {w:World} {i:Nat} {k:IntKind} {zs:List Int} (h:GR B w i ⟨.int k,zs⟩) {name:String} (hn:P.globalNamed name=some i):Lib.TabIs P w name k zs:=by
  obtain ⟨⟨b,o,vs,e,hb,hf,hc⟩,cs,t,fr,h1,h2⟩:=h;cases e;have hvs:=flat_ints hf;unfold Lib.TabIs World.var?;rw [hn];simp only [Option.bind_some,h1,Option.some.injEq];have hl:cs.size=vs.length:=by rw [h2,hvs]; simp [GTy.size]
  rw [← hvs]
  apply Array.ext (by simpa using hl)
  intro j hj1 hj2;have hj:j < vs.length:=by simpa using hj2
  have:=hc j vs[j] (List.getElem?_eq_getElem hj)
  simp only [Nat.zero_add,World.cell?,h1] at this;rw [Array.getElem?_eq_getElem hj1] at this
  simpa using this
end Go.Proofs.YteglgnkcpaagjaaDoor

/- The table of types of the translation. -/
namespace Go.Proofs.YteglgnkcpaagjaaDoor
def ti1:TI:={ desc:=TypeDesc.func #[] #[] false,size:=1,bytes:=8,zero:=Value.nilFunc }
theorem ti1_ok:TI.ok Tryd.prog 1 ti1:=⟨Tryd.underlying1,by kernel_rfl⟩
def ti2:TI:={ desc:=TypeDesc.int IntKind.i64,size:=1,bytes:=8,zero:=Value.int IntKind.i64 0 }
theorem ti2_ok:TI.ok Tryd.prog 2 ti2:=⟨Tryd.underlying2,by kernel_rfl⟩
def ti3:TI:={ desc:=TypeDesc.int IntKind.i64,size:=1,bytes:=8,zero:=Value.int IntKind.i64 0 }
theorem ti3_ok:TI.ok Tryd.prog 3 ti3:=⟨Tryd.underlying3,by kernel_rfl⟩
def ti4:TI:={ desc:=TypeDesc.bool,size:=1,bytes:=1,zero:=Value.bool false }
theorem ti4_ok:TI.ok Tryd.prog 4 ti4:=⟨Tryd.underlying4,by kernel_rfl⟩
def ti5:TI:={ desc:=TypeDesc.int IntKind.u8,size:=1,bytes:=1,zero:=Value.int IntKind.u8 0 }
theorem ti5_ok:TI.ok Tryd.prog 5 ti5:=⟨Tryd.underlying5,by kernel_rfl⟩
def ti6:TI:={ desc:=TypeDesc.int IntKind.u8,size:=1,bytes:=1,zero:=Value.int IntKind.u8 0 }
theorem ti6_ok:TI.ok Tryd.prog 6 ti6:=⟨Tryd.underlying6,by kernel_rfl⟩
def ti9:TI:={ desc:=TypeDesc.string,size:=1,bytes:=16,zero:=Value.string { data:=#[] } }
theorem ti9_ok:TI.ok Tryd.prog 9 ti9:=⟨Tryd.underlying9,by kernel_rfl⟩
def ti10:TI:={ desc:=TypeDesc.string,size:=1,bytes:=16,zero:=Value.string { data:=#[] } }
theorem ti10_ok:TI.ok Tryd.prog 10 ti10:=⟨Tryd.underlying10,by kernel_rfl⟩
def ti11:TI:={ desc:=TypeDesc.string,size:=1,bytes:=16,zero:=Value.string { data:=#[] } }
theorem ti11_ok:TI.ok Tryd.prog 11 ti11:=⟨Tryd.underlying11,by kernel_rfl⟩
def ti12:TI:={ desc:=TypeDesc.int IntKind.u64,size:=1,bytes:=8,zero:=Value.int IntKind.u64 0 }
theorem ti12_ok:TI.ok Tryd.prog 12 ti12:=⟨Tryd.underlying12,by kernel_rfl⟩
def ti15:TI:={ desc:=TypeDesc.pointer 109,size:=1,bytes:=8,zero:=Value.pointer none }
theorem ti15_ok:TI.ok Tryd.prog 15 ti15:=⟨Tryd.underlying15,by kernel_rfl⟩
def ti16:TI:={ desc:=TypeDesc.pointer 112,size:=1,bytes:=8,zero:=Value.pointer none }
theorem ti16_ok:TI.ok Tryd.prog 16 ti16:=⟨Tryd.underlying16,by kernel_rfl⟩
def ti17:TI:={ desc:=TypeDesc.pointer 120,size:=1,bytes:=8,zero:=Value.pointer none }
theorem ti17_ok:TI.ok Tryd.prog 17 ti17:=⟨Tryd.underlying17,by kernel_rfl⟩
def ti20:TI:={ desc:=TypeDesc.interface #[],size:=1,bytes:=16,zero:=Value.nilIface }
theorem ti20_ok:TI.ok Tryd.prog 20 ti20:=⟨Tryd.underlying20,by kernel_rfl⟩
def ti21:TI:={ desc:=TypeDesc.int IntKind.i32,size:=1,bytes:=4,zero:=Value.int IntKind.i32 0 }
theorem ti21_ok:TI.ok Tryd.prog 21 ti21:=⟨Tryd.underlying21,by kernel_rfl⟩
def ti22:TI:={ desc:=TypeDesc.array 4 5,size:=4,bytes:=4,zero:=Value.agg #[Value.int IntKind.u8 0,Value.int IntKind.u8 0,Value.int IntKind.u8 0,Value.int IntKind.u8 0] }
theorem ti22_ok:TI.ok Tryd.prog 22 ti22:=⟨Tryd.underlying22,by kernel_rfl⟩
def ti23:TI:={ desc:=TypeDesc.slice 47,size:=1,bytes:=24,zero:=Value.slice none 0 0 }
theorem ti23_ok:TI.ok Tryd.prog 23 ti23:=⟨Tryd.underlying23,by kernel_rfl⟩
def ti24:TI:={ desc:=TypeDesc.int IntKind.i64,size:=1,bytes:=8,zero:=Value.int IntKind.i64 0 }
theorem ti24_ok:TI.ok Tryd.prog 24 ti24:=⟨Tryd.underlying24,by kernel_rfl⟩
def ti26:TI:={ desc:=TypeDesc.func #[27,27] #[23,24] false,size:=1,bytes:=8,zero:=Value.nilFunc }
theorem ti26_ok:TI.ok Tryd.prog 26 ti26:=⟨Tryd.underlying26,by kernel_rfl⟩
def ti27:TI:={ desc:=TypeDesc.slice 3,size:=1,bytes:=24,zero:=Value.slice none 0 0 }
theorem ti27_ok:TI.ok Tryd.prog 27 ti27:=⟨Tryd.underlying27,by kernel_rfl⟩
def ti28:TI:={ desc:=TypeDesc.func #[3,3,3,3] #[3] false,size:=1,bytes:=8,zero:=Value.nilFunc }
theorem ti28_ok:TI.ok Tryd.prog 28 ti28:=⟨Tryd.underlying28,by kernel_rfl⟩
def ti29:TI:={ desc:=TypeDesc.func #[] #[4] false,size:=1,bytes:=8,zero:=Value.nilFunc }
theorem ti29_ok:TI.ok Tryd.prog 29 ti29:=⟨Tryd.underlying29,by kernel_rfl⟩
def ti30:TI:={ desc:=TypeDesc.func #[22,4] #[4] false,size:=1,bytes:=8,zero:=Value.nilFunc }
theorem ti30_ok:TI.ok Tryd.prog 30 ti30:=⟨Tryd.underlying30,by kernel_rfl⟩
def ti31:TI:={ desc:=TypeDesc.func #[27] #[24] false,size:=1,bytes:=8,zero:=Value.nilFunc }
theorem ti31_ok:TI.ok Tryd.prog 31 ti31:=⟨Tryd.underlying31,by kernel_rfl⟩
def ti32 : TI := { desc := TypeDesc.struct #[{ name := "ops", type := 23, offset := 0, embedded := false, tag := "", pkgPath := "gansey/shifts", byteOffset := 0 }, { name := "rack", type := 3, offset := 1, embedded := false, tag := "", pkgPath := "gansey/shifts", byteOffset := 24 }], size := 2, bytes := 32, zero := Value.agg #[Value.slice none 0 0, Value.int IntKind.i64 0] }
theorem ti32_ok:TI.ok Tryd.prog 32 ti32:=⟨Tryd.underlying32,by kernel_rfl⟩
def ti33 : TI := { desc := TypeDesc.struct #[{ name := "ops", type := 23, offset := 0, embedded := false, tag := "", pkgPath := "gansey/shifts", byteOffset := 0 }, { name := "rack", type := 3, offset := 1, embedded := false, tag := "", pkgPath := "gansey/shifts", byteOffset := 24 }], size := 2, bytes := 32, zero := Value.agg #[Value.slice none 0 0, Value.int IntKind.i64 0] }
theorem ti33_ok:TI.ok Tryd.prog 33 ti33:=⟨Tryd.underlying33,by kernel_rfl⟩
def ti34:TI:={ desc:=TypeDesc.func #[27,3] #[] false,size:=1,bytes:=8,zero:=Value.nilFunc }
theorem ti34_ok:TI.ok Tryd.prog 34 ti34:=⟨Tryd.underlying34,by kernel_rfl⟩
def ti35:TI:={ desc:=TypeDesc.func #[3] #[3] false,size:=1,bytes:=8,zero:=Value.nilFunc }
theorem ti35_ok:TI.ok Tryd.prog 35 ti35:=⟨Tryd.underlying35,by kernel_rfl⟩
def ti36:TI:={ desc:=TypeDesc.func #[62] #[] false,size:=1,bytes:=8,zero:=Value.nilFunc }
theorem ti36_ok:TI.ok Tryd.prog 36 ti36:=⟨Tryd.underlying36,by kernel_rfl⟩
def ti37:TI:={ desc:=TypeDesc.func #[62] #[] false,size:=1,bytes:=8,zero:=Value.nilFunc }
theorem ti37_ok:TI.ok Tryd.prog 37 ti37:=⟨Tryd.underlying37,by kernel_rfl⟩
def ti38:TI:={ desc:=TypeDesc.func #[27] #[37] false,size:=1,bytes:=8,zero:=Value.nilFunc }
theorem ti38_ok:TI.ok Tryd.prog 38 ti38:=⟨Tryd.underlying38,by kernel_rfl⟩
def ti39:TI:={ desc:=TypeDesc.func #[3] #[] false,size:=1,bytes:=8,zero:=Value.nilFunc }
theorem ti39_ok:TI.ok Tryd.prog 39 ti39:=⟨Tryd.underlying39,by kernel_rfl⟩
def ti40:TI:={ desc:=TypeDesc.func #[23] #[23] false,size:=1,bytes:=8,zero:=Value.nilFunc }
theorem ti40_ok:TI.ok Tryd.prog 40 ti40:=⟨Tryd.underlying40,by kernel_rfl⟩
def ti41:TI:={ desc:=TypeDesc.int IntKind.u8,size:=1,bytes:=1,zero:=Value.int IntKind.u8 0 }
theorem ti41_ok:TI.ok Tryd.prog 41 ti41:=⟨Tryd.underlying41,by kernel_rfl⟩
def ti42:TI:={ desc:=TypeDesc.int IntKind.u8,size:=1,bytes:=1,zero:=Value.int IntKind.u8 0 }
theorem ti42_ok:TI.ok Tryd.prog 42 ti42:=⟨Tryd.underlying42,by kernel_rfl⟩
def ti43:TI:={ desc:=TypeDesc.int IntKind.u8,size:=1,bytes:=1,zero:=Value.int IntKind.u8 0 }
theorem ti43_ok:TI.ok Tryd.prog 43 ti43:=⟨Tryd.underlying43,by kernel_rfl⟩
def ti44 : TI := { desc := TypeDesc.struct #[{ name := "Bed", type := 43, offset := 0, embedded := false, tag := "", pkgPath := "", byteOffset := 0 }, { name := "At", type := 3, offset := 1, embedded := false, tag := "", pkgPath := "", byteOffset := 8 }], size := 2, bytes := 16, zero := Value.agg #[Value.int IntKind.u8 0, Value.int IntKind.i64 0] }
theorem ti44_ok:TI.ok Tryd.prog 44 ti44:=⟨Tryd.underlying44,by kernel_rfl⟩
def ti45 : TI := { desc := TypeDesc.struct #[{ name := "Bed", type := 43, offset := 0, embedded := false, tag := "", pkgPath := "", byteOffset := 0 }, { name := "At", type := 3, offset := 1, embedded := false, tag := "", pkgPath := "", byteOffset := 8 }], size := 2, bytes := 16, zero := Value.agg #[Value.int IntKind.u8 0, Value.int IntKind.i64 0] }
theorem ti45_ok:TI.ok Tryd.prog 45 ti45:=⟨Tryd.underlying45,by kernel_rfl⟩
def ti46 : TI := { desc := TypeDesc.struct #[{ name := "Kind", type := 41, offset := 0, embedded := false, tag := "", pkgPath := "", byteOffset := 0 }, { name := "Dir", type := 42, offset := 1, embedded := false, tag := "", pkgPath := "", byteOffset := 1 }, { name := "Needle", type := 45, offset := 2, embedded := false, tag := "", pkgPath := "", byteOffset := 8 }, { name := "Yarn", type := 5, offset := 4, embedded := false, tag := "", pkgPath := "", byteOffset := 24 }, { name := "Rack", type := 3, offset := 5, embedded := false, tag := "", pkgPath := "", byteOffset := 32 }], size := 6, bytes := 40, zero := Value.agg #[Value.int IntKind.u8 0, Value.int IntKind.u8 0, Value.int IntKind.u8 0, Value.int IntKind.i64 0, Value.int IntKind.u8 0, Value.int IntKind.i64 0] }
theorem ti46_ok:TI.ok Tryd.prog 46 ti46:=⟨Tryd.underlying46,by kernel_rfl⟩
def ti47 : TI := { desc := TypeDesc.struct #[{ name := "Kind", type := 41, offset := 0, embedded := false, tag := "", pkgPath := "", byteOffset := 0 }, { name := "Dir", type := 42, offset := 1, embedded := false, tag := "", pkgPath := "", byteOffset := 1 }, { name := "Needle", type := 45, offset := 2, embedded := false, tag := "", pkgPath := "", byteOffset := 8 }, { name := "Yarn", type := 5, offset := 4, embedded := false, tag := "", pkgPath := "", byteOffset := 24 }, { name := "Rack", type := 3, offset := 5, embedded := false, tag := "", pkgPath := "", byteOffset := 32 }], size := 6, bytes := 40, zero := Value.agg #[Value.int IntKind.u8 0, Value.int IntKind.u8 0, Value.int IntKind.u8 0, Value.int IntKind.i64 0, Value.int IntKind.u8 0, Value.int IntKind.i64 0] }
theorem ti47_ok:TI.ok Tryd.prog 47 ti47:=⟨Tryd.underlying47,by kernel_rfl⟩
def ti48:TI:={ desc:=TypeDesc.array 64 4,size:=64,bytes:=64,zero:=Value.agg #[Value.bool false,Value.bool false,Value.bool false,Value.bool false,Value.bool false,Value.bool false,Value.bool false,Value.bool false,Value.bool false,Value.bool false,Value.bool false,Value.bool false,Value.bool false,Value.bool false,Value.bool false,Value.bool false,Value.bool false,Value.bool false,Value.bool false,Value.bool false,Value.bool false,Value.bool false,Value.bool false,Value.bool false,Value.bool false,Value.bool false,Value.bool false,Value.bool false,Value.bool false,Value.bool false,Value.bool false,Value.bool false,Value.bool false,Value.bool false,Value.bool false,Value.bool false,Value.bool false,Value.bool false,Value.bool false,Value.bool false,Value.bool false,Value.bool false,Value.bool false,Value.bool false,Value.bool false,Value.bool false,Value.bool false,Value.bool false,Value.bool false,Value.bool false,Value.bool false,Value.bool false,Value.bool false,Value.bool false,Value.bool false,Value.bool false,Value.bool false,Value.bool false,Value.bool false,Value.bool false,Value.bool false,Value.bool false,Value.bool false,Value.bool false] }
theorem ti48_ok:TI.ok Tryd.prog 48 ti48:=⟨Tryd.underlying48,by kernel_rfl⟩
def ti49:TI:={ desc:=TypeDesc.array 64 48,size:=4096,bytes:=4096,zero:=Value.agg (List.replicate 4096 (Value.bool false)).toArray }
theorem ti49_ok:TI.ok Tryd.prog 49 ti49:=⟨Tryd.underlying49,by kernel_rfl⟩
noncomputable def ti50:TI:={ desc:=TypeDesc.array 9 49,size:=36864,bytes:=36864,zero:=(Tryd.t50.zero).getD default }
theorem ti50_ok:TI.ok Tryd.prog 50 ti50:=⟨Tryd.underlying50,by kernel_rfl⟩
def ti51:TI:={ desc:=TypeDesc.array 3 3,size:=3,bytes:=24,zero:=Value.agg #[Value.int IntKind.i64 0,Value.int IntKind.i64 0,Value.int IntKind.i64 0] }
theorem ti51_ok:TI.ok Tryd.prog 51 ti51:=⟨Tryd.underlying51,by kernel_rfl⟩
def ti52:TI:={ desc:=TypeDesc.slice 51,size:=1,bytes:=24,zero:=Value.slice none 0 0 }
theorem ti52_ok:TI.ok Tryd.prog 52 ti52:=⟨Tryd.underlying52,by kernel_rfl⟩
def ti54:TI:={ desc:=TypeDesc.slice 27,size:=1,bytes:=24,zero:=Value.slice none 0 0 }
theorem ti54_ok:TI.ok Tryd.prog 54 ti54:=⟨Tryd.underlying54,by kernel_rfl⟩
def ti55:TI:={ desc:=TypeDesc.slice 9,size:=1,bytes:=24,zero:=Value.slice none 0 0 }
theorem ti55_ok:TI.ok Tryd.prog 55 ti55:=⟨Tryd.underlying55,by kernel_rfl⟩
def ti58:TI:={ desc:=TypeDesc.slice 45,size:=1,bytes:=24,zero:=Value.slice none 0 0 }
theorem ti58_ok:TI.ok Tryd.prog 58 ti58:=⟨Tryd.underlying58,by kernel_rfl⟩
def ti59:TI:={ desc:=TypeDesc.pointer 33,size:=1,bytes:=8,zero:=Value.pointer none }
theorem ti59_ok:TI.ok Tryd.prog 59 ti59:=⟨Tryd.underlying59,by kernel_rfl⟩
def ti62:TI:={ desc:=TypeDesc.func #[3,3] #[4] false,size:=1,bytes:=8,zero:=Value.nilFunc }
theorem ti62_ok:TI.ok Tryd.prog 62 ti62:=⟨Tryd.underlying62,by kernel_rfl⟩
def ti64:TI:={ desc:=TypeDesc.func #[47] #[9] false,size:=1,bytes:=8,zero:=Value.nilFunc }
theorem ti64_ok:TI.ok Tryd.prog 64 ti64:=⟨Tryd.underlying64,by kernel_rfl⟩
def ti67:TI:={ desc:=TypeDesc.array 9 9,size:=9,bytes:=144,zero:=Value.agg #[Value.string { data:=#[] },Value.string { data:=#[] },Value.string { data:=#[] },Value.string { data:=#[] },Value.string { data:=#[] },Value.string { data:=#[] },Value.string { data:=#[] },Value.string { data:=#[] },Value.string { data:=#[] }] }
theorem ti67_ok:TI.ok Tryd.prog 67 ti67:=⟨Tryd.underlying67,by kernel_rfl⟩
def ti68:TI:={ desc:=TypeDesc.array 2 9,size:=2,bytes:=32,zero:=Value.agg #[Value.string { data:=#[] },Value.string { data:=#[] }] }
theorem ti68_ok:TI.ok Tryd.prog 68 ti68:=⟨Tryd.underlying68,by kernel_rfl⟩
def ti69:TI:={ desc:=TypeDesc.func #[45] #[9] false,size:=1,bytes:=8,zero:=Value.nilFunc }
theorem ti69_ok:TI.ok Tryd.prog 69 ti69:=⟨Tryd.underlying69,by kernel_rfl⟩
def ti73:TI:={ desc:=TypeDesc.pointer 76,size:=1,bytes:=8,zero:=Value.pointer none }
theorem ti73_ok:TI.ok Tryd.prog 73 ti73:=⟨Tryd.underlying73,by kernel_rfl⟩
def ti74:TI:={ desc:=TypeDesc.slice 5,size:=1,bytes:=24,zero:=Value.slice none 0 0 }
theorem ti74_ok:TI.ok Tryd.prog 74 ti74:=⟨Tryd.underlying74,by kernel_rfl⟩
def ti75 : TI := { desc := TypeDesc.struct #[{ name := "addr", type := 73, offset := 0, embedded := false, tag := "", pkgPath := "strings", byteOffset := 0 }, { name := "buf", type := 74, offset := 1, embedded := false, tag := "", pkgPath := "strings", byteOffset := 8 }], size := 2, bytes := 32, zero := Value.agg #[Value.pointer none, Value.slice none 0 0] }
theorem ti75_ok:TI.ok Tryd.prog 75 ti75:=⟨Tryd.underlying75,by kernel_rfl⟩
def ti76 : TI := { desc := TypeDesc.struct #[{ name := "addr", type := 73, offset := 0, embedded := false, tag := "", pkgPath := "strings", byteOffset := 0 }, { name := "buf", type := 74, offset := 1, embedded := false, tag := "", pkgPath := "strings", byteOffset := 8 }], size := 2, bytes := 32, zero := Value.agg #[Value.pointer none, Value.slice none 0 0] }
theorem ti76_ok:TI.ok Tryd.prog 76 ti76:=⟨Tryd.underlying76,by kernel_rfl⟩
def ti78 : TI := { desc := TypeDesc.interface #[("Error", 81)], size := 1, bytes := 16, zero := Value.nilIface }
theorem ti78_ok:TI.ok Tryd.prog 78 ti78:=⟨Tryd.underlying78,by kernel_rfl⟩
def ti83 : TI := { desc := TypeDesc.struct #[{ name := "dir", type := 4, offset := 0, embedded := false, tag := "", pkgPath := "gansey/operations", byteOffset := 0 }, { name := "needle", type := 4, offset := 1, embedded := false, tag := "", pkgPath := "gansey/operations", byteOffset := 1 }, { name := "yarn", type := 4, offset := 2, embedded := false, tag := "", pkgPath := "gansey/operations", byteOffset := 2 }, { name := "rack", type := 4, offset := 3, embedded := false, tag := "", pkgPath := "gansey/operations", byteOffset := 3 }], size := 4, bytes := 4, zero := Value.agg #[Value.bool false, Value.bool false, Value.bool false, Value.bool false] }
theorem ti83_ok:TI.ok Tryd.prog 83 ti83:=⟨Tryd.underlying83,by kernel_rfl⟩
def ti85:TI:={ desc:=TypeDesc.map 41 83,size:=1,bytes:=8,zero:=Value.map none }
theorem ti85_ok:TI.ok Tryd.prog 85 ti85:=⟨Tryd.underlying85,by kernel_rfl⟩
def ti88:TI:={ desc:=TypeDesc.pointer 5,size:=1,bytes:=8,zero:=Value.pointer none }
theorem ti88_ok:TI.ok Tryd.prog 88 ti88:=⟨Tryd.underlying88,by kernel_rfl⟩
def ti89:TI:={ desc:=TypeDesc.array 24 5,size:=24,bytes:=24,zero:=Value.agg #[Value.int IntKind.u8 0,Value.int IntKind.u8 0,Value.int IntKind.u8 0,Value.int IntKind.u8 0,Value.int IntKind.u8 0,Value.int IntKind.u8 0,Value.int IntKind.u8 0,Value.int IntKind.u8 0,Value.int IntKind.u8 0,Value.int IntKind.u8 0,Value.int IntKind.u8 0,Value.int IntKind.u8 0,Value.int IntKind.u8 0,Value.int IntKind.u8 0,Value.int IntKind.u8 0,Value.int IntKind.u8 0,Value.int IntKind.u8 0,Value.int IntKind.u8 0,Value.int IntKind.u8 0,Value.int IntKind.u8 0,Value.int IntKind.u8 0,Value.int IntKind.u8 0,Value.int IntKind.u8 0,Value.int IntKind.u8 0] }
theorem ti89_ok:TI.ok Tryd.prog 89 ti89:=⟨Tryd.underlying89,by kernel_rfl⟩
def ti90:TI:={ desc:=TypeDesc.int IntKind.u64,size:=1,bytes:=8,zero:=Value.int IntKind.u64 0 }
theorem ti90_ok:TI.ok Tryd.prog 90 ti90:=⟨Tryd.underlying90,by kernel_rfl⟩
def ti95:TI:={ desc:=TypeDesc.unsafePointer,size:=1,bytes:=8,zero:=Value.pointer none }
theorem ti95_ok:TI.ok Tryd.prog 95 ti95:=⟨Tryd.underlying95,by kernel_rfl⟩
def ti99:TI:={ desc:=TypeDesc.array 20 90,size:=20,bytes:=160,zero:=Value.agg #[Value.int IntKind.u64 0,Value.int IntKind.u64 0,Value.int IntKind.u64 0,Value.int IntKind.u64 0,Value.int IntKind.u64 0,Value.int IntKind.u64 0,Value.int IntKind.u64 0,Value.int IntKind.u64 0,Value.int IntKind.u64 0,Value.int IntKind.u64 0,Value.int IntKind.u64 0,Value.int IntKind.u64 0,Value.int IntKind.u64 0,Value.int IntKind.u64 0,Value.int IntKind.u64 0,Value.int IntKind.u64 0,Value.int IntKind.u64 0,Value.int IntKind.u64 0,Value.int IntKind.u64 0,Value.int IntKind.u64 0] }
theorem ti99_ok:TI.ok Tryd.prog 99 ti99:=⟨Tryd.underlying99,by kernel_rfl⟩
def ti100:TI:={ desc:=TypeDesc.int IntKind.u32,size:=1,bytes:=4,zero:=Value.int IntKind.u32 0 }
theorem ti100_ok:TI.ok Tryd.prog 100 ti100:=⟨Tryd.underlying100,by kernel_rfl⟩
def ti101:TI:={ desc:=TypeDesc.array 65 5,size:=65,bytes:=65,zero:=Value.agg ([Value.int IntKind.u8 0,Value.int IntKind.u8 0,Value.int IntKind.u8 0,Value.int IntKind.u8 0,Value.int IntKind.u8 0,Value.int IntKind.u8 0,Value.int IntKind.u8 0,Value.int IntKind.u8 0,Value.int IntKind.u8 0,Value.int IntKind.u8 0,Value.int IntKind.u8 0,Value.int IntKind.u8 0,Value.int IntKind.u8 0,Value.int IntKind.u8 0,Value.int IntKind.u8 0,Value.int IntKind.u8 0,Value.int IntKind.u8 0,Value.int IntKind.u8 0,Value.int IntKind.u8 0,Value.int IntKind.u8 0,Value.int IntKind.u8 0,Value.int IntKind.u8 0,Value.int IntKind.u8 0,Value.int IntKind.u8 0,Value.int IntKind.u8 0,Value.int IntKind.u8 0,Value.int IntKind.u8 0,Value.int IntKind.u8 0,Value.int IntKind.u8 0,Value.int IntKind.u8 0,Value.int IntKind.u8 0,Value.int IntKind.u8 0].append [Value.int IntKind.u8 0,Value.int IntKind.u8 0,Value.int IntKind.u8 0,Value.int IntKind.u8 0,Value.int IntKind.u8 0,Value.int IntKind.u8 0,Value.int IntKind.u8 0,Value.int IntKind.u8 0,Value.int IntKind.u8 0,Value.int IntKind.u8 0,Value.int IntKind.u8 0,Value.int IntKind.u8 0,Value.int IntKind.u8 0,Value.int IntKind.u8 0,Value.int IntKind.u8 0,Value.int IntKind.u8 0,Value.int IntKind.u8 0,Value.int IntKind.u8 0,Value.int IntKind.u8 0,Value.int IntKind.u8 0,Value.int IntKind.u8 0,Value.int IntKind.u8 0,Value.int IntKind.u8 0,Value.int IntKind.u8 0,Value.int IntKind.u8 0,Value.int IntKind.u8 0,Value.int IntKind.u8 0,Value.int IntKind.u8 0,Value.int IntKind.u8 0,Value.int IntKind.u8 0,Value.int IntKind.u8 0,Value.int IntKind.u8 0,Value.int IntKind.u8 0]).toArray }
theorem ti101_ok:TI.ok Tryd.prog 101 ti101:=⟨Tryd.underlying101,by kernel_rfl⟩
def ti102:TI:={ desc:=TypeDesc.func #[3] #[4] false,size:=1,bytes:=8,zero:=Value.nilFunc }
theorem ti102_ok:TI.ok Tryd.prog 102 ti102:=⟨Tryd.underlying102,by kernel_rfl⟩
def ti103:TI:={ desc:=TypeDesc.int IntKind.u64,size:=1,bytes:=8,zero:=Value.int IntKind.u64 0 }
theorem ti103_ok:TI.ok Tryd.prog 103 ti103:=⟨Tryd.underlying103,by kernel_rfl⟩
def ti106:TI:={ desc:=TypeDesc.array 32 5,size:=32,bytes:=32,zero:=Value.agg #[Value.int IntKind.u8 0,Value.int IntKind.u8 0,Value.int IntKind.u8 0,Value.int IntKind.u8 0,Value.int IntKind.u8 0,Value.int IntKind.u8 0,Value.int IntKind.u8 0,Value.int IntKind.u8 0,Value.int IntKind.u8 0,Value.int IntKind.u8 0,Value.int IntKind.u8 0,Value.int IntKind.u8 0,Value.int IntKind.u8 0,Value.int IntKind.u8 0,Value.int IntKind.u8 0,Value.int IntKind.u8 0,Value.int IntKind.u8 0,Value.int IntKind.u8 0,Value.int IntKind.u8 0,Value.int IntKind.u8 0,Value.int IntKind.u8 0,Value.int IntKind.u8 0,Value.int IntKind.u8 0,Value.int IntKind.u8 0,Value.int IntKind.u8 0,Value.int IntKind.u8 0,Value.int IntKind.u8 0,Value.int IntKind.u8 0,Value.int IntKind.u8 0,Value.int IntKind.u8 0,Value.int IntKind.u8 0,Value.int IntKind.u8 0] }
theorem ti106_ok:TI.ok Tryd.prog 106 ti106:=⟨Tryd.underlying106,by kernel_rfl⟩
def ti107:TI:={ desc:=TypeDesc.array 64 5,size:=64,bytes:=64,zero:=Value.agg #[Value.int IntKind.u8 0,Value.int IntKind.u8 0,Value.int IntKind.u8 0,Value.int IntKind.u8 0,Value.int IntKind.u8 0,Value.int IntKind.u8 0,Value.int IntKind.u8 0,Value.int IntKind.u8 0,Value.int IntKind.u8 0,Value.int IntKind.u8 0,Value.int IntKind.u8 0,Value.int IntKind.u8 0,Value.int IntKind.u8 0,Value.int IntKind.u8 0,Value.int IntKind.u8 0,Value.int IntKind.u8 0,Value.int IntKind.u8 0,Value.int IntKind.u8 0,Value.int IntKind.u8 0,Value.int IntKind.u8 0,Value.int IntKind.u8 0,Value.int IntKind.u8 0,Value.int IntKind.u8 0,Value.int IntKind.u8 0,Value.int IntKind.u8 0,Value.int IntKind.u8 0,Value.int IntKind.u8 0,Value.int IntKind.u8 0,Value.int IntKind.u8 0,Value.int IntKind.u8 0,Value.int IntKind.u8 0,Value.int IntKind.u8 0,Value.int IntKind.u8 0,Value.int IntKind.u8 0,Value.int IntKind.u8 0,Value.int IntKind.u8 0,Value.int IntKind.u8 0,Value.int IntKind.u8 0,Value.int IntKind.u8 0,Value.int IntKind.u8 0,Value.int IntKind.u8 0,Value.int IntKind.u8 0,Value.int IntKind.u8 0,Value.int IntKind.u8 0,Value.int IntKind.u8 0,Value.int IntKind.u8 0,Value.int IntKind.u8 0,Value.int IntKind.u8 0,Value.int IntKind.u8 0,Value.int IntKind.u8 0,Value.int IntKind.u8 0,Value.int IntKind.u8 0,Value.int IntKind.u8 0,Value.int IntKind.u8 0,Value.int IntKind.u8 0,Value.int IntKind.u8 0,Value.int IntKind.u8 0,Value.int IntKind.u8 0,Value.int IntKind.u8 0,Value.int IntKind.u8 0,Value.int IntKind.u8 0,Value.int IntKind.u8 0,Value.int IntKind.u8 0,Value.int IntKind.u8 0] }
theorem ti107_ok:TI.ok Tryd.prog 107 ti107:=⟨Tryd.underlying107,by kernel_rfl⟩
def ti110:TI:={ desc:=TypeDesc.array 0 16,size:=0,bytes:=0,zero:=Value.agg #[] }
theorem ti110_ok:TI.ok Tryd.prog 110 ti110:=⟨Tryd.underlying110,by kernel_rfl⟩
def ti114:TI:={ desc:=TypeDesc.int IntKind.u8,size:=1,bytes:=1,zero:=Value.int IntKind.u8 0 }
theorem ti114_ok:TI.ok Tryd.prog 114 ti114:=⟨Tryd.underlying114,by kernel_rfl⟩
def ti115:TI:={ desc:=TypeDesc.int IntKind.u8,size:=1,bytes:=1,zero:=Value.int IntKind.u8 0 }
theorem ti115_ok:TI.ok Tryd.prog 115 ti115:=⟨Tryd.underlying115,by kernel_rfl⟩
def ti116:TI:={ desc:=TypeDesc.func #[95,95] #[4] false,size:=1,bytes:=8,zero:=Value.nilFunc }
theorem ti116_ok:TI.ok Tryd.prog 116 ti116:=⟨Tryd.underlying116,by kernel_rfl⟩
def ti117:TI:={ desc:=TypeDesc.int IntKind.i32,size:=1,bytes:=4,zero:=Value.int IntKind.i32 0 }
theorem ti117_ok:TI.ok Tryd.prog 117 ti117:=⟨Tryd.underlying117,by kernel_rfl⟩
def ti118:TI:={ desc:=TypeDesc.int IntKind.i32,size:=1,bytes:=4,zero:=Value.int IntKind.i32 0 }
theorem ti118_ok:TI.ok Tryd.prog 118 ti118:=⟨Tryd.underlying118,by kernel_rfl⟩
def ti120 : TI := { desc := TypeDesc.struct #[{ name := "Size_", type := 12, offset := 0, embedded := false, tag := "", pkgPath := "", byteOffset := 0 }, { name := "PtrBytes", type := 12, offset := 1, embedded := false, tag := "", pkgPath := "", byteOffset := 8 }, { name := "Hash", type := 100, offset := 2, embedded := false, tag := "", pkgPath := "", byteOffset := 16 }, { name := "TFlag", type := 114, offset := 3, embedded := false, tag := "", pkgPath := "", byteOffset := 20 }, { name := "Align_", type := 5, offset := 4, embedded := false, tag := "", pkgPath := "", byteOffset := 21 }, { name := "FieldAlign_", type := 5, offset := 5, embedded := false, tag := "", pkgPath := "", byteOffset := 22 }, { name := "Kind_", type := 115, offset := 6, embedded := false, tag := "", pkgPath := "", byteOffset := 23 }, { name := "Equal", type := 116, offset := 7, embedded := false, tag := "", pkgPath := "", byteOffset := 24 }, { name := "GCData", type := 88, offset := 8, embedded := false, tag := "", pkgPath := "", byteOffset := 32 }, { name := "Str", type := 117, offset := 9, embedded := false, tag := "", pkgPath := "", byteOffset := 40 }, { name := "PtrToThis", type := 118, offset := 10, embedded := false, tag := "", pkgPath := "", byteOffset := 44 }], size := 11, bytes := 48, zero := Value.agg #[Value.int IntKind.u64 0, Value.int IntKind.u64 0, Value.int IntKind.u32 0, Value.int IntKind.u8 0, Value.int IntKind.u8 0, Value.int IntKind.u8 0, Value.int IntKind.u8 0, Value.nilFunc, Value.pointer none, Value.int IntKind.i32 0, Value.int IntKind.i32 0] }
theorem ti120_ok:TI.ok Tryd.prog 120 ti120:=⟨Tryd.underlying120,by kernel_rfl⟩
noncomputable def tab:List (TypeId×TI):=[(1,ti1),(2,ti2),(3,ti3),(4,ti4),(5,ti5),(6,ti6),(9,ti9),(10,ti10),(11,ti11),(12,ti12),(15,ti15),(16,ti16),(17,ti17),(20,ti20),(21,ti21),(22,ti22),(23,ti23),(24,ti24),(26,ti26),(27,ti27),(28,ti28),(29,ti29),(30,ti30),(31,ti31),(32,ti32),(33,ti33),(34,ti34),(35,ti35),(36,ti36),(37,ti37),(38,ti38),(39,ti39),(40,ti40),(41,ti41),(42,ti42),(43,ti43),(44,ti44),(45,ti45),(46,ti46),(47,ti47),(48,ti48),(49,ti49),(50,ti50),(51,ti51),(52,ti52),(54,ti54),(55,ti55),(58,ti58),(59,ti59),(62,ti62),(64,ti64),(67,ti67),(68,ti68),(69,ti69),(73,ti73),(74,ti74),(75,ti75),(76,ti76),(78,ti78),(83,ti83),(85,ti85),(88,ti88),(89,ti89),(90,ti90),(95,ti95),(99,ti99),(100,ti100),(101,ti101),(102,ti102),(103,ti103),(106,ti106),(107,ti107),(110,ti110),(114,ti114),(115,ti115),(116,ti116),(117,ti117),(118,ti118),(120,ti120)]
theorem tab_ok:TabOk Tryd.prog tab:=TabOk.cons ti1_ok (TabOk.cons ti2_ok (TabOk.cons ti3_ok (TabOk.cons ti4_ok (TabOk.cons ti5_ok (TabOk.cons ti6_ok (TabOk.cons ti9_ok (TabOk.cons ti10_ok (TabOk.cons ti11_ok (TabOk.cons ti12_ok (TabOk.cons ti15_ok (TabOk.cons ti16_ok (TabOk.cons ti17_ok (TabOk.cons ti20_ok (TabOk.cons ti21_ok (TabOk.cons ti22_ok (TabOk.cons ti23_ok (TabOk.cons ti24_ok (TabOk.cons ti26_ok (TabOk.cons ti27_ok (TabOk.cons ti28_ok (TabOk.cons ti29_ok (TabOk.cons ti30_ok (TabOk.cons ti31_ok (TabOk.cons ti32_ok (TabOk.cons ti33_ok (TabOk.cons ti34_ok (TabOk.cons ti35_ok (TabOk.cons ti36_ok (TabOk.cons ti37_ok (TabOk.cons ti38_ok (TabOk.cons ti39_ok (TabOk.cons ti40_ok (TabOk.cons ti41_ok (TabOk.cons ti42_ok (TabOk.cons ti43_ok (TabOk.cons ti44_ok (TabOk.cons ti45_ok (TabOk.cons ti46_ok (TabOk.cons ti47_ok (TabOk.cons ti48_ok (TabOk.cons ti49_ok (TabOk.cons ti50_ok (TabOk.cons ti51_ok (TabOk.cons ti52_ok (TabOk.cons ti54_ok (TabOk.cons ti55_ok (TabOk.cons ti58_ok (TabOk.cons ti59_ok (TabOk.cons ti62_ok (TabOk.cons ti64_ok (TabOk.cons ti67_ok (TabOk.cons ti68_ok (TabOk.cons ti69_ok (TabOk.cons ti73_ok (TabOk.cons ti74_ok (TabOk.cons ti75_ok (TabOk.cons ti76_ok (TabOk.cons ti78_ok (TabOk.cons ti83_ok (TabOk.cons ti85_ok (TabOk.cons ti88_ok (TabOk.cons ti89_ok (TabOk.cons ti90_ok (TabOk.cons ti95_ok (TabOk.cons ti99_ok (TabOk.cons ti100_ok (TabOk.cons ti101_ok (TabOk.cons ti102_ok (TabOk.cons ti103_ok (TabOk.cons ti106_ok (TabOk.cons ti107_ok (TabOk.cons ti110_ok (TabOk.cons ti114_ok (TabOk.cons ti115_ok (TabOk.cons ti116_ok (TabOk.cons ti117_ok (TabOk.cons ti118_ok (TabOk.cons ti120_ok (TabOk.nil _)))))))))))))))))))))))))))))))))))))))))))))))))))))))))))))))))))))))))))))))
theorem rep_app {α:Type} {v:α} {a b:List α} {n m:Nat} (h:a=List.replicate n v) (k:b=List.replicate m v):a.append b=List.replicate (n+m) v:=by
  subst h; subst k;exact List.replicate_append_replicate
theorem rep_of {α:Type} {v:α} {l:List α} {n N:Nat} (h:l=List.replicate n v) (e:n=N):l=List.replicate N v:=e ▸ h
theorem zr50:ti50.zero.cells.toList=List.replicate 36864 (Value.bool false):=by
  apply rep_of
  case h=>
    show (List.append _ _)=_
    repeat' (first | apply rep_app | exact (rfl:_=List.replicate 36 (Value.bool false)))
  case e=>rfl
end Go.Proofs.YteglgnkcpaagjaaDoor

/- The table of types as a tree. -/
namespace Go.Proofs.YteglgnkcpaagjaaDoor
def te1:TE:=⟨ti1,none⟩
theorem te1_ok:TE.ok Tryd.prog 1 te1:=⟨ti1_ok,fun g hg=>by cases hg⟩
def te2:TE:=⟨ti2,some (.int .i64)⟩
theorem te2_ok:TE.ok Tryd.prog 2 te2:=⟨ti2_ok,fun g hg=>by cases hg; exact ⟨rfl,rfl,by decide⟩⟩
def te3:TE:=⟨ti3,some (.int .i64)⟩
theorem te3_ok:TE.ok Tryd.prog 3 te3:=⟨ti3_ok,fun g hg=>by cases hg; exact ⟨rfl,rfl,by decide⟩⟩
def te4:TE:=⟨ti4,some (.bool)⟩
theorem te4_ok:TE.ok Tryd.prog 4 te4:=⟨ti4_ok,fun g hg=>by cases hg; exact ⟨rfl,rfl,by decide⟩⟩
def te5:TE:=⟨ti5,some (.int .u8)⟩
theorem te5_ok:TE.ok Tryd.prog 5 te5:=⟨ti5_ok,fun g hg=>by cases hg; exact ⟨rfl,rfl,by decide⟩⟩
def te6:TE:=⟨ti6,some (.int .u8)⟩
theorem te6_ok:TE.ok Tryd.prog 6 te6:=⟨ti6_ok,fun g hg=>by cases hg; exact ⟨rfl,rfl,by decide⟩⟩
def te9:TE:=⟨ti9,some (.str)⟩
theorem te9_ok:TE.ok Tryd.prog 9 te9:=⟨ti9_ok,fun g hg=>by cases hg; exact ⟨rfl,rfl,by decide⟩⟩
def te10:TE:=⟨ti10,some (.str)⟩
theorem te10_ok:TE.ok Tryd.prog 10 te10:=⟨ti10_ok,fun g hg=>by cases hg; exact ⟨rfl,rfl,by decide⟩⟩
def te11:TE:=⟨ti11,some (.str)⟩
theorem te11_ok:TE.ok Tryd.prog 11 te11:=⟨ti11_ok,fun g hg=>by cases hg; exact ⟨rfl,rfl,by decide⟩⟩
def te12:TE:=⟨ti12,some (.int .u64)⟩
theorem te12_ok:TE.ok Tryd.prog 12 te12:=⟨ti12_ok,fun g hg=>by cases hg; exact ⟨rfl,rfl,by decide⟩⟩
def te15:TE:=⟨ti15,none⟩
theorem te15_ok:TE.ok Tryd.prog 15 te15:=⟨ti15_ok,fun g hg=>by cases hg⟩
def te16:TE:=⟨ti16,none⟩
theorem te16_ok:TE.ok Tryd.prog 16 te16:=⟨ti16_ok,fun g hg=>by cases hg⟩
def te17:TE:=⟨ti17,none⟩
theorem te17_ok:TE.ok Tryd.prog 17 te17:=⟨ti17_ok,fun g hg=>by cases hg⟩
def te20:TE:=⟨ti20,none⟩
theorem te20_ok:TE.ok Tryd.prog 20 te20:=⟨ti20_ok,fun g hg=>by cases hg⟩
def te21:TE:=⟨ti21,some (.int .i32)⟩
theorem te21_ok:TE.ok Tryd.prog 21 te21:=⟨ti21_ok,fun g hg=>by cases hg; exact ⟨rfl,rfl,by decide⟩⟩
def te22:TE:=⟨ti22,some (.pair (.int .u8) (.pair (.int .u8) (.pair (.int .u8) (.int .u8))))⟩
theorem te22_ok:TE.ok Tryd.prog 22 te22:=⟨ti22_ok,fun g hg=>by cases hg; exact ⟨rfl,rfl,by decide⟩⟩
def te23:TE:=⟨ti23,some (.sl (.pair (.int .u8) (.pair (.int .u8) (.pair (.pair (.int .u8) (.int .i64)) (.pair (.int .u8) (.int .i64))))))⟩
theorem te23_ok:TE.ok Tryd.prog 23 te23:=⟨ti23_ok,fun g hg=>by cases hg; exact ⟨rfl,rfl,by decide⟩⟩
def te24:TE:=⟨ti24,some (.int .i64)⟩
theorem te24_ok:TE.ok Tryd.prog 24 te24:=⟨ti24_ok,fun g hg=>by cases hg; exact ⟨rfl,rfl,by decide⟩⟩
def te26:TE:=⟨ti26,none⟩
theorem te26_ok:TE.ok Tryd.prog 26 te26:=⟨ti26_ok,fun g hg=>by cases hg⟩
def te27:TE:=⟨ti27,some (.sl (.int .i64))⟩
theorem te27_ok:TE.ok Tryd.prog 27 te27:=⟨ti27_ok,fun g hg=>by cases hg; exact ⟨rfl,rfl,by decide⟩⟩
def te28:TE:=⟨ti28,none⟩
theorem te28_ok:TE.ok Tryd.prog 28 te28:=⟨ti28_ok,fun g hg=>by cases hg⟩
def te29:TE:=⟨ti29,none⟩
theorem te29_ok:TE.ok Tryd.prog 29 te29:=⟨ti29_ok,fun g hg=>by cases hg⟩
def te30:TE:=⟨ti30,none⟩
theorem te30_ok:TE.ok Tryd.prog 30 te30:=⟨ti30_ok,fun g hg=>by cases hg⟩
def te31:TE:=⟨ti31,none⟩
theorem te31_ok:TE.ok Tryd.prog 31 te31:=⟨ti31_ok,fun g hg=>by cases hg⟩
def te32:TE:=⟨ti32,some (.pair (.sl (.pair (.int .u8) (.pair (.int .u8) (.pair (.pair (.int .u8) (.int .i64)) (.pair (.int .u8) (.int .i64)))))) (.int .i64))⟩
theorem te32_ok:TE.ok Tryd.prog 32 te32:=⟨ti32_ok,fun g hg=>by cases hg; exact ⟨rfl,rfl,by decide⟩⟩
def te33:TE:=⟨ti33,some (.pair (.sl (.pair (.int .u8) (.pair (.int .u8) (.pair (.pair (.int .u8) (.int .i64)) (.pair (.int .u8) (.int .i64)))))) (.int .i64))⟩
theorem te33_ok:TE.ok Tryd.prog 33 te33:=⟨ti33_ok,fun g hg=>by cases hg; exact ⟨rfl,rfl,by decide⟩⟩
def te34:TE:=⟨ti34,none⟩
theorem te34_ok:TE.ok Tryd.prog 34 te34:=⟨ti34_ok,fun g hg=>by cases hg⟩
def te35:TE:=⟨ti35,none⟩
theorem te35_ok:TE.ok Tryd.prog 35 te35:=⟨ti35_ok,fun g hg=>by cases hg⟩
def te36:TE:=⟨ti36,none⟩
theorem te36_ok:TE.ok Tryd.prog 36 te36:=⟨ti36_ok,fun g hg=>by cases hg⟩
def te37:TE:=⟨ti37,none⟩
theorem te37_ok:TE.ok Tryd.prog 37 te37:=⟨ti37_ok,fun g hg=>by cases hg⟩
def te38:TE:=⟨ti38,none⟩
theorem te38_ok:TE.ok Tryd.prog 38 te38:=⟨ti38_ok,fun g hg=>by cases hg⟩
def te39:TE:=⟨ti39,none⟩
theorem te39_ok:TE.ok Tryd.prog 39 te39:=⟨ti39_ok,fun g hg=>by cases hg⟩
def te40:TE:=⟨ti40,none⟩
theorem te40_ok:TE.ok Tryd.prog 40 te40:=⟨ti40_ok,fun g hg=>by cases hg⟩
def te41:TE:=⟨ti41,some (.int .u8)⟩
theorem te41_ok:TE.ok Tryd.prog 41 te41:=⟨ti41_ok,fun g hg=>by cases hg; exact ⟨rfl,rfl,by decide⟩⟩
def te42:TE:=⟨ti42,some (.int .u8)⟩
theorem te42_ok:TE.ok Tryd.prog 42 te42:=⟨ti42_ok,fun g hg=>by cases hg; exact ⟨rfl,rfl,by decide⟩⟩
def te43:TE:=⟨ti43,some (.int .u8)⟩
theorem te43_ok:TE.ok Tryd.prog 43 te43:=⟨ti43_ok,fun g hg=>by cases hg; exact ⟨rfl,rfl,by decide⟩⟩
def te44:TE:=⟨ti44,some (.pair (.int .u8) (.int .i64))⟩
theorem te44_ok:TE.ok Tryd.prog 44 te44:=⟨ti44_ok,fun g hg=>by cases hg; exact ⟨rfl,rfl,by decide⟩⟩
def te45:TE:=⟨ti45,some (.pair (.int .u8) (.int .i64))⟩
theorem te45_ok:TE.ok Tryd.prog 45 te45:=⟨ti45_ok,fun g hg=>by cases hg; exact ⟨rfl,rfl,by decide⟩⟩
def te46:TE:=⟨ti46,some (.pair (.int .u8) (.pair (.int .u8) (.pair (.pair (.int .u8) (.int .i64)) (.pair (.int .u8) (.int .i64)))))⟩
theorem te46_ok:TE.ok Tryd.prog 46 te46:=⟨ti46_ok,fun g hg=>by cases hg; exact ⟨rfl,rfl,by decide⟩⟩
def te47:TE:=⟨ti47,some (.pair (.int .u8) (.pair (.int .u8) (.pair (.pair (.int .u8) (.int .i64)) (.pair (.int .u8) (.int .i64)))))⟩
theorem te47_ok:TE.ok Tryd.prog 47 te47:=⟨ti47_ok,fun g hg=>by cases hg; exact ⟨rfl,rfl,by decide⟩⟩
def te48:TE:=⟨ti48,none⟩
theorem te48_ok:TE.ok Tryd.prog 48 te48:=⟨ti48_ok,fun g hg=>by cases hg⟩
def te49:TE:=⟨ti49,none⟩
theorem te49_ok:TE.ok Tryd.prog 49 te49:=⟨ti49_ok,fun g hg=>by cases hg⟩
noncomputable def te50:TE:=⟨ti50,none⟩
theorem te50_ok:TE.ok Tryd.prog 50 te50:=⟨ti50_ok,fun g hg=>by cases hg⟩
def te51:TE:=⟨ti51,some (.pair (.int .i64) (.pair (.int .i64) (.int .i64)))⟩
theorem te51_ok:TE.ok Tryd.prog 51 te51:=⟨ti51_ok,fun g hg=>by cases hg; exact ⟨rfl,rfl,by decide⟩⟩
def te52:TE:=⟨ti52,some (.sl (.pair (.int .i64) (.pair (.int .i64) (.int .i64))))⟩
theorem te52_ok:TE.ok Tryd.prog 52 te52:=⟨ti52_ok,fun g hg=>by cases hg; exact ⟨rfl,rfl,by decide⟩⟩
def te54:TE:=⟨ti54,some (.sl (.sl (.int .i64)))⟩
theorem te54_ok:TE.ok Tryd.prog 54 te54:=⟨ti54_ok,fun g hg=>by cases hg; exact ⟨rfl,rfl,by decide⟩⟩
def te55:TE:=⟨ti55,some (.sl (.str))⟩
theorem te55_ok:TE.ok Tryd.prog 55 te55:=⟨ti55_ok,fun g hg=>by cases hg; exact ⟨rfl,rfl,by decide⟩⟩
def te58:TE:=⟨ti58,some (.sl (.pair (.int .u8) (.int .i64)))⟩
theorem te58_ok:TE.ok Tryd.prog 58 te58:=⟨ti58_ok,fun g hg=>by cases hg; exact ⟨rfl,rfl,by decide⟩⟩
def te59:TE:=⟨ti59,none⟩
theorem te59_ok:TE.ok Tryd.prog 59 te59:=⟨ti59_ok,fun g hg=>by cases hg⟩
def te62:TE:=⟨ti62,none⟩
theorem te62_ok:TE.ok Tryd.prog 62 te62:=⟨ti62_ok,fun g hg=>by cases hg⟩
def te64:TE:=⟨ti64,none⟩
theorem te64_ok:TE.ok Tryd.prog 64 te64:=⟨ti64_ok,fun g hg=>by cases hg⟩
def te67:TE:=⟨ti67,some (.pair (.str) (.pair (.str) (.pair (.str) (.pair (.str) (.pair (.str) (.pair (.str) (.pair (.str) (.pair (.str) (.str)))))))))⟩
theorem te67_ok:TE.ok Tryd.prog 67 te67:=⟨ti67_ok,fun g hg=>by cases hg; exact ⟨rfl,rfl,by decide⟩⟩
def te68:TE:=⟨ti68,some (.pair (.str) (.str))⟩
theorem te68_ok:TE.ok Tryd.prog 68 te68:=⟨ti68_ok,fun g hg=>by cases hg; exact ⟨rfl,rfl,by decide⟩⟩
def te69:TE:=⟨ti69,none⟩
theorem te69_ok:TE.ok Tryd.prog 69 te69:=⟨ti69_ok,fun g hg=>by cases hg⟩
def te73:TE:=⟨ti73,none⟩
theorem te73_ok:TE.ok Tryd.prog 73 te73:=⟨ti73_ok,fun g hg=>by cases hg⟩
def te74:TE:=⟨ti74,some (.sl (.int .u8))⟩
theorem te74_ok:TE.ok Tryd.prog 74 te74:=⟨ti74_ok,fun g hg=>by cases hg; exact ⟨rfl,rfl,by decide⟩⟩
def te75:TE:=⟨ti75,none⟩
theorem te75_ok:TE.ok Tryd.prog 75 te75:=⟨ti75_ok,fun g hg=>by cases hg⟩
def te76:TE:=⟨ti76,none⟩
theorem te76_ok:TE.ok Tryd.prog 76 te76:=⟨ti76_ok,fun g hg=>by cases hg⟩
def te78:TE:=⟨ti78,none⟩
theorem te78_ok:TE.ok Tryd.prog 78 te78:=⟨ti78_ok,fun g hg=>by cases hg⟩
def te83:TE:=⟨ti83,some (.pair (.bool) (.pair (.bool) (.pair (.bool) (.bool))))⟩
theorem te83_ok:TE.ok Tryd.prog 83 te83:=⟨ti83_ok,fun g hg=>by cases hg; exact ⟨rfl,rfl,by decide⟩⟩
def te85:TE:=⟨ti85,none⟩
theorem te85_ok:TE.ok Tryd.prog 85 te85:=⟨ti85_ok,fun g hg=>by cases hg⟩
def te88:TE:=⟨ti88,none⟩
theorem te88_ok:TE.ok Tryd.prog 88 te88:=⟨ti88_ok,fun g hg=>by cases hg⟩
def te89:TE:=⟨ti89,none⟩
theorem te89_ok:TE.ok Tryd.prog 89 te89:=⟨ti89_ok,fun g hg=>by cases hg⟩
def te90:TE:=⟨ti90,some (.int .u64)⟩
theorem te90_ok:TE.ok Tryd.prog 90 te90:=⟨ti90_ok,fun g hg=>by cases hg; exact ⟨rfl,rfl,by decide⟩⟩
def te95:TE:=⟨ti95,none⟩
theorem te95_ok:TE.ok Tryd.prog 95 te95:=⟨ti95_ok,fun g hg=>by cases hg⟩
def te99:TE:=⟨ti99,none⟩
theorem te99_ok:TE.ok Tryd.prog 99 te99:=⟨ti99_ok,fun g hg=>by cases hg⟩
def te100:TE:=⟨ti100,some (.int .u32)⟩
theorem te100_ok:TE.ok Tryd.prog 100 te100:=⟨ti100_ok,fun g hg=>by cases hg; exact ⟨rfl,rfl,by decide⟩⟩
def te101:TE:=⟨ti101,none⟩
theorem te101_ok:TE.ok Tryd.prog 101 te101:=⟨ti101_ok,fun g hg=>by cases hg⟩
def te102:TE:=⟨ti102,none⟩
theorem te102_ok:TE.ok Tryd.prog 102 te102:=⟨ti102_ok,fun g hg=>by cases hg⟩
def te103:TE:=⟨ti103,some (.int .u64)⟩
theorem te103_ok:TE.ok Tryd.prog 103 te103:=⟨ti103_ok,fun g hg=>by cases hg; exact ⟨rfl,rfl,by decide⟩⟩
def te106:TE:=⟨ti106,none⟩
theorem te106_ok:TE.ok Tryd.prog 106 te106:=⟨ti106_ok,fun g hg=>by cases hg⟩
def te107:TE:=⟨ti107,none⟩
theorem te107_ok:TE.ok Tryd.prog 107 te107:=⟨ti107_ok,fun g hg=>by cases hg⟩
def te110:TE:=⟨ti110,none⟩
theorem te110_ok:TE.ok Tryd.prog 110 te110:=⟨ti110_ok,fun g hg=>by cases hg⟩
def te114:TE:=⟨ti114,some (.int .u8)⟩
theorem te114_ok:TE.ok Tryd.prog 114 te114:=⟨ti114_ok,fun g hg=>by cases hg; exact ⟨rfl,rfl,by decide⟩⟩
def te115:TE:=⟨ti115,some (.int .u8)⟩
theorem te115_ok:TE.ok Tryd.prog 115 te115:=⟨ti115_ok,fun g hg=>by cases hg; exact ⟨rfl,rfl,by decide⟩⟩
def te116:TE:=⟨ti116,none⟩
theorem te116_ok:TE.ok Tryd.prog 116 te116:=⟨ti116_ok,fun g hg=>by cases hg⟩
def te117:TE:=⟨ti117,some (.int .i32)⟩
theorem te117_ok:TE.ok Tryd.prog 117 te117:=⟨ti117_ok,fun g hg=>by cases hg; exact ⟨rfl,rfl,by decide⟩⟩
def te118:TE:=⟨ti118,some (.int .i32)⟩
theorem te118_ok:TE.ok Tryd.prog 118 te118:=⟨ti118_ok,fun g hg=>by cases hg; exact ⟨rfl,rfl,by decide⟩⟩
def te120:TE:=⟨ti120,none⟩
theorem te120_ok:TE.ok Tryd.prog 120 te120:=⟨ti120_ok,fun g hg=>by cases hg⟩
noncomputable def tt:TT:=(.node (.node (.node (.node (.node (.node (.node .leaf 1 te1 .leaf) 2 te2 .leaf) 3 te3 (.node .leaf 4 te4 .leaf)) 5 te5 (.node (.node (.node .leaf 6 te6 .leaf) 9 te9 .leaf) 10 te10 (.node .leaf 11 te11 .leaf))) 12 te12 (.node (.node (.node (.node .leaf 15 te15 .leaf) 16 te16 .leaf) 17 te17 (.node .leaf 20 te20 .leaf)) 21 te21 (.node (.node (.node .leaf 22 te22 .leaf) 23 te23 .leaf) 24 te24 (.node .leaf 26 te26 .leaf)))) 27 te27 (.node (.node (.node (.node (.node .leaf 28 te28 .leaf) 29 te29 .leaf) 30 te30 (.node .leaf 31 te31 .leaf)) 32 te32 (.node (.node (.node .leaf 33 te33 .leaf) 34 te34 .leaf) 35 te35 (.node .leaf 36 te36 .leaf))) 37 te37 (.node (.node (.node (.node .leaf 38 te38 .leaf) 39 te39 .leaf) 40 te40 (.node .leaf 41 te41 .leaf)) 42 te42 (.node (.node (.node .leaf 43 te43 .leaf) 44 te44 .leaf) 45 te45 (.node .leaf 46 te46 .leaf))))) 47 te47 (.node (.node (.node (.node (.node (.node .leaf 48 te48 .leaf) 49 te49 .leaf) 50 te50 (.node .leaf 51 te51 .leaf)) 52 te52 (.node (.node (.node .leaf 54 te54 .leaf) 55 te55 .leaf) 58 te58 (.node .leaf 59 te59 .leaf))) 62 te62 (.node (.node (.node (.node .leaf 64 te64 .leaf) 67 te67 .leaf) 68 te68 (.node .leaf 69 te69 .leaf)) 73 te73 (.node (.node (.node .leaf 74 te74 .leaf) 75 te75 .leaf) 76 te76 (.node .leaf 78 te78 .leaf)))) 83 te83 (.node (.node (.node (.node (.node .leaf 85 te85 .leaf) 88 te88 .leaf) 89 te89 (.node .leaf 90 te90 .leaf)) 95 te95 (.node (.node (.node .leaf 99 te99 .leaf) 100 te100 .leaf) 101 te101 (.node .leaf 102 te102 .leaf))) 103 te103 (.node (.node (.node (.node .leaf 106 te106 .leaf) 107 te107 .leaf) 110 te110 (.node .leaf 114 te114 .leaf)) 115 te115 (.node (.node (.node .leaf 116 te116 .leaf) 117 te117 .leaf) 118 te118 (.node .leaf 120 te120 .leaf))))))
theorem zu:tt.ok Tryd.prog:=⟨⟨⟨⟨⟨⟨⟨trivial,te1_ok,trivial⟩,te2_ok,trivial⟩,te3_ok,⟨trivial,te4_ok,trivial⟩⟩,te5_ok,⟨⟨⟨trivial,te6_ok,trivial⟩,te9_ok,trivial⟩,te10_ok,⟨trivial,te11_ok,trivial⟩⟩⟩,te12_ok,⟨⟨⟨⟨trivial,te15_ok,trivial⟩,te16_ok,trivial⟩,te17_ok,⟨trivial,te20_ok,trivial⟩⟩,te21_ok,⟨⟨⟨trivial,te22_ok,trivial⟩,te23_ok,trivial⟩,te24_ok,⟨trivial,te26_ok,trivial⟩⟩⟩⟩,te27_ok,⟨⟨⟨⟨⟨trivial,te28_ok,trivial⟩,te29_ok,trivial⟩,te30_ok,⟨trivial,te31_ok,trivial⟩⟩,te32_ok,⟨⟨⟨trivial,te33_ok,trivial⟩,te34_ok,trivial⟩,te35_ok,⟨trivial,te36_ok,trivial⟩⟩⟩,te37_ok,⟨⟨⟨⟨trivial,te38_ok,trivial⟩,te39_ok,trivial⟩,te40_ok,⟨trivial,te41_ok,trivial⟩⟩,te42_ok,⟨⟨⟨trivial,te43_ok,trivial⟩,te44_ok,trivial⟩,te45_ok,⟨trivial,te46_ok,trivial⟩⟩⟩⟩⟩,te47_ok,⟨⟨⟨⟨⟨⟨trivial,te48_ok,trivial⟩,te49_ok,trivial⟩,te50_ok,⟨trivial,te51_ok,trivial⟩⟩,te52_ok,⟨⟨⟨trivial,te54_ok,trivial⟩,te55_ok,trivial⟩,te58_ok,⟨trivial,te59_ok,trivial⟩⟩⟩,te62_ok,⟨⟨⟨⟨trivial,te64_ok,trivial⟩,te67_ok,trivial⟩,te68_ok,⟨trivial,te69_ok,trivial⟩⟩,te73_ok,⟨⟨⟨trivial,te74_ok,trivial⟩,te75_ok,trivial⟩,te76_ok,⟨trivial,te78_ok,trivial⟩⟩⟩⟩,te83_ok,⟨⟨⟨⟨⟨trivial,te85_ok,trivial⟩,te88_ok,trivial⟩,te89_ok,⟨trivial,te90_ok,trivial⟩⟩,te95_ok,⟨⟨⟨trivial,te99_ok,trivial⟩,te100_ok,trivial⟩,te101_ok,⟨trivial,te102_ok,trivial⟩⟩⟩,te103_ok,⟨⟨⟨⟨trivial,te106_ok,trivial⟩,te107_ok,trivial⟩,te110_ok,⟨trivial,te114_ok,trivial⟩⟩,te115_ok,⟨⟨⟨trivial,te116_ok,trivial⟩,te117_ok,trivial⟩,te118_ok,⟨trivial,te120_ok,trivial⟩⟩⟩⟩⟩⟩
end Go.Proofs.YteglgnkcpaagjaaDoor

/- shifts.Check. -/
namespace Go.Proofs.YteglgnkcpaagjaaDoor
open Go.RowKit
def wordsL:List (List UInt8):=[[],[105,110],[111,117,116],[114,97,99,107],[107,110,105,116],[116,117,99,107],[109,105,115,115],[120,102,101,114],[100,114,111,112]]
def dirsL:List (List UInt8):=[[108,101,102,116],[114,105,103,104,116]]
def glT:Nat→Option GL
  | 0=>some ⟨.str,wordsL⟩
  | 1=>some ⟨.str,dirsL⟩
  | 2=>some ⟨.int .u64,Lib.pow10Tab⟩
  | _=>none
noncomputable def cx:Cx:=⟨Tryd.prog,tt,glT⟩
def okAt (l:List Int) (i:Int):Bool:=decide (1≤l.getD i.toNat 0)&&decide (l.getD i.toNat 0≤40)&&(decide (i≤0) || decide (l.getD (i - 1).toNat 0 < l.getD i.toNat 0))
def qq (l:List Int):Bool:=(List.range l.length).all fun i=>okAt l i
theorem check_ok (l:List Int) (cap:Option Nat) (hl:l.length≤1000000000):AC cx 7 [.c (.lst (.int .i64) l cap)] [] (fun sv h=>sv=.c (.val (.int .i64 (if qq l then 0 else 1)))∧h=[]):=by
  refine zN zu Tryd.func7 rfl Tryd.ntmps7 rfl rfl (res:=[.tmp 2]) rfl<|zj<|zq<|zk zu rfl (by first | rfl | (simp only [zb,zv,za,GTy.zero,Bool.and_eq_true,Bool.or_eq_true,Bool.not_eq_true',Bool.and_true,Bool.true_and,Bool.or_true,Bool.true_or,decide_eq_true_eq,decide_eq_false_iff_not,true_and,and_true]; omega) | (simp [zb,zv,za,GTy.zero]; omega) | (simp [zb,zv,za,GTy.zero])) ?_
  refine zj<|zj<|zq<|zk zu rfl (by first | rfl | (simp only [zb,zv,za,GTy.zero,Bool.and_eq_true,Bool.or_eq_true,Bool.not_eq_true',Bool.and_true,Bool.true_and,Bool.or_true,Bool.true_or,decide_eq_true_eq,decide_eq_false_iff_not,true_and,and_true]; omega) | (simp [zb,zv,za,GTy.zero]; omega) | (simp [zb,zv,za,GTy.zero])) ?_
  refine zn<|zc (st':=⟨[(7,_),(0,_),(5,_),(6,_)],[]⟩) (Wk.sub (SubL.cons rfl (SubL.cons rfl (SubL.cons rfl (SubL.cons rfl SubL.nil)))) SubH.nil)<|zO (fun x:Int=>[(7,.c (.val (.int .i64 x)))]) (fun x:Int=>[]) (fun x:Int=>0≤x∧x≤l.length∧∀ i:Nat,i < x→okAt l i=true) (fun x:Int=>(l.length - x).toNat) (0) (⟨by omega,by omega,fun i hi=>by omega⟩) ?_
  rintro x ⟨hx0,hx1,hx2⟩;refine zj<|zq<|zk zu rfl (by first | rfl | (simp only [zb,zv,za,GTy.zero,Bool.and_eq_true,Bool.or_eq_true,Bool.not_eq_true',Bool.and_true,Bool.true_and,Bool.or_true,Bool.true_or,decide_eq_true_eq,decide_eq_false_iff_not,true_and,and_true]; omega) | (simp [zb,zv,za,GTy.zero]; omega) | (simp [zb,zv,za,GTy.zero])) ?_
  refine zj<|zl rfl rfl (fun hc2=>?_) (fun hc2=>?_)
  ·
    refine zd<|zj<|zn<|zj ?_
    have hlt:x < l.length:=by simpa using hc2
    refine zq<|zk zu rfl (by first | rfl | (simp only [zb,zv,za,GTy.zero,Bool.and_eq_true,Bool.or_eq_true,Bool.not_eq_true',Bool.and_true,Bool.true_and,Bool.or_true,Bool.true_or,decide_eq_true_eq,decide_eq_false_iff_not,true_and,and_true]; omega) | (simp [zb,zv,za,GTy.zero]; omega) | (simp [zb,zv,za,GTy.zero])) ?_
    refine zj<|zq<|zk zu rfl (by first | rfl | (simp only [zb,zv,za,GTy.zero,Bool.and_eq_true,Bool.or_eq_true,Bool.not_eq_true',Bool.and_true,Bool.true_and,Bool.or_true,Bool.true_or,decide_eq_true_eq,decide_eq_false_iff_not,true_and,and_true]; omega) | (simp [zb,zv,za,GTy.zero]; omega) | (simp [zb,zv,za,GTy.zero])) ?_
    refine zl rfl rfl (fun hc4=>?_) (fun hc4=>?_)
    ·
      refine zj<|zq<|zk zu rfl (by first | rfl | (simp only [zb,zv,za,GTy.zero,Bool.and_eq_true,Bool.or_eq_true,Bool.not_eq_true',Bool.and_true,Bool.true_and,Bool.or_true,Bool.true_or,decide_eq_true_eq,decide_eq_false_iff_not,true_and,and_true]; omega) | (simp [zb,zv,za,GTy.zero]; omega) | (simp [zb,zv,za,GTy.zero])) ?_
      refine zi<|⟨_,Wk.sub (st':=⟨[(2,_)],[]⟩) (SubL.cons rfl SubL.nil) SubH.nil,_,_,rfl,rfl,?_⟩
      have:qq l=false:=by
        rw [qq,List.all_eq_false];refine ⟨x.toNat,by simp; omega,?_⟩;rw [okAt,Int.toNat_of_nonneg hx0]
        simp [GTy.zero] at hc4 ⊢
        omega
      rw [this];exact ⟨rfl,rfl⟩
    ·
      refine zd<|zq<|zk zu rfl (by first | rfl | (simp only [zb,zv,za,GTy.zero,Bool.and_eq_true,Bool.or_eq_true,Bool.not_eq_true',Bool.and_true,Bool.true_and,Bool.or_true,Bool.true_or,decide_eq_true_eq,decide_eq_false_iff_not,true_and,and_true]; omega) | (simp [zb,zv,za,GTy.zero]; omega) | (simp [zb,zv,za,GTy.zero])) ?_
      have hnext:∀ i:Nat,(i:Int) < x+1→okAt l i=true:=by
        intro i hi
        by_cases hix:(i:Int) < x
        · exact hx2 i hix
        · have:(i:Int)=x:=by omega
          rw [okAt,this]
          simp [GTy.zero] at hc4 ⊢
          omega
      refine ⟨x+1,⟨by omega,by omega,fun i hi=>hnext i hi⟩,(by dsimp only; omega),Wk.sub (by repeat (first | exact SubL.nil | refine SubL.cons rfl ?_)) SubH.nil⟩
  ·
    refine zS<|zj<|zq<|zk zu rfl (by first | rfl | (simp only [zb,zv,za,GTy.zero,Bool.and_eq_true,Bool.or_eq_true,Bool.not_eq_true',Bool.and_true,Bool.true_and,Bool.or_true,Bool.true_or,decide_eq_true_eq,decide_eq_false_iff_not,true_and,and_true]; omega) | (simp [zb,zv,za,GTy.zero]; omega) | (simp [zb,zv,za,GTy.zero])) ?_
    refine zi<|⟨_,Wk.sub (st':=⟨[(2,_)],[]⟩) (SubL.cons rfl SubL.nil) SubH.nil,_,_,rfl,rfl,?_⟩
    have:qq l=true:=by
      rw [qq,List.all_eq_true];intro i hi;have h5:¬ x < l.length:=by simpa using hc2
      exact hx2 i (by simp at hi; omega)
    rw [this];exact ⟨rfl,rfl⟩
end Go.Proofs.YteglgnkcpaagjaaDoor

/- From a row's conditions to what the walks ask: arguments, package-level variables; back to the row. -/
namespace Go.Proofs.YteglgnkcpaagjaaDoor
open Go.ChangeShapes Go.WideShapes Go.ChangeAt Go.WideElems Go.RowKit
section
variable {H:Type} {enc:TypeId×Value→H} {P:Program} {W:World}
def DecOk (enc:TypeId×Value→H) (P:Program) (W:World) (t:TypeId) (g:GTy) (R:g.D→Prop):Prop:=
  ∀ k cs x,DataW.trod enc P W 0 (fun _=>true) true k t cs=some x→∃ y:g.D,R y∧FR (fun b=>b < W.heap.size) W g y cs
theorem dec_int {t:TypeId} {k:IntKind} (ht:P.underlying t=some (.int k)):DecOk enc P W t (.int k) (fun (y:Int)=>k.min≤y∧y≤k.max):=fun n cs x h=>by
  obtain ⟨z,rfl,_,hw⟩:=DataW.trod_int ht h;exact ⟨z,by simpa [Lit.wf] using hw,rfl⟩
theorem flat_sub {g:GTy} {R:g.D→Prop}:∀ l:List { p:g.D×List Value // R p.1∧FR (fun b=>b < W.heap.size) W g p.1 p.2 },Flat (FR (fun b=>b < W.heap.size) W g) (l.map (·.1.1)) (l.flatMap (·.1.2))
  | []=>rfl
  | x :: l=>⟨x.1.2,l.flatMap (·.1.2),rfl,x.2.2,flat_sub l⟩
theorem cell_lt {b o:Nat} {v:Value} (h:W.cell? ⟨b,o,none⟩=some v):b < W.heap.size:=by
  by_cases hb:b < W.heap.size
  · exact hb
  · simp [World.cell?,Array.getElem?_eq_none (by omega:W.heap.size≤b)] at h
theorem cells_of_strs {base:Nat} {sp:Nat→Bool} {held:Bool} {fuel:Nat} {t e:TypeId} {n:Nat} {cs:List Value} {zs:List (List UInt8)} {p:List MemPlace}
    (ht:P.underlying t=some (.array n e)) (he:P.underlying e=some .string) (hce:P.cellsOf e=1) (hct:P.cellsOf t=n)
    (h:DataW.trod enc P W base sp held fuel t cs=some (.agg (zs.map fun z=>.lit (.string z)),p)):cs=zs.map qo:=by
  obtain ⟨xs,m,_,hx,hlen,hxl,hel⟩:=DataW.trod_array ht h;have hxs:xs.map (·.1)=zs.map fun z=>(DataW.lit (.string z):DataW H):=by
    have:=congrArg Prod.fst hx
    simpa using this.symm
  have hzl:zs.length=n:=by
    have:=congrArg List.length hxs
    simp at this
    omega
  rw [hce] at hel
  apply List.ext_getElem?
  intro i
  by_cases hi:i < n
  · have h1:=hel i hi
    rw [List.getElem?_eq_getElem (by omega:i < xs.length)] at h1;obtain ⟨s,hs,hxv,_⟩:=DataW.trod_string he h1;have h2:cs[i]?=some (.string s):=by
      have:=congrArg (·[0]?) hs
      simpa [List.getElem?_take,List.getElem?_drop] using this
    have h3:(xs.map (·.1))[i]?=some (DataW.lit (.string s.data.toList):DataW H):=by
      rw [List.getElem?_map,List.getElem?_eq_getElem (by omega),hxv]
      rfl
    rw [hxs] at h3;simp only [List.getElem?_map,Option.map_eq_some_iff,DataW.lit.injEq,Lit.string.injEq] at h3;obtain ⟨z',hz',e2⟩:=h3;rw [h2,List.getElem?_map,hz',Option.map_some,e2]
    rfl
  · rw [List.getElem?_eq_none (by omega),List.getElem?_eq_none (by simp; omega)]
theorem flat_of_ints {B:Nat→Prop} {k:IntKind}:∀ l:List Int,Flat (FR B W (.int k)) l (l.map fun z=>Value.int k z)
  | []=>rfl
  | x :: l=>⟨[.int k x],_,rfl,rfl,flat_of_ints l⟩
theorem flat_of_strs {B:Nat→Prop}:∀ l:List (List UInt8),Flat (FR B W .str) l (l.map qo)
  | []=>rfl
  | x :: l=>⟨[qo x],_,rfl,rfl,flat_of_strs l⟩
theorem gr_of {n:String} {i:Nat} {g:GTy} {l:List g.D} {cs:Array Value} (hg:P.globalNamed n=some i) (hv:W.var? P n=some cs) (hf:Flat (FR (fun b=>b < W.heap.size) W g) l cs.toList):GR (fun b=>b < W.heap.size) W i ⟨g,l⟩:=by
  unfold World.var? at hv;rw [hg,Option.bind_some] at hv
  split at hv
  · rename_i cs' e fr hh
    cases hv;have hlt:i < W.heap.size:=(Array.getElem?_eq_some_iff.1 hh).1;refine ⟨⟨i,0,cs.toList,rfl,hlt,hf,fun j u hu=>?_⟩,cs,e,fr,hh,?_⟩
    · simp only [Nat.zero_add,World.cell?,hh]
      simpa using hu
    · have:=FR.flat_length hf
      simpa using this
  · cases hv
theorem glob_id {n:String} {g i:Nat} (h:P.globalNamed n=some g) (hk:P.globalNamed n=some i):g=i:=Option.some.inj (h.symm.trans hk)
theorem type_id {a:Option TypeId} {t u:TypeId} (h:a=some t) (hk:a=some u):t=u:=Option.some.inj (h.symm.trans hk)
end
theorem AC.law {X:Cx} {f:FuncId} {args:List SA} {vs:List Value} {W:World} (h:AC X f args [] (fun sv h=>sv=.c (.val (.bool true))∧h=[])) (hg:GlobOk X (fun b=>b < W.heap.size) W) (ha:SasR (fun _=>.no) (fun b=>b < W.heap.size) W args vs):Ret X.P f vs.toArray W (fun v w'=>v=.bool true∧Below W.heap.size W w'):=by
  refine (h (fun b=>b < W.heap.size) W (fun _=>.no) vs [] W hg ha rfl (SH.start W)).mono ?_;rintro v w' ⟨env',B',w0',H',sv,h',⟨rfl,rfl⟩,h1,h2,h3,h4,h5,h6,h7⟩;have hr:∀ k,k < W.heap.size→Rest W [] k:=fun k hk=>⟨hk,fun c hc=>by cases hc⟩
  exact ⟨h4,h6.below.os.trans h3.os,h6.below.tape.trans h3.tape,h6.below.output.trans h3.output,Nat.le_trans h3.size h6.below.size,fun k hk=>(h6.below.block k (.inl (hr k hk))).trans (h3.block k (hr k hk))⟩
end Go.Proofs.YteglgnkcpaagjaaDoor

/- What the walks printed by tr.py need: models of functions in Option, and how a walk follows them. -/
namespace Go.Proofs.YteglgnkcpaagjaaDoor
open Go.RowKit
def gd {α:Type} (c:Bool) (k:Option α):Option α:=match c with
  | true=>k
  | false=>none
theorem ze {α:Type} {c:Bool} {k:Option α} {r:α} (h:gd c k=some r):c=true∧k=some r:=by
  cases c with
  | true=>exact ⟨rfl,h⟩
  | false=>cases h
theorem gd_t {α:Type} {c:Bool} {k:Option α} (h:c=true):gd c k=k:=by rw [h]; rfl
theorem bd {α β:Type} {x:Option α} {f:α→Option β} {r:β} (h:x.bind f=some r):∃ a,x=some a∧f a=some r:=by
  cases x with
  | none=>cases h
  | some a=>exact ⟨a,rfl,h⟩
theorem cond_t {α:Type} {b:Bool} {x y z:α} (hb:b=true) (h:cond b x y=z):x=z:=by rw [hb] at h; exact h
theorem cond_f {α:Type} {b:Bool} {x y z:α} (hb:b=false) (h:cond b x y=z):y=z:=by rw [hb] at h; exact h
def zF (a b:Bool):Bool:=!a || b
def aB (f:Bool→Bool):Bool:=f true&&f false
theorem aB_ok {f:Bool→Bool} (h:aB f=true) (b:Bool):f b=true:=by
  simp only [aB,Bool.and_eq_true] at h;cases b with
  | true=>exact h.1
  | false=>exact h.2
theorem bf {b:Bool} (h:b=false):(!b)=true:=by rw [h]; rfl
theorem of1 {a d:Bool} (h:zF a d=true) (h1:a=true):d=true:=by rw [h1] at h; exact h
theorem of2 {a b d:Bool} (h:zF a (zF b d)=true) (h1:a=true) (h2:b=true):d=true:=of1 (of1 h h1) h2
theorem of3 {a b c d:Bool} (h:zF a (zF b (zF c d))=true) (h1:a=true) (h2:b=true) (h3:c=true):d=true:=of2 (of1 h h1) h2 h3
theorem of4 {a b c e d:Bool} (h:zF a (zF b (zF c (zF e d)))=true) (h1:a=true) (h2:b=true) (h3:c=true) (h4:e=true):d=true:=of3 (of1 h h1) h2 h3 h4
theorem of5 {a b c e f d:Bool} (h:zF a (zF b (zF c (zF e (zF f d))))=true) (h1:a=true) (h2:b=true) (h3:c=true) (h4:e=true) (h5:f=true):d=true:=of4 (of1 h h1) h2 h3 h4 h5
theorem of6 {a b c e f g d:Bool} (h:zF a (zF b (zF c (zF e (zF f (zF g d)))))=true) (h1:a=true) (h2:b=true) (h3:c=true) (h4:e=true) (h5:f=true) (h6:g=true):d=true:=of5 (of1 h h1) h2 h3 h4 h5 h6
theorem of7 {a b c e f g i d:Bool} (h:zF a (zF b (zF c (zF e (zF f (zF g (zF i d))))))=true) (h1:a=true) (h2:b=true) (h3:c=true) (h4:e=true) (h5:f=true) (h6:g=true) (h7:i=true):d=true:=of6 (of1 h h1) h2 h3 h4 h5 h6 h7
theorem of8 {a b c e f g i j d:Bool} (h:zF a (zF b (zF c (zF e (zF f (zF g (zF i (zF j d)))))))=true) (h1:a=true) (h2:b=true) (h3:c=true) (h4:e=true) (h5:f=true) (h6:g=true) (h7:i=true) (h8:j=true):d=true:=of7 (of1 h h1) h2 h3 h4 h5 h6 h7 h8
theorem bl10 {f:Bool→Bool→Bool→Bool→Bool→Bool→Bool→Bool→Bool→Bool→Bool} (h:(aB fun b0=>aB fun b1=>aB fun b2=>aB fun b3=>aB fun b4=>aB fun b5=>aB fun b6=>aB fun b7=>aB fun b8=>aB fun b9=>f b0 b1 b2 b3 b4 b5 b6 b7 b8 b9)=true) (b0 b1 b2 b3 b4 b5 b6 b7 b8 b9:Bool):f b0 b1 b2 b3 b4 b5 b6 b7 b8 b9=true:=aB_ok (aB_ok (aB_ok (aB_ok (aB_ok (aB_ok (aB_ok (aB_ok (aB_ok (aB_ok h b0) b1) b2) b3) b4) b5) b6) b7) b8) b9
abbrev sm {α β γ:Type} (x:α⊕β) (f:α→Option γ) (g:β→Option γ):Option γ:=match x with
  | .inl a=>f a
  | .inr b=>g b
def FUEL:Nat:=1000000000
section
variable {X:Cx} {M:Bool} {n:Nat} {r:Option Nat} {c:Code} {st:ASt} {Q:Exit→ASt→Prop}
def cutQ (X:Cx) (n:Nat) {O:Type} (S:O→ASt) (P:O→Prop) (Q:Exit→ASt→Prop):Exit→ASt→Prop
  | .normal,s=>∃ o,P o∧Wk X n s (S o)
  | e,s=>Q e s
theorem ax_cutS {O:Type} (S:O→ASt) (P:O→Prop) (h1:AX X M n r c st (cutQ X n S P Q)) (h2:∀ o,P o→Q .normal (S o)):AX X M n r c st Q:=fun R W Bi a w hA=>wpIn_mono (h1 R W Bi a w hA) fun e a w ⟨s,hq,hA'⟩=>by
  cases e with
  | normal=>
    obtain ⟨o,hp,hw⟩:=hq;exact ⟨S o,h2 o hp,hw _ _ _ _ _ _ hA'⟩
  | _=>exact ⟨s,hq,hA'⟩
theorem Wk.conv {s:Nat} {sv:SV} (sv':SV) (hs:lk st.L s=some sv) (hV:∀ env B w v,VR env B w sv v→VR env B w sv' v):Wk X n st ⟨(s,sv') :: st.L,st.H⟩:=fun R W Bi M a w ⟨ks,env,B,w0,H,hM,h⟩=>
  ⟨ks,env,B,w0,H,hM,h.size,h.defs,fun q u hu=>by
    rw [zB] at hu
    split at hu
    · rename_i e
      subst e;cases hu;obtain ⟨v,h1,h2⟩:=h.has _ _ hs;exact ⟨v,h1,hV _ _ _ _ h2⟩
    · exact h.has q u hu,h.heap,h.sh,h.sub,h.new,h.pin,h.base,h.glob⟩
end
theorem ob:(∀ b,(b&&true)=b)∧(∀ b,(true&&b)=b)∧(∀ b,(b || true)=true)∧(∀ b,(true || b)=true)∧(!true)=false∧(!false)=true∧(∀ b,(b || false)=b)∧(∀ b,(false || b)=b)∧(∀ b,(b&&b)=b)∧(∀ b:Bool,(!b || b)=true)∧(∀ b,(b || b)=b):=by decide
theorem oc:(∀ b,(b&&true)=b)∧(∀ b,(true&&b)=b)∧(∀ b,(b||true)=true)∧(∀ b,(true||b)=true)∧(!true)=false∧(!false)=true∧(∀ b,(b||false)=b)∧(∀ b,(false||b)=b)∧(∀ b,(b&&b)=b)∧(∀ b:Bool,(!b||b)=true)∧(∀ b,(b||b)=b)∧(∀ [h:Decidable True],@decide True h=true)∧(∀ {α:Type}(a b:α),cond true a b=a)∧(∀ {α:Type}(a b:α),cond false a b=b):=⟨ob.1,ob.2.1,ob.2.2.1,ob.2.2.2.1,ob.2.2.2.2.1,ob.2.2.2.2.2.1,ob.2.2.2.2.2.2.1,ob.2.2.2.2.2.2.2.1,ob.2.2.2.2.2.2.2.2.1,ob.2.2.2.2.2.2.2.2.2.1,ob.2.2.2.2.2.2.2.2.2.2,fun {_}=>decide_true _,fun _ _=>rfl,fun _ _=>rfl⟩
theorem ob2:(∀ b,(b&&true)=b)∧(∀ b,(true&&b)=b)∧(∀ b,(b&&false)=false)∧(∀ b,(false&&b)=false)∧(!true)=false∧(!false)=true∧((false=true)=False)∧((true=false)=False):=by
  refine ⟨by decide,by decide,by decide,by decide,rfl,rfl,by simp,by simp⟩
end Go.Proofs.YteglgnkcpaagjaaDoor

/- What the rows of laws need beyond L1. -/
namespace Go.Proofs.YteglgnkcpaagjaaDoor
open Go.ChangeShapes Go.WideShapes Go.ChangeAt Go.WideElems Go.RowKit
theorem Tryd.own:ownKnob Tryd.prog.godebug=none:=by kernel_rfl
theorem Tryd.laidOut:laidOutB Tryd.prog=true:=by kernel_rfl
end Go.Proofs.YteglgnkcpaagjaaDoor

/- Maps: making, looking up, setting. -/
namespace Go.Proofs.YteglgnkcpaagjaaDoor
open Go.RowKit
def GTy.beq:(g:GTy)→g.D→g.D→Bool
  | .int _=>fun (x:Int) (y:Int)=>x == y
  | .bool=>fun (x:Bool) (y:Bool)=>x == y
  | .str=>fun (x:List UInt8) (y:List UInt8)=>x == y
  | .pair g h=>fun x y=>g.beq x.1 y.1&&h.beq x.2 y.2
  | _=>fun _ _=>false
def qe (gk gv:GTy):List (gk.D×gv.D)→gk.D→Option gv.D
  | [],_=>none
  | x :: l,k=>match gk.beq x.1 k with
    | true=>some x.2
    | false=>qe gk gv l k
def mset (gk gv:GTy):List (gk.D×gv.D)→gk.D→gv.D→List (gk.D×gv.D)
  | [],k,v=>[(k,v)]
  | x :: l,k,v=>match gk.beq x.1 k with
    | true=>(x.1,v) :: l
    | false=>x :: mset gk gv l k v
def vSA:(g:GTy)→g.D→Option SA
  | .pair a b,x=>(gcells (.pair a b) x 0 (a.size+b.size)).map .agg
  | g,x=>(gcell g x 0).map .c
section
variable {B:Nat→Prop} {w:World} {k:IntKind} {gv:GTy}
theorem MR.findInt {z:Int}:∀ {l:List (Int×gv.D)} {es:List MapEntry} (i:Nat),MR B w (.int k) gv l es →
    (qe (.int k) gv l z=none∧Instr.findNow (.int k) (.int k z) es i=some none)∨∃ x j v,qe (.int k) gv l z=some x∧Instr.findNow (.int k) (.int k z) es i=some (some (i+j,v))∧VD B w gv x v∧j < es.length
  | [],_,i,h=>by rw [show _=[] from h]; exact .inl ⟨rfl,rfl⟩
  | x :: l,_,i,⟨e,r,he,h1,h2,h3⟩=>by
    subst he;have hk:e.key=.int k x.1:=by
      have:=(show FR B w (.int k) x.1 [e.key] from h1)
      have h4:[e.key]=[Value.int k x.1]:=this;exact (List.cons.inj h4).1
    unfold Instr.findNow qe;rw [hk];simp only [Instr.sameNow,if_true]
    by_cases hz:x.1=z
    · have e1:(GTy.int k).beq x.1 z=true:=by simp [GTy.beq,hz]
      have e2:(z == x.1)=true:=by simp [hz]
      rw [e1,e2];exact .inr ⟨x.2,0,e.val,rfl,rfl,h2,by simp⟩
    · have e1:(GTy.int k).beq x.1 z=false:=by simp [GTy.beq,hz]
      have e2:(z == x.1)=false:=by simp [Ne.symm hz]
      rw [e1,e2]
      rcases MR.findInt (i+1) h3 with ⟨h4,h5⟩ | ⟨y,j,v,h4,h5,h6,h7⟩
      · exact .inl ⟨h4,h5⟩
      · exact .inr ⟨y,j+1,v,h4,by rw [h5,Nat.add_assoc,Nat.add_comm 1 j],h6,by simpa using h7⟩
theorem modify_map {es:List MapEntry} {f:MapEntry→MapEntry} (hf:∀ e,(f e).born=e.born):∀ (j:Nat),(es.modify j f).map (·.born)=es.map (·.born):=by
  induction es with
  | nil=>intro j; cases j <;> rfl
  | cons e es ih=>
    intro j;cases j with
    | zero=>simp [hf]
    | succ j=>simp only [List.modify_succ_cons,List.map_cons,ih j]
theorem MR.setInt {z:Int} {xv:gv.D} {vv:Value} (hv:VD B w gv xv vv):∀ {l:List (Int×gv.D)} {es:List MapEntry} (i:Nat),MR B w (.int k) gv l es →
    (Instr.findNow (.int k) (.int k z) es i=some none∧mset (.int k) gv l z xv=l++[(z,xv)]) ∨
    ∃ j v e,Instr.findNow (.int k) (.int k z) es i=some (some (i+j,v))∧es[j]?=some e∧e.key=.int k z∧MR B w (.int k) gv (mset (.int k) gv l z xv) (es.modify j fun e=>{ e with key:=.int k z,val:=vv })
  | [],_,i,h=>by rw [show _=[] from h]; exact .inl ⟨rfl,rfl⟩
  | x :: l,_,i,⟨e,r,he,h1,h2,h3⟩=>by
    subst he;have hk:e.key=.int k x.1:=by
      have h4:[e.key]=[Value.int k x.1]:=h1;exact (List.cons.inj h4).1
    unfold Instr.findNow mset;rw [hk];simp only [Instr.sameNow,if_true]
    by_cases hz:x.1=z
    · have e1:(GTy.int k).beq x.1 z=true:=by simp [GTy.beq,hz]
      have e2:(z == x.1)=true:=by simp [hz]
      rw [e1,e2];refine .inr ⟨0,e.val,e,rfl,rfl,by rw [hk,hz],{ e with key:=.int k z,val:=vv },r,rfl,?_,hv,h3⟩;show [Value.int k z]=[Value.int k x.1]
      rw [hz]
    · have e1:(GTy.int k).beq x.1 z=false:=by simp [GTy.beq,hz]
      have e2:(z == x.1)=false:=by simp [Ne.symm hz]
      rw [e1,e2]
      rcases MR.setInt hv (i+1) h3 with ⟨h4,h5⟩ | ⟨j,v,e',h4,h5,h6,h7⟩
      · exact .inl ⟨h4,by show x :: mset (.int k) gv l z xv=_; rw [h5]; rfl⟩
      · exact .inr ⟨j+1,v,e',by rw [h4,Nat.add_assoc,Nat.add_comm 1 j],by simpa using h5,h6,e,_,rfl,h1,h2,h7⟩
theorem MR.snoc {gk gv:GTy} {x:gk.D×gv.D} {e:MapEntry} (h1:VD B w gk x.1 e.key) (h2:VD B w gv x.2 e.val):∀ {l:List (gk.D×gv.D)} {es:List MapEntry},MR B w gk gv l es→MR B w gk gv (l++[x]) (es++[e])
  | [],_,h=>by rw [show _=[] from h]; exact ⟨e,[],rfl,h1,h2,rfl⟩
  | _ :: _,_,⟨e',r,he,h3,h4,h5⟩=>by subst he; exact ⟨e',_,rfl,h3,h4,MR.snoc h1 h2 h5⟩
def sShape:GTy→SA→Bool
  | .pair _ _,.agg _=>true
  | .pair _ _,.c _=>false
  | _,.c _=>true
  | _,.agg _=>false
  | _,.arr _ _=>false
theorem VD.ofSA {env:Nat→Loc} {g:GTy} {sa:SA} {c:Bool} {x:g.D} {v:Value} (hd:dec g sa.cells=some (c,x,[])) (hc:c=true) (hs:sShape g sa=true) (h:SaR env B w sa v):VD B w g x v:=by
  cases sa with
  | c sc=>
    obtain ⟨v1,v2,e,h1,h2⟩:=dec_ok (cs:=[sc]) (vs:=[v]) ⟨v,[],rfl,h,rfl⟩ hd hc;have e2:v2=[]:=h2;rw [e2,List.append_nil] at e;rw [← e] at h1;cases g with
    | pair a b=>cases hs
    | _=>exact h1
  | arr g2 l=>
    cases g with
    | pair a b=>cases hs
    | _=>cases hs
  | agg cs=>
    obtain ⟨vs,e,h3⟩:=h;obtain ⟨v1,v2,e1,h1,h2⟩:=dec_ok h3 hd hc;have e2:v2=[]:=h2;rw [e2,List.append_nil] at e1;cases g with
    | pair a b=>exact ⟨vs,e,by rw [e1]; exact h1⟩
    | _=>cases hs
theorem VD.sa {env:Nat→Loc} {g:GTy} {x:g.D} {v:Value} {sa:SA} (h:VD B w g x v) (hs:vSA g x=some sa):SaR env B w sa v:=by
  have one:∀ {g:GTy} {x:g.D} {v:Value} {sa:SA},FR B w g x [v]→(gcell g x 0).map SA.c=some sa→SaR env B w sa v:=by
    intro g x v sa h hs;obtain ⟨c,hc,rfl⟩:=Option.map_eq_some_iff.1 hs;obtain ⟨u,h1,h2⟩:=FR.cell (env:=env) h hc;simp only [List.getElem?_cons_zero,Option.some.injEq] at h1;rw [h1];exact h2
  cases g with
  | pair a b=>
    obtain ⟨vs,e,h1⟩:=h;obtain ⟨l,hl,rfl⟩:=Option.map_eq_some_iff.1 (show (gcells (.pair a b) x 0 (a.size+b.size)).map SA.agg=some sa from hs);obtain ⟨us,⟨h2,h3⟩,h4⟩:=FR.cells (env:=env) h1 hl;have hlen:vs.length=a.size+b.size:=FR.length h1
    have:us=vs:=by
      apply List.ext_getElem?
      intro i
      by_cases hi:i < us.length
      · rw [List.getElem?_eq_getElem hi]
        have:=h3 i us[i] (List.getElem?_eq_getElem hi)
        rw [Nat.zero_add] at this;exact this.symm
      · rw [List.getElem?_eq_none (by omega),List.getElem?_eq_none (by omega)]
    subst this;exact ⟨us,e,h4⟩
  | _=>exact one h hs
end
section
variable {X:Cx} {M:Bool} {n:Nat} {r:Option Nat} {st:ASt} {Q:Exit→ASt→Prop} {ops rest:List Oper} {o:Oper} {d:Nat}
theorem al_makeMap (gk gv:GTy) {t:TypeId} (hop:o.op=.makeMap t none) (ho:o.guard=none∧o.dst=some d) (hd:Nat.blt d n=true)
    (hnext:AL X M n r ops rest ⟨(d,.c (.mref d)) :: subL d .dead st.L,(d,.mp gk gv [] none) :: delH d .dead st.H⟩ Q):AL X M n r ops (o :: rest) st Q:=by
  rintro R W Bi a w ⟨ks,env,B,w0,H,hM,hA⟩;refine zW (qw hA.stt ho.1 ho.2 (zh hd) (v:=.map (some w.heap.size)) (w':=w.alloc (.map #[] 0)) (by simp [execOp,hop,Instr.makeMap,newObj,Sem.run]) fun a' hS=>?_);obtain ⟨H',_,h3⟩:=hA.newBlk (d:=d) hd (l:=.blk w.heap.size) (blk:=.mp gk gv [] none) (sv:=.c (.mref d)) (hA.sh.alloc (.map #[] 0)) ⟨_,[],0,zC,rfl,rfl,⟨List.Pairwise.nil,fun _ h=>by cases h⟩,fun _ h=>by cases h⟩ ⟨_,zC,rfl⟩ hS;exact hnext R W Bi a' _ ⟨ks,_,B,w0,H',hM,h3⟩
end
end Go.Proofs.YteglgnkcpaagjaaDoor

/- Ranges over maps. -/
namespace Go.Proofs.YteglgnkcpaagjaaDoor
open Go.RowKit
section
variable {X:Cx} {M:Bool} {n:Nat} {r:Option Nat} {st:ASt} {Q:Exit→ASt→Prop} {ops rest:List Oper} {o:Oper} {d:Nat}
end
end Go.Proofs.YteglgnkcpaagjaaDoor

/- What ranges over maps compute: the same in all orders. -/
namespace Go.Proofs.YteglgnkcpaagjaaDoor
open Go.RowKit
section
variable {α β:Type}
end
end Go.Proofs.YteglgnkcpaagjaaDoor

/- Strings by index. -/
namespace Go.Proofs.YteglgnkcpaagjaaDoor
open Go.RowKit
section
variable {X:Cx} {M:Bool} {n:Nat} {r:Option Nat} {st:ASt} {Q:Exit→ASt→Prop} {ops rest:List Oper} {o:Oper} {d:Nat}
theorem al_one (hX:X.tt.ok X.P) {c:Bool} {st':ASt} (hs:astep X n (zU ops) st o=.ok c st') (hc:c=true) (h:AL X M n r ops rest st' Q):AL X M n r ops (o :: rest) st Q:=by
  rintro R W Bi a w ⟨ks,env,B,w0,H,hM,hA⟩;exact zW (qh hX hs hc hA fun a' w' env' H' _ hA'=>h _ _ _ _ _ ⟨ks,env',B,w0,H',hM,hA'⟩)
end
end Go.Proofs.YteglgnkcpaagjaaDoor

/- Arrays of the call's own are rows. -/
namespace Go.Proofs.YteglgnkcpaagjaaDoor
open Go.RowKit
def decs (g:GTy):Nat→List SC→Option (Bool×List g.D×List SC)
  | 0,r=>some (true,[],r)
  | m+1,r=>match dec g r with
    | some (c1,x,r1)=>match decs g m r1 with
      | some (c2,l,r2)=>some (c1&&c2,x :: l,r2)
      | none=>none
    | none=>none
section
variable {env:Nat→Loc} {B:Nat→Prop} {w:World}
theorem decs_ok {g:GTy}:∀ {m:Nat} {cs:List SC} {c:Bool} {l:List g.D} {r:List SC} {vs:List Value},CsR env B w cs vs→decs g m cs=some (c,l,r)→c=true→l.length=m∧∃ v1 v2,vs=v1++v2∧Flat (FR B w g) l v1∧CsR env B w r v2
  | 0,cs,c,l,r,vs,h,hd,_=>by
    cases hd;exact ⟨rfl,[],vs,rfl,rfl,h⟩
  | m+1,cs,c,l,r,vs,h,hd,hc=>by
    simp only [decs] at hd
    split at hd
    · rename_i c1 x r1 h1
      split at hd
      · rename_i c2 l2 r2 h2
        cases hd;simp only [Bool.and_eq_true] at hc;obtain ⟨v1,v2,rfl,h3,h4⟩:=dec_ok h h1 hc.1;obtain ⟨hl,v3,v4,rfl,h5,h6⟩:=decs_ok h4 h2 hc.2;exact ⟨by rw [List.length_cons,hl],v1++v3,v4,by rw [List.append_assoc],⟨v1,v3,rfl,h3,h5⟩,h6⟩
      · cases hd
    · cases hd
end
section
variable {X:Cx} {R:Nat→Prop} {W:World} {Bi:Bk} {n:Nat} {ks:List Nat} {env:Nat→Loc} {B:Nat→Prop} {w0:World} {H:List Ck} {st st':ASt} {a:Act} {w:World}
theorem Wk.arr (s:Nat) (g:GTy) (m:Nat) (l:List g.D) {t:TypeId} {cs:List SC} {c:Bool} (hid:Nat.blt s n=true) (hs:lk st.L s=some (.c (.ptr s 0))) (hlk:lk st.H s=some (.cells t cs)) (hdec:decs g m cs=some (c,l,[])) (hc:c=true) (hm:m≤140737488355328) :
    Wk X n st ⟨(s,.c (.elt s g.size 0 0)) :: subL s .dead st.L,(s,.row t g l (some m)) :: delH s .dead st.H⟩:=fun R W Bi M a w ⟨ks,env,B,w0,H,hM,h⟩=>by
  obtain ⟨ck,Y,Z,⟨b,vs,he,rfl,hcs⟩,h2,h3⟩:=h.heap.take hlk;obtain ⟨hl,v1,v2,hv,hfl,hv2⟩:=decs_ok hcs hdec hc;have hv2':v2=[]:=hv2;subst hv2';rw [List.append_nil] at hv;subst hv;subst hl;obtain ⟨H2,h4,h5,_⟩:=h3 (upd env s (.row (some ⟨b,0,none⟩) l.length l.length)) .dead zM (fun _ _=>trivial);have hp:(H++ks.map mkO).Perm (Ck.cel b vs t :: (Y++Z++ks.map mkO)):=by
    rw [h2];simp only [List.append_assoc,List.cons_append];exact List.perm_middle
  have hs1:SH (fun k=>R k∨B k) w0 (Ck.cel b vs t :: (H2++ks.map mkO)) w:=(h.sh.perm hp).weak ((h4.append_right _).cons_cons _);refine ⟨ks,upd env s (.row (some ⟨b,0,none⟩) l.length l.length),B,w0,.row (some ⟨b,0,none⟩) l.length t g.size l.length vs :: H2,hM,h.size,h.defs,fun q u hu=>?_,⟨_,H2,rfl,⟨_,_,vs,zC,rfl,hfl,fun q hq=>by cases hq; rfl⟩,h5⟩,hs1.toRow (FR.flat_length hfl) hm,h.sub,h.new,pin_upd h.pin (fun q hp=>by have h1:=(h.pin _ _ hp).1; have h2:=zh hid; omega),h.base,h.glob⟩;rw [zB] at hu
  split at hu
  · rename_i e
    subst e;cases hu;obtain ⟨u',h6,b',h7,h8⟩:=h.has _ _ hs;rw [he] at h7;cases h7;exact ⟨u',h6,b,_,_,zC,by rw [h8]; simp⟩
  · obtain ⟨u0,hu0,rfl⟩:=lk_subL hu
    obtain ⟨u',h6,h7⟩:=h.has q u0 hu0;exact ⟨u',h6,VR.sub (z:=.dead) zM (fun _ _=>trivial) h7⟩
end
section
variable {X:Cx} {M:Bool} {n:Nat} {r:Option Nat} {st:ASt} {Q:Exit→ASt→Prop} {ops rest:List Oper} {o:Oper} {d:Nat}
theorem qy (k:Nat) (hX:X.tt.ok X.P) {c':Bool} {st':ASt} {l:List Oper} (h:arun X n (zU ops) (l.take k) true st=.done c' st') (hc:c'=true) (hQ:AL X M n r ops (l.drop k) st' Q):AL X M n r ops l st Q:=by
  have:∀ (k:Nat) (l:List Oper) (c:Bool) (st:ASt),arun X n (zU ops) (l.take k) c st=.done c' st'→AL X M n r ops (l.drop k) st' Q→AL X M n r ops l st Q:=by
    intro k
    induction k with
    | zero=>intro l c st h hQ; simp only [List.take_zero,arun] at h; cases h; exact hQ
    | succ k ih=>
      intro l c st h hQ;cases l with
      | nil=>simp only [List.take_nil,arun] at h; cases h; exact hQ
      | cons o l=>
        simp only [List.take_succ_cons,arun] at h
        split at h
        · rename_i c2 st2 hs
          have h2:=arun_c h hc;simp only [Bool.and_eq_true] at h2;rintro R W Bi a w ⟨ks,env,B,w0,H,hM,hA⟩;exact zW (qh hX hs h2.2 hA fun a' w' env' H' _ hA'=>ih l _ _ h hQ _ _ _ _ _ ⟨ks,env',B,w0,H',hM,hA'⟩)
        · cases h
  exact this k l true st h hQ
end
end Go.Proofs.YteglgnkcpaagjaaDoor

/- Structs are compared. -/
namespace Go.Proofs.YteglgnkcpaagjaaDoor
open Go.RowKit
def GTy.key:GTy→Bool
  | .int _=>true
  | .bool=>true
  | .str=>true
  | .pair g h=>g.key&&h.key
  | _=>false
def GTy.vals:(g:GTy)→g.D→List Value
  | .int k,x=>[.int k x]
  | .bool,x=>[.bool x]
  | .str,x=>[qo x]
  | .pair g h,x=>g.vals x.1++h.vals x.2
  | _,_=>[]
theorem FR.vals {B:Nat→Prop} {w:World}:∀ {g:GTy} {x:g.D} {vs:List Value},g.key=true→FR B w g x vs→vs=g.vals x
  | .int _,_,_,_,h=>h
  | .bool,_,_,_,h=>h
  | .str,_,_,_,h=>h
  | .sl _,_,_,h,_=>by cases h
  | .csl _,_,_,h,_=>by cases h
  | .unit,_,_,h,_=>by cases h
  | .pair g h,x,_,hk,⟨v1,v2,e,h1,h2⟩=>by
    simp only [GTy.key,Bool.and_eq_true] at hk;rw [e,FR.vals hk.1 h1,FR.vals hk.2 h2]
    rfl
theorem beq_iff {g:GTy} (x y:g.D) (hk:g.key=true):g.beq x y=true ↔ x=y:=by
  induction g with
  | int k=>show ((x:Int) == y)=true ↔ _; simp
  | bool=>show ((x:Bool) == y)=true ↔ _; simp
  | str=>show ((x:List UInt8) == y)=true ↔ _; simp
  | sl g _=>cases hk
  | csl g _=>cases hk
  | unit=>cases hk
  | pair g h ih1 ih2=>
    simp only [GTy.key,Bool.and_eq_true] at hk;show (g.beq x.1 y.1&&h.beq x.2 y.2)=true ↔ _;rw [Bool.and_eq_true,ih1 _ _ hk.1,ih2 _ _ hk.2];exact ⟨fun ⟨a,b⟩=>Prod.ext a b,fun e=>by rw [e]; exact ⟨rfl,rfl⟩⟩
structure KeyOk (P:Program) (t:TypeId) (g:GTy):Prop where
  key:g.key=true
  eq:∀ (x y:g.D) (w:World),(Op.equalIn 10000 t (.agg (g.vals x).toArray) (.agg (g.vals y).toArray)).run P w=.ok (g.beq x y) w
  guard:P.eqGuardType P.depth t=false
def GTy.isK:GTy→Nat→Bool
  | .int _,0=>true
  | .bool,1=>true
  | .str,2=>true
  | _,_=>false
def eqFs (e:TypeId→GTy→Bool):Nat→List Field→GTy→Bool
  | _,[],_=>false
  | off, [f], g => decide (f.name ≠ "_") && (Nat.beq f.offset off && e f.type g)
  | off, f :: fs, .pair g h => decide (f.name ≠ "_") && (Nat.beq f.offset off && (e f.type g && eqFs e (off + g.size) fs h))
  | _,_,_=>false
def eqT (P:Program) (tt:TT):Nat→TypeId→GTy→Bool
  | 0,_,_=>false
  | d+1,t,g=>match tt.find t with
    | none=>false
    | some te=>match te.ti.desc with
      | .int _=>g.isK 0
      | .bool=>g.isK 1
      | .string=>g.isK 2
      | .struct fs=>Nat.beq te.ti.size g.size&&(!P.stoodInHeld t&&eqFs (eqT P tt d) 0 fs.toList g)
      | _=>false
def vd (tt:TT) (t:TypeId) (vs:List Value):Value:=match tt.find t with
  | some te=>match isAggD te.ti.desc with
    | true=>.agg vs.toArray
    | false=>vs.headD undef
  | none=>undef
theorem vals_len:∀ {g:GTy} (x:g.D),g.key=true→(g.vals x).length=g.size
  | .int _,_,_=>rfl
  | .bool,_,_=>rfl
  | .str,_,_=>rfl
  | .sl _,_,h=>by cases h
  | .csl _,_,h=>by cases h
  | .unit,_,h=>by cases h
  | .pair g h,x,hk=>by
    simp only [GTy.key,Bool.and_eq_true] at hk;show (g.vals x.1++h.vals x.2).length=g.size+h.size;rw [List.length_append,vals_len x.1 hk.1,vals_len x.2 hk.2]
theorem qb {P:Program} {tt:TT} (hX:tt.ok P) {d:Nat} {t:TypeId} {g:GTy} {x:g.D} {xs:Array Value} {off:Nat} {r:List Value} (hk:g.key=true) (he:eqT P tt d t g=true) (hx:xs.toList.drop off=g.vals x++r) (w:World):(part t xs off).run P w=.ok (vd tt t (g.vals x)) w:=by
  cases d with
  | zero=>cases he
  | succ d=>
    unfold eqT at he;cases hf:tt.find t with
    | none=>simp [hf] at he
    | some te=>
      rw [hf] at he;dsimp only at he;have hti:=(TT.get hX hf).ti;have h1:∀ v,g.vals x=[v]→xs[off]?=some v:=fun v hv=>by
        have h2:(xs.toList.drop off)[0]?=some v:=by rw [hx,hv]; rfl
        rw [List.getElem?_drop] at h2
        simpa using h2
      unfold part;simp only [Sem.run_bind,TI.run_isAgg hti,Result.andThen_ok];unfold vd;rw [hf];dsimp only;have hone:∀ q,g.isK q=true→∃ v,g.vals x=[v]:=fun q hq=>by
        cases g with
        | int k=>exact ⟨_,rfl⟩
        | bool=>exact ⟨_,rfl⟩
        | str=>exact ⟨_,rfl⟩
        | sl _=>cases hk
        | csl _=>cases hk
        | unit=>cases hk
        | pair _ _=>cases q <;> cases hq
      split at he
      · rename_i hd
        obtain ⟨v,hv⟩:=hone _ he;rw [hd,h1 v hv,hv]
        rfl
      · rename_i hd
        obtain ⟨v,hv⟩:=hone _ he;rw [hd,h1 v hv,hv]
        rfl
      · rename_i hd
        obtain ⟨v,hv⟩:=hone _ he;rw [hd,h1 v hv,hv]
        rfl
      · rename_i fs hd
        simp only [Bool.and_eq_true] at he;rw [hd];have hs:=Nat.eq_of_beq_eq_true he.1;simp only [isAggD,if_true,Sem.run_bind,TI.run_sizeOf hti,Result.andThen_ok,Sem.run_pure,hs];have h3:xs.extract off (off+g.size)=(g.vals x).toArray:=by
          apply Array.toList_inj.1
          rw [Array.toList_extract,List.extract_eq_take_drop,hx,Nat.add_sub_cancel_left,List.take_left' (vals_len x hk)]
        rw [h3]
      · cases he
theorem eqFs_ok {P:Program} {tt:TT} (hX:tt.ok P) {k d:Nat} (ih:∀ t (g:GTy) (x y:g.D) w,g.key=true→eqT P tt k t g=true→(Op.equalIn d t (vd tt t (g.vals x)) (vd tt t (g.vals y))).run P w=.ok (g.beq x y) w) :
    ∀ (fs:List Field) (off:Nat) (g:GTy) (x y:g.D) (xs ys:Array Value) (w:World),g.key=true→eqFs (eqT P tt k) off fs g=true→xs.toList.drop off=g.vals x→ys.toList.drop off=g.vals y→(Op.eqFields d xs ys fs).run P w=.ok (g.beq x y) w:=by
  intro fs
  induction fs with
  | nil=>intro off g x y xs ys w _ h; simp [eqFs] at h
  | cons f fs ihf=>
    intro off g x y xs ys w hk h hx hy;cases fs with
    | nil=>
      have h' : (decide (f.name ≠ "_") && (Nat.beq f.offset off && eqT P tt k f.type g)) = true := by
        cases g <;> exact h
      simp only [Bool.and_eq_true,decide_eq_true_eq] at h';obtain ⟨hn,ho,he⟩:=h';have ho:=Nat.eq_of_beq_eq_true ho;simp only [Op.eqFields,if_pos hn,Sem.run_bind,ho,qb hX hk he (r:=[]) (by rw [hx,List.append_nil]),qb hX hk he (r:=[]) (by rw [hy,List.append_nil]),Result.andThen_ok,ih _ _ _ _ _ hk he];cases g.beq x y <;> simp
    | cons f2 fs=>
      cases g with
      | pair g h2=>
        have h' : (decide (f.name ≠ "_") && (Nat.beq f.offset off && (eqT P tt k f.type g && eqFs (eqT P tt k) (off + g.size) (f2 :: fs) h2))) = true := h
        simp only [Bool.and_eq_true,decide_eq_true_eq] at h';obtain ⟨hn,ho,he,hr⟩:=h';have ho:=Nat.eq_of_beq_eq_true ho;simp only [GTy.key,Bool.and_eq_true] at hk;have hx':xs.toList.drop off=g.vals x.1++h2.vals x.2:=hx;have hy':ys.toList.drop off=g.vals y.1++h2.vals y.2:=hy;have hrest:=ihf (off+g.size) h2 x.2 y.2 xs ys w hk.2 hr (by rw [← List.drop_drop,hx',← vals_len x.1 hk.1,List.drop_left]) (by rw [← List.drop_drop,hy',← vals_len y.1 hk.1,List.drop_left]);show _=Result.ok (g.beq x.1 y.1&&h2.beq x.2 y.2) w;rw [Op.eqFields,if_pos hn];simp only [Sem.run_bind,ho,qb hX hk.1 he hx',qb hX hk.1 he hy',Result.andThen_ok,ih _ _ _ _ _ hk.1 he];cases hb:g.beq x.1 y.1 with
        | true=>simpa using hrest
        | false=>simp
      | int _=>simp [eqFs] at h
      | bool=>simp [eqFs] at h
      | str=>simp [eqFs] at h
      | sl _=>simp [eqFs] at h
      | csl _=>simp [eqFs] at h
      | unit=>simp [eqFs] at h
theorem eqT_ok {P:Program} {tt:TT} (hX:tt.ok P) (m:Nat):∀ (k:Nat) (t:TypeId) (g:GTy) (x y:g.D) (w:World),g.key=true→eqT P tt k t g=true→(Op.equalIn (m+k) t (vd tt t (g.vals x)) (vd tt t (g.vals y))).run P w=.ok (g.beq x y) w:=by
  intro k
  induction k with
  | zero=>intro t g x y w _ h; cases h
  | succ k ih=>
    intro t g x y w hk h;have h0:=h;unfold eqT at h;cases hf:tt.find t with
    | none=>simp [hf] at h
    | some te=>
      rw [hf] at h;dsimp only at h;have hti:=(TT.get hX hf).ti;have hd0:=hti.1;unfold vd;rw [hf];dsimp only
      split at h
      · rename_i k1 hd
        rw [hd] at hd0 ⊢;cases g with
        | int k=>exact run_equalIn_int w _ t _ _ _ _ hd0
        | _=>cases h
      · rename_i hd
        rw [hd] at hd0 ⊢;cases g with
        | bool=>exact run_equalIn_bool w _ t _ _ hd0
        | _=>cases h
      · rename_i hd
        rw [hd] at hd0 ⊢;cases g with
        | str=>
          have:=run_equalIn_string (P:=P) w (m+k) t ⟨List.toArray x⟩ ⟨List.toArray y⟩ hd0
          simp only [bytes_toList] at this;exact this
        | _=>cases h
      · rename_i fs hd
        rw [hd] at hd0 ⊢;simp only [Bool.and_eq_true,Bool.not_eq_true'] at h;have hfs:P.underlying t=some (.struct fs.toList.toArray):=by simpa using hd0
        show (Op.equalIn (m+k+1) t (.agg _) (.agg _)).run P w=_;rw [eq_struct w (m+k) t _ _ hfs h.2.1];exact eqFs_ok hX ih fs.toList 0 g x y _ _ w hk h.2.2 (by simp) (by simp)
      · cases h
theorem KeyOk.of {P:Program} {tt:TT} (hX:tt.ok P) {t:TypeId} {te:TE} {g:GTy} {fs:Array Field} (hk:g.key=true) (hf:tt.find t=some te) (hd:te.ti.desc=.struct fs) (h:eqT P tt 12 t g=true) (hg:P.eqGuardType P.depth t=false):KeyOk P t g:=by
  refine ⟨hk,fun x y w=>?_,hg⟩
  have:=eqT_ok hX 9988 12 t g x y w hk h
  unfold vd at this;rw [hf] at this;dsimp only at this;rw [hd] at this;exact this
section
variable {X:Cx} {M:Bool} {n:Nat} {r:Option Nat} {st:ASt} {Q:Exit→ASt→Prop} {ops rest:List Oper} {o:Oper} {d:Nat}
theorem CsR.vals {env:Nat→Loc} {B:Nat→Prop} {w:World} {g:GTy} {cs:List SC} {x:g.D} {c:Bool} {v:Value} (hk:g.key=true) (h1:SaR env B w (.agg cs) v) (hd:dec g cs=some (c,x,[])) (hc:c=true):v=.agg (g.vals x).toArray:=by
  obtain ⟨vs,rfl,h1⟩:=h1;obtain ⟨v1,v2,e2,hf,h2⟩:=dec_ok h1 hd hc;have h4:v2=[]:=h2;subst h4;rw [List.append_nil] at e2;subst e2;rw [FR.vals hk hf]
theorem al_eqlA {t t':TypeId} {u v:Operand} {g1 g2 c1 c2:Bool} {cs ds:List SC} {g:GTy} {x y:g.D} (hK:KeyOk X.P t g) (hop:o.op=.binOp .eql t u v t') (ho:o.guard=none∧o.dst=some d) (hd:Nat.blt d n=true)
    (hu:ae X st.L u=some (g1,.agg cs)) (hg1:g1=true) (hv:ae X st.L v=some (g2,.agg ds)) (hg2:g2=true) (hx:dec g cs=some (c1,x,[])) (hc1:c1=true) (hy:dec g ds=some (c2,y,[])) (hc2:c2=true)
    (hnext:AL X M n r ops rest ⟨(d,.c (.val (.bool (g.beq x y)))) :: st.L,st.H⟩ Q):AL X M n r ops (o :: rest) st Q:=by
  rintro R W Bi a w ⟨ks,env,B,w0,H,hM,hA⟩;obtain ⟨vu,h1,h2⟩:=hA.ev hu hg1;obtain ⟨vv,h3,h4⟩:=hA.ev hv hg2;rw [CsR.vals hK.key h2 hx hc1] at h1;rw [CsR.vals hK.key h4 hy hc2] at h3;refine zW (qw hA.stt ho.1 ho.2 (zh hd) (v:=.bool (g.beq x y)) (w':=w) (p_eql_a hA.stt hop h1 h3 hK.guard (hK.eq x y) w) fun a' hS=>?_);exact hnext R W Bi a' _ ⟨ks,env,B,w0,H,hM,hA.set (sv:=.c (.val (.bool (g.beq x y)))) rfl hS⟩
theorem al_neqA {t t':TypeId} {u v:Operand} {g1 g2 c1 c2:Bool} {cs ds:List SC} {g:GTy} {x y:g.D} (hK:KeyOk X.P t g) (hop:o.op=.binOp .neq t u v t') (ho:o.guard=none∧o.dst=some d) (hd:Nat.blt d n=true)
    (hu:ae X st.L u=some (g1,.agg cs)) (hg1:g1=true) (hv:ae X st.L v=some (g2,.agg ds)) (hg2:g2=true) (hx:dec g cs=some (c1,x,[])) (hc1:c1=true) (hy:dec g ds=some (c2,y,[])) (hc2:c2=true)
    (hnext:AL X M n r ops rest ⟨(d,.c (.val (.bool (!(g.beq x y))))) :: st.L,st.H⟩ Q):AL X M n r ops (o :: rest) st Q:=by
  rintro R W Bi a w ⟨ks,env,B,w0,H,hM,hA⟩;obtain ⟨vu,h1,h2⟩:=hA.ev hu hg1;obtain ⟨vv,h3,h4⟩:=hA.ev hv hg2;rw [CsR.vals hK.key h2 hx hc1] at h1;rw [CsR.vals hK.key h4 hy hc2] at h3;refine zW (qw hA.stt ho.1 ho.2 (zh hd) (v:=.bool (!(g.beq x y))) (w':=w) (p_neq_a hA.stt hop h1 h3 hK.guard (hK.eq x y) w) fun a' hS=>?_);exact hnext R W Bi a' _ ⟨ks,env,B,w0,H,hM,hA.set (sv:=.c (.val (.bool (!(g.beq x y))))) rfl hS⟩
end
end Go.Proofs.YteglgnkcpaagjaaDoor

/- Arguments of any kind of plain data. -/
namespace Go.Proofs.YteglgnkcpaagjaaDoor
open Go.ChangeShapes Go.WideShapes Go.ChangeAt Go.WideElems Go.RowKit
def WfD:(g:GTy)→g.D→Prop
  | .int k,(x:Int)=>k.min≤x∧x≤k.max
  | .sl g,(l:List g.D)=>∀ y∈l,WfD g y
  | .pair g h,x=>WfD g x.1∧WfD h x.2
  | _,_=>True
def sizeIs (tt:TT) (t:TypeId) (n:Nat):Bool:=match tt.find t with
  | some te=>Nat.beq te.ti.size n
  | none=>false
def fsG (tt:TT) (e:TypeId→GTy→Bool):Nat→List Field→GTy→Bool
  | _,[],_=>false
  | off,[f],g=>Nat.beq f.offset off&&(sizeIs tt f.type g.size&&e f.type g)
  | off,f :: fs,.pair g h=>Nat.beq f.offset off&&(sizeIs tt f.type g.size&&(e f.type g&&fsG tt e (off+g.size) fs h))
  | _,_,_=>false
def arG (tt:TT) (e:TypeId→GTy→Bool) (t:TypeId) (s:Nat):Nat→GTy→Bool
  | 0,_=>false
  | 1,g=>Nat.beq g.size s&&e t g
  | n+1,.pair g h=>Nat.beq g.size s&&(e t g&&arG tt e t s n h)
  | _,_=>false
def GTy.isI:GTy→IntKind→Bool
  | .int k,k'=>decide (k=k')
  | _,_=>false
def tyG (tt:TT):Nat→TypeId→GTy→Bool
  | 0,_,_=>false
  | d+1,t,g=>match tt.find t with
    | none=>false
    | some te=>match te.ti.desc with
      | .int k=>g.isI k
      | .bool=>g.isK 1
      | .string=>g.isK 2
      | .slice e=>match g with
        | .sl h=>Nat.blt 0 h.size&&(sizeIs tt e h.size&&tyG tt d e h)
        | _=>false
      | .struct fs=>Nat.beq te.ti.size g.size&&fsG tt (tyG tt d) 0 fs.toList g
      | .array n e=>Nat.beq te.ti.size g.size&&(match tt.find e with
        | some ee=>arG tt (tyG tt d) e ee.ti.size n g
        | none=>false)
      | _=>false
section
variable {H:Type} {enc:TypeId×Value→H} {P:Program} {W:World} {tt:TT}
theorem cells_tt (hX:tt.ok P) {t:TypeId} {te:TE} (h:tt.find t=some te):P.cellsOf t=te.ti.size:=by
  obtain ⟨x,h1,h2,_⟩:=TI.info (TT.get hX h).ti;unfold Program.cellsOf;rw [h1];exact h2
theorem cells_is (hX:tt.ok P) {t:TypeId} {n:Nat} (h:sizeIs tt t n=true):P.cellsOf t=n:=by
  unfold sizeIs at h
  split at h
  · rename_i te hf
    rw [cells_tt hX hf];exact Nat.eq_of_beq_eq_true h
  · cases h
theorem slice_dec {g:GTy} {R:g.D→Prop} (hs0:0 < g.size) {t e:TypeId} (ht:P.underlying t=some (.slice e)) (hc:P.cellsOf e=g.size) (hdec:DecOk enc P W e g R):DecOk enc P W t (.sl g) (fun (l:List g.D)=>∀ y∈l,R y):=fun k cs x hf=>by
  let α:={ p:g.D×List Value // R p.1∧FR (fun b=>b < W.heap.size) W g p.1 p.2 }
  let f:α→List Value:=fun p=>p.1.2
  have hs:∀ x:α,(f x).length=g.size:=fun x=>x.2.2.length
  rcases DataW.trod_slice ht hf with ⟨h,_⟩ | ⟨a,len,cap,elems,rest,n,_,h,_,_,hl,hm,hlen,hel,_,_⟩
  · subst h
    exact ⟨([]:List g.D),(fun y hy=>by cases hy),none,0,[],rfl,Nat.le_refl _,Nat.zero_le _,rfl,Reads.nil _ _ _,fun _ _ h=>absurd h (Nat.lt_irrefl _)⟩
  · subst h
    rw [hc] at hel;obtain ⟨l,hll,hq⟩:=choose_list (Q:=fun i (y:α)=>∀ j,j < g.size→W.cell? ((a.add (i * g.size)).add j)=(f y)[j]?) len (fun i hi=>by
      have h1:=hel i hi;have h2:elems[i]?=some (elems[i]'(by omega)):=List.getElem?_eq_getElem (by omega);rw [h2,Option.bind_eq_some_iff] at h1;obtain ⟨cs,h3,h4⟩:=h1;obtain ⟨y,hy1,hy2⟩:=hdec _ _ _ h4;exact ⟨⟨(y,cs),hy1,hy2⟩,(World.cells?_some h3).2.2⟩)
    have hr:Reads W (some a) len g.size (l.flatMap f):=by
      refine ⟨by rw [flat_length f g.size hs,hll],fun h0=>?_⟩;have hz:=hq 0 (by omega) 0 hs0;have hz':W.cell? a=some ((f l[0])[0]'(by rw [hs]; exact hs0)):=by
        have e2:(a.add (0 * g.size)).add 0=a:=by simp [Addr.add]
        rw [e2,List.getElem?_eq_getElem (by rw [hs]; exact hs0)] at hz;exact hz
      have hsp:=spot_none hz';refine ⟨a.block,a.off,congrArg some hsp,fun j u hu=>?_⟩;have hj:j < len * g.size:=by have:=(List.getElem?_eq_some_iff.1 hu).1; rwa [flat_length f g.size hs,hll] at this
      have hdiv:j / g.size < len:=(Nat.div_lt_iff_lt_mul hs0).2 hj;have hmod:=Nat.mod_lt j hs0;have h5:=hq (j / g.size) (by omega) (j % g.size) hmod;rw [hsp,Addr.add_lit,Addr.add_lit,List.getElem?_eq_getElem (by rw [hs]; exact hmod)] at h5;have h6:=flat_get f g.size hs l (j / g.size) (j % g.size) (by omega) _ (List.getElem?_eq_getElem (by rw [hs]; exact hmod));have hjs:j / g.size * g.size+j % g.size=j:=by rw [Nat.mul_comm]; exact Nat.div_add_mod j g.size
      rw [hjs,hu] at h6;rw [Nat.add_assoc,hjs] at h5;rw [h5,h6]
    refine ⟨l.map (·.1.1),fun x hx=>?_,some a,cap,l.flatMap f,by rw [List.length_map,hll],by rw [List.length_map,hll]; exact hl,hm,flat_sub l,by rw [List.length_map,hll]; exact hr,fun b p hm e=>?_⟩
    · obtain ⟨p,_,rfl⟩:=List.mem_map.1 hx
      exact p.2.1
    · rw [List.length_map] at hm
      obtain ⟨b',p',e',hcell⟩:=hr.2 (by omega);rw [e] at e';cases e';cases hx:(l.flatMap f)[0]? with
      | some u=>exact cell_lt (hcell 0 u hx)
      | none=>
        exfalso
        have h3:=hr.1;rw [List.getElem?_eq_none_iff] at hx;have h4:0 < len * g.size:=Nat.mul_pos (by omega) hs0;omega
theorem fs_dec (hX:tt.ok P) {e:TypeId→GTy→Bool} (ih:∀ t g,e t g=true→DecOk enc P W t g (WfD g)):∀ (fs:List Field) (off:Nat) (g:GTy) (cs:List Value),fsG tt e off fs g=true→cs.length=off+g.size →
    (∀ f∈fs,∃ m x,DataW.trod enc P W 0 (fun _=>true) true m f.type ((cs.drop f.offset).take (P.cellsOf f.type))=some x)→∃ y:g.D,WfD g y∧FR (fun b=>b < W.heap.size) W g y (cs.drop off):=by
  intro fs
  induction fs with
  | nil=>intro off g cs h; simp [fsG] at h
  | cons f fs ihf=>
    intro off g cs h hl hf;cases fs with
    | nil=>
      have h':(Nat.beq f.offset off&&(sizeIs tt f.type g.size&&e f.type g))=true:=by
        cases g <;> exact h
      simp only [Bool.and_eq_true] at h';obtain ⟨ho,hs,he⟩:=h';have ho:=Nat.eq_of_beq_eq_true ho;obtain ⟨m,x,hx⟩:=hf f List.mem_cons_self;obtain ⟨y,h1,h2⟩:=ih _ _ he _ _ _ hx;rw [ho,cells_is hX hs,List.take_of_length_le (by rw [List.length_drop]; omega)] at h2;exact ⟨y,h1,h2⟩
    | cons f2 fs=>
      cases g with
      | pair g h2=>
        have h':(Nat.beq f.offset off&&(sizeIs tt f.type g.size&&(e f.type g&&fsG tt e (off+g.size) (f2 :: fs) h2)))=true:=h;simp only [Bool.and_eq_true] at h';obtain ⟨ho,hs,he,hr⟩:=h';have ho:=Nat.eq_of_beq_eq_true ho;have hl':cs.length=off+(g.size+h2.size):=hl;obtain ⟨m,x,hx⟩:=hf f List.mem_cons_self;obtain ⟨y1,h3,h4⟩:=ih _ _ he _ _ _ hx;rw [ho,cells_is hX hs] at h4;obtain ⟨y2,h5,h6⟩:=ihf (off+g.size) h2 cs hr (by omega) (fun q hq=>hf q (List.mem_cons_of_mem _ hq));refine ⟨(y1,y2),⟨h3,h5⟩,_,_,?_,h4,h6⟩;rw [← List.drop_drop,List.take_append_drop]
      | int _=>simp [fsG] at h
      | bool=>simp [fsG] at h
      | str=>simp [fsG] at h
      | sl _=>simp [fsG] at h
      | csl _=>simp [fsG] at h
      | unit=>simp [fsG] at h
theorem ar_dec {e:TypeId→GTy→Bool} {t:TypeId} {s:Nat} (ih:∀ g,e t g=true→DecOk enc P W t g (WfD g)):∀ (n:Nat) (i0:Nat) (g:GTy) (cs:List Value),arG tt e t s n g=true→cs.length=i0 * s+g.size →
    (∀ i,i < n→∃ m x,DataW.trod enc P W 0 (fun _=>true) true m t ((cs.drop ((i0+i) * s)).take s)=some x)→∃ y:g.D,WfD g y∧FR (fun b=>b < W.heap.size) W g y (cs.drop (i0 * s)):=by
  intro n
  induction n with
  | zero=>intro i0 g cs h; simp [arG] at h
  | succ n ihn=>
    intro i0 g cs h hl hf;cases n with
    | zero=>
      have h':(Nat.beq g.size s&&e t g)=true:=by
        cases g <;> exact h
      simp only [Bool.and_eq_true] at h';obtain ⟨hs,he⟩:=h';have hs:=Nat.eq_of_beq_eq_true hs;obtain ⟨m,x,hx⟩:=hf 0 (by omega);obtain ⟨y,h1,h2⟩:=ih _ he _ _ _ hx;rw [Nat.add_zero,List.take_of_length_le (by rw [List.length_drop]; omega)] at h2;exact ⟨y,h1,h2⟩
    | succ n=>
      cases g with
      | pair g h2=>
        have h':(Nat.beq g.size s&&(e t g&&arG tt e t s (n+1) h2))=true:=h;simp only [Bool.and_eq_true] at h';obtain ⟨hs,he,hr⟩:=h';have hs:=Nat.eq_of_beq_eq_true hs;have hl':cs.length=i0 * s+(g.size+h2.size):=hl;obtain ⟨m,x,hx⟩:=hf 0 (by omega);obtain ⟨y1,h3,h4⟩:=ih _ he _ _ _ hx;obtain ⟨y2,h5,h6⟩:=ihn (i0+1) h2 cs hr (by rw [Nat.add_mul]; omega) (fun i hi=>by
          have:=hf (i+1) (by omega)
          rw [show i0+1+i=i0+(i+1) by omega];exact this)
        refine ⟨(y1,y2),⟨h3,h5⟩,_,_,?_,h4,h6⟩;rw [Nat.add_zero,Nat.add_mul,Nat.one_mul,← List.drop_drop,List.take_append_drop]
      | int _=>simp [arG] at h
      | bool=>simp [arG] at h
      | str=>simp [arG] at h
      | sl _=>simp [arG] at h
      | csl _=>simp [arG] at h
      | unit=>simp [arG] at h
theorem tyG_dec (hX:tt.ok P):∀ (d:Nat) (t:TypeId) (g:GTy),tyG tt d t g=true→DecOk enc P W t g (WfD g):=by
  intro d
  induction d with
  | zero=>intro t g h; cases h
  | succ d ih=>
    intro t g h k cs x hx;unfold tyG at h;cases hf:tt.find t with
    | none=>simp [hf] at h
    | some te=>
      rw [hf] at h;dsimp only at h;have hti:=(TT.get hX hf).ti;have hd0:=hti.1;have hsz:=cells_tt hX hf
      split at h
      · rename_i k1 hd
        rw [hd] at hd0;cases g with
        | int k2=>
          have:k2=k1:=of_decide_eq_true h
          subst this;exact dec_int hd0 k cs x hx
        | _=>cases h
      · rename_i hd
        rw [hd] at hd0;cases g with
        | bool=>
          obtain ⟨b,rfl,_⟩:=DataW.trod_bool hd0 hx;exact ⟨b,trivial,rfl⟩
        | _=>cases h
      · rename_i hd
        rw [hd] at hd0;cases g with
        | str=>
          obtain ⟨s,rfl,_⟩:=DataW.trod_string hd0 hx;exact ⟨s.data.toList,trivial,rfl⟩
        | _=>cases h
      · rename_i e hd
        rw [hd] at hd0;cases g with
        | sl g=>
          simp only [Bool.and_eq_true] at h;exact slice_dec (zh h.1) hd0 (cells_is hX h.2.1) (ih _ _ h.2.2) k cs x hx
        | _=>cases h
      · rename_i fs hd
        rw [hd] at hd0;simp only [Bool.and_eq_true] at h;have hs:=Nat.eq_of_beq_eq_true h.1;obtain ⟨xs,n,_,_,hlen,hxl,hel⟩:=DataW.trod_struct hd0 hx;rw [hsz,hs] at hlen;obtain ⟨y,h1,h2⟩:=fs_dec (enc:=enc) (W:=W) hX ih fs.toList 0 g cs h.2 (by omega) (fun f hfm=>by
          obtain ⟨i,hi,rfl⟩:=List.mem_iff_getElem.1 hfm;have hi':i < fs.size:=by simpa using hi
          have h3:=hel i fs[i] (Array.getElem?_eq_getElem hi');rw [List.getElem?_eq_getElem (by omega)] at h3;exact ⟨n,_,by simpa using h3⟩)
        exact ⟨y,h1,h2⟩
      · rename_i n e hd
        rw [hd] at hd0;simp only [Bool.and_eq_true] at h;have hs:=Nat.eq_of_beq_eq_true h.1;obtain ⟨xs,m,_,_,hlen,hxl,hel⟩:=DataW.trod_array hd0 hx;rw [hsz,hs] at hlen;have h2:=h.2
        split at h2
        · rename_i ee hee
          rw [cells_tt hX hee] at hel;obtain ⟨y,h1,h3⟩:=ar_dec (enc:=enc) (W:=W) (tt:=tt) (fun g hg=>ih e g hg) n 0 g cs h2 (by omega) (fun i hi=>by
            have h3:=hel i hi;rw [List.getElem?_eq_getElem (by omega)] at h3;rw [Nat.zero_add];exact ⟨m,_,h3⟩)
          rw [Nat.zero_mul] at h3;exact ⟨y,h1,h3⟩
        · cases h2
      · cases h
theorem open_agg (hX:tt.ok P) {t:TypeId} {te:TE} {g:GTy} (hf:tt.find t=some te) (ha:isAggD te.ti.desc=true) (h:tyG tt 12 t g=true) {r:Reach} {b0:Nat} {v:Value} {d:DataW H} {ps:List MemPlace} (hval:Value.okWide P W r b0 t v) (hd:DataW.Trod enc P W 0 (fun _=>true) true t v d ps) :
    ∃ y:g.D,WfD g y∧∀ env ds,gcells g y 0 g.size=some ds→SaR env (fun b=>b < W.heap.size) W (.agg ds) v:=by
  have hti:=(TT.get hX hf).ti;obtain ⟨cs,rfl⟩:∃ cs,v=.agg cs:=by
    have hd0:=hti.1;unfold Value.okWide at hval;rw [hd0] at hval;cases hdd:te.ti.desc with
    | struct fs=>rw [hdd] at hval; obtain ⟨cs,e,_⟩:=hval; exact ⟨cs,e⟩
    | array n e=>rw [hdd] at hval; obtain ⟨cs,e,_⟩:=hval; exact ⟨cs,e⟩
    | _=>rw [hdd] at ha; cases ha
  obtain ⟨n,hn⟩:=hd;obtain ⟨y,h1,h2⟩:=tyG_dec hX 12 t g h n _ _ hn;refine ⟨y,h1,fun env ds hds=>?_⟩;obtain ⟨us,hp,hc⟩:=FR.cells (env:=env) h2 hds;have hl:cs.toList.length=g.size:=h2.length;have hu:us=cs.toList:=by
    refine List.ext_getElem? fun j=>?_
    by_cases hj:j < us.length
    · have:=hp.2 j _ (List.getElem?_eq_getElem hj)
      rw [Nat.zero_add] at this;rw [List.getElem?_eq_getElem hj];exact this.symm
    · rw [List.getElem?_eq_none (by omega),List.getElem?_eq_none (by rw [hl]; have:=hp.1; omega)]
  subst hu;exact ⟨cs.toList,rfl,hc⟩
end
end Go.Proofs.YteglgnkcpaagjaaDoor

/- Arrays in cells by variable indexes; maps: looking up with ok, literals. -/
namespace Go.Proofs.YteglgnkcpaagjaaDoor
open Go.RowKit
section
variable {env:Nat→Loc} {B:Nat→Prop} {w:World}
end
section
variable {X:Cx} {M:Bool} {n:Nat} {r:Option Nat} {st:ASt} {Q:Exit→ASt→Prop} {ops rest:List Oper} {o:Oper} {d:Nat}
theorem qn (hX:X.tt.ok X.P) {t kt et:TypeId} {te ke:TE} {k:IntKind} {gv:GTy} {u x y:Operand} {id:Nat} {l:List (Int×gv.D)} {om:Option (List MapEntry×Nat)} {z:Int} {g g2 c:Bool} {sy:SA} {xv:gv.D} (hop:o.op=.insert t u x y) (ho:o.guard=none∧o.dst=none)
    (ht:X.tt.find t=some te) (hte:te.ti.desc=.map kt et) (hk:X.tt.find kt=some ke) (hke:ke.ti.desc=.int k)
    (hu:ae X st.L u=some (true,.c (.mref id))) (hx:ae X st.L x=some (g,.c (.val (.int k z)))) (hg:g=true) (hy:ae X st.L y=some (g2,sy)) (hg2:g2=true) (hlk:lk st.H id=some (.mp (.int k) gv l om))
    (hdec:dec gv sy.cells=some (c,xv,[])) (hc:c=true) (hsh:sShape gv sy=true)
    (hnext:AL X M n r ops rest ⟨st.L,putH id (.mp (.int k) gv (mset (.int k) gv l z xv) none) st.H⟩ Q):AL X M n r ops (o :: rest) st Q:=by
  rintro R W Bi a w ⟨ks,env,B,w0,H,hM,hA⟩;obtain ⟨vu,h1,b,hb,rfl⟩:=hA.ev hu rfl;obtain ⟨vx,h2,h3⟩:=hA.ev hx hg;rw [show vx=_ from h3] at h2;obtain ⟨vy,h4,h5⟩:=hA.ev hy hg2;have hvd:VD B w0 gv xv vy:=VD.ofSA hdec hc hsh h5;obtain ⟨ck,K,⟨b',es,clock,hb',rfl,hmr,hst,_⟩,hfoc,hset⟩:=hA.setBlk (b':=.mp (.int k) gv (mset (.int k) gv l z xv) none) hlk;rw [hb] at hb';cases hb';have hob:=(hA.sh.ok _ hfoc.mem).2;have e1:=(TT.get hX ht).ti.1;rw [hte] at e1;have e3:=(TT.get hX hk).ti.1;rw [hke] at e3;have hfin:∃ es' clock',(Instr.mapUpdate t (.map (some b)) (.int k z) vy).run X.P w=.ok () { w with heap:=w.heap.setIfInBounds b (.map es'.toArray clock') }∧MR B w0 (.int k) gv (mset (.int k) gv l z xv) es'∧Stamped es' clock':=by
    unfold Instr.mapUpdate;rw [show (10000:Nat)=9999+1 from rfl];simp only [Sem.run_bind,run_underlying e1,Result.andThen_ok,MapKept.run_getObj_map hob,run_checkKey_int e3]
    rcases hmr.setInt hvd (z:=z) 0 with ⟨h6,h7⟩ | ⟨j,v,e,h6,h7,h8,h9⟩
    · refine ⟨es++[MapEntry.mk (.int k z) vy clock],clock+1,?_,?_,?_⟩
      · simp only [MapKept.run_findKey e3 h6,Result.andThen_ok,MapKept.run_setObj_map _ hob]
        simp
      · rw [h7]
        have hk1:VD B w0 (.int k) z (.int k z):=show [Value.int k z]=[Value.int k z] from rfl
        exact MR.snoc (gk:=.int k) (x:=(z,xv)) (e:=MapEntry.mk (.int k z) vy clock) hk1 hvd hmr
      · refine ⟨?_,?_⟩
        · rw [List.map_append,List.pairwise_append]
          exact ⟨hst.1,by simp,fun p hp q hq=>by simp at hq; subst hq; exact hst.2 p hp⟩
        · intro p hp
          rw [List.map_append,List.mem_append] at hp
          rcases hp with hp | hp
          · exact Nat.lt_succ_of_lt (hst.2 p hp)
          · simp at hp; omega
    · refine ⟨es.modify j fun e=>{ e with key:=.int k z,val:=vy },clock,?_,h9,?_⟩
      · rw [Nat.zero_add] at h6
        have hkeep:(Instr.keyThatStays (((es.toArray[j]?).map (·.key)).getD (.int k z)) (.int k z)).run X.P w=.ok (.int k z) w:=by
          have:((es.toArray[j]?).map (·.key)).getD (.int k z)=.int k z:=by simp [h7,h8]
          rw [this]
          simp [Instr.keyThatStays,Instr.sameBits]
        simp only [MapKept.run_findKey e3 h6,Result.andThen_ok,Sem.run_bind,hkeep,MapKept.run_setObj_map _ hob]
        simp
      · rw [Stamped,modify_map (f:=fun e=>{ e with key:=.int k z,val:=vy }) (fun _=>rfl)]
        exact hst
  obtain ⟨es',clock',hrun,hmr',hst'⟩:=hfin;refine zW (x_skip hA.stt ho.1 ho.2 (w':={ w with heap:=w.heap.setIfInBounds b (.map es'.toArray clock') }) ?_ fun a' hS=>?_)
  · simp [execOp,hop,hA.stt.ev h1,hA.stt.ev h2,hA.stt.ev h4,hrun]
  · obtain ⟨H',h10⟩:=hset _ a' _ ⟨b,es',clock',hb,rfl,hmr',hst',fun _ h=>by cases h⟩ (hA.sh.setO hfoc) hS
    exact hnext R W Bi a' _ ⟨ks,env,B,w0,H',hM,h10⟩
end
end Go.Proofs.YteglgnkcpaagjaaDoor

/- Scopes of labels. -/
namespace Go.Proofs.YteglgnkcpaagjaaDoor
open Go.RowKit
section
variable {P:Program} {b:Frame} {a:Act} {k:List Item} {cs:List Frame} {w:World} {Q:Exit→Act→World→Prop} {F:Fence} {n:Nat}
end
section
variable {X:Cx} {M:Bool} {n:Nat} {r:Option Nat} {st:ASt} {Q:Exit→ASt→Prop} {c:Code}
end
end Go.Proofs.YteglgnkcpaagjaaDoor

/- Rows of slices, one of which is a row of one's own for a while. -/
namespace Go.Proofs.YteglgnkcpaagjaaDoor
open Go.RowKit
section
variable {X:Cx} {M:Bool} {n:Nat} {r:Option Nat} {st:ASt} {Q:Exit→ASt→Prop} {ops rest:List Oper} {o:Oper} {d:Nat}
end
end Go.Proofs.YteglgnkcpaagjaaDoor

/- Arrays as values; tables of functions. -/
namespace Go.Proofs.YteglgnkcpaagjaaDoor
open Go.RowKit
section
variable {X:Cx} {M:Bool} {n:Nat} {r:Option Nat} {st:ASt} {Q:Exit→ASt→Prop} {ops rest:List Oper} {o:Oper} {d:Nat}
theorem al_loadP (hX:X.tt.ok X.P) {t e:TypeId} {te:TE} {x:Operand} {m:Nat} {g:GTy} {l:List g.D} {g1:Bool} (hop:o.op=.load t x) (ho:o.guard=none∧o.dst=some d) (hd:Nat.blt d n=true)
    (ht:X.tt.find t=some te) (hte:te.ti.desc=.array m e) (hx:ae X st.L x=some (g1,.c (.par g l))) (hg1:g1=true) (hsz:Nat.beq te.ti.size (m * g.size)=true) (hl:decide (l.length=m)=true)
    (hnext:AL X M n r ops rest ⟨(d,.a (.arr g l)) :: st.L,st.H⟩ Q):AL X M n r ops (o :: rest) st Q:=by
  rintro R W Bi a w ⟨ks,env,B,w0,H,hM,hA⟩;obtain ⟨vx,h1,b,p,vs,rfl,hb,hfl,hcell⟩:=hA.ev hx hg1;have hlen:=FR.flat_length hfl;have hl':=of_decide_eq_true hl;refine zW (qw hA.stt ho.1 ho.2 (zh hd) (v:=.agg vs.toArray) (w':=w) (run_loadN hA.stt hop (TT.get hX ht).ti (by rw [hte]; rfl) h1 (by rw [hlen,hl',Nat.eq_of_beq_eq_true hsz]) fun j v hj=>frozen_cell hb (hcell j v hj) hA.sh) fun a' hS=>?_);exact hnext R W Bi a' _ ⟨ks,env,B,w0,H,hM,hA.set (sv:=.a (.arr g l)) ⟨vs,rfl,hfl⟩ hS⟩
end
end Go.Proofs.YteglgnkcpaagjaaDoor

/- Strings: out of bytes, parts. -/
namespace Go.Proofs.YteglgnkcpaagjaaDoor
open Go.RowKit
section
variable {X:Cx} {M:Bool} {n:Nat} {r:Option Nat} {st:ASt} {Q:Exit→ASt→Prop} {ops rest:List Oper} {o:Oper} {d:Nat}
end
end Go.Proofs.YteglgnkcpaagjaaDoor

/- append to slices that are full: rows that are one's own, or frozen as a whole. -/
namespace Go.Proofs.YteglgnkcpaagjaaDoor
open Go.RowKit
section
variable {P:Program} {o:Oper} {n d:Nat} {D:List Deferred} {L:List (Nat×Value)} {a:Act} {w w0:World} {B:Nat→Prop} {H:List Ck} {T:List (TypeId×TI)} {ops:Array Oper} {KK:Act→World→Prop}
end
section
variable {X:Cx} {M:Bool} {n:Nat} {r:Option Nat} {st:ASt} {Q:Exit→ASt→Prop} {ops rest:List Oper} {o:Oper} {d:Nat}
def StepOk (X:Cx) (n:Nat) (o:Oper) (st st':ASt):Prop:=∀ (R:Nat→Prop) (W:World) (Bi:Bk) (ks:List Nat) (env:Nat→Loc) (B:Nat→Prop) (w0:World) (H:List Ck) (a:Act) (w:World),AI X R W Bi n ks env B w0 H st a w→∀ (KK:Act→World→Prop) (l:List Oper),(∀ a' w' env' H',AI X R W Bi n ks env' B w0 H' st' a' w'→KK a' w')→XO X.P l.toArray o KK a w
theorem ado_sk {st':ASt} {E:List Nat} {ds:DS} {fuel i:Nat} {l':Array Bool} (hi:nth ops i=some o) (hp:StepOk X n o st st') (hE:E.elem i=false) (hl:ds.listed.setIfInBounds i true=l')
    (h:AD X M n ops E fuel ⟨l',false,false,ds.nocall⟩ st' Q):ADo X M n ops E fuel ds st Q i:=by
  intro R W Bi B0 w00 CS F ks env B w0 H a w hM hA hD;refine ⟨o,nth_arr hi,hp R W Bi ks env B w0 H a w hA _ _ fun a' w' env' H' hA'=>?_⟩;have hD':=hD.lost (H':=H') (l:=l');rw [hl];exact ⟨⟨fun he=>(by rw [hE] at he; cases he),hD'.F hA'⟩,h R W Bi B0 w00 CS F ks env' B w0 H' a' w' hM hA' hD'⟩
end
section
variable {X:Cx} {n:Nat} {st:ASt}
end
end Go.Proofs.YteglgnkcpaagjaaDoor

/- Operations that give a value, by lemmas of their own: also in regions that draw. -/
namespace Go.Proofs.YteglgnkcpaagjaaDoor
open Go.RowKit
section
variable {X:Cx} {M:Bool} {n:Nat} {r:Option Nat} {st:ASt} {Q:Exit→ASt→Prop} {ops rest:List Oper} {o:Oper} {d:Nat} {sa:SA}
end
end Go.Proofs.YteglgnkcpaagjaaDoor

/- A row of one's own that a callee reads as a list. -/
namespace Go.Proofs.YteglgnkcpaagjaaDoor
open Go.RowKit
section
variable {env:Nat→Loc} {B B':Nat→Prop} {w w':World}
end
end Go.Proofs.YteglgnkcpaagjaaDoor

/- A frozen slice without room, in a cell, is a row to which can be appended. -/
namespace Go.Proofs.YteglgnkcpaagjaaDoor
open Go.RowKit
section
variable {env:Nat→Loc} {B:Nat→Prop} {w:World}
end
end Go.Proofs.YteglgnkcpaagjaaDoor

/- Calls of functions with one bound argument (a method's receiver); a value taken apart. -/
namespace Go.Proofs.YteglgnkcpaagjaaDoor
open Go.RowKit
section
variable {P:Program} {ops:Array Oper} {o:Oper} {KK:Act→World→Prop} {n:Nat} {D:List Deferred} {L:List (Nat×Value)} {B:Nat→Prop} {w0:World} {H:List Ck} {a:Act} {w:World} {d:Nat}
end
section
variable {X:Cx} {M:Bool} {n:Nat} {r:Option Nat} {st:ASt} {Q:Exit→ASt→Prop} {ops rest:List Oper} {o:Oper} {d:Nat}
end
section
variable {X:Cx} {M:Bool} {n:Nat} {st:ASt} {Q:Exit→ASt→Prop} {ops:List Oper} {E:List Nat} {ds:DS} {listed':Array Bool} {fuel d i:Nat} {o:Oper}
end
end Go.Proofs.YteglgnkcpaagjaaDoor

/- Operations under a guard that may not be there itself. -/
namespace Go.Proofs.YteglgnkcpaagjaaDoor
open Go.RowKit
section
variable {X:Cx} {M:Bool} {n:Nat} {r:Option Nat} {st:ASt} {Q:Exit→ASt→Prop} {ops rest:List Oper} {o:Oper} {d:Nat}
theorem wantM {R:Nat→Prop} {W:World} {Bi:Bk} {ks:List Nat} {env:Nat→Loc} {B:Nat→Prop} {w0:World} {H:List Ck} {a:Act} {w:World} (hA:AI X R W Bi n ks env B w0 H st a w) {j s:Nat} {want g b:Bool} (hg:o.guard=some (j,want)) (hj:nth (zU ops) j=some (some s)) (hs:lk st.L s=some (.may g (.c (.val (.bool b))))) :
    Region.wanted o (yielded ops.toArray a.tmps)=(g&&(b == want)):=by
  obtain ⟨oj,hoj,hsj⟩:=nth_map hj;have hj':(ops.toArray[j]?).bind (·.dst)=some s:=by simp [hoj,← hsj]
  obtain ⟨v,h1,h2,h3⟩:=hA.has _ _ hs;cases g with
  | true=>
    rw [show v=_ from h2 rfl] at h1;rw [zX hA.sym hg hj' (zo h1),Bool.true_and]
  | false=>
    rw [h3 rfl] at h1;rw [unwanted_of hA.sym hg hj' (zo h1)]
    rfl
theorem al_guardM (G:Bool) (x0:SA) {j s:Nat} {want g b:Bool} (hg:o.guard=some (j,want)) (hj:nth (zU ops) j=some (some s)) (hs:lk st.L s=some (.may g (.c (.val (.bool b))))) (hG:(match want with | true=>g&&b | false=>g&&!b)=G) (hdst:o.dst=some d) (hd:Nat.blt d n=true)
    (h1:G=true→AL X M n r ops ({ dst:=o.dst,op:=o.op,type:=o.type,pos:=o.pos,after:=o.after,guard:=none } :: rest) st Q) (h0:G=false→AL X M n r ops rest ⟨(d,.may false x0) :: st.L,st.H⟩ Q):AL X M n r ops (o :: rest) st Q:=by
  rintro R W Bi a w ⟨ks,env,B,w0,H,hM,hA⟩;have hw:=wantM hA hg hj hs;have hw':Region.wanted o (yielded ops.toArray a.tmps)=G:=by
    rw [hw,← hG];cases want <;> cases b <;> rfl
  clear hw
  cases hb:G with
  | true=>
    have h4:=h1 hb R W Bi a w ⟨ks,env,B,w0,H,hM,hA⟩;show (if Region.wanted o (yielded ops.toArray a.tmps) then _ else _);rw [hw',if_pos hb];have h5:(if Region.wanted { dst:=o.dst,op:=o.op,type:=o.type,pos:=o.pos,after:=o.after,guard:=none } (yielded ops.toArray a.tmps) then _ else _):=h4;rw [show Region.wanted { dst:=o.dst,op:=o.op,type:=o.type,pos:=o.pos,after:=o.after,guard:=none } (yielded ops.toArray a.tmps)=true by simp [Region.wanted],if_pos rfl] at h5;exact h5
  | false=>
    have hS:St n (ks.map qf) ((d,undef) :: full a) (a.put o.dst undef):=by rw [hdst]; exact hA.stt.put d undef (zh hd)
    show (if Region.wanted o (yielded ops.toArray a.tmps) then _ else _);rw [hw',if_neg (by simp [hb])];exact ⟨fun _ _=>trivial,h0 hb R W Bi _ w ⟨ks,env,B,w0,H,hM,hA.set (sv:=.may false x0) ⟨fun h=>(by cases h),fun _=>rfl⟩ hS⟩⟩
def zV:GTy→Value
  | .pair g h=>.agg (g.zeros++h.zeros).toArray
  | g=>g.zeros.headD undef
theorem zVD {v:Value} (g:GTy) (h:zV g=v) (hu:g.zeros≠[]):∀ B w,VD B w g g.zero v:=fun B w=>by
  subst h;cases g with
  | pair g h=>exact ⟨_,rfl,FR.zeros (B:=B) (w:=w) (GTy.pair g h)⟩
  | unit=>exact absurd rfl hu
  | int k=>rfl
  | bool=>rfl
  | str=>rfl
  | sl g=>exact FR.zeros (B:=B) (w:=w) (GTy.sl g)
  | csl g=>exact FR.zeros (B:=B) (w:=w) (GTy.csl g)
theorem sk_lookup2 (hX:X.tt.ok X.P) {t kt et:TypeId} {te ke ee:TE} {k:IntKind} {gv:GTy} {u x:Operand} {id:Nat} {l:List (Int×gv.D)} {om:Option (List MapEntry×Nat)} {z:Int} {g:Bool} {sa:SA} (hop:o.op=.lookup t u x true) (ho:o.guard=none∧o.dst=some d) (hd:Nat.blt d n=true)
    (ht:X.tt.find t=some te) (hte:te.ti.desc=.map kt et) (hk:X.tt.find kt=some ke) (hke:ke.ti.desc=.int k) (he:X.tt.find et=some ee) (hz:∀ B w,VD B w gv gv.zero ee.ti.zero)
    (hu:ae X st.L u=some (true,.c (.mref id))) (hx:ae X st.L x=some (g,.c (.val (.int k z)))) (hg:g=true) (hlk:lk st.H id=some (.mp (.int k) gv l om)) (hsa:vSA gv ((qe (.int k) gv l z).getD gv.zero)=some sa):StepOk X n o st ⟨(d,.tup [sa,.c (.val (.bool (qe (.int k) gv l z).isSome))]) :: st.L,st.H⟩:=by
  intro R W Bi ks env B w0 H a w hA KK lo hnext;obtain ⟨vu,h1,b,hb,rfl⟩:=hA.ev hu rfl;obtain ⟨vx,h2,h3⟩:=hA.ev hx hg;rw [show vx=_ from h3] at h2;obtain ⟨c,K,⟨b',es,clock,hb',rfl,hmr,hst,_⟩,hfoc⟩:=hA.heap.foc hlk;rw [hb] at hb';cases hb';have hob:=(hA.sh.ok _ hfoc.more.mem).2;have e1:=(TT.get hX ht).ti.1;rw [hte] at e1;have e3:=(TT.get hX hk).ti.1;rw [hke] at e3;have e5:=TI.run_zero (TT.get hX he).ti w;have hfin:∃ v,(Instr.lookup t (.map (some b)) (.int k z) true).run X.P w=.ok (.tuple #[v,.bool (qe (.int k) gv l z).isSome]) w∧VD B w0 gv ((qe (.int k) gv l z).getD gv.zero) v:=by
    unfold Instr.lookup;rw [show (10000:Nat)=9999+1 from rfl];simp only [Sem.run_bind,run_underlying e1,Result.andThen_ok,MapKept.run_getObj_map hob,run_checkKey_int e3,Sem.run_pure]
    rcases hmr.findInt (z:=z) 0 with ⟨h4,h5⟩ | ⟨y,j,v,h4,h5,h6,_⟩
    · refine ⟨ee.ti.zero,?_,by rw [h4]; exact hz _ _⟩
      simp [MapKept.run_findKey e3 h5,e5,Result.andThen,h4]
    · refine ⟨v,?_,by rw [h4]; exact h6⟩
      simp [MapKept.run_findKey e3 h5,Result.andThen,h4]
  obtain ⟨v,hrun,hvd⟩:=hfin;refine qw hA.stt ho.1 ho.2 (zh hd) (v:=.tuple #[v,.bool (qe (.int k) gv l z).isSome]) (w':=w) ?_ fun a' hS=>?_
  · simp [execOp,hop,hA.stt.ev h1,hA.stt.ev h2,hrun]
  · exact hnext a' _ env H (hA.set (sv:=.tup [sa,.c (.val (.bool (qe (.int k) gv l z).isSome))]) ⟨[v,.bool (qe (.int k) gv l z).isSome],rfl,v,_,rfl,hvd.sa hsa,_,_,rfl,rfl,rfl⟩ hS)
end
end Go.Proofs.YteglgnkcpaagjaaDoor

/- copy(x, y): a row of one's own takes the entries of a slice of the same length. -/
namespace Go.Proofs.YteglgnkcpaagjaaDoor
open Go.RowKit
section
variable {X:Cx} {M:Bool} {n:Nat} {r:Option Nat} {ops:List Oper} {rest:List Oper} {o:Oper} {d:Nat} {st:ASt} {Q:Exit→ASt→Prop}
end
end Go.Proofs.YteglgnkcpaagjaaDoor

/- Arrays of arrays of the call's own, indexed by variables: one row of the innermost elements. -/
namespace Go.Proofs.YteglgnkcpaagjaaDoor
open Go.RowKit
section
variable {X:Cx} {M:Bool} {n:Nat} {r:Option Nat} {ops rest:List Oper} {o:Oper} {d:Nat} {st:ASt} {Q:Exit→ASt→Prop}
theorem al_allocZ (g:GTy) (m:Nat) (x:g.D) (v:Value) (hX:X.tt.ok X.P) {t:TypeId} {te:TE} (hop:o.op=.alloc t) (ho:o.guard=none∧o.dst=some d) (hd:Nat.blt d n=true) (hte:X.tt.find t=some te)
    (hz:te.ti.zero.cells.toList=List.replicate m v) (hv:∀ (B:Nat→Prop) (w:World),FR B w g x [v]) (hm:Nat.ble m 140737488355328=true)
    (hnext:AL X M n r ops rest ⟨(d,.c (.nel d 0)) :: subL d .dead st.L,(d,.row t g (List.replicate m x) (some m)) :: delH d .dead st.H⟩ Q):AL X M n r ops (o :: rest) st Q:=by
  rintro R W Bi a w ⟨ks,env,B,w0,H,hM,h⟩;have hz2:=TI.run_zero (TT.get hX hte).ti;have hfl:∀ k,Flat (FR B w0 g) (List.replicate k x) (List.replicate k v):=fun k=>by
    induction k with
    | zero=>exact rfl
    | succ k ih=>exact ⟨[v],_,rfl,hv B w0,ih⟩
  have h1:g.size=1:=by
    have:=FR.length (hv B w0)
    simpa using this.symm
  refine zW (qw h.stt ho.1 ho.2 (zh hd) (v:=.pointer (some ⟨w.heap.size,0,none⟩)) (w':=w.alloc (.cells te.ti.zero.cells.toList.toArray t)) (by simp [execOp,hop,Instr.alloc,hz2,newVar,Go.newRow,newObj,Sem.run]) fun a' hS=>?_);have hC:=(h.sh.allocC te.ti.zero.cells.toList t)
  rw [hz] at hC;have hR:=hC.toRow (e:=t) (size:=g.size) (m:=m) (by rw [h1]; simp) (Nat.le_of_ble_eq_true hm);obtain ⟨H',_,h3⟩:=h.newBlk (d:=d) hd (l:=.row (some ⟨w.heap.size,0,none⟩) m m) (blk:=.row t g (List.replicate m x) (some m)) (sv:=.c (.nel d 0)) (w':=w.alloc (.cells te.ti.zero.cells.toList.toArray t)) (by rw [hz]; exact hR) ⟨some ⟨w.heap.size,0,none⟩,m,List.replicate m v,by rw [List.length_replicate]; exact zC,by rw [List.length_replicate],hfl m,fun q hq=>by cases hq; rfl⟩ ⟨_,_,_,zC,rfl⟩ hS;exact hnext R W Bi a' _ ⟨ks,_,B,w0,H',hM,h3⟩
theorem flat_vals {env:Nat→Loc} {B:Nat→Prop} {w:World} {k:IntKind}:∀ {l:List Int} {vs:List Value},Flat (FR B w (.int k)) l vs→CsR env B w (l.map fun x=>SC.val (.int k x)) vs
  | [],_,h=>h
  | x :: l,_,⟨v1,v2,e,h1,h2⟩=>⟨.int k x,v2,by rw [e,show v1=_ from h1]; rfl,rfl,flat_vals h2⟩
theorem Wk.arrI (s:Nat) (k:IntKind) (N:Nat) {l:List Int} (hs:lk st.L s=some (.a (.arr (.int k) l))) (hl:Nat.beq l.length N=true):Wk X n st ⟨(s,.a (.agg ((List.range N).map fun i=>SC.val (.int k (l.getD i 0))))) :: st.L,st.H⟩:=Wk.conv _ hs fun env B w v ⟨vs,e,h⟩=>⟨vs,e,by
  have hN:=Nat.eq_of_beq_eq_true hl;have e2:((List.range N).map fun i=>SC.val (.int k (l.getD i 0)))=l.map fun x=>SC.val (.int k x):=by
    refine List.ext_getElem? fun i=>?_
    by_cases hi:i < N
    · have e3:l.getD i 0=l[i]'(by omega):=by rw [List.getD_eq_getElem?_getD,List.getElem?_eq_getElem (by omega)]; rfl
      rw [List.getElem?_map,List.getElem?_range hi,List.getElem?_map,List.getElem?_eq_getElem (show i < l.length by omega),Option.map_some,Option.map_some,e3]
    · rw [List.getElem?_eq_none (by simp; omega),List.getElem?_eq_none (by simp; omega)]
  rw [e2];exact flat_vals h⟩
end
end Go.Proofs.YteglgnkcpaagjaaDoor

/- Names for long terms. -/
namespace Go.Proofs.YteglgnkcpaagjaaDoor
open Go.RowKit
def nm {α β:Type} (x:α) (k:α→Option β):Option β:=k x
theorem zI {α β:Type} {x:α} {k:α→Option β} {r:β} (h:nm x k=some r):∃ y,x=y∧k y=some r:=⟨x,rfl,h⟩
theorem putH_same {id:Nat} {b:Blk}:∀ {h:Hp},lk h id=some b→putH id b h=h
  | [],h=>by cases h
  | (k,b') :: r,h=>by
    rw [zB] at h;unfold putH
    by_cases e:id=k
    · subst e
      rw [if_pos rfl] at h;cases h;rw [Nat.beq_refl]
    · rw [if_neg e] at h
      have hk:Nat.beq k id=false:=by
        cases hb:Nat.beq k id with
        | false=>rfl
        | true=>exact absurd (Nat.eq_of_beq_eq_true hb).symm e
      rw [hk,putH_same h]
section
variable {X:Cx} {n:Nat} {st:ASt}
theorem Wk.nmS {α:Type} (f:α→SV) (s:Nat) {x y:α} (e:x=y) (hl:lk st.L s=some (f x)):Wk X n st ⟨(s,f y) :: st.L,st.H⟩:=by
  subst e;rintro R W Bi M a w ⟨ks,env,B,w0,H,hM,hA⟩;refine ⟨ks,env,B,w0,H,hM,hA.size,hA.defs,fun q u hu=>hA.has q u ?_,hA.heap,hA.sh,hA.sub,hA.new,hA.pin,hA.base,hA.glob⟩;rw [zB] at hu
  split at hu
  · rename_i e
    subst e;rw [hl];exact hu
  · exact hu
theorem Wk.nmR (id:Nat) {t:TypeId} {g:GTy} {cap:Option Nat} {x y:List g.D} (e:x=y) (hb:lk st.H id=some (.row t g x cap)):Wk X n st ⟨st.L,putH id (.row t g y cap) st.H⟩:=by
  subst e;rw [putH_same hb];exact Wk.refl _
end
/-! ### Arrays that are rows are frozen -/
section
variable {X:Cx} {R:Nat→Prop} {W:World} {Bi:Bk} {n:Nat} {ks:List Nat} {env:Nat→Loc} {B:Nat→Prop} {w0:World} {H:List Ck} {st st':ASt} {a:Act} {w:World}
theorem AI.frzA (h:AI X R W Bi n ks env B w0 H st a w) (s:Nat) {id sz:Nat} {t:TypeId} {g:GTy} {l:List g.D} {cap:Option Nat} (hs:lk st.L s=some (.c (.elt id sz 0 0))) (hlk:lk st.H id=some (.row t g l cap)):∃ env' B' w0' H',AI X R W Bi n ks env' B' w0' H' ⟨(s,.c (.par g l)) :: subL id .dead st.L,delH id .dead st.H⟩ a w:=by
  obtain ⟨c0,_,⟨A,k,xs0,he,rfl,_,hcap⟩,hfoc0⟩:=h.heap.foc hlk;have hup:Up B w0 (fun q=>B q∨A.map (·.block)=some q) w:=⟨fun q hq=>.inl hq,fun q hq=>h.sh.below.block q (.inr hq)⟩
  obtain ⟨c,Y,Z,⟨A',k',xs,he',rfl,hfl,_⟩,h2,h3⟩:=(h.heap.up hup).take hlk;rw [he] at he';cases he';have hmem:Ck.row A k t g.size l.length xs∈H++ks.map mkO:=by rw [h2]; simp
  have hown:Owns w (fun k=>R k∨B k) t g.size A k l.length xs:=h.sh.ok _ hmem;have hnew:∀ q,A.map (·.block)=some q→¬ (R q∨B q)∧q < w.heap.size:=fun q hq=>(h.sh.ok _ hmem).lt hq
  obtain ⟨H2,h4,h5,h45⟩:=h3 env .dead (fun _ _=>rfl) (fun _ _=>trivial);have hpart:=h.sh.apart;rw [h2,List.append_assoc,List.cons_append] at hpart;refine ⟨env,_,w,H2,⟨h.size,h.defs,fun q u hu=>?_,h5,?_,fun q hq=>.inl (h.sub q hq),fun q hq=>?_,h.pin,h.base.trans ⟨h.sh.below.os,h.sh.below.tape,h.sh.below.output,h.sh.below.size,fun q hq=>h.sh.below.block q (.inl hq)⟩,fun i x hx=>(h.glob i x hx).up hup⟩⟩
  · rw [zB] at hu
    split at hu
    · rename_i e
      subst e;cases hu;obtain ⟨u',h6,b,c',n',h7,h8⟩:=h.has _ _ hs;rw [he] at h7;cases h7;refine ⟨u',h6,b,0,xs,by rw [h8]; simp,.inr rfl,hfl,fun j u hj=>?_⟩;have hr:Reads w (some ⟨b,0,none⟩) l.length g.size xs:=Reads.rowM h.sh hmem;have hl:=FR.flat_length hfl;have hpos:0 < l.length:=by
        rcases Nat.eq_zero_or_pos l.length with e | e
        · rw [e,Nat.zero_mul] at hl
          have:=(List.getElem?_eq_some_iff.1 hj).1
          omega
        · exact e
      obtain ⟨b',p,e,hc⟩:=hr.2 hpos;cases e;exact hc j u hj
    · obtain ⟨u0,hu0,rfl⟩:=lk_subL hu
      obtain ⟨u',h6,h7⟩:=h.has q u0 hu0;exact ⟨u',h6,VR.sub (z:=.dead) (fun _ _=>rfl) (fun _ _=>trivial) (h7.up hup)⟩
  · have hs:SH (fun k=>R k∨B k) w0 (H2++ks.map mkO) w:=by
      have h6:=h.sh;rw [h2] at h6;have hp:(Y++Ck.row A k t g.size l.length xs :: Z++ks.map mkO).Perm (Ck.row A k t g.size l.length xs :: (Y++Z++ks.map mkO)):=by
        simp only [List.append_assoc,List.cons_append];exact List.perm_middle
      exact (h6.perm hp).weak (((h4.append_right _)).cons _)
    refine ⟨KO.refl _ _,fun q hq=>?_,fun c hc=>(hs.ok c hc).base fun b hb hB=>?_,hs.apart⟩
    · rcases hq with hq | hq | hq
      · exact h.sh.base q (.inl hq)
      · exact h.sh.base q (.inr hq)
      · exact (hnew q hq).2
    · rcases hB with hB | hB | hB
      · exact ((hs.ok c hc).lt hb).1 (.inl hB)
      · exact ((hs.ok c hc).lt hb).1 (.inr hB)
      · have hcm:c∈Y++(Z++ks.map mkO):=by
          rcases List.mem_append.1 hc with hc | hc
          · have:=h4.subset hc
            rcases List.mem_append.1 this with h7 | h7
            · exact List.mem_append_left _ h7
            · exact List.mem_append_right _ (List.mem_append_left _ h7)
          · exact List.mem_append_right _ (List.mem_append_right _ hc)
        rw [List.pairwise_append,List.pairwise_cons] at hpart;obtain ⟨_,⟨h8,_⟩,h9⟩:=hpart
        rcases List.mem_append.1 hcm with h7 | h7
        · exact h9 c h7 _ List.mem_cons_self b hb hB
        · exact h8 c h7 b hB hb
  · rcases hq with hq | hq
    · exact (h.new q hq).imp_right fun h'=>⟨h'.1,h'.2.keep (h.sh.below.block q (.inr hq))⟩
    · exact .inr ⟨fun hR=>(hnew q hq).1 (.inl hR),(h.sh.ok _ hmem).cells rfl hq⟩
theorem Wk.frzA (s:Nat) {id sz:Nat} {t:TypeId} {g:GTy} {l:List g.D} {cap:Option Nat} (hs:lk st.L s=some (.c (.elt id sz 0 0))) (hlk:lk st.H id=some (.row t g l cap)):Wk X n st ⟨(s,.c (.par g l)) :: subL id .dead st.L,delH id .dead st.H⟩:=fun _ _ _ _ _ _ ⟨ks,env,B,w0,H,hM,hA⟩=>by
  obtain ⟨env',B',w0',H',h⟩:=hA.frzA s hs hlk;exact ⟨ks,env',B',w0',H',hM,h⟩
end
theorem KeyOk.of3 {P:Program} {tt:TT} (hX:tt.ok P) {t e:TypeId} {te tee:TE} {k:IntKind} (hf:tt.find t=some te) (hd:te.ti.desc=.array 3 e) (hfe:tt.find e=some tee) (hde:tee.ti.desc=.int k) (hs:tee.ti.size=1) (hg:P.eqGuardType P.depth t=false):KeyOk P t (.pair (.int k) (.pair (.int k) (.int k))):=by
  refine ⟨rfl,fun x y w=>?_,hg⟩;have h1:=(TT.get hX hf).ti;have h2:=(TT.get hX hfe).ti;have hu:=h1.1;rw [hd] at hu;have hue:=h2.1;rw [hde] at hue;obtain ⟨i,hi,hi2⟩:∃ i,P.info? e=some i∧i.size=1:=by
    have h3:=h2.2;cases hq:P.info? e with
    | none=>rw [hq] at h3; cases h3
    | some i=>
      rw [hq] at h3;simp only [Option.map_some,Option.some.injEq,Prod.mk.injEq] at h3;exact ⟨i,rfl,by rw [h3.1,hs]⟩
  have hc:P.cellsOf e=1:=by
    unfold Program.cellsOf;rw [hi];exact hi2
  have he:eqT P tt 1 e (.int k)=true:=by
    unfold eqT;rw [hfe];dsimp only;rw [hde]
    rfl
  have hvd:∀ z:Int,vd tt e [.int k z]=.int k z:=by
    intro z;unfold vd;rw [hfe];dsimp only;rw [hde]
    rfl
  have hp:∀ (a b c:Int) (w:World),(part e #[.int k a,.int k b,.int k c] 0).run P w=.ok (.int k a) w∧(part e #[.int k a,.int k b,.int k c] 1).run P w=.ok (.int k b) w∧(part e #[.int k a,.int k b,.int k c] 2).run P w=.ok (.int k c) w:=by
    intro a b c w;refine ⟨?_,?_,?_⟩
    · rw [qb hX (g:=.int k) (x:=a) (r:=[.int k b,.int k c]) rfl he rfl w]; exact congrArg (fun v=>Result.ok v w) (hvd a)
    · rw [qb hX (g:=.int k) (x:=b) (r:=[.int k c]) rfl he rfl w]; exact congrArg (fun v=>Result.ok v w) (hvd b)
    · rw [qb hX (g:=.int k) (x:=c) (r:=[]) rfl he rfl w]; exact congrArg (fun v=>Result.ok v w) (hvd c)
  obtain ⟨a,b,c⟩:=x;obtain ⟨a',b',c'⟩:=y;show (Op.equalIn (9999+1) t (.agg #[.int k a,.int k b,.int k c]) (.agg #[.int k a',.int k b',.int k c'])).run P w=_;rw [run_equalIn_array _ 9999 _ _ hu hi,hc];simp only [show List.range 3=[0,1,2] from rfl,Op.eqItems,Sem.run_bind,Nat.zero_mul,Nat.one_mul,Nat.mul_one,(hp _ _ _ _).1,(hp _ _ _ _).2.1,(hp _ _ _ _).2.2,Result.andThen_ok,run_equalIn_int _ _ _ _ _ _ _ hue];show _=Result.ok (GTy.beq (.int k) a a'&&(GTy.beq (.int k) b b'&&GTy.beq (.int k) c c')) w;have hb:∀ u v:Int,GTy.beq (.int k) u v=(u == v):=fun u v=>rfl
  rw [hb,hb,hb];cases (a == a') with
  | false=>simp
  | true=>
    simp only [Bool.not_true,Bool.false_eq_true,if_false,Bool.true_and,Sem.run_bind,(hp _ _ _ _).2.1,Result.andThen_ok,run_equalIn_int _ _ _ _ _ _ _ hue];cases (b == b') with
    | false=>simp
    | true=>
      simp only [Bool.not_true,Bool.false_eq_true,if_false,Bool.true_and,Sem.run_bind,(hp _ _ _ _).2.2,Result.andThen_ok,run_equalIn_int _ _ _ _ _ _ _ hue];cases (c == c') <;> simp
theorem of9 {x1 x2 x3 x4 x5 x6 x7 x8 x9 d:Bool} (h:zF x1 (zF x2 (zF x3 (zF x4 (zF x5 (zF x6 (zF x7 (zF x8 (zF x9 d))))))))=true) (h1:x1=true) (h2:x2=true) (h3:x3=true) (h4:x4=true) (h5:x5=true) (h6:x6=true) (h7:x7=true) (h8:x8=true) (h9:x9=true):d=true:=of8 (of1 h h1) h2 h3 h4 h5 h6 h7 h8 h9
theorem of10 {x1 x2 x3 x4 x5 x6 x7 x8 x9 x10 d:Bool} (h:zF x1 (zF x2 (zF x3 (zF x4 (zF x5 (zF x6 (zF x7 (zF x8 (zF x9 (zF x10 d)))))))))=true) (h1:x1=true) (h2:x2=true) (h3:x3=true) (h4:x4=true) (h5:x5=true) (h6:x6=true) (h7:x7=true) (h8:x8=true) (h9:x9=true) (h10:x10=true):d=true:=of9 (of1 h h1) h2 h3 h4 h5 h6 h7 h8 h9 h10
theorem of11 {x1 x2 x3 x4 x5 x6 x7 x8 x9 x10 x11 d:Bool} (h:zF x1 (zF x2 (zF x3 (zF x4 (zF x5 (zF x6 (zF x7 (zF x8 (zF x9 (zF x10 (zF x11 d))))))))))=true) (h1:x1=true) (h2:x2=true) (h3:x3=true) (h4:x4=true) (h5:x5=true) (h6:x6=true) (h7:x7=true) (h8:x8=true) (h9:x9=true) (h10:x10=true) (h11:x11=true):d=true:=of10 (of1 h h1) h2 h3 h4 h5 h6 h7 h8 h9 h10 h11
theorem of12 {x1 x2 x3 x4 x5 x6 x7 x8 x9 x10 x11 x12 d:Bool} (h:zF x1 (zF x2 (zF x3 (zF x4 (zF x5 (zF x6 (zF x7 (zF x8 (zF x9 (zF x10 (zF x11 (zF x12 d)))))))))))=true) (h1:x1=true) (h2:x2=true) (h3:x3=true) (h4:x4=true) (h5:x5=true) (h6:x6=true) (h7:x7=true) (h8:x8=true) (h9:x9=true) (h10:x10=true) (h11:x11=true) (h12:x12=true):d=true:=of11 (of1 h h1) h2 h3 h4 h5 h6 h7 h8 h9 h10 h11 h12
theorem of13 {x1 x2 x3 x4 x5 x6 x7 x8 x9 x10 x11 x12 x13 d:Bool} (h:zF x1 (zF x2 (zF x3 (zF x4 (zF x5 (zF x6 (zF x7 (zF x8 (zF x9 (zF x10 (zF x11 (zF x12 (zF x13 d))))))))))))=true) (h1:x1=true) (h2:x2=true) (h3:x3=true) (h4:x4=true) (h5:x5=true) (h6:x6=true) (h7:x7=true) (h8:x8=true) (h9:x9=true) (h10:x10=true) (h11:x11=true) (h12:x12=true) (h13:x13=true):d=true:=of12 (of1 h h1) h2 h3 h4 h5 h6 h7 h8 h9 h10 h11 h12 h13
theorem of14 {x1 x2 x3 x4 x5 x6 x7 x8 x9 x10 x11 x12 x13 x14 d:Bool} (h:zF x1 (zF x2 (zF x3 (zF x4 (zF x5 (zF x6 (zF x7 (zF x8 (zF x9 (zF x10 (zF x11 (zF x12 (zF x13 (zF x14 d)))))))))))))=true) (h1:x1=true) (h2:x2=true) (h3:x3=true) (h4:x4=true) (h5:x5=true) (h6:x6=true) (h7:x7=true) (h8:x8=true) (h9:x9=true) (h10:x10=true) (h11:x11=true) (h12:x12=true) (h13:x13=true) (h14:x14=true):d=true:=of13 (of1 h h1) h2 h3 h4 h5 h6 h7 h8 h9 h10 h11 h12 h13 h14
theorem of15 {x1 x2 x3 x4 x5 x6 x7 x8 x9 x10 x11 x12 x13 x14 x15 d:Bool} (h:zF x1 (zF x2 (zF x3 (zF x4 (zF x5 (zF x6 (zF x7 (zF x8 (zF x9 (zF x10 (zF x11 (zF x12 (zF x13 (zF x14 (zF x15 d))))))))))))))=true) (h1:x1=true) (h2:x2=true) (h3:x3=true) (h4:x4=true) (h5:x5=true) (h6:x6=true) (h7:x7=true) (h8:x8=true) (h9:x9=true) (h10:x10=true) (h11:x11=true) (h12:x12=true) (h13:x13=true) (h14:x14=true) (h15:x15=true):d=true:=of14 (of1 h h1) h2 h3 h4 h5 h6 h7 h8 h9 h10 h11 h12 h13 h14 h15
theorem of16 {x1 x2 x3 x4 x5 x6 x7 x8 x9 x10 x11 x12 x13 x14 x15 x16 d:Bool} (h:zF x1 (zF x2 (zF x3 (zF x4 (zF x5 (zF x6 (zF x7 (zF x8 (zF x9 (zF x10 (zF x11 (zF x12 (zF x13 (zF x14 (zF x15 (zF x16 d)))))))))))))))=true) (h1:x1=true) (h2:x2=true) (h3:x3=true) (h4:x4=true) (h5:x5=true) (h6:x6=true) (h7:x7=true) (h8:x8=true) (h9:x9=true) (h10:x10=true) (h11:x11=true) (h12:x12=true) (h13:x13=true) (h14:x14=true) (h15:x15=true) (h16:x16=true):d=true:=of15 (of1 h h1) h2 h3 h4 h5 h6 h7 h8 h9 h10 h11 h12 h13 h14 h15 h16
end Go.Proofs.YteglgnkcpaagjaaDoor

/- shifts.planner. -/
namespace Go.Proofs.YteglgnkcpaagjaaDoor
open Go.RowKit
abbrev g3:GTy:=.pair (.int .u8) (.pair (.int .u8) (.int .u8))
abbrev gNd:GTy:=.pair (.int .u8) (.int .i64)
abbrev gOp:GTy:=.pair (.int .u8) (.pair (.int .u8) (.pair (.pair (.int .u8) (.int .i64)) (.pair (.int .u8) (.int .i64))))
abbrev qj:=Int×Int×(Int×Int)×Int×Int
abbrev plan (p q:Nat) (ops:List qj) (rack:Int):Hp:=[(p,.cells 33 [.sl q,.val (.int .i64 rack)]),(q,.row 47 gOp ops none)]
theorem put_ok (ops l2:List qj) (rack:Int) (cap:Option Nat) (hl:ops.length+l2.length≤1000000000) :
    AC cx 19 [.c (.ptr 1000000 0),.c (.sl 1000002)] [(1000000,.cells 33 [.sl 1000001,.val (.int .i64 rack)]),(1000001,.row 47 gOp ops none),(1000002,.row 47 gOp l2 cap)] (fun sv h=>sv=.tup []∧h=plan 1000000 1000001 (ops++l2) rack):=by
  refine zN zu Tryd.func19 rfl Tryd.ntmps19 rfl rfl (res:=[]) rfl<|zq<|zk zu rfl (by first | rfl | (simp only [zb,zv,za,GTy.zero,Bool.and_eq_true,Bool.or_eq_true,Bool.not_eq_true',Bool.and_true,Bool.true_and,Bool.or_true,Bool.true_or,decide_eq_true_eq,decide_eq_false_iff_not,true_and,and_true]; omega) | (simp [zb,zv,za,GTy.zero]; omega) | (simp [zb,zv,za,GTy.zero])) ?_
  refine ⟨_,Wk.sub (st':=⟨[],[(1000000,_),(1000001,_)]⟩) SubL.nil (SubH.cons rfl rfl (SubH.cons rfl rfl SubH.nil)),_,_,rfl,rfl,?_⟩;exact ⟨rfl,rfl⟩
def rackOp (r:Int):qj:=(3,0,(0,0),0,r)
def zH (ops:List qj) (rack r:Int):List qj:=if rack=r then ops else ops++[rackOp r]
theorem turn_ok (ops:List qj) (rack r:Int) (hl:ops.length≤100000000) :
    AC cx 11 [.c (.ptr 1000000 0),.c (.val (.int .i64 r))] (plan 1000000 1000001 ops rack) (fun sv h=>sv=.tup []∧h=plan 1000000 1000001 (zH ops rack r) r):=by
  refine zN zu Tryd.func11 rfl Tryd.ntmps11 rfl rfl (res:=[]) rfl<|zj<|zq<|zk zu rfl (by first | rfl | (simp only [zb,zv,za,GTy.zero,Bool.and_eq_true,Bool.or_eq_true,Bool.not_eq_true',Bool.and_true,Bool.true_and,Bool.or_true,Bool.true_or,decide_eq_true_eq,decide_eq_false_iff_not,true_and,and_true]; omega) | (simp [zb,zv,za,GTy.zero]; omega) | (simp [zb,zv,za,GTy.zero])) ?_
  refine zl rfl rfl (fun hc0=>?_) (fun hc0=>?_)
  ·
    refine zj<|zq<|zf zu rfl (by first | rfl | (simp only [zb,zv,za,GTy.zero,Bool.and_eq_true,Bool.or_eq_true,Bool.not_eq_true',Bool.and_true,Bool.true_and,Bool.or_true,Bool.true_or,decide_eq_true_eq,decide_eq_false_iff_not,true_and,and_true]; omega) | (simp [zb,zv,za,GTy.zero]; omega) | (simp [zb,zv,za,GTy.zero])) ?_
    refine al_call [(1000000,1000000),(1000001,1000001),(1000002,13)] (put_ok ops [rackOp r] rack (some 1) (by simp; omega)) rfl ⟨rfl,rfl⟩ rfl Tryd.func19 rfl rfl rfl rfl rfl rfl (PassH.cons rfl rfl rfl (PassH.cons rfl rfl rfl (PassH.cons rfl rfl rfl PassH.nil))) ?_;rintro _ _ ⟨rfl,rfl⟩;refine ⟨_,_,rfl,rfl,?_⟩;refine zk zu rfl (by first | rfl | (simp only [zb,zv,za,GTy.zero,Bool.and_eq_true,Bool.or_eq_true,Bool.not_eq_true',Bool.and_true,Bool.true_and,Bool.or_true,Bool.true_or,decide_eq_true_eq,decide_eq_false_iff_not,true_and,and_true]; omega) | (simp [zb,zv,za,GTy.zero]; omega) | (simp [zb,zv,za,GTy.zero])) ?_;refine zq<|zk zu rfl (by first | rfl | (simp only [zb,zv,za,GTy.zero,Bool.and_eq_true,Bool.or_eq_true,Bool.not_eq_true',Bool.and_true,Bool.true_and,Bool.or_true,Bool.true_or,decide_eq_true_eq,decide_eq_false_iff_not,true_and,and_true]; omega) | (simp [zb,zv,za,GTy.zero]; omega) | (simp [zb,zv,za,GTy.zero])) ?_
    refine ⟨_,Wk.sub (st':=⟨[],[(1000000,_),(1000001,_)]⟩) SubL.nil (SubH.cons rfl rfl (SubH.cons rfl rfl SubH.nil)),_,_,rfl,rfl,?_⟩
    simp at hc0
    have e:zH ops rack r=ops++[rackOp r]:=if_neg hc0;rw [e];exact ⟨rfl,rfl⟩
  ·
    refine zd<|⟨_,Wk.sub (st':=⟨[],[(1000000,_),(1000001,_)]⟩) SubL.nil (SubH.cons rfl rfl (SubH.cons rfl rfl SubH.nil)),_,_,rfl,rfl,?_⟩
    simp at hc0
    subst hc0
    simp [zH]
abbrev G0:GTy:=.pair .bool (.pair .bool (.pair .bool .bool))
abbrev G1:GTy:=.pair (.int .i64) (.pair (.int .i64) (.int .i64))
abbrev G2:GTy:=.sl (.int .i64)
abbrev T0:Type:=List (Int×(Int×Int))
abbrev T1:Type:=List Bool
abbrev T2:Type:=List qj×Int
abbrev T3:Type:=List Int×List Int
abbrev T4:Type:=Int×(Int×Int)
end Go.Proofs.YteglgnkcpaagjaaDoor

/- shifts.planner.transfer; slices.Clip. -/
namespace Go.Proofs.YteglgnkcpaagjaaDoor
open Go.RowKit
def xferOp (bed k:Int):qj:=(7,0,(bed,k),0,0)
def xfers (bed r:Int) (at_:List Int):List qj:=at_.map fun k=>xferOp bed (k - r)
theorem take_next (l:List Int) (x:Int) (h0:0≤x) (h1:x < l.length):l.take (x+1).toNat=l.take x.toNat++[l.getD x.toNat 0]:=by
  have e:(x+1).toNat=x.toNat+1:=by omega
  have hlt:x.toNat < l.length:=by omega
  rw [e,List.take_succ_eq_append_getElem hlt,List.getD_eq_getElem?_getD,List.getElem?_eq_getElem hlt]
  rfl
theorem getD_mem (l:List Int) (x:Int) (h0:0≤x) (h1:x < l.length):l.getD x.toNat 0∈l:=by
  have hlt:x.toNat < l.length:=by omega
  rw [List.getD_eq_getElem?_getD,List.getElem?_eq_getElem hlt];exact List.getElem_mem hlt
theorem transfer_ok (ops:List qj) (rack bed r:Int) (at_:List Int) (cap:Option Nat) (hl:ops.length≤10000000) (ha:at_.length≤100000) (hk:∀ k∈at_, -100000≤k∧k≤100000) (hr:-100000≤r∧r≤100000) :
    AC cx 17 [.c (.ptr 1000000 0),.c (.val (.int .u8 bed)),.c (.sl 2000002),.c (.val (.int .i64 r))] (plan 1000000 1000001 ops rack++[(2000002,.row 3 (.int .i64) at_ cap)]) (fun sv h=>sv=.tup []∧h=plan 1000000 1000001 (ops++xfers bed r at_) rack++[(2000002,.row 3 (.int .i64) at_ cap)]):=by
  refine zN zu Tryd.func17 rfl Tryd.ntmps17 rfl rfl (res:=[]) rfl<|zj<|zq<|zk zu rfl (by first | rfl | (simp only [zb,zv,za,GTy.zero,Bool.and_eq_true,Bool.or_eq_true,Bool.not_eq_true',Bool.and_true,Bool.true_and,Bool.or_true,Bool.true_or,decide_eq_true_eq,decide_eq_false_iff_not,true_and,and_true]; omega) | (simp [zb,zv,za,GTy.zero]; omega) | (simp [zb,zv,za,GTy.zero])) ?_
  refine zn<|zc (st':=⟨[(12,_),(0,_),(1,_),(3,_),(10,_),(11,_)],[(1000000,_),(1000001,_),(2000002,_)]⟩) (Wk.sub (SubL.cons rfl (SubL.cons rfl (SubL.cons rfl (SubL.cons rfl (SubL.cons rfl (SubL.cons rfl SubL.nil)))))) (SubH.cons rfl rfl (SubH.cons rfl rfl (SubH.cons rfl rfl SubH.nil))))<|zO (fun y:Int×List qj=>[(12,.c (.val (.int .i64 y.1)))]) (fun y:Int×List qj=>[(1000000,.cells 33 [.sl 1000001,.val (.int .i64 rack)]),(1000001,.row 47 gOp y.2 none)]) (fun y:Int×List qj=>0≤y.1∧y.1≤at_.length∧y.2=ops++xfers bed r (at_.take y.1.toNat)) (fun y:Int×List qj=>(at_.length - y.1).toNat) ((0,ops)) (⟨by simp,by simp,by simp [xfers]⟩) ?_
  rintro ⟨x,o⟩ ⟨hx0,hx1,ho⟩;refine zj<|zq<|zk zu rfl (by first | rfl | (simp only [zb,zv,za,GTy.zero,Bool.and_eq_true,Bool.or_eq_true,Bool.not_eq_true',Bool.and_true,Bool.true_and,Bool.or_true,Bool.true_or,decide_eq_true_eq,decide_eq_false_iff_not,true_and,and_true]; omega) | (simp [zb,zv,za,GTy.zero]; omega) | (simp [zb,zv,za,GTy.zero])) ?_
  refine zj<|zl rfl rfl (fun hc1=>?_) (fun hc1=>?_)
  ·
    refine zd<|zj<|zn<|zj ?_
    dsimp only at hx0 hx1 ho;have hlt:x < at_.length:=by simpa using hc1
    have hkx:=hk _ (getD_mem at_ x hx0 hlt);have hol:o.length≤20000000:=by rw [ho]; simp [xfers]; omega
    refine zq<|zk zu rfl (by first | rfl | (simp only [zb,zv,za,GTy.zero,Bool.and_eq_true,Bool.or_eq_true,Bool.not_eq_true',Bool.and_true,Bool.true_and,Bool.or_true,Bool.true_or,decide_eq_true_eq,decide_eq_false_iff_not,true_and,and_true]; omega) | (simp [zb,zv,za,GTy.zero]; omega) | (simp [zb,zv,za,GTy.zero])) ?_
    refine zq<|zf zu rfl (by first | rfl | (simp only [zb,zv,za,GTy.zero,Bool.and_eq_true,Bool.or_eq_true,Bool.not_eq_true',Bool.and_true,Bool.true_and,Bool.or_true,Bool.true_or,decide_eq_true_eq,decide_eq_false_iff_not,true_and,and_true]; omega) | (simp [zb,zv,za,GTy.zero]; omega) | (simp [zb,zv,za,GTy.zero])) ?_
    refine al_call [(1000000,1000000),(1000001,1000001),(1000002,23)] (put_ok o [xferOp bed (at_.getD x.toNat 0 - r)] rack (some 1) (by simp; omega)) rfl ⟨rfl,rfl⟩ rfl Tryd.func19 rfl rfl rfl rfl rfl rfl (PassH.cons rfl rfl rfl (PassH.cons rfl rfl rfl (PassH.cons rfl rfl rfl PassH.nil))) ?_;rintro _ _ ⟨rfl,rfl⟩;refine ⟨_,_,rfl,rfl,?_⟩;refine zk zu rfl (by first | rfl | (simp only [zb,zv,za,GTy.zero,Bool.and_eq_true,Bool.or_eq_true,Bool.not_eq_true',Bool.and_true,Bool.true_and,Bool.or_true,Bool.true_or,decide_eq_true_eq,decide_eq_false_iff_not,true_and,and_true]; omega) | (simp [zb,zv,za,GTy.zero]; omega) | (simp [zb,zv,za,GTy.zero])) ?_;refine zq<|zk zu rfl (by first | rfl | (simp only [zb,zv,za,GTy.zero,Bool.and_eq_true,Bool.or_eq_true,Bool.not_eq_true',Bool.and_true,Bool.true_and,Bool.or_true,Bool.true_or,decide_eq_true_eq,decide_eq_false_iff_not,true_and,and_true]; omega) | (simp [zb,zv,za,GTy.zero]; omega) | (simp [zb,zv,za,GTy.zero])) ?_
    refine ⟨(x+1,o++[xferOp bed (at_.getD x.toNat 0 - r)]),⟨by dsimp only; omega,by dsimp only; omega,by dsimp only; rw [ho,take_next _ _ hx0 hlt]; simp [xfers]⟩,(by dsimp only; omega),Wk.sub (by repeat (first | exact SubL.nil | refine SubL.cons rfl ?_)) (SubH.cons rfl rfl (SubH.cons rfl rfl (SubH.cons rfl rfl SubH.nil)))⟩
  ·
    refine zS<|⟨_,Wk.sub (st':=⟨[],[(1000000,_),(1000001,_),(2000002,_)]⟩) SubL.nil (SubH.cons rfl rfl (SubH.cons rfl rfl (SubH.cons rfl rfl SubH.nil))),_,_,rfl,rfl,?_⟩
    have hx:x=at_.length:=by simp at hc1 hx1; omega
    dsimp only at ho;rw [hx] at ho
    simp at ho
    rw [← ho];exact ⟨rfl,rfl⟩
end Go.Proofs.YteglgnkcpaagjaaDoor
