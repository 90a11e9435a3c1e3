/- Part 2 of 6 of the proof. -/
import Derived.Test.YtihcolehefloeaaDoorCp1
import Derived.Lib.LaidTab
import Derived.Test.YtihcolehefloeaaDoorProg
import Derived.KernelRfl
import Derived.Lib.ItoaNum
import Derived.Test.YtihcolehefloeaaDoorRows
import Derived.LaidMore
import Derived.OpenShut
import Derived.Stop.Joined
import Derived.Test.YtihcolehefloeaaDoorCards
import Derived.Test.YtihcolehefloeaaDoorTie
import Derived.SevenTiedAt
import Derived.Maps.RangeRun
set_option linter.unusedSimpArgs false
set_option linter.unusedVariables false
set_option maxRecDepth 20000
set_option maxHeartbeats 4000000
/- Calls by contracts. -/
namespace Go.Proofs.YtihcolehefloeaaDoor
open Go.RowKit
abbrev Ps:=List (Nat×Nat)
def renIds (ps:Ps):List Cap→Option (List Cap)
  | []=>some []
  | .id i :: r=>match lk ps i,renIds ps r with
    | some j,some l=>some (.id j :: l)
    | _,_=>none
  | .fz g x :: r=>match renIds ps r with
    | some l=>some (.fz g x :: l)
    | none=>none
def SC.ren (ps:Ps):SC→Option SC
  | .ptr i o=>match lk ps i with
    | some j=>some (.ptr j o)
    | none=>none
  | .elt i sz k o=>match lk ps i with
    | some j=>some (.elt j sz k o)
    | none=>none
  | .sl i=>match lk ps i with
    | some j=>some (.sl j)
    | none=>none
  | .fn f ids=>match renIds ps ids with
    | some l=>some (.fn f l)
    | none=>none
  | .mref i=>match lk ps i with
    | some j=>some (.mref j)
    | none=>none
  | .bfn f i=>match lk ps i with
    | some j=>some (.bfn f j)
    | none=>none
  | .val v=>some (.val v)
  | .str s=>some (.str s)
  | .dead=>some .dead
  | .pel g x o=>some (.pel g x o)
  | .par g l=>some (.par g l)
  | .lst g l c=>some (.lst g l c)
def renCs (ps:Ps):List SC→Option (List SC)
  | []=>some []
  | c :: r=>match c.ren ps,renCs ps r with
    | some c',some r'=>some (c' :: r')
    | _,_=>none
def SA.ren (ps:Ps):SA→Option SA
  | .c x=>match x.ren ps with
    | some y=>some (.c y)
    | none=>none
  | .agg cs=>match renCs ps cs with
    | some l=>some (.agg l)
    | none=>none
  | .arr g l=>some (.arr g l)
def renAs (ps:Ps):List SA→Option (List SA)
  | []=>some []
  | c :: r=>match c.ren ps,renAs ps r with
    | some c',some r'=>some (c' :: r')
    | _,_=>none
def SV.ren (ps:Ps):SV→Option SV
  | .a x=>match x.ren ps with
    | some y=>some (.a y)
    | none=>none
  | .tup xs=>match renAs ps xs with
    | some l=>some (.tup l)
    | none=>none
  | .may _ _=>none
def Blk.ren (ps:Ps):Blk→Option Blk
  | .cells t cs=>match renCs ps cs with
    | some l=>some (.cells t l)
    | none=>none
  | .row t g l c=>some (.row t g l c)
  | .sit s p=>some (.sit s p)
  | .mp gk gv l o=>some (.mp gk gv l o)
  | .it mid es k ps'=>match lk ps mid with
    | some j=>some (.it j es k ps')
    | none=>none
  | .junk=>some .junk
  | .hrow t g l c i d=>match lk ps d with
    | some j=>some (.hrow t g l c i j)
    | none=>none
  | .rjunk=>some .rjunk
  | .lrow t g l=>some (.lrow t g l)
def renH (ps:Ps):Hp→Option Hp
  | []=>some []
  | (i,b) :: r=>match lk ps i,b.ren ps,renH ps r with
    | some j,some b',some r'=>some ((j,b') :: r')
    | _,_,_=>none
def anyIn (js:List Nat):List Cap→Bool
  | []=>false
  | .id i :: r=>js.elem i || anyIn js r
  | .fz _ _ :: r=>anyIn js r
def SC.kill:SC→List Nat→SC
  | .ptr i o,js=>match js.elem i with
    | true=>.dead
    | false=>.ptr i o
  | .elt i sz j o,js=>match js.elem i with
    | true=>.dead
    | false=>.elt i sz j o
  | .sl i,js=>match js.elem i with
    | true=>.dead
    | false=>.sl i
  | .fn f ids,js=>match anyIn js ids with
    | true=>.dead
    | false=>.fn f ids
  | .mref i,js=>match js.elem i with
    | true=>.dead
    | false=>.mref i
  | .bfn f i,js=>match js.elem i with
    | true=>.dead
    | false=>.bfn f i
  | c,_=>c
def killCs (js:List Nat):List SC→List SC
  | []=>[]
  | c :: r=>c.kill js :: killCs js r
def SA.kill:SA→List Nat→SA
  | .c x,js=>.c (x.kill js)
  | .agg cs,js=>.agg (killCs js cs)
  | .arr g l,_=>.arr g l
def killAs (js:List Nat):List SA→List SA
  | []=>[]
  | c :: r=>c.kill js :: killAs js r
def SV.kill:SV→List Nat→SV
  | .a x,js=>.a (x.kill js)
  | .may g x,js=>.may g (x.kill js)
  | .tup xs,js=>.tup (killAs js xs)
def killL (js:List Nat):Sl→Sl
  | []=>[]
  | (k,v) :: r=>(k,v.kill js) :: killL js r
def Blk.kill:Blk→List Nat→Blk
  | .cells t cs,js=>.cells t (killCs js cs)
  | .it mid es k ps,js=>match js.elem mid with
    | true=>.junk
    | false=>.it mid es k ps
  | .hrow t g l c i d,js=>match js.elem d with
    | true=>.rjunk
    | false=>.hrow t g l c i d
  | b,_=>b
def xG (js ks:List Nat):Hp→Hp
  | []=>[]
  | (k,b) :: r=>match js.elem k with
    | true=>xG js ks r
    | false=>(k,b.kill ks) :: xG js ks r
def yc:Ps→List Nat
  | []=>[]
  | (_,j) :: r=>j :: yc r
def keepP (h:Hp) (i:Nat):Bool:=match Nat.ble qZ i,Nat.ble yy i,lk h i with
  | true,_,_=>true
  | _,true,some (.cells _ _)=>true
  | _,true,some (.mp _ _ _ _)=>true
  | _,_,_=>false
def xS (h:Hp):Ps→List Nat
  | []=>[]
  | (i,j) :: r=>match keepP h i with
    | true=>xS h r
    | false=>j :: xS h r
def nodupB:List Nat→Bool
  | []=>true
  | x :: r=>!(r.elem x)&&nodupB r
def firsts:Ps→List Nat
  | []=>[]
  | (i,_) :: r=>i :: firsts r
def pinsB (n:Nat):Ps→Bool
  | []=>true
  | (i,j) :: r=>(Nat.ble qZ i || (Nat.ble yy i&&Nat.blt j qZ) || Nat.blt j n)&&pinsB n r
def okPs (n:Nat) (ps:Ps):Bool:=nodupB (firsts ps)&&nodupB (yc ps)&&pinsB n ps
def inv:Ps→Nat→Option Nat
  | [],_=>none
  | (i,j) :: r,k=>if k=j then some i else inv r k
theorem nodupB_ok:∀ {l:List Nat},nodupB l=true→l.Nodup
  | [],_=>List.nodup_nil
  | x :: r,h=>by
    simp only [nodupB,Bool.and_eq_true,Bool.not_eq_true',List.elem_eq_mem,decide_eq_false_iff_not] at h;exact List.nodup_cons.2 ⟨h.1,nodupB_ok h.2⟩
theorem lk_mem {α:Type}:∀ {l:List (Nat×α)} {i:Nat} {x:α},lk l i=some x→(i,x)∈l
  | [],_,_,h=>by cases h
  | (k,v) :: r,i,x,h=>by
    rw [qa] at h
    split at h
    · rename_i e; subst e; cases h; exact List.mem_cons_self
    · exact List.mem_cons_of_mem _ (lk_mem h)
theorem mem_firsts:∀ {ps:Ps} {i j:Nat},(i,j)∈ps→i∈firsts ps
  | [],_,_,h=>by cases h
  | (k,l) :: r,i,j,h=>by
    rcases List.mem_cons.1 h with h | h
    · cases h; exact List.mem_cons_self
    · exact List.mem_cons_of_mem _ (mem_firsts h)
theorem mem_seconds:∀ {ps:Ps} {i j:Nat},(i,j)∈ps→j∈yc ps
  | [],_,_,h=>by cases h
  | (k,l) :: r,i,j,h=>by
    rcases List.mem_cons.1 h with h | h
    · cases h; exact List.mem_cons_self
    · exact List.mem_cons_of_mem _ (mem_seconds h)
theorem mem_lk:∀ {ps:Ps} {i j:Nat},(firsts ps).Nodup→(i,j)∈ps→lk ps i=some j
  | [],_,_,_,h=>by cases h
  | (k,l) :: r,i,j,hn,h=>by
    have hn':=List.nodup_cons.1 hn;rw [qa]
    rcases List.mem_cons.1 h with hm | hm
    · cases hm; rw [if_pos rfl]
    · rw [if_neg (fun e=>hn'.1 (by subst e; exact mem_firsts hm)),mem_lk hn'.2 hm]
theorem mem_inv:∀ {ps:Ps} {i j:Nat},(yc ps).Nodup→(i,j)∈ps→inv ps j=some i
  | [],_,_,_,h=>by cases h
  | (k,l) :: r,i,j,hn,h=>by
    have hn':=List.nodup_cons.1 hn;unfold inv
    rcases List.mem_cons.1 h with hm | hm
    · cases hm; rw [if_pos rfl]
    · rw [if_neg (fun e=>hn'.1 (by subst e; exact mem_seconds hm)),mem_inv hn'.2 hm]
theorem inv_mem:∀ {ps:Ps} {i j:Nat},inv ps j=some i→(i,j)∈ps
  | [],_,_,h=>by cases h
  | (k,l) :: r,i,j,h=>by
    unfold inv at h
    split at h
    · rename_i e; subst e; cases h; exact List.mem_cons_self
    · exact List.mem_cons_of_mem _ (inv_mem h)
theorem pinsB_ok {n:Nat}:∀ {ps:Ps} {i j:Nat},pinsB n ps=true→(i,j)∈ps→qZ≤i∨(yy≤i∧j < qZ)∨j < n
  | [],_,_,_,h=>by cases h
  | (k,l) :: r,i,j,hp,h=>by
    simp only [pinsB,Bool.and_eq_true,Bool.or_eq_true] at hp
    rcases List.mem_cons.1 h with h | h
    · cases h
      rcases hp.1 with (h1 | h1) | h1
      · exact .inl (Nat.le_of_ble_eq_true h1)
      · exact .inr (.inl ⟨Nat.le_of_ble_eq_true h1.1,zA h1.2⟩)
      · exact .inr (.inr (zA h1))
    · exact pinsB_ok hp.2 h
theorem killJs_mem {h:Hp}:∀ {ps:Ps} {i j:Nat},(i,j)∈ps→(xS h ps).elem j=false→keepP h i=true
  | [],_,_,h,_=>by cases h
  | (k,l) :: r,i,j,hm,hk=>by
    unfold xS at hk
    rcases List.mem_cons.1 hm with hm | hm
    · cases hm
      split at hk
      · assumption
      · simp at hk
    · split at hk
      · exact killJs_mem hm hk
      · simp only [List.elem_eq_mem,List.mem_cons,decide_eq_false_iff_not,not_or] at hk
        exact killJs_mem hm (by simpa using hk.2)
section
variable {env env' env'':Nat→Loc} {B:Nat→Prop} {w:World} {ps:Ps} {js:List Nat}
theorem ptrs.ren (he:∀ i j,lk ps i=some j→env' j=env i):∀ {ids l:List Cap} {vs:List Value},renIds ps ids=some l→(ptrs env B w ids vs ↔ ptrs env' B w l vs)
  | [],l,vs,h=>by cases h; exact Iff.rfl
  | .id i :: ids,l,vs,h=>by
    simp only [renIds] at h
    split at h
    · rename_i j r hi hr
      cases h;constructor
      · rintro ⟨v,r',h1,⟨b,h2,h4⟩,h3⟩
        exact ⟨v,r',h1,⟨b,by rw [he i j hi]; exact h2,h4⟩,(ptrs.ren he hr).1 h3⟩
      · rintro ⟨v,r',h1,⟨b,h2,h4⟩,h3⟩
        exact ⟨v,r',h1,⟨b,by rw [← he i j hi]; exact h2,h4⟩,(ptrs.ren he hr).2 h3⟩
    · cases h
  | .fz g x :: ids,l,vs,h=>by
    simp only [renIds] at h
    split at h
    · rename_i r hr
      cases h;constructor
      · rintro ⟨v,r',h1,h2,h3⟩; exact ⟨v,r',h1,h2,(ptrs.ren he hr).1 h3⟩
      · rintro ⟨v,r',h1,h2,h3⟩; exact ⟨v,r',h1,h2,(ptrs.ren he hr).2 h3⟩
    · cases h
theorem CR.ren (he:∀ i j,lk ps i=some j→env' j=env i):∀ {c c':SC} {v:Value},c.ren ps=some c'→(CR env B w c v ↔ CR env' B w c' v)
  | .val _,_,_,h=>by cases h; exact Iff.rfl
  | .str _,_,_,h=>by cases h; exact Iff.rfl
  | .dead,_,_,h=>by cases h; exact Iff.rfl
  | .ptr i o,_,_,h=>by
    simp only [SC.ren] at h
    split at h
    · rename_i j hi
      cases h;simp only [CR,he i j hi]
    · cases h
  | .elt i sz k o,_,_,h=>by
    simp only [SC.ren] at h
    split at h
    · rename_i j hi
      cases h;simp only [CR,he i j hi]
    · cases h
  | .pel _ _ _,_,_,h=>by cases h; exact Iff.rfl
  | .par _ _,_,_,h=>by cases h; exact Iff.rfl
  | .sl i,_,_,h=>by
    simp only [SC.ren] at h
    split at h
    · rename_i j hi
      cases h;simp only [CR,he i j hi]
    · cases h
  | .lst _ _ _,_,_,h=>by cases h; exact Iff.rfl
  | .fn f ids,_,_,h=>by
    simp only [SC.ren] at h
    split at h
    · rename_i l hl
      cases h;simp only [CR];constructor
      · rintro ⟨vs,h1,h2⟩; exact ⟨vs,h1,(ptrs.ren he hl).1 h2⟩
      · rintro ⟨vs,h1,h2⟩; exact ⟨vs,h1,(ptrs.ren he hl).2 h2⟩
    · cases h
  | .mref i,_,_,h=>by
    simp only [SC.ren] at h
    split at h
    · rename_i j hi
      cases h;simp only [CR,he i j hi]
    · cases h
  | .bfn f i,_,_,h=>by
    simp only [SC.ren] at h
    split at h
    · rename_i j hi
      cases h;simp only [CR,he i j hi]
    · cases h
theorem CsR.ren (he:∀ i j,lk ps i=some j→env' j=env i):∀ {c c':List SC} {v:List Value},renCs ps c=some c'→(CsR env B w c v ↔ CsR env' B w c' v)
  | [],_,_,h=>by cases h; exact Iff.rfl
  | c :: r,_,_,h=>by
    simp only [renCs] at h
    split at h
    · rename_i c' r' h1 h2
      cases h;constructor
      · rintro ⟨v,q,e,h3,h4⟩; exact ⟨v,q,e,(CR.ren he h1).1 h3,(CsR.ren he h2).1 h4⟩
      · rintro ⟨v,q,e,h3,h4⟩; exact ⟨v,q,e,(CR.ren he h1).2 h3,(CsR.ren he h2).2 h4⟩
    · cases h
theorem SaR.ren (he:∀ i j,lk ps i=some j→env' j=env i):∀ {c c':SA} {v:Value},c.ren ps=some c'→(SaR env B w c v ↔ SaR env' B w c' v)
  | .c x,_,_,h=>by
    simp only [SA.ren] at h
    split at h
    · rename_i y hy; cases h; exact CR.ren he hy
    · cases h
  | .agg cs,_,_,h=>by
    simp only [SA.ren] at h
    split at h
    · rename_i l hl
      cases h;constructor
      · rintro ⟨vs,e,h3⟩; exact ⟨vs,e,(CsR.ren he hl).1 h3⟩
      · rintro ⟨vs,e,h3⟩; exact ⟨vs,e,(CsR.ren he hl).2 h3⟩
    · cases h
  | .arr g l,_,_,h=>by cases h; exact Iff.rfl
theorem SasR.ren (he:∀ i j,lk ps i=some j→env' j=env i):∀ {c c':List SA} {v:List Value},renAs ps c=some c'→(SasR env B w c v ↔ SasR env' B w c' v)
  | [],_,_,h=>by cases h; exact Iff.rfl
  | c :: r,_,_,h=>by
    simp only [renAs] at h
    split at h
    · rename_i c' r' h1 h2
      cases h;constructor
      · rintro ⟨v,q,e,h3,h4⟩; exact ⟨v,q,e,(SaR.ren he h1).1 h3,(SasR.ren he h2).1 h4⟩
      · rintro ⟨v,q,e,h3,h4⟩; exact ⟨v,q,e,(SaR.ren he h1).2 h3,(SasR.ren he h2).2 h4⟩
    · cases h
theorem VR.ren (he:∀ i j,lk ps i=some j→env' j=env i):∀ {c c':SV} {v:Value},c.ren ps=some c'→VR env B w c v→VR env' B w c' v
  | .a x,_,_,h,hv=>by
    simp only [SV.ren] at h
    split at h
    · rename_i y hy; cases h; exact (SaR.ren he hy).1 hv
    · cases h
  | .tup xs,_,_,h,⟨vs,e,hv⟩=>by
    simp only [SV.ren] at h
    split at h
    · rename_i l hl; cases h; exact ⟨vs,e,(SasR.ren he hl).1 hv⟩
    · cases h
  | .may _ _,_,_,h,_=>by cases h
theorem BR.ren (he:∀ i j,lk ps i=some j→env' j=env i) {i j:Nat} (hi:lk ps i=some j):∀ {b b':Blk} {c:Ck},b.ren ps=some b'→(BR env B w i b c ↔ BR env' B w j b' c)
  | .cells t cs,_,_,h=>by
    simp only [Blk.ren] at h
    split at h
    · rename_i l hl
      cases h;simp only [BR,he i j hi];constructor
      · rintro ⟨b,vs,h1,h2,h3⟩; exact ⟨b,vs,h1,h2,(CsR.ren he hl).1 h3⟩
      · rintro ⟨b,vs,h1,h2,h3⟩; exact ⟨b,vs,h1,h2,(CsR.ren he hl).2 h3⟩
    · cases h
  | .row t g l c,_,_,h=>by cases h; simp only [BR,he i j hi]
  | .sit s p,_,_,h=>by cases h; simp only [BR,he i j hi]
  | .mp gk gv l o,_,_,h=>by cases h; simp only [BR,he i j hi]
  | .it mid es k ps',_,_,h=>by
    simp only [Blk.ren] at h
    split at h
    · rename_i j' hj
      cases h;simp only [BR,he i j hi,he mid j' hj]
    · cases h
  | .junk,_,_,h=>by cases h; simp only [BR,he i j hi]
  | .hrow t g l c q d,_,_,h=>by
    simp only [Blk.ren] at h
    split at h
    · rename_i j' hj
      cases h;simp only [BR,he i j hi,he d j' hj]
    · cases h
  | .rjunk,_,_,h=>by cases h; simp only [BR,he i j hi]
  | .lrow t g l,_,_,h=>by cases h; simp only [BR,he i j hi]
theorem HR.ren (he:∀ i j,lk ps i=some j→env' j=env i):∀ {h h':Hp} {H:List Ck},renH ps h=some h'→HR env B w h H→HR env' B w h' H
  | [],_,_,h,hh=>by cases h; exact hh
  | (i,b) :: r,_,_,h,⟨c,H',e,h1,h2⟩=>by
    simp only [renH] at h
    split at h
    · rename_i j b' r' h3 h4 h5
      cases h;exact ⟨c,H',e,(BR.ren he h3 h4).1 h1,HR.ren he h5 h2⟩
    · cases h
theorem ptrs.kill (he:∀ j,js.elem j=false→env' j=env j):∀ {ids:List Cap} {vs:List Value},anyIn js ids=false→ptrs env B w ids vs→ptrs env' B w ids vs
  | [],_,_,h=>h
  | .id i :: ids,_,hn,⟨v,r,e,⟨b,hb,hv⟩,h⟩=>by
    simp only [anyIn,Bool.or_eq_false_iff] at hn;exact ⟨v,r,e,⟨b,by rw [he i hn.1]; exact hb,hv⟩,ptrs.kill he hn.2 h⟩
  | .fz g x :: ids,_,hn,⟨v,r,e,h1,h⟩=>⟨v,r,e,h1,ptrs.kill he (by simpa [anyIn] using hn) h⟩
variable (he:∀ j,js.elem j=false→env' j=env j)
include he
theorem CR.kill:∀ {c:SC} {v:Value},CR env B w c v→CR env' B w (c.kill js) v
  | .val _,_,hc=>hc
  | .str _,_,hc=>hc
  | .dead,_,hc=>hc
  | .ptr i o,v,hc=>by
    simp only [SC.kill]
    split
    · trivial
    · rename_i h
      obtain ⟨b,e,hv⟩:=hc;exact ⟨b,by rw [he i h]; exact e,hv⟩
  | .elt i sz j o,v,hc=>by
    simp only [SC.kill]
    split
    · trivial
    · rename_i h
      obtain ⟨b,c,n,e,hv⟩:=hc;exact ⟨b,c,n,by rw [he i h]; exact e,hv⟩
  | .pel _ _ _,_,hc=>hc
  | .par _ _,_,hc=>hc
  | .sl i,v,hc=>by
    simp only [SC.kill]
    split
    · trivial
    · rename_i h
      obtain ⟨A,c,n,e,hv⟩:=hc;exact ⟨A,c,n,by rw [he i h]; exact e,hv⟩
  | .lst _ _ _,_,hc=>hc
  | .fn f ids,v,hc=>by
    simp only [SC.kill]
    split
    · trivial
    · rename_i h
      obtain ⟨vs,hv,hp⟩:=hc;exact ⟨vs,hv,ptrs.kill he h hp⟩
  | .mref i,v,hc=>by
    simp only [SC.kill]
    split
    · trivial
    · rename_i h
      obtain ⟨b,e,hv⟩:=hc;exact ⟨b,by rw [he i h]; exact e,hv⟩
  | .bfn f i,v,hc=>by
    simp only [SC.kill]
    split
    · trivial
    · rename_i h
      obtain ⟨b,e,hv⟩:=hc;exact ⟨b,by rw [he i h]; exact e,hv⟩
theorem CsR.kill:∀ {c:List SC} {v:List Value},CsR env B w c v→CsR env' B w (killCs js c) v
  | [],_,hc=>hc
  | _ :: _,_,⟨v,r,e,h1,h2⟩=>⟨v,r,e,CR.kill he h1,CsR.kill h2⟩
theorem SaR.kill:∀ {c:SA} {v:Value},SaR env B w c v→SaR env' B w (c.kill js) v
  | .c _,_,hc=>CR.kill he hc
  | .agg _,_,⟨vs,e,h1⟩=>⟨vs,e,CsR.kill he h1⟩
  | .arr _ _,_,h=>h
theorem SasR.kill:∀ {c:List SA} {v:List Value},SasR env B w c v→SasR env' B w (killAs js c) v
  | [],_,hc=>hc
  | _ :: _,_,⟨v,r,e,h1,h2⟩=>⟨v,r,e,SaR.kill he h1,SasR.kill h2⟩
theorem VR.kill:∀ {c:SV} {v:Value},VR env B w c v→VR env' B w (c.kill js) v
  | .a _,_,hc=>SaR.kill he hc
  | .may _ _,_,hc=>⟨fun hg=>SaR.kill he (hc.1 hg),hc.2⟩
  | .tup _,_,⟨vs,e,h1⟩=>⟨vs,e,SasR.kill he h1⟩
theorem BR.kill {k:Nat} (hk:env' k=env k):∀ {b:Blk} {c:Ck},BR env B w k b c→BR env' B w k (b.kill js) c
  | .cells _ _,_,⟨b,vs,e,hc,h1⟩=>⟨b,vs,by rw [hk]; exact e,hc,CsR.kill he h1⟩
  | .row _ _ _ _,_,⟨A,c,xs,e,hc,h1⟩=>⟨A,c,xs,by rw [hk]; exact e,hc,h1⟩
  | .sit _ _,_,⟨b,e,hc⟩=>⟨b,by rw [hk]; exact e,hc⟩
  | .mp _ _ _ _,_,⟨b,es,q,e,hc⟩=>⟨b,es,q,by rw [hk]; exact e,hc⟩
  | .it mid _ _ _,_,⟨b,m,e,hm,hc⟩=>by
    simp only [Blk.kill]
    split
    · exact ⟨b,_,by rw [hk]; exact e,hc⟩
    · rename_i h
      exact ⟨b,m,by rw [hk]; exact e,by rw [he mid h]; exact hm,hc⟩
  | .junk,_,⟨b,o,e,hc⟩=>⟨b,o,by rw [hk]; exact e,hc⟩
  | .hrow t g l cap i d,_,⟨A,c,ys,A',c',m,e,hc,h1,hi,h2,h3⟩=>by
    simp only [Blk.kill]
    split
    · exact ⟨A,c,_,_,_,_,_,by rw [hk]; exact e,hc⟩
    · rename_i h
      exact ⟨A,c,ys,A',c',m,by rw [hk]; exact e,hc,h1,hi,by rw [he d h]; exact h2,h3⟩
  | .rjunk,_,⟨A,c,n,t,s,m,xs,e,hc⟩=>⟨A,c,n,t,s,m,xs,by rw [hk]; exact e,hc⟩
  | .lrow _ _ _,_,⟨A,c,e,h1⟩=>⟨A,c,by rw [hk]; exact e,h1⟩
omit he in
theorem lk_killL:∀ {l:Sl} {s:Nat} {v:SV},lk (killL js l) s=some v→∃ u,lk l s=some u∧v=u.kill js
  | [],_,_,h=>by cases h
  | (k,u) :: l,s,v,h=>by
    unfold killL at h;rw [qa] at h ⊢
    split at h
    · rename_i e
      cases h;rw [if_pos e];exact ⟨u,rfl,rfl⟩
    · rename_i e
      rw [if_neg e];exact lk_killL h
omit he in
theorem HR.append:∀ {h h':Hp} {H H':List Ck},HR env B w h H→HR env B w h' H'→HR env B w (h++h') (H++H')
  | [],_,_,_,h1,h2=>by rw [show _=[] from h1]; exact h2
  | _ :: _,_,_,_,⟨c,H',e,h1,h2⟩,h3=>⟨c,_,by rw [e]; rfl,h1,HR.append h2 h3⟩
end
inductive PassH (ps:Ps):Hp→Hp→Hp→Prop where
  | nil {H:Hp}:PassH ps [] H H
  | cons {i j:Nat} {b b':Blk} {r H H':Hp} (hi:lk ps i=some j) (hb:b.ren ps=some b') (hl:lk H j=some b') (hr:PassH ps r (eraseH j H) H'):PassH ps ((i,b) :: r) H H'
section
variable {env env' env'':Nat→Loc} {B:Nat→Prop} {w:World} {ps:Ps} {js ks:List Nat}
theorem PassH.split (he:∀ i j,lk ps i=some j→env' j=env i) {h H H':Hp} (hp:PassH ps h H H'):∀ {C:List Ck},HR env' B w H C→∃ C1 C2,C.Perm (C1++C2)∧HR env B w h C1∧HR env' B w H' C2:=by
  induction hp with
  | nil=>intro C hC; exact ⟨[],C,List.Perm.refl _,rfl,hC⟩
  | cons hi hb hl _ ih=>
    intro C hC;obtain ⟨c,H2,h1,h2,h3⟩:=hC.erase hl;obtain ⟨C1,C2,h4,h5,h6⟩:=ih h3;exact ⟨c :: C1,C2,h2.trans (List.Perm.cons _ h4),⟨c,C1,rfl,(BR.ren he hi hb).2 h1,h5⟩,h6⟩
theorem HR.frame (he:∀ j,ks.elem j=false→env' j=env j) (hk:∀ k,js.elem k=false→env' k=env k):∀ {l:Hp} {H:List Ck},HR env B w l H→∃ H',H'.Sublist H∧HR env' B w (xG js ks l) H'∧(js=[]→H'=H)
  | [],_,hh=>⟨[],by rw [show _=[] from hh]; exact List.Sublist.refl _,rfl,fun _=>(show _=[] from hh).symm⟩
  | (k,b) :: l,_,⟨c,H',e,h1,h2⟩=>by
    obtain ⟨H2,hs,h3,h4⟩:=HR.frame he hk h2;subst e;unfold xG
    split
    · rename_i h
      exact ⟨H2,hs.cons _,h3,fun e=>by rw [e] at h; cases h⟩
    · rename_i h
      exact ⟨c :: H2,hs.cons_cons _,⟨c,H2,rfl,BR.kill he (hk k h) h1,h3⟩,fun e=>by rw [h4 e]⟩
end
def aes (X:Cx) (L:Sl):List Operand→Option (Bool×List SA)
  | []=>some (true,[])
  | u :: r=>match ae X L u,aes X L r with
    | some (g,x),some (c,l)=>some (g&&c,x :: l)
    | _,_=>none
theorem aes_ok {X:Cx} {R:Nat→Prop} {W:World} {Bi:Bk} {n:Nat} {ks:List Nat} {env:Nat→Loc} {B:Nat→Prop} {w0:World} {H:List Ck} {st:ASt} {a:Act} {w:World} (h:AI X R W Bi n ks env B w0 H st a w) :
    ∀ {us:List Operand} {c:Bool} {xs:List SA},aes X st.L us=some (c,xs)→c=true→∃ vs,evs (full a) us=some vs∧SasR env B w0 xs vs
  | [],c,xs,hu,_=>by cases hu; exact ⟨[],rfl,rfl⟩
  | u :: us,c,xs,hu,hc=>by
    simp only [aes] at hu
    split at hu
    · rename_i g x c' l h1 h2
      cases hu;simp only [Bool.and_eq_true] at hc;obtain ⟨v,h3,h4⟩:=h.ev h1 hc.1;obtain ⟨vs,h5,h6⟩:=aes_ok h h2 hc.2;refine ⟨v :: vs,?_,v,vs,rfl,h4,h6⟩;unfold evs;rw [h3,h5]
    · cases hu
theorem AI.called {X:Cx} {R:Nat→Prop} {W:World} {Bi:Bk} {n d:Nat} {ks:List Nat} {env:Nat→Loc} {B:Nat→Prop} {w0:World} {H:List Ck} {st:ASt} {a a':Act} {w w':World} {ps:Ps} {h H1:Hp} {Q:SV→Hp→Prop} {v:Value} (hA:AI X R W Bi n ks env B w0 H st a w)
    (hps:okPs n ps=true) {C1 C2:List Ck} (hperm:H.Perm (C1++C2)) (hC1:HR (fun i=>match lk ps i with | some j=>env j | none=>.no) B w0 h C1) (hC2:HR env B w0 H1 C2)
    (hpost:ACpost X (fun i=>match lk ps i with | some j=>env j | none=>.no) B C1 w Q v w') (hS:St n (ks.map yo) ((d,v) :: full a) a') :
    ∃ sv h',Q sv h'∧∀ sv' h'',sv.ren ps=some sv'→renH ps h'=some h''→∃ env' B' w0' H',AI X R W Bi n ks env' B' w0' H' ⟨(d,sv') :: killL (xS h ps) st.L,h''++xG (yc ps) (xS h ps) H1⟩ a' w'∧(∀ k,B k→B' k)∧KO (fun k=>R k∨B k) w0 w0'∧(ps=[]→∀ c∈C2,c∈H'):=by
  obtain ⟨env',B',w0',H',sv,h',hQ,hsub,hnew,hko,hvr,hhr,hsh,hpin⟩:=hpost;refine ⟨sv,h',hQ,fun sv' h'' hsv hh=>?_⟩;simp only [okPs,Bool.and_eq_true] at hps;obtain ⟨⟨hp1,hp2⟩,hp3⟩:=hps;have hf:=nodupB_ok hp1;have hs2:=nodupB_ok hp2;have hs:SH (fun k=>R k∨B k) w0 (C1++(C2++ks.map mkO)) w:=by
    have:=hA.sh.perm (hperm.append_right (ks.map mkO))
    rw [List.append_assoc] at this;exact this
  have hpart:=List.pairwise_append.1 hs.apart;have hRest:∀ k,R k∨B k→Rest w C1 k:=fun k hk=>⟨hs.base k hk,fun c hc e=>((hs.ok c (List.mem_append_left _ hc)).lt e).1 hk⟩
  have hFr:∀ c∈C2++ks.map mkO,∀ b,c.at=some b→Rest w C1 b∧¬ (R b∨B b):=fun c hc b hb=>by
    have h1:=(hs.ok c (List.mem_append_right _ hc)).lt hb;exact ⟨⟨h1.2,fun c' hc' e=>hpart.2.2 c' hc' c hc b e hb⟩,h1.1⟩
  have hsame:∀ k,Rest w C1 k→w'.heap[k]?=w.heap[k]?:=fun k hk=>(hsh.below.block k (.inl hk)).trans (hko.block k hk)
  have hup:Up B w0 B' w0':=⟨hsub,fun k hk=>(hko.block k (hRest k (.inr hk))).trans (hs.below.block k (.inr hk))⟩
  let e2:Nat→Loc:=fun j=>match inv ps j with | some i=>env' i | none=>env j
  have he1:∀ i j,lk ps i=some j→e2 j=env' i:=fun i j hij=>by
    show (match inv ps j with | some i=>env' i | none=>env j)=_;rw [mem_inv hs2 (lk_mem hij)]
  have hBlk:∀ {l:Hp} {C:List Ck} {envc:Nat→Loc} {Bc:Nat→Prop} {wc:World} {i:Nat} {t:TypeId} {cs:List SC},HR envc Bc wc l C→lk l i=some (.cells t cs)→∃ b,envc i=.blk b:=by
    intro l C envc Bc wc i t cs hl hi;obtain ⟨c,K,⟨b,vs,h1,_⟩,_⟩:=hl.foc hi;exact ⟨b,h1⟩
  have hBlkM:∀ {l:Hp} {C:List Ck} {envc:Nat→Loc} {Bc:Nat→Prop} {wc:World} {i:Nat} {gk gv:GTy} {q:List (gk.D×gv.D)} {o:Option (List MapEntry×Nat)},HR envc Bc wc l C→lk l i=some (.mp gk gv q o)→∃ b,envc i=.blk b:=by
    intro l C envc Bc wc i gk gv q o hl hi;obtain ⟨c,K,⟨b,_,_,h1,_⟩,_⟩:=hl.foc hi;exact ⟨b,h1⟩
  have he2:∀ j,(xS h ps).elem j=false→e2 j=env j:=fun j hj=>by
    show (match inv ps j with | some i=>env' i | none=>env j)=_;cases hi:inv ps j with
    | none=>rfl
    | some i=>
      have hm:=inv_mem hi;have hkeep:=killJs_mem hm hj;have hij:=mem_lk hf hm;unfold keepP at hkeep
      split at hkeep
      · rename_i hb
        show env' i=env j;exact hpin i (env j) (.inr (Nat.le_of_ble_eq_true hb)) (by simp only [hij])
      · rename_i t cs hb hl _
        obtain ⟨b,hb1⟩:=hBlk hC1 hl;have h1:=hpin i (.blk b) (.inl ⟨Nat.le_of_ble_eq_true hb,b,rfl⟩) hb1;rw [hij] at hb1;show env' i=env j;rw [h1];exact hb1.symm
      · rename_i gk gv q o hb hl _
        obtain ⟨b,hb1⟩:=hBlkM hC1 hl;have h1:=hpin i (.blk b) (.inl ⟨Nat.le_of_ble_eq_true hb,b,rfl⟩) hb1;rw [hij] at hb1;show env' i=env j;rw [h1];exact hb1.symm
      · cases hkeep
  have he3:∀ k,(yc ps).elem k=false→e2 k=env k:=fun k hk=>by
    show (match inv ps k with | some i=>env' i | none=>env k)=_;cases hi:inv ps k with
    | none=>rfl
    | some i=>
      have:=mem_seconds (inv_mem hi)
      simp only [List.elem_eq_mem,decide_eq_false_iff_not] at hk;exact absurd this hk
  obtain ⟨C3,hsl,hC3,hC4⟩:=HR.frame (js:=yc ps) (ks:=xS h ps) he2 he3 (hC2.up hup);have hKO:KO (fun k=>R k∨B k) w0 w0':=⟨hko.os.trans hs.below.os,hko.tape.trans hs.below.tape,hko.output.trans hs.below.output,Nat.le_trans hs.below.size hko.size,fun k hk=>(hko.block k (hRest k hk)).trans (hs.below.block k hk)⟩
  refine ⟨e2,B',w0',H'++C3,⟨hS.size,hS.defs,fun s u hu=>?_,(HR.ren he1 hh hhr).append hC3,?_,fun k hk=>hsub k (hA.sub k hk),fun k hk=>?_,fun id b hb=>?_,?_,fun i x hx=>(hA.glob i x hx).up hup⟩,hsub,hKO,fun e c hc=>List.mem_append_right _ (by rw [hC4 (by rw [e]; rfl)]; exact hc)⟩
  · rw [qa] at hu
    split at hu
    · rename_i e; subst e; cases hu; exact ⟨v,hS.this,VR.ren he1 hsv hvr⟩
    · rename_i e
      obtain ⟨u0,hu0,rfl⟩:=lk_killL hu;obtain ⟨u',h3,h4⟩:=hA.has s u0 hu0;exact ⟨u',hS.other e h3,VR.kill he2 (h4.up hup)⟩
  · have hsub2:(C3++ks.map mkO).Sublist (C2++ks.map mkO):=hsl.append_right _
    rw [List.append_assoc];refine ⟨⟨hsh.below.os,hsh.below.tape,hsh.below.output,hsh.below.size,fun k hk=>hsh.below.block k (hk.imp (fun h=>hRest k (.inl h)) id)⟩,fun k hk=>hsh.base k (hk.imp (fun h=>hRest k (.inl h)) id),fun c hc=>?_,List.pairwise_append.2 ⟨hsh.apart,hpart.2.1.sublist hsub2,fun c hc d hd b hb hb'=>?_⟩⟩
    · rcases List.mem_append.1 hc with hc | hc
      · exact (hsh.ok c hc).base fun b hb hk=>((hsh.ok c hc).lt hb).1 (hk.imp (fun h=>hRest b (.inl h)) id)
      · have hc':=hsub2.subset hc
        have hok:=hs.ok c (List.mem_append_right _ hc');refine (hok.keep (w':=w') fun b hb=>hsame b (hFr c hc' b hb).1).base fun b hb hk=>?_
        obtain ⟨h5,h6⟩:=hFr c hc' b hb
        rcases hk with hk | hk
        · exact h6 (.inl hk)
        · rcases hnew b hk with h7 | h7
          · exact h6 (.inr h7)
          · exact h7.1 h5
    · exact ((hsh.ok c hc).lt hb).1 (.inl (hFr d (hsub2.subset hd) b hb').1)
  · rcases hnew k hk with h5 | h5
    · exact (hA.new k h5).imp_right fun h'=>⟨h'.1,h'.2.keep ((hko.block k (hRest k (.inr h5))).trans (hs.below.block k (.inr h5)))⟩
    · exact .inr ⟨fun hR=>h5.1 (hRest k (.inl hR)),h5.2⟩
  · obtain ⟨h5,h6,h8⟩:=hA.pin id b hb
    refine ⟨h5,?_,h8⟩;show (match inv ps id with | some i=>env' i | none=>env id)=_;cases hi:inv ps id with
    | none=>exact h6
    | some i=>
      have hm:=inv_mem hi;have hij:=mem_lk hf hm
      rcases pinsB_ok hp3 hm with h7 | ⟨h7,h9⟩ | h7
      · exact hpin i b (.inr h7) (by simp only [hij]; exact h6)
      · rcases h8 with h8 | h8
        · exact hpin i b (.inl ⟨h7,h8⟩) (by simp only [hij]; exact h6)
        · omega
      · omega
  · exact hA.base.trans ⟨hko.os.trans hs.below.os,hko.tape.trans hs.below.tape,hko.output.trans hs.below.output,Nat.le_trans hs.below.size hko.size,fun k hk=>(hko.block k (hRest k (.inl hk))).trans (hs.below.block k (.inl hk))⟩
section
variable {X:Cx} {M:Bool} {n:Nat} {r:Option Nat} {st:ASt} {Q:Exit→ASt→Prop} {ops rest:List Oper} {o:Oper} {d:Nat}
theorem qQ {f:FuncId} {fn:Func} {xs:List Operand} {ts:Array TypeId} {args args':List SA} {h H1:Hp} {Qc:SV→Hp→Prop} {c:Bool} (ps:Ps) (hC:AC X f args h Qc) (hop:o.op=.call { callee:=.value (.func f),args:=xs.toArray,argTypes:=ts }) (ho:o.guard=none∧o.dst=some d) (hd:Nat.blt d n=true)
    (hfn : X.P.funcs[f]? = some fn) (hn : (fn.name == "runtime.NumGoroutine") = false) (hb : fn.body.isNone = false) (hargs : aes X st.L xs = some (c, args')) (hc : c = true) (hren : renAs ps args = some args') (hps : okPs n ps = true) (hpass : PassH ps h st.H H1)
    (hnext:∀ sv h',Qc sv h'→∃ sv' h'',sv.ren ps=some sv'∧renH ps h'=some h''∧AL X M n r ops rest ⟨(d,sv') :: killL (xS h ps) st.L,h''++xG (yc ps) (xS h ps) H1⟩ Q):AL X M n r ops (o :: rest) st Q:=by
  rintro R W Bi a w ⟨ks,env,B,w0,H,hM,hA⟩;obtain ⟨vs,h1,h2⟩:=aes_ok hA hargs hc;have he:∀ i j,lk ps i=some j→env j=(fun i=>match lk ps i with | some j=>env j | none=>Loc.no) i:=fun i j hij=>by simp only [hij]
  obtain ⟨C1,C2,h3,h4,h5⟩:=PassH.split (env:=fun i=>match lk ps i with | some j=>env j | none=>Loc.no) he hpass hA.heap;have hs:SH B w0 C1 w:=by
    have h6:=(hA.sh.perm (h3.append_right (ks.map mkO))).weak (H':=C1) (by rw [List.append_assoc]; exact List.sublist_append_left _ _);exact ⟨⟨h6.below.os,h6.below.tape,h6.below.output,h6.below.size,fun k hk=>h6.below.block k (.inr hk)⟩,fun k hk=>h6.base k (.inr hk),fun c hc=>(h6.ok c hc).base fun b hb hk=>((h6.ok c hc).lt hb).1 (.inr hk),h6.apart⟩
  refine qE (y_call hA.sym hop ho hd hfn hn hb h1 (hC B w0 _ vs C1 w (fun i x hx=>hA.glob i x hx) ((SasR.ren he hren).2 h2) h4 hs) fun v a' w' hpost hS=>?_);obtain ⟨sv,h',hQ,hnx⟩:=hA.called hps h3 h4 h5 hpost hS;obtain ⟨sv',h'',e1,e2,hAL⟩:=hnext sv h' hQ;obtain ⟨env',B',w0',H',hA',_,_,_⟩:=hnx sv' h'' e1 e2;exact hAL R W Bi a' w' ⟨ks,env',B',w0',H',hM,hA'⟩
end
end Go.Proofs.YtihcolehefloeaaDoor

/- Calls of closures, guarded operations, functions with marks. -/
namespace Go.Proofs.YtihcolehefloeaaDoor
open Go.RowKit
def ptrAs:List Cap→List SA
  | []=>[]
  | .id i :: r=>.c (.ptr i 0) :: ptrAs r
  | .fz g x :: r=>.c (.pel g x 0) :: ptrAs r
section
variable {X:Cx} {M:Bool} {n:Nat} {r:Option Nat} {st:ASt} {Q:Exit→ASt→Prop} {ops rest:List Oper} {o:Oper} {d:Nat}
theorem ptrs_sas {env:Nat→Loc} {B:Nat→Prop} {w:World}:∀ {ids:List Cap} {vs:List Value},ptrs env B w ids vs→SasR env B w (ptrAs ids) vs
  | [],_,h=>h
  | .id _ :: ids,_,⟨v,r,e,h1,h⟩=>⟨v,r,e,h1,ptrs_sas h⟩
  | .fz _ _ :: ids,_,⟨v,r,e,⟨b,o,h1,h2⟩,h⟩=>⟨v,r,e,⟨b,o,by rw [h1]; rfl,h2⟩,ptrs_sas h⟩
theorem SasR.append {env:Nat→Loc} {B:Nat→Prop} {w:World}:∀ {xs ys:List SA} {vs us:List Value},SasR env B w xs vs→SasR env B w ys us→SasR env B w (xs++ys) (vs++us)
  | [],_,_,_,h,h'=>by rw [show _=[] from h]; exact h'
  | _ :: _,_,_,_,⟨v,r,e,h1,h2⟩,h'=>⟨v,_,by rw [e]; rfl,h1,SasR.append h2 h'⟩
theorem yC {f:FuncId} {fn:Func} {s:Nat} {ids:List Cap} {xs:List Operand} {ts:Array TypeId} {args args':List SA} {h H1:Hp} {Qc:SV→Hp→Prop} {c:Bool} (ps:Ps) (hC:AC X f args h Qc) (hop:o.op=.call { callee:=.value (.tmp s),args:=xs.toArray,argTypes:=ts }) (ho:o.guard=none∧o.dst=some d) (hd:Nat.blt d n=true)
    (hs : lk st.L s = some (.c (.fn f ids))) (hfn : X.P.funcs[f]? = some fn) (hn : (fn.name == "runtime.NumGoroutine") = false) (hb : fn.body.isNone = false) (hargs : aes X st.L xs = some (c, args')) (hc : c = true) (hren : renAs ps args = some (args' ++ ptrAs ids)) (hps : okPs n ps = true) (hpass : PassH ps h st.H H1)
    (hnext:∀ sv h',Qc sv h'→∃ sv' h'',sv.ren ps=some sv'∧renH ps h'=some h''∧AL X M n r ops rest ⟨(d,sv') :: killL (xS h ps) st.L,h''++xG (yc ps) (xS h ps) H1⟩ Q):AL X M n r ops (o :: rest) st Q:=by
  rintro R W Bi a w ⟨ks,env,B,w0,H,hM,hA⟩;obtain ⟨vs,h1,h2⟩:=aes_ok hA hargs hc;obtain ⟨fv,hf1,lb,rfl,hf2⟩:=hA.has _ _ hs;have he:∀ i j,lk ps i=some j→env j=(fun i=>match lk ps i with | some j=>env j | none=>Loc.no) i:=fun i j hij=>by simp only [hij]
  obtain ⟨C1,C2,h3,h4,h5⟩:=PassH.split (env:=fun i=>match lk ps i with | some j=>env j | none=>Loc.no) he hpass hA.heap;have hs':SH B w0 C1 w:=by
    have h6:=(hA.sh.perm (h3.append_right (ks.map mkO))).weak (H':=C1) (by rw [List.append_assoc]; exact List.sublist_append_left _ _);exact ⟨⟨h6.below.os,h6.below.tape,h6.below.output,h6.below.size,fun k hk=>h6.below.block k (.inr hk)⟩,fun k hk=>h6.base k (.inr hk),fun c hc=>(h6.ok c hc).base fun b hb hk=>((h6.ok c hc).lt hb).1 (.inr hk),h6.apart⟩
  refine qE (y_callV hA.sym hop ho hd (zU hf1) hfn hn hb h1 (hC B w0 _ (vs++lb) C1 w (fun i x hx=>hA.glob i x hx) ((SasR.ren he hren).2 (h2.append (ptrs_sas hf2))) h4 hs') fun v a' w' hpost hS=>?_);obtain ⟨sv,h',hQ,hnx⟩:=hA.called hps h3 h4 h5 hpost hS;obtain ⟨sv',h'',e1,e2,hAL⟩:=hnext sv h' hQ;obtain ⟨env',B',w0',H',hA',_,_,_⟩:=hnx sv' h'' e1 e2;exact hAL R W Bi a' w' ⟨ks,env',B',w0',H',hM,hA'⟩
theorem killL_nil:∀ L:Sl,killL [] L=L:=by
  have h1:∀ c:SC,c.kill []=c:=by
    have h0:∀ ids:List Cap,anyIn [] ids=false:=by
      intro ids
      induction ids with
      | nil=>rfl
      | cons i r ih=>cases i <;> simp [anyIn,ih]
    intro c;cases c with
    | fn f ids=>simp only [SC.kill,h0]
    | _=>rfl
  have h2:∀ cs:List SC,killCs [] cs=cs:=by
    intro cs
    induction cs with
    | nil=>rfl
    | cons c r ih=>simp only [killCs,h1,ih]
  have h3:∀ x:SA,x.kill []=x:=by
    intro x;cases x with
    | c x=>simp only [SA.kill,h1]
    | agg cs=>simp only [SA.kill,h2]
    | arr g l=>rfl
  have h4:∀ xs:List SA,killAs [] xs=xs:=by
    intro xs
    induction xs with
    | nil=>rfl
    | cons c r ih=>simp only [killAs,h3,ih]
  have h5:∀ x:SV,x.kill []=x:=by
    intro x;cases x with
    | a x=>simp only [SV.kill,h3]
    | may g x=>simp only [SV.kill,h3]
    | tup xs=>simp only [SV.kill,h4]
  intro L
  induction L with
  | nil=>rfl
  | cons p r ih=>obtain ⟨k,v⟩:=p; simp only [killL,h5,ih]
theorem frameH_nil:∀ H:Hp,xG [] [] H=H:=by
  have h1:∀ c:SC,c.kill []=c:=by
    have h0:∀ ids:List Cap,anyIn [] ids=false:=by
      intro ids
      induction ids with
      | nil=>rfl
      | cons i r ih=>cases i <;> simp [anyIn,ih]
    intro c;cases c with
    | fn f ids=>simp only [SC.kill,h0]
    | _=>rfl
  have h2:∀ cs:List SC,killCs [] cs=cs:=by
    intro cs
    induction cs with
    | nil=>rfl
    | cons c r ih=>simp only [killCs,h1,ih]
  intro H
  induction H with
  | nil=>rfl
  | cons p r ih=>
    obtain ⟨k,b⟩:=p;cases b with
    | cells t cs=>simp [xG,Blk.kill,h2,ih]
    | row t g l c=>simp [xG,Blk.kill,ih]
    | sit s p=>simp [xG,Blk.kill,ih]
    | mp gk gv l o=>simp [xG,Blk.kill,ih]
    | it mid es k ps=>simp [xG,Blk.kill,ih]
    | junk=>simp [xG,Blk.kill,ih]
    | hrow t g l c i d=>simp [xG,Blk.kill,ih]
    | rjunk=>simp [xG,Blk.kill,ih]
    | lrow t g l=>simp [xG,Blk.kill,ih]
theorem zo {f:FuncId} {fn:Func} {xs:List Operand} {ts:Array TypeId} {args args':List SA} {V:SV} {c:Bool} (hC:AC X f args [] (fun sv h=>sv=V∧h=[])) (hop:o.op=.call { callee:=.value (.func f),args:=xs.toArray,argTypes:=ts }) (ho:o.guard=none∧o.dst=some d) (hd:Nat.blt d n=true)
    (hfn : X.P.funcs[f]? = some fn) (hn : (fn.name == "runtime.NumGoroutine") = false) (hb : fn.body.isNone = false) (hargs : aes X st.L xs = some (c, args')) (hc : c = true) (hren : renAs [] args = some args') (hV : V.ren [] = some V)
    (hnext:AL X M n r ops rest ⟨(d,V) :: st.L,st.H⟩ Q):AL X M n r ops (o :: rest) st Q:=
  qQ (n:=n) [] hC hop ho hd hfn hn hb hargs hc hren rfl PassH.nil fun sv h' ⟨h1,h2⟩=>by
    subst h1; subst h2;refine ⟨sv,[],hV,rfl,?_⟩;show AL X M n r ops rest ⟨(d,sv) :: killL [] st.L,[]++xG [] [] st.H⟩ Q;rw [killL_nil,frameH_nil];exact hnext
theorem al_guard (x0:SA) {j s:Nat} {want b:Bool} (hg:o.guard=some (j,want)) (hj:nth (xH ops) j=some (some s)) (hs:lk st.L s=some (.c (.val (.bool b)))) (hdst:o.dst=some d) (hd:Nat.blt d n=true)
    (h1:b=want→AL X M n r ops ({ dst:=o.dst,op:=o.op,type:=o.type,pos:=o.pos,after:=o.after,guard:=none } :: rest) st Q) (h0:b=!want→AL X M n r ops rest ⟨(d,.may false x0) :: st.L,st.H⟩ Q):AL X M n r ops (o :: rest) st Q:=by
  rintro R W Bi a w ⟨ks,env,B,w0,H,hM,hA⟩;obtain ⟨oj,hoj,hsj⟩:=nth_map hj;have hj':(ops.toArray[j]?).bind (·.dst)=some s:=by simp [hoj,← hsj]
  obtain ⟨v,h2,h3⟩:=hA.has _ _ hs;rw [show v=_ from h3] at h2;have hw:=xP hA.sym hg hj' (zU h2)
  by_cases hb:b=want
  · have h4:=h1 hb R W Bi a w ⟨ks,env,B,w0,H,hM,hA⟩
    show (if Region.wanted o (yielded ops.toArray a.tmps) then _ else _);rw [hw,if_pos (by simp [hb])];have h5:(if Region.wanted { dst:=o.dst,op:=o.op,type:=o.type,pos:=o.pos,after:=o.after,guard:=none } (yielded ops.toArray a.tmps) then _ else _):=h4;rw [show Region.wanted { dst:=o.dst,op:=o.op,type:=o.type,pos:=o.pos,after:=o.after,guard:=none } (yielded ops.toArray a.tmps)=true by simp [Region.wanted],if_pos rfl] at h5;exact h5
  · have hb':b=!want:=by cases b <;> cases want <;> simp_all
    have hS:St n (ks.map yo) ((d,undef) :: full a) (a.put o.dst undef):=by rw [hdst]; exact hA.stt.put d undef (zA hd)
    show (if Region.wanted o (yielded ops.toArray a.tmps) then _ else _);rw [hw,if_neg (by simp [hb])];exact ⟨fun _ _=>trivial,h0 hb' R W Bi _ w ⟨ks,env,B,w0,H,hM,hA.set (sv:=.may false x0) ⟨fun h=>(by cases h),fun _=>rfl⟩ hS⟩⟩
end
theorem ac_bodyM {X:Cx} {n:Nat} (hX:X.tt.ok X.P) {f:FuncId} {fn:Func} {c:Code} {args:List SA} {h:Hp} {Q:SV→Hp→Prop} {res:List ResultVar} (hf:X.P.funcs[f]?=some fn) (hb:fn.body=some c) (hN:fn.ntmps=n) (hl:Nat.ble args.length n=true) (hn:Nat.ble n yy=true) (hr:fn.results=res.toArray)
    (hB:AX X true n none c ⟨argL 0 args,h⟩ (fun e st=>e=.ret∧retQ X n res Q .ret st)):AC X f args h Q:=by
  intro B w0 env vs H W hg ha hh hs;have hlen:=ha.length;have hle:vs.length≤n:=by rw [hlen]; exact Nat.le_of_ble_eq_true hl
  refine (callsIn_wide (n:=0)).1 (callsIn_of_wp_marks hf hb trivial ?_);have hup:Up B w0 B W:=⟨fun _ h=>h,fun k hk=>hs.below.block k hk⟩
  have hsub:∀ k,B k→Rest W H k:=fun k hk=>⟨hs.base k hk,fun c hc e=>((hs.ok c hc).lt e).1 hk⟩
  have hS:=st_start (fn:=fn) hN hle _ rfl (vs:=vs);have hA:AI X (Rest W H) W ⟨B,fun id l=>((yy≤id∧∃ b,l=.blk b)∨qZ≤id)∧env id=l⟩ n [] env B W H ⟨argL 0 args,h⟩ { tmps:=vs.toArray++Array.replicate (fn.ntmps - vs.toArray.size) undef,defers:=[] } W:=by
    refine ⟨hS.size,rfl,fun s sv hsv=>?_,hh.up hup,?_,fun _ h=>h,fun _ h=>.inl h,fun id l hp=>⟨Nat.le_trans (Nat.le_of_ble_eq_true hn) (hp.1.elim (fun h=>h.1) (fun h=>Nat.le_trans (by decide) h)),hp.2,hp.1.imp (fun h=>h.2) (fun h=>h)⟩,KO.refl _ _,fun i x hx=>(hg i x hx).up hup⟩
    · obtain ⟨_,v,h1,h2⟩:=argL_ok ha hsv
      rw [Nat.sub_zero] at h1;refine ⟨v,?_,h2.up hup⟩;have hlt:s < vs.length:=(List.getElem?_eq_some_iff.1 h1).1;show (vs.toArray++_)[s]?=some v;rw [Array.getElem?_append_left (by simpa using hlt)]
      simpa using h1
    · have h1:=hs.rest
      simp only [List.map_nil,List.append_nil];exact ⟨KO.refl _ _,fun k hk=>hk.elim (fun h=>h.1) (fun h=>hs.base k h),fun c hc=>(h1.ok c hc).base fun b hb hk=>hk.elim (fun h=>((h1.ok c hc).lt hb).1 h) (fun h=>((h1.ok c hc).lt hb).1 (hsub b h)),h1.apart⟩
  refine wpIn_mono (hB _ _ _ _ _ ⟨[],env,B,W,H,⟨(fun h=>by cases h),fun _ id l (hp:((yy≤id∧∃ b,l=.blk b)∨qZ≤id)∧env id=l)=>hp.1.elim (fun h=>h.1) (fun h=>Nat.le_trans (by decide) h)⟩,hA⟩) ?_;rintro e a w ⟨st,⟨rfl,st',hw,c,sv,hres,hc,hQ⟩,h2⟩;obtain ⟨ks,env',B',w0',H',hM,hA'⟩:=hw _ _ _ _ _ _ h2;have hA0:AI X (Rest W H) W ⟨B,fun id l=>((yy≤id∧∃ b,l=.blk b)∨qZ≤id)∧env id=l⟩ n [] env' B' w0' H' st' { tmps:=a.tmps,defers:=[] } w:=
    ⟨hA'.size,rfl,hA'.has,hA'.heap,by simpa using hA'.sh.weak (List.sublist_append_left _ _),hA'.sub,hA'.new,hA'.pin,hA'.base,hA'.glob⟩
  obtain ⟨v,h3,h4⟩:=ares_ok hX hA0 hr hres hc;have hsym:Sym n (ks.map yo) (full a) (fun k=>Rest W H k∨B' k) w0' (ks.map (fun k=>Ck.obj k (.deferred (some [])))++H') a w:=⟨hA'.stt,hA'.sh.perm List.perm_append_comm⟩
  exact f_retM ks hsym (fun w hw=>h4 w (by simpa using hw)) fun w hw=>⟨env',B',w0',H',sv,st'.H,hQ,hA'.sub,hA'.new,hA'.base,h3,hA'.heap,hw,fun id l h5 h6=>(hA'.pin id l ⟨h5,h6⟩).2.1⟩
end Go.Proofs.YtihcolehefloeaaDoor

/- Regions that draw their order. -/
namespace Go.Proofs.YtihcolehefloeaaDoor
open Go.RowKit
section
variable {P:Program} {ops:Array Oper} {Q:Exit→Act→World→Prop} {S:Nat→World→Prop}
def wpAnyJ (P:Program) (ops:Array Oper) (Q:Exit→Act→World→Prop) (S:Nat→World→Prop):Nat→Array Bool→Act→World→Prop
  | 0,listed,a,w=>Region.ready .any ops listed=[]∧Q .normal a w
  | fuel+1,listed,a,w=>(Region.ready .any ops listed=[]→Q .normal a w)∧∀ i∈Region.ready .any ops listed,∃ o,ops[i]?=some o∧XO P ops o (fun a' w'=>S i w'∧wpAnyJ P ops Q S fuel (listed.setIfInBounds i true) a' w') a w
theorem OpOk.mono {o:Oper} {a:Act} {w:World} {K K':Value→World→Prop} (h:OpOk P o a w K) (hk:∀ v w,K v w→K' v w):OpOk P o a w K':=by
  rcases h with ⟨v,w',h1,h2⟩ | ⟨w',h1,h2⟩ | ⟨f,args,w1,h1,h2⟩
  · exact .inl ⟨v,w',h1,hk _ _ h2⟩
  · exact .inr (.inl ⟨w',h1,hk _ _ h2⟩)
  · exact .inr (.inr ⟨f,args,w1,h1,Calls.mono h2 fun e w' ⟨v,he,hv⟩=>⟨v,he,hk _ _ hv⟩⟩)
theorem XO.mono {o:Oper} {a:Act} {w:World} {K K':Act→World→Prop} (h:XO P ops o K a w) (hk:∀ a w,K a w→K' a w):XO P ops o K' a w:=by
  rcases h with ⟨h1,h2⟩ | ⟨h1,h2⟩
  · exact .inl ⟨h1,h2.mono fun _ _=>hk _ _⟩
  · exact .inr ⟨h1,hk _ _ h2⟩
theorem wpAnyJ.any (r:Option Nat):∀ (fuel:Nat) (listed:Array Bool) (a:Act) (w:World),wpAnyJ P ops Q S fuel listed a w→wpAnyIn (WF r) 0 P .any ops Q fuel listed a w
  | 0,_,_,_,h=>h
  | fuel+1,_,_,_,h=>⟨h.1,fun i hi=>by
    obtain ⟨o,ho,hx⟩:=h.2 i hi;unfold wpOpIn;simp only [ho];exact XO.fenced (hx.mono fun a' w' h'=>wpAnyJ.any r fuel _ a' w' h'.2)⟩
theorem XO.putIf {T:World→Prop} {oi oj:Oper} {v:Value} (hap:oi.apart ops oj=true) (hsi:∀ cs b,oi.op≠.select cs b) (hsj:∀ cs b,oj.op≠.select cs b) {K:Act→World→Prop} {a:Act} {w:World} (hy:YieldsIf P ops T oi v a) (h:XO P ops oj K (a.put oi.dst v) w) :
    XO P ops oj (fun a' w'=>YieldsIf P ops T oi v a'∧K (a'.put oi.dst v) w') a w:=by
  obtain ⟨h1,h2,h3⟩:=Oper.apart_spec hap;have keep:∀ u,YieldsIf P ops T oi v (a.put oj.dst u):=fun u=>hy.of_same (execOp_put oi hsi a oj.dst u h3) (wanted_put oi a oj.dst u h3)
  have ew:=wanted_put oj a oi.dst v h1;have ee:=execOp_put oj hsj a oi.dst v h1;have ec:∀ u,(a.put oj.dst u).put oi.dst v=(a.put oi.dst v).put oj.dst u:=fun u=>(Act.put_comm a v u h2).symm
  rcases h with ⟨hw,h⟩ | ⟨hw,h⟩
  · refine .inl ⟨by rw [← ew]; exact hw,?_⟩
    unfold OpOk at h ⊢;rw [ee] at h
    rcases h with ⟨u,w',g1,g2⟩ | ⟨w',g1,g2⟩ | ⟨f,args,w1,g1,g2⟩
    · exact .inl ⟨u,w',g1,keep u,by rw [ec]; exact g2⟩
    · exact .inr (.inl ⟨w',g1,keep _,by rw [ec]; exact g2⟩)
    · exact .inr (.inr ⟨f,args,w1,g1,Calls.mono g2 fun e w' ⟨u,he,hu⟩=>⟨u,he,keep u,by rw [ec]; exact hu⟩⟩)
  · exact .inr ⟨by rw [← ew]; exact hw,keep _,by rw [ec]; exact h⟩
theorem yields_xo {T:World→Prop} {o:Oper} {v:Value} {a:Act} (hy:YieldsIf P ops T o v a) {K:Act→World→Prop} {w:World} (hT:T w) (h:K (a.put o.dst v) w):XO P ops o K a w:=by
  rcases hy with ⟨hw,hv⟩ | ⟨hw,rfl⟩
  · exact .inl ⟨hw,.inl ⟨v,w,hv w hT,h⟩⟩
  · exact .inr ⟨hw,h⟩
def binding (ops:Array Oper) (i:Nat) (D:List Nat) (j:Nat):Prop:=∃ oj e,ops[j]?=some oj∧e∈oj.after∧Region.binds .any e=true∧(e.on=i∨e.on∈D)
theorem wpAnyJ.first {i:Nat} {oi:Oper} {v:Value} {T:World→Prop} (hi:ops[i]?=some oi) (hsel:∀ (j:Nat) (o:Oper) cs b,ops[j]?=some o→o.op≠.select cs b) (D:List Nat) (hbD:∀ j∈D,binding ops i D j):∀ (fuel:Nat) (listed:Array Bool) (a:Act) (w:World),
      (∀ j∈D,listed.getD j true=false)→(∀ j oj,ops[j]?=some oj→j≠i→listed.getD j true=false→(∀ e∈oj.after,Region.binds .any e=true→e.on≠i)→oi.apart ops oj=true∧(j∈D∨∀ w,S j w→T w)) →
      i∈Region.ready .any ops listed→YieldsIf P ops T oi v a→T w →
      wpAnyJ P ops Q S fuel (listed.setIfInBounds i true) (a.put oi.dst v) w→(∀ w',T w'→S i w')→wpAnyJ P ops Q S (fuel+1) listed a w:=by
  intro fuel
  induction fuel with
  | zero=>
    intro listed a w _ _ hr hy hT H hSi;refine ⟨fun h=>(by rw [h] at hr; cases hr),fun j hj=>?_⟩
    by_cases hji:j=i
    · subst hji; exact ⟨oi,hi,yields_xo hy hT ⟨hSi w hT,H⟩⟩
    · have:=ready_mono hj hji
      rw [H.1] at this;cases this
  | succ fuel ih=>
    intro listed a w hDl hfree hr hy hT H hSi;refine ⟨fun h=>(by rw [h] at hr; cases hr),fun j hj=>?_⟩
    by_cases hji:j=i
    · subst hji; exact ⟨oi,hi,yields_xo hy hT ⟨hSi w hT,H⟩⟩
    · obtain ⟨oj',hoj',hH⟩:=H.2 j (ready_mono hj hji)
      obtain ⟨hun,oj,hoj,hall⟩:=mem_ready.1 hj;have hojj:oj'=oj:=Option.some.inj (hoj'.symm.trans hoj);rw [hojj] at hH;have hnot:∀ e∈oj.after,Region.binds .any e=true→e.on≠i:=fun e he hb heq=>by
        have q1:=hall e he hb;have q0:=(mem_ready.1 hr).1;rw [heq] at q1
        rcases Nat.lt_or_ge i listed.size with h' | h'
        · simp [h'] at q0 q1; rw [q0] at q1; cases q1
        · simp [Array.getElem?_eq_none h'] at q1
      have hjD:j ∉ D:=fun hjd=>by
        obtain ⟨ok,e,hk,he,hb,hon⟩:=hbD j hjd
        have:ok=oj:=Option.some.inj (hk.symm.trans hoj)
        subst this;have q1:=hall e he hb
        rcases hon with hon | hon
        · exact hnot e he hb hon
        · have q0:=hDl _ hon
          rcases Nat.lt_or_ge e.on listed.size with h' | h'
          · simp [h'] at q0 q1; rw [q0] at q1; cases q1
          · simp [Array.getElem?_eq_none h'] at q1
      obtain ⟨hap,hST⟩:=hfree j oj hoj hji hun hnot;have hput:=XO.putIf hap (fun cs b=>hsel i oi cs b hi) (fun cs b=>hsel j oj cs b hoj) hy hH;refine ⟨oj,hoj,hput.mono fun a' w' h4=>⟨h4.2.1,?_⟩⟩;have hT':=(hST.resolve_left hjD) w' h4.2.1;refine ih (listed.setIfInBounds j true) a' w' (fun k hk=>?_) (fun k ok hk hki hkun hno=>?_) (ready_mono hr (Ne.symm hji)) h4.1 hT' ?_ hSi
      · rw [getD_set_ne true (fun e=>hjD (by rw [e]; exact hk))]
        exact hDl k hk
      · refine hfree k ok hk hki ?_ hno
        by_cases hjk:j=k
        · subst hjk; exact hun
        · rw [getD_set_ne true hjk] at hkun; exact hkun
      · rw [Array.setIfInBounds_comm _ _ hji]
        exact h4.2.2
end
def isPure:Op→Bool
  | .move _=>true
  | .assign _=>true
  | .pick _ _ _=>true
  | .unOp _ _ _=>true
  | .binOp _ _ _ _ _=>true
  | .load _ _=>true
  | .fieldAddr _ _ _=>true
  | .indexAddr _ _ _=>true
  | .slice _ _ _ _ _=>true
  | .convert _ _ _=>true
  | .build _ _=>true
  | .makeFunc _ _ _=>true
  | .nilCheck _=>true
  | .extract _ _=>true
  | .call ⟨.builtin .len,_,_⟩=>true
  | .call ⟨.builtin .cap,_,_⟩=>true
  | .call ⟨.builtin .min,_,_⟩=>true
  | .call ⟨.builtin .max,_,_⟩=>true
  | _=>false
def bindB (ops:Array Oper) (i:Nat) (D:List Nat) (j:Nat):Bool:=match ops[j]? with
  | some o=>o.after.any fun e=>Region.binds .any e&&(e.on == i || D.elem e.on)
  | none=>false
def behind (ops:Array Oper) (i:Nat):List Nat:=(List.range ops.size).foldl (fun D j=>match bindB ops i D j with
  | true=>j :: D
  | false=>D) []
def restIn (ops:Array Oper) (E D:List Nat) (listed:Array Bool) (i:Nat):Bool:=
  (D.all fun j=>!listed.getD j true&&bindB ops i D j)&&(List.range ops.size).all fun j=>j == i || listed.getD j true || E.elem j || D.elem j
theorem bindB_ok {ops:Array Oper} {i j:Nat} {D:List Nat} (h:bindB ops i D j=true):binding ops i D j:=by
  unfold bindB at h
  split at h
  · rename_i o ho
    simp only [Array.any_eq_true] at h;obtain ⟨k,hk,h2⟩:=h;simp only [Bool.and_eq_true,Bool.or_eq_true,beq_iff_eq,List.elem_eq_mem,decide_eq_true_eq] at h2;exact ⟨o,_,ho,Array.getElem_mem hk,h2.1,h2.2⟩
  · cases h
def baseOk (ops:Array Oper) (listed:Array Bool) (i:Nat):Bool:=Region.noSelect ops&&Region.free .any ops listed i&&(Region.ready .any ops listed).contains i
def kindAt (f:Op→Bool) (ops:Array Oper) (i:Nat):Bool:=match ops[i]? with
  | some o=>f o.op
  | none=>false
def needOk (ops:Array Oper) (E:List Nat) (listed:Array Bool) (pre:Bool) (i:Nat):Bool:=!E.elem i || (pre&&restIn ops E (behind ops i) listed i)
structure DS where
  listed:Array Bool
  early:Bool
  pre:Bool
  nocall:Bool
def trGo (ops:Array Oper) (E:List Nat):List (Nat×Nat)→DS→Option DS
  | [],s=>some s
  | (i,0) :: tr,⟨listed,early,pre,nc⟩=>match baseOk ops listed i&&needOk ops E listed pre i&&kindAt (fun o=>isPure o&&!isLoad o) ops i with
    | true=>trGo ops E tr ⟨listed.setIfInBounds i true,early,pre,nc⟩
    | false=>none
  | (i,1) :: tr,⟨listed,early,pre,nc⟩=>match baseOk ops listed i&&needOk ops E listed pre i&&kindAt isPure ops i&&nc with
    | true=>trGo ops E tr ⟨listed.setIfInBounds i true,early,pre,nc⟩
    | false=>none
  | (i,3) :: tr,⟨listed,early,pre,nc⟩=>match baseOk ops listed i&&restIn ops E (behind ops i) listed i&&kindAt isPure ops i&&early&&pre with
    | true=>trGo ops E tr ⟨listed.setIfInBounds i true,early,pre,nc⟩
    | false=>none
  | (i,4) :: tr,⟨listed,_,pre,nc⟩=>match (Region.ready .any ops listed == [i])&&pre&&kindAt kindKeep ops i with
    | true=>trGo ops E tr ⟨listed.setIfInBounds i true,false,pre,nc⟩
    | false=>none
  | (i,_) :: tr,⟨listed,_,_,nc⟩=>match (Region.ready .any ops listed == [i])&&!E.elem i with
    | true=>trGo ops E tr ⟨listed.setIfInBounds i true,false,false,nc⟩
    | false=>none
def celH:Hp→Hp
  | []=>[]
  | (k,.cells t cs) :: r=>(k,.cells t cs) :: celH r
  | _ :: r=>celH r
def arunT (X:Cx) (n:Nat) (dsts:List (Option Nat)) (ops:List Oper):List (Nat×Nat)→Bool→ASt→Out
  | [],c,st=>.done c st
  | (i,m) :: tr,c,⟨L,H⟩=>match nth ops i with
    | some o=>match m with
      | 1=>match astep X n dsts ⟨L,[]⟩ o with
        | .ok c' ⟨L',_⟩=>arunT X n dsts ops tr (c&&c') ⟨L',H⟩
        | .stop=>.stop c ⟨L,H⟩ []
      | 3=>match astep X n dsts ⟨L,celH H⟩ o with
        | .ok c' ⟨L',_⟩=>arunT X n dsts ops tr (c&&c') ⟨L',H⟩
        | .stop=>.stop c ⟨L,H⟩ []
      | 4=>match astep X n dsts ⟨L,H⟩ o with
        | .ok c' st'=>match keepD o H with
          | true=>arunT X n dsts ops tr (c&&c') st'
          | false=>.stop c ⟨L,H⟩ []
        | .stop=>.stop c ⟨L,H⟩ []
      | _=>match astep X n dsts ⟨L,H⟩ o with
        | .ok c' st'=>arunT X n dsts ops tr (c&&c') st'
        | .stop=>.stop c ⟨L,H⟩ []
    | none=>.stop c ⟨L,H⟩ []
structure DInv (R:Nat→Prop) (ds:DS) (B0:Nat→Prop) (w00:World) (CS:List Ck) (F:World→Prop) (B:Nat→Prop) (w0:World) (H:List Ck):Prop where
  early:ds.early=true→B0=B∧w00=w0∧CS=H.filter xY
  pre:ds.pre=true→(∀ c∈CS,c∈H∧xY c=true)∧CS.Pairwise Ck.off∧(∀ k,B0 k→B k)∧KO (fun k=>R k∨B0 k) w00 w0
  frz:ds.nocall=true→F=fun w=>KO (fun k=>R k∨B k) w0 w
  frz':∀ w,KO (fun k=>R k∨B k) w0 w→F w
def AD (X:Cx) (M:Bool) (n:Nat) (ops:List Oper) (E:List Nat) (fuel:Nat) (ds:DS) (st:ASt) (Q:Exit→ASt→Prop):Prop:=
  ∀ (R:Nat→Prop) (W:World) (Bi:Bk) (B0:Nat→Prop) (w00:World) (CS:List Ck) (F:World→Prop) (ks:List Nat) (env:Nat→Loc) (B:Nat→Prop) (w0:World) (H:List Ck) (a:Act) (w:World),MOk M ks Bi→AI X R W Bi n ks env B w0 H st a w→DInv R ds B0 w00 CS F B w0 H →
    wpAnyJ X.P ops.toArray (fun e a w=>e=.normal∧∃ st',Q e st'∧AR X R W Bi M n st' a w) (fun j w=>(E.elem j=true→SH (fun k=>R k∨B0 k) w00 CS w)∧F w) fuel ds.listed a w
def ADo (X:Cx) (M:Bool) (n:Nat) (ops:List Oper) (E:List Nat) (fuel:Nat) (ds:DS) (st:ASt) (Q:Exit→ASt→Prop) (i:Nat):Prop:=
  ∀ (R:Nat→Prop) (W:World) (Bi:Bk) (B0:Nat→Prop) (w00:World) (CS:List Ck) (F:World→Prop) (ks:List Nat) (env:Nat→Loc) (B:Nat→Prop) (w0:World) (H:List Ck) (a:Act) (w:World),MOk M ks Bi→AI X R W Bi n ks env B w0 H st a w→DInv R ds B0 w00 CS F B w0 H →
    ∃ o,ops.toArray[i]?=some o∧XO X.P ops.toArray o (fun a' w'=>((E.elem i=true→SH (fun k=>R k∨B0 k) w00 CS w')∧F w')∧wpAnyJ X.P ops.toArray (fun e a w=>e=.normal∧∃ st',Q e st'∧AR X R W Bi M n st' a w) (fun j w=>(E.elem j=true→SH (fun k=>R k∨B0 k) w00 CS w)∧F w) fuel (ds.listed.setIfInBounds i true) a' w') a w
theorem DInv.T {R:Nat→Prop} {ds:DS} {B0:Nat→Prop} {w00:World} {CS:List Ck} {F:World→Prop} {X:Cx} {W:World} {Bi:Bk} {n:Nat} {ks:List Nat} {env:Nat→Loc} {B:Nat→Prop} {w0:World} {H:List Ck} {st:ASt} {a:Act} {w:World} (hD:DInv R ds B0 w00 CS F B w0 H) (hp:ds.pre=true) (hA:AI X R W Bi n ks env B w0 H st a w):SH (fun k=>R k∨B0 k) w00 CS w:=by
  obtain ⟨h1,h2,h3,h4⟩:=hD.pre hp;have hb:=hA.sh.below;refine ⟨h4.trans ⟨hb.os,hb.tape,hb.output,hb.size,fun k hk=>hb.block k (hk.imp id (h3 k))⟩,fun k hk=>hA.sh.base k (hk.imp id (h3 k)),fun c hc=>?_,h2⟩;have hok:=hA.sh.ok c (List.mem_append_left _ (h1 c hc).1);exact hok.base fun b hb hk=>(hok.lt hb).1 (hk.imp id (h3 b))
theorem DInv.F {R:Nat→Prop} {ds:DS} {B0:Nat→Prop} {w00:World} {CS:List Ck} {F:World→Prop} {X:Cx} {W:World} {Bi:Bk} {n:Nat} {ks:List Nat} {env:Nat→Loc} {B:Nat→Prop} {w0:World} {H:List Ck} {st:ASt} {a:Act} {w:World} (hD:DInv R ds B0 w00 CS F B w0 H) (hA:AI X R W Bi n ks env B w0 H st a w):F w:=
  hD.frz' w ⟨hA.sh.below.os,hA.sh.below.tape,hA.sh.below.output,hA.sh.below.size,hA.sh.below.block⟩
theorem HR.cel {env:Nat→Loc} {B:Nat→Prop} {w:World}:∀ {l:Hp} {H:List Ck},HR env B w l H→HR env B w (celH l) (H.filter xY)
  | [],_,h=>by rw [show _=[] from h]; exact rfl
  | (k,.cells t cs) :: r,_,⟨c,H',e,h1,h2⟩=>by
    subst e;have hc:xY c=true:=by
      obtain ⟨b,vs,_,e,_⟩:=h1;rw [e]; rfl
    rw [List.filter_cons_of_pos hc];exact ⟨c,_,rfl,h1,HR.cel h2⟩
  | (k,.row t g l cap) :: r,_,⟨c,H',e,h1,h2⟩=>by
    subst e;have hc:xY c=false:=h1.notCel (fun _ _ e=>by cases e);rw [List.filter_cons_of_neg (by rw [hc]; simp)];show HR env B w (celH r) _;exact HR.cel h2
  | (k,.sit s p) :: r,_,⟨c,H',e,h1,h2⟩=>by
    subst e;have hc:xY c=false:=h1.notCel (fun _ _ e=>by cases e);rw [List.filter_cons_of_neg (by rw [hc]; simp)];show HR env B w (celH r) _;exact HR.cel h2
  | (k,.mp gk gv l o) :: r,_,⟨c,H',e,h1,h2⟩=>by
    subst e;have hc:xY c=false:=h1.notCel (fun _ _ e=>by cases e);rw [List.filter_cons_of_neg (by rw [hc]; simp)];show HR env B w (celH r) _;exact HR.cel h2
  | (k,.it mid es q ps) :: r,_,⟨c,H',e,h1,h2⟩=>by
    subst e;have hc:xY c=false:=h1.notCel (fun _ _ e=>by cases e);rw [List.filter_cons_of_neg (by rw [hc]; simp)];show HR env B w (celH r) _;exact HR.cel h2
  | (k,.junk) :: r,_,⟨c,H',e,h1,h2⟩=>by
    subst e;have hc:xY c=false:=h1.notCel (fun _ _ e=>by cases e);rw [List.filter_cons_of_neg (by rw [hc]; simp)];show HR env B w (celH r) _;exact HR.cel h2
  | (k,.hrow t g l cap i d) :: r,_,⟨c,H',e,h1,h2⟩=>by
    subst e;have hc:xY c=false:=h1.notCel (fun _ _ e=>by cases e);rw [List.filter_cons_of_neg (by rw [hc]; simp)];show HR env B w (celH r) _;exact HR.cel h2
  | (k,.rjunk) :: r,_,⟨c,H',e,h1,h2⟩=>by
    subst e;have hc:xY c=false:=h1.notCel (fun _ _ e=>by cases e);rw [List.filter_cons_of_neg (by rw [hc]; simp)];show HR env B w (celH r) _;exact HR.cel h2
  | (k,.lrow t g l) :: r,_,⟨c,H',e,h1,h2⟩=>by
    subst e;have hc:xY c=false:=h1.notCel (fun _ _ e=>by cases e);rw [List.filter_cons_of_neg (by rw [hc]; simp)];show HR env B w (celH r) _;exact HR.cel h2
section
variable {X:Cx} {M:Bool} {n:Nat} {st st':ASt} {Q:Exit→ASt→Prop} {ops:List Oper} {E:List Nat} {ds ds':DS} {fuel:Nat}
theorem AI.drew {R:Nat→Prop} {W:World} {Bi:Bk} {ks:List Nat} {env:Nat→Loc} {B:Nat→Prop} {w0:World} {H:List Ck} {a:Act} {w:World} (h:AI X R W Bi n ks env B w0 H st a w):AI X R W Bi n ks env B w0 H st a w.drew:=
  ⟨h.size,h.defs,h.has,h.heap,h.sh.drew,h.sub,h.new,h.pin,h.base,h.glob⟩
theorem zI {id N:Nat} {r:Option Nat} (E:List Nat) (hm:X.P.follows .mixedOrders=true) (hN:ops.length=N) (h:AD X M n ops E N ⟨Array.replicate N false,true,true,true⟩ st Q):AX X M n r (.region id ops.toArray true) st Q:=by
  rintro R W Bi a w ⟨ks,env,B,w0,H,hM,hA⟩;have h1:=wpAnyJ.any r _ _ _ _ (h R W Bi B w0 (H.filter xY) _ ks env B w0 H a w.drew hM hA.drew ⟨fun _=>⟨rfl,rfl,rfl⟩,fun _=>⟨fun c hc=>List.mem_filter.1 hc,(List.pairwise_append.1 hA.sh.apart).1.sublist List.filter_sublist,fun _ h=>h,KO.refl _ _⟩,fun _=>rfl,fun _ h=>h⟩);have h2:(Code.region id ops.toArray true).wpIn (WF r) 0 X.P (fun e a w=>e=.normal∧∃ st',Q e st'∧AR X R W Bi M n st' a w) a w:=wpIn_region_any hm (by simp only [List.size_toArray,hN]; exact h1);refine wpIn_mono h2 ?_;rintro e a w ⟨rfl,st',h3,h4⟩;exact ⟨st',h3,h4⟩
theorem zm (hr:Region.ready .any ops.toArray ds.listed=[]) (h:Q .normal st):AD X M n ops E 0 ds st Q:=fun R W Bi B0 w00 CS F ks env B w0 H a w hM hA _=>⟨hr,rfl,st,h,ks,env,B,w0,H,hM,hA⟩
theorem nth_arr {i:Nat} {o:Oper} (h:nth ops i=some o):ops.toArray[i]?=some o:=by simpa using nth_get h
theorem isPure_eff {op:Op} (h:isPure op=true) (d:Option Nat):aeff X n st d op=none:=by
  unfold isPure at h
  split at h <;> first | rfl | (cases h)
theorem astep_pure (hX:X.tt.ok X.P) {R:Nat→Prop} {W:World} {Bi:Bk} {ks:List Nat} {env:Nat→Loc} {B:Nat→Prop} {w0:World} {H:List Ck} {a:Act} {w:World} {o:Oper} {c:Bool} (hp:isPure o.op=true) (hs:astep X n (xH ops) st o=.ok c st') (hc:c=true) (hA:AI X R W Bi n ks env B w0 H st a w) :
    ∃ v,AI X R W Bi n ks env B w0 H st' (a.put o.dst v) w∧(∀ T:World→Prop,(isLoad o.op=true→T=fun w=>SH (fun k=>R k∨B k) w0 (H++ks.map mkO) w)→YieldsIf X.P ops.toArray T o v a):=by
  obtain ⟨L,HH⟩:=st;simp only [astep] at hs;have pure1:∀ {sa:SA} {v:Value} {T:World→Prop},(∀ w,(isLoad o.op=true→SH (fun k=>R k∨B k) w0 (H++ks.map mkO) w)→(execOp a.eval o).run X.P w=.ok (.value v) w)→(isLoad o.op=true→T=fun w=>SH (fun k=>R k∨B k) w0 (H++ks.map mkO) w)→∀ w,T w→(execOp a.eval o).run X.P w=.ok (.value v) w:=by
    intro sa v T h1 h2 w hw;exact h1 w fun hl=>by have:=h2 hl; rw [this] at hw; exact hw
  split at hs
  · rename_i hgd
    split at hs
    · rename_i c' sa hpu
      split at hs
      · rename_i d hdst
        split at hs
        · rename_i hd
          cases hs;obtain ⟨v,h1,h2⟩:=apure_ok hX hpu hc hA;refine ⟨v,hA.set h1 (by rw [hdst]; exact hA.stt.put d v (zA hd)),fun T hT=>.inl ⟨by simp [Region.wanted,hgd],pure1 (sa:=sa) h2 hT⟩⟩
        · cases hs
      · cases hs
    · split at hs
      · rename_i xs hm
        split at hs
        · rename_i d hdst
          split at hs
          · rename_i hd
            cases hs;obtain ⟨v,h1,h2⟩:=tupMv_ok hA hm;exact ⟨v,hA.set h1 (by rw [hdst]; exact hA.stt.put d v (zA hd)),fun T hT=>.inl ⟨by simp [Region.wanted,hgd],fun w _=>h2 w⟩⟩
          · cases hs
        · cases hs
      · rw [isPure_eff hp] at hs
        cases hs
  · rename_i j want hgd
    split at hs
    · rename_i s hj
      obtain ⟨oj,hoj,hsj⟩:=nth_map hj;have hj':(ops.toArray[j]?).bind (·.dst)=some s:=by simp [hoj,← hsj]
      have key:∀ g:Bool,agrd X n L HH o g=.ok c st'→Region.wanted o (yielded ops.toArray a.tmps)=g→∃ v,AI X R W Bi n ks env B w0 H st' (a.put o.dst v) w∧(∀ T:World→Prop,(isLoad o.op=true→T=fun w=>SH (fun k=>R k∨B k) w0 (H++ks.map mkO) w)→YieldsIf X.P ops.toArray T o v a):=by
        intro g hg hw;unfold agrd at hg
        split at hg
        · rename_i c' sa d hpu hdst
          split at hg
          · rename_i hd
            cases hg;cases g with
            | true=>
              obtain ⟨v,h1,h2⟩:=apure_ok hX hpu (by simpa using hc) hA;exact ⟨v,hA.set (sv:=.may true sa) ⟨fun _=>h1,fun h=>by cases h⟩ (by rw [hdst]; exact hA.stt.put d v (zA hd)),fun T hT=>.inl ⟨hw,pure1 (sa:=sa) h2 hT⟩⟩
            | false=>exact ⟨undef,hA.set (sv:=.may false sa) ⟨(fun h=>by cases h),fun _=>rfl⟩ (by rw [hdst]; exact hA.stt.put d undef (zA hd)),fun T hT=>.inr ⟨hw,rfl⟩⟩
          · cases hg
        · cases hg
      split at hs
      · rename_i b hlk
        obtain ⟨v,h1,h2⟩:=hA.has _ _ hlk;rw [show v=_ from h2] at h1;refine key _ hs ?_;rw [xP hA.sym hgd hj' (zU h1)];cases b <;> rfl
      · rename_i b hlk
        obtain ⟨v,h1,h2⟩:=hA.has _ _ hlk;rw [show v=_ from h2] at h1;refine key _ hs ?_;rw [xP hA.sym hgd hj' (zU h1)];cases b <;> rfl
      · rename_i g b hlk
        obtain ⟨v,h1,h2,h3⟩:=hA.has _ _ hlk;refine key _ hs ?_;cases g with
        | true=>
          rw [show v=_ from h2 rfl] at h1;rw [xP hA.sym hgd hj' (zU h1)];cases b <;> rfl
        | false=>
          rw [h3 rfl] at h1;rw [unwanted_of hA.sym hgd hj' (zU h1)]
          rfl
      · rename_i g b hlk
        obtain ⟨v,h1,h2,h3⟩:=hA.has _ _ hlk;refine key _ hs ?_;cases g with
        | true=>
          rw [show v=_ from h2 rfl] at h1;rw [xP hA.sym hgd hj' (zU h1)];cases b <;> rfl
        | false=>
          rw [h3 rfl] at h1;rw [unwanted_of hA.sym hgd hj' (zU h1)]
          rfl
      · cases hs
    · cases hs
theorem arunT_c:∀ {tr:List (Nat×Nat)} {c c':Bool} {st st':ASt} {dsts:List (Option Nat)},arunT X n dsts ops tr c st=.done c' st'→c'=true→c=true
  | [],c,c',st,st',dsts,h,hc=>by cases h; exact hc
  | (i,m) :: tr,c,c',⟨L,H⟩,st',dsts,h,hc=>by
    simp only [arunT] at h
    split at h
    · split at h
      · split at h
        · have:=arunT_c h hc
          simp only [Bool.and_eq_true] at this;exact this.1
        · cases h
      · split at h
        · have:=arunT_c h hc
          simp only [Bool.and_eq_true] at this;exact this.1
        · cases h
      · split at h
        · split at h
          · have:=arunT_c h hc
            simp only [Bool.and_eq_true] at this;exact this.1
          · cases h
        · cases h
      · split at h
        · have:=arunT_c h hc
          simp only [Bool.and_eq_true] at this;exact this.1
        · cases h
    · cases h
theorem ad_tail {R:Nat→Prop} {B0:Nat→Prop} {w00:World} {CS:List Ck} {F:World→Prop} {QQ:Exit→Act→World→Prop} {listed:Array Bool} {fl i:Nat} {o:Oper} {a:Act} {w:World} (need:Bool) (v:Value) (hio:ops.toArray[i]?=some o) (hb:baseOk ops.toArray listed i=true) (hE:E.elem i=true→need=true) (hr:need=true→restIn ops.toArray E (behind ops.toArray i) listed i=true)
    (hy:YieldsIf X.P ops.toArray (fun w=>(need=true→SH (fun k=>R k∨B0 k) w00 CS w)∧F w) o v a) (hT:need=true→SH (fun k=>R k∨B0 k) w00 CS w) (hF:F w) (hIH:wpAnyJ X.P ops.toArray QQ (fun j w=>(E.elem j=true→SH (fun k=>R k∨B0 k) w00 CS w)∧F w) fl (listed.setIfInBounds i true) (a.put o.dst v) w) :
    wpAnyJ X.P ops.toArray QQ (fun j w=>(E.elem j=true→SH (fun k=>R k∨B0 k) w00 CS w)∧F w) (fl+1) listed a w:=by
  simp only [baseOk,Bool.and_eq_true] at hb;obtain ⟨⟨hnosel,hfree⟩,hready⟩:=hb;have hgo:∀ D,(∀ j∈D,binding ops.toArray i D j)→(∀ j∈D,listed.getD j true=false)→(∀ j oj,ops.toArray[j]?=some oj→j≠i→listed.getD j true=false→(∀ e∈oj.after,Region.binds .any e=true→e.on≠i)→j∈D∨(need=true→E.elem j=true))→wpAnyJ X.P ops.toArray QQ (fun j w=>(E.elem j=true→SH (fun k=>R k∨B0 k) w00 CS w)∧F w) (fl+1) listed a w:=by
    intro D h1 h2 h3;refine wpAnyJ.first (T:=fun w=>(need=true→SH (fun k=>R k∨B0 k) w00 CS w)∧F w) hio (Region.noSelect_spec hnosel) D h1 _ _ _ _ h2 ?_ (by simpa using hready) hy ⟨hT,hF⟩ hIH (fun w' hw=>⟨fun he=>hw.1 (hE he),hw.2⟩)
    intro j oj hoj hji hun hno;refine ⟨Region.free_spec hio hfree j oj hoj hji hun hno,?_⟩
    rcases h3 j oj hoj hji hun hno with h4 | h4
    · exact .inl h4
    · exact .inr fun w hSj=>⟨fun hne=>hSj.1 (h4 hne),hSj.2⟩
  cases hn:need with
  | false=>exact hgo [] (fun _ h=>by cases h) (fun _ h=>by cases h) (fun _ _ _ _ _ _=>.inr fun h=>by rw [hn] at h; cases h)
  | true=>
    have hneed:=hr hn;simp only [restIn,Bool.and_eq_true,List.all_eq_true,List.mem_range,Bool.not_eq_true'] at hneed;obtain ⟨hb1,hb2⟩:=hneed;refine hgo (behind ops.toArray i) (fun j hj=>bindB_ok (hb1 j hj).2) (fun j hj=>(hb1 j hj).1) (fun j oj hoj hji hun _=>?_)
    have:=hb2 j (Array.getElem?_eq_some_iff.1 hoj).1
    simp only [Bool.or_eq_true,beq_iff_eq] at this
    rcases this with ((h1 | h1) | h1) | h1
    · exact absurd h1 hji
    · rw [hun] at h1; cases h1
    · exact .inr fun _=>h1
    · exact .inl (by simpa using h1)
theorem need_cases {listed:Array Bool} {pre:Bool} {i:Nat} (h:needOk ops.toArray E listed pre i=true):(E.elem i=true→restIn ops.toArray E (behind ops.toArray i) listed i=true)∧(E.elem i=true→pre=true):=by
  simp only [needOk,Bool.or_eq_true,Bool.not_eq_true',Bool.and_eq_true] at h
  rcases h with h | h
  · exact ⟨fun e=>(by rw [h] at e; cases e),fun e=>(by rw [h] at e; cases e)⟩
  · exact ⟨fun _=>h.2,fun _=>h.1⟩
theorem yieldsIf_weak {P:Program} {ops:Array Oper} {T T':World→Prop} {o:Oper} {v:Value} {a:Act} (h:YieldsIf P ops T o v a) (hw:∀ w,T' w→T w):YieldsIf P ops T' o v a:=by
  rcases h with ⟨h1,h2⟩ | h1
  · exact .inl ⟨h1,fun w hT=>h2 w (hw w hT)⟩
  · exact .inr h1
theorem part_load (hX:X.tt.ok X.P) {R:Nat→Prop} {W:World} {Bi:Bk} {ks:List Nat} {env:Nat→Loc} {B:Nat→Prop} {w0:World} {H C:List Ck} {L L':Sl} {HH h H0:Hp} {a:Act} {w:World} {o:Oper} {c:Bool} (hA:AI X R W Bi n ks env B w0 H ⟨L,HH⟩ a w) (hh:HR env B w0 h C) (hC:C.Sublist H) (hp:isPure o.op=true) (hs:astep X n (xH ops) ⟨L,h⟩ o=.ok c ⟨L',H0⟩) (hc:c=true) :
    ∃ v,AI X R W Bi n ks env B w0 H ⟨L',HH⟩ (a.put o.dst v) w∧YieldsIf X.P ops.toArray (fun w=>SH (fun k=>R k∨B k) w0 C w) o v a:=by
  have hA1:AI X R W Bi n [] env B w0 C ⟨L,h⟩ { tmps:=a.tmps,defers:=[] } w:=⟨hA.size,rfl,hA.has,hh,hA.sh.weak (by simpa using hC.trans (List.sublist_append_left _ _)),hA.sub,hA.new,hA.pin,hA.base,hA.glob⟩
  obtain ⟨v,hA2,hy⟩:=astep_pure hX hp hs hc hA1;have hput:(({ tmps:=a.tmps,defers:=[] }:Act).put o.dst v).tmps=(a.put o.dst v).tmps:=by cases o.dst <;> rfl
  have hdef:(a.put o.dst v).defers=a.defers:=by cases o.dst <;> rfl
  refine ⟨v,⟨by rw [← hput]; exact hA2.size,by rw [hdef]; exact hA.defs,fun s sv h=>by rw [← hput]; exact hA2.has s sv h,hA.heap,hA.sh,hA.sub,hA.new,hA.pin,hA.base,hA.glob⟩,?_⟩;have h1:=hy _ (fun _=>rfl);simp only [List.map_nil,List.append_nil] at h1;exact h1
theorem DInv.kept {R:Nat→Prop} {B0:Nat→Prop} {w00:World} {CS:List Ck} {F:World→Prop} {B:Nat→Prop} {w0:World} {H H':List Ck} (hD:DInv R ds B0 w00 CS F B w0 H) (hk:ds.pre=true→∀ c∈H,xY c=true→c∈H') {l:Array Bool}:DInv R ⟨l,false,ds.pre,ds.nocall⟩ B0 w00 CS F B w0 H':=
  ⟨fun h=>(by cases h),fun h=>by
    obtain ⟨h1,h2,h3,h4⟩:=hD.pre h;exact ⟨fun c hc=>⟨hk h c (h1 c hc).1 (h1 c hc).2,(h1 c hc).2⟩,h2,h3,h4⟩,hD.frz,hD.frz'⟩
theorem DInv.lost {R:Nat→Prop} {B0:Nat→Prop} {w00:World} {CS:List Ck} {F:World→Prop} {B:Nat→Prop} {w0:World} {H H':List Ck} (hD:DInv R ds B0 w00 CS F B w0 H) {l:Array Bool}:DInv R ⟨l,false,false,ds.nocall⟩ B0 w00 CS F B w0 H':=
  ⟨fun h=>(by cases h),fun h=>(by cases h),hD.frz,hD.frz'⟩
theorem ad_go (hX:X.tt.ok X.P):∀ {tr:List (Nat×Nat)} {c c':Bool} {st st':ASt} {ds ds':DS},trGo ops.toArray E tr ds=some ds'→arunT X n (xH ops) ops tr c st=.done c' st'→c'=true →
    AD X M n ops E fuel ds' st' Q→AD X M n ops E (tr.length+fuel) ds st Q
  | [],c,c',st,st',ds,ds',ht,hr,hc,h=>by
    cases ht; cases hr;simp only [List.length_nil,Nat.zero_add];exact h
  | (i,m) :: tr,c,c',⟨L,HH⟩,st',⟨listed,early,pre,nc⟩,ds',ht,hr,hc,h=>by
    simp only [arunT] at hr
    split at hr
    case h_2=>cases hr
    rename_i o hi;have hio:=nth_arr hi;rw [List.length_cons,show tr.length+1+fuel=(tr.length+fuel)+1 by omega];intro R W Bi B0 w00 CS F ks env B w0 H a w hM hA hD;have hFw:F w:=hD.F hA
    split at hr
    · -- a load of what is frozen
      split at hr
      case h_2=>cases hr
      rename_i c2 L' H0 hs;have hc2:=arunT_c hr hc;simp only [Bool.and_eq_true] at hc2;simp only [trGo] at ht
      split at ht
      case h_2=>cases ht
      rename_i htake;simp only [kindAt,hio,Bool.and_eq_true] at htake;obtain ⟨⟨⟨hbase,hneed⟩,hpure⟩,hnc⟩:=htake;obtain ⟨hn1,hn2⟩:=need_cases hneed;obtain ⟨v,hA3,hy⟩:=part_load hX hA (h:=[]) (C:=[]) rfl (List.nil_sublist _) hpure hs hc2.2;refine ad_tail (E.elem i) v hio hbase id hn1 (yieldsIf_weak hy fun w' hw'=>?_) (fun he=>hD.T (hn2 he) hA) hFw (ad_go hX ht hr hc h R W Bi B0 w00 CS F ks env B w0 H _ w hM hA3 ⟨hD.early,hD.pre,hD.frz,hD.frz'⟩);have hw2:=hw'.2;rw [hD.frz hnc] at hw2;refine ⟨hw2,fun k hk=>?_,(fun _ h=>by cases h),List.Pairwise.nil⟩;have h3:=hA.sh.base k hk;have h4:=hA.sh.below.block k hk;have h5:=hw2.block k hk;rw [← h4,Array.getElem?_eq_getElem h3] at h5;exact (Array.getElem?_eq_some_iff.1 h5).1
    · -- a load of one's own cells
      split at hr
      case h_2=>cases hr
      rename_i c2 L' H0 hs;have hc2:=arunT_c hr hc;simp only [Bool.and_eq_true] at hc2;simp only [trGo] at ht
      split at ht
      case h_2=>cases ht
      rename_i htake;simp only [kindAt,hio,Bool.and_eq_true] at htake;obtain ⟨⟨⟨⟨hbase,hrest⟩,hpure⟩,hearly⟩,hpre⟩:=htake;obtain ⟨v,hA3,hy⟩:=part_load hX hA (h:=celH HH) (C:=H.filter xY) hA.heap.cel List.filter_sublist hpure hs hc2.2;refine ad_tail true v hio hbase (fun _=>rfl) (fun _=>hrest) (yieldsIf_weak hy fun w' hw'=>?_) (fun _=>hD.T hpre hA) hFw (ad_go hX ht hr hc h R W Bi B0 w00 CS F ks env B w0 H _ w hM hA3 ⟨hD.early,hD.pre,hD.frz,hD.frz'⟩);have hw2:=hw'.1 rfl;obtain ⟨e1,e2,e3⟩:=hD.early hearly;rw [e1,e2,e3] at hw2;exact hw2
    · -- one that keeps all cells
      split at hr
      case h_2=>cases hr
      rename_i c2 st2 hs
      split at hr
      case h_2=>cases hr
      rename_i hkd;have hc2:=arunT_c hr hc;simp only [Bool.and_eq_true] at hc2;simp only [trGo] at ht
      split at ht
      case h_2=>cases ht
      rename_i htake;simp only [kindAt,hio,Bool.and_eq_true,beq_iff_eq] at htake;obtain ⟨⟨hrd,hpre⟩,hkind⟩:=htake;refine ⟨fun h0=>(by rw [hrd] at h0; cases h0),fun k hk=>?_⟩;rw [hrd] at hk;have hki:k=i:=by simpa using hk
      subst hki;refine ⟨o,hio,yB hX hs hc2.2 hA fun a' w' env' H' heff hA'=>?_⟩;have hD':=hD.kept (H':=H') (l:=listed.setIfInBounds k true) (fun _=>heff.keep hkind hkd);exact ⟨⟨fun _=>hD'.T hpre hA',hD'.F hA'⟩,ad_go hX ht hr hc h R W Bi B0 w00 CS F ks env' B w0 H' a' w' hM hA' hD'⟩
    · rename_i hm1 hm3 hm4
      split at hr
      case h_2=>cases hr
      rename_i c2 st2 hs;have hc2:=arunT_c hr hc;simp only [Bool.and_eq_true] at hc2
      by_cases hm:m=0
      · subst hm
        simp only [trGo] at ht
        split at ht
        case h_2=>cases ht
        rename_i htake;simp only [kindAt,hio,Bool.and_eq_true,Bool.not_eq_true'] at htake;obtain ⟨⟨hbase,hneed⟩,hpure,hload⟩:=htake;obtain ⟨hn1,hn2⟩:=need_cases hneed;obtain ⟨v,hA2,hy⟩:=astep_pure hX hpure hs hc2.2 hA;exact ad_tail (E.elem i) v hio hbase id hn1 (hy _ (fun h=>by rw [hload] at h; cases h)) (fun he=>hD.T (hn2 he) hA) hFw (ad_go hX ht hr hc h R W Bi B0 w00 CS F ks env B w0 H _ w hM hA2 ⟨hD.early,hD.pre,hD.frz,hD.frz'⟩)
      · have ht':(match (Region.ready .any ops.toArray listed == [i])&&!E.elem i with | true=>trGo ops.toArray E tr ⟨listed.setIfInBounds i true,false,false,nc⟩ | false=>none)=some ds':=by
          rw [← ht]
          match m,hm,hm1,hm3,hm4 with
          | 0,h,_,_,_=>exact absurd rfl h
          | 1,_,h,_,_=>exact absurd rfl h
          | 2,_,_,_,_=>rfl
          | 3,_,_,h,_=>exact absurd rfl h
          | 4,_,_,_,h=>exact absurd rfl h
          | _+5,_,_,_,_=>rfl
        split at ht'
        case h_2=>cases ht'
        rename_i hsolo;simp only [Bool.and_eq_true,beq_iff_eq,Bool.not_eq_true'] at hsolo;obtain ⟨hrd,hE⟩:=hsolo;refine ⟨fun h0=>(by rw [hrd] at h0; cases h0),fun k hk=>?_⟩;rw [hrd] at hk;have hki:k=i:=by simpa using hk
        subst hki;refine ⟨o,hio,yB hX hs hc2.2 hA fun a' w' env' H' heff hA'=>?_⟩;have hD':=hD.lost (H':=H') (l:=listed.setIfInBounds k true);exact ⟨⟨fun he=>(by rw [hE] at he; cases he),hD'.F hA'⟩,ad_go hX ht' hr hc h R W Bi B0 w00 CS F ks env' B w0 H' a' w' hM hA' hD'⟩
theorem zf (hX:X.tt.ok X.P) (tr:List (Nat×Nat)) {c:Bool} (ht:trGo ops.toArray E tr ds=some ds') (hr:arunT X n (xH ops) ops tr true st=.done c st') (hc:c=true)
    (h:AD X M n ops E fuel ds' st' Q):AD X M n ops E (tr.length+fuel) ds st Q:=ad_go hX ht hr hc h
theorem zC (hX:X.tt.ok X.P) {i:Nat} {o:Oper} {c:Bool} {l':Array Bool} (hi:nth ops i=some o) (hE:E.elem i=false) (hs:astep X n (xH ops) st o=.ok c st') (hc:c=true) (hl:ds.listed.setIfInBounds i true=l') (h:AD X M n ops E fuel ⟨l',false,false,ds.nocall⟩ st' Q):ADo X M n ops E fuel ds st Q i:=by
  intro R W Bi B0 w00 CS F ks env B w0 H a w hM hA hD;refine ⟨o,nth_arr hi,yB hX hs hc hA fun a' w' env' H' heff hA'=>?_⟩;have hD':=hD.lost (H':=H') (l:=l');rw [hl];exact ⟨⟨fun he=>(by rw [hE] at he; cases he),hD'.F hA'⟩,h R W Bi B0 w00 CS F ks env' B w0 H' a' w' hM hA' hD'⟩
theorem xz (hX:X.tt.ok X.P) {i:Nat} {o:Oper} {c:Bool} {l':Array Bool} (hi:nth ops i=some o) (hk:(ds.pre&&kindKeep o.op&&keepD o st.H)=true) (hs:astep X n (xH ops) st o=.ok c st') (hc:c=true) (hl:ds.listed.setIfInBounds i true=l') (h:AD X M n ops E fuel ⟨l',false,true,ds.nocall⟩ st' Q):ADo X M n ops E fuel ds st Q i:=by
  intro R W Bi B0 w00 CS F ks env B w0 H a w hM hA hD;simp only [Bool.and_eq_true] at hk;refine ⟨o,nth_arr hi,yB hX hs hc hA fun a' w' env' H' heff hA'=>?_⟩;have hD':=hD.kept (H':=H') (l:=l') (fun _=>heff.keep hk.1.2 hk.2);rw [hl];refine ⟨⟨fun he=>hD'.T hk.1.1 hA',hD'.F hA'⟩,h R W Bi B0 w00 CS F ks env' B w0 H' a' w' hM hA' ?_⟩;rw [hk.1.1] at hD';exact hD'
def ADs (X:Cx) (M:Bool) (n:Nat) (ops:List Oper) (E:List Nat) (fuel:Nat) (ds:DS) (st:ASt) (Q:Exit→ASt→Prop) (rs:List Nat):Prop:=∀ i∈rs,ADo X M n ops E fuel ds st Q i
theorem zn:ADs X M n ops E fuel ds st Q []:=fun _ h=>by cases h
theorem zc {i:Nat} {rs:List Nat} (h:ADo X M n ops E fuel ds st Q i) (hr:ADs X M n ops E fuel ds st Q rs):ADs X M n ops E fuel ds st Q (i :: rs):=fun j hj=>by
  rcases List.mem_cons.1 hj with rfl | hj
  · exact h
  · exact hr j hj
theorem zg {i:Nat} {rs:List Nat} (hr:Region.ready .any ops.toArray ds.listed=i :: rs) (h:ADs X M n ops E fuel ds st Q (i :: rs)):AD X M n ops E (fuel+1) ds st Q:=by
  intro R W Bi B0 w00 CS F ks env B w0 H a w hM hA hD;refine ⟨fun h0=>(by rw [hr] at h0; cases h0),fun k hk=>?_⟩;rw [hr] at hk;exact h k hk R W Bi B0 w00 CS F ks env B w0 H a w hM hA hD
end
end Go.Proofs.YtihcolehefloeaaDoor

/- Freezing of blocks of cells; calls in drawn regions. -/
namespace Go.Proofs.YtihcolehefloeaaDoor
open Go.RowKit
def fzCaps (id:Nat) (g:GTy) (x:g.D):List Cap→List Cap
  | []=>[]
  | .id i :: r=>match Nat.beq i id with
    | true=>.fz g x :: fzCaps id g x r
    | false=>.id i :: fzCaps id g x r
  | .fz h y :: r=>.fz h y :: fzCaps id g x r
def SC.fzc:SC→Nat→(g:GTy)→g.D→SC
  | .ptr i o,id,g,x=>match Nat.beq i id with
    | true=>.pel g x o
    | false=>.ptr i o
  | .fn f ids,id,g,x=>.fn f (fzCaps id g x ids)
  | c,_,_,_=>c
def fzcCs (id:Nat) (g:GTy) (x:g.D):List SC→List SC
  | []=>[]
  | c :: r=>c.fzc id g x :: fzcCs id g x r
def SA.fzc:SA→Nat→(g:GTy)→g.D→SA
  | .c y,id,g,x=>.c (y.fzc id g x)
  | .agg cs,id,g,x=>.agg (fzcCs id g x cs)
  | .arr g l,_,_,_=>.arr g l
def fzcAs (id:Nat) (g:GTy) (x:g.D):List SA→List SA
  | []=>[]
  | c :: r=>c.fzc id g x :: fzcAs id g x r
def SV.fzc:SV→Nat→(g:GTy)→g.D→SV
  | .a y,id,g,x=>.a (y.fzc id g x)
  | .may b y,id,g,x=>.may b (y.fzc id g x)
  | .tup ys,id,g,x=>.tup (fzcAs id g x ys)
def fzcL (id:Nat) (g:GTy) (x:g.D):Sl→Sl
  | []=>[]
  | (k,v) :: r=>(k,v.fzc id g x) :: fzcL id g x r
def Blk.fzc:Blk→Nat→(g:GTy)→g.D→Blk
  | .cells t cs,id,g,x=>.cells t (fzcCs id g x cs)
  | b,_,_,_=>b
def fzcH (id:Nat) (g:GTy) (x:g.D):Hp→Hp
  | []=>[]
  | (k,b) :: r=>match Nat.beq k id with
    | true=>fzcH id g x r
    | false=>(k,b.fzc id g x) :: fzcH id g x r
section
variable {env:Nat→Loc} {B:Nat→Prop} {w:World} {id b:Nat} {g:GTy} {x:g.D} (he:env id=.blk b) (ha:At B w g x b 0)
include he ha
theorem ptrs.fzc {cs:List Cap}:∀ {vs:List Value},ptrs env B w cs vs→ptrs env B w (fzCaps id g x cs) vs:=by
  induction cs with
  | nil=>intro vs h; exact h
  | cons c cs ih=>
    intro vs h;obtain ⟨v,r,e,h1,h3⟩:=h;cases c with
    | id i=>
      obtain ⟨b',h1,h2⟩:=h1;simp only [fzCaps]
      split
      · rename_i hi
        have:=Nat.eq_of_beq_eq_true hi
        subst this;rw [he] at h1;cases h1;exact ⟨v,r,e,⟨b,0,h2,ha⟩,ih h3⟩
      · exact ⟨v,r,e,⟨b',h1,h2⟩,ih h3⟩
    | fz h y=>exact ⟨v,r,e,h1,ih h3⟩
theorem CR.fzc:∀ {c:SC} {v:Value},CR env B w c v→CR env B w (c.fzc id g x) v
  | .val _,_,hc=>hc
  | .str _,_,hc=>hc
  | .dead,_,hc=>hc
  | .ptr i o,v,hc=>by
    simp only [SC.fzc]
    split
    · rename_i hi
      have:=Nat.eq_of_beq_eq_true hi
      subst this;obtain ⟨b',h1,h2⟩:=hc;rw [he] at h1;cases h1;exact ⟨b,0,by rw [Nat.zero_add]; exact h2,ha⟩
    · exact hc
  | .elt _ _ _ _,_,hc=>hc
  | .pel _ _ _,_,hc=>hc
  | .par _ _,_,hc=>hc
  | .sl _,_,hc=>hc
  | .lst _ _ _,_,hc=>hc
  | .fn _ _,_,⟨vs,h1,h2⟩=>⟨vs,h1,ptrs.fzc he ha h2⟩
  | .mref _,_,hc=>hc
  | .bfn _ _,_,hc=>hc
theorem CsR.fzc:∀ {c:List SC} {v:List Value},CsR env B w c v→CsR env B w (fzcCs id g x c) v
  | [],_,hc=>hc
  | _ :: _,_,⟨v,r,e,h1,h2⟩=>⟨v,r,e,CR.fzc he ha h1,CsR.fzc h2⟩
theorem SaR.fzc:∀ {c:SA} {v:Value},SaR env B w c v→SaR env B w (c.fzc id g x) v
  | .c _,_,hc=>CR.fzc he ha hc
  | .agg _,_,⟨vs,e,h1⟩=>⟨vs,e,CsR.fzc he ha h1⟩
  | .arr _ _,_,h=>h
theorem SasR.fzc:∀ {c:List SA} {v:List Value},SasR env B w c v→SasR env B w (fzcAs id g x c) v
  | [],_,hc=>hc
  | _ :: _,_,⟨v,r,e,h1,h2⟩=>⟨v,r,e,SaR.fzc he ha h1,SasR.fzc h2⟩
theorem VR.fzc:∀ {c:SV} {v:Value},VR env B w c v→VR env B w (c.fzc id g x) v
  | .a _,_,hc=>SaR.fzc he ha hc
  | .may _ _,_,hc=>⟨fun hg=>SaR.fzc he ha (hc.1 hg),hc.2⟩
  | .tup _,_,⟨vs,e,h1⟩=>⟨vs,e,SasR.fzc he ha h1⟩
theorem BR.fzc {k:Nat}:∀ {bl:Blk} {c:Ck},BR env B w k bl c→BR env B w k (bl.fzc id g x) c
  | .cells _ _,_,⟨b',vs,e,hc,h1⟩=>⟨b',vs,e,hc,CsR.fzc he ha h1⟩
  | .row _ _ _ _,_,h=>h
  | .sit _ _,_,h=>h
  | .mp _ _ _ _,_,h=>h
  | .it _ _ _ _,_,h=>h
  | .junk,_,h=>h
  | .hrow _ _ _ _ _ _,_,h=>h
  | .rjunk,_,h=>h
  | .lrow _ _ _,_,h=>h
theorem HR.fzc:∀ {l:Hp} {H:List Ck},HR env B w l H→∃ H',H'.Sublist H∧HR env B w (fzcH id g x l) H'
  | [],_,hh=>⟨[],by rw [show _=[] from hh]; exact List.Sublist.refl _,rfl⟩
  | (k,bl) :: l,_,⟨c,H',e,h1,h2⟩=>by
    obtain ⟨H2,hs,h3⟩:=HR.fzc h2;subst e;unfold fzcH
    split
    · exact ⟨H2,hs.cons _,h3⟩
    · exact ⟨c :: H2,hs.cons_cons _,c,H2,rfl,BR.fzc he ha h1,h3⟩
theorem HR.fzc':∀ {l:Hp} {H:List Ck} {bl:Blk},HR env B w l H→lk l id=some bl→∃ c Y Z H',BR env B w id bl c∧H=Y++c :: Z∧H'.Sublist (Y++Z)∧HR env B w (fzcH id g x l) H'
  | [],_,_,_,h=>by cases h
  | (k,b') :: l,H,bl,⟨c,H',e,h1,h2⟩,h=>by
    rw [qa] at h;subst e
    split at h
    · rename_i e
      subst e;cases h;obtain ⟨H2,h3,h4⟩:=HR.fzc he ha h2;refine ⟨c,[],H',H2,h1,rfl,h3,?_⟩;unfold fzcH;rw [Nat.beq_refl];exact h4
    · rename_i e
      obtain ⟨c',Y,Z,H2,h3,h4,h5,h6⟩:=HR.fzc' h2 h;have hk:Nat.beq k id=false:=by
        cases hb:Nat.beq k id with
        | false=>rfl
        | true=>exact absurd (Nat.eq_of_beq_eq_true hb).symm e
      refine ⟨c',c :: Y,Z,c :: H2,h3,by rw [h4]; rfl,h5.cons_cons _,?_⟩;unfold fzcH;rw [hk];exact ⟨c,H2,rfl,BR.fzc he ha h1,h6⟩
omit he ha in
theorem lk_fzcL:∀ {l:Sl} {s:Nat} {v:SV},lk (fzcL id g x l) s=some v→∃ u,lk l s=some u∧v=u.fzc id g x
  | [],_,_,h=>by cases h
  | (k,u) :: l,s,v,h=>by
    unfold fzcL at h;rw [qa] at h ⊢
    split at h
    · rename_i e
      cases h;rw [if_pos e];exact ⟨u,rfl,rfl⟩
    · rename_i e
      rw [if_neg e];exact lk_fzcL h
end
section
variable {X:Cx} {R:Nat→Prop} {W:World} {Bi:Bk} {n:Nat} {ks:List Nat} {env:Nat→Loc} {B:Nat→Prop} {w0:World} {H:List Ck} {st st':ASt} {a:Act} {w:World}
theorem AI.frzC (h:AI X R W Bi n ks env B w0 H st a w) {id:Nat} {t:TypeId} {cs:List SC} {g:GTy} {x:g.D} {c:Bool} (hlk:lk st.H id=some (.cells t cs)) (hdec:dec g cs=some (c,x,[])) (hc:c=true):∃ env' B' w0' H',AI X R W Bi n ks env' B' w0' H' ⟨fzcL id g x st.L,fzcH id g x st.H⟩ a w:=by
  obtain ⟨c0,_,⟨b,vs,he,rfl,hcs⟩,hfoc⟩:=h.heap.foc hlk;have hup:Up B w0 (fun q=>B q∨q=b) w:=⟨fun q hq=>.inl hq,fun q hq=>h.sh.below.block q (.inr hq)⟩
  obtain ⟨v1,v2,hv,hfr,hv2⟩:=dec_ok (hcs.up hup) hdec hc;have hv2':v2=[]:=hv2;subst hv2';rw [List.append_nil] at hv;subst hv;have hat:At (fun q=>B q∨q=b) w g x b 0:=⟨.inr rfl,vs,hfr,fun j u hu=>by rw [Nat.zero_add,cel_cell h.sh hfoc.more]; exact hu⟩
  obtain ⟨c,Y,Z,H2,⟨b',vs',he',rfl,_⟩,h2,h4,h5⟩:=HR.fzc' he hat (h.heap.up hup) hlk;rw [he] at he';cases he';have hmem:Ck.cel b vs' t∈H++ks.map mkO:=by rw [h2]; simp
  have hnew:=(h.sh.ok _ hmem).lt (b:=b) rfl;have hpart:=h.sh.apart;rw [h2,List.append_assoc,List.cons_append] at hpart;refine ⟨env,_,w,H2,h.size,h.defs,fun s u hu=>?_,h5,?_,fun q hq=>.inl (h.sub q hq),fun q hq=>?_,h.pin,h.base.trans ⟨h.sh.below.os,h.sh.below.tape,h.sh.below.output,h.sh.below.size,fun q hq=>h.sh.below.block q (.inl hq)⟩,fun i x hx=>(h.glob i x hx).up hup⟩
  · obtain ⟨u0,hu0,rfl⟩:=lk_fzcL hu
    obtain ⟨u',h6,h7⟩:=h.has s u0 hu0;exact ⟨u',h6,VR.fzc he hat (h7.up hup)⟩
  · have hs:SH (fun k=>R k∨B k) w0 (H2++ks.map mkO) w:=by
      have h6:=h.sh;rw [h2] at h6;have hp:(Y++Ck.cel b vs' t :: Z++ks.map mkO).Perm (Ck.cel b vs' t :: (Y++Z++ks.map mkO)):=by
        simp only [List.append_assoc,List.cons_append];exact List.perm_middle
      exact (h6.perm hp).weak (((h4.append_right _)).cons _)
    refine ⟨KO.refl _ _,fun q hq=>?_,fun c hc=>(hs.ok c hc).base fun q hb hB=>?_,hs.apart⟩
    · rcases hq with hq | hq | hq
      · exact h.sh.base q (.inl hq)
      · exact h.sh.base q (.inr hq)
      · subst hq; exact hnew.2
    · rcases hB with hB | hB | hB
      · exact ((hs.ok c hc).lt hb).1 (.inl hB)
      · exact ((hs.ok c hc).lt hb).1 (.inr hB)
      · subst hB
        have hcm:c∈Y++(Z++ks.map mkO):=by
          rcases List.mem_append.1 hc with hc | hc
          · have:=h4.subset hc
            rcases List.mem_append.1 this with h7 | h7
            · exact List.mem_append_left _ h7
            · exact List.mem_append_right _ (List.mem_append_left _ h7)
          · exact List.mem_append_right _ (List.mem_append_right _ hc)
        rw [List.pairwise_append,List.pairwise_cons] at hpart;obtain ⟨_,⟨h8,_⟩,h9⟩:=hpart
        rcases List.mem_append.1 hcm with h7 | h7
        · exact h9 c h7 _ List.mem_cons_self q hb rfl
        · exact h8 c h7 q rfl hb
  · rcases hq with hq | hq
    · exact (h.new q hq).imp_right fun h'=>⟨h'.1,h'.2.keep (h.sh.below.block q (.inr hq))⟩
    · subst hq; exact .inr ⟨fun hR=>hnew.1 (.inl hR),(h.sh.ok _ hmem).cells rfl rfl⟩
theorem Wk.frzC (id:Nat) (g:GTy) {t:TypeId} {cs:List SC} {x:g.D} {c:Bool} (hlk:lk st.H id=some (.cells t cs)) (hdec:dec g cs=some (c,x,[])) (hc:c=true):Wk X n st ⟨fzcL id g x st.L,fzcH id g x st.H⟩:=fun _ _ _ _ _ _ ⟨ks,env,B,w0,H,hM,hA⟩=>by
  obtain ⟨env',B',w0',H',h⟩:=hA.frzC hlk hdec hc;exact ⟨ks,env',B',w0',H',hM,h⟩
end
section
variable {X:Cx} {M:Bool} {n:Nat} {st:ASt} {Q:Exit→ASt→Prop} {ops:List Oper} {E:List Nat} {ds:DS} {listed':Array Bool} {fuel d i:Nat} {o:Oper}
theorem ax_cut {r:Option Nat} {c:Code} {st'':ASt} (h1:AX X M n r c st (fun e s=>e=.normal∧Wk X n s st'')) (h2:Q .normal st''):AX X M n r c st Q:=fun R W Bi a w hA=>wpIn_mono (h1 R W Bi a w hA) fun e a w ⟨s,⟨he,hw⟩,hA'⟩=>by
  subst he;exact ⟨st'',h2,hw _ _ _ _ _ _ hA'⟩
def ADx (X:Cx) (M:Bool) (n:Nat) (ops:List Oper) (E:List Nat) (fuel:Nat) (ds:DS) (st:ASt) (Q:Exit→ASt→Prop) (i:Nat) (o:Oper):Prop:=
  ∀ (R:Nat→Prop) (W:World) (Bi:Bk) (B0:Nat→Prop) (w00:World) (CS:List Ck) (F:World→Prop) (ks:List Nat) (env:Nat→Loc) (B:Nat→Prop) (w0:World) (H:List Ck) (a:Act) (w:World),MOk M ks Bi→AI X R W Bi n ks env B w0 H st a w→DInv R ds B0 w00 CS F B w0 H →
    XO X.P ops.toArray o (fun a' w'=>((E.elem i=true→SH (fun k=>R k∨B0 k) w00 CS w')∧F w')∧wpAnyJ X.P ops.toArray (fun e a w=>e=.normal∧∃ st',Q e st'∧AR X R W Bi M n st' a w) (fun j w=>(E.elem j=true→SH (fun k=>R k∨B0 k) w00 CS w)∧F w) fuel (ds.listed.setIfInBounds i true) a' w') a w
theorem zP (hi:nth ops i=some o) (h:ADx X M n ops E fuel ds st Q i o):ADo X M n ops E fuel ds st Q i:=fun R W Bi B0 w00 CS F ks env B w0 H a w hM hA hD=>⟨o,nth_arr hi,h R W Bi B0 w00 CS F ks env B w0 H a w hM hA hD⟩
theorem ad_frz {st':ASt} (z:Nat) (hf:frz z st=some st') (h:AD X M n ops E fuel ⟨ds.listed,false,ds.pre,false⟩ st' Q):AD X M n ops E fuel ds st Q:=by
  intro R W Bi B0 w00 CS F ks env B w0 H a w hM hA hD;obtain ⟨env',B',w0',H',hA',hsub,hKO,hkeep⟩:=hA.frz hf;refine h R W Bi B0 w00 CS F ks env' B' w0' H' a w hM hA' ⟨fun h=>(by cases h),fun hp=>?_,fun h=>(by cases h),fun w hw=>hD.frz' w (hKO.trans ⟨hw.os,hw.tape,hw.output,hw.size,fun k hk=>hw.block k (hk.imp id (hsub k))⟩)⟩;obtain ⟨g1,g2,g3,g4⟩:=hD.pre hp;exact ⟨fun c hc=>⟨hkeep c (g1 c hc).1 (g1 c hc).2,(g1 c hc).2⟩,g2,fun k hk=>hsub k (g3 k hk),g4.trans ⟨hKO.os,hKO.tape,hKO.output,hKO.size,fun k hk=>hKO.block k (hk.imp id (g3 k))⟩⟩
theorem qL (x0:SA) {j s:Nat} {want b:Bool} (hi:nth ops i=some o) (hg:o.guard=some (j,want)) (hj:nth (xH ops) j=some (some s)) (hs:lk st.L s=some (.c (.val (.bool b)))) (hdst:o.dst=some d) (hd:Nat.blt d n=true) (hE:(!E.elem i || ds.pre)=true) (hl:ds.listed.setIfInBounds i true=listed')
    (h1:b=want→ADx X M n ops E fuel ds st Q i { dst:=o.dst,op:=o.op,type:=o.type,pos:=o.pos,after:=o.after,guard:=none }) (h0:b=!want→AD X M n ops E fuel ⟨listed',false,ds.pre,ds.nocall⟩ ⟨(d,.may false x0) :: st.L,st.H⟩ Q):ADo X M n ops E fuel ds st Q i:=by
  intro R W Bi B0 w00 CS F ks env B w0 H a w hM hA hD;refine ⟨o,nth_arr hi,?_⟩;obtain ⟨oj,hoj,hsj⟩:=nth_map hj;have hj':(ops.toArray[j]?).bind (·.dst)=some s:=by simp [hoj,← hsj]
  obtain ⟨v,h2,h3⟩:=hA.has _ _ hs;rw [show v=_ from h3] at h2;have hw:=xP hA.sym hg hj' (zU h2)
  by_cases hb:b=want
  · have h4:=h1 hb R W Bi B0 w00 CS F ks env B w0 H a w hM hA hD
    rcases h4 with ⟨_,h4⟩ | ⟨h5,_⟩
    · exact .inl ⟨by rw [hw]; simp [hb],h4⟩
    · simp [Region.wanted] at h5
  · have hb':b=!want:=by cases b <;> cases want <;> simp_all
    have hS:St n (ks.map yo) ((d,undef) :: full a) (a.put o.dst undef):=by rw [hdst]; exact hA.stt.put d undef (zA hd)
    have hA':=hA.set (sv:=.may false x0) ⟨fun h=>(by cases h),fun _=>rfl⟩ hS;have hD':=hD.kept (H':=H) (l:=listed') (fun _ c hc _=>hc);refine .inr ⟨by rw [hw]; simp [hb],⟨fun he=>?_,hD.F hA⟩,?_⟩
    · refine hD.T ?_ hA
      rw [he] at hE;exact hE
    · rw [hl]
      exact h0 hb' R W Bi B0 w00 CS F ks env B w0 H _ w hM hA' hD'
theorem zD {f:FuncId} {fn:Func} {xs:List Operand} {ts:Array TypeId} {args args':List SA} {h H1:Hp} {Qc:SV→Hp→Prop} {c pre':Bool} (ps:Ps) (hC:AC X f args h Qc) (hE:(!E.elem i || pre')=true) (hpr:(ds.pre&&ps.isEmpty)=pre') (hl:ds.listed.setIfInBounds i true=listed')
    (hop:o.op=.call { callee:=.value (.func f),args:=xs.toArray,argTypes:=ts }) (ho:o.guard=none∧o.dst=some d) (hd:Nat.blt d n=true)
    (hfn : X.P.funcs[f]? = some fn) (hn : (fn.name == "runtime.NumGoroutine") = false) (hb : fn.body.isNone = false) (hargs : aes X st.L xs = some (c, args')) (hc : c = true) (hren : renAs ps args = some args') (hps : okPs n ps = true) (hpass : PassH ps h st.H H1)
    (hnext:∀ sv h',Qc sv h'→∃ sv' h'',sv.ren ps=some sv'∧renH ps h'=some h''∧AD X M n ops E fuel ⟨listed',false,pre',false⟩ ⟨(d,sv') :: killL (xS h ps) st.L,h''++xG (yc ps) (xS h ps) H1⟩ Q):ADx X M n ops E fuel ds st Q i o:=by
  intro R W Bi B0 w00 CS F ks env B w0 H a w hM hA hD;obtain ⟨vs,h1,h2⟩:=aes_ok hA hargs hc;have he:∀ i j,lk ps i=some j→env j=(fun i=>match lk ps i with | some j=>env j | none=>Loc.no) i:=fun i j hij=>by simp only [hij]
  obtain ⟨C1,C2,h3,h4,h5⟩:=PassH.split (env:=fun i=>match lk ps i with | some j=>env j | none=>Loc.no) he hpass hA.heap;have hs:SH B w0 C1 w:=by
    have h6:=(hA.sh.perm (h3.append_right (ks.map mkO))).weak (H':=C1) (by rw [List.append_assoc]; exact List.sublist_append_left _ _);exact ⟨⟨h6.below.os,h6.below.tape,h6.below.output,h6.below.size,fun k hk=>h6.below.block k (.inr hk)⟩,fun k hk=>h6.base k (.inr hk),fun c hc=>(h6.ok c hc).base fun b hb hk=>((h6.ok c hc).lt hb).1 (.inr hk),h6.apart⟩
  have hC1:ps=[]→C1=[]:=fun e=>by
    subst e;cases hpass with
    | nil=>exact h4
    | cons hi _ _ _=>cases hi
  refine y_call hA.sym hop ho hd hfn hn hb h1 (hC B w0 _ vs C1 w (fun i x hx=>hA.glob i x hx) ((SasR.ren he hren).2 h2) h4 hs) fun v a' w' hpost hS=>?_
  obtain ⟨sv,h',hQ,hnx⟩:=hA.called hps h3 h4 h5 hpost hS;obtain ⟨sv',h'',e1,e2,hAD⟩:=hnext sv h' hQ;obtain ⟨env',B',w0',H',hA',hsub,hKO,hkeep⟩:=hnx sv' h'' e1 e2;have hD':DInv R ⟨listed',false,pre',false⟩ B0 w00 CS F B' w0' H':=⟨fun h=>(by cases h),fun h=>by
    have h':pre'=true:=h;rw [← hpr,Bool.and_eq_true] at h';have hps0:ps=[]:=by simpa using h'.2
    obtain ⟨g1,g2,g3,g4⟩:=hD.pre h'.1;refine ⟨fun c hc=>⟨hkeep hps0 c ?_,(g1 c hc).2⟩,g2,fun k hk=>hsub k (g3 k hk),g4.trans ⟨hKO.os,hKO.tape,hKO.output,hKO.size,fun k hk=>hKO.block k (hk.imp id (g3 k))⟩⟩
    have:=h3.mem_iff.1 (g1 c hc).1
    rw [hC1 hps0] at this
    simpa using this,fun h=>(by cases h),fun w hw=>hD.frz' w (hKO.trans ⟨hw.os,hw.tape,hw.output,hw.size,fun k hk=>hw.block k (hk.imp id (hsub k))⟩)⟩
  rw [hl];refine ⟨⟨fun hh=>hD'.T ?_ hA',hD'.F hA'⟩,hAD R W Bi B0 w00 CS F ks env' B' w0' H' a' w' hM hA' hD'⟩;rw [hh] at hE;exact hE
theorem yL {f:FuncId} {fn:Func} {s:Nat} {ids:List Cap} {xs:List Operand} {ts:Array TypeId} {args args':List SA} {h H1:Hp} {Qc:SV→Hp→Prop} {c pre':Bool} (ps:Ps) (hC:AC X f args h Qc) (hE:(!E.elem i || pre')=true) (hpr:(ds.pre&&ps.isEmpty)=pre') (hl:ds.listed.setIfInBounds i true=listed')
    (hop:o.op=.call { callee:=.value (.tmp s),args:=xs.toArray,argTypes:=ts }) (ho:o.guard=none∧o.dst=some d) (hd:Nat.blt d n=true) (hsl:lk st.L s=some (.c (.fn f ids)))
    (hfn : X.P.funcs[f]? = some fn) (hn : (fn.name == "runtime.NumGoroutine") = false) (hb : fn.body.isNone = false) (hargs : aes X st.L xs = some (c, args')) (hc : c = true) (hren : renAs ps args = some (args' ++ ptrAs ids)) (hps : okPs n ps = true) (hpass : PassH ps h st.H H1)
    (hnext:∀ sv h',Qc sv h'→∃ sv' h'',sv.ren ps=some sv'∧renH ps h'=some h''∧AD X M n ops E fuel ⟨listed',false,pre',false⟩ ⟨(d,sv') :: killL (xS h ps) st.L,h''++xG (yc ps) (xS h ps) H1⟩ Q):ADx X M n ops E fuel ds st Q i o:=by
  intro R W Bi B0 w00 CS F ks env B w0 H a w hM hA hD;obtain ⟨vs,h1,h2⟩:=aes_ok hA hargs hc;obtain ⟨fv,hf1,lb,rfl,hf2⟩:=hA.has _ _ hsl;have he:∀ i j,lk ps i=some j→env j=(fun i=>match lk ps i with | some j=>env j | none=>Loc.no) i:=fun i j hij=>by simp only [hij]
  obtain ⟨C1,C2,h3,h4,h5⟩:=PassH.split (env:=fun i=>match lk ps i with | some j=>env j | none=>Loc.no) he hpass hA.heap;have hs:SH B w0 C1 w:=by
    have h6:=(hA.sh.perm (h3.append_right (ks.map mkO))).weak (H':=C1) (by rw [List.append_assoc]; exact List.sublist_append_left _ _);exact ⟨⟨h6.below.os,h6.below.tape,h6.below.output,h6.below.size,fun k hk=>h6.below.block k (.inr hk)⟩,fun k hk=>h6.base k (.inr hk),fun c hc=>(h6.ok c hc).base fun b hb hk=>((h6.ok c hc).lt hb).1 (.inr hk),h6.apart⟩
  have hC1:ps=[]→C1=[]:=fun e=>by
    subst e;cases hpass with
    | nil=>exact h4
    | cons hi _ _ _=>cases hi
  refine y_callV hA.sym hop ho hd (zU hf1) hfn hn hb h1 (hC B w0 _ (vs++lb) C1 w (fun i x hx=>hA.glob i x hx) ((SasR.ren he hren).2 (h2.append (ptrs_sas hf2))) h4 hs) fun v a' w' hpost hS=>?_
  obtain ⟨sv,h',hQ,hnx⟩:=hA.called hps h3 h4 h5 hpost hS;obtain ⟨sv',h'',e1,e2,hAD⟩:=hnext sv h' hQ;obtain ⟨env',B',w0',H',hA',hsub,hKO,hkeep⟩:=hnx sv' h'' e1 e2;have hD':DInv R ⟨listed',false,pre',false⟩ B0 w00 CS F B' w0' H':=⟨fun h=>(by cases h),fun h=>by
    have h':pre'=true:=h;rw [← hpr,Bool.and_eq_true] at h';have hps0:ps=[]:=by simpa using h'.2
    obtain ⟨g1,g2,g3,g4⟩:=hD.pre h'.1;refine ⟨fun c hc=>⟨hkeep hps0 c ?_,(g1 c hc).2⟩,g2,fun k hk=>hsub k (g3 k hk),g4.trans ⟨hKO.os,hKO.tape,hKO.output,hKO.size,fun k hk=>hKO.block k (hk.imp id (g3 k))⟩⟩
    have:=h3.mem_iff.1 (g1 c hc).1
    rw [hC1 hps0] at this
    simpa using this,fun h=>(by cases h),fun w hw=>hD.frz' w (hKO.trans ⟨hw.os,hw.tape,hw.output,hw.size,fun k hk=>hw.block k (hk.imp id (hsub k))⟩)⟩
  rw [hl];refine ⟨⟨fun hh=>hD'.T ?_ hA',hD'.F hA'⟩,hAD R W Bi B0 w00 CS F ks env' B' w0' H' a' w' hM hA' hD'⟩;rw [hh] at hE;exact hE
end
end Go.Proofs.YtihcolehefloeaaDoor

/- Names of blocks are changed; ranges over functions. -/
namespace Go.Proofs.YtihcolehefloeaaDoor
open Go.RowKit
abbrev Re:=Bool→Nat→Option Nat
def capsRe (φ:Re):List Cap→Option (List Cap)
  | []=>some []
  | .id i :: r=>match φ true i,capsRe φ r with
    | some j,some l=>some (.id j :: l)
    | _,_=>none
  | .fz g x :: r=>match capsRe φ r with
    | some l=>some (.fz g x :: l)
    | none=>none
def SC.re:SC→Re→SC
  | .ptr i o,φ=>match φ true i with
    | some j=>.ptr j o
    | none=>.dead
  | .elt i sz k o,φ=>match φ false i with
    | some j=>.elt j sz k o
    | none=>.dead
  | .sl i,φ=>match φ false i with
    | some j=>.sl j
    | none=>.dead
  | .fn f ids,φ=>match capsRe φ ids with
    | some l=>.fn f l
    | none=>.dead
  | .mref i,φ=>match φ true i with
    | some j=>.mref j
    | none=>.dead
  | .bfn f i,φ=>match φ true i with
    | some j=>.bfn f j
    | none=>.dead
  | c,_=>c
def reCs (φ:Re):List SC→List SC
  | []=>[]
  | c :: r=>c.re φ :: reCs φ r
def SA.re:SA→Re→SA
  | .c x,φ=>.c (x.re φ)
  | .agg cs,φ=>.agg (reCs φ cs)
  | .arr g l,_=>.arr g l
def reAs (φ:Re):List SA→List SA
  | []=>[]
  | c :: r=>c.re φ :: reAs φ r
def SV.re:SV→Re→SV
  | .a x,φ=>.a (x.re φ)
  | .may g x,φ=>.may g (x.re φ)
  | .tup xs,φ=>.tup (reAs φ xs)
def reL (φ:Re):Sl→Sl
  | []=>[]
  | (k,v) :: r=>(k,v.re φ) :: reL φ r
def Blk.re:Blk→Re→Blk
  | .cells t cs,φ=>.cells t (reCs φ cs)
  | .it mid es k ps,φ=>match φ true mid with
    | some j=>.it j es k ps
    | none=>.junk
  | .hrow t g l c i d,φ=>match φ false d with
    | some j=>.hrow t g l c i j
    | none=>.rjunk
  | b,_=>b
def Blk.kd:Blk→Bool
  | .row _ _ _ _=>false
  | .hrow _ _ _ _ _ _=>false
  | .rjunk=>false
  | .lrow _ _ _=>false
  | _=>true
def reH (φ:Re):Hp→Hp
  | []=>[]
  | (k,b) :: r=>match φ b.kd k with
    | some j=>(j,b.re φ) :: reH φ r
    | none=>reH φ r
structure ReOk (φ:Re) (env env':Nat→Loc):Prop where
  blk:∀ k j b,φ true k=some j→env k=.blk b→env' j=.blk b
  row:∀ k j A c n,φ false k=some j→env k=.row A c n→env' j=.row A c n
section
variable {φ:Re} {env env':Nat→Loc} {B:Nat→Prop} {w:World} (he:ReOk φ env env')
include he
theorem ptrs.re:∀ {ids l:List Cap} {vs:List Value},capsRe φ ids=some l→ptrs env B w ids vs→ptrs env' B w l vs
  | [],l,vs,h,hv=>by cases h; exact hv
  | .id i :: ids,l,vs,h,⟨v,r,e,⟨b,h2,h4⟩,h3⟩=>by
    simp only [capsRe] at h
    split at h
    · rename_i j r hi hr
      cases h;exact ⟨v,_,e,⟨b,he.blk i j b hi h2,h4⟩,ptrs.re hr h3⟩
    · cases h
  | .fz g x :: ids,l,vs,h,⟨v,r,e,h2,h3⟩=>by
    simp only [capsRe] at h
    split at h
    · rename_i r hr
      cases h;exact ⟨v,_,e,h2,ptrs.re hr h3⟩
    · cases h
theorem CR.re:∀ {c:SC} {v:Value},CR env B w c v→CR env' B w (c.re φ) v
  | .val _,_,hc=>hc
  | .str _,_,hc=>hc
  | .dead,_,hc=>hc
  | .ptr i o,v,hc=>by
    simp only [SC.re]
    split
    · rename_i j h
      obtain ⟨b,e,hv⟩:=hc;exact ⟨b,he.blk i j b h e,hv⟩
    · trivial
  | .elt i sz j o,v,hc=>by
    simp only [SC.re]
    split
    · rename_i j h
      obtain ⟨b,c,n,e,hv⟩:=hc;exact ⟨b,c,n,he.row i j _ _ _ h e,hv⟩
    · trivial
  | .pel _ _ _,_,hc=>hc
  | .par _ _,_,hc=>hc
  | .sl i,v,hc=>by
    simp only [SC.re]
    split
    · rename_i j h
      obtain ⟨A,c,n,e,hv⟩:=hc;exact ⟨A,c,n,he.row i j _ _ _ h e,hv⟩
    · trivial
  | .lst _ _ _,_,hc=>hc
  | .fn f ids,v,hc=>by
    simp only [SC.re]
    split
    · rename_i l h
      obtain ⟨vs,hv,hp⟩:=hc;exact ⟨vs,hv,ptrs.re he h hp⟩
    · trivial
  | .mref i,v,hc=>by
    simp only [SC.re]
    split
    · rename_i j h
      obtain ⟨b,e,hv⟩:=hc;exact ⟨b,he.blk i j b h e,hv⟩
    · trivial
  | .bfn f i,v,hc=>by
    simp only [SC.re]
    split
    · rename_i j h
      obtain ⟨b,e,hv⟩:=hc;exact ⟨b,he.blk i j b h e,hv⟩
    · trivial
theorem CsR.re:∀ {c:List SC} {v:List Value},CsR env B w c v→CsR env' B w (reCs φ c) v
  | [],_,hc=>hc
  | _ :: _,_,⟨v,r,e,h1,h2⟩=>⟨v,r,e,CR.re he h1,CsR.re h2⟩
theorem SaR.re:∀ {c:SA} {v:Value},SaR env B w c v→SaR env' B w (c.re φ) v
  | .c _,_,hc=>CR.re he hc
  | .agg _,_,⟨vs,e,h1⟩=>⟨vs,e,CsR.re he h1⟩
  | .arr _ _,_,h=>h
theorem SasR.re:∀ {c:List SA} {v:List Value},SasR env B w c v→SasR env' B w (reAs φ c) v
  | [],_,hc=>hc
  | _ :: _,_,⟨v,r,e,h1,h2⟩=>⟨v,r,e,SaR.re he h1,SasR.re h2⟩
theorem VR.re:∀ {c:SV} {v:Value},VR env B w c v→VR env' B w (c.re φ) v
  | .a _,_,hc=>SaR.re he hc
  | .may _ _,_,hc=>⟨fun hg=>SaR.re he (hc.1 hg),hc.2⟩
  | .tup _,_,⟨vs,e,h1⟩=>⟨vs,e,SasR.re he h1⟩
theorem BR.re {k j:Nat}:∀ {b:Blk} {c:Ck},φ b.kd k=some j→BR env B w k b c→BR env' B w j (b.re φ) c
  | .cells _ _,_,h,⟨b,vs,e,hc,h1⟩=>⟨b,vs,he.blk k j b h e,hc,CsR.re he h1⟩
  | .row _ _ _ _,_,h,⟨A,c,xs,e,hc,h1⟩=>⟨A,c,xs,he.row k j _ _ _ h e,hc,h1⟩
  | .sit _ _,_,h,⟨b,e,hc⟩=>⟨b,he.blk k j b h e,hc⟩
  | .mp _ _ _ _,_,h,⟨b,es,q,e,hc⟩=>⟨b,es,q,he.blk k j b h e,hc⟩
  | .it mid _ _ _,_,h,⟨b,m,e,hm,hc⟩=>by
    simp only [Blk.re]
    split
    · rename_i j' hj
      exact ⟨b,m,he.blk k j b h e,he.blk mid j' m hj hm,hc⟩
    · exact ⟨b,_,he.blk k j b h e,hc⟩
  | .junk,_,h,⟨b,o,e,hc⟩=>⟨b,o,he.blk k j b h e,hc⟩
  | .hrow t g l cap i d,_,h,⟨A,c,ys,A',c',m,e,hc,h1,hi,h2,h3⟩=>by
    simp only [Blk.re]
    split
    · rename_i j' hj
      exact ⟨A,c,ys,A',c',m,he.row k j _ _ _ h e,hc,h1,hi,he.row d j' _ _ _ hj h2,h3⟩
    · exact ⟨A,c,_,_,_,_,_,he.row k j _ _ _ h e,hc⟩
  | .rjunk,_,h,⟨A,c,n,t,s,m,xs,e,hc⟩=>⟨A,c,n,t,s,m,xs,he.row k j _ _ _ h e,hc⟩
  | .lrow _ _ _,_,h,⟨A,c,e,h1⟩=>⟨A,c,he.row k j _ _ _ h e,h1⟩
theorem HR.re:∀ {l:Hp} {H:List Ck},HR env B w l H→∃ H',H'.Sublist H∧HR env' B w (reH φ l) H'
  | [],_,hh=>⟨[],by rw [show _=[] from hh]; exact List.Sublist.refl _,rfl⟩
  | (k,b) :: l,_,⟨c,H',e,h1,h2⟩=>by
    obtain ⟨H2,hs,h3⟩:=HR.re h2;subst e;unfold reH
    split
    · rename_i j h
      exact ⟨c :: H2,hs.cons_cons _,c,H2,rfl,BR.re he h h1,h3⟩
    · exact ⟨H2,hs.cons _,h3⟩
omit he in
theorem lk_reL:∀ {l:Sl} {s:Nat} {v:SV},lk (reL φ l) s=some v→∃ u,lk l s=some u∧v=u.re φ
  | [],_,_,h=>by cases h
  | (k,u) :: l,s,v,h=>by
    unfold reL at h;rw [qa] at h ⊢
    split at h
    · rename_i e
      cases h;rw [if_pos e];exact ⟨u,rfl,rfl⟩
    · rename_i e
      rw [if_neg e];exact lk_reL h
end
def mvId (i j:Nat):Re:=fun _ k=>match Nat.beq k i with
  | true=>some j
  | false=>match Nat.beq k j with
    | true=>none
    | false=>some k
theorem mvId_ok {i j:Nat} {env:Nat→Loc}:ReOk (mvId i j) env (upd env j (env i)):=by
  have key:∀ b k k',mvId i j b k=some k'→upd env j (env i) k'=env k:=by
    intro b k k' h;unfold mvId at h
    split at h
    · rename_i hb
      cases h
      have:=Nat.eq_of_beq_eq_true hb
      subst this;exact zN
    · split at h
      · cases h
      · rename_i hb
        cases h;exact qR _ (fun e=>by subst e; rw [Nat.beq_refl] at hb; cases hb)
  exact ⟨fun k j' b h e=>by rw [key _ _ _ h]; exact e,fun k j' A c n h e=>by rw [key _ _ _ h]; exact e⟩
theorem ax_mv {X:Cx} {n:Nat} {r:Option Nat} {c:Code} {st:ASt} {Q:Exit→ASt→Prop} (i j:Nat) (hj:Nat.blt j yy=true) (h:AX X true n r c ⟨reL (mvId i j) st.L,reH (mvId i j) st.H⟩ Q):AX X true n r c st Q:=by
  rintro R W Bi a w ⟨ks,env,B,w0,H,hM,hA⟩;obtain ⟨H',h1,h2⟩:=HR.re (mvId_ok (i:=i) (j:=j)) hA.heap;refine h R W Bi a w ⟨ks,upd env j (env i),B,w0,H',hM,hA.size,hA.defs,fun s sv hs=>?_,h2,hA.sh.weak (h1.append_right _),hA.sub,hA.new,pin_upd hA.pin (fun q hp=>by have h1:=hM.2 rfl _ _ hp; have h2:=zA hj; omega),hA.base,hA.glob⟩;obtain ⟨u,h3,rfl⟩:=lk_reL hs;obtain ⟨v,h4,h5⟩:=hA.has s u h3;exact ⟨v,h4,VR.re mvId_ok h5⟩
end Go.Proofs.YtihcolehefloeaaDoor

/- Ranges over functions. -/
namespace Go.Proofs.YtihcolehefloeaaDoor
open Go.RowKit
def pinRe (n:Nat):Re:=fun b k=>match b with
  | true=>match Nat.ble n k with
    | true=>some k
    | false=>none
  | false=>match Nat.ble qZ k with
    | true=>some k
    | false=>none
theorem pinRe_ok {n:Nat} {env env':Nat→Loc} (h:∀ id l,n≤id→env id=l→((∃ b,l=.blk b)∨qZ≤id)→env' id=l) (hn:n≤qZ):ReOk (pinRe n) env env':=by
  refine ⟨fun k j b hk e=>?_,fun k j A c m hk e=>?_⟩
  · simp only [pinRe] at hk
    split at hk
    · rename_i hb
      cases hk;exact h _ _ (Nat.le_of_ble_eq_true hb) e (.inl ⟨b,rfl⟩)
    · cases hk
  · simp only [pinRe] at hk
    split at hk
    · rename_i hb
      cases hk
      have:=Nat.le_of_ble_eq_true hb
      exact h _ _ (Nat.le_trans hn this) e (.inr this)
    · cases hk
def capsFz:List Cap→Bool
  | []=>true
  | .id _ :: _=>false
  | .fz _ _ :: r=>capsFz r
section
variable {env env':Nat→Loc} {B:Nat→Prop} {w:World}
theorem ptrs.fzAny:∀ {cs:List Cap} {vs:List Value},capsFz cs=true→ptrs env B w cs vs→ptrs env' B w cs vs
  | [],_,_,h=>h
  | .id _ :: _,_,h,_=>by cases h
  | .fz _ _ :: _,_,h,⟨v,r,e,h1,h2⟩=>⟨v,r,e,h1,ptrs.fzAny (by simpa [capsFz] using h) h2⟩
theorem ptrs.any:∀ {cs:List Cap} {vs:List Value},ptrs (fun _=>.no) B w cs vs→ptrs env B w cs vs
  | [],_,h=>h
  | .id _ :: _,_,⟨v,r,e,⟨b,h1,_⟩,h2⟩=>by cases h1
  | .fz _ _ :: _,_,⟨v,r,e,h1,h2⟩=>⟨v,r,e,h1,ptrs.any h2⟩
theorem CR.any:∀ {c:SC} {v:Value},CR (fun _=>.no) B w c v→CR env B w c v
  | .val _,_,hc=>hc
  | .str _,_,hc=>hc
  | .dead,_,hc=>hc
  | .ptr _ _,_,⟨b,h,_⟩=>by cases h
  | .elt _ _ _ _,_,⟨_,_,_,h,_⟩=>by cases h
  | .pel _ _ _,_,hc=>hc
  | .par _ _,_,hc=>hc
  | .sl _,_,⟨_,_,_,h,_⟩=>by cases h
  | .lst _ _ _,_,hc=>hc
  | .fn _ _,_,⟨vs,h1,h2⟩=>⟨vs,h1,ptrs.any h2⟩
  | .mref _,_,⟨_,h,_⟩=>by cases h
  | .bfn _ _,_,⟨_,h,_⟩=>by cases h
theorem CsR.any:∀ {c:List SC} {v:List Value},CsR (fun _=>.no) B w c v→CsR env B w c v
  | [],_,hc=>hc
  | _ :: _,_,⟨v,r,e,h1,h2⟩=>⟨v,r,e,h1.any,h2.any⟩
theorem SaR.any:∀ {c:SA} {v:Value},SaR (fun _=>.no) B w c v→SaR env B w c v
  | .c _,_,hc=>CR.any hc
  | .agg _,_,⟨vs,e,h1⟩=>⟨vs,e,h1.any⟩
  | .arr _ _,_,h=>h
theorem SasR.any:∀ {c:List SA} {v:List Value},SasR (fun _=>.no) B w c v→SasR env B w c v
  | [],_,hc=>hc
  | _ :: _,_,⟨v,r,e,h1,h2⟩=>⟨v,r,e,h1.any,h2.any⟩
end
/-! ### Slots: parameters and moves -/
structure Has (n:Nat) (env:Nat→Loc) (B:Nat→Prop) (w:World) (L:Sl) (tmps:Array Value):Prop where
  size:tmps.size=n
  has:∀ s sv,lk L s=some sv→∃ v,tmps[s]?=some v∧VR env B w sv v
def parL:List Nat→List SA→Sl→Sl
  | p :: ps,x :: xs,L=>parL ps xs ((p,.a x) :: L)
  | _,_,L=>L
def mvS:List (Nat×Nat)→Sl→Sl
  | [],L=>L
  | (d,s) :: r,L=>match lk L s with
    | some v=>mvS r ((d,v) :: L)
    | none=>mvS r ((d,.a (.c .dead)) :: L)
def mvT:List (Nat×Nat)→Array Value→Array Value
  | [],t=>t
  | (d,s) :: r,t=>mvT r (t.setIfInBounds d (t.getD s undef))
def allLt (n:Nat):List Nat→Bool
  | []=>true
  | p :: r=>Nat.blt p n&&allLt n r
section
variable {n:Nat} {env:Nat→Loc} {B:Nat→Prop} {w:World} {L:Sl} {tmps:Array Value}
theorem Has.set (h:Has n env B w L tmps) {d:Nat} (hd:d < n) {sv:SV} {v:Value} (hv:VR env B w sv v):Has n env B w ((d,sv) :: L) (tmps.setIfInBounds d v):=by
  refine ⟨by simpa using h.size,fun s u hu=>?_⟩;rw [qa] at hu
  split at hu
  · rename_i e
    subst e;cases hu;exact ⟨v,by rw [Array.getElem?_setIfInBounds_self_of_lt (by rw [h.size]; exact hd)],hv⟩
  · rename_i e
    obtain ⟨u',h1,h2⟩:=h.has s u hu;exact ⟨u',by rw [Array.getElem?_setIfInBounds_ne (fun e'=>e e'.symm)]; exact h1,h2⟩
theorem Has.par:∀ {ps:List Nat} {xs:List SA} {vs:List Value} {L:Sl} {tmps:Array Value},Has n env B w L tmps→allLt n ps=true→SasR env B w xs vs→Has n env B w (parL ps xs L) ((ps.zip vs).foldl (fun t (p,v)=>t.setIfInBounds p v) tmps)
  | [],_,_,_,_,h,_,_=>by cases ‹List SA› <;> exact h
  | _ :: _,[],_,_,_,h,_,hx=>by rw [show _=[] from hx]; exact h
  | p :: ps,x :: xs,_,L,tmps,h,hp,⟨v,r,e,h1,h2⟩=>by
    subst e;simp only [allLt,Bool.and_eq_true] at hp;exact Has.par (ps:=ps) (xs:=xs) (vs:=r) (L:=(p,.a x) :: L) (tmps:=tmps.setIfInBounds p v) (h.set (zA hp.1) (sv:=.a x) h1) hp.2 h2
theorem Has.mv:∀ {ms:List (Nat×Nat)} {L:Sl} {tmps:Array Value},Has n env B w L tmps→allLt n (ms.map (·.1))=true→Has n env B w (mvS ms L) (mvT ms tmps)
  | [],_,_,h,_=>h
  | (d,s) :: r,L,tmps,h,hp=>by
    simp only [List.map_cons,allLt,Bool.and_eq_true] at hp;unfold mvS mvT
    split
    · rename_i v hv
      obtain ⟨u,h1,h2⟩:=h.has s v hv;refine Has.mv (h.set (zA hp.1) ?_) hp.2;rw [Array.getD_eq_getD_getElem?,h1];exact h2
    · exact Has.mv (h.set (zA hp.1) trivial) hp.2
end
def asgO (n:Nat):List Oper→Option (List (Nat×Nat))
  | []=>some []
  | o :: r=>match o.guard,o.dst,o.op,asgO n r with
    | none,some d,.assign (.tmp s),some l=>some ((d,s) :: l)
    | none,some d,.move (.tmp s),some l=>some ((d,s) :: l)
    | _,_,_,_=>none
inductive Asg (n:Nat):Code→List (Nat×Nat)→Prop where
  | region {id:Nat} {ops:List Oper} {ms:List (Nat×Nat)} (h:asgO n ops=some ms):Asg n (.region id ops.toArray false) ms
  | skip:Asg n .skip []
theorem asgO_ok {P:Program} {n l:Nat} {ops:Array Oper} {Q:Exit→Act→World→Prop} {w:World}:∀ {os:List Oper} {ms:List (Nat×Nat)} {a:Act},asgO n os=some ms→Q .normal { a with tmps:=mvT ms a.tmps } w→XL (some l) P ops Q os a w
  | [],ms,a,h,hq=>by cases h; exact x_end hq
  | o :: os,ms,a,h,hq=>by
    have key:∀ d s,o.guard=none→o.dst=some d→(o.op=.assign (.tmp s)∨o.op=.move (.tmp s))→∀ l',asgO n os=some l'→ms=(d,s) :: l'→XL (some l) P ops Q (o :: os) a w:=by
      intro d s hg hd hop l' hl hms;subst hms;refine qE (.inl ⟨by simp [Region.wanted,hg],.inl ⟨a.eval (.tmp s),w,?_,asgO_ok hl ?_⟩⟩)
      · rcases hop with hop | hop <;> simp [execOp,hop]
      · rw [hd]
        exact hq
    unfold asgO at h
    split at h
    · rename_i d s l' hg hd hop hl
      cases h;exact key d s hg hd (.inl hop) l' hl rfl
    · rename_i d s l' hg hd hop hl
      cases h;exact key d s hg hd (.inr hop) l' hl rfl
    · cases h
theorem Asg.ok {P:Program} {n l:Nat} {c:Code} {ms:List (Nat×Nat)} {Q:Exit→Act→World→Prop} {w:World} {a:Act} (h:Asg n c ms) (hq:Q .normal { a with tmps:=mvT ms a.tmps } w):XC (some l) P c Q a w:=by
  cases h with
  | region h=>exact c_region (asgO_ok h hq)
  | skip=>exact c_skip hq
end Go.Proofs.YtihcolehefloeaaDoor

/- Ranges over functions: the rule. -/
namespace Go.Proofs.YtihcolehefloeaaDoor
open Go.RowKit
def AIt {α:Type} (X:Cx) (gf:FuncId) (caps:List Cap) (sas:α→List SA) (S Sp:List α→Prop) (N:Nat):Prop:=
  ∀ (B:Nat→Prop) (w:World) (lb:List Value),(∀ k,B k→k < w.heap.size)→GlobOk X B w→ptrs (fun _=>.no) B w caps lb→∃ encs:α→Array Value,(∀ x,SasR (fun _=>.no) B w (sas x) (encs x).toList)∧SeqStopsK Fence.wide 1 X.P gf lb.toArray encs (KO B) S Sp N w
def noSit:Hp→Bool
  | []=>true
  | (_,.sit _ _) :: _=>false
  | (_,.mp _ _ _ _) :: _=>false
  | (_,.it _ _ _ _) :: _=>false
  | (_,.junk) :: _=>false
  | _ :: r=>noSit r
theorem HR.isC {env:Nat→Loc} {B:Nat→Prop} {w:World}:∀ {l:Hp} {H:List Ck},noSit l=true→HR env B w l H→∀ c∈H,c.isC=true
  | [],_,_,h,c,hc=>by rw [show _=[] from h] at hc; cases hc
  | (_,.sit _ _) :: _,_,h,_,_,_=>by cases h
  | (_,.mp _ _ _ _) :: _,_,h,_,_,_=>by cases h
  | (_,.it _ _ _ _) :: _,_,h,_,_,_=>by cases h
  | (_,.junk) :: _,_,h,_,_,_=>by cases h
  | (_,.cells _ _) :: r,_,hn,⟨c0,H',e,⟨b,vs,_,h1,_⟩,h2⟩,c,hc=>by
    subst e
    rcases List.mem_cons.1 hc with hc | hc
    · subst hc; rw [h1]; rfl
    · exact HR.isC (by simpa [noSit] using hn) h2 c hc
  | (_,.row _ _ _ _) :: r,_,hn,⟨c0,H',e,⟨A,k,xs,_,h1,_⟩,h2⟩,c,hc=>by
    subst e
    rcases List.mem_cons.1 hc with hc | hc
    · subst hc; rw [h1]; rfl
    · exact HR.isC (by simpa [noSit] using hn) h2 c hc
  | (_,.hrow _ _ _ _ _ _) :: r,_,hn,⟨c0,H',e,⟨A,k,ys,A',c',m,_,h1,_⟩,h2⟩,c,hc=>by
    subst e
    rcases List.mem_cons.1 hc with hc | hc
    · subst hc; rw [h1]; rfl
    · exact HR.isC (by simpa [noSit] using hn) h2 c hc
  | (_,.rjunk) :: r,_,hn,⟨c0,H',e,⟨A,k,n,t,s,m,xs,_,h1⟩,h2⟩,c,hc=>by
    subst e
    rcases List.mem_cons.1 hc with hc | hc
    · subst hc; rw [h1]; rfl
    · exact HR.isC (by simpa [noSit] using hn) h2 c hc
  | (_,.lrow _ _ _) :: r,_,hn,⟨c0,H',e,⟨A,k,_,h1⟩,h2⟩,c,hc=>by
    subst e
    rcases List.mem_cons.1 hc with hc | hc
    · subst hc
      rcases h1 with ⟨_,h1,_⟩ | ⟨h1,_⟩
      · rw [h1]; rfl
      · rw [h1]; rfl
    · exact HR.isC (by simpa [noSit] using hn) h2 c hc
def exitC:Exit→Option Code
  | .ret=>some .ret
  | .exit id=>some (.exit id)
  | _=>none
def exitB:Exit→Bool
  | .normal=>true
  | .ret=>true
  | .exit _=>true
  | _=>false
section
variable {X:Cx} {R:Nat→Prop} {W:World} {Bi:Bk} {n:Nat} {ks:List Nat} {env:Nat→Loc} {B:Nat→Prop} {w0:World} {H:List Ck} {st:ASt} {a:Act} {w:World}
def pinsOf (n:Nat) (env:Nat→Loc):Nat→Loc→Prop:=fun id l=>n≤id∧env id=l∧((∃ b,l=.blk b)∨qZ≤id)
theorem AI.rebase (h:AI X R W Bi n ks env B w0 H st a w):AI X (fun k=>R k∨B k) w ⟨B,pinsOf n env⟩ n ks env B w H st a w:=by
  have hup:Up B w0 B w:=⟨fun _ h=>h,fun k hk=>h.sh.below.block k (.inr hk)⟩
  refine ⟨h.size,h.defs,fun s sv hs=>?_,h.heap.up hup,?_,fun _ h=>h,fun _ h=>.inl h,fun _ _ h=>h,KO.refl _ _,fun i x hx=>(h.glob i x hx).up hup⟩
  · obtain ⟨v,h1,h2⟩:=h.has s sv hs
    exact ⟨v,h1,h2.up hup⟩
  · exact ⟨KO.refl _ _,fun k hk=>h.sh.base k (hk.elim (fun h=>h) .inr),fun c hc=>(h.sh.ok c hc).base fun b hb hk=>((h.sh.ok c hc).lt hb).1 (hk.elim (fun h=>h) .inr),h.sh.apart⟩
theorem AI.unbase {env':Nat→Loc} {B':Nat→Prop} {w0':World} {H':List Ck} {st':ASt} {a':Act} {w':World} {ks':List Nat} (h:AI X R W Bi n ks env B w0 H st a w) (h':AI X (fun k=>R k∨B k) w ⟨B,pinsOf n env⟩ n ks' env' B' w0' H' st' a' w'):AI X R W Bi n ks' env' B' w0' H' st' a' w':=by
  refine ⟨h'.size,h'.defs,h'.has,h'.heap,?_,fun k hk=>h'.sub k (h.sub k hk),fun k hk=>?_,fun id l hp=>?_,?_,h'.glob⟩
  · exact ⟨⟨h'.sh.below.os,h'.sh.below.tape,h'.sh.below.output,h'.sh.below.size,fun k hk=>h'.sh.below.block k (hk.imp .inl id)⟩,fun k hk=>h'.sh.base k (hk.imp .inl id),fun c hc=>(h'.sh.ok c hc).base fun b hb hk=>((h'.sh.ok c hc).lt hb).1 (hk.imp .inl id),h'.sh.apart⟩
  · have hKO:∀ q,B q→w0'.heap[q]?=w0.heap[q]?:=fun q hq=>(h'.base.block q (.inr hq)).trans (h.sh.below.block q (.inr hq))
    rcases h'.new k hk with h1 | h1
    · exact (h.new k h1).imp_right fun h2=>⟨h2.1,h2.2.keep (hKO k h1)⟩
    · exact .inr ⟨fun hR=>h1.1 (.inl hR),h1.2⟩
  · obtain ⟨h1,h2,h3⟩:=h.pin id l hp
    exact ⟨h1,(h'.pin id l ⟨h1,h2,h3⟩).2.1,h3⟩
  · exact h.base.trans ⟨h.sh.below.os.symm ▸ h'.base.os,h.sh.below.tape ▸ h'.base.tape,h.sh.below.output ▸ h'.base.output,Nat.le_trans h.sh.below.size h'.base.size,fun k hk=>(h'.base.block k (.inl hk)).trans (h.sh.below.block k (.inl hk))⟩
theorem AI.turn {W':World} {row:Option Nat} (h:AI X R W Bi n ks env B w0 H st a w) {N:Nat} (hR:∀ k,R k→k < N) (hB:∀ k,Bi.b k→k < N) (hs:noSit st.H=true) (hks:∀ k∈ks,k < N) (hg:w.grownBy W' row) (hr:∀ r,row=some r→N≤r∧∃ o:Obj,w.heap[r]?=some o∧o.isCells=false):AI X R W Bi n ks env B w0 H st a W':=by
  have hC:=h.heap.isC hs;have hcell:∀ k,IsC w k→row≠some k:=fun k ⟨cs,t,fr,hk⟩ e=>by
    obtain ⟨_,o,ho,hc⟩:=hr k e;rw [hk] at ho;cases ho;cases hc
  have hbase:∀ k,R k∨B k→row≠some k:=fun k hk e=>by
    have hN:=(hr k e).1
    rcases hk with hk | hk
    · have:=hR k hk; omega
    · rcases h.new k hk with h1 | h1
      · have:=hB k h1; omega
      · exact hcell k (h1.2.keep (h.sh.below.block k (.inr hk))) e
  refine ⟨h.size,h.defs,h.has,h.heap,⟨h.sh.below.trans ⟨hg.os,hg.tape,hg.output,hg.size,fun k hk=>hg.block k (h.sh.base k hk) (fun e=>hbase k hk e.symm)⟩,fun k hk=>Nat.lt_of_lt_of_le (h.sh.base k hk) hg.size,fun c hm=>(h.sh.ok c hm).keep fun b e=>hg.block b ((h.sh.ok c hm).lt e).2 (fun e'=>?_),h.sh.apart⟩,h.sub,h.new,h.pin,h.base,h.glob⟩
  rcases List.mem_append.1 hm with hm' | hm'
  · exact hcell b ((h.sh.ok c hm).cells (hC c hm') e) e'.symm
  · obtain ⟨k,hk,rfl⟩:=List.mem_map.1 hm'
    have h1:=hks k hk;have h2:=(hr b e'.symm).1
    have:k=b:=Option.some.inj e
    omega
theorem AI.round (h:AI X R W Bi n ks env B w0 H st a w) {L':Sl} {t:Array Value} (hL:Has n env B w L' t):AI X (Rest w H) w ⟨B,pinsOf n env⟩ n [] env B w H ⟨L',st.H⟩ { tmps:=t,defers:=[] } w:=by
  have hup:Up B w0 B w:=⟨fun _ h=>h,fun k hk=>h.sh.below.block k (.inr hk)⟩
  have hs:SH (fun k=>R k∨B k) w0 H w:=h.sh.weak (List.sublist_append_left _ _);refine ⟨hL.size,rfl,hL.has,h.heap.up hup,?_,fun _ h=>h,fun _ h=>.inl h,fun _ _ h=>h,KO.refl _ _,fun i x hx=>(h.glob i x hx).up hup⟩;have h1:=hs.rest;simp only [List.map_nil,List.append_nil];exact ⟨KO.refl _ _,fun k hk=>hk.elim (fun h=>h.1) (fun h=>hs.base k (.inr h)),fun c hc=>(h1.ok c hc).base fun b hb hk=>hk.elim (fun h=>((h1.ok c hc).lt hb).1 h) (fun h=>((hs.ok c hc).lt hb).1 (.inr h)),h1.apart⟩
theorem AI.rounded {env':Nat→Loc} {B':Nat→Prop} {w0':World} {H':List Ck} {st':ASt} {a':Act} {w':World} (h:AI X R W Bi n ks env B w0 H st a w) (h':AI X (Rest w H) w ⟨B,pinsOf n env⟩ n [] env' B' w0' H' st' a' w') {L:Sl} (hL:∀ s sv,lk L s=some sv→∃ v,a.tmps[s]?=some v∧VR env' B' w0' sv v):AI X R W Bi n ks env' B' w0' H' ⟨L,st'.H⟩ a w':=by
  have hs:SH (fun k=>R k∨B k) w0 H w:=h.sh.weak (List.sublist_append_left _ _);have hRest:∀ k,R k∨B k→Rest w H k:=fun k hk=>⟨hs.base k hk,fun c hc e=>((hs.ok c hc).lt e).1 hk⟩
  have hup:Up B w0 B' w0':=⟨h'.sub,fun k hk=>(h'.base.block k (hRest k (.inr hk))).trans (h.sh.below.block k (.inr hk))⟩
  have hsh:=h'.sh;simp only [List.map_nil,List.append_nil] at hsh;have hf:SH (Rest w H) w H' w':=⟨h'.base.trans ⟨hsh.below.os,hsh.below.tape,hsh.below.output,hsh.below.size,fun k hk=>hsh.below.block k (.inl hk)⟩,fun k hk=>hsh.base k (.inl hk),fun c hc=>(hsh.ok c hc).base fun b hb hk=>((hsh.ok c hc).lt hb).1 (.inl hk),hsh.apart⟩
  have hfr:=h.sh.frame hf;have hpart:=List.pairwise_append.1 h.sh.apart;refine ⟨h.size,h.defs,hL,h'.heap,⟨⟨hsh.below.os,hsh.below.tape,hsh.below.output,hsh.below.size,fun k hk=>hsh.below.block k (hk.imp (fun h=>hRest k (.inl h)) id)⟩,fun k hk=>hsh.base k (hk.imp (fun h=>hRest k (.inl h)) id),fun c hc=>(hfr.ok c hc).base fun b hb hk=>?_,hfr.apart⟩,fun k hk=>h'.sub k (h.sub k hk),fun k hk=>?_,fun id l hp=>?_,?_,fun i x hx=>(h.glob i x hx).up hup⟩
  · rcases hk with hk | hk
    · exact ((hfr.ok c hc).lt hb).1 (.inl hk)
    · rcases List.mem_append.1 hc with hc' | hc'
      · exact ((hsh.ok c hc').lt hb).1 (.inr hk)
      · rcases h'.new b hk with h1 | h1
        · exact ((hfr.ok c hc).lt hb).1 (.inr h1)
        · exact h1.1 ⟨((h.sh.ok c (List.mem_append_right _ hc')).lt hb).2,fun c' hc'' e=>hpart.2.2 c' hc'' c hc' b e hb⟩
  · rcases h'.new k hk with h1 | h1
    · exact (h.new k h1).imp_right fun h2=>⟨h2.1,h2.2.keep (hup.2 k h1)⟩
    · exact .inr ⟨fun hR=>h1.1 (hRest k (.inl hR)),h1.2⟩
  · obtain ⟨h1,h2,h3⟩:=h.pin id l hp
    exact ⟨h1,(h'.pin id l ⟨h1,h2,h3⟩).2.1,h3⟩
  · exact h.base.trans ⟨h'.base.os.trans h.sh.below.os,h'.base.tape.trans h.sh.below.tape,h'.base.output.trans h.sh.below.output,Nat.le_trans h.sh.below.size h'.base.size,fun k hk=>(h'.base.block k (hRest k (.inl hk))).trans (h.sh.below.block k (.inl hk))⟩
end
theorem ax_range {α β:Type} {X:Cx} {n:Nat} {st:ASt} {Q:Exit→ASt→Prop} {g:Operand} {pl:List Nat} {assign body:Code} {gf:FuncId} {fn:Func} {caps:List Cap} {sas:α→List SA} {S Sp:List α→Prop} {N:Nat} {b:Bool} {ms:List (Nat×Nat)}
    (hg : ae X st.L g = some (b, .c (.fn gf caps))) (hb : b = true) (hfz : capsFz caps = true) (hfn : X.P.funcs[gf]? = some fn) (hnm : (fn.name == "runtime.NumGoroutine") = false) (hbd : fn.body.isNone = false) (hit : AIt X gf caps sas S Sp N) (hlen : ∀ x, (sas x).length = pl.length) (hpl : allLt n pl = true) (hasg : Asg n assign ms) (hms : allLt n (ms.map (·.1)) = true) (hn : Nat.ble n qZ = true)
    (Hv:Exit→List α→β→Hp) (φ:Exit→List α→β→Prop) (hns:∀ e xs y,noSit (Hv e xs y)=true) (y0:β) (h0:φ .normal [] y0) (hH:st.H=Hv .normal [] y0)
    (hbody:∀ l pre x y,φ .normal pre y→pre.length < N→AX X false n (some l) body ⟨mvS ms (parL pl (sas x) (reL (pinRe n) st.L)),Hv .normal pre y⟩ (fun e s=>exitB e=true∧∃ y',φ e (pre++[x]) y'∧∃ L',Wk X n s ⟨L',Hv e (pre++[x]) y'⟩))
    (hdone:∀ xs y,S xs→φ .normal xs y→Q .normal ⟨reL (pinRe n) st.L,Hv .normal xs y⟩)
    (hstop:∀ e c xs y,exitC e=some c→Sp xs→φ e xs y→Q e ⟨reL (pinRe n) st.L,Hv e xs y⟩):AX X true n none (.rangeFunc g pl.toArray assign body) st Q:=by
  rintro R W Bi a w ⟨ks,env,B,w0,H,hM,hA⟩;obtain ⟨gv,hg1,lb,rfl,hg2⟩:=hA.ev hg hb;have hA0:=hA.rebase;have hupw:Up B w0 B w:=⟨fun _ h=>h,fun k hk=>hA.sh.below.block k (.inr hk)⟩
  obtain ⟨encs,henc,hseq⟩:=hit B w lb (fun k hk=>hA.sh.base k (.inr hk)) (fun i x hx=>(hA.glob i x hx).up hupw) ((hg2.up hupw).fzAny hfz);have hRN:∀ k,R k∨B k→k < w.heap.size:=fun k hk=>hA.sh.base k hk
  have hksN:∀ k∈ks,k < w.heap.size:=fun k hk=>((hA.sh.ok (mkO k) (List.mem_append_right _ (List.mem_map.2 ⟨k,hk,rfl⟩))).lt rfl).2
  have hn':=Nat.le_of_ble_eq_true hn
  let I:Exit→List α→World→Prop:=fun e xs W'=>∃ y,φ e xs y∧∃ env' B' w0' H',AI X (fun k=>R k∨B k) w ⟨B,pinsOf n env⟩ n ks env' B' w0' H' ⟨reL (pinRe n) st.L,Hv e xs y⟩ a W'
  have hown:∀ e,OwnFrom w.heap.size (I e):=by
    rintro e xs W1 W2 row ⟨y,hy,env',B',w0',H',h1⟩ hgr hrow;exact ⟨y,hy,env',B',w0',H',h1.turn hRN (fun k hk=>hRN k (.inr hk)) (hns e xs y) hksN hgr hrow⟩
  -- the slots of the function itself, whenever
  have hLp:∀ {B':Nat→Prop} {w0':World} {env':Nat→Loc},(∀ k,B k→B' k)→(∀ k,B k→w0'.heap[k]?=w.heap[k]?)→(∀ id l,pinsOf n env id l→env' id=l)→∀ s sv,lk (reL (pinRe n) st.L) s=some sv→∃ v,a.tmps[s]?=some v∧VR env' B' w0' sv v:=by
    intro B' w0' env' hB hw he s sv hs;obtain ⟨u,h1,rfl⟩:=lk_reL hs;obtain ⟨v,h2,h3⟩:=hA0.has s u h1;exact ⟨v,h2,VR.re (pinRe_ok (fun id l h4 h5 h6=>he id l ⟨h4,h5,h6⟩) hn') (h3.up ⟨hB,hw⟩)⟩
  have hback:∀ {e:Exit} {xs:List α} {W1:World} (k:Nat),w.heap.size≤k→W1.heap[k]?=some (.deferred (some []))→I e xs W1→∃ y,φ e xs y∧AR X R W Bi true n ⟨reL (pinRe n) st.L,Hv e xs y⟩ { a with defers:={ target:=.collected k,args:=#[] } :: a.defers } W1:=by
    rintro e xs W1 k hk hd ⟨y,hy,env',B',w0',H',h1⟩;refine ⟨y,hy,k :: ks,env',B',w0',H',⟨(fun h=>by cases h),hM.2⟩,hA.unbase ?_⟩;have hC:=h1.heap.isC (hns e xs y);have hperm:(mkO k :: (H'++ks.map mkO)).Perm (H'++(k :: ks).map mkO):=by
      rw [List.map_cons];exact List.perm_middle.symm
    have hnot:∀ q,q=k→¬ ((R q∨B q)∨B' q):=by
      rintro q rfl hq;have hcase:(R q∨B q)∨IsC w0' q∧B' q:=hq.elim .inl fun h=>(h1.new q h).elim (fun h=>.inl (.inr h)) fun h'=>.inr ⟨h'.2,h⟩
      rcases hcase with h2 | ⟨h2,h3⟩
      · have:=hRN q h2; omega
      · obtain ⟨cs,t,fr,h4⟩:=h2.keep (h1.sh.below.block q (.inr h3))
        rw [hd] at h4;cases h4
    have hsh:SH (fun q=>(R q∨B q)∨B' q) w0' (mkO k :: (H'++ks.map mkO)) W1:=by
      refine ⟨h1.sh.below,h1.sh.base,fun c hc=>?_,List.Pairwise.cons (fun c hc q e1 e2=>?_) h1.sh.apart⟩
      · rcases List.mem_cons.1 hc with rfl | hc
        · exact ⟨hnot k rfl,hd⟩
        · exact h1.sh.ok c hc
      · have:k=q:=Option.some.inj e1
        subst this
        rcases List.mem_append.1 hc with hc' | hc'
        · obtain ⟨cs,t,fr,hh⟩:=(h1.sh.ok c hc).cells (hC c hc') e2
          rw [hd] at hh;cases hh
        · obtain ⟨k',hk',rfl⟩:=List.mem_map.1 hc'
          have h2:=hksN k' hk'
          have:k'=k:=Option.some.inj e2
          omega
    refine ⟨h1.size,by rw [List.map_cons,← h1.defs]; rfl,h1.has,h1.heap,hsh.perm hperm,h1.sub,h1.new,h1.pin,h1.base,h1.glob⟩
  have hup:∀ (c:Code) (m:Nat) (Q:Exit→Act→World→Prop) a w,c.wpIn Fence.wide m X.P Q a w ↔ c.wpIn Fence.wide 0 X.P Q a w:=fun c m Q a w=>wpIn_wide.trans wpIn_wide.symm
  refine (hup _ 2 _ _ _).1 ?_;have hpar:∀ x,(pl.toArray.zip (encs x)).foldl (fun t (p,v)=>t.setIfInBounds p v) a.tmps=(pl.zip (encs x).toList).foldl (fun t (p,v)=>t.setIfInBounds p v) a.tmps:=fun x=>by
    rw [← Array.foldl_toList,Array.toList_zip]
  refine wpIn_rangeFunc_ownH (F:=Fence.wide) (n:=2) rfl (by omega) (gf:=gf) (lb:=lb.toArray) (hA.stt.ev hg1) trivial (fun args w=>run_callFunc hfn hnm hbd) hseq (fun h k=>h.trans k) ?_ (Below.refl _ _) (fun x=>by have:=(henc x).length; rw [hlen x] at this; simpa using this)
    (I .normal) (fun c xs W'=>∃ e,exitC e=some c∧I e xs W') (hown .normal) ?_ ?_
    (fun x a' _=>a'={ tmps:=mvT ms ((pl.zip (encs x).toList).foldl (fun t (p,v)=>t.setIfInBounds p v) a.tmps),defers:=[] }) (fun _ _ _ _ _ _ hs _ _=>hs) ?_ ?_ ?_ ?_
  · intro W1 l o o' hl hh _ _
    exact ⟨rfl,rfl,rfl,by simp,fun k hk=>World.putObj_heap_other (fun e=>by subst e; have:=hRN _ (.inr hk); omega)⟩
  · rintro c xs W1 W2 row ⟨e,he,hI⟩ hgr hrow
    exact ⟨e,he,hown e xs W1 W2 row hI hgr hrow⟩
  · refine ⟨y0,h0,env,B,w,H,hA0.size,hA0.defs,hLp (fun _ h=>h) (fun _ _=>rfl) (fun _ _ h=>h.2.1),?_,hA0.sh,hA0.sub,hA0.new,hA0.pin,hA0.base,hA0.glob⟩
    show HR env B w (Hv .normal [] y0) H;rw [← hH];exact hA0.heap
  · intro l pre x W1 K hI hK
    rw [hpar];refine Asg.ok (l:=l) hasg (hK _ _ (KeepsFrom.refl _ _) (KO.refl _ _) hI rfl)
  · rintro l pre x a' W1 _ _ ⟨y,hy,env1,B1,w1,H1,h1⟩ rfl hlt
    have hs1:SH (fun k=>(R k∨B k)∨B1 k) w1 H1 W1:=h1.sh.weak (List.sublist_append_left _ _);have hup1:Up B1 w1 B1 W1:=⟨fun _ h=>h,fun k hk=>h1.sh.below.block k (.inr hk)⟩
    have hB1:∀ k,B k→W1.heap[k]?=w.heap[k]?:=fun k hk=>(h1.sh.below.block k (.inl (.inr hk))).trans (h1.base.block k (.inr hk))
    have hasL:Has n env1 B1 W1 (reL (pinRe n) st.L) a.tmps:=⟨hA.size,fun s sv hs=>by
      obtain ⟨v,h2,h3⟩:=h1.has s sv hs;exact ⟨v,h2,h3.up hup1⟩⟩
    have hr:=h1.round (Has.mv (Has.par hasL hpl ((henc x).any.up ⟨fun k hk=>h1.sub k hk,hB1⟩)) hms);refine wpIn_mono (hbody l pre x y hy hlt _ _ _ _ _ ⟨[],env1,B1,W1,H1,⟨fun _=>rfl,fun h=>by cases h⟩,hr⟩) ?_;rintro e a3 W3 ⟨s,⟨hex,y',hy',L',hw⟩,h2⟩;obtain ⟨ks3,env3,B3,w3,H3,hM3,h3⟩:=hw _ _ _ _ _ _ h2
    have:=hM3.1 rfl
    subst this;have hRest:∀ k,(R k∨B k)∨B1 k→Rest W1 H1 k:=fun k hk=>⟨hs1.base k hk,fun c hc e=>((hs1.ok c hc).lt e).1 hk⟩
    have hsame:∀ k,Rest W1 H1 k→W3.heap[k]?=W1.heap[k]?:=fun k hk=>(h3.sh.below.block k (.inl hk)).trans (h3.base.block k hk)
    have h4:=h1.rounded h3 (L:=reL (pinRe n) st.L) (hLp (fun k hk=>h3.sub k (h1.sub k hk)) (fun k hk=>(h3.base.block k (hRest k (.inl (.inr hk)))).trans (hB1 k hk)) (fun id l hp=>(h3.pin id l ⟨(h1.pin id l hp).1,(h1.pin id l hp).2.1,(h1.pin id l hp).2.2⟩).2.1));have hI:I e (pre++[x]) W3:=⟨y',hy',env3,B3,w3,H3,h4⟩
    have hC:=h1.heap.isC (hns .normal pre y);have hKF:KeepsFrom w.heap.size W1 W3:=⟨Nat.le_trans h3.base.size h3.sh.below.size,fun k o _ hk ho=>(hsame k ⟨(Array.getElem?_eq_some_iff.1 hk).1,fun c hm e=>by
      obtain ⟨cs,t,fr,hh⟩:=(hs1.ok c hm).cells (hC c hm) e;rw [hh] at hk;cases hk;cases ho⟩).trans hk⟩
    cases e with
    | normal=>exact ⟨hKF,⟨h3.sh.below.os.trans h3.base.os,h3.sh.below.tape.trans h3.base.tape,h3.sh.below.output.trans h3.base.output,Nat.le_trans h3.base.size h3.sh.below.size,fun k hk=>hsame k (hRest k (.inl (.inr hk)))⟩,hI⟩
    | ret=>exact ⟨hKF,.ret,rfl,hI⟩
    | exit id=>exact ⟨hKF,.exit id,rfl,hI⟩
    | goto t=>cases hex
    | panic c=>cases hex
    | outgrown=>cases hex
  · rintro k xs W1 hk hS hI hd
    obtain ⟨y,hy,hAR⟩:=hback k hk hd hI;exact ⟨_,hdone xs y hS hy,hAR⟩
  · rintro k c xs W1 hk hS ⟨e,he,hI⟩ hd
    obtain ⟨y,hy,hAR⟩:=hback k hk hd hI;have hq:=hstop e c xs y he hS hy;cases e with
    | ret=>cases he; exact wpIn_ret ⟨_,hq,hAR⟩
    | exit id=>cases he; exact (hup _ 2 _ _ _).2 (c_exit ⟨_,hq,hAR⟩)
    | normal=>cases he
    | goto t=>cases he
    | panic c=>cases he
    | outgrown=>cases he
end Go.Proofs.YtihcolehefloeaaDoor

/- Iterators. -/
namespace Go.Proofs.YtihcolehefloeaaDoor
open Go.RowKit
section
variable {X:Cx} {R:Nat→Prop} {W:World} {Bi:Bk} {n:Nat} {ks:List Nat} {B:Nat→Prop} {w0:World} {r:Option Nat} {ops:List Oper} {Q:Exit→Act→World→Prop}
theorem xl_upto (hX:X.tt.ok X.P):∀ {l rest:List Oper} {c c':Bool} {st st':ASt} {env:Nat→Loc} {H:List Ck} {a:Act} {w:World},arun X n (xH ops) l c st=.stop c' st' rest→c'=true→AI X R W Bi n ks env B w0 H st a w →
    (∀ env' H' a' w',AI X R W Bi n ks env' B w0 H' st' a' w'→XL r X.P ops.toArray Q rest a' w')→XL r X.P ops.toArray Q l a w
  | [],_,_,_,_,_,_,_,_,_,h,_,_,_=>by cases h
  | o :: l,rest,c,c',st,st',env,H,a,w,h,hc,hA,hK=>by
    simp only [arun] at h
    split at h
    · rename_i c2 st2 hs
      have h2:=arun_c' h hc;simp only [Bool.and_eq_true] at h2;exact qE (yB hX hs h2.2 hA fun a' w' env' H' _ hA'=>xl_upto hX h hc hA' hK)
    · cases h
      exact hK _ _ _ _ hA
theorem xl_run (hX:X.tt.ok X.P):∀ {l:List Oper} {c c':Bool} {st st':ASt} {env:Nat→Loc} {H:List Ck} {a:Act} {w:World},arun X n (xH ops) l c st=.done c' st'→c'=true→AI X R W Bi n ks env B w0 H st a w →
    (∀ env' H' a' w',AI X R W Bi n ks env' B w0 H' st' a' w'→Q .normal a' w')→XL r X.P ops.toArray Q l a w
  | [],_,_,_,_,_,_,_,_,h,_,hA,hK=>by
    cases h;exact x_end (hK _ _ _ _ hA)
  | o :: l,c,c',st,st',env,H,a,w,h,hc,hA,hK=>by
    simp only [arun] at h
    split at h
    · rename_i c2 st2 hs
      have h2:=arun_c h hc;simp only [Bool.and_eq_true] at h2;exact qE (yB hX hs h2.2 hA fun a' w' env' H' _ hA'=>xl_run hX h hc hA' hK)
    · cases h
end
def AJ (X:Cx) (B:Nat→Prop) (n:Nat) (L:Sl) (w1:World) (a:Act) (w:World):Prop:=
  ∃ env H,AI X (fun k=>k < w1.heap.size) w1 ⟨B,fun _ _=>False⟩ n [] env B w1 H ⟨L,[]⟩ a w
section
variable {X:Cx} {B:Nat→Prop} {n:Nat} {L L':Sl} {w1:World} {a:Act} {w:World} {Q:Exit→Act→World→Prop}
theorem AJ.grown (h:AJ X B n L w1 a w):w1.grownBy w none:=by
  obtain ⟨env,H,h⟩:=h;exact ⟨h.sh.below.os,h.sh.below.tape,h.sh.below.output,h.sh.below.size,fun k hk _=>h.sh.below.block k (.inl hk)⟩
theorem AJ.weak (h:AJ X B n L w1 a w) (hs:SubL L L'):AJ X B n L' w1 a w:=by
  obtain ⟨env,H,h⟩:=h;obtain ⟨H',h'⟩:=h.weak (st':=⟨L',[]⟩) hs (by constructor);exact ⟨env,H',h'⟩
theorem aj_region (hX:X.tt.ok X.P) {l:List Oper} {id:Nat} {c:Bool} (hr:arun X n (xH l) l true ⟨L,[]⟩=.done c ⟨L',[]⟩) (hc:c=true) (h:AJ X B n L w1 a w) (hK:∀ a' w',AJ X B n L' w1 a' w'→Q .normal a' w'):XC none X.P (.region id l.toArray false) Q a w:=by
  obtain ⟨env,H,h⟩:=h;exact c_region (xl_run hX hr hc h fun env' H' a' w' h'=>hK a' w' ⟨env',H',h'⟩)
theorem aj_cond {c1 c2:Code} {x:Operand} {b:Bool} (h:AJ X B n L w1 a w) (hx:ae X L x=some (true,.c (.val (.bool b)))) (h1:b=true→XC none X.P c1 Q a w) (h0:b=false→XC none X.P c2 Q a w):XC none X.P (.cond x c1 c2) Q a w:=by
  obtain ⟨env,H,h⟩:=h;obtain ⟨v,h2,h3⟩:=h.ev hx rfl;rw [show v=_ from h3] at h2;exact c_cond h.sym h2 h1 h0
theorem AJ.again (h:AJ X B n L w1 a w) {d:Nat} (hd:Nat.blt d n=true) {v:Value} {w2:World} (hK:KO B w w2):AJ X B n ((d,.c (.val v)) :: L) w2 (a.put (some d) v) w2:=by
  obtain ⟨env,H,h⟩:=h;have hS:=h.stt.put d v (zA hd);have hup:Up B w1 B w2:=⟨fun _ h=>h,fun k hk=>(hK.block k hk).trans (h.sh.below.block k (.inr hk))⟩
  refine ⟨env,[],hS.size,hS.defs,fun s sv hs=>?_,rfl,⟨KO.refl _ _,fun k hk=>hk.elim (fun h=>h) (fun hb=>Nat.lt_of_lt_of_le (h.sh.base k (.inr hb)) hK.size),(fun c hc=>by cases hc),List.Pairwise.nil⟩,fun _ h=>h,fun _ h=>.inl h,fun _ _ h=>h.elim,KO.refl _ _,fun i x hx=>(h.glob i x hx).up hup⟩;rw [qa] at hs
  split at hs
  · rename_i e; subst e; cases hs; exact ⟨v,hS.this,rfl⟩
  · rename_i e
    obtain ⟨u,h1,h2⟩:=h.has s sv hs;exact ⟨u,hS.other e h1,h2.up hup⟩
theorem evs_map {D:List Deferred} {M:List (Nat×Value)} (hS:St n D M a) {us:List Operand} {vs:List Value} (h:evs M us=some vs):us.toArray.map a.eval=vs.toArray:=by
  have:=hS.evs h
  simp [this]
theorem aj_yield (hX:X.tt.ok X.P) {l rest:List Oper} {o:Oper} {id d s la:Nat} {us:List Operand} {ts:Array TypeId} {c c2:Bool} {xs:List SA} {L2:Sl} {vs:List Value} {Rr:World→Ending→World→Prop}
    (hr:arun X n (xH l) l true ⟨L,[]⟩=.stop c ⟨L2,[]⟩ (o :: rest)) (hc:c=true) (h:AJ X B n L w1 a w)
    (hop:o.op=.call { callee:=.value (.tmp s),args:=us.toArray,argTypes:=ts }) (ho:o.guard=none∧o.dst=some d) (hs:lk L2 s=some (.c (.val (.func (.yield la) #[] #[])))) (hus:aes X L2 us=some (c2,xs)) (hc2:c2=true) (hv:∀ env' vs',SasR env' B w1 xs vs'→vs'=vs)
    (hY:∀ w',w1.grownBy w' none→YieldAt Fence.wide 0 X.P la vs.toArray w' (Rr w')) (hR:∀ w e w',Rr w e w'→∃ v,e=.returned v)
    (hK:∀ a' w' v w2,AJ X B n L2 w1 a' w'→Rr w' (.returned v) w2→XL none X.P l.toArray Q rest (a'.put (some d) v) w2):XC none X.P (.region id l.toArray false) Q a w:=by
  obtain ⟨env,H,h⟩:=h;refine c_region (xl_upto hX hr hc h fun env' H' a' w' h'=>?_);have hJ:AJ X B n L2 w1 a' w':=⟨env',H',h'⟩
  obtain ⟨vs',h1,h2⟩:=aes_ok h' hus hc2
  have:=hv _ _ h2
  subst this;obtain ⟨fv,h3,h4⟩:=h'.has _ _ hs;rw [show fv=_ from h4] at h3;obtain ⟨fn,tmps,assign,body,hy,hRound⟩:=hY w' hJ.grown;have hw:Region.wanted o (yielded l.toArray a'.tmps)=true:=by simp [Region.wanted,ho.1]
  show (if Region.wanted o (yielded l.toArray a'.tmps) then _ else _);rw [if_pos hw];refine ⟨fun _ _=>trivial,?_⟩;have hrun:(execOp a'.eval o).run X.P w'=.ok (.round la fn tmps assign body) w':=by
    have e1:=h'.stt.ev (x:=.tmp s) (zU h3);have e2:(us.toArray.map a'.eval)=vs'.toArray:=evs_map h'.stt h1;simp only [execOp,hop,resolve,e1]
    simp [Deferred.ofValue,invoke,e2,hy,go_sem]
  show Oper.uponIn _ _ _ _ _ _ _ ((o.semAt none a'.eval).run X.P w');rw [Oper.semAt_none,hrun];refine ⟨(fun h=>by cases h),RoundIn.mono hRound ?_⟩;intro e w2 hq;obtain ⟨v,rfl⟩:=hR w' e w2 hq
  have:=hK a' w' v w2 hJ hq
  rw [ho.2];exact this
end
theorem it_body {X:Cx} {n:Nat} {gf:FuncId} {fn:Func} {c:Code} {caps:List Cap} {B:Nat→Prop} {w W:World} {lb:List Value} {l:Nat} {Rr:Ending→World→Prop} (hf:X.P.funcs[gf]?=some fn) (hb:fn.body=some c) (hN:fn.ntmps=n) (hl:Nat.ble (ptrAs caps).length (n - 1)=true) (hn:Nat.blt 0 n=true)
    (hB:∀ k,B k→k < w.heap.size) (hg:GlobOk X B w) (hlb:ptrs (fun _=>.no) B w caps lb) (hW:Below w.heap.size w W)
    (h:∀ a,AJ X B n (argL 0 (.c (.val (.func (.yield l) #[] #[])) :: ptrAs caps)) W a W→XC none X.P c (bodyPost X.P fn Rr) a W):CallsIn Fence.wide 1 X.P gf (#[.func (.yield l) #[] #[]]++lb.toArray) W Rr:=by
  have hup:Up B w B W:=⟨fun _ h=>h,fun k hk=>hW.block k (hB k hk)⟩
  have ha:SasR (fun _=>.no) B W (.c (.val (.func (.yield l) #[] #[])) :: ptrAs caps) (.func (.yield l) #[] #[] :: lb):=⟨_,_,rfl,rfl,(ptrs_sas hlb).up hup⟩
  have hlen:=ha.length;have hle:(Value.func (.yield l) #[] #[] :: lb).length≤n:=by
    rw [hlen,List.length_cons];have h1:=Nat.le_of_ble_eq_true hl;have h2:=zA hn;omega
  have hS:=st_start (fn:=fn) hN hle _ rfl (vs:=.func (.yield l) #[] #[] :: lb);have e:#[Value.func (.yield l) #[] #[]]++lb.toArray=(Value.func (.yield l) #[] #[] :: lb).toArray:=by simp
  rw [e];refine callsIn_of_wp hf hb trivial ((wide_n _ 0 1 _ _ _).1 (h _ ⟨fun _=>.no,[],hS.size,rfl,fun s sv hs=>?_,rfl,⟨KO.refl _ _,fun k hk=>hk.elim (fun h=>h) (fun hb=>Nat.lt_of_lt_of_le (hB k hb) hW.size),(fun c hc=>by cases hc),List.Pairwise.nil⟩,fun _ h=>h,fun _ h=>.inl h,fun _ _ h=>h.elim,KO.refl _ _,fun i x hx=>(hg i x hx).up hup⟩));obtain ⟨_,v,h1,h2⟩:=argL_ok ha hs;rw [Nat.sub_zero] at h1;refine ⟨v,?_,h2⟩;have hlt:s < (Value.func (.yield l) #[] #[] :: lb).length:=(List.getElem?_eq_some_iff.1 h1).1;show ((Value.func (.yield l) #[] #[] :: lb).toArray++_)[s]?=some v;rw [Array.getElem?_append_left (by simpa using hlt)]
  simpa using h1
end Go.Proofs.YtihcolehefloeaaDoor

/- Slices that are nil, in cells. -/
namespace Go.Proofs.YtihcolehefloeaaDoor
open Go.RowKit
def nilCs (id:Nat):Nat→List SC→List SC
  | 0,.val (.slice none 0 0) :: r=>.sl id :: r
  | p+1,c :: r=>c :: nilCs id p r
  | _,cs=>cs
def nilH (k p id:Nat):Hp→Hp
  | []=>[]
  | (j,.cells t cs) :: r=>match Nat.beq j k with
    | true=>(j,.cells t (nilCs id p cs)) :: r
    | false=>(j,.cells t cs) :: nilH k p id r
  | b :: r=>b :: nilH k p id r
section
variable {env:Nat→Loc} {B:Nat→Prop} {w:World} {id:Nat} (he:env id=.row none 0 0)
include he
theorem CsR.nilCs:∀ {p:Nat} {cs:List SC} {vs:List Value},CsR env B w cs vs→CsR env B w (nilCs id p cs) vs:=by
  intro p
  induction p with
  | zero=>
    intro cs vs h;unfold Go.Proofs.YtihcolehefloeaaDoor.nilCs
    split
    · obtain ⟨v,r,e,h1,h2⟩:=h
      exact ⟨v,r,e,⟨none,0,0,he,h1⟩,h2⟩
    · omega
    · exact h
  | succ p ih=>
    intro cs vs h;cases cs with
    | nil=>exact h
    | cons c r=>
      obtain ⟨v,q,e,h1,h2⟩:=h;exact ⟨v,q,e,h1,ih h2⟩
theorem HR.nilH {k p:Nat}:∀ {l:Hp} {H:List Ck},HR env B w l H→HR env B w (nilH k p id l) H
  | [],_,h=>h
  | (j,.cells t cs) :: r,_,⟨c,H',e,h1,h2⟩=>by
    unfold Go.Proofs.YtihcolehefloeaaDoor.nilH
    split
    · obtain ⟨b,vs,h3,h4,h5⟩:=h1
      exact ⟨c,H',e,⟨b,vs,h3,h4,CsR.nilCs he h5⟩,h2⟩
    · exact ⟨c,H',e,h1,HR.nilH h2⟩
  | (j,.row _ _ _ _) :: r,_,⟨c,H',e,h1,h2⟩=>⟨c,H',e,h1,HR.nilH h2⟩
  | (j,.sit _ _) :: r,_,⟨c,H',e,h1,h2⟩=>⟨c,H',e,h1,HR.nilH h2⟩
  | (j,.mp _ _ _ _) :: r,_,⟨c,H',e,h1,h2⟩=>⟨c,H',e,h1,HR.nilH h2⟩
  | (j,.it _ _ _ _) :: r,_,⟨c,H',e,h1,h2⟩=>⟨c,H',e,h1,HR.nilH h2⟩
  | (j,.junk) :: r,_,⟨c,H',e,h1,h2⟩=>⟨c,H',e,h1,HR.nilH h2⟩
  | (j,.hrow _ _ _ _ _ _) :: r,_,⟨c,H',e,h1,h2⟩=>⟨c,H',e,h1,HR.nilH h2⟩
  | (j,.rjunk) :: r,_,⟨c,H',e,h1,h2⟩=>⟨c,H',e,h1,HR.nilH h2⟩
  | (j,.lrow _ _ _) :: r,_,⟨c,H',e,h1,h2⟩=>⟨c,H',e,h1,HR.nilH h2⟩
end
theorem Wk.nilC {X:Cx} {n:Nat} {st:ASt} (k p id:Nat) (t:TypeId) (g:GTy) (hid:Nat.blt id n=true):Wk X n st ⟨subL id .dead st.L,(id,.row t g [] none) :: nilH k p id (yj id .dead st.H)⟩:=fun R W Bi M a w ⟨ks,env,B,w0,H,hM,h⟩=>by
  obtain ⟨H2,h1,h2⟩:=h.heap.del (z:=.dead) (qR (env:=env) (id:=id) (l:=.row none 0 0)) (fun _ _=>trivial);refine ⟨ks,upd env id (.row none 0 0),B,w0,.row none 0 t g.size 0 [] :: H2,hM,h.size,h.defs,fun q u hu=>?_,⟨_,H2,rfl,⟨none,0,[],zN,rfl,rfl,fun _ hq=>by cases hq⟩,HR.nilH zN h2⟩,(h.sh.nilRow t g.size).weak ((h1.append_right _).cons_cons _),h.sub,h.new,pin_upd h.pin (fun q hp=>by have h1:=(h.pin _ _ hp).1; have h2:=zA hid; omega),h.base,h.glob⟩;obtain ⟨u0,hu0,rfl⟩:=lk_subL hu;obtain ⟨u',h6,h7⟩:=h.has q u0 hu0;exact ⟨u',h6,VR.sub (z:=.dead) qR (fun _ _=>trivial) h7⟩
end Go.Proofs.YtihcolehefloeaaDoor

/- Contracts of plain data, out of others; tables. -/
namespace Go.Proofs.YtihcolehefloeaaDoor
open Go.RowKit
theorem AC.ofRet {X:Cx} {f:FuncId} {args:List SA} {sv:SV} {v0:Value} (hV:∀ env B w,VR env B w sv v0)
    (hR:∀ (env:Nat→Loc) (B:Nat→Prop) (w0:World) (vs:List Value) (W:World),GlobOk X B W→SasR env B W args vs→(∀ k,B k→k < W.heap.size)→Ret X.P f vs.toArray W (fun v w'=>v=v0∧Below W.heap.size W w')):AC X f args [] (fun s h=>s=sv∧h=[]):=by
  intro B w0 env vs H W hg ha hh hs;have e:H=[]:=hh;subst e;have hup:Up B w0 B W:=⟨fun _ h=>h,hs.below.block⟩
  refine (hR env B w0 vs W (fun i x hx=>(hg i x hx).up hup) (ha.up hup) hs.base).mono ?_;rintro v w' ⟨rfl,hb⟩;refine ⟨env,B,W,[],sv,[],⟨rfl,rfl⟩,fun _ h=>h,fun _ h=>.inl h,KO.refl _ _,hV _ _ _,rfl,⟨⟨hb.os,hb.tape,hb.output,hb.size,fun k hk=>hb.block k (hk.elim (fun h=>h.1) (hs.base k))⟩,fun k hk=>Nat.lt_of_lt_of_le (hk.elim (fun h=>h.1) (hs.base k)) hb.size,(fun _ h=>by cases h),List.Pairwise.nil⟩,fun _ _ _ h=>h⟩
theorem AC.weakV {X:Cx} {f:FuncId} {args:List SA} {h0:Hp} {sv sv':SV} (hV:∀ env B w v,VR env B w sv v→VR env B w sv' v) (h:AC X f args h0 (fun s h=>s=sv∧h=[])):AC X f args h0 (fun s h=>s=sv'∧h=[]):=by
  intro B w0 env vs H W hg ha hh hs;refine (h B w0 env vs H W hg ha hh hs).mono ?_;rintro v w' ⟨env',B',w0',H',s,h',⟨rfl,rfl⟩,h1,h2,h3,h4,h5,h6,h7⟩;exact ⟨env',B',w0',H',sv',[],⟨rfl,rfl⟩,h1,h2,h3,hV _ _ _ _ h4,h5,h6,h7⟩
theorem nil_lst {env:Nat→Loc} {B:Nat→Prop} {w:World} {g:GTy} {v:Value} (h:SaR env B w (.c (.val (.slice none 0 0))) v):SaR env B w (.c (.lst g [] (some 0))) v:=by
  have e:v=_:=h;subst e;exact ⟨none,0,[],rfl,Nat.le_refl _,Nat.zero_le _,fun _ h=>by cases h; rfl,rfl,Reads.nil _ _ _,fun _ _ h=>absurd h (Nat.lt_irrefl 0)⟩
theorem flat_ints {B:Nat→Prop} {w:World} {k:IntKind}:∀ {l:List Int} {vs:List Value},Flat (FR B w (.int k)) l vs→vs=l.map fun z=>Value.int k z
  | [],_,h=>h
  | x :: l,_,⟨v1,v2,e,h1,h2⟩=>by rw [e,show v1=_ from h1,flat_ints h2]; rfl
theorem flat_strs {B:Nat→Prop} {w:World}:∀ {l:List (List UInt8)} {vs:List Value},Flat (FR B w .str) l vs→vs=l.map xI
  | [],_,h=>h
  | x :: l,_,⟨v1,v2,e,h1,h2⟩=>by rw [e,show v1=_ from h1,flat_strs h2]; rfl
theorem GR.tab {P:Program} {B:Nat→Prop} {w:World} {i:Nat} {k:IntKind} {zs:List Int} (h:GR B w i ⟨.int k,zs⟩) {name:String} (hn:P.globalNamed name=some i):Lib.TabIs P w name k zs:=by
  obtain ⟨⟨b,o,vs,e,hb,hf,hc⟩,cs,t,fr,h1,h2⟩:=h;cases e;have hvs:=flat_ints hf;unfold Lib.TabIs World.var?;rw [hn];simp only [Option.bind_some,h1,Option.some.injEq];have hl:cs.size=vs.length:=by rw [h2,hvs]; simp [GTy.size]
  rw [← hvs]
  apply Array.ext (by simpa using hl)
  intro j hj1 hj2;have hj:j < vs.length:=by simpa using hj2
  have:=hc j vs[j] (List.getElem?_eq_getElem hj)
  simp only [Nat.zero_add,World.cell?,h1] at this;rw [Array.getElem?_eq_getElem hj1] at this
  simpa using this
end Go.Proofs.YtihcolehefloeaaDoor

/- The table of types of the translation. -/
namespace Go.Proofs.YtihcolehefloeaaDoor
def ti1:TI:={ desc:=TypeDesc.func #[] #[] false,size:=1,bytes:=8,zero:=Value.nilFunc }
theorem ti1_ok:TI.ok Tryd.prog 1 ti1:=⟨Tryd.underlying1,by kernel_rfl⟩
def ti2:TI:={ desc:=TypeDesc.int IntKind.i64,size:=1,bytes:=8,zero:=Value.int IntKind.i64 0 }
theorem ti2_ok:TI.ok Tryd.prog 2 ti2:=⟨Tryd.underlying2,by kernel_rfl⟩
def ti3:TI:={ desc:=TypeDesc.int IntKind.i64,size:=1,bytes:=8,zero:=Value.int IntKind.i64 0 }
theorem ti3_ok:TI.ok Tryd.prog 3 ti3:=⟨Tryd.underlying3,by kernel_rfl⟩
def ti4:TI:={ desc:=TypeDesc.bool,size:=1,bytes:=1,zero:=Value.bool false }
theorem ti4_ok:TI.ok Tryd.prog 4 ti4:=⟨Tryd.underlying4,by kernel_rfl⟩
def ti5:TI:={ desc:=TypeDesc.int IntKind.u8,size:=1,bytes:=1,zero:=Value.int IntKind.u8 0 }
theorem ti5_ok:TI.ok Tryd.prog 5 ti5:=⟨Tryd.underlying5,by kernel_rfl⟩
def ti6:TI:={ desc:=TypeDesc.int IntKind.u8,size:=1,bytes:=1,zero:=Value.int IntKind.u8 0 }
theorem ti6_ok:TI.ok Tryd.prog 6 ti6:=⟨Tryd.underlying6,by kernel_rfl⟩
def ti9:TI:={ desc:=TypeDesc.string,size:=1,bytes:=16,zero:=Value.string { data:=#[] } }
theorem ti9_ok:TI.ok Tryd.prog 9 ti9:=⟨Tryd.underlying9,by kernel_rfl⟩
def ti10:TI:={ desc:=TypeDesc.string,size:=1,bytes:=16,zero:=Value.string { data:=#[] } }
theorem ti10_ok:TI.ok Tryd.prog 10 ti10:=⟨Tryd.underlying10,by kernel_rfl⟩
def ti11:TI:={ desc:=TypeDesc.string,size:=1,bytes:=16,zero:=Value.string { data:=#[] } }
theorem ti11_ok:TI.ok Tryd.prog 11 ti11:=⟨Tryd.underlying11,by kernel_rfl⟩
def ti12:TI:={ desc:=TypeDesc.int IntKind.u64,size:=1,bytes:=8,zero:=Value.int IntKind.u64 0 }
theorem ti12_ok:TI.ok Tryd.prog 12 ti12:=⟨Tryd.underlying12,by kernel_rfl⟩
def ti15:TI:={ desc:=TypeDesc.pointer 196,size:=1,bytes:=8,zero:=Value.pointer none }
theorem ti15_ok:TI.ok Tryd.prog 15 ti15:=⟨Tryd.underlying15,by kernel_rfl⟩
def ti16:TI:={ desc:=TypeDesc.pointer 199,size:=1,bytes:=8,zero:=Value.pointer none }
theorem ti16_ok:TI.ok Tryd.prog 16 ti16:=⟨Tryd.underlying16,by kernel_rfl⟩
def ti17:TI:={ desc:=TypeDesc.pointer 207,size:=1,bytes:=8,zero:=Value.pointer none }
theorem ti17_ok:TI.ok Tryd.prog 17 ti17:=⟨Tryd.underlying17,by kernel_rfl⟩
def ti20:TI:={ desc:=TypeDesc.interface #[],size:=1,bytes:=16,zero:=Value.nilIface }
theorem ti20_ok:TI.ok Tryd.prog 20 ti20:=⟨Tryd.underlying20,by kernel_rfl⟩
def ti21:TI:={ desc:=TypeDesc.int IntKind.i32,size:=1,bytes:=4,zero:=Value.int IntKind.i32 0 }
theorem ti21_ok:TI.ok Tryd.prog 21 ti21:=⟨Tryd.underlying21,by kernel_rfl⟩
def ti22:TI:={ desc:=TypeDesc.slice 72,size:=1,bytes:=24,zero:=Value.slice none 0 0 }
theorem ti22_ok:TI.ok Tryd.prog 22 ti22:=⟨Tryd.underlying22,by kernel_rfl⟩
def ti23 : TI := { desc := TypeDesc.struct #[{ name := "Width", type := 5, offset := 0, embedded := false, tag := "", pkgPath := "", byteOffset := 0 }, { name := "Rows", type := 22, offset := 1, embedded := false, tag := "", pkgPath := "", byteOffset := 8 }], size := 2, bytes := 32, zero := Value.agg #[Value.int IntKind.u8 0, Value.slice none 0 0] }
theorem ti23_ok:TI.ok Tryd.prog 23 ti23:=⟨Tryd.underlying23,by kernel_rfl⟩
def ti24 : TI := { desc := TypeDesc.struct #[{ name := "Width", type := 5, offset := 0, embedded := false, tag := "", pkgPath := "", byteOffset := 0 }, { name := "Rows", type := 22, offset := 1, embedded := false, tag := "", pkgPath := "", byteOffset := 8 }], size := 2, bytes := 32, zero := Value.agg #[Value.int IntKind.u8 0, Value.slice none 0 0] }
theorem ti24_ok:TI.ok Tryd.prog 24 ti24:=⟨Tryd.underlying24,by kernel_rfl⟩
def ti25:TI:={ desc:=TypeDesc.array 7 5,size:=7,bytes:=7,zero:=Value.agg #[Value.int IntKind.u8 0,Value.int IntKind.u8 0,Value.int IntKind.u8 0,Value.int IntKind.u8 0,Value.int IntKind.u8 0,Value.int IntKind.u8 0,Value.int IntKind.u8 0] }
theorem ti25_ok:TI.ok Tryd.prog 25 ti25:=⟨Tryd.underlying25,by kernel_rfl⟩
def ti26:TI:={ desc:=TypeDesc.slice 36,size:=1,bytes:=24,zero:=Value.slice none 0 0 }
theorem ti26_ok:TI.ok Tryd.prog 26 ti26:=⟨Tryd.underlying26,by kernel_rfl⟩
def ti27 : TI := { desc := TypeDesc.struct #[{ name := "Rows", type := 26, offset := 0, embedded := false, tag := "", pkgPath := "", byteOffset := 0 }], size := 1, bytes := 24, zero := Value.agg #[Value.slice none 0 0] }
theorem ti27_ok:TI.ok Tryd.prog 27 ti27:=⟨Tryd.underlying27,by kernel_rfl⟩
def ti28 : TI := { desc := TypeDesc.struct #[{ name := "Rows", type := 26, offset := 0, embedded := false, tag := "", pkgPath := "", byteOffset := 0 }], size := 1, bytes := 24, zero := Value.agg #[Value.slice none 0 0] }
theorem ti28_ok:TI.ok Tryd.prog 28 ti28:=⟨Tryd.underlying28,by kernel_rfl⟩
def ti29:TI:={ desc:=TypeDesc.func #[] #[28] false,size:=1,bytes:=8,zero:=Value.nilFunc }
theorem ti29_ok:TI.ok Tryd.prog 29 ti29:=⟨Tryd.underlying29,by kernel_rfl⟩
def ti30:TI:={ desc:=TypeDesc.slice 39,size:=1,bytes:=24,zero:=Value.slice none 0 0 }
theorem ti30_ok:TI.ok Tryd.prog 30 ti30:=⟨Tryd.underlying30,by kernel_rfl⟩
def ti31:TI:={ desc:=TypeDesc.int IntKind.u8,size:=1,bytes:=1,zero:=Value.int IntKind.u8 0 }
theorem ti31_ok:TI.ok Tryd.prog 31 ti31:=⟨Tryd.underlying31,by kernel_rfl⟩
def ti32:TI:={ desc:=TypeDesc.array 6 31,size:=6,bytes:=6,zero:=Value.agg #[Value.int IntKind.u8 0,Value.int IntKind.u8 0,Value.int IntKind.u8 0,Value.int IntKind.u8 0,Value.int IntKind.u8 0,Value.int IntKind.u8 0] }
theorem ti32_ok:TI.ok Tryd.prog 32 ti32:=⟨Tryd.underlying32,by kernel_rfl⟩
def ti33 : TI := { desc := TypeDesc.struct #[{ name := "Slots", type := 30, offset := 0, embedded := false, tag := "", pkgPath := "", byteOffset := 0 }, { name := "Sides", type := 32, offset := 1, embedded := false, tag := "", pkgPath := "", byteOffset := 24 }], size := 7, bytes := 32, zero := Value.agg #[Value.slice none 0 0, Value.int IntKind.u8 0, Value.int IntKind.u8 0, Value.int IntKind.u8 0, Value.int IntKind.u8 0, Value.int IntKind.u8 0, Value.int IntKind.u8 0] }
theorem ti33_ok:TI.ok Tryd.prog 33 ti33:=⟨Tryd.underlying33,by kernel_rfl⟩
def ti34 : TI := { desc := TypeDesc.struct #[{ name := "Slots", type := 30, offset := 0, embedded := false, tag := "", pkgPath := "", byteOffset := 0 }, { name := "Sides", type := 32, offset := 1, embedded := false, tag := "", pkgPath := "", byteOffset := 24 }], size := 7, bytes := 32, zero := Value.agg #[Value.slice none 0 0, Value.int IntKind.u8 0, Value.int IntKind.u8 0, Value.int IntKind.u8 0, Value.int IntKind.u8 0, Value.int IntKind.u8 0, Value.int IntKind.u8 0] }
theorem ti34_ok:TI.ok Tryd.prog 34 ti34:=⟨Tryd.underlying34,by kernel_rfl⟩
def ti35:TI:={ desc:=TypeDesc.func #[36] #[3] false,size:=1,bytes:=8,zero:=Value.nilFunc }
theorem ti35_ok:TI.ok Tryd.prog 35 ti35:=⟨Tryd.underlying35,by kernel_rfl⟩
def ti36:TI:={ desc:=TypeDesc.slice 48,size:=1,bytes:=24,zero:=Value.slice none 0 0 }
theorem ti36_ok:TI.ok Tryd.prog 36 ti36:=⟨Tryd.underlying36,by kernel_rfl⟩
def ti37:TI:={ desc:=TypeDesc.int IntKind.u8,size:=1,bytes:=1,zero:=Value.int IntKind.u8 0 }
theorem ti37_ok:TI.ok Tryd.prog 37 ti37:=⟨Tryd.underlying37,by kernel_rfl⟩
def ti38 : TI := { desc := TypeDesc.struct #[{ name := "Bed", type := 37, offset := 0, embedded := false, tag := "", pkgPath := "", byteOffset := 0 }, { name := "At", type := 3, offset := 1, embedded := false, tag := "", pkgPath := "", byteOffset := 8 }], size := 2, bytes := 16, zero := Value.agg #[Value.int IntKind.u8 0, Value.int IntKind.i64 0] }
theorem ti38_ok:TI.ok Tryd.prog 38 ti38:=⟨Tryd.underlying38,by kernel_rfl⟩
def ti39 : TI := { desc := TypeDesc.struct #[{ name := "Bed", type := 37, offset := 0, embedded := false, tag := "", pkgPath := "", byteOffset := 0 }, { name := "At", type := 3, offset := 1, embedded := false, tag := "", pkgPath := "", byteOffset := 8 }], size := 2, bytes := 16, zero := Value.agg #[Value.int IntKind.u8 0, Value.int IntKind.i64 0] }
theorem ti39_ok:TI.ok Tryd.prog 39 ti39:=⟨Tryd.underlying39,by kernel_rfl⟩
def ti40:TI:={ desc:=TypeDesc.int IntKind.u8,size:=1,bytes:=1,zero:=Value.int IntKind.u8 0 }
theorem ti40_ok:TI.ok Tryd.prog 40 ti40:=⟨Tryd.underlying40,by kernel_rfl⟩
def ti41:TI:={ desc:=TypeDesc.slice 45,size:=1,bytes:=24,zero:=Value.slice none 0 0 }
theorem ti41_ok:TI.ok Tryd.prog 41 ti41:=⟨Tryd.underlying41,by kernel_rfl⟩
def ti42:TI:={ desc:=TypeDesc.slice 3,size:=1,bytes:=24,zero:=Value.slice none 0 0 }
theorem ti42_ok:TI.ok Tryd.prog 42 ti42:=⟨Tryd.underlying42,by kernel_rfl⟩
def ti43:TI:={ desc:=TypeDesc.int IntKind.u8,size:=1,bytes:=1,zero:=Value.int IntKind.u8 0 }
theorem ti43_ok:TI.ok Tryd.prog 43 ti43:=⟨Tryd.underlying43,by kernel_rfl⟩
def ti44 : TI := { desc := TypeDesc.struct #[{ name := "Kind", type := 43, offset := 0, embedded := false, tag := "", pkgPath := "", byteOffset := 0 }, { name := "Dir", type := 40, offset := 1, embedded := false, tag := "", pkgPath := "", byteOffset := 1 }, { name := "Needle", type := 39, offset := 2, embedded := false, tag := "", pkgPath := "", byteOffset := 8 }, { name := "Yarn", type := 5, offset := 4, embedded := false, tag := "", pkgPath := "", byteOffset := 24 }, { name := "Rack", type := 3, offset := 5, embedded := false, tag := "", pkgPath := "", byteOffset := 32 }], size := 6, bytes := 40, zero := Value.agg #[Value.int IntKind.u8 0, Value.int IntKind.u8 0, Value.int IntKind.u8 0, Value.int IntKind.i64 0, Value.int IntKind.u8 0, Value.int IntKind.i64 0] }
theorem ti44_ok:TI.ok Tryd.prog 44 ti44:=⟨Tryd.underlying44,by kernel_rfl⟩
def ti45 : TI := { desc := TypeDesc.struct #[{ name := "Kind", type := 43, offset := 0, embedded := false, tag := "", pkgPath := "", byteOffset := 0 }, { name := "Dir", type := 40, offset := 1, embedded := false, tag := "", pkgPath := "", byteOffset := 1 }, { name := "Needle", type := 39, offset := 2, embedded := false, tag := "", pkgPath := "", byteOffset := 8 }, { name := "Yarn", type := 5, offset := 4, embedded := false, tag := "", pkgPath := "", byteOffset := 24 }, { name := "Rack", type := 3, offset := 5, embedded := false, tag := "", pkgPath := "", byteOffset := 32 }], size := 6, bytes := 40, zero := Value.agg #[Value.int IntKind.u8 0, Value.int IntKind.u8 0, Value.int IntKind.u8 0, Value.int IntKind.i64 0, Value.int IntKind.u8 0, Value.int IntKind.i64 0] }
theorem ti45_ok:TI.ok Tryd.prog 45 ti45:=⟨Tryd.underlying45,by kernel_rfl⟩
def ti46:TI:={ desc:=TypeDesc.int IntKind.u8,size:=1,bytes:=1,zero:=Value.int IntKind.u8 0 }
theorem ti46_ok:TI.ok Tryd.prog 46 ti46:=⟨Tryd.underlying46,by kernel_rfl⟩
def ti47 : TI := { desc := TypeDesc.struct #[{ name := "Kind", type := 46, offset := 0, embedded := false, tag := "", pkgPath := "", byteOffset := 0 }, { name := "Yarn", type := 5, offset := 1, embedded := false, tag := "", pkgPath := "", byteOffset := 1 }, { name := "A", type := 3, offset := 2, embedded := false, tag := "", pkgPath := "", byteOffset := 8 }, { name := "B", type := 3, offset := 3, embedded := false, tag := "", pkgPath := "", byteOffset := 16 }, { name := "Front", type := 4, offset := 4, embedded := false, tag := "", pkgPath := "", byteOffset := 24 }], size := 5, bytes := 32, zero := Value.agg #[Value.int IntKind.u8 0, Value.int IntKind.u8 0, Value.int IntKind.i64 0, Value.int IntKind.i64 0, Value.bool false] }
theorem ti47_ok:TI.ok Tryd.prog 47 ti47:=⟨Tryd.underlying47,by kernel_rfl⟩
def ti48 : TI := { desc := TypeDesc.struct #[{ name := "Kind", type := 46, offset := 0, embedded := false, tag := "", pkgPath := "", byteOffset := 0 }, { name := "Yarn", type := 5, offset := 1, embedded := false, tag := "", pkgPath := "", byteOffset := 1 }, { name := "A", type := 3, offset := 2, embedded := false, tag := "", pkgPath := "", byteOffset := 8 }, { name := "B", type := 3, offset := 3, embedded := false, tag := "", pkgPath := "", byteOffset := 16 }, { name := "Front", type := 4, offset := 4, embedded := false, tag := "", pkgPath := "", byteOffset := 24 }], size := 5, bytes := 32, zero := Value.agg #[Value.int IntKind.u8 0, Value.int IntKind.u8 0, Value.int IntKind.i64 0, Value.int IntKind.i64 0, Value.bool false] }
theorem ti48_ok:TI.ok Tryd.prog 48 ti48:=⟨Tryd.underlying48,by kernel_rfl⟩
def ti49:TI:={ desc:=TypeDesc.int IntKind.i64,size:=1,bytes:=8,zero:=Value.int IntKind.i64 0 }
theorem ti49_ok:TI.ok Tryd.prog 49 ti49:=⟨Tryd.underlying49,by kernel_rfl⟩
def ti52:TI:={ desc:=TypeDesc.func #[42,3,3,3,4] #[41,49] false,size:=1,bytes:=8,zero:=Value.nilFunc }
theorem ti52_ok:TI.ok Tryd.prog 52 ti52:=⟨Tryd.underlying52,by kernel_rfl⟩
def ti55:TI:={ desc:=TypeDesc.func #[34,36,40] #[41,34,49] false,size:=1,bytes:=8,zero:=Value.nilFunc }
theorem ti55_ok:TI.ok Tryd.prog 55 ti55:=⟨Tryd.underlying55,by kernel_rfl⟩
def ti56:TI:={ desc:=TypeDesc.func #[41] #[9] false,size:=1,bytes:=8,zero:=Value.nilFunc }
theorem ti56_ok:TI.ok Tryd.prog 56 ti56:=⟨Tryd.underlying56,by kernel_rfl⟩
def ti57:TI:={ desc:=TypeDesc.func #[] #[4] false,size:=1,bytes:=8,zero:=Value.nilFunc }
theorem ti57_ok:TI.ok Tryd.prog 57 ti57:=⟨Tryd.underlying57,by kernel_rfl⟩
def ti58:TI:={ desc:=TypeDesc.func #[24,5,25] #[4] false,size:=1,bytes:=8,zero:=Value.nilFunc }
theorem ti58_ok:TI.ok Tryd.prog 58 ti58:=⟨Tryd.underlying58,by kernel_rfl⟩
def ti59:TI:={ desc:=TypeDesc.func #[34] #[49] false,size:=1,bytes:=8,zero:=Value.nilFunc }
theorem ti59_ok:TI.ok Tryd.prog 59 ti59:=⟨Tryd.underlying59,by kernel_rfl⟩
def ti60:TI:={ desc:=TypeDesc.func #[36] #[49] false,size:=1,bytes:=8,zero:=Value.nilFunc }
theorem ti60_ok:TI.ok Tryd.prog 60 ti60:=⟨Tryd.underlying60,by kernel_rfl⟩
def ti61:TI:={ desc:=TypeDesc.slice 30,size:=1,bytes:=24,zero:=Value.slice none 0 0 }
theorem ti61_ok:TI.ok Tryd.prog 61 ti61:=⟨Tryd.underlying61,by kernel_rfl⟩
def ti63:TI:={ desc:=TypeDesc.func #[34,36] #[41,61,49] false,size:=1,bytes:=8,zero:=Value.nilFunc }
theorem ti63_ok:TI.ok Tryd.prog 63 ti63:=⟨Tryd.underlying63,by kernel_rfl⟩
def ti64:TI:={ desc:=TypeDesc.func #[34,36,5] #[4] false,size:=1,bytes:=8,zero:=Value.nilFunc }
theorem ti64_ok:TI.ok Tryd.prog 64 ti64:=⟨Tryd.underlying64,by kernel_rfl⟩
def ti65:TI:={ desc:=TypeDesc.func #[28] #[49] false,size:=1,bytes:=8,zero:=Value.nilFunc }
theorem ti65_ok:TI.ok Tryd.prog 65 ti65:=⟨Tryd.underlying65,by kernel_rfl⟩
def ti66:TI:={ desc:=TypeDesc.func #[28] #[41,49] false,size:=1,bytes:=8,zero:=Value.nilFunc }
theorem ti66_ok:TI.ok Tryd.prog 66 ti66:=⟨Tryd.underlying66,by kernel_rfl⟩
def ti68:TI:={ desc:=TypeDesc.func #[28] #[42,49] false,size:=1,bytes:=8,zero:=Value.nilFunc }
theorem ti68_ok:TI.ok Tryd.prog 68 ti68:=⟨Tryd.underlying68,by kernel_rfl⟩
def ti70:TI:={ desc:=TypeDesc.func #[28,3] #[41,30,49] false,size:=1,bytes:=8,zero:=Value.nilFunc }
theorem ti70_ok:TI.ok Tryd.prog 70 ti70:=⟨Tryd.underlying70,by kernel_rfl⟩
def ti71:TI:={ desc:=TypeDesc.func #[28,3] #[4] false,size:=1,bytes:=8,zero:=Value.nilFunc }
theorem ti71_ok:TI.ok Tryd.prog 71 ti71:=⟨Tryd.underlying71,by kernel_rfl⟩
def ti72:TI:={ desc:=TypeDesc.slice 5,size:=1,bytes:=24,zero:=Value.slice none 0 0 }
theorem ti72_ok:TI.ok Tryd.prog 72 ti72:=⟨Tryd.underlying72,by kernel_rfl⟩
def ti74:TI:={ desc:=TypeDesc.func #[42,72] #[36,42] false,size:=1,bytes:=8,zero:=Value.nilFunc }
theorem ti74_ok:TI.ok Tryd.prog 74 ti74:=⟨Tryd.underlying74,by kernel_rfl⟩
def ti75:TI:={ desc:=TypeDesc.func #[36,76] #[3] false,size:=1,bytes:=8,zero:=Value.nilFunc }
theorem ti75_ok:TI.ok Tryd.prog 75 ti75:=⟨Tryd.underlying75,by kernel_rfl⟩
def ti76:TI:={ desc:=TypeDesc.func #[48] #[3] false,size:=1,bytes:=8,zero:=Value.nilFunc }
theorem ti76_ok:TI.ok Tryd.prog 76 ti76:=⟨Tryd.underlying76,by kernel_rfl⟩
def ti79 : TI := { desc := TypeDesc.struct #[{ name := "ops", type := 41, offset := 0, embedded := false, tag := "", pkgPath := "gansey/shifts", byteOffset := 0 }, { name := "rack", type := 3, offset := 1, embedded := false, tag := "", pkgPath := "gansey/shifts", byteOffset := 24 }], size := 2, bytes := 32, zero := Value.agg #[Value.slice none 0 0, Value.int IntKind.i64 0] }
theorem ti79_ok:TI.ok Tryd.prog 79 ti79:=⟨Tryd.underlying79,by kernel_rfl⟩
def ti80:TI:={ desc:=TypeDesc.func #[42,3] #[] false,size:=1,bytes:=8,zero:=Value.nilFunc }
theorem ti80_ok:TI.ok Tryd.prog 80 ti80:=⟨Tryd.underlying80,by kernel_rfl⟩
def ti81:TI:={ desc:=TypeDesc.func #[3] #[3] false,size:=1,bytes:=8,zero:=Value.nilFunc }
theorem ti81_ok:TI.ok Tryd.prog 81 ti81:=⟨Tryd.underlying81,by kernel_rfl⟩
def ti82:TI:={ desc:=TypeDesc.func #[127] #[] false,size:=1,bytes:=8,zero:=Value.nilFunc }
theorem ti82_ok:TI.ok Tryd.prog 82 ti82:=⟨Tryd.underlying82,by kernel_rfl⟩
def ti83:TI:={ desc:=TypeDesc.func #[127] #[] false,size:=1,bytes:=8,zero:=Value.nilFunc }
theorem ti83_ok:TI.ok Tryd.prog 83 ti83:=⟨Tryd.underlying83,by kernel_rfl⟩
def ti84:TI:={ desc:=TypeDesc.func #[42] #[83] false,size:=1,bytes:=8,zero:=Value.nilFunc }
theorem ti84_ok:TI.ok Tryd.prog 84 ti84:=⟨Tryd.underlying84,by kernel_rfl⟩
def ti85:TI:={ desc:=TypeDesc.func #[3] #[] false,size:=1,bytes:=8,zero:=Value.nilFunc }
theorem ti85_ok:TI.ok Tryd.prog 85 ti85:=⟨Tryd.underlying85,by kernel_rfl⟩
def ti86:TI:={ desc:=TypeDesc.func #[41] #[41] false,size:=1,bytes:=8,zero:=Value.nilFunc }
theorem ti86_ok:TI.ok Tryd.prog 86 ti86:=⟨Tryd.underlying86,by kernel_rfl⟩
def ti87:TI:={ desc:=TypeDesc.func #[3,3] #[49] false,size:=1,bytes:=8,zero:=Value.nilFunc }
theorem ti87_ok:TI.ok Tryd.prog 87 ti87:=⟨Tryd.underlying87,by kernel_rfl⟩
def ti88:TI:={ desc:=TypeDesc.func #[42,3,3,3] #[90,4] false,size:=1,bytes:=8,zero:=Value.nilFunc }
theorem ti88_ok:TI.ok Tryd.prog 88 ti88:=⟨Tryd.underlying88,by kernel_rfl⟩
def ti90 : TI := { desc := TypeDesc.struct #[{ name := "room", type := 42, offset := 0, embedded := false, tag := "", pkgPath := "gansey/cables", byteOffset := 0 }, { name := "across", type := 42, offset := 1, embedded := false, tag := "", pkgPath := "gansey/cables", byteOffset := 24 }, { name := "by", type := 3, offset := 2, embedded := false, tag := "", pkgPath := "gansey/cables", byteOffset := 48 }, { name := "behind", type := 42, offset := 3, embedded := false, tag := "", pkgPath := "gansey/cables", byteOffset := 56 }], size := 4, bytes := 80, zero := Value.agg #[Value.slice none 0 0, Value.slice none 0 0, Value.int IntKind.i64 0, Value.slice none 0 0] }
theorem ti90_ok:TI.ok Tryd.prog 90 ti90:=⟨Tryd.underlying90,by kernel_rfl⟩
def ti93:TI:={ desc:=TypeDesc.func #[30] #[30] false,size:=1,bytes:=8,zero:=Value.nilFunc }
theorem ti93_ok:TI.ok Tryd.prog 93 ti93:=⟨Tryd.underlying93,by kernel_rfl⟩
def ti94:TI:={ desc:=TypeDesc.func #[61] #[30] true,size:=1,bytes:=8,zero:=Value.nilFunc }
theorem ti94_ok:TI.ok Tryd.prog 94 ti94:=⟨Tryd.underlying94,by kernel_rfl⟩
def ti95 : TI := { desc := TypeDesc.struct #[{ name := "ops", type := 41, offset := 0, embedded := false, tag := "", pkgPath := "gansey/courses", byteOffset := 0 }, { name := "dir", type := 40, offset := 1, embedded := false, tag := "", pkgPath := "gansey/courses", byteOffset := 24 }, { name := "yarn", type := 5, offset := 2, embedded := false, tag := "", pkgPath := "gansey/courses", byteOffset := 25 }], size := 3, bytes := 32, zero := Value.agg #[Value.slice none 0 0, Value.int IntKind.u8 0, Value.int IntKind.u8 0] }
theorem ti95_ok:TI.ok Tryd.prog 95 ti95:=⟨Tryd.underlying95,by kernel_rfl⟩
def ti96 : TI := { desc := TypeDesc.struct #[{ name := "ops", type := 41, offset := 0, embedded := false, tag := "", pkgPath := "gansey/courses", byteOffset := 0 }, { name := "dir", type := 40, offset := 1, embedded := false, tag := "", pkgPath := "gansey/courses", byteOffset := 24 }, { name := "yarn", type := 5, offset := 2, embedded := false, tag := "", pkgPath := "gansey/courses", byteOffset := 25 }], size := 3, bytes := 32, zero := Value.agg #[Value.slice none 0 0, Value.int IntKind.u8 0, Value.int IntKind.u8 0] }
theorem ti96_ok:TI.ok Tryd.prog 96 ti96:=⟨Tryd.underlying96,by kernel_rfl⟩
def ti97:TI:={ desc:=TypeDesc.func #[28] #[72] false,size:=1,bytes:=8,zero:=Value.nilFunc }
theorem ti97_ok:TI.ok Tryd.prog 97 ti97:=⟨Tryd.underlying97,by kernel_rfl⟩
def ti98:TI:={ desc:=TypeDesc.func #[40] #[] false,size:=1,bytes:=8,zero:=Value.nilFunc }
theorem ti98_ok:TI.ok Tryd.prog 98 ti98:=⟨Tryd.underlying98,by kernel_rfl⟩
def ti100:TI:={ desc:=TypeDesc.func #[45] #[9] false,size:=1,bytes:=8,zero:=Value.nilFunc }
theorem ti100_ok:TI.ok Tryd.prog 100 ti100:=⟨Tryd.underlying100,by kernel_rfl⟩
def ti101:TI:={ desc:=TypeDesc.slice 9,size:=1,bytes:=24,zero:=Value.slice none 0 0 }
theorem ti101_ok:TI.ok Tryd.prog 101 ti101:=⟨Tryd.underlying101,by kernel_rfl⟩
def ti102:TI:={ desc:=TypeDesc.func #[9] #[36] false,size:=1,bytes:=8,zero:=Value.nilFunc }
theorem ti102_ok:TI.ok Tryd.prog 102 ti102:=⟨Tryd.underlying102,by kernel_rfl⟩
def ti103:TI:={ desc:=TypeDesc.func #[48] #[49] false,size:=1,bytes:=8,zero:=Value.nilFunc }
theorem ti103_ok:TI.ok Tryd.prog 103 ti103:=⟨Tryd.underlying103,by kernel_rfl⟩
def ti105:TI:={ desc:=TypeDesc.func #[36] #[61,42] false,size:=1,bytes:=8,zero:=Value.nilFunc }
theorem ti105_ok:TI.ok Tryd.prog 105 ti105:=⟨Tryd.underlying105,by kernel_rfl⟩
def ti106:TI:={ desc:=TypeDesc.func #[30] #[41,49] false,size:=1,bytes:=8,zero:=Value.nilFunc }
theorem ti106_ok:TI.ok Tryd.prog 106 ti106:=⟨Tryd.underlying106,by kernel_rfl⟩
def ti107:TI:={ desc:=TypeDesc.func #[42] #[42] false,size:=1,bytes:=8,zero:=Value.nilFunc }
theorem ti107_ok:TI.ok Tryd.prog 107 ti107:=⟨Tryd.underlying107,by kernel_rfl⟩
def ti108:TI:={ desc:=TypeDesc.func #[42,3] #[3] false,size:=1,bytes:=8,zero:=Value.nilFunc }
theorem ti108_ok:TI.ok Tryd.prog 108 ti108:=⟨Tryd.underlying108,by kernel_rfl⟩
def ti109:TI:={ desc:=TypeDesc.func #[48] #[37] false,size:=1,bytes:=8,zero:=Value.nilFunc }
theorem ti109_ok:TI.ok Tryd.prog 109 ti109:=⟨Tryd.underlying109,by kernel_rfl⟩
def ti110:TI:={ desc:=TypeDesc.func #[3] #[28] false,size:=1,bytes:=8,zero:=Value.nilFunc }
theorem ti110_ok:TI.ok Tryd.prog 110 ti110:=⟨Tryd.underlying110,by kernel_rfl⟩
def ti111:TI:={ desc:=TypeDesc.slice 42,size:=1,bytes:=24,zero:=Value.slice none 0 0 }
theorem ti111_ok:TI.ok Tryd.prog 111 ti111:=⟨Tryd.underlying111,by kernel_rfl⟩
def ti120 : TI := { desc := TypeDesc.struct #[{ name := "Kind", type := 5, offset := 0, embedded := false, tag := "", pkgPath := "", byteOffset := 0 }, { name := "Yarn", type := 5, offset := 1, embedded := false, tag := "", pkgPath := "", byteOffset := 1 }, { name := "A", type := 5, offset := 2, embedded := false, tag := "", pkgPath := "", byteOffset := 2 }, { name := "Front", type := 4, offset := 3, embedded := false, tag := "", pkgPath := "", byteOffset := 3 }], size := 4, bytes := 4, zero := Value.agg #[Value.int IntKind.u8 0, Value.int IntKind.u8 0, Value.int IntKind.u8 0, Value.bool false] }
theorem ti120_ok:TI.ok Tryd.prog 120 ti120:=⟨Tryd.underlying120,by kernel_rfl⟩
def ti121 : TI := { desc := TypeDesc.struct #[{ name := "Kind", type := 5, offset := 0, embedded := false, tag := "", pkgPath := "", byteOffset := 0 }, { name := "Yarn", type := 5, offset := 1, embedded := false, tag := "", pkgPath := "", byteOffset := 1 }, { name := "A", type := 5, offset := 2, embedded := false, tag := "", pkgPath := "", byteOffset := 2 }, { name := "Front", type := 4, offset := 3, embedded := false, tag := "", pkgPath := "", byteOffset := 3 }], size := 4, bytes := 4, zero := Value.agg #[Value.int IntKind.u8 0, Value.int IntKind.u8 0, Value.int IntKind.u8 0, Value.bool false] }
theorem ti121_ok:TI.ok Tryd.prog 121 ti121:=⟨Tryd.underlying121,by kernel_rfl⟩
def ti125:TI:={ desc:=TypeDesc.pointer 79,size:=1,bytes:=8,zero:=Value.pointer none }
theorem ti125_ok:TI.ok Tryd.prog 125 ti125:=⟨Tryd.underlying125,by kernel_rfl⟩
def ti127:TI:={ desc:=TypeDesc.func #[3,3] #[4] false,size:=1,bytes:=8,zero:=Value.nilFunc }
theorem ti127_ok:TI.ok Tryd.prog 127 ti127:=⟨Tryd.underlying127,by kernel_rfl⟩
def ti130:TI:={ desc:=TypeDesc.array 256 4,size:=256,bytes:=256,zero:=Value.agg (([Value.bool false,Value.bool false,Value.bool false,Value.bool false,Value.bool false,Value.bool false,Value.bool false,Value.bool false,Value.bool false,Value.bool false,Value.bool false,Value.bool false,Value.bool false,Value.bool false,Value.bool false,Value.bool false,Value.bool false,Value.bool false,Value.bool false,Value.bool false,Value.bool false,Value.bool false,Value.bool false,Value.bool false,Value.bool false,Value.bool false,Value.bool false,Value.bool false,Value.bool false,Value.bool false,Value.bool false,Value.bool false,Value.bool false,Value.bool false,Value.bool false,Value.bool false,Value.bool false,Value.bool false,Value.bool false,Value.bool false,Value.bool false,Value.bool false,Value.bool false,Value.bool false,Value.bool false,Value.bool false,Value.bool false,Value.bool false,Value.bool false,Value.bool false,Value.bool false,Value.bool false,Value.bool false,Value.bool false,Value.bool false,Value.bool false,Value.bool false,Value.bool false,Value.bool false,Value.bool false,Value.bool false,Value.bool false,Value.bool false,Value.bool false].append [Value.bool false,Value.bool false,Value.bool false,Value.bool false,Value.bool false,Value.bool false,Value.bool false,Value.bool false,Value.bool false,Value.bool false,Value.bool false,Value.bool false,Value.bool false,Value.bool false,Value.bool false,Value.bool false,Value.bool false,Value.bool false,Value.bool false,Value.bool false,Value.bool false,Value.bool false,Value.bool false,Value.bool false,Value.bool false,Value.bool false,Value.bool false,Value.bool false,Value.bool false,Value.bool false,Value.bool false,Value.bool false,Value.bool false,Value.bool false,Value.bool false,Value.bool false,Value.bool false,Value.bool false,Value.bool false,Value.bool false,Value.bool false,Value.bool false,Value.bool false,Value.bool false,Value.bool false,Value.bool false,Value.bool false,Value.bool false,Value.bool false,Value.bool false,Value.bool false,Value.bool false,Value.bool false,Value.bool false,Value.bool false,Value.bool false,Value.bool false,Value.bool false,Value.bool false,Value.bool false,Value.bool false,Value.bool false,Value.bool false,Value.bool false]).append ([Value.bool false,Value.bool false,Value.bool false,Value.bool false,Value.bool false,Value.bool false,Value.bool false,Value.bool false,Value.bool false,Value.bool false,Value.bool false,Value.bool false,Value.bool false,Value.bool false,Value.bool false,Value.bool false,Value.bool false,Value.bool false,Value.bool false,Value.bool false,Value.bool false,Value.bool false,Value.bool false,Value.bool false,Value.bool false,Value.bool false,Value.bool false,Value.bool false,Value.bool false,Value.bool false,Value.bool false,Value.bool false,Value.bool false,Value.bool false,Value.bool false,Value.bool false,Value.bool false,Value.bool false,Value.bool false,Value.bool false,Value.bool false,Value.bool false,Value.bool false,Value.bool false,Value.bool false,Value.bool false,Value.bool false,Value.bool false,Value.bool false,Value.bool false,Value.bool false,Value.bool false,Value.bool false,Value.bool false,Value.bool false,Value.bool false,Value.bool false,Value.bool false,Value.bool false,Value.bool false,Value.bool false,Value.bool false,Value.bool false,Value.bool false].append [Value.bool false,Value.bool false,Value.bool false,Value.bool false,Value.bool false,Value.bool false,Value.bool false,Value.bool false,Value.bool false,Value.bool false,Value.bool false,Value.bool false,Value.bool false,Value.bool false,Value.bool false,Value.bool false,Value.bool false,Value.bool false,Value.bool false,Value.bool false,Value.bool false,Value.bool false,Value.bool false,Value.bool false,Value.bool false,Value.bool false,Value.bool false,Value.bool false,Value.bool false,Value.bool false,Value.bool false,Value.bool false,Value.bool false,Value.bool false,Value.bool false,Value.bool false,Value.bool false,Value.bool false,Value.bool false,Value.bool false,Value.bool false,Value.bool false,Value.bool false,Value.bool false,Value.bool false,Value.bool false,Value.bool false,Value.bool false,Value.bool false,Value.bool false,Value.bool false,Value.bool false,Value.bool false,Value.bool false,Value.bool false,Value.bool false,Value.bool false,Value.bool false,Value.bool false,Value.bool false,Value.bool false,Value.bool false,Value.bool false,Value.bool false])).toArray }
theorem ti130_ok:TI.ok Tryd.prog 130 ti130:=⟨Tryd.underlying130,by kernel_rfl⟩
def ti131:TI:={ desc:=TypeDesc.pointer 96,size:=1,bytes:=8,zero:=Value.pointer none }
theorem ti131_ok:TI.ok Tryd.prog 131 ti131:=⟨Tryd.underlying131,by kernel_rfl⟩
def ti133:TI:={ desc:=TypeDesc.func #[30] #[] false,size:=1,bytes:=8,zero:=Value.nilFunc }
theorem ti133_ok:TI.ok Tryd.prog 133 ti133:=⟨Tryd.underlying133,by kernel_rfl⟩
def ti134:TI:={ desc:=TypeDesc.array 9 133,size:=9,bytes:=72,zero:=Value.agg #[Value.nilFunc,Value.nilFunc,Value.nilFunc,Value.nilFunc,Value.nilFunc,Value.nilFunc,Value.nilFunc,Value.nilFunc,Value.nilFunc] }
theorem ti134_ok:TI.ok Tryd.prog 134 ti134:=⟨Tryd.underlying134,by kernel_rfl⟩
def ti137:TI:={ desc:=TypeDesc.array 9 9,size:=9,bytes:=144,zero:=Value.agg #[Value.string { data:=#[] },Value.string { data:=#[] },Value.string { data:=#[] },Value.string { data:=#[] },Value.string { data:=#[] },Value.string { data:=#[] },Value.string { data:=#[] },Value.string { data:=#[] },Value.string { data:=#[] }] }
theorem ti137_ok:TI.ok Tryd.prog 137 ti137:=⟨Tryd.underlying137,by kernel_rfl⟩
def ti138:TI:={ desc:=TypeDesc.array 2 9,size:=2,bytes:=32,zero:=Value.agg #[Value.string { data:=#[] },Value.string { data:=#[] }] }
theorem ti138_ok:TI.ok Tryd.prog 138 ti138:=⟨Tryd.underlying138,by kernel_rfl⟩
def ti149:TI:={ desc:=TypeDesc.array 2 3,size:=2,bytes:=16,zero:=Value.agg #[Value.int IntKind.i64 0,Value.int IntKind.i64 0] }
theorem ti149_ok:TI.ok Tryd.prog 149 ti149:=⟨Tryd.underlying149,by kernel_rfl⟩
def ti150:TI:={ desc:=TypeDesc.slice 149,size:=1,bytes:=24,zero:=Value.slice none 0 0 }
theorem ti150_ok:TI.ok Tryd.prog 150 ti150:=⟨Tryd.underlying150,by kernel_rfl⟩
def ti153:TI:={ desc:=TypeDesc.pointer 155,size:=1,bytes:=8,zero:=Value.pointer none }
theorem ti153_ok:TI.ok Tryd.prog 153 ti153:=⟨Tryd.underlying153,by kernel_rfl⟩
def ti155 : TI := { desc := TypeDesc.struct #[{ name := "addr", type := 153, offset := 0, embedded := false, tag := "", pkgPath := "strings", byteOffset := 0 }, { name := "buf", type := 72, offset := 1, embedded := false, tag := "", pkgPath := "strings", byteOffset := 8 }], size := 2, bytes := 32, zero := Value.agg #[Value.pointer none, Value.slice none 0 0] }
theorem ti155_ok:TI.ok Tryd.prog 155 ti155:=⟨Tryd.underlying155,by kernel_rfl⟩
def ti157 : TI := { desc := TypeDesc.interface #[("Error", 160)], size := 1, bytes := 16, zero := Value.nilIface }
theorem ti157_ok:TI.ok Tryd.prog 157 ti157:=⟨Tryd.underlying157,by kernel_rfl⟩
def ti161:TI:={ desc:=TypeDesc.array 8 5,size:=8,bytes:=8,zero:=Value.agg #[Value.int IntKind.u8 0,Value.int IntKind.u8 0,Value.int IntKind.u8 0,Value.int IntKind.u8 0,Value.int IntKind.u8 0,Value.int IntKind.u8 0,Value.int IntKind.u8 0,Value.int IntKind.u8 0] }
theorem ti161_ok:TI.ok Tryd.prog 161 ti161:=⟨Tryd.underlying161,by kernel_rfl⟩
def ti163:TI:={ desc:=TypeDesc.func #[5,42] #[49] false,size:=1,bytes:=8,zero:=Value.nilFunc }
theorem ti163_ok:TI.ok Tryd.prog 163 ti163:=⟨Tryd.underlying163,by kernel_rfl⟩
def ti167 : TI := { desc := TypeDesc.struct #[{ name := "dir", type := 4, offset := 0, embedded := false, tag := "", pkgPath := "gansey/operations", byteOffset := 0 }, { name := "needle", type := 4, offset := 1, embedded := false, tag := "", pkgPath := "gansey/operations", byteOffset := 1 }, { name := "yarn", type := 4, offset := 2, embedded := false, tag := "", pkgPath := "gansey/operations", byteOffset := 2 }, { name := "rack", type := 4, offset := 3, embedded := false, tag := "", pkgPath := "gansey/operations", byteOffset := 3 }], size := 4, bytes := 4, zero := Value.agg #[Value.bool false, Value.bool false, Value.bool false, Value.bool false] }
theorem ti167_ok:TI.ok Tryd.prog 167 ti167:=⟨Tryd.underlying167,by kernel_rfl⟩
def ti169:TI:={ desc:=TypeDesc.map 43 167,size:=1,bytes:=8,zero:=Value.map none }
theorem ti169_ok:TI.ok Tryd.prog 169 ti169:=⟨Tryd.underlying169,by kernel_rfl⟩
def ti172:TI:={ desc:=TypeDesc.pointer 5,size:=1,bytes:=8,zero:=Value.pointer none }
theorem ti172_ok:TI.ok Tryd.prog 172 ti172:=⟨Tryd.underlying172,by kernel_rfl⟩
def ti176:TI:={ desc:=TypeDesc.array 24 5,size:=24,bytes:=24,zero:=Value.agg #[Value.int IntKind.u8 0,Value.int IntKind.u8 0,Value.int IntKind.u8 0,Value.int IntKind.u8 0,Value.int IntKind.u8 0,Value.int IntKind.u8 0,Value.int IntKind.u8 0,Value.int IntKind.u8 0,Value.int IntKind.u8 0,Value.int IntKind.u8 0,Value.int IntKind.u8 0,Value.int IntKind.u8 0,Value.int IntKind.u8 0,Value.int IntKind.u8 0,Value.int IntKind.u8 0,Value.int IntKind.u8 0,Value.int IntKind.u8 0,Value.int IntKind.u8 0,Value.int IntKind.u8 0,Value.int IntKind.u8 0,Value.int IntKind.u8 0,Value.int IntKind.u8 0,Value.int IntKind.u8 0,Value.int IntKind.u8 0] }
theorem ti176_ok:TI.ok Tryd.prog 176 ti176:=⟨Tryd.underlying176,by kernel_rfl⟩
def ti177:TI:={ desc:=TypeDesc.int IntKind.u64,size:=1,bytes:=8,zero:=Value.int IntKind.u64 0 }
theorem ti177_ok:TI.ok Tryd.prog 177 ti177:=⟨Tryd.underlying177,by kernel_rfl⟩
def ti182:TI:={ desc:=TypeDesc.unsafePointer,size:=1,bytes:=8,zero:=Value.pointer none }
theorem ti182_ok:TI.ok Tryd.prog 182 ti182:=⟨Tryd.underlying182,by kernel_rfl⟩
def ti186:TI:={ desc:=TypeDesc.array 20 177,size:=20,bytes:=160,zero:=Value.agg #[Value.int IntKind.u64 0,Value.int IntKind.u64 0,Value.int IntKind.u64 0,Value.int IntKind.u64 0,Value.int IntKind.u64 0,Value.int IntKind.u64 0,Value.int IntKind.u64 0,Value.int IntKind.u64 0,Value.int IntKind.u64 0,Value.int IntKind.u64 0,Value.int IntKind.u64 0,Value.int IntKind.u64 0,Value.int IntKind.u64 0,Value.int IntKind.u64 0,Value.int IntKind.u64 0,Value.int IntKind.u64 0,Value.int IntKind.u64 0,Value.int IntKind.u64 0,Value.int IntKind.u64 0,Value.int IntKind.u64 0] }
theorem ti186_ok:TI.ok Tryd.prog 186 ti186:=⟨Tryd.underlying186,by kernel_rfl⟩
def ti187:TI:={ desc:=TypeDesc.int IntKind.u32,size:=1,bytes:=4,zero:=Value.int IntKind.u32 0 }
theorem ti187_ok:TI.ok Tryd.prog 187 ti187:=⟨Tryd.underlying187,by kernel_rfl⟩
def ti188:TI:={ desc:=TypeDesc.array 65 5,size:=65,bytes:=65,zero:=Value.agg ([Value.int IntKind.u8 0,Value.int IntKind.u8 0,Value.int IntKind.u8 0,Value.int IntKind.u8 0,Value.int IntKind.u8 0,Value.int IntKind.u8 0,Value.int IntKind.u8 0,Value.int IntKind.u8 0,Value.int IntKind.u8 0,Value.int IntKind.u8 0,Value.int IntKind.u8 0,Value.int IntKind.u8 0,Value.int IntKind.u8 0,Value.int IntKind.u8 0,Value.int IntKind.u8 0,Value.int IntKind.u8 0,Value.int IntKind.u8 0,Value.int IntKind.u8 0,Value.int IntKind.u8 0,Value.int IntKind.u8 0,Value.int IntKind.u8 0,Value.int IntKind.u8 0,Value.int IntKind.u8 0,Value.int IntKind.u8 0,Value.int IntKind.u8 0,Value.int IntKind.u8 0,Value.int IntKind.u8 0,Value.int IntKind.u8 0,Value.int IntKind.u8 0,Value.int IntKind.u8 0,Value.int IntKind.u8 0,Value.int IntKind.u8 0].append [Value.int IntKind.u8 0,Value.int IntKind.u8 0,Value.int IntKind.u8 0,Value.int IntKind.u8 0,Value.int IntKind.u8 0,Value.int IntKind.u8 0,Value.int IntKind.u8 0,Value.int IntKind.u8 0,Value.int IntKind.u8 0,Value.int IntKind.u8 0,Value.int IntKind.u8 0,Value.int IntKind.u8 0,Value.int IntKind.u8 0,Value.int IntKind.u8 0,Value.int IntKind.u8 0,Value.int IntKind.u8 0,Value.int IntKind.u8 0,Value.int IntKind.u8 0,Value.int IntKind.u8 0,Value.int IntKind.u8 0,Value.int IntKind.u8 0,Value.int IntKind.u8 0,Value.int IntKind.u8 0,Value.int IntKind.u8 0,Value.int IntKind.u8 0,Value.int IntKind.u8 0,Value.int IntKind.u8 0,Value.int IntKind.u8 0,Value.int IntKind.u8 0,Value.int IntKind.u8 0,Value.int IntKind.u8 0,Value.int IntKind.u8 0,Value.int IntKind.u8 0]).toArray }
theorem ti188_ok:TI.ok Tryd.prog 188 ti188:=⟨Tryd.underlying188,by kernel_rfl⟩
def ti190:TI:={ desc:=TypeDesc.int IntKind.u64,size:=1,bytes:=8,zero:=Value.int IntKind.u64 0 }
theorem ti190_ok:TI.ok Tryd.prog 190 ti190:=⟨Tryd.underlying190,by kernel_rfl⟩
def ti193:TI:={ desc:=TypeDesc.array 32 5,size:=32,bytes:=32,zero:=Value.agg #[Value.int IntKind.u8 0,Value.int IntKind.u8 0,Value.int IntKind.u8 0,Value.int IntKind.u8 0,Value.int IntKind.u8 0,Value.int IntKind.u8 0,Value.int IntKind.u8 0,Value.int IntKind.u8 0,Value.int IntKind.u8 0,Value.int IntKind.u8 0,Value.int IntKind.u8 0,Value.int IntKind.u8 0,Value.int IntKind.u8 0,Value.int IntKind.u8 0,Value.int IntKind.u8 0,Value.int IntKind.u8 0,Value.int IntKind.u8 0,Value.int IntKind.u8 0,Value.int IntKind.u8 0,Value.int IntKind.u8 0,Value.int IntKind.u8 0,Value.int IntKind.u8 0,Value.int IntKind.u8 0,Value.int IntKind.u8 0,Value.int IntKind.u8 0,Value.int IntKind.u8 0,Value.int IntKind.u8 0,Value.int IntKind.u8 0,Value.int IntKind.u8 0,Value.int IntKind.u8 0,Value.int IntKind.u8 0,Value.int IntKind.u8 0] }
theorem ti193_ok:TI.ok Tryd.prog 193 ti193:=⟨Tryd.underlying193,by kernel_rfl⟩
def ti194:TI:={ desc:=TypeDesc.array 64 5,size:=64,bytes:=64,zero:=Value.agg #[Value.int IntKind.u8 0,Value.int IntKind.u8 0,Value.int IntKind.u8 0,Value.int IntKind.u8 0,Value.int IntKind.u8 0,Value.int IntKind.u8 0,Value.int IntKind.u8 0,Value.int IntKind.u8 0,Value.int IntKind.u8 0,Value.int IntKind.u8 0,Value.int IntKind.u8 0,Value.int IntKind.u8 0,Value.int IntKind.u8 0,Value.int IntKind.u8 0,Value.int IntKind.u8 0,Value.int IntKind.u8 0,Value.int IntKind.u8 0,Value.int IntKind.u8 0,Value.int IntKind.u8 0,Value.int IntKind.u8 0,Value.int IntKind.u8 0,Value.int IntKind.u8 0,Value.int IntKind.u8 0,Value.int IntKind.u8 0,Value.int IntKind.u8 0,Value.int IntKind.u8 0,Value.int IntKind.u8 0,Value.int IntKind.u8 0,Value.int IntKind.u8 0,Value.int IntKind.u8 0,Value.int IntKind.u8 0,Value.int IntKind.u8 0,Value.int IntKind.u8 0,Value.int IntKind.u8 0,Value.int IntKind.u8 0,Value.int IntKind.u8 0,Value.int IntKind.u8 0,Value.int IntKind.u8 0,Value.int IntKind.u8 0,Value.int IntKind.u8 0,Value.int IntKind.u8 0,Value.int IntKind.u8 0,Value.int IntKind.u8 0,Value.int IntKind.u8 0,Value.int IntKind.u8 0,Value.int IntKind.u8 0,Value.int IntKind.u8 0,Value.int IntKind.u8 0,Value.int IntKind.u8 0,Value.int IntKind.u8 0,Value.int IntKind.u8 0,Value.int IntKind.u8 0,Value.int IntKind.u8 0,Value.int IntKind.u8 0,Value.int IntKind.u8 0,Value.int IntKind.u8 0,Value.int IntKind.u8 0,Value.int IntKind.u8 0,Value.int IntKind.u8 0,Value.int IntKind.u8 0,Value.int IntKind.u8 0,Value.int IntKind.u8 0,Value.int IntKind.u8 0,Value.int IntKind.u8 0] }
theorem ti194_ok:TI.ok Tryd.prog 194 ti194:=⟨Tryd.underlying194,by kernel_rfl⟩
def ti197:TI:={ desc:=TypeDesc.array 0 16,size:=0,bytes:=0,zero:=Value.agg #[] }
theorem ti197_ok:TI.ok Tryd.prog 197 ti197:=⟨Tryd.underlying197,by kernel_rfl⟩
def ti201:TI:={ desc:=TypeDesc.int IntKind.u8,size:=1,bytes:=1,zero:=Value.int IntKind.u8 0 }
theorem ti201_ok:TI.ok Tryd.prog 201 ti201:=⟨Tryd.underlying201,by kernel_rfl⟩
def ti202:TI:={ desc:=TypeDesc.int IntKind.u8,size:=1,bytes:=1,zero:=Value.int IntKind.u8 0 }
theorem ti202_ok:TI.ok Tryd.prog 202 ti202:=⟨Tryd.underlying202,by kernel_rfl⟩
def ti203:TI:={ desc:=TypeDesc.func #[182,182] #[4] false,size:=1,bytes:=8,zero:=Value.nilFunc }
theorem ti203_ok:TI.ok Tryd.prog 203 ti203:=⟨Tryd.underlying203,by kernel_rfl⟩
def ti204:TI:={ desc:=TypeDesc.int IntKind.i32,size:=1,bytes:=4,zero:=Value.int IntKind.i32 0 }
theorem ti204_ok:TI.ok Tryd.prog 204 ti204:=⟨Tryd.underlying204,by kernel_rfl⟩
def ti205:TI:={ desc:=TypeDesc.int IntKind.i32,size:=1,bytes:=4,zero:=Value.int IntKind.i32 0 }
theorem ti205_ok:TI.ok Tryd.prog 205 ti205:=⟨Tryd.underlying205,by kernel_rfl⟩
def ti207 : TI := { desc := TypeDesc.struct #[{ name := "Size_", type := 12, offset := 0, embedded := false, tag := "", pkgPath := "", byteOffset := 0 }, { name := "PtrBytes", type := 12, offset := 1, embedded := false, tag := "", pkgPath := "", byteOffset := 8 }, { name := "Hash", type := 187, offset := 2, embedded := false, tag := "", pkgPath := "", byteOffset := 16 }, { name := "TFlag", type := 201, offset := 3, embedded := false, tag := "", pkgPath := "", byteOffset := 20 }, { name := "Align_", type := 5, offset := 4, embedded := false, tag := "", pkgPath := "", byteOffset := 21 }, { name := "FieldAlign_", type := 5, offset := 5, embedded := false, tag := "", pkgPath := "", byteOffset := 22 }, { name := "Kind_", type := 202, offset := 6, embedded := false, tag := "", pkgPath := "", byteOffset := 23 }, { name := "Equal", type := 203, offset := 7, embedded := false, tag := "", pkgPath := "", byteOffset := 24 }, { name := "GCData", type := 172, offset := 8, embedded := false, tag := "", pkgPath := "", byteOffset := 32 }, { name := "Str", type := 204, offset := 9, embedded := false, tag := "", pkgPath := "", byteOffset := 40 }, { name := "PtrToThis", type := 205, offset := 10, embedded := false, tag := "", pkgPath := "", byteOffset := 44 }], size := 11, bytes := 48, zero := Value.agg #[Value.int IntKind.u64 0, Value.int IntKind.u64 0, Value.int IntKind.u32 0, Value.int IntKind.u8 0, Value.int IntKind.u8 0, Value.int IntKind.u8 0, Value.int IntKind.u8 0, Value.nilFunc, Value.pointer none, Value.int IntKind.i32 0, Value.int IntKind.i32 0] }
theorem ti207_ok:TI.ok Tryd.prog 207 ti207:=⟨Tryd.underlying207,by kernel_rfl⟩
def tab:List (TypeId×TI):=[(1,ti1),(2,ti2),(3,ti3),(4,ti4),(5,ti5),(6,ti6),(9,ti9),(10,ti10),(11,ti11),(12,ti12),(15,ti15),(16,ti16),(17,ti17),(20,ti20),(21,ti21),(22,ti22),(23,ti23),(24,ti24),(25,ti25),(26,ti26),(27,ti27),(28,ti28),(29,ti29),(30,ti30),(31,ti31),(32,ti32),(33,ti33),(34,ti34),(35,ti35),(36,ti36),(37,ti37),(38,ti38),(39,ti39),(40,ti40),(41,ti41),(42,ti42),(43,ti43),(44,ti44),(45,ti45),(46,ti46),(47,ti47),(48,ti48),(49,ti49),(52,ti52),(55,ti55),(56,ti56),(57,ti57),(58,ti58),(59,ti59),(60,ti60),(61,ti61),(63,ti63),(64,ti64),(65,ti65),(66,ti66),(68,ti68),(70,ti70),(71,ti71),(72,ti72),(74,ti74),(75,ti75),(76,ti76),(79,ti79),(80,ti80),(81,ti81),(82,ti82),(83,ti83),(84,ti84),(85,ti85),(86,ti86),(87,ti87),(88,ti88),(90,ti90),(93,ti93),(94,ti94),(95,ti95),(96,ti96),(97,ti97),(98,ti98),(100,ti100),(101,ti101),(102,ti102),(103,ti103),(105,ti105),(106,ti106),(107,ti107),(108,ti108),(109,ti109),(110,ti110),(111,ti111),(120,ti120),(121,ti121),(125,ti125),(127,ti127),(130,ti130),(131,ti131),(133,ti133),(134,ti134),(137,ti137),(138,ti138),(149,ti149),(150,ti150),(153,ti153),(155,ti155),(157,ti157),(161,ti161),(163,ti163),(167,ti167),(169,ti169),(172,ti172),(176,ti176),(177,ti177),(182,ti182),(186,ti186),(187,ti187),(188,ti188),(190,ti190),(193,ti193),(194,ti194),(197,ti197),(201,ti201),(202,ti202),(203,ti203),(204,ti204),(205,ti205),(207,ti207)]
theorem tab_ok:TabOk Tryd.prog tab:=TabOk.cons ti1_ok (TabOk.cons ti2_ok (TabOk.cons ti3_ok (TabOk.cons ti4_ok (TabOk.cons ti5_ok (TabOk.cons ti6_ok (TabOk.cons ti9_ok (TabOk.cons ti10_ok (TabOk.cons ti11_ok (TabOk.cons ti12_ok (TabOk.cons ti15_ok (TabOk.cons ti16_ok (TabOk.cons ti17_ok (TabOk.cons ti20_ok (TabOk.cons ti21_ok (TabOk.cons ti22_ok (TabOk.cons ti23_ok (TabOk.cons ti24_ok (TabOk.cons ti25_ok (TabOk.cons ti26_ok (TabOk.cons ti27_ok (TabOk.cons ti28_ok (TabOk.cons ti29_ok (TabOk.cons ti30_ok (TabOk.cons ti31_ok (TabOk.cons ti32_ok (TabOk.cons ti33_ok (TabOk.cons ti34_ok (TabOk.cons ti35_ok (TabOk.cons ti36_ok (TabOk.cons ti37_ok (TabOk.cons ti38_ok (TabOk.cons ti39_ok (TabOk.cons ti40_ok (TabOk.cons ti41_ok (TabOk.cons ti42_ok (TabOk.cons ti43_ok (TabOk.cons ti44_ok (TabOk.cons ti45_ok (TabOk.cons ti46_ok (TabOk.cons ti47_ok (TabOk.cons ti48_ok (TabOk.cons ti49_ok (TabOk.cons ti52_ok (TabOk.cons ti55_ok (TabOk.cons ti56_ok (TabOk.cons ti57_ok (TabOk.cons ti58_ok (TabOk.cons ti59_ok (TabOk.cons ti60_ok (TabOk.cons ti61_ok (TabOk.cons ti63_ok (TabOk.cons ti64_ok (TabOk.cons ti65_ok (TabOk.cons ti66_ok (TabOk.cons ti68_ok (TabOk.cons ti70_ok (TabOk.cons ti71_ok (TabOk.cons ti72_ok (TabOk.cons ti74_ok (TabOk.cons ti75_ok (TabOk.cons ti76_ok (TabOk.cons ti79_ok (TabOk.cons ti80_ok (TabOk.cons ti81_ok (TabOk.cons ti82_ok (TabOk.cons ti83_ok (TabOk.cons ti84_ok (TabOk.cons ti85_ok (TabOk.cons ti86_ok (TabOk.cons ti87_ok (TabOk.cons ti88_ok (TabOk.cons ti90_ok (TabOk.cons ti93_ok (TabOk.cons ti94_ok (TabOk.cons ti95_ok (TabOk.cons ti96_ok (TabOk.cons ti97_ok (TabOk.cons ti98_ok (TabOk.cons ti100_ok (TabOk.cons ti101_ok (TabOk.cons ti102_ok (TabOk.cons ti103_ok (TabOk.cons ti105_ok (TabOk.cons ti106_ok (TabOk.cons ti107_ok (TabOk.cons ti108_ok (TabOk.cons ti109_ok (TabOk.cons ti110_ok (TabOk.cons ti111_ok (TabOk.cons ti120_ok (TabOk.cons ti121_ok (TabOk.cons ti125_ok (TabOk.cons ti127_ok (TabOk.cons ti130_ok (TabOk.cons ti131_ok (TabOk.cons ti133_ok (TabOk.cons ti134_ok (TabOk.cons ti137_ok (TabOk.cons ti138_ok (TabOk.cons ti149_ok (TabOk.cons ti150_ok (TabOk.cons ti153_ok (TabOk.cons ti155_ok (TabOk.cons ti157_ok (TabOk.cons ti161_ok (TabOk.cons ti163_ok (TabOk.cons ti167_ok (TabOk.cons ti169_ok (TabOk.cons ti172_ok (TabOk.cons ti176_ok (TabOk.cons ti177_ok (TabOk.cons ti182_ok (TabOk.cons ti186_ok (TabOk.cons ti187_ok (TabOk.cons ti188_ok (TabOk.cons ti190_ok (TabOk.cons ti193_ok (TabOk.cons ti194_ok (TabOk.cons ti197_ok (TabOk.cons ti201_ok (TabOk.cons ti202_ok (TabOk.cons ti203_ok (TabOk.cons ti204_ok (TabOk.cons ti205_ok (TabOk.cons ti207_ok (TabOk.nil _))))))))))))))))))))))))))))))))))))))))))))))))))))))))))))))))))))))))))))))))))))))))))))))))))))))))))))))))))))))))))))))
end Go.Proofs.YtihcolehefloeaaDoor

/- The table of types as a tree. -/
namespace Go.Proofs.YtihcolehefloeaaDoor
def te1:TE:=⟨ti1,none⟩
theorem te1_ok:TE.ok Tryd.prog 1 te1:=⟨ti1_ok,fun g hg=>by cases hg⟩
def te2:TE:=⟨ti2,some (.int .i64)⟩
theorem te2_ok:TE.ok Tryd.prog 2 te2:=⟨ti2_ok,fun g hg=>by cases hg; exact ⟨rfl,rfl,by decide⟩⟩
def te3:TE:=⟨ti3,some (.int .i64)⟩
theorem te3_ok:TE.ok Tryd.prog 3 te3:=⟨ti3_ok,fun g hg=>by cases hg; exact ⟨rfl,rfl,by decide⟩⟩
def te4:TE:=⟨ti4,some (.bool)⟩
theorem te4_ok:TE.ok Tryd.prog 4 te4:=⟨ti4_ok,fun g hg=>by cases hg; exact ⟨rfl,rfl,by decide⟩⟩
def te5:TE:=⟨ti5,some (.int .u8)⟩
theorem te5_ok:TE.ok Tryd.prog 5 te5:=⟨ti5_ok,fun g hg=>by cases hg; exact ⟨rfl,rfl,by decide⟩⟩
def te6:TE:=⟨ti6,some (.int .u8)⟩
theorem te6_ok:TE.ok Tryd.prog 6 te6:=⟨ti6_ok,fun g hg=>by cases hg; exact ⟨rfl,rfl,by decide⟩⟩
def te9:TE:=⟨ti9,some (.str)⟩
theorem te9_ok:TE.ok Tryd.prog 9 te9:=⟨ti9_ok,fun g hg=>by cases hg; exact ⟨rfl,rfl,by decide⟩⟩
def te10:TE:=⟨ti10,some (.str)⟩
theorem te10_ok:TE.ok Tryd.prog 10 te10:=⟨ti10_ok,fun g hg=>by cases hg; exact ⟨rfl,rfl,by decide⟩⟩
def te11:TE:=⟨ti11,some (.str)⟩
theorem te11_ok:TE.ok Tryd.prog 11 te11:=⟨ti11_ok,fun g hg=>by cases hg; exact ⟨rfl,rfl,by decide⟩⟩
def te12:TE:=⟨ti12,some (.int .u64)⟩
theorem te12_ok:TE.ok Tryd.prog 12 te12:=⟨ti12_ok,fun g hg=>by cases hg; exact ⟨rfl,rfl,by decide⟩⟩
def te15:TE:=⟨ti15,none⟩
theorem te15_ok:TE.ok Tryd.prog 15 te15:=⟨ti15_ok,fun g hg=>by cases hg⟩
def te16:TE:=⟨ti16,none⟩
theorem te16_ok:TE.ok Tryd.prog 16 te16:=⟨ti16_ok,fun g hg=>by cases hg⟩
def te17:TE:=⟨ti17,none⟩
theorem te17_ok:TE.ok Tryd.prog 17 te17:=⟨ti17_ok,fun g hg=>by cases hg⟩
def te20:TE:=⟨ti20,none⟩
theorem te20_ok:TE.ok Tryd.prog 20 te20:=⟨ti20_ok,fun g hg=>by cases hg⟩
def te21:TE:=⟨ti21,some (.int .i32)⟩
theorem te21_ok:TE.ok Tryd.prog 21 te21:=⟨ti21_ok,fun g hg=>by cases hg; exact ⟨rfl,rfl,by decide⟩⟩
def te22:TE:=⟨ti22,some (.sl (.sl (.int .u8)))⟩
theorem te22_ok:TE.ok Tryd.prog 22 te22:=⟨ti22_ok,fun g hg=>by cases hg; exact ⟨rfl,rfl,by decide⟩⟩
def te23:TE:=⟨ti23,some (.pair (.int .u8) (.sl (.sl (.int .u8))))⟩
theorem te23_ok:TE.ok Tryd.prog 23 te23:=⟨ti23_ok,fun g hg=>by cases hg; exact ⟨rfl,rfl,by decide⟩⟩
def te24:TE:=⟨ti24,some (.pair (.int .u8) (.sl (.sl (.int .u8))))⟩
theorem te24_ok:TE.ok Tryd.prog 24 te24:=⟨ti24_ok,fun g hg=>by cases hg; exact ⟨rfl,rfl,by decide⟩⟩
def te25:TE:=⟨ti25,some (.pair (.int .u8) (.pair (.int .u8) (.pair (.int .u8) (.pair (.int .u8) (.pair (.int .u8) (.pair (.int .u8) (.int .u8)))))))⟩
theorem te25_ok:TE.ok Tryd.prog 25 te25:=⟨ti25_ok,fun g hg=>by cases hg; exact ⟨rfl,rfl,by decide⟩⟩
def te26:TE:=⟨ti26,some (.sl (.sl (.pair (.int .u8) (.pair (.int .u8) (.pair (.int .i64) (.pair (.int .i64) (.bool)))))))⟩
theorem te26_ok:TE.ok Tryd.prog 26 te26:=⟨ti26_ok,fun g hg=>by cases hg; exact ⟨rfl,rfl,by decide⟩⟩
def te27:TE:=⟨ti27,some (.sl (.sl (.pair (.int .u8) (.pair (.int .u8) (.pair (.int .i64) (.pair (.int .i64) (.bool)))))))⟩
theorem te27_ok:TE.ok Tryd.prog 27 te27:=⟨ti27_ok,fun g hg=>by cases hg; exact ⟨rfl,rfl,by decide⟩⟩
def te28:TE:=⟨ti28,some (.sl (.sl (.pair (.int .u8) (.pair (.int .u8) (.pair (.int .i64) (.pair (.int .i64) (.bool)))))))⟩
theorem te28_ok:TE.ok Tryd.prog 28 te28:=⟨ti28_ok,fun g hg=>by cases hg; exact ⟨rfl,rfl,by decide⟩⟩
def te29:TE:=⟨ti29,none⟩
theorem te29_ok:TE.ok Tryd.prog 29 te29:=⟨ti29_ok,fun g hg=>by cases hg⟩
def te30:TE:=⟨ti30,some (.sl (.pair (.int .u8) (.int .i64)))⟩
theorem te30_ok:TE.ok Tryd.prog 30 te30:=⟨ti30_ok,fun g hg=>by cases hg; exact ⟨rfl,rfl,by decide⟩⟩
def te31:TE:=⟨ti31,some (.int .u8)⟩
theorem te31_ok:TE.ok Tryd.prog 31 te31:=⟨ti31_ok,fun g hg=>by cases hg; exact ⟨rfl,rfl,by decide⟩⟩
def te32:TE:=⟨ti32,some (.pair (.int .u8) (.pair (.int .u8) (.pair (.int .u8) (.pair (.int .u8) (.pair (.int .u8) (.int .u8))))))⟩
theorem te32_ok:TE.ok Tryd.prog 32 te32:=⟨ti32_ok,fun g hg=>by cases hg; exact ⟨rfl,rfl,by decide⟩⟩
def te33:TE:=⟨ti33,some (.pair (.sl (.pair (.int .u8) (.int .i64))) (.pair (.int .u8) (.pair (.int .u8) (.pair (.int .u8) (.pair (.int .u8) (.pair (.int .u8) (.int .u8)))))))⟩
theorem te33_ok:TE.ok Tryd.prog 33 te33:=⟨ti33_ok,fun g hg=>by cases hg; exact ⟨rfl,rfl,by decide⟩⟩
def te34:TE:=⟨ti34,some (.pair (.sl (.pair (.int .u8) (.int .i64))) (.pair (.int .u8) (.pair (.int .u8) (.pair (.int .u8) (.pair (.int .u8) (.pair (.int .u8) (.int .u8)))))))⟩
theorem te34_ok:TE.ok Tryd.prog 34 te34:=⟨ti34_ok,fun g hg=>by cases hg; exact ⟨rfl,rfl,by decide⟩⟩
def te35:TE:=⟨ti35,none⟩
theorem te35_ok:TE.ok Tryd.prog 35 te35:=⟨ti35_ok,fun g hg=>by cases hg⟩
def te36:TE:=⟨ti36,some (.sl (.pair (.int .u8) (.pair (.int .u8) (.pair (.int .i64) (.pair (.int .i64) (.bool))))))⟩
theorem te36_ok:TE.ok Tryd.prog 36 te36:=⟨ti36_ok,fun g hg=>by cases hg; exact ⟨rfl,rfl,by decide⟩⟩
def te37:TE:=⟨ti37,some (.int .u8)⟩
theorem te37_ok:TE.ok Tryd.prog 37 te37:=⟨ti37_ok,fun g hg=>by cases hg; exact ⟨rfl,rfl,by decide⟩⟩
def te38:TE:=⟨ti38,some (.pair (.int .u8) (.int .i64))⟩
theorem te38_ok:TE.ok Tryd.prog 38 te38:=⟨ti38_ok,fun g hg=>by cases hg; exact ⟨rfl,rfl,by decide⟩⟩
def te39:TE:=⟨ti39,some (.pair (.int .u8) (.int .i64))⟩
theorem te39_ok:TE.ok Tryd.prog 39 te39:=⟨ti39_ok,fun g hg=>by cases hg; exact ⟨rfl,rfl,by decide⟩⟩
def te40:TE:=⟨ti40,some (.int .u8)⟩
theorem te40_ok:TE.ok Tryd.prog 40 te40:=⟨ti40_ok,fun g hg=>by cases hg; exact ⟨rfl,rfl,by decide⟩⟩
def te41:TE:=⟨ti41,some (.sl (.pair (.int .u8) (.pair (.int .u8) (.pair (.pair (.int .u8) (.int .i64)) (.pair (.int .u8) (.int .i64))))))⟩
theorem te41_ok:TE.ok Tryd.prog 41 te41:=⟨ti41_ok,fun g hg=>by cases hg; exact ⟨rfl,rfl,by decide⟩⟩
def te42:TE:=⟨ti42,some (.sl (.int .i64))⟩
theorem te42_ok:TE.ok Tryd.prog 42 te42:=⟨ti42_ok,fun g hg=>by cases hg; exact ⟨rfl,rfl,by decide⟩⟩
def te43:TE:=⟨ti43,some (.int .u8)⟩
theorem te43_ok:TE.ok Tryd.prog 43 te43:=⟨ti43_ok,fun g hg=>by cases hg; exact ⟨rfl,rfl,by decide⟩⟩
def te44:TE:=⟨ti44,some (.pair (.int .u8) (.pair (.int .u8) (.pair (.pair (.int .u8) (.int .i64)) (.pair (.int .u8) (.int .i64)))))⟩
theorem te44_ok:TE.ok Tryd.prog 44 te44:=⟨ti44_ok,fun g hg=>by cases hg; exact ⟨rfl,rfl,by decide⟩⟩
def te45:TE:=⟨ti45,some (.pair (.int .u8) (.pair (.int .u8) (.pair (.pair (.int .u8) (.int .i64)) (.pair (.int .u8) (.int .i64)))))⟩
theorem te45_ok:TE.ok Tryd.prog 45 te45:=⟨ti45_ok,fun g hg=>by cases hg; exact ⟨rfl,rfl,by decide⟩⟩
def te46:TE:=⟨ti46,some (.int .u8)⟩
theorem te46_ok:TE.ok Tryd.prog 46 te46:=⟨ti46_ok,fun g hg=>by cases hg; exact ⟨rfl,rfl,by decide⟩⟩
def te47:TE:=⟨ti47,some (.pair (.int .u8) (.pair (.int .u8) (.pair (.int .i64) (.pair (.int .i64) (.bool)))))⟩
theorem te47_ok:TE.ok Tryd.prog 47 te47:=⟨ti47_ok,fun g hg=>by cases hg; exact ⟨rfl,rfl,by decide⟩⟩
def te48:TE:=⟨ti48,some (.pair (.int .u8) (.pair (.int .u8) (.pair (.int .i64) (.pair (.int .i64) (.bool)))))⟩
theorem te48_ok:TE.ok Tryd.prog 48 te48:=⟨ti48_ok,fun g hg=>by cases hg; exact ⟨rfl,rfl,by decide⟩⟩
def te49:TE:=⟨ti49,some (.int .i64)⟩
theorem te49_ok:TE.ok Tryd.prog 49 te49:=⟨ti49_ok,fun g hg=>by cases hg; exact ⟨rfl,rfl,by decide⟩⟩
def te52:TE:=⟨ti52,none⟩
theorem te52_ok:TE.ok Tryd.prog 52 te52:=⟨ti52_ok,fun g hg=>by cases hg⟩
def te55:TE:=⟨ti55,none⟩
theorem te55_ok:TE.ok Tryd.prog 55 te55:=⟨ti55_ok,fun g hg=>by cases hg⟩
def te56:TE:=⟨ti56,none⟩
theorem te56_ok:TE.ok Tryd.prog 56 te56:=⟨ti56_ok,fun g hg=>by cases hg⟩
def te57:TE:=⟨ti57,none⟩
theorem te57_ok:TE.ok Tryd.prog 57 te57:=⟨ti57_ok,fun g hg=>by cases hg⟩
def te58:TE:=⟨ti58,none⟩
theorem te58_ok:TE.ok Tryd.prog 58 te58:=⟨ti58_ok,fun g hg=>by cases hg⟩
def te59:TE:=⟨ti59,none⟩
theorem te59_ok:TE.ok Tryd.prog 59 te59:=⟨ti59_ok,fun g hg=>by cases hg⟩
def te60:TE:=⟨ti60,none⟩
theorem te60_ok:TE.ok Tryd.prog 60 te60:=⟨ti60_ok,fun g hg=>by cases hg⟩
def te61:TE:=⟨ti61,some (.sl (.sl (.pair (.int .u8) (.int .i64))))⟩
theorem te61_ok:TE.ok Tryd.prog 61 te61:=⟨ti61_ok,fun g hg=>by cases hg; exact ⟨rfl,rfl,by decide⟩⟩
def te63:TE:=⟨ti63,none⟩
theorem te63_ok:TE.ok Tryd.prog 63 te63:=⟨ti63_ok,fun g hg=>by cases hg⟩
def te64:TE:=⟨ti64,none⟩
theorem te64_ok:TE.ok Tryd.prog 64 te64:=⟨ti64_ok,fun g hg=>by cases hg⟩
def te65:TE:=⟨ti65,none⟩
theorem te65_ok:TE.ok Tryd.prog 65 te65:=⟨ti65_ok,fun g hg=>by cases hg⟩
def te66:TE:=⟨ti66,none⟩
theorem te66_ok:TE.ok Tryd.prog 66 te66:=⟨ti66_ok,fun g hg=>by cases hg⟩
def te68:TE:=⟨ti68,none⟩
theorem te68_ok:TE.ok Tryd.prog 68 te68:=⟨ti68_ok,fun g hg=>by cases hg⟩
def te70:TE:=⟨ti70,none⟩
theorem te70_ok:TE.ok Tryd.prog 70 te70:=⟨ti70_ok,fun g hg=>by cases hg⟩
def te71:TE:=⟨ti71,none⟩
theorem te71_ok:TE.ok Tryd.prog 71 te71:=⟨ti71_ok,fun g hg=>by cases hg⟩
def te72:TE:=⟨ti72,some (.sl (.int .u8))⟩
theorem te72_ok:TE.ok Tryd.prog 72 te72:=⟨ti72_ok,fun g hg=>by cases hg; exact ⟨rfl,rfl,by decide⟩⟩
def te74:TE:=⟨ti74,none⟩
theorem te74_ok:TE.ok Tryd.prog 74 te74:=⟨ti74_ok,fun g hg=>by cases hg⟩
def te75:TE:=⟨ti75,none⟩
theorem te75_ok:TE.ok Tryd.prog 75 te75:=⟨ti75_ok,fun g hg=>by cases hg⟩
def te76:TE:=⟨ti76,none⟩
theorem te76_ok:TE.ok Tryd.prog 76 te76:=⟨ti76_ok,fun g hg=>by cases hg⟩
def te79:TE:=⟨ti79,some (.pair (.sl (.pair (.int .u8) (.pair (.int .u8) (.pair (.pair (.int .u8) (.int .i64)) (.pair (.int .u8) (.int .i64)))))) (.int .i64))⟩
theorem te79_ok:TE.ok Tryd.prog 79 te79:=⟨ti79_ok,fun g hg=>by cases hg; exact ⟨rfl,rfl,by decide⟩⟩
def te80:TE:=⟨ti80,none⟩
theorem te80_ok:TE.ok Tryd.prog 80 te80:=⟨ti80_ok,fun g hg=>by cases hg⟩
def te81:TE:=⟨ti81,none⟩
theorem te81_ok:TE.ok Tryd.prog 81 te81:=⟨ti81_ok,fun g hg=>by cases hg⟩
def te82:TE:=⟨ti82,none⟩
theorem te82_ok:TE.ok Tryd.prog 82 te82:=⟨ti82_ok,fun g hg=>by cases hg⟩
def te83:TE:=⟨ti83,none⟩
theorem te83_ok:TE.ok Tryd.prog 83 te83:=⟨ti83_ok,fun g hg=>by cases hg⟩
def te84:TE:=⟨ti84,none⟩
theorem te84_ok:TE.ok Tryd.prog 84 te84:=⟨ti84_ok,fun g hg=>by cases hg⟩
def te85:TE:=⟨ti85,none⟩
theorem te85_ok:TE.ok Tryd.prog 85 te85:=⟨ti85_ok,fun g hg=>by cases hg⟩
def te86:TE:=⟨ti86,none⟩
theorem te86_ok:TE.ok Tryd.prog 86 te86:=⟨ti86_ok,fun g hg=>by cases hg⟩
def te87:TE:=⟨ti87,none⟩
theorem te87_ok:TE.ok Tryd.prog 87 te87:=⟨ti87_ok,fun g hg=>by cases hg⟩
def te88:TE:=⟨ti88,none⟩
theorem te88_ok:TE.ok Tryd.prog 88 te88:=⟨ti88_ok,fun g hg=>by cases hg⟩
def te90:TE:=⟨ti90,some (.pair (.sl (.int .i64)) (.pair (.sl (.int .i64)) (.pair (.int .i64) (.sl (.int .i64)))))⟩
theorem te90_ok:TE.ok Tryd.prog 90 te90:=⟨ti90_ok,fun g hg=>by cases hg; exact ⟨rfl,rfl,by decide⟩⟩
def te93:TE:=⟨ti93,none⟩
theorem te93_ok:TE.ok Tryd.prog 93 te93:=⟨ti93_ok,fun g hg=>by cases hg⟩
def te94:TE:=⟨ti94,none⟩
theorem te94_ok:TE.ok Tryd.prog 94 te94:=⟨ti94_ok,fun g hg=>by cases hg⟩
def te95:TE:=⟨ti95,some (.pair (.sl (.pair (.int .u8) (.pair (.int .u8) (.pair (.pair (.int .u8) (.int .i64)) (.pair (.int .u8) (.int .i64)))))) (.pair (.int .u8) (.int .u8)))⟩
theorem te95_ok:TE.ok Tryd.prog 95 te95:=⟨ti95_ok,fun g hg=>by cases hg; exact ⟨rfl,rfl,by decide⟩⟩
def te96:TE:=⟨ti96,some (.pair (.sl (.pair (.int .u8) (.pair (.int .u8) (.pair (.pair (.int .u8) (.int .i64)) (.pair (.int .u8) (.int .i64)))))) (.pair (.int .u8) (.int .u8)))⟩
theorem te96_ok:TE.ok Tryd.prog 96 te96:=⟨ti96_ok,fun g hg=>by cases hg; exact ⟨rfl,rfl,by decide⟩⟩
def te97:TE:=⟨ti97,none⟩
theorem te97_ok:TE.ok Tryd.prog 97 te97:=⟨ti97_ok,fun g hg=>by cases hg⟩
def te98:TE:=⟨ti98,none⟩
theorem te98_ok:TE.ok Tryd.prog 98 te98:=⟨ti98_ok,fun g hg=>by cases hg⟩
def te100:TE:=⟨ti100,none⟩
theorem te100_ok:TE.ok Tryd.prog 100 te100:=⟨ti100_ok,fun g hg=>by cases hg⟩
def te101:TE:=⟨ti101,some (.sl (.str))⟩
theorem te101_ok:TE.ok Tryd.prog 101 te101:=⟨ti101_ok,fun g hg=>by cases hg; exact ⟨rfl,rfl,by decide⟩⟩
def te102:TE:=⟨ti102,none⟩
theorem te102_ok:TE.ok Tryd.prog 102 te102:=⟨ti102_ok,fun g hg=>by cases hg⟩
def te103:TE:=⟨ti103,none⟩
theorem te103_ok:TE.ok Tryd.prog 103 te103:=⟨ti103_ok,fun g hg=>by cases hg⟩
def te105:TE:=⟨ti105,none⟩
theorem te105_ok:TE.ok Tryd.prog 105 te105:=⟨ti105_ok,fun g hg=>by cases hg⟩
def te106:TE:=⟨ti106,none⟩
theorem te106_ok:TE.ok Tryd.prog 106 te106:=⟨ti106_ok,fun g hg=>by cases hg⟩
def te107:TE:=⟨ti107,none⟩
theorem te107_ok:TE.ok Tryd.prog 107 te107:=⟨ti107_ok,fun g hg=>by cases hg⟩
def te108:TE:=⟨ti108,none⟩
theorem te108_ok:TE.ok Tryd.prog 108 te108:=⟨ti108_ok,fun g hg=>by cases hg⟩
def te109:TE:=⟨ti109,none⟩
theorem te109_ok:TE.ok Tryd.prog 109 te109:=⟨ti109_ok,fun g hg=>by cases hg⟩
def te110:TE:=⟨ti110,none⟩
theorem te110_ok:TE.ok Tryd.prog 110 te110:=⟨ti110_ok,fun g hg=>by cases hg⟩
def te111:TE:=⟨ti111,some (.sl (.sl (.int .i64)))⟩
theorem te111_ok:TE.ok Tryd.prog 111 te111:=⟨ti111_ok,fun g hg=>by cases hg; exact ⟨rfl,rfl,by decide⟩⟩
def te120:TE:=⟨ti120,some (.pair (.int .u8) (.pair (.int .u8) (.pair (.int .u8) (.bool))))⟩
theorem te120_ok:TE.ok Tryd.prog 120 te120:=⟨ti120_ok,fun g hg=>by cases hg; exact ⟨rfl,rfl,by decide⟩⟩
def te121:TE:=⟨ti121,some (.pair (.int .u8) (.pair (.int .u8) (.pair (.int .u8) (.bool))))⟩
theorem te121_ok:TE.ok Tryd.prog 121 te121:=⟨ti121_ok,fun g hg=>by cases hg; exact ⟨rfl,rfl,by decide⟩⟩
def te125:TE:=⟨ti125,none⟩
theorem te125_ok:TE.ok Tryd.prog 125 te125:=⟨ti125_ok,fun g hg=>by cases hg⟩
def te127:TE:=⟨ti127,none⟩
theorem te127_ok:TE.ok Tryd.prog 127 te127:=⟨ti127_ok,fun g hg=>by cases hg⟩
def te130:TE:=⟨ti130,none⟩
theorem te130_ok:TE.ok Tryd.prog 130 te130:=⟨ti130_ok,fun g hg=>by cases hg⟩
def te131:TE:=⟨ti131,none⟩
theorem te131_ok:TE.ok Tryd.prog 131 te131:=⟨ti131_ok,fun g hg=>by cases hg⟩
def te133:TE:=⟨ti133,none⟩
theorem te133_ok:TE.ok Tryd.prog 133 te133:=⟨ti133_ok,fun g hg=>by cases hg⟩
def te134:TE:=⟨ti134,none⟩
theorem te134_ok:TE.ok Tryd.prog 134 te134:=⟨ti134_ok,fun g hg=>by cases hg⟩
def te137:TE:=⟨ti137,some (.pair (.str) (.pair (.str) (.pair (.str) (.pair (.str) (.pair (.str) (.pair (.str) (.pair (.str) (.pair (.str) (.str)))))))))⟩
theorem te137_ok:TE.ok Tryd.prog 137 te137:=⟨ti137_ok,fun g hg=>by cases hg; exact ⟨rfl,rfl,by decide⟩⟩
def te138:TE:=⟨ti138,some (.pair (.str) (.str))⟩
theorem te138_ok:TE.ok Tryd.prog 138 te138:=⟨ti138_ok,fun g hg=>by cases hg; exact ⟨rfl,rfl,by decide⟩⟩
def te149:TE:=⟨ti149,some (.pair (.int .i64) (.int .i64))⟩
theorem te149_ok:TE.ok Tryd.prog 149 te149:=⟨ti149_ok,fun g hg=>by cases hg; exact ⟨rfl,rfl,by decide⟩⟩
def te150:TE:=⟨ti150,some (.sl (.pair (.int .i64) (.int .i64)))⟩
theorem te150_ok:TE.ok Tryd.prog 150 te150:=⟨ti150_ok,fun g hg=>by cases hg; exact ⟨rfl,rfl,by decide⟩⟩
def te153:TE:=⟨ti153,none⟩
theorem te153_ok:TE.ok Tryd.prog 153 te153:=⟨ti153_ok,fun g hg=>by cases hg⟩
def te155:TE:=⟨ti155,none⟩
theorem te155_ok:TE.ok Tryd.prog 155 te155:=⟨ti155_ok,fun g hg=>by cases hg⟩
def te157:TE:=⟨ti157,none⟩
theorem te157_ok:TE.ok Tryd.prog 157 te157:=⟨ti157_ok,fun g hg=>by cases hg⟩
def te161:TE:=⟨ti161,some (.pair (.int .u8) (.pair (.int .u8) (.pair (.int .u8) (.pair (.int .u8) (.pair (.int .u8) (.pair (.int .u8) (.pair (.int .u8) (.int .u8))))))))⟩
theorem te161_ok:TE.ok Tryd.prog 161 te161:=⟨ti161_ok,fun g hg=>by cases hg; exact ⟨rfl,rfl,by decide⟩⟩
def te163:TE:=⟨ti163,none⟩
theorem te163_ok:TE.ok Tryd.prog 163 te163:=⟨ti163_ok,fun g hg=>by cases hg⟩
def te167:TE:=⟨ti167,some (.pair (.bool) (.pair (.bool) (.pair (.bool) (.bool))))⟩
theorem te167_ok:TE.ok Tryd.prog 167 te167:=⟨ti167_ok,fun g hg=>by cases hg; exact ⟨rfl,rfl,by decide⟩⟩
def te169:TE:=⟨ti169,none⟩
theorem te169_ok:TE.ok Tryd.prog 169 te169:=⟨ti169_ok,fun g hg=>by cases hg⟩
def te172:TE:=⟨ti172,none⟩
theorem te172_ok:TE.ok Tryd.prog 172 te172:=⟨ti172_ok,fun g hg=>by cases hg⟩
def te176:TE:=⟨ti176,none⟩
theorem te176_ok:TE.ok Tryd.prog 176 te176:=⟨ti176_ok,fun g hg=>by cases hg⟩
def te177:TE:=⟨ti177,some (.int .u64)⟩
theorem te177_ok:TE.ok Tryd.prog 177 te177:=⟨ti177_ok,fun g hg=>by cases hg; exact ⟨rfl,rfl,by decide⟩⟩
def te182:TE:=⟨ti182,none⟩
theorem te182_ok:TE.ok Tryd.prog 182 te182:=⟨ti182_ok,fun g hg=>by cases hg⟩
def te186:TE:=⟨ti186,none⟩
theorem te186_ok:TE.ok Tryd.prog 186 te186:=⟨ti186_ok,fun g hg=>by cases hg⟩
def te187:TE:=⟨ti187,some (.int .u32)⟩
theorem te187_ok:TE.ok Tryd.prog 187 te187:=⟨ti187_ok,fun g hg=>by cases hg; exact ⟨rfl,rfl,by decide⟩⟩
def te188:TE:=⟨ti188,none⟩
theorem te188_ok:TE.ok Tryd.prog 188 te188:=⟨ti188_ok,fun g hg=>by cases hg⟩
def te190:TE:=⟨ti190,some (.int .u64)⟩
theorem te190_ok:TE.ok Tryd.prog 190 te190:=⟨ti190_ok,fun g hg=>by cases hg; exact ⟨rfl,rfl,by decide⟩⟩
def te193:TE:=⟨ti193,none⟩
theorem te193_ok:TE.ok Tryd.prog 193 te193:=⟨ti193_ok,fun g hg=>by cases hg⟩
def te194:TE:=⟨ti194,none⟩
theorem te194_ok:TE.ok Tryd.prog 194 te194:=⟨ti194_ok,fun g hg=>by cases hg⟩
def te197:TE:=⟨ti197,none⟩
theorem te197_ok:TE.ok Tryd.prog 197 te197:=⟨ti197_ok,fun g hg=>by cases hg⟩
def te201:TE:=⟨ti201,some (.int .u8)⟩
theorem te201_ok:TE.ok Tryd.prog 201 te201:=⟨ti201_ok,fun g hg=>by cases hg; exact ⟨rfl,rfl,by decide⟩⟩
def te202:TE:=⟨ti202,some (.int .u8)⟩
theorem te202_ok:TE.ok Tryd.prog 202 te202:=⟨ti202_ok,fun g hg=>by cases hg; exact ⟨rfl,rfl,by decide⟩⟩
def te203:TE:=⟨ti203,none⟩
theorem te203_ok:TE.ok Tryd.prog 203 te203:=⟨ti203_ok,fun g hg=>by cases hg⟩
def te204:TE:=⟨ti204,some (.int .i32)⟩
theorem te204_ok:TE.ok Tryd.prog 204 te204:=⟨ti204_ok,fun g hg=>by cases hg; exact ⟨rfl,rfl,by decide⟩⟩
def te205:TE:=⟨ti205,some (.int .i32)⟩
theorem te205_ok:TE.ok Tryd.prog 205 te205:=⟨ti205_ok,fun g hg=>by cases hg; exact ⟨rfl,rfl,by decide⟩⟩
def te207:TE:=⟨ti207,none⟩
theorem te207_ok:TE.ok Tryd.prog 207 te207:=⟨ti207_ok,fun g hg=>by cases hg⟩
def tt:TT:=(.node (.node (.node (.node (.node (.node (.node .leaf 1 te1 .leaf) 2 te2 (.node .leaf 3 te3 .leaf)) 4 te4 (.node (.node .leaf 5 te5 .leaf) 6 te6 (.node .leaf 9 te9 .leaf))) 10 te10 (.node (.node (.node .leaf 11 te11 .leaf) 12 te12 (.node .leaf 15 te15 .leaf)) 16 te16 (.node (.node .leaf 17 te17 .leaf) 20 te20 (.node .leaf 21 te21 .leaf)))) 22 te22 (.node (.node (.node (.node .leaf 23 te23 .leaf) 24 te24 (.node .leaf 25 te25 .leaf)) 26 te26 (.node (.node .leaf 27 te27 .leaf) 28 te28 (.node .leaf 29 te29 .leaf))) 30 te30 (.node (.node (.node .leaf 31 te31 .leaf) 32 te32 (.node .leaf 33 te33 .leaf)) 34 te34 (.node (.node .leaf 35 te35 .leaf) 36 te36 (.node .leaf 37 te37 .leaf))))) 38 te38 (.node (.node (.node (.node (.node .leaf 39 te39 .leaf) 40 te40 (.node .leaf 41 te41 .leaf)) 42 te42 (.node (.node .leaf 43 te43 .leaf) 44 te44 (.node .leaf 45 te45 .leaf))) 46 te46 (.node (.node (.node .leaf 47 te47 .leaf) 48 te48 (.node .leaf 49 te49 .leaf)) 52 te52 (.node (.node .leaf 55 te55 .leaf) 56 te56 (.node .leaf 57 te57 .leaf)))) 58 te58 (.node (.node (.node (.node .leaf 59 te59 .leaf) 60 te60 (.node .leaf 61 te61 .leaf)) 63 te63 (.node (.node .leaf 64 te64 .leaf) 65 te65 (.node .leaf 66 te66 .leaf))) 68 te68 (.node (.node (.node .leaf 70 te70 .leaf) 71 te71 (.node .leaf 72 te72 .leaf)) 74 te74 (.node (.node .leaf 75 te75 .leaf) 76 te76 (.node .leaf 79 te79 .leaf)))))) 80 te80 (.node (.node (.node (.node (.node (.node .leaf 81 te81 .leaf) 82 te82 (.node .leaf 83 te83 .leaf)) 84 te84 (.node (.node .leaf 85 te85 .leaf) 86 te86 (.node .leaf 87 te87 .leaf))) 88 te88 (.node (.node (.node .leaf 90 te90 .leaf) 93 te93 (.node .leaf 94 te94 .leaf)) 95 te95 (.node (.node .leaf 96 te96 .leaf) 97 te97 (.node .leaf 98 te98 .leaf)))) 100 te100 (.node (.node (.node (.node .leaf 101 te101 .leaf) 102 te102 (.node .leaf 103 te103 .leaf)) 105 te105 (.node (.node .leaf 106 te106 .leaf) 107 te107 (.node .leaf 108 te108 .leaf))) 109 te109 (.node (.node (.node .leaf 110 te110 .leaf) 111 te111 (.node .leaf 120 te120 .leaf)) 121 te121 (.node (.node .leaf 125 te125 .leaf) 127 te127 (.node .leaf 130 te130 .leaf))))) 131 te131 (.node (.node (.node (.node (.node .leaf 133 te133 .leaf) 134 te134 (.node .leaf 137 te137 .leaf)) 138 te138 (.node (.node .leaf 149 te149 .leaf) 150 te150 (.node .leaf 153 te153 .leaf))) 155 te155 (.node (.node (.node .leaf 157 te157 .leaf) 161 te161 (.node .leaf 163 te163 .leaf)) 167 te167 (.node (.node .leaf 169 te169 .leaf) 172 te172 (.node .leaf 176 te176 .leaf)))) 177 te177 (.node (.node (.node (.node .leaf 182 te182 .leaf) 186 te186 (.node .leaf 187 te187 .leaf)) 188 te188 (.node (.node .leaf 190 te190 .leaf) 193 te193 (.node .leaf 194 te194 .leaf))) 197 te197 (.node (.node (.node .leaf 201 te201 .leaf) 202 te202 (.node .leaf 203 te203 .leaf)) 204 te204 (.node (.node .leaf 205 te205 .leaf) 207 te207 .leaf))))))
theorem zv:tt.ok Tryd.prog:=⟨⟨⟨⟨⟨⟨⟨trivial,te1_ok,trivial⟩,te2_ok,⟨trivial,te3_ok,trivial⟩⟩,te4_ok,⟨⟨trivial,te5_ok,trivial⟩,te6_ok,⟨trivial,te9_ok,trivial⟩⟩⟩,te10_ok,⟨⟨⟨trivial,te11_ok,trivial⟩,te12_ok,⟨trivial,te15_ok,trivial⟩⟩,te16_ok,⟨⟨trivial,te17_ok,trivial⟩,te20_ok,⟨trivial,te21_ok,trivial⟩⟩⟩⟩,te22_ok,⟨⟨⟨⟨trivial,te23_ok,trivial⟩,te24_ok,⟨trivial,te25_ok,trivial⟩⟩,te26_ok,⟨⟨trivial,te27_ok,trivial⟩,te28_ok,⟨trivial,te29_ok,trivial⟩⟩⟩,te30_ok,⟨⟨⟨trivial,te31_ok,trivial⟩,te32_ok,⟨trivial,te33_ok,trivial⟩⟩,te34_ok,⟨⟨trivial,te35_ok,trivial⟩,te36_ok,⟨trivial,te37_ok,trivial⟩⟩⟩⟩⟩,te38_ok,⟨⟨⟨⟨⟨trivial,te39_ok,trivial⟩,te40_ok,⟨trivial,te41_ok,trivial⟩⟩,te42_ok,⟨⟨trivial,te43_ok,trivial⟩,te44_ok,⟨trivial,te45_ok,trivial⟩⟩⟩,te46_ok,⟨⟨⟨trivial,te47_ok,trivial⟩,te48_ok,⟨trivial,te49_ok,trivial⟩⟩,te52_ok,⟨⟨trivial,te55_ok,trivial⟩,te56_ok,⟨trivial,te57_ok,trivial⟩⟩⟩⟩,te58_ok,⟨⟨⟨⟨trivial,te59_ok,trivial⟩,te60_ok,⟨trivial,te61_ok,trivial⟩⟩,te63_ok,⟨⟨trivial,te64_ok,trivial⟩,te65_ok,⟨trivial,te66_ok,trivial⟩⟩⟩,te68_ok,⟨⟨⟨trivial,te70_ok,trivial⟩,te71_ok,⟨trivial,te72_ok,trivial⟩⟩,te74_ok,⟨⟨trivial,te75_ok,trivial⟩,te76_ok,⟨trivial,te79_ok,trivial⟩⟩⟩⟩⟩⟩,te80_ok,⟨⟨⟨⟨⟨⟨trivial,te81_ok,trivial⟩,te82_ok,⟨trivial,te83_ok,trivial⟩⟩,te84_ok,⟨⟨trivial,te85_ok,trivial⟩,te86_ok,⟨trivial,te87_ok,trivial⟩⟩⟩,te88_ok,⟨⟨⟨trivial,te90_ok,trivial⟩,te93_ok,⟨trivial,te94_ok,trivial⟩⟩,te95_ok,⟨⟨trivial,te96_ok,trivial⟩,te97_ok,⟨trivial,te98_ok,trivial⟩⟩⟩⟩,te100_ok,⟨⟨⟨⟨trivial,te101_ok,trivial⟩,te102_ok,⟨trivial,te103_ok,trivial⟩⟩,te105_ok,⟨⟨trivial,te106_ok,trivial⟩,te107_ok,⟨trivial,te108_ok,trivial⟩⟩⟩,te109_ok,⟨⟨⟨trivial,te110_ok,trivial⟩,te111_ok,⟨trivial,te120_ok,trivial⟩⟩,te121_ok,⟨⟨trivial,te125_ok,trivial⟩,te127_ok,⟨trivial,te130_ok,trivial⟩⟩⟩⟩⟩,te131_ok,⟨⟨⟨⟨⟨trivial,te133_ok,trivial⟩,te134_ok,⟨trivial,te137_ok,trivial⟩⟩,te138_ok,⟨⟨trivial,te149_ok,trivial⟩,te150_ok,⟨trivial,te153_ok,trivial⟩⟩⟩,te155_ok,⟨⟨⟨trivial,te157_ok,trivial⟩,te161_ok,⟨trivial,te163_ok,trivial⟩⟩,te167_ok,⟨⟨trivial,te169_ok,trivial⟩,te172_ok,⟨trivial,te176_ok,trivial⟩⟩⟩⟩,te177_ok,⟨⟨⟨⟨trivial,te182_ok,trivial⟩,te186_ok,⟨trivial,te187_ok,trivial⟩⟩,te188_ok,⟨⟨trivial,te190_ok,trivial⟩,te193_ok,⟨trivial,te194_ok,trivial⟩⟩⟩,te197_ok,⟨⟨⟨trivial,te201_ok,trivial⟩,te202_ok,⟨trivial,te203_ok,trivial⟩⟩,te204_ok,⟨⟨trivial,te205_ok,trivial⟩,te207_ok,trivial⟩⟩⟩⟩⟩⟩
end Go.Proofs.YtihcolehefloeaaDoor

/- shifts.Check. -/
namespace Go.Proofs.YtihcolehefloeaaDoor
open Go.RowKit
def wordsL:List (List UInt8):=[[],[105,110],[111,117,116],[114,97,99,107],[107,110,105,116],[116,117,99,107],[109,105,115,115],[120,102,101,114],[100,114,111,112]]
def dirsL:List (List UInt8):=[[108,101,102,116],[114,105,103,104,116]]
def symbolsL:List Int:=[107,112,111,47,118,116,115,99]
def glT:Nat→Option GL
  | 0=>some ⟨.str,wordsL⟩
  | 1=>some ⟨.str,dirsL⟩
  | 2=>some ⟨.int .u8,symbolsL⟩
  | 3=>some ⟨.int .u64,Lib.pow10Tab⟩
  | _=>none
noncomputable def cx:Cx:=⟨Tryd.prog,tt,glT⟩
def okAt (l:List Int) (i:Int):Bool:=decide (1≤l.getD i.toNat 0)&&decide (l.getD i.toNat 0≤40)&&(decide (i≤0) || decide (l.getD (i - 1).toNat 0 < l.getD i.toNat 0))
def qB (l:List Int):Bool:=(List.range l.length).all fun i=>okAt l i
theorem check_ok (l:List Int) (cap:Option Nat) (hl:l.length≤1000000000):AC cx 26 [.c (.lst (.int .i64) l cap)] [] (fun sv h=>sv=.c (.val (.int .i64 (if qB l then 0 else 1)))∧h=[]):=by
  refine zE zv Tryd.func26 rfl Tryd.ntmps26 rfl rfl (res:=[.tmp 2]) rfl<|zu<|zq<|zj zv rfl (by first | rfl | (simp only [zi,zk,ze,GTy.zero,Bool.and_eq_true,Bool.or_eq_true,Bool.not_eq_true',Bool.and_true,Bool.true_and,Bool.or_true,Bool.true_or,decide_eq_true_eq,decide_eq_false_iff_not,true_and,and_true]; omega) | (simp [zi,zk,ze,GTy.zero]; omega) | (simp [zi,zk,ze,GTy.zero])) ?_
  refine zu<|zu<|zq<|zj zv rfl (by first | rfl | (simp only [zi,zk,ze,GTy.zero,Bool.and_eq_true,Bool.or_eq_true,Bool.not_eq_true',Bool.and_true,Bool.true_and,Bool.or_true,Bool.true_or,decide_eq_true_eq,decide_eq_false_iff_not,true_and,and_true]; omega) | (simp [zi,zk,ze,GTy.zero]; omega) | (simp [zi,zk,ze,GTy.zero])) ?_
  refine zd<|zb (st':=⟨[(7,_),(0,_),(5,_),(6,_)],[]⟩) (Wk.sub (SubL.cons rfl (SubL.cons rfl (SubL.cons rfl (SubL.cons rfl SubL.nil)))) SubH.nil)<|zp (fun x:Int=>[(7,.c (.val (.int .i64 x)))]) (fun x:Int=>[]) (fun x:Int=>0≤x∧x≤l.length∧∀ i:Nat,i < x→okAt l i=true) (fun x:Int=>(l.length - x).toNat) (0) (⟨by omega,by omega,fun i hi=>by omega⟩) ?_
  rintro x ⟨hx0,hx1,hx2⟩;refine zu<|zq<|zj zv rfl (by first | rfl | (simp only [zi,zk,ze,GTy.zero,Bool.and_eq_true,Bool.or_eq_true,Bool.not_eq_true',Bool.and_true,Bool.true_and,Bool.or_true,Bool.true_or,decide_eq_true_eq,decide_eq_false_iff_not,true_and,and_true]; omega) | (simp [zi,zk,ze,GTy.zero]; omega) | (simp [zi,zk,ze,GTy.zero])) ?_
  refine zu<|zJ rfl rfl (fun hc2=>?_) (fun hc2=>?_)
  ·
    refine za<|zu<|zd<|zu ?_
    have hlt:x < l.length:=by simpa using hc2
    refine zq<|zj zv rfl (by first | rfl | (simp only [zi,zk,ze,GTy.zero,Bool.and_eq_true,Bool.or_eq_true,Bool.not_eq_true',Bool.and_true,Bool.true_and,Bool.or_true,Bool.true_or,decide_eq_true_eq,decide_eq_false_iff_not,true_and,and_true]; omega) | (simp [zi,zk,ze,GTy.zero]; omega) | (simp [zi,zk,ze,GTy.zero])) ?_
    refine zu<|zq<|zj zv rfl (by first | rfl | (simp only [zi,zk,ze,GTy.zero,Bool.and_eq_true,Bool.or_eq_true,Bool.not_eq_true',Bool.and_true,Bool.true_and,Bool.or_true,Bool.true_or,decide_eq_true_eq,decide_eq_false_iff_not,true_and,and_true]; omega) | (simp [zi,zk,ze,GTy.zero]; omega) | (simp [zi,zk,ze,GTy.zero])) ?_
    refine zJ rfl rfl (fun hc4=>?_) (fun hc4=>?_)
    ·
      refine zu<|zq<|zj zv rfl (by first | rfl | (simp only [zi,zk,ze,GTy.zero,Bool.and_eq_true,Bool.or_eq_true,Bool.not_eq_true',Bool.and_true,Bool.true_and,Bool.or_true,Bool.true_or,decide_eq_true_eq,decide_eq_false_iff_not,true_and,and_true]; omega) | (simp [zi,zk,ze,GTy.zero]; omega) | (simp [zi,zk,ze,GTy.zero])) ?_
      refine zh<|⟨_,Wk.sub (st':=⟨[(2,_)],[]⟩) (SubL.cons rfl SubL.nil) SubH.nil,_,_,rfl,rfl,?_⟩
      have:qB l=false:=by
        rw [qB,List.all_eq_false];refine ⟨x.toNat,by simp; omega,?_⟩;rw [okAt,Int.toNat_of_nonneg hx0]
        simp [GTy.zero] at hc4 ⊢
        omega
      rw [this];exact ⟨rfl,rfl⟩
    ·
      refine za<|zq<|zj zv rfl (by first | rfl | (simp only [zi,zk,ze,GTy.zero,Bool.and_eq_true,Bool.or_eq_true,Bool.not_eq_true',Bool.and_true,Bool.true_and,Bool.or_true,Bool.true_or,decide_eq_true_eq,decide_eq_false_iff_not,true_and,and_true]; omega) | (simp [zi,zk,ze,GTy.zero]; omega) | (simp [zi,zk,ze,GTy.zero])) ?_
      have hnext:∀ i:Nat,(i:Int) < x+1→okAt l i=true:=by
        intro i hi
        by_cases hix:(i:Int) < x
        · exact hx2 i hix
        · have:(i:Int)=x:=by omega
          rw [okAt,this]
          simp [GTy.zero] at hc4 ⊢
          omega
      refine ⟨x+1,⟨by omega,by omega,fun i hi=>hnext i hi⟩,(by dsimp only; omega),Wk.sub (by repeat (first | exact SubL.nil | refine SubL.cons rfl ?_)) SubH.nil⟩
  ·
    refine zt<|zu<|zq<|zj zv rfl (by first | rfl | (simp only [zi,zk,ze,GTy.zero,Bool.and_eq_true,Bool.or_eq_true,Bool.not_eq_true',Bool.and_true,Bool.true_and,Bool.or_true,Bool.true_or,decide_eq_true_eq,decide_eq_false_iff_not,true_and,and_true]; omega) | (simp [zi,zk,ze,GTy.zero]; omega) | (simp [zi,zk,ze,GTy.zero])) ?_
    refine zh<|⟨_,Wk.sub (st':=⟨[(2,_)],[]⟩) (SubL.cons rfl SubL.nil) SubH.nil,_,_,rfl,rfl,?_⟩
    have:qB l=true:=by
      rw [qB,List.all_eq_true];intro i hi;have h5:¬ x < l.length:=by simpa using hc2
      exact hx2 i (by simp at hi; omega)
    rw [this];exact ⟨rfl,rfl⟩
end Go.Proofs.YtihcolehefloeaaDoor

/- From a row's conditions to what the walks ask: arguments, package-level variables; back to the row. -/
namespace Go.Proofs.YtihcolehefloeaaDoor
open Go.ChangeShapes Go.WideShapes Go.ChangeAt Go.WideElems Go.RowKit
section
variable {H:Type} {enc:TypeId×Value→H} {P:Program} {W:World}
def DecOk (enc:TypeId×Value→H) (P:Program) (W:World) (t:TypeId) (g:GTy) (R:g.D→Prop):Prop:=
  ∀ k cs x,DataW.trod enc P W 0 (fun _=>true) true k t cs=some x→∃ y:g.D,R y∧FR (fun b=>b < W.heap.size) W g y cs
theorem dec_int {t:TypeId} {k:IntKind} (ht:P.underlying t=some (.int k)):DecOk enc P W t (.int k) (fun (y:Int)=>k.min≤y∧y≤k.max):=fun n cs x h=>by
  obtain ⟨z,rfl,_,hw⟩:=DataW.trod_int ht h;exact ⟨z,by simpa [Lit.wf] using hw,rfl⟩
theorem flat_sub {g:GTy} {R:g.D→Prop}:∀ l:List { p:g.D×List Value // R p.1∧FR (fun b=>b < W.heap.size) W g p.1 p.2 },Flat (FR (fun b=>b < W.heap.size) W g) (l.map (·.1.1)) (l.flatMap (·.1.2))
  | []=>rfl
  | x :: l=>⟨x.1.2,l.flatMap (·.1.2),rfl,x.2.2,flat_sub l⟩
theorem cell_lt {b o:Nat} {v:Value} (h:W.cell? ⟨b,o,none⟩=some v):b < W.heap.size:=by
  by_cases hb:b < W.heap.size
  · exact hb
  · simp [World.cell?,Array.getElem?_eq_none (by omega:W.heap.size≤b)] at h
theorem cells_of_strs {base:Nat} {sp:Nat→Bool} {held:Bool} {fuel:Nat} {t e:TypeId} {n:Nat} {cs:List Value} {zs:List (List UInt8)} {p:List MemPlace}
    (ht:P.underlying t=some (.array n e)) (he:P.underlying e=some .string) (hce:P.cellsOf e=1) (hct:P.cellsOf t=n)
    (h:DataW.trod enc P W base sp held fuel t cs=some (.agg (zs.map fun z=>.lit (.string z)),p)):cs=zs.map xI:=by
  obtain ⟨xs,m,_,hx,hlen,hxl,hel⟩:=DataW.trod_array ht h;have hxs:xs.map (·.1)=zs.map fun z=>(DataW.lit (.string z):DataW H):=by
    have:=congrArg Prod.fst hx
    simpa using this.symm
  have hzl:zs.length=n:=by
    have:=congrArg List.length hxs
    simp at this
    omega
  rw [hce] at hel
  apply List.ext_getElem?
  intro i
  by_cases hi:i < n
  · have h1:=hel i hi
    rw [List.getElem?_eq_getElem (by omega:i < xs.length)] at h1;obtain ⟨s,hs,hxv,_⟩:=DataW.trod_string he h1;have h2:cs[i]?=some (.string s):=by
      have:=congrArg (·[0]?) hs
      simpa [List.getElem?_take,List.getElem?_drop] using this
    have h3:(xs.map (·.1))[i]?=some (DataW.lit (.string s.data.toList):DataW H):=by
      rw [List.getElem?_map,List.getElem?_eq_getElem (by omega),hxv]
      rfl
    rw [hxs] at h3;simp only [List.getElem?_map,Option.map_eq_some_iff,DataW.lit.injEq,Lit.string.injEq] at h3;obtain ⟨z',hz',e2⟩:=h3;rw [h2,List.getElem?_map,hz',Option.map_some,e2]
    rfl
  · rw [List.getElem?_eq_none (by omega),List.getElem?_eq_none (by simp; omega)]
theorem flat_of_ints {B:Nat→Prop} {k:IntKind}:∀ l:List Int,Flat (FR B W (.int k)) l (l.map fun z=>Value.int k z)
  | []=>rfl
  | x :: l=>⟨[.int k x],_,rfl,rfl,flat_of_ints l⟩
theorem flat_of_strs {B:Nat→Prop}:∀ l:List (List UInt8),Flat (FR B W .str) l (l.map xI)
  | []=>rfl
  | x :: l=>⟨[xI x],_,rfl,rfl,flat_of_strs l⟩
theorem gr_of {n:String} {i:Nat} {g:GTy} {l:List g.D} {cs:Array Value} (hg:P.globalNamed n=some i) (hv:W.var? P n=some cs) (hf:Flat (FR (fun b=>b < W.heap.size) W g) l cs.toList):GR (fun b=>b < W.heap.size) W i ⟨g,l⟩:=by
  unfold World.var? at hv;rw [hg,Option.bind_some] at hv
  split at hv
  · rename_i cs' e fr hh
    cases hv;have hlt:i < W.heap.size:=(Array.getElem?_eq_some_iff.1 hh).1;refine ⟨⟨i,0,cs.toList,rfl,hlt,hf,fun j u hu=>?_⟩,cs,e,fr,hh,?_⟩
    · simp only [Nat.zero_add,World.cell?,hh]
      simpa using hu
    · have:=FR.flat_length hf
      simpa using this
  · cases hv
theorem glob_id {n:String} {g i:Nat} (h:P.globalNamed n=some g) (hk:P.globalNamed n=some i):g=i:=Option.some.inj (h.symm.trans hk)
theorem type_id {a:Option TypeId} {t u:TypeId} (h:a=some t) (hk:a=some u):t=u:=Option.some.inj (h.symm.trans hk)
end
theorem AC.law {X:Cx} {f:FuncId} {args:List SA} {vs:List Value} {W:World} (h:AC X f args [] (fun sv h=>sv=.c (.val (.bool true))∧h=[])) (hg:GlobOk X (fun b=>b < W.heap.size) W) (ha:SasR (fun _=>.no) (fun b=>b < W.heap.size) W args vs):Ret X.P f vs.toArray W (fun v w'=>v=.bool true∧Below W.heap.size W w'):=by
  refine (h (fun b=>b < W.heap.size) W (fun _=>.no) vs [] W hg ha rfl (SH.start W)).mono ?_;rintro v w' ⟨env',B',w0',H',sv,h',⟨rfl,rfl⟩,h1,h2,h3,h4,h5,h6,h7⟩;have hr:∀ k,k < W.heap.size→Rest W [] k:=fun k hk=>⟨hk,fun c hc=>by cases hc⟩
  exact ⟨h4,h6.below.os.trans h3.os,h6.below.tape.trans h3.tape,h6.below.output.trans h3.output,Nat.le_trans h3.size h6.below.size,fun k hk=>(h6.below.block k (.inl (hr k hk))).trans (h3.block k (hr k hk))⟩
end Go.Proofs.YtihcolehefloeaaDoor

/- What the walks printed by tr.py need: models of functions in Option, and how a walk follows them. -/
namespace Go.Proofs.YtihcolehefloeaaDoor
open Go.RowKit
def gd {α:Type} (c:Bool) (k:Option α):Option α:=match c with
  | true=>k
  | false=>none
theorem zw {α:Type} {c:Bool} {k:Option α} {r:α} (h:gd c k=some r):c=true∧k=some r:=by
  cases c with
  | true=>exact ⟨rfl,h⟩
  | false=>cases h
theorem gd_t {α:Type} {c:Bool} {k:Option α} (h:c=true):gd c k=k:=by rw [h]; rfl
theorem bd {α β:Type} {x:Option α} {f:α→Option β} {r:β} (h:x.bind f=some r):∃ a,x=some a∧f a=some r:=by
  cases x with
  | none=>cases h
  | some a=>exact ⟨a,rfl,h⟩
theorem cond_t {α:Type} {b:Bool} {x y z:α} (hb:b=true) (h:cond b x y=z):x=z:=by rw [hb] at h; exact h
theorem yx {α:Type} {b:Bool} {x y z:α} (hb:b=false) (h:cond b x y=z):y=z:=by rw [hb] at h; exact h
def imB (a b:Bool):Bool:=!a || b
def aB (f:Bool→Bool):Bool:=f true&&f false
theorem aB_ok {f:Bool→Bool} (h:aB f=true) (b:Bool):f b=true:=by
  simp only [aB,Bool.and_eq_true] at h;cases b with
  | true=>exact h.1
  | false=>exact h.2
theorem of1 {a d:Bool} (h:imB a d=true) (h1:a=true):d=true:=by rw [h1] at h; exact h
theorem of2 {a b d:Bool} (h:imB a (imB b d)=true) (h1:a=true) (h2:b=true):d=true:=of1 (of1 h h1) h2
theorem bl6 {f:Bool→Bool→Bool→Bool→Bool→Bool→Bool} (h:(aB fun b0=>aB fun b1=>aB fun b2=>aB fun b3=>aB fun b4=>aB fun b5=>f b0 b1 b2 b3 b4 b5)=true) (b0 b1 b2 b3 b4 b5:Bool):f b0 b1 b2 b3 b4 b5=true:=aB_ok (aB_ok (aB_ok (aB_ok (aB_ok (aB_ok h b0) b1) b2) b3) b4) b5
abbrev sm {α β γ:Type} (x:α⊕β) (f:α→Option γ) (g:β→Option γ):Option γ:=match x with
  | .inl a=>f a
  | .inr b=>g b
def zB:Nat:=1000000000
def nocapH (id:Nat):Hp→Hp
  | []=>[]
  | (j,.row t g l c) :: r=>match Nat.beq j id with
    | true=>(j,.row t g l none) :: r
    | false=>(j,.row t g l c) :: nocapH id r
  | b :: r=>b :: nocapH id r
section
variable {X:Cx} {M:Bool} {n:Nat} {r:Option Nat} {c:Code} {st:ASt} {Q:Exit→ASt→Prop}
def cutQ (X:Cx) (n:Nat) {O:Type} (S:O→ASt) (P:O→Prop) (Q:Exit→ASt→Prop):Exit→ASt→Prop
  | .normal,s=>∃ o,P o∧Wk X n s (S o)
  | e,s=>Q e s
theorem zr {O:Type} (S:O→ASt) (P:O→Prop) (h1:AX X M n r c st (cutQ X n S P Q)) (h2:∀ o,P o→Q .normal (S o)):AX X M n r c st Q:=fun R W Bi a w hA=>wpIn_mono (h1 R W Bi a w hA) fun e a w ⟨s,hq,hA'⟩=>by
  cases e with
  | normal=>
    obtain ⟨o,hp,hw⟩:=hq;exact ⟨S o,h2 o hp,hw _ _ _ _ _ _ hA'⟩
  | _=>exact ⟨s,hq,hA'⟩
theorem Wk.conv {s:Nat} {sv:SV} (sv':SV) (hs:lk st.L s=some sv) (hV:∀ env B w v,VR env B w sv v→VR env B w sv' v):Wk X n st ⟨(s,sv') :: st.L,st.H⟩:=fun R W Bi M a w ⟨ks,env,B,w0,H,hM,h⟩=>
  ⟨ks,env,B,w0,H,hM,h.size,h.defs,fun q u hu=>by
    rw [qa] at hu
    split at hu
    · rename_i e
      subst e;cases hu;obtain ⟨v,h1,h2⟩:=h.has _ _ hs;exact ⟨v,h1,hV _ _ _ _ h2⟩
    · exact h.has q u hu,h.heap,h.sh,h.sub,h.new,h.pin,h.base,h.glob⟩
theorem Wk.lst0 (s:Nat) (g:GTy) (hs:lk st.L s=some (.c (.val (.slice none 0 0)))):Wk X n st ⟨(s,.c (.lst g [] (some 0))) :: st.L,st.H⟩:=Wk.conv _ hs fun env B w _ h=>nil_lst (env:=env) (B:=B) (w:=w) h
theorem Wk.nocap (s:Nat) {g:GTy} {l:List g.D} {k:Option Nat} (hs:lk st.L s=some (.c (.lst g l k))):Wk X n st ⟨(s,.c (.lst g l none)) :: st.L,st.H⟩:=Wk.conv _ hs fun _ _ _ _ h=>by
  obtain ⟨A,c,xs,h1,h2,h3,_,h5,h6⟩:=h;exact ⟨A,c,xs,h1,h2,h3,fun _ h=>(by cases h),h5,h6⟩
theorem HR.nocap {env:Nat→Loc} {B:Nat→Prop} {w:World} (id:Nat):∀ {l:Hp} {H:List Ck},HR env B w l H→HR env B w (nocapH id l) H
  | [],_,h=>h
  | (j,.row t g l c) :: r,_,⟨k,H',e,h1,h2⟩=>by
    unfold nocapH
    split
    · obtain ⟨A,q,xs,h3,h4,h5,h6⟩:=h1
      exact ⟨k,H',e,⟨A,q,xs,h3,h4,h5,fun _ h=>by cases h⟩,h2⟩
    · exact ⟨k,H',e,h1,HR.nocap id h2⟩
  | (j,.cells _ _) :: r,_,⟨k,H',e,h1,h2⟩=>⟨k,H',e,h1,HR.nocap id h2⟩
  | (j,.sit _ _) :: r,_,⟨k,H',e,h1,h2⟩=>⟨k,H',e,h1,HR.nocap id h2⟩
  | (j,.mp _ _ _ _) :: r,_,⟨k,H',e,h1,h2⟩=>⟨k,H',e,h1,HR.nocap id h2⟩
  | (j,.it _ _ _ _) :: r,_,⟨k,H',e,h1,h2⟩=>⟨k,H',e,h1,HR.nocap id h2⟩
  | (j,.junk) :: r,_,⟨k,H',e,h1,h2⟩=>⟨k,H',e,h1,HR.nocap id h2⟩
  | (j,.hrow _ _ _ _ _ _) :: r,_,⟨k,H',e,h1,h2⟩=>⟨k,H',e,h1,HR.nocap id h2⟩
  | (j,.rjunk) :: r,_,⟨k,H',e,h1,h2⟩=>⟨k,H',e,h1,HR.nocap id h2⟩
  | (j,.lrow _ _ _) :: r,_,⟨k,H',e,h1,h2⟩=>⟨k,H',e,h1,HR.nocap id h2⟩
theorem Wk.rowcap (id:Nat) {st':ASt} (h:st'=⟨st.L,nocapH id st.H⟩):Wk X n st st':=fun R W Bi M a w ⟨ks,env,B,w0,H,hM,hA⟩=>by
  subst h;exact ⟨ks,env,B,w0,H,hM,hA.size,hA.defs,hA.has,HR.nocap id hA.heap,hA.sh,hA.sub,hA.new,hA.pin,hA.base,hA.glob⟩
end
theorem AC.forgetV {X:Cx} {f:FuncId} {args:List SA} {h0:Hp} {V:SV} (h:AC X f args h0 (fun sv _=>sv=V)):AC X f args h0 (fun sv h=>sv=V∧h=[]):=by
  intro B w0 env vs H W hg ha hh hs;refine (h B w0 env vs H W hg ha hh hs).mono ?_;rintro v w' ⟨env',B',w0',H',s,h',hQ,h1,h2,h3,h4,h5,h6,h7⟩;exact ⟨env',B',w0',[],s,[],⟨hQ,rfl⟩,h1,h2,h3,h4,rfl,h6.weak (List.nil_sublist _),h7⟩
theorem ob:(∀ b,(b&&true)=b)∧(∀ b,(true&&b)=b)∧(∀ b,(b || true)=true)∧(∀ b,(true || b)=true)∧(!true)=false∧(!false)=true∧(∀ b,(b || false)=b)∧(∀ b,(false || b)=b)∧(∀ b,(b&&b)=b)∧(∀ b:Bool,(!b || b)=true)∧(∀ b,(b || b)=b):=by decide
theorem oc:(∀ b,(b&&true)=b)∧(∀ b,(true&&b)=b)∧(∀ b,(b||true)=true)∧(∀ b,(true||b)=true)∧(!true)=false∧(!false)=true∧(∀ b,(b||false)=b)∧(∀ b,(false||b)=b)∧(∀ b,(b&&b)=b)∧(∀ b:Bool,(!b||b)=true)∧(∀ b,(b||b)=b)∧(∀ [h:Decidable True],@decide True h=true)∧(∀ {α:Type}(a b:α),cond true a b=a)∧(∀ {α:Type}(a b:α),cond false a b=b):=⟨ob.1,ob.2.1,ob.2.2.1,ob.2.2.2.1,ob.2.2.2.2.1,ob.2.2.2.2.2.1,ob.2.2.2.2.2.2.1,ob.2.2.2.2.2.2.2.1,ob.2.2.2.2.2.2.2.2.1,ob.2.2.2.2.2.2.2.2.2.1,ob.2.2.2.2.2.2.2.2.2.2,fun {_}=>decide_true _,fun _ _=>rfl,fun _ _=>rfl⟩
theorem ob2:(∀ b,(b&&true)=b)∧(∀ b,(true&&b)=b)∧(∀ b,(b&&false)=false)∧(∀ b,(false&&b)=false)∧(!true)=false∧(!false)=true∧((false=true)=False)∧((true=false)=False):=by
  refine ⟨by decide,by decide,by decide,by decide,rfl,rfl,by simp,by simp⟩
theorem CsR.data {env:Nat→Loc} {B:Nat→Prop} {w:World} {g:GTy} {cs cs':List SC} {x:g.D} {c:Bool} {vs:List Value} (h1:CsR env B w cs vs) (hd:dec g cs=some (c,x,[])) (hc:c=true) (hg:gcells g x 0 g.size=some cs'):CsR env B w cs' vs:=by
  obtain ⟨v1,v2,e2,hf,h2⟩:=dec_ok h1 hd hc;have h4:v2=[]:=h2;subst h4;rw [List.append_nil] at e2;subst e2;obtain ⟨us,⟨hl,hp⟩,h3⟩:=FR.cells hf hg;have hvl:=FR.length hf;have hus:us=vs:=by
    apply List.ext_getElem?
    intro j;cases hj:us[j]? with
    | some u=>
      have:=hp j u hj
      rw [Nat.zero_add] at this;exact this.symm
    | none=>
      rw [List.getElem?_eq_none_iff] at hj;exact (List.getElem?_eq_none_iff.2 (by omega)).symm
  subst hus;exact h3
theorem Wk.dataB {X:Cx} {n:Nat} {st:ASt} (id:Nat) (g:GTy) {t:TypeId} {cs cs':List SC} {x:g.D} {c:Bool} (hs:lk st.H id=some (.cells t cs)) (hd:dec g cs=some (c,x,[])) (hc:c=true) (hg:gcells g x 0 g.size=some cs'):Wk X n st ⟨st.L,putH id (.cells t cs') st.H⟩:=fun R W Bi M a w ⟨ks,env,B,w0,H,hM,h⟩=>by
  obtain ⟨ck,K,⟨b,vs,he,e,hcs⟩,⟨Y,Z,h1,h2⟩,h3⟩:=h.setBlk (b':=.cells t cs') hs;obtain ⟨H',h4⟩:=h3 ck a w ⟨b,vs,he,e,hcs.data hd hc hg⟩ (by rw [h2]; dsimp only; rw [← h1]; exact h.sh) h.stt;exact ⟨ks,env,B,w0,H',hM,h4⟩
end Go.Proofs.YtihcolehefloeaaDoor

/- What the rows of laws need beyond L1. -/
namespace Go.Proofs.YtihcolehefloeaaDoor
open Go.ChangeShapes Go.WideShapes Go.ChangeAt Go.WideElems Go.RowKit
theorem Tryd.own:ownKnob Tryd.prog.godebug=none:=by kernel_rfl
theorem Tryd.laidOut:laidOutB Tryd.prog=true:=by kernel_rfl
theorem wf_range {k:IntKind} {n:Int} (h:(Lit.int k n).wf=true):k.min≤n∧n≤k.max:=by simpa [Lit.wf] using h
end Go.Proofs.YtihcolehefloeaaDoor

/- Maps: making, looking up, setting. -/
namespace Go.Proofs.YtihcolehefloeaaDoor
open Go.RowKit
def GTy.beq:(g:GTy)→g.D→g.D→Bool
  | .int _=>fun (x:Int) (y:Int)=>x == y
  | .bool=>fun (x:Bool) (y:Bool)=>x == y
  | .str=>fun (x:List UInt8) (y:List UInt8)=>x == y
  | .pair g h=>fun x y=>g.beq x.1 y.1&&h.beq x.2 y.2
  | _=>fun _ _=>false
def yn (gk gv:GTy):List (gk.D×gv.D)→gk.D→Option gv.D
  | [],_=>none
  | x :: l,k=>match gk.beq x.1 k with
    | true=>some x.2
    | false=>yn gk gv l k
def mset (gk gv:GTy):List (gk.D×gv.D)→gk.D→gv.D→List (gk.D×gv.D)
  | [],k,v=>[(k,v)]
  | x :: l,k,v=>match gk.beq x.1 k with
    | true=>(x.1,v) :: l
    | false=>x :: mset gk gv l k v
def vSA:(g:GTy)→g.D→Option SA
  | .pair a b,x=>(gcells (.pair a b) x 0 (a.size+b.size)).map .agg
  | g,x=>(gcell g x 0).map .c
section
variable {B:Nat→Prop} {w:World} {k:IntKind} {gv:GTy}
theorem MR.findInt {z:Int}:∀ {l:List (Int×gv.D)} {es:List MapEntry} (i:Nat),MR B w (.int k) gv l es →
    (yn (.int k) gv l z=none∧Instr.findNow (.int k) (.int k z) es i=some none)∨∃ x j v,yn (.int k) gv l z=some x∧Instr.findNow (.int k) (.int k z) es i=some (some (i+j,v))∧VD B w gv x v∧j < es.length
  | [],_,i,h=>by rw [show _=[] from h]; exact .inl ⟨rfl,rfl⟩
  | x :: l,_,i,⟨e,r,he,h1,h2,h3⟩=>by
    subst he;have hk:e.key=.int k x.1:=by
      have:=(show FR B w (.int k) x.1 [e.key] from h1)
      have h4:[e.key]=[Value.int k x.1]:=this;exact (List.cons.inj h4).1
    unfold Instr.findNow yn;rw [hk];simp only [Instr.sameNow,if_true]
    by_cases hz:x.1=z
    · have e1:(GTy.int k).beq x.1 z=true:=by simp [GTy.beq,hz]
      have e2:(z == x.1)=true:=by simp [hz]
      rw [e1,e2];exact .inr ⟨x.2,0,e.val,rfl,rfl,h2,by simp⟩
    · have e1:(GTy.int k).beq x.1 z=false:=by simp [GTy.beq,hz]
      have e2:(z == x.1)=false:=by simp [Ne.symm hz]
      rw [e1,e2]
      rcases MR.findInt (i+1) h3 with ⟨h4,h5⟩ | ⟨y,j,v,h4,h5,h6,h7⟩
      · exact .inl ⟨h4,h5⟩
      · exact .inr ⟨y,j+1,v,h4,by rw [h5,Nat.add_assoc,Nat.add_comm 1 j],h6,by simpa using h7⟩
theorem modify_map {es:List MapEntry} {f:MapEntry→MapEntry} (hf:∀ e,(f e).born=e.born):∀ (j:Nat),(es.modify j f).map (·.born)=es.map (·.born):=by
  induction es with
  | nil=>intro j; cases j <;> rfl
  | cons e es ih=>
    intro j;cases j with
    | zero=>simp [hf]
    | succ j=>simp only [List.modify_succ_cons,List.map_cons,ih j]
theorem MR.setInt {z:Int} {xv:gv.D} {vv:Value} (hv:VD B w gv xv vv):∀ {l:List (Int×gv.D)} {es:List MapEntry} (i:Nat),MR B w (.int k) gv l es →
    (Instr.findNow (.int k) (.int k z) es i=some none∧mset (.int k) gv l z xv=l++[(z,xv)]) ∨
    ∃ j v e,Instr.findNow (.int k) (.int k z) es i=some (some (i+j,v))∧es[j]?=some e∧e.key=.int k z∧MR B w (.int k) gv (mset (.int k) gv l z xv) (es.modify j fun e=>{ e with key:=.int k z,val:=vv })
  | [],_,i,h=>by rw [show _=[] from h]; exact .inl ⟨rfl,rfl⟩
  | x :: l,_,i,⟨e,r,he,h1,h2,h3⟩=>by
    subst he;have hk:e.key=.int k x.1:=by
      have h4:[e.key]=[Value.int k x.1]:=h1;exact (List.cons.inj h4).1
    unfold Instr.findNow mset;rw [hk];simp only [Instr.sameNow,if_true]
    by_cases hz:x.1=z
    · have e1:(GTy.int k).beq x.1 z=true:=by simp [GTy.beq,hz]
      have e2:(z == x.1)=true:=by simp [hz]
      rw [e1,e2];refine .inr ⟨0,e.val,e,rfl,rfl,by rw [hk,hz],{ e with key:=.int k z,val:=vv },r,rfl,?_,hv,h3⟩;show [Value.int k z]=[Value.int k x.1]
      rw [hz]
    · have e1:(GTy.int k).beq x.1 z=false:=by simp [GTy.beq,hz]
      have e2:(z == x.1)=false:=by simp [Ne.symm hz]
      rw [e1,e2]
      rcases MR.setInt hv (i+1) h3 with ⟨h4,h5⟩ | ⟨j,v,e',h4,h5,h6,h7⟩
      · exact .inl ⟨h4,by show x :: mset (.int k) gv l z xv=_; rw [h5]; rfl⟩
      · exact .inr ⟨j+1,v,e',by rw [h4,Nat.add_assoc,Nat.add_comm 1 j],by simpa using h5,h6,e,_,rfl,h1,h2,h7⟩
theorem MR.snoc {gk gv:GTy} {x:gk.D×gv.D} {e:MapEntry} (h1:VD B w gk x.1 e.key) (h2:VD B w gv x.2 e.val):∀ {l:List (gk.D×gv.D)} {es:List MapEntry},MR B w gk gv l es→MR B w gk gv (l++[x]) (es++[e])
  | [],_,h=>by rw [show _=[] from h]; exact ⟨e,[],rfl,h1,h2,rfl⟩
  | _ :: _,_,⟨e',r,he,h3,h4,h5⟩=>by subst he; exact ⟨e',_,rfl,h3,h4,MR.snoc h1 h2 h5⟩
def sShape:GTy→SA→Bool
  | .pair _ _,.agg _=>true
  | .pair _ _,.c _=>false
  | _,.c _=>true
  | _,.agg _=>false
  | _,.arr _ _=>false
theorem VD.ofSA {env:Nat→Loc} {g:GTy} {sa:SA} {c:Bool} {x:g.D} {v:Value} (hd:dec g sa.cells=some (c,x,[])) (hc:c=true) (hs:sShape g sa=true) (h:SaR env B w sa v):VD B w g x v:=by
  cases sa with
  | c sc=>
    obtain ⟨v1,v2,e,h1,h2⟩:=dec_ok (cs:=[sc]) (vs:=[v]) ⟨v,[],rfl,h,rfl⟩ hd hc;have e2:v2=[]:=h2;rw [e2,List.append_nil] at e;rw [← e] at h1;cases g with
    | pair a b=>cases hs
    | _=>exact h1
  | arr g2 l=>
    cases g with
    | pair a b=>cases hs
    | _=>cases hs
  | agg cs=>
    obtain ⟨vs,e,h3⟩:=h;obtain ⟨v1,v2,e1,h1,h2⟩:=dec_ok h3 hd hc;have e2:v2=[]:=h2;rw [e2,List.append_nil] at e1;cases g with
    | pair a b=>exact ⟨vs,e,by rw [e1]; exact h1⟩
    | _=>cases hs
theorem VD.sa {env:Nat→Loc} {g:GTy} {x:g.D} {v:Value} {sa:SA} (h:VD B w g x v) (hs:vSA g x=some sa):SaR env B w sa v:=by
  have one:∀ {g:GTy} {x:g.D} {v:Value} {sa:SA},FR B w g x [v]→(gcell g x 0).map SA.c=some sa→SaR env B w sa v:=by
    intro g x v sa h hs;obtain ⟨c,hc,rfl⟩:=Option.map_eq_some_iff.1 hs;obtain ⟨u,h1,h2⟩:=FR.cell (env:=env) h hc;simp only [List.getElem?_cons_zero,Option.some.injEq] at h1;rw [h1];exact h2
  cases g with
  | pair a b=>
    obtain ⟨vs,e,h1⟩:=h;obtain ⟨l,hl,rfl⟩:=Option.map_eq_some_iff.1 (show (gcells (.pair a b) x 0 (a.size+b.size)).map SA.agg=some sa from hs);obtain ⟨us,⟨h2,h3⟩,h4⟩:=FR.cells (env:=env) h1 hl;have hlen:vs.length=a.size+b.size:=FR.length h1
    have:us=vs:=by
      apply List.ext_getElem?
      intro i
      by_cases hi:i < us.length
      · rw [List.getElem?_eq_getElem hi]
        have:=h3 i us[i] (List.getElem?_eq_getElem hi)
        rw [Nat.zero_add] at this;exact this.symm
      · rw [List.getElem?_eq_none (by omega),List.getElem?_eq_none (by omega)]
    subst this;exact ⟨us,e,h4⟩
  | _=>exact one h hs
end
section
variable {X:Cx} {M:Bool} {n:Nat} {r:Option Nat} {st:ASt} {Q:Exit→ASt→Prop} {ops rest:List Oper} {o:Oper} {d:Nat}
theorem al_makeMap (gk gv:GTy) {t:TypeId} (hop:o.op=.makeMap t none) (ho:o.guard=none∧o.dst=some d) (hd:Nat.blt d n=true)
    (hnext:AL X M n r ops rest ⟨(d,.c (.mref d)) :: subL d .dead st.L,(d,.mp gk gv [] none) :: yj d .dead st.H⟩ Q):AL X M n r ops (o :: rest) st Q:=by
  rintro R W Bi a w ⟨ks,env,B,w0,H,hM,hA⟩;refine qE (xg hA.stt ho.1 ho.2 (zA hd) (v:=.map (some w.heap.size)) (w':=w.alloc (.map #[] 0)) (by simp [execOp,hop,Instr.makeMap,newObj,Sem.run]) fun a' hS=>?_);obtain ⟨H',_,h3⟩:=hA.newBlk (d:=d) hd (l:=.blk w.heap.size) (blk:=.mp gk gv [] none) (sv:=.c (.mref d)) (hA.sh.alloc (.map #[] 0)) ⟨_,[],0,zN,rfl,rfl,⟨List.Pairwise.nil,fun _ h=>by cases h⟩,fun _ h=>by cases h⟩ ⟨_,zN,rfl⟩ hS;exact hnext R W Bi a' _ ⟨ks,_,B,w0,H',hM,h3⟩
end
end Go.Proofs.YtihcolehefloeaaDoor

/- Ranges over maps. -/
namespace Go.Proofs.YtihcolehefloeaaDoor
open Go.RowKit
section
variable {X:Cx} {M:Bool} {n:Nat} {r:Option Nat} {st:ASt} {Q:Exit→ASt→Prop} {ops rest:List Oper} {o:Oper} {d:Nat}
end
end Go.Proofs.YtihcolehefloeaaDoor

/- What ranges over maps compute: the same in all orders. -/
namespace Go.Proofs.YtihcolehefloeaaDoor
open Go.RowKit
section
variable {α β:Type}
end
end Go.Proofs.YtihcolehefloeaaDoor

/- Strings by index. -/
namespace Go.Proofs.YtihcolehefloeaaDoor
open Go.RowKit
section
variable {X:Cx} {M:Bool} {n:Nat} {r:Option Nat} {st:ASt} {Q:Exit→ASt→Prop} {ops rest:List Oper} {o:Oper} {d:Nat}
theorem al_one (hX:X.tt.ok X.P) {c:Bool} {st':ASt} (hs:astep X n (xH ops) st o=.ok c st') (hc:c=true) (h:AL X M n r ops rest st' Q):AL X M n r ops (o :: rest) st Q:=by
  rintro R W Bi a w ⟨ks,env,B,w0,H,hM,hA⟩;exact qE (yB hX hs hc hA fun a' w' env' H' _ hA'=>h _ _ _ _ _ ⟨ks,env',B,w0,H',hM,hA'⟩)
end
end Go.Proofs.YtihcolehefloeaaDoor

/- Arrays of the call's own are rows. -/
namespace Go.Proofs.YtihcolehefloeaaDoor
open Go.RowKit
def decs (g:GTy):Nat→List SC→Option (Bool×List g.D×List SC)
  | 0,r=>some (true,[],r)
  | m+1,r=>match dec g r with
    | some (c1,x,r1)=>match decs g m r1 with
      | some (c2,l,r2)=>some (c1&&c2,x :: l,r2)
      | none=>none
    | none=>none
section
variable {env:Nat→Loc} {B:Nat→Prop} {w:World}
theorem decs_ok {g:GTy}:∀ {m:Nat} {cs:List SC} {c:Bool} {l:List g.D} {r:List SC} {vs:List Value},CsR env B w cs vs→decs g m cs=some (c,l,r)→c=true→l.length=m∧∃ v1 v2,vs=v1++v2∧Flat (FR B w g) l v1∧CsR env B w r v2
  | 0,cs,c,l,r,vs,h,hd,_=>by
    cases hd;exact ⟨rfl,[],vs,rfl,rfl,h⟩
  | m+1,cs,c,l,r,vs,h,hd,hc=>by
    simp only [decs] at hd
    split at hd
    · rename_i c1 x r1 h1
      split at hd
      · rename_i c2 l2 r2 h2
        cases hd;simp only [Bool.and_eq_true] at hc;obtain ⟨v1,v2,rfl,h3,h4⟩:=dec_ok h h1 hc.1;obtain ⟨hl,v3,v4,rfl,h5,h6⟩:=decs_ok h4 h2 hc.2;exact ⟨by rw [List.length_cons,hl],v1++v3,v4,by rw [List.append_assoc],⟨v1,v3,rfl,h3,h5⟩,h6⟩
      · cases hd
    · cases hd
end
section
variable {X:Cx} {R:Nat→Prop} {W:World} {Bi:Bk} {n:Nat} {ks:List Nat} {env:Nat→Loc} {B:Nat→Prop} {w0:World} {H:List Ck} {st st':ASt} {a:Act} {w:World}
theorem Wk.arr (s:Nat) (g:GTy) (m:Nat) (l:List g.D) {t:TypeId} {cs:List SC} {c:Bool} (hid:Nat.blt s n=true) (hs:lk st.L s=some (.c (.ptr s 0))) (hlk:lk st.H s=some (.cells t cs)) (hdec:decs g m cs=some (c,l,[])) (hc:c=true) (hm:m≤140737488355328) :
    Wk X n st ⟨(s,.c (.elt s g.size 0 0)) :: subL s .dead st.L,(s,.row t g l (some m)) :: yj s .dead st.H⟩:=fun R W Bi M a w ⟨ks,env,B,w0,H,hM,h⟩=>by
  obtain ⟨ck,Y,Z,⟨b,vs,he,rfl,hcs⟩,h2,h3⟩:=h.heap.take hlk;obtain ⟨hl,v1,v2,hv,hfl,hv2⟩:=decs_ok hcs hdec hc;have hv2':v2=[]:=hv2;subst hv2';rw [List.append_nil] at hv;subst hv;subst hl;obtain ⟨H2,h4,h5,_⟩:=h3 (upd env s (.row (some ⟨b,0,none⟩) l.length l.length)) .dead qR (fun _ _=>trivial);have hp:(H++ks.map mkO).Perm (Ck.cel b vs t :: (Y++Z++ks.map mkO)):=by
    rw [h2];simp only [List.append_assoc,List.cons_append];exact List.perm_middle
  have hs1:SH (fun k=>R k∨B k) w0 (Ck.cel b vs t :: (H2++ks.map mkO)) w:=(h.sh.perm hp).weak ((h4.append_right _).cons_cons _);refine ⟨ks,upd env s (.row (some ⟨b,0,none⟩) l.length l.length),B,w0,.row (some ⟨b,0,none⟩) l.length t g.size l.length vs :: H2,hM,h.size,h.defs,fun q u hu=>?_,⟨_,H2,rfl,⟨_,_,vs,zN,rfl,hfl,fun q hq=>by cases hq; rfl⟩,h5⟩,hs1.toRow (FR.flat_length hfl) hm,h.sub,h.new,pin_upd h.pin (fun q hp=>by have h1:=(h.pin _ _ hp).1; have h2:=zA hid; omega),h.base,h.glob⟩;rw [qa] at hu
  split at hu
  · rename_i e
    subst e;cases hu;obtain ⟨u',h6,b',h7,h8⟩:=h.has _ _ hs;rw [he] at h7;cases h7;exact ⟨u',h6,b,_,_,zN,by rw [h8]; simp⟩
  · obtain ⟨u0,hu0,rfl⟩:=lk_subL hu
    obtain ⟨u',h6,h7⟩:=h.has q u0 hu0;exact ⟨u',h6,VR.sub (z:=.dead) qR (fun _ _=>trivial) h7⟩
end
section
variable {X:Cx} {M:Bool} {n:Nat} {r:Option Nat} {st:ASt} {Q:Exit→ASt→Prop} {ops rest:List Oper} {o:Oper} {d:Nat}
theorem qi (k:Nat) (hX:X.tt.ok X.P) {c':Bool} {st':ASt} {l:List Oper} (h:arun X n (xH ops) (l.take k) true st=.done c' st') (hc:c'=true) (hQ:AL X M n r ops (l.drop k) st' Q):AL X M n r ops l st Q:=by
  have:∀ (k:Nat) (l:List Oper) (c:Bool) (st:ASt),arun X n (xH ops) (l.take k) c st=.done c' st'→AL X M n r ops (l.drop k) st' Q→AL X M n r ops l st Q:=by
    intro k
    induction k with
    | zero=>intro l c st h hQ; simp only [List.take_zero,arun] at h; cases h; exact hQ
    | succ k ih=>
      intro l c st h hQ;cases l with
      | nil=>simp only [List.take_nil,arun] at h; cases h; exact hQ
      | cons o l=>
        simp only [List.take_succ_cons,arun] at h
        split at h
        · rename_i c2 st2 hs
          have h2:=arun_c h hc;simp only [Bool.and_eq_true] at h2;rintro R W Bi a w ⟨ks,env,B,w0,H,hM,hA⟩;exact qE (yB hX hs h2.2 hA fun a' w' env' H' _ hA'=>ih l _ _ h hQ _ _ _ _ _ ⟨ks,env',B,w0,H',hM,hA'⟩)
        · cases h
  exact this k l true st h hQ
end
end Go.Proofs.YtihcolehefloeaaDoor

/- Structs are compared. -/
namespace Go.Proofs.YtihcolehefloeaaDoor
open Go.RowKit
def GTy.key:GTy→Bool
  | .int _=>true
  | .bool=>true
  | .str=>true
  | .pair g h=>g.key&&h.key
  | _=>false
def GTy.vals:(g:GTy)→g.D→List Value
  | .int k,x=>[.int k x]
  | .bool,x=>[.bool x]
  | .str,x=>[xI x]
  | .pair g h,x=>g.vals x.1++h.vals x.2
  | _,_=>[]
theorem FR.vals {B:Nat→Prop} {w:World}:∀ {g:GTy} {x:g.D} {vs:List Value},g.key=true→FR B w g x vs→vs=g.vals x
  | .int _,_,_,_,h=>h
  | .bool,_,_,_,h=>h
  | .str,_,_,_,h=>h
  | .sl _,_,_,h,_=>by cases h
  | .csl _,_,_,h,_=>by cases h
  | .unit,_,_,h,_=>by cases h
  | .pair g h,x,_,hk,⟨v1,v2,e,h1,h2⟩=>by
    simp only [GTy.key,Bool.and_eq_true] at hk;rw [e,FR.vals hk.1 h1,FR.vals hk.2 h2]
    rfl
theorem beq_iff {g:GTy} (x y:g.D) (hk:g.key=true):g.beq x y=true ↔ x=y:=by
  induction g with
  | int k=>show ((x:Int) == y)=true ↔ _; simp
  | bool=>show ((x:Bool) == y)=true ↔ _; simp
  | str=>show ((x:List UInt8) == y)=true ↔ _; simp
  | sl g _=>cases hk
  | csl g _=>cases hk
  | unit=>cases hk
  | pair g h ih1 ih2=>
    simp only [GTy.key,Bool.and_eq_true] at hk;show (g.beq x.1 y.1&&h.beq x.2 y.2)=true ↔ _;rw [Bool.and_eq_true,ih1 _ _ hk.1,ih2 _ _ hk.2];exact ⟨fun ⟨a,b⟩=>Prod.ext a b,fun e=>by rw [e]; exact ⟨rfl,rfl⟩⟩
structure KeyOk (P:Program) (t:TypeId) (g:GTy):Prop where
  key:g.key=true
  eq:∀ (x y:g.D) (w:World),(Op.equalIn 10000 t (.agg (g.vals x).toArray) (.agg (g.vals y).toArray)).run P w=.ok (g.beq x y) w
  guard:P.eqGuardType P.depth t=false
def GTy.isK:GTy→Nat→Bool
  | .int _,0=>true
  | .bool,1=>true
  | .str,2=>true
  | _,_=>false
def eqFs (e:TypeId→GTy→Bool):Nat→List Field→GTy→Bool
  | _,[],_=>false
  | off, [f], g => decide (f.name ≠ "_") && (Nat.beq f.offset off && e f.type g)
  | off, f :: fs, .pair g h => decide (f.name ≠ "_") && (Nat.beq f.offset off && (e f.type g && eqFs e (off + g.size) fs h))
  | _,_,_=>false
def eqT (P:Program) (tt:TT):Nat→TypeId→GTy→Bool
  | 0,_,_=>false
  | d+1,t,g=>match tt.find t with
    | none=>false
    | some te=>match te.ti.desc with
      | .int _=>g.isK 0
      | .bool=>g.isK 1
      | .string=>g.isK 2
      | .struct fs=>Nat.beq te.ti.size g.size&&(!P.stoodInHeld t&&eqFs (eqT P tt d) 0 fs.toList g)
      | _=>false
def vd (tt:TT) (t:TypeId) (vs:List Value):Value:=match tt.find t with
  | some te=>match yp te.ti.desc with
    | true=>.agg vs.toArray
    | false=>vs.headD undef
  | none=>undef
theorem vals_len:∀ {g:GTy} (x:g.D),g.key=true→(g.vals x).length=g.size
  | .int _,_,_=>rfl
  | .bool,_,_=>rfl
  | .str,_,_=>rfl
  | .sl _,_,h=>by cases h
  | .csl _,_,h=>by cases h
  | .unit,_,h=>by cases h
  | .pair g h,x,hk=>by
    simp only [GTy.key,Bool.and_eq_true] at hk;show (g.vals x.1++h.vals x.2).length=g.size+h.size;rw [List.length_append,vals_len x.1 hk.1,vals_len x.2 hk.2]
theorem run_part_vd {P:Program} {tt:TT} (hX:tt.ok P) {d:Nat} {t:TypeId} {g:GTy} {x:g.D} {xs:Array Value} {off:Nat} {r:List Value} (hk:g.key=true) (he:eqT P tt d t g=true) (hx:xs.toList.drop off=g.vals x++r) (w:World):(part t xs off).run P w=.ok (vd tt t (g.vals x)) w:=by
  cases d with
  | zero=>cases he
  | succ d=>
    unfold eqT at he;cases hf:tt.find t with
    | none=>simp [hf] at he
    | some te=>
      rw [hf] at he;dsimp only at he;have hti:=(TT.get hX hf).ti;have h1:∀ v,g.vals x=[v]→xs[off]?=some v:=fun v hv=>by
        have h2:(xs.toList.drop off)[0]?=some v:=by rw [hx,hv]; rfl
        rw [List.getElem?_drop] at h2
        simpa using h2
      unfold part;simp only [Sem.run_bind,TI.run_isAgg hti,Result.andThen_ok];unfold vd;rw [hf];dsimp only;have hone:∀ q,g.isK q=true→∃ v,g.vals x=[v]:=fun q hq=>by
        cases g with
        | int k=>exact ⟨_,rfl⟩
        | bool=>exact ⟨_,rfl⟩
        | str=>exact ⟨_,rfl⟩
        | sl _=>cases hk
        | csl _=>cases hk
        | unit=>cases hk
        | pair _ _=>cases q <;> cases hq
      split at he
      · rename_i hd
        obtain ⟨v,hv⟩:=hone _ he;rw [hd,h1 v hv,hv]
        rfl
      · rename_i hd
        obtain ⟨v,hv⟩:=hone _ he;rw [hd,h1 v hv,hv]
        rfl
      · rename_i hd
        obtain ⟨v,hv⟩:=hone _ he;rw [hd,h1 v hv,hv]
        rfl
      · rename_i fs hd
        simp only [Bool.and_eq_true] at he;rw [hd];have hs:=Nat.eq_of_beq_eq_true he.1;simp only [yp,if_true,Sem.run_bind,TI.run_sizeOf hti,Result.andThen_ok,Sem.run_pure,hs];have h3:xs.extract off (off+g.size)=(g.vals x).toArray:=by
          apply Array.toList_inj.1
          rw [Array.toList_extract,List.extract_eq_take_drop,hx,Nat.add_sub_cancel_left,List.take_left' (vals_len x hk)]
        rw [h3]
      · cases he
theorem eqFs_ok {P:Program} {tt:TT} (hX:tt.ok P) {k d:Nat} (ih:∀ t (g:GTy) (x y:g.D) w,g.key=true→eqT P tt k t g=true→(Op.equalIn d t (vd tt t (g.vals x)) (vd tt t (g.vals y))).run P w=.ok (g.beq x y) w) :
    ∀ (fs:List Field) (off:Nat) (g:GTy) (x y:g.D) (xs ys:Array Value) (w:World),g.key=true→eqFs (eqT P tt k) off fs g=true→xs.toList.drop off=g.vals x→ys.toList.drop off=g.vals y→(Op.eqFields d xs ys fs).run P w=.ok (g.beq x y) w:=by
  intro fs
  induction fs with
  | nil=>intro off g x y xs ys w _ h; simp [eqFs] at h
  | cons f fs ihf=>
    intro off g x y xs ys w hk h hx hy;cases fs with
    | nil=>
      have h' : (decide (f.name ≠ "_") && (Nat.beq f.offset off && eqT P tt k f.type g)) = true := by
        cases g <;> exact h
      simp only [Bool.and_eq_true,decide_eq_true_eq] at h';obtain ⟨hn,ho,he⟩:=h';have ho:=Nat.eq_of_beq_eq_true ho;simp only [Op.eqFields,if_pos hn,Sem.run_bind,ho,run_part_vd hX hk he (r:=[]) (by rw [hx,List.append_nil]),run_part_vd hX hk he (r:=[]) (by rw [hy,List.append_nil]),Result.andThen_ok,ih _ _ _ _ _ hk he];cases g.beq x y <;> simp
    | cons f2 fs=>
      cases g with
      | pair g h2=>
        have h' : (decide (f.name ≠ "_") && (Nat.beq f.offset off && (eqT P tt k f.type g && eqFs (eqT P tt k) (off + g.size) (f2 :: fs) h2))) = true := h
        simp only [Bool.and_eq_true,decide_eq_true_eq] at h';obtain ⟨hn,ho,he,hr⟩:=h';have ho:=Nat.eq_of_beq_eq_true ho;simp only [GTy.key,Bool.and_eq_true] at hk;have hx':xs.toList.drop off=g.vals x.1++h2.vals x.2:=hx;have hy':ys.toList.drop off=g.vals y.1++h2.vals y.2:=hy;have hrest:=ihf (off+g.size) h2 x.2 y.2 xs ys w hk.2 hr (by rw [← List.drop_drop,hx',← vals_len x.1 hk.1,List.drop_left]) (by rw [← List.drop_drop,hy',← vals_len y.1 hk.1,List.drop_left]);show _=Result.ok (g.beq x.1 y.1&&h2.beq x.2 y.2) w;rw [Op.eqFields,if_pos hn];simp only [Sem.run_bind,ho,run_part_vd hX hk.1 he hx',run_part_vd hX hk.1 he hy',Result.andThen_ok,ih _ _ _ _ _ hk.1 he];cases hb:g.beq x.1 y.1 with
        | true=>simpa using hrest
        | false=>simp
      | int _=>simp [eqFs] at h
      | bool=>simp [eqFs] at h
      | str=>simp [eqFs] at h
      | sl _=>simp [eqFs] at h
      | csl _=>simp [eqFs] at h
      | unit=>simp [eqFs] at h
theorem eqT_ok {P:Program} {tt:TT} (hX:tt.ok P) (m:Nat):∀ (k:Nat) (t:TypeId) (g:GTy) (x y:g.D) (w:World),g.key=true→eqT P tt k t g=true→(Op.equalIn (m+k) t (vd tt t (g.vals x)) (vd tt t (g.vals y))).run P w=.ok (g.beq x y) w:=by
  intro k
  induction k with
  | zero=>intro t g x y w _ h; cases h
  | succ k ih=>
    intro t g x y w hk h;have h0:=h;unfold eqT at h;cases hf:tt.find t with
    | none=>simp [hf] at h
    | some te=>
      rw [hf] at h;dsimp only at h;have hti:=(TT.get hX hf).ti;have hd0:=hti.1;unfold vd;rw [hf];dsimp only
      split at h
      · rename_i k1 hd
        rw [hd] at hd0 ⊢;cases g with
        | int k=>exact run_equalIn_int w _ t _ _ _ _ hd0
        | _=>cases h
      · rename_i hd
        rw [hd] at hd0 ⊢;cases g with
        | bool=>exact run_equalIn_bool w _ t _ _ hd0
        | _=>cases h
      · rename_i hd
        rw [hd] at hd0 ⊢;cases g with
        | str=>
          have:=run_equalIn_string (P:=P) w (m+k) t ⟨List.toArray x⟩ ⟨List.toArray y⟩ hd0
          simp only [bytes_toList] at this;exact this
        | _=>cases h
      · rename_i fs hd
        rw [hd] at hd0 ⊢;simp only [Bool.and_eq_true,Bool.not_eq_true'] at h;have hfs:P.underlying t=some (.struct fs.toList.toArray):=by simpa using hd0
        show (Op.equalIn (m+k+1) t (.agg _) (.agg _)).run P w=_;rw [eq_struct w (m+k) t _ _ hfs h.2.1];exact eqFs_ok hX ih fs.toList 0 g x y _ _ w hk h.2.2 (by simp) (by simp)
      · cases h
theorem KeyOk.of {P:Program} {tt:TT} (hX:tt.ok P) {t:TypeId} {te:TE} {g:GTy} {fs:Array Field} (hk:g.key=true) (hf:tt.find t=some te) (hd:te.ti.desc=.struct fs) (h:eqT P tt 12 t g=true) (hg:P.eqGuardType P.depth t=false):KeyOk P t g:=by
  refine ⟨hk,fun x y w=>?_,hg⟩
  have:=eqT_ok hX 9988 12 t g x y w hk h
  unfold vd at this;rw [hf] at this;dsimp only at this;rw [hd] at this;exact this
section
variable {X:Cx} {M:Bool} {n:Nat} {r:Option Nat} {st:ASt} {Q:Exit→ASt→Prop} {ops rest:List Oper} {o:Oper} {d:Nat}
theorem CsR.vals {env:Nat→Loc} {B:Nat→Prop} {w:World} {g:GTy} {cs:List SC} {x:g.D} {c:Bool} {v:Value} (hk:g.key=true) (h1:SaR env B w (.agg cs) v) (hd:dec g cs=some (c,x,[])) (hc:c=true):v=.agg (g.vals x).toArray:=by
  obtain ⟨vs,rfl,h1⟩:=h1;obtain ⟨v1,v2,e2,hf,h2⟩:=dec_ok h1 hd hc;have h4:v2=[]:=h2;subst h4;rw [List.append_nil] at e2;subst e2;rw [FR.vals hk hf]
theorem al_neqA {t t':TypeId} {u v:Operand} {g1 g2 c1 c2:Bool} {cs ds:List SC} {g:GTy} {x y:g.D} (hK:KeyOk X.P t g) (hop:o.op=.binOp .neq t u v t') (ho:o.guard=none∧o.dst=some d) (hd:Nat.blt d n=true)
    (hu:ae X st.L u=some (g1,.agg cs)) (hg1:g1=true) (hv:ae X st.L v=some (g2,.agg ds)) (hg2:g2=true) (hx:dec g cs=some (c1,x,[])) (hc1:c1=true) (hy:dec g ds=some (c2,y,[])) (hc2:c2=true)
    (hnext:AL X M n r ops rest ⟨(d,.c (.val (.bool (!(g.beq x y))))) :: st.L,st.H⟩ Q):AL X M n r ops (o :: rest) st Q:=by
  rintro R W Bi a w ⟨ks,env,B,w0,H,hM,hA⟩;obtain ⟨vu,h1,h2⟩:=hA.ev hu hg1;obtain ⟨vv,h3,h4⟩:=hA.ev hv hg2;rw [CsR.vals hK.key h2 hx hc1] at h1;rw [CsR.vals hK.key h4 hy hc2] at h3;refine qE (xg hA.stt ho.1 ho.2 (zA hd) (v:=.bool (!(g.beq x y))) (w':=w) (p_neq_a hA.stt hop h1 h3 hK.guard (hK.eq x y) w) fun a' hS=>?_);exact hnext R W Bi a' _ ⟨ks,env,B,w0,H,hM,hA.set (sv:=.c (.val (.bool (!(g.beq x y))))) rfl hS⟩
end
end Go.Proofs.YtihcolehefloeaaDoor

/- Arguments of any kind of plain data. -/
namespace Go.Proofs.YtihcolehefloeaaDoor
open Go.ChangeShapes Go.WideShapes Go.ChangeAt Go.WideElems Go.RowKit
def WfD:(g:GTy)→g.D→Prop
  | .int k,(x:Int)=>k.min≤x∧x≤k.max
  | .sl g,(l:List g.D)=>∀ y∈l,WfD g y
  | .pair g h,x=>WfD g x.1∧WfD h x.2
  | _,_=>True
def sizeIs (tt:TT) (t:TypeId) (n:Nat):Bool:=match tt.find t with
  | some te=>Nat.beq te.ti.size n
  | none=>false
def fsG (tt:TT) (e:TypeId→GTy→Bool):Nat→List Field→GTy→Bool
  | _,[],_=>false
  | off,[f],g=>Nat.beq f.offset off&&(sizeIs tt f.type g.size&&e f.type g)
  | off,f :: fs,.pair g h=>Nat.beq f.offset off&&(sizeIs tt f.type g.size&&(e f.type g&&fsG tt e (off+g.size) fs h))
  | _,_,_=>false
def arG (tt:TT) (e:TypeId→GTy→Bool) (t:TypeId) (s:Nat):Nat→GTy→Bool
  | 0,_=>false
  | 1,g=>Nat.beq g.size s&&e t g
  | n+1,.pair g h=>Nat.beq g.size s&&(e t g&&arG tt e t s n h)
  | _,_=>false
def GTy.isI:GTy→IntKind→Bool
  | .int k,k'=>decide (k=k')
  | _,_=>false
def tyG (tt:TT):Nat→TypeId→GTy→Bool
  | 0,_,_=>false
  | d+1,t,g=>match tt.find t with
    | none=>false
    | some te=>match te.ti.desc with
      | .int k=>g.isI k
      | .bool=>g.isK 1
      | .string=>g.isK 2
      | .slice e=>match g with
        | .sl h=>Nat.blt 0 h.size&&(sizeIs tt e h.size&&tyG tt d e h)
        | _=>false
      | .struct fs=>Nat.beq te.ti.size g.size&&fsG tt (tyG tt d) 0 fs.toList g
      | .array n e=>Nat.beq te.ti.size g.size&&(match tt.find e with
        | some ee=>arG tt (tyG tt d) e ee.ti.size n g
        | none=>false)
      | _=>false
section
variable {H:Type} {enc:TypeId×Value→H} {P:Program} {W:World} {tt:TT}
theorem cells_tt (hX:tt.ok P) {t:TypeId} {te:TE} (h:tt.find t=some te):P.cellsOf t=te.ti.size:=by
  obtain ⟨x,h1,h2,_⟩:=TI.info (TT.get hX h).ti;unfold Program.cellsOf;rw [h1];exact h2
theorem cells_is (hX:tt.ok P) {t:TypeId} {n:Nat} (h:sizeIs tt t n=true):P.cellsOf t=n:=by
  unfold sizeIs at h
  split at h
  · rename_i te hf
    rw [cells_tt hX hf];exact Nat.eq_of_beq_eq_true h
  · cases h
theorem slice_dec {g:GTy} {R:g.D→Prop} (hs0:0 < g.size) {t e:TypeId} (ht:P.underlying t=some (.slice e)) (hc:P.cellsOf e=g.size) (hdec:DecOk enc P W e g R):DecOk enc P W t (.sl g) (fun (l:List g.D)=>∀ y∈l,R y):=fun k cs x hf=>by
  let α:={ p:g.D×List Value // R p.1∧FR (fun b=>b < W.heap.size) W g p.1 p.2 }
  let f:α→List Value:=fun p=>p.1.2
  have hs:∀ x:α,(f x).length=g.size:=fun x=>x.2.2.length
  rcases DataW.trod_slice ht hf with ⟨h,_⟩ | ⟨a,len,cap,elems,rest,n,_,h,_,_,hl,hm,hlen,hel,_,_⟩
  · subst h
    exact ⟨([]:List g.D),(fun y hy=>by cases hy),none,0,[],rfl,Nat.le_refl _,Nat.zero_le _,rfl,Reads.nil _ _ _,fun _ _ h=>absurd h (Nat.lt_irrefl _)⟩
  · subst h
    rw [hc] at hel;obtain ⟨l,hll,hq⟩:=choose_list (Q:=fun i (y:α)=>∀ j,j < g.size→W.cell? ((a.add (i * g.size)).add j)=(f y)[j]?) len (fun i hi=>by
      have h1:=hel i hi;have h2:elems[i]?=some (elems[i]'(by omega)):=List.getElem?_eq_getElem (by omega);rw [h2,Option.bind_eq_some_iff] at h1;obtain ⟨cs,h3,h4⟩:=h1;obtain ⟨y,hy1,hy2⟩:=hdec _ _ _ h4;exact ⟨⟨(y,cs),hy1,hy2⟩,(World.cells?_some h3).2.2⟩)
    have hr:Reads W (some a) len g.size (l.flatMap f):=by
      refine ⟨by rw [flat_length f g.size hs,hll],fun h0=>?_⟩;have hz:=hq 0 (by omega) 0 hs0;have hz':W.cell? a=some ((f l[0])[0]'(by rw [hs]; exact hs0)):=by
        have e2:(a.add (0 * g.size)).add 0=a:=by simp [Addr.add]
        rw [e2,List.getElem?_eq_getElem (by rw [hs]; exact hs0)] at hz;exact hz
      have hsp:=spot_none hz';refine ⟨a.block,a.off,congrArg some hsp,fun j u hu=>?_⟩;have hj:j < len * g.size:=by have:=(List.getElem?_eq_some_iff.1 hu).1; rwa [flat_length f g.size hs,hll] at this
      have hdiv:j / g.size < len:=(Nat.div_lt_iff_lt_mul hs0).2 hj;have hmod:=Nat.mod_lt j hs0;have h5:=hq (j / g.size) (by omega) (j % g.size) hmod;rw [hsp,Addr.add_lit,Addr.add_lit,List.getElem?_eq_getElem (by rw [hs]; exact hmod)] at h5;have h6:=flat_get f g.size hs l (j / g.size) (j % g.size) (by omega) _ (List.getElem?_eq_getElem (by rw [hs]; exact hmod));have hjs:j / g.size * g.size+j % g.size=j:=by rw [Nat.mul_comm]; exact Nat.div_add_mod j g.size
      rw [hjs,hu] at h6;rw [Nat.add_assoc,hjs] at h5;rw [h5,h6]
    refine ⟨l.map (·.1.1),fun x hx=>?_,some a,cap,l.flatMap f,by rw [List.length_map,hll],by rw [List.length_map,hll]; exact hl,hm,flat_sub l,by rw [List.length_map,hll]; exact hr,fun b p hm e=>?_⟩
    · obtain ⟨p,_,rfl⟩:=List.mem_map.1 hx
      exact p.2.1
    · rw [List.length_map] at hm
      obtain ⟨b',p',e',hcell⟩:=hr.2 (by omega);rw [e] at e';cases e';cases hx:(l.flatMap f)[0]? with
      | some u=>exact cell_lt (hcell 0 u hx)
      | none=>
        exfalso
        have h3:=hr.1;rw [List.getElem?_eq_none_iff] at hx;have h4:0 < len * g.size:=Nat.mul_pos (by omega) hs0;omega
theorem fs_dec (hX:tt.ok P) {e:TypeId→GTy→Bool} (ih:∀ t g,e t g=true→DecOk enc P W t g (WfD g)):∀ (fs:List Field) (off:Nat) (g:GTy) (cs:List Value),fsG tt e off fs g=true→cs.length=off+g.size →
    (∀ f∈fs,∃ m x,DataW.trod enc P W 0 (fun _=>true) true m f.type ((cs.drop f.offset).take (P.cellsOf f.type))=some x)→∃ y:g.D,WfD g y∧FR (fun b=>b < W.heap.size) W g y (cs.drop off):=by
  intro fs
  induction fs with
  | nil=>intro off g cs h; simp [fsG] at h
  | cons f fs ihf=>
    intro off g cs h hl hf;cases fs with
    | nil=>
      have h':(Nat.beq f.offset off&&(sizeIs tt f.type g.size&&e f.type g))=true:=by
        cases g <;> exact h
      simp only [Bool.and_eq_true] at h';obtain ⟨ho,hs,he⟩:=h';have ho:=Nat.eq_of_beq_eq_true ho;obtain ⟨m,x,hx⟩:=hf f List.mem_cons_self;obtain ⟨y,h1,h2⟩:=ih _ _ he _ _ _ hx;rw [ho,cells_is hX hs,List.take_of_length_le (by rw [List.length_drop]; omega)] at h2;exact ⟨y,h1,h2⟩
    | cons f2 fs=>
      cases g with
      | pair g h2=>
        have h':(Nat.beq f.offset off&&(sizeIs tt f.type g.size&&(e f.type g&&fsG tt e (off+g.size) (f2 :: fs) h2)))=true:=h;simp only [Bool.and_eq_true] at h';obtain ⟨ho,hs,he,hr⟩:=h';have ho:=Nat.eq_of_beq_eq_true ho;have hl':cs.length=off+(g.size+h2.size):=hl;obtain ⟨m,x,hx⟩:=hf f List.mem_cons_self;obtain ⟨y1,h3,h4⟩:=ih _ _ he _ _ _ hx;rw [ho,cells_is hX hs] at h4;obtain ⟨y2,h5,h6⟩:=ihf (off+g.size) h2 cs hr (by omega) (fun q hq=>hf q (List.mem_cons_of_mem _ hq));refine ⟨(y1,y2),⟨h3,h5⟩,_,_,?_,h4,h6⟩;rw [← List.drop_drop,List.take_append_drop]
      | int _=>simp [fsG] at h
      | bool=>simp [fsG] at h
      | str=>simp [fsG] at h
      | sl _=>simp [fsG] at h
      | csl _=>simp [fsG] at h
      | unit=>simp [fsG] at h
theorem ar_dec {e:TypeId→GTy→Bool} {t:TypeId} {s:Nat} (ih:∀ g,e t g=true→DecOk enc P W t g (WfD g)):∀ (n:Nat) (i0:Nat) (g:GTy) (cs:List Value),arG tt e t s n g=true→cs.length=i0 * s+g.size →
    (∀ i,i < n→∃ m x,DataW.trod enc P W 0 (fun _=>true) true m t ((cs.drop ((i0+i) * s)).take s)=some x)→∃ y:g.D,WfD g y∧FR (fun b=>b < W.heap.size) W g y (cs.drop (i0 * s)):=by
  intro n
  induction n with
  | zero=>intro i0 g cs h; simp [arG] at h
  | succ n ihn=>
    intro i0 g cs h hl hf;cases n with
    | zero=>
      have h':(Nat.beq g.size s&&e t g)=true:=by
        cases g <;> exact h
      simp only [Bool.and_eq_true] at h';obtain ⟨hs,he⟩:=h';have hs:=Nat.eq_of_beq_eq_true hs;obtain ⟨m,x,hx⟩:=hf 0 (by omega);obtain ⟨y,h1,h2⟩:=ih _ he _ _ _ hx;rw [Nat.add_zero,List.take_of_length_le (by rw [List.length_drop]; omega)] at h2;exact ⟨y,h1,h2⟩
    | succ n=>
      cases g with
      | pair g h2=>
        have h':(Nat.beq g.size s&&(e t g&&arG tt e t s (n+1) h2))=true:=h;simp only [Bool.and_eq_true] at h';obtain ⟨hs,he,hr⟩:=h';have hs:=Nat.eq_of_beq_eq_true hs;have hl':cs.length=i0 * s+(g.size+h2.size):=hl;obtain ⟨m,x,hx⟩:=hf 0 (by omega);obtain ⟨y1,h3,h4⟩:=ih _ he _ _ _ hx;obtain ⟨y2,h5,h6⟩:=ihn (i0+1) h2 cs hr (by rw [Nat.add_mul]; omega) (fun i hi=>by
          have:=hf (i+1) (by omega)
          rw [show i0+1+i=i0+(i+1) by omega];exact this)
        refine ⟨(y1,y2),⟨h3,h5⟩,_,_,?_,h4,h6⟩;rw [Nat.add_zero,Nat.add_mul,Nat.one_mul,← List.drop_drop,List.take_append_drop]
      | int _=>simp [arG] at h
      | bool=>simp [arG] at h
      | str=>simp [arG] at h
      | sl _=>simp [arG] at h
      | csl _=>simp [arG] at h
      | unit=>simp [arG] at h
theorem tyG_dec (hX:tt.ok P):∀ (d:Nat) (t:TypeId) (g:GTy),tyG tt d t g=true→DecOk enc P W t g (WfD g):=by
  intro d
  induction d with
  | zero=>intro t g h; cases h
  | succ d ih=>
    intro t g h k cs x hx;unfold tyG at h;cases hf:tt.find t with
    | none=>simp [hf] at h
    | some te=>
      rw [hf] at h;dsimp only at h;have hti:=(TT.get hX hf).ti;have hd0:=hti.1;have hsz:=cells_tt hX hf
      split at h
      · rename_i k1 hd
        rw [hd] at hd0;cases g with
        | int k2=>
          have:k2=k1:=of_decide_eq_true h
          subst this;exact dec_int hd0 k cs x hx
        | _=>cases h
      · rename_i hd
        rw [hd] at hd0;cases g with
        | bool=>
          obtain ⟨b,rfl,_⟩:=DataW.trod_bool hd0 hx;exact ⟨b,trivial,rfl⟩
        | _=>cases h
      · rename_i hd
        rw [hd] at hd0;cases g with
        | str=>
          obtain ⟨s,rfl,_⟩:=DataW.trod_string hd0 hx;exact ⟨s.data.toList,trivial,rfl⟩
        | _=>cases h
      · rename_i e hd
        rw [hd] at hd0;cases g with
        | sl g=>
          simp only [Bool.and_eq_true] at h;exact slice_dec (zA h.1) hd0 (cells_is hX h.2.1) (ih _ _ h.2.2) k cs x hx
        | _=>cases h
      · rename_i fs hd
        rw [hd] at hd0;simp only [Bool.and_eq_true] at h;have hs:=Nat.eq_of_beq_eq_true h.1;obtain ⟨xs,n,_,_,hlen,hxl,hel⟩:=DataW.trod_struct hd0 hx;rw [hsz,hs] at hlen;obtain ⟨y,h1,h2⟩:=fs_dec (enc:=enc) (W:=W) hX ih fs.toList 0 g cs h.2 (by omega) (fun f hfm=>by
          obtain ⟨i,hi,rfl⟩:=List.mem_iff_getElem.1 hfm;have hi':i < fs.size:=by simpa using hi
          have h3:=hel i fs[i] (Array.getElem?_eq_getElem hi');rw [List.getElem?_eq_getElem (by omega)] at h3;exact ⟨n,_,by simpa using h3⟩)
        exact ⟨y,h1,h2⟩
      · rename_i n e hd
        rw [hd] at hd0;simp only [Bool.and_eq_true] at h;have hs:=Nat.eq_of_beq_eq_true h.1;obtain ⟨xs,m,_,_,hlen,hxl,hel⟩:=DataW.trod_array hd0 hx;rw [hsz,hs] at hlen;have h2:=h.2
        split at h2
        · rename_i ee hee
          rw [cells_tt hX hee] at hel;obtain ⟨y,h1,h3⟩:=ar_dec (enc:=enc) (W:=W) (tt:=tt) (fun g hg=>ih e g hg) n 0 g cs h2 (by omega) (fun i hi=>by
            have h3:=hel i hi;rw [List.getElem?_eq_getElem (by omega)] at h3;rw [Nat.zero_add];exact ⟨m,_,h3⟩)
          rw [Nat.zero_mul] at h3;exact ⟨y,h1,h3⟩
        · cases h2
      · cases h
theorem open_agg (hX:tt.ok P) {t:TypeId} {te:TE} {g:GTy} (hf:tt.find t=some te) (ha:yp te.ti.desc=true) (h:tyG tt 12 t g=true) {r:Reach} {b0:Nat} {v:Value} {d:DataW H} {ps:List MemPlace} (hval:Value.okWide P W r b0 t v) (hd:DataW.Trod enc P W 0 (fun _=>true) true t v d ps) :
    ∃ y:g.D,WfD g y∧∀ env ds,gcells g y 0 g.size=some ds→SaR env (fun b=>b < W.heap.size) W (.agg ds) v:=by
  have hti:=(TT.get hX hf).ti;obtain ⟨cs,rfl⟩:∃ cs,v=.agg cs:=by
    have hd0:=hti.1;unfold Value.okWide at hval;rw [hd0] at hval;cases hdd:te.ti.desc with
    | struct fs=>rw [hdd] at hval; obtain ⟨cs,e,_⟩:=hval; exact ⟨cs,e⟩
    | array n e=>rw [hdd] at hval; obtain ⟨cs,e,_⟩:=hval; exact ⟨cs,e⟩
    | _=>rw [hdd] at ha; cases ha
  obtain ⟨n,hn⟩:=hd;obtain ⟨y,h1,h2⟩:=tyG_dec hX 12 t g h n _ _ hn;refine ⟨y,h1,fun env ds hds=>?_⟩;obtain ⟨us,hp,hc⟩:=FR.cells (env:=env) h2 hds;have hl:cs.toList.length=g.size:=h2.length;have hu:us=cs.toList:=by
    refine List.ext_getElem? fun j=>?_
    by_cases hj:j < us.length
    · have:=hp.2 j _ (List.getElem?_eq_getElem hj)
      rw [Nat.zero_add] at this;rw [List.getElem?_eq_getElem hj];exact this.symm
    · rw [List.getElem?_eq_none (by omega),List.getElem?_eq_none (by rw [hl]; have:=hp.1; omega)]
  subst hu;exact ⟨cs.toList,rfl,hc⟩
end
end Go.Proofs.YtihcolehefloeaaDoor
