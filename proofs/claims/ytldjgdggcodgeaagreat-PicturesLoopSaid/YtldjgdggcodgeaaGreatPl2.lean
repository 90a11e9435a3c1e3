/- Part 2 of 6 of the proof. -/
import Derived.Test.YtldjgdggcodgeaaGreatPl1
import Derived.Lib.LaidTab
import Derived.Test.YtldjgdggcodgeaaGreatProg
import Derived.KernelRfl
import Derived.Lib.ItoaNum
import Derived.Test.YtldjgdggcodgeaaGreatRows
import Derived.LaidMore
import Derived.OpenShut
import Derived.Stop.Joined
import Derived.Maps.RangeRun
import Derived.Scope
set_option linter.unusedSimpArgs false
set_option linter.unusedVariables false
set_option maxRecDepth 100000
namespace Go.Proofs.YtldjgdggcodgeaaGreat
open Go.RowKit
section
abbrev Ps:=List (Nat×Nat)
def renIds(ps:Ps):List Cap->Option (List Cap)
 | []=>some []
 | .id i :: r=>match lk ps i,renIds ps r with
  | some j,some l=>some (.id j :: l)
  | _,_=>none
 | .fz g x :: r=>match renIds ps r with
  | some l=>some (.fz g x :: l)
  | none=>none
def SC.ren(ps:Ps):SC->Option SC
 | .ptr i o=>match lk ps i with
  | some j=>some (.ptr j o)
  | none=>none
 | .elt i sz k o=>match lk ps i with
  | some j=>some (.elt j sz k o)
  | none=>none
 | .sl i=>match lk ps i with
  | some j=>some (.sl j)
  | none=>none
 | .fn f ids=>match renIds ps ids with
  | some l=>some (.fn f l)
  | none=>none
 | .mref i=>match lk ps i with
  | some j=>some (.mref j)
  | none=>none
 | .bfn f i=>match lk ps i with
  | some j=>some (.bfn f j)
  | none=>none
 | .nel i o=>match lk ps i with
  | some j=>some (.nel j o)
  | none=>none
 | .cpo i=>match lk ps i with
  | some j=>some (.cpo j)
  | none=>none
 | .slp i s o=>match lk ps i with
  | some j=>some (.slp j s o)
  | none=>none
 | .slf b i=>match lk ps i with
  | some j=>some (.slf b j)
  | none=>none
 | .val v=>some (.val v)
 | .str s=>some (.str s)
 | .dead=>some .dead
 | .pel g x o=>some (.pel g x o)
 | .par g l=>some (.par g l)
 | .lst g l c=>some (.lst g l c)
def renCs(ps:Ps):List SC->Option (List SC)
 | []=>some []
 | c :: r=>match c.ren ps,renCs ps r with
  | some c',some r'=>some (c' :: r')
  | _,_=>none
def SA.ren(ps:Ps):SA->Option SA
 | .c x=>match x.ren ps with
  | some y=>some (.c y)
  | none=>none
 | .agg cs=>match renCs ps cs with
  | some l=>some (.agg l)
  | none=>none
 | .arr g l=>some (.arr g l)
def renAs(ps:Ps):List SA->Option (List SA)
 | []=>some []
 | c :: r=>match c.ren ps,renAs ps r with
  | some c',some r'=>some (c' :: r')
  | _,_=>none
def SV.ren(ps:Ps):SV->Option SV
 | .a x=>match x.ren ps with
  | some y=>some (.a y)
  | none=>none
 | .tup xs=>match renAs ps xs with
  | some l=>some (.tup l)
  | none=>none
 | .may _ _=>none
def Blk.ren(ps:Ps):Blk->Option Blk
 | .cells t cs=>match renCs ps cs with
  | some l=>some (.cells t l)
  | none=>none
 | .row t g l c=>some (.row t g l c)
 | .sit s p=>some (.sit s p)
 | .mp gk gv l o=>some (.mp gk gv l o)
 | .it mid es k ps'=>match lk ps mid with
  | some j=>some (.it j es k ps')
  | none=>none
 | .junk=>some .junk
 | .hrow el t g l c i d=>match lk ps d with
  | some j=>some (.hrow el t g l c i j)
  | none=>none
 | .rjunk=>some .rjunk
 | .lrow t g l=>some (.lrow t g l)
 | .mrow t t' g l c none=>some (.mrow t t' g l c none)
 | .mrow t t' g l c (some (i,none))=>some (.mrow t t' g l c (some (i,none)))
 | .mrow t t' g l c (some (i,some d))=>match lk ps d with
  | some j=>some (.mrow t t' g l c (some (i,some j)))
  | none=>none
def renH(ps:Ps):Hp->Option Hp
 | []=>some []
 | (i,b) :: r=>match lk ps i,b.ren ps,renH ps r with
  | some j,some b',some r'=>some ((j,b') :: r')
  | _,_,_=>none
def anyIn(js:List Nat):List Cap->Bool
 | []=>false
 | .id i :: r=>js.elem i || anyIn js r
 | .fz _ _ :: r=>anyIn js r
def SC.kill:SC->List Nat->SC
 | .ptr i o,js=>match js.elem i with
  | true=>.dead
  | false=>.ptr i o
 | .elt i sz j o,js=>match js.elem i with
  | true=>.dead
  | false=>.elt i sz j o
 | .sl i,js=>match js.elem i with
  | true=>.dead
  | false=>.sl i
 | .fn f ids,js=>match anyIn js ids with
  | true=>.dead
  | false=>.fn f ids
 | .mref i,js=>match js.elem i with
  | true=>.dead
  | false=>.mref i
 | .bfn f i,js=>match js.elem i with
  | true=>.dead
  | false=>.bfn f i
 | .nel i o,js=>match js.elem i with
  | true=>.dead
  | false=>.nel i o
 | .cpo i,js=>match js.elem i with
  | true=>.dead
  | false=>.cpo i
 | .slp i s o,js=>match js.elem i with
  | true=>.dead
  | false=>.slp i s o
 | .slf b i,js=>match js.elem i with
  | true=>.dead
  | false=>.slf b i
 | c,_=>c
def killCs(js:List Nat):List SC->List SC
 | []=>[]
 | c :: r=>c.kill js :: killCs js r
def SA.kill:SA->List Nat->SA
 | .c x,js=>.c (x.kill js)
 | .agg cs,js=>.agg (killCs js cs)
 | .arr g l,_=>.arr g l
def killAs(js:List Nat):List SA->List SA
 | []=>[]
 | c :: r=>c.kill js :: killAs js r
def SV.kill:SV->List Nat->SV
 | .a x,js=>.a (x.kill js)
 | .may g x,js=>.may g (x.kill js)
 | .tup xs,js=>.tup (killAs js xs)
def killL(js:List Nat):Sl->Sl
 | []=>[]
 | (k,v) :: r=>(k,v.kill js) :: killL js r
def Blk.kill:Blk->List Nat->Blk
 | .cells t cs,js=>.cells t (killCs js cs)
 | .it mid es k ps,js=>match js.elem mid with
  | true=>.junk
  | false=>.it mid es k ps
 | .hrow el t g l c i d,js=>match js.elem d with
  | true=>.rjunk
  | false=>.hrow el t g l c i d
 | .mrow t t' g l c (some (i,some d)),js=>match js.elem d with
  | true=>.mrow t t' g l c (some (i,none))
  | false=>.mrow t t' g l c (some (i,some d))
 | b,_=>b
def qc(js ks:List Nat):Hp->Hp
 | []=>[]
 | (k,b) :: r=>match js.elem k with
  | true=>qc js ks r
  | false=>(k,b.kill ks) :: qc js ks r
def qv:Ps->List Nat
 | []=>[]
 | (_,j) :: r=>j :: qv r
def keepP(h:Hp) (i:Nat):Bool:=match Nat.ble zP i,Nat.ble zU i,lk h i with
 | true,_,_=>true
 | _,true,some (.cells _ _)=>true
 | _,true,some (.mp _ _ _ _)=>true
 | _,_,_=>false
def qR(h:Hp):Ps->List Nat
 | []=>[]
 | (i,j) :: r=>match keepP h i with
  | true=>qR h r
  | false=>j :: qR h r
def nodupB:List Nat->Bool
 | []=>true
 | x :: r=>!(r.elem x)&&nodupB r
def firsts:Ps->List Nat
 | []=>[]
 | (i,_) :: r=>i :: firsts r
def pinsB(n:Nat):Ps->Bool
 | []=>true
 | (i,j) :: r=>(Nat.ble zP i || (Nat.ble zU i&&Nat.blt j zP) || Nat.blt j n)&&pinsB n r
def okPs(n:Nat) (ps:Ps):Bool:=nodupB (firsts ps)&&nodupB (qv ps)&&pinsB n ps
def inv:Ps->Nat->Option Nat
 | [],_=>none
 | (i,j) :: r,k=>if k=j then some i else inv r k
theorem nodupB_ok:∀ {l:List Nat},nodupB l=true->l.Nodup
 | [],_=>List.nodup_nil
 | x :: r,h=>by
  simp only[nodupB,Bool.and_eq_true,Bool.not_eq_true',List.elem_eq_mem,decide_eq_false_iff_not]at h;exact List.nodup_cons.2 ⟨h.1,nodupB_ok h.2⟩
theorem lk_mem{α:Type}:∀ {l:List (Nat×α)} {i:Nat} {x:α},lk l i=some x->(i,x)∈l
 | [],_,_,h=>by cases h
 | (k,v) :: r,i,x,h=>by
  rw[zu]at h
  split at h
  ·rename_i e; subst e; cases h; exact List.mem_cons_self
  ·exact List.mem_cons_of_mem _ (lk_mem h)
theorem mem_firsts:∀ {ps:Ps} {i j:Nat},(i,j)∈ps->i∈firsts ps
 | [],_,_,h=>by cases h
 | (k,l) :: r,i,j,h=>by
  rcases List.mem_cons.1 h with h | h
  ·cases h; exact List.mem_cons_self
  ·exact List.mem_cons_of_mem _ (mem_firsts h)
theorem mem_seconds:∀ {ps:Ps} {i j:Nat},(i,j)∈ps->j∈qv ps
 | [],_,_,h=>by cases h
 | (k,l) :: r,i,j,h=>by
  rcases List.mem_cons.1 h with h | h
  ·cases h; exact List.mem_cons_self
  ·exact List.mem_cons_of_mem _ (mem_seconds h)
theorem mem_lk:∀ {ps:Ps} {i j:Nat},(firsts ps).Nodup->(i,j)∈ps->lk ps i=some j
 | [],_,_,_,h=>by cases h
 | (k,l) :: r,i,j,hn,h=>by
  have hn':=List.nodup_cons.1 hn;rw[zu]
  rcases List.mem_cons.1 h with hm | hm
  ·cases hm; rw[if_pos rfl]
  ·rw[if_neg (fun e=>hn'.1 (by subst e; exact mem_firsts hm)),mem_lk hn'.2 hm]
theorem mem_inv:∀ {ps:Ps} {i j:Nat},(qv ps).Nodup->(i,j)∈ps->inv ps j=some i
 | [],_,_,_,h=>by cases h
 | (k,l) :: r,i,j,hn,h=>by
  have hn':=List.nodup_cons.1 hn;unfold inv
  rcases List.mem_cons.1 h with hm | hm
  ·cases hm; rw[if_pos rfl]
  ·rw[if_neg (fun e=>hn'.1 (by subst e; exact mem_seconds hm)),mem_inv hn'.2 hm]
theorem inv_mem:∀ {ps:Ps} {i j:Nat},inv ps j=some i->(i,j)∈ps
 | [],_,_,h=>by cases h
 | (k,l) :: r,i,j,h=>by
  unfold inv at h
  split at h
  ·rename_i e; subst e; cases h; exact List.mem_cons_self
  ·exact List.mem_cons_of_mem _ (inv_mem h)
theorem pinsB_ok{n:Nat}:∀ {ps:Ps} {i j:Nat},pinsB n ps=true->(i,j)∈ps->zP<=i\/(zU<=i/\j < zP)\/j < n
 | [],_,_,_,h=>by cases h
 | (k,l) :: r,i,j,hp,h=>by
  simp only[pinsB,Bool.and_eq_true,Bool.or_eq_true]at hp
  rcases List.mem_cons.1 h with h | h
  ·cases h
   rcases hp.1 with(h1 | h1) | h1
   ·exact .inl (Nat.le_of_ble_eq_true h1)
   ·exact .inr (.inl ⟨Nat.le_of_ble_eq_true h1.1,zk h1.2⟩)
   ·exact .inr (.inr (zk h1))
  ·exact pinsB_ok hp.2 h
theorem killJs_mem{h:Hp}:∀ {ps:Ps} {i j:Nat},(i,j)∈ps->(qR h ps).elem j=false->keepP h i=true
 | [],_,_,h,_=>by cases h
 | (k,l) :: r,i,j,hm,hk=>by
  unfold qR at hk
  rcases List.mem_cons.1 hm with hm | hm
  ·cases hm
   split at hk
   ·assumption
   ·simp at hk
  ·split at hk
   ·exact killJs_mem hm hk
   ·simp only[List.elem_eq_mem,List.mem_cons,decide_eq_false_iff_not,not_or]at hk
    exact killJs_mem hm (by simpa using hk.2)
section
variable {env env' env'':Nat->Loc} {B:Nat->Prop} {w:World} {ps:Ps} {js:List Nat}
theorem ptrs.ren(he:∀ i j,lk ps i=some j->env' j=env i):∀ {ids l:List Cap} {vs:List Value},renIds ps ids=some l->(ptrs env B w ids vs ↔ ptrs env' B w l vs)
 | [],l,vs,h=>by cases h; exact Iff.rfl
 | .id i :: ids,l,vs,h=>by
  simp only[renIds]at h
  split at h
  ·rename_i j r hi hr
   cases h;constructor
   ·rintro⟨v,r',h1,⟨b,h2,h4⟩,h3⟩
    exact⟨v,r',h1,⟨b,by rw[he i j hi]; exact h2,h4⟩,(ptrs.ren he hr).1 h3⟩
   ·rintro⟨v,r',h1,⟨b,h2,h4⟩,h3⟩
    exact⟨v,r',h1,⟨b,by rw[<- he i j hi]; exact h2,h4⟩,(ptrs.ren he hr).2 h3⟩
  ·cases h
 | .fz g x :: ids,l,vs,h=>by
  simp only[renIds]at h
  split at h
  ·rename_i r hr
   cases h;constructor
   ·rintro⟨v,r',h1,h2,h3⟩; exact⟨v,r',h1,h2,(ptrs.ren he hr).1 h3⟩
   ·rintro⟨v,r',h1,h2,h3⟩; exact⟨v,r',h1,h2,(ptrs.ren he hr).2 h3⟩
  ·cases h
theorem CR.ren(he:∀ i j,lk ps i=some j->env' j=env i):∀ {c c':SC} {v:Value},c.ren ps=some c'->(CR env B w c v ↔ CR env' B w c' v)
 | .val _,_,_,h=>by cases h; exact Iff.rfl
 | .str _,_,_,h=>by cases h; exact Iff.rfl
 | .dead,_,_,h=>by cases h; exact Iff.rfl
 | .ptr i o,_,_,h=>by
  simp only[SC.ren]at h
  split at h
  ·rename_i j hi
   cases h;simp only[CR,he i j hi]
  ·cases h
 | .elt i sz k o,_,_,h=>by
  simp only[SC.ren]at h
  split at h
  ·rename_i j hi
   cases h;simp only[CR,he i j hi]
  ·cases h
 | .slf b i,_,_,h=>by
  simp only[SC.ren]at h
  split at h
  ·rename_i j hi
   cases h;simp only[CR,he i j hi]
  ·cases h
 | .cpo i,_,_,h=>by
  simp only[SC.ren]at h
  split at h
  ·rename_i j hi
   cases h;simp only[CR,he i j hi]
  ·cases h
 | .slp i s o,_,_,h=>by
  simp only[SC.ren]at h
  split at h
  ·rename_i j hi
   cases h;simp only[CR,he i j hi]
  ·cases h
 | .nel i o,_,_,h=>by
  simp only[SC.ren]at h
  split at h
  ·rename_i j hi
   cases h;simp only[CR,he i j hi]
  ·cases h
 | .pel _ _ _,_,_,h=>by cases h; exact Iff.rfl
 | .par _ _,_,_,h=>by cases h; exact Iff.rfl
 | .sl i,_,_,h=>by
  simp only[SC.ren]at h
  split at h
  ·rename_i j hi
   cases h;simp only[CR,he i j hi]
  ·cases h
 | .lst _ _ _,_,_,h=>by cases h; exact Iff.rfl
 | .fn f ids,_,_,h=>by
  simp only[SC.ren]at h
  split at h
  ·rename_i l hl
   cases h;simp only[CR];constructor
   ·rintro⟨vs,h1,h2⟩; exact⟨vs,h1,(ptrs.ren he hl).1 h2⟩
   ·rintro⟨vs,h1,h2⟩; exact⟨vs,h1,(ptrs.ren he hl).2 h2⟩
  ·cases h
 | .mref i,_,_,h=>by
  simp only[SC.ren]at h
  split at h
  ·rename_i j hi
   cases h;simp only[CR,he i j hi]
  ·cases h
 | .bfn f i,_,_,h=>by
  simp only[SC.ren]at h
  split at h
  ·rename_i j hi
   cases h;simp only[CR,he i j hi]
  ·cases h
theorem CsR.ren(he:∀ i j,lk ps i=some j->env' j=env i):∀ {c c':List SC} {v:List Value},renCs ps c=some c'->(CsR env B w c v ↔ CsR env' B w c' v)
 | [],_,_,h=>by cases h; exact Iff.rfl
 | c :: r,_,_,h=>by
  simp only[renCs]at h
  split at h
  ·rename_i c' r' h1 h2
   cases h;constructor
   ·rintro⟨v,q,e,h3,h4⟩; exact⟨v,q,e,(CR.ren he h1).1 h3,(CsR.ren he h2).1 h4⟩
   ·rintro⟨v,q,e,h3,h4⟩; exact⟨v,q,e,(CR.ren he h1).2 h3,(CsR.ren he h2).2 h4⟩
  ·cases h
theorem SaR.ren(he:∀ i j,lk ps i=some j->env' j=env i):∀ {c c':SA} {v:Value},c.ren ps=some c'->(SaR env B w c v ↔ SaR env' B w c' v)
 | .c x,_,_,h=>by
  simp only[SA.ren]at h
  split at h
  ·rename_i y hy; cases h; exact CR.ren he hy
  ·cases h
 | .agg cs,_,_,h=>by
  simp only[SA.ren]at h
  split at h
  ·rename_i l hl
   cases h;constructor
   ·rintro⟨vs,e,h3⟩; exact⟨vs,e,(CsR.ren he hl).1 h3⟩
   ·rintro⟨vs,e,h3⟩; exact⟨vs,e,(CsR.ren he hl).2 h3⟩
  ·cases h
 | .arr g l,_,_,h=>by cases h; exact Iff.rfl
theorem SasR.ren(he:∀ i j,lk ps i=some j->env' j=env i):∀ {c c':List SA} {v:List Value},renAs ps c=some c'->(SasR env B w c v ↔ SasR env' B w c' v)
 | [],_,_,h=>by cases h; exact Iff.rfl
 | c :: r,_,_,h=>by
  simp only[renAs]at h
  split at h
  ·rename_i c' r' h1 h2
   cases h;constructor
   ·rintro⟨v,q,e,h3,h4⟩; exact⟨v,q,e,(SaR.ren he h1).1 h3,(SasR.ren he h2).1 h4⟩
   ·rintro⟨v,q,e,h3,h4⟩; exact⟨v,q,e,(SaR.ren he h1).2 h3,(SasR.ren he h2).2 h4⟩
  ·cases h
theorem VR.ren(he:∀ i j,lk ps i=some j->env' j=env i):∀ {c c':SV} {v:Value},c.ren ps=some c'->VR env B w c v->VR env' B w c' v
 | .a x,_,_,h,hv=>by
  simp only[SV.ren]at h
  split at h
  ·rename_i y hy; cases h; exact(SaR.ren he hy).1 hv
  ·cases h
 | .tup xs,_,_,h,⟨vs,e,hv⟩=>by
  simp only[SV.ren]at h
  split at h
  ·rename_i l hl; cases h; exact⟨vs,e,(SasR.ren he hl).1 hv⟩
  ·cases h
 | .may _ _,_,_,h,_=>by cases h
theorem BR.ren(he:∀ i j,lk ps i=some j->env' j=env i) {i j:Nat} (hi:lk ps i=some j):∀ {b b':Blk} {c:Ck},b.ren ps=some b'->(BR env B w i b c ↔ BR env' B w j b' c)
 | .cells t cs,_,_,h=>by
  simp only[Blk.ren]at h
  split at h
  ·rename_i l hl
   cases h;simp only[BR,he i j hi];constructor
   ·rintro⟨b,vs,h1,h2,h3⟩; exact⟨b,vs,h1,h2,(CsR.ren he hl).1 h3⟩
   ·rintro⟨b,vs,h1,h2,h3⟩; exact⟨b,vs,h1,h2,(CsR.ren he hl).2 h3⟩
  ·cases h
 | .row t g l c,_,_,h=>by cases h; simp only[BR,he i j hi]
 | .sit s p,_,_,h=>by cases h; simp only[BR,he i j hi]
 | .mp gk gv l o,_,_,h=>by cases h; simp only[BR,he i j hi]
 | .it mid es k ps',_,_,h=>by
  simp only[Blk.ren]at h
  split at h
  ·rename_i j' hj
   cases h;simp only[BR,he i j hi,he mid j' hj]
  ·cases h
 | .junk,_,_,h=>by cases h; simp only[BR,he i j hi]
 | .hrow el t g l c q d,_,_,h=>by
  simp only[Blk.ren]at h
  split at h
  ·rename_i j' hj
   cases h;simp only[BR,he i j hi,he d j' hj]
  ·cases h
 | .rjunk,_,_,h=>by cases h; simp only[BR,he i j hi]
 | .lrow t g l,_,_,h=>by cases h; simp only[BR,he i j hi]
 | .mrow t t' g l c none,_,_,h=>by cases h; simp only[BR,he i j hi,holeV]
 | .mrow t t' g l c (some (q,none)),_,_,h=>by
  cases h;simp only[BR,he i j hi,holeV];constructor<;>rintro⟨A,k,ys,ys',I,e,hc,h1,⟨h2,v,h4,_⟩,h3⟩<;>exact⟨A,k,ys,ys',I,e,hc,h1,⟨h2,v,h4,fun _ h=>by cases h⟩,h3⟩
 | .mrow t t' g l c (some (q,some d)),_,_,h=>by
  simp only[Blk.ren]at h
  split at h
  ·rename_i j' hj
   cases h;simp only[BR,he i j hi,holeV];constructor
   ·rintro⟨A,k,ys,ys',I,e,hc,h1,⟨h2,v,h4,h5⟩,h3⟩
    exact⟨A,k,ys,ys',I,e,hc,h1,⟨h2,v,h4,fun d' hd=>by cases hd; rw[he d j' hj]; exact h5 d rfl⟩,h3⟩
   ·rintro⟨A,k,ys,ys',I,e,hc,h1,⟨h2,v,h4,h5⟩,h3⟩
    exact⟨A,k,ys,ys',I,e,hc,h1,⟨h2,v,h4,fun d' hd=>by cases hd; rw[<- he d j' hj]; exact h5 j' rfl⟩,h3⟩
  ·cases h
theorem HR.ren(he:∀ i j,lk ps i=some j->env' j=env i):∀ {h h':Hp} {H:List Ck},renH ps h=some h'->HR env B w h H->HR env' B w h' H
 | [],_,_,h,hh=>by cases h; exact hh
 | (i,b) :: r,_,_,h,⟨c,H',e,h1,h2⟩=>by
  simp only[renH]at h
  split at h
  ·rename_i j b' r' h3 h4 h5
   cases h;exact⟨c,H',e,(BR.ren he h3 h4).1 h1,HR.ren he h5 h2⟩
  ·cases h
theorem ptrs.kill(he:∀ j,js.elem j=false->env' j=env j):∀ {ids:List Cap} {vs:List Value},anyIn js ids=false->ptrs env B w ids vs->ptrs env' B w ids vs
 | [],_,_,h=>h
 | .id i :: ids,_,hn,⟨v,r,e,⟨b,hb,hv⟩,h⟩=>by
  simp only[anyIn,Bool.or_eq_false_iff]at hn;exact⟨v,r,e,⟨b,by rw[he i hn.1]; exact hb,hv⟩,ptrs.kill he hn.2 h⟩
 | .fz g x :: ids,_,hn,⟨v,r,e,h1,h⟩=>⟨v,r,e,h1,ptrs.kill he (by simpa [anyIn] using hn) h⟩
variable (he:∀ j,js.elem j=false->env' j=env j)
include he
theorem CR.kill:∀ {c:SC} {v:Value},CR env B w c v->CR env' B w (c.kill js) v
 | .val _,_,hc=>hc
 | .str _,_,hc=>hc
 | .dead,_,hc=>hc
 | .ptr i o,v,hc=>by
  simp only[SC.kill]
  split
  ·trivial
  ·rename_i h
   obtain⟨b,e,hv⟩:=hc;exact⟨b,by rw[he i h]; exact e,hv⟩
 | .elt i sz j o,v,hc=>by
  simp only[SC.kill]
  split
  ·trivial
  ·rename_i h
   obtain⟨b,c,n,e,hv⟩:=hc;exact⟨b,c,n,by rw[he i h]; exact e,hv⟩
 | .slf b i,v,hc=>by
  simp only[SC.kill]
  split
  ·trivial
  ·rename_i h
   obtain⟨k,e,hv⟩:=hc;exact⟨k,fun hb=>by rw[he i h]; exact e hb,hv⟩
 | .cpo i,v,hc=>by
  simp only[SC.kill]
  split
  ·trivial
  ·rename_i h
   obtain⟨b,c,n,e,hv⟩:=hc;exact⟨b,c,n,by rw[he i h]; exact e,hv⟩
 | .slp i s o,v,hc=>by
  simp only[SC.kill]
  split
  ·trivial
  ·rename_i h
   obtain⟨b,c,n,e,hv⟩:=hc;exact⟨b,c,n,by rw[he i h]; exact e,hv⟩
 | .nel i o,v,hc=>by
  simp only[SC.kill]
  split
  ·trivial
  ·rename_i h
   obtain⟨b,c,n,e,hv⟩:=hc;exact⟨b,c,n,by rw[he i h]; exact e,hv⟩
 | .pel _ _ _,_,hc=>hc
 | .par _ _,_,hc=>hc
 | .sl i,v,hc=>by
  simp only[SC.kill]
  split
  ·trivial
  ·rename_i h
   obtain⟨A,c,n,e,hv⟩:=hc;exact⟨A,c,n,by rw[he i h]; exact e,hv⟩
 | .lst _ _ _,_,hc=>hc
 | .fn f ids,v,hc=>by
  simp only[SC.kill]
  split
  ·trivial
  ·rename_i h
   obtain⟨vs,hv,hp⟩:=hc;exact⟨vs,hv,ptrs.kill he h hp⟩
 | .mref i,v,hc=>by
  simp only[SC.kill]
  split
  ·trivial
  ·rename_i h
   obtain⟨b,e,hv⟩:=hc;exact⟨b,by rw[he i h]; exact e,hv⟩
 | .bfn f i,v,hc=>by
  simp only[SC.kill]
  split
  ·trivial
  ·rename_i h
   obtain⟨b,e,hv⟩:=hc;exact⟨b,by rw[he i h]; exact e,hv⟩
theorem CsR.kill:∀ {c:List SC} {v:List Value},CsR env B w c v->CsR env' B w (killCs js c) v
 | [],_,hc=>hc
 | _ :: _,_,⟨v,r,e,h1,h2⟩=>⟨v,r,e,CR.kill he h1,CsR.kill h2⟩
theorem SaR.kill:∀ {c:SA} {v:Value},SaR env B w c v->SaR env' B w (c.kill js) v
 | .c _,_,hc=>CR.kill he hc
 | .agg _,_,⟨vs,e,h1⟩=>⟨vs,e,CsR.kill he h1⟩
 | .arr _ _,_,h=>h
theorem SasR.kill:∀ {c:List SA} {v:List Value},SasR env B w c v->SasR env' B w (killAs js c) v
 | [],_,hc=>hc
 | _ :: _,_,⟨v,r,e,h1,h2⟩=>⟨v,r,e,SaR.kill he h1,SasR.kill h2⟩
theorem VR.kill:∀ {c:SV} {v:Value},VR env B w c v->VR env' B w (c.kill js) v
 | .a _,_,hc=>SaR.kill he hc
 | .may _ _,_,hc=>⟨fun hg=>SaR.kill he (hc.1 hg),hc.2⟩
 | .tup _,_,⟨vs,e,h1⟩=>⟨vs,e,SasR.kill he h1⟩
theorem BR.kill{k:Nat} (hk:env' k=env k):∀ {b:Blk} {c:Ck},BR env B w k b c->BR env' B w k (b.kill js) c
 | .cells _ _,_,⟨b,vs,e,hc,h1⟩=>⟨b,vs,by rw[hk]; exact e,hc,CsR.kill he h1⟩
 | .row _ _ _ _,_,⟨A,c,xs,e,hc,h1⟩=>⟨A,c,xs,by rw[hk]; exact e,hc,h1⟩
 | .sit _ _,_,⟨b,e,hc⟩=>⟨b,by rw[hk]; exact e,hc⟩
 | .mp _ _ _ _,_,⟨b,es,q,e,hc⟩=>⟨b,es,q,by rw[hk]; exact e,hc⟩
 | .it mid _ _ _,_,⟨b,m,e,hm,hc⟩=>by
  simp only[Blk.kill]
  split
  ·exact⟨b,_,by rw[hk]; exact e,hc⟩
  ·rename_i h
   exact⟨b,m,by rw[hk]; exact e,by rw[he mid h]; exact hm,hc⟩
 | .junk,_,⟨b,o,e,hc⟩=>⟨b,o,by rw[hk]; exact e,hc⟩
 | .hrow el t g l cap i d,_,⟨A,c,ys,A',c',m,e,hc,h1,hi,h2,h3⟩=>by
  simp only[Blk.kill]
  split
  ·exact⟨A,c,_,_,_,_,_,by rw[hk]; exact e,hc⟩
  ·rename_i h
   exact⟨A,c,ys,A',c',m,by rw[hk]; exact e,hc,h1,hi,by rw[he d h]; exact h2,h3⟩
 | .rjunk,_,⟨A,c,n,t,s,m,xs,e,hc⟩=>⟨A,c,n,t,s,m,xs,by rw[hk]; exact e,hc⟩
 | .lrow _ _ _,_,⟨A,c,e,h1⟩=>⟨A,c,by rw[hk]; exact e,h1⟩
 | .mrow _ _ _ _ _ none,_,⟨A,q,ys,ys',I,e,hc,h1,h2,h3⟩=>⟨A,q,ys,ys',I,by rw[hk]; exact e,hc,h1,h2,h3⟩
 | .mrow _ _ _ _ _ (some (i,none)),_,⟨A,q,ys,ys',I,e,hc,h1,⟨h2,v,h4,_⟩,h3⟩=>⟨A,q,ys,ys',I,by rw[hk]; exact e,hc,h1,⟨h2,v,h4,fun _ h=>by cases h⟩,h3⟩
 | .mrow _ _ _ _ _ (some (i,some d)),_,⟨A,q,ys,ys',I,e,hc,h1,⟨h2,v,h4,h5⟩,h3⟩=>by
  simp only[Blk.kill]
  split
  ·exact⟨A,q,ys,ys',I,by rw[hk]; exact e,hc,h1,⟨h2,v,h4,fun _ h=>by cases h⟩,h3⟩
  ·rename_i h
   exact⟨A,q,ys,ys',I,by rw[hk]; exact e,hc,h1,⟨h2,v,h4,fun d' hd=>by cases hd; rw[he d h]; exact h5 d rfl⟩,h3⟩
omit he in
theorem lk_killL:∀ {l:Sl} {s:Nat} {v:SV},lk (killL js l) s=some v->∃ u,lk l s=some u/\v=u.kill js
 | [],_,_,h=>by cases h
 | (k,u) :: l,s,v,h=>by
  unfold killL at h;rw[zu]at h ⊢
  split at h
  ·rename_i e
   cases h;rw[if_pos e];exact⟨u,rfl,rfl⟩
  ·rename_i e
   rw[if_neg e];exact lk_killL h
omit he in
theorem HR.append:∀ {h h':Hp} {H H':List Ck},HR env B w h H->HR env B w h' H'->HR env B w (h++h') (H++H')
 | [],_,_,_,h1,h2=>by rw[show _=[] from h1]; exact h2
 | _ :: _,_,_,_,⟨c,H',e,h1,h2⟩,h3=>⟨c,_,by rw[e]; rfl,h1,HR.append h2 h3⟩
end
section
variable {env env' env'':Nat->Loc} {B:Nat->Prop} {w:World} {ps:Ps} {js ks:List Nat}
def noKs(js:List Nat):Hp->Bool
 | []=>true
 | (k,_) :: r=>!js.elem k&&noKs js r
theorem HR.frame(he:∀ j,ks.elem j=false->env' j=env j) (hk:∀ k,js.elem k=false->env' k=env k):∀ {l:Hp} {H:List Ck},HR env B w l H->∃ H',H'.Sublist H/\HR env' B w (qc js ks l) H'/\(noKs js l=true->H'=H)
 | [],_,hh=>⟨[],by rw[show _=[] from hh]; exact List.Sublist.refl _,rfl,fun _=>(show _=[] from hh).symm⟩
 | (k,b) :: l,_,⟨c,H',e,h1,h2⟩=>by
  obtain⟨H2,hs,h3,h4⟩:=HR.frame he hk h2;subst e;unfold qc
  split
  ·rename_i h
   exact⟨H2,hs.cons _,h3,fun e=>by unfold noKs at e; rw[h]at e; cases e⟩
  ·rename_i h
   exact⟨c :: H2,hs.cons_cons _,⟨c,H2,rfl,BR.kill he (hk k h) h1,h3⟩,fun e=>by unfold noKs at e; rw[Bool.and_eq_true]at e; rw[h4 e.2]⟩
end
def aes(X:Cx) (L:Sl):List Operand->Option (Bool×List SA)
 | []=>some (true,[])
 | u :: r=>match ae X L u,aes X L r with
  | some (g,x),some (c,l)=>some (g&&c,x :: l)
  | _,_=>none
theorem aes_ok{X:Cx} {R:Nat->Prop} {W:World} {Bi:Bk} {n:Nat} {ks:List Nat} {env:Nat->Loc} {B:Nat->Prop} {w0:World} {H:List Ck} {st:ASt} {a:Act} {w:World} (h:AI X R W Bi n ks env B w0 H st a w) :
  ∀ {us:List Operand} {c:Bool} {xs:List SA},aes X st.L us=some (c,xs)->c=true->∃ vs,evs (qL a) us=some vs/\SasR env B w0 xs vs
 | [],c,xs,hu,_=>by cases hu; exact⟨[],rfl,rfl⟩
 | u :: us,c,xs,hu,hc=>by
  simp only[aes]at hu
  split at hu
  ·rename_i g x c' l h1 h2
   cases hu;simp only[Bool.and_eq_true]at hc;obtain⟨v,h3,h4⟩:=h.ev h1 hc.1;obtain⟨vs,h5,h6⟩:=aes_ok h h2 hc.2;refine⟨v :: vs,?_,v,vs,rfl,h4,h6⟩;unfold evs;rw[h3,h5]
  ·cases hu
theorem AI.called{X:Cx} {R:Nat->Prop} {W:World} {Bi:Bk} {n d:Nat} {ks:List Nat} {env:Nat->Loc} {B:Nat->Prop} {w0:World} {H:List Ck} {st:ASt} {a a':Act} {w w':World} {ps:Ps} {h H1:Hp} {Q:SV->Hp->Prop} {v:Value} (hA:AI X R W Bi n ks env B w0 H st a w)
  (hps:okPs n ps=true) {C1 C2:List Ck} (hperm:H.Perm (C1++C2)) (hC1:HR (fun i=>match lk ps i with | some j=>env j | none=>.no) B w0 h C1) (hC2:HR env B w0 H1 C2)
  (hpost:ACpost X (fun i=>match lk ps i with | some j=>env j | none=>.no) B C1 w Q v w') (hS:St n (dfs ks Bi) ((d,v) :: qL a) a') :
  ∃ sv h',Q sv h'/\∀ sv' h'',sv.ren ps=some sv'->renH ps h'=some h''->∃ env' B' w0' H',AI X R W Bi n ks env' B' w0' H' ⟨(d,sv') :: killL (qR h ps) st.L,h''++qc (qR h ps) (qR h ps) H1⟩ a' w'/\(∀ k,B k->B' k)/\KO (fun k=>R k\/B k) w0 w0'/\(noKs (qR h ps) H1=true->∀ c∈C2,c∈H'):=by
 obtain⟨env',B',w0',H',sv,h',hQ,hsub,hnew,hko,hvr,hhr,hsh,hpin⟩:=hpost;refine⟨sv,h',hQ,fun sv' h'' hsv hh=>?_⟩;simp only[okPs,Bool.and_eq_true]at hps;obtain⟨⟨hp1,hp2⟩,hp3⟩:=hps;have hf:=nodupB_ok hp1;have hs2:=nodupB_ok hp2;have hs:SH (fun k=>R k\/B k) w0 (C1++(C2++ks.map qW)) w:=by
  have:=hA.sh.perm (hperm.append_right (ks.map qW))
  rw[List.append_assoc]at this;exact this
 have hpart:=List.pairwise_append.1 hs.apart;have hRest:∀ k,R k\/B k->Rest w C1 k:=fun k hk=>⟨hs.base k hk,fun c hc e=>((hs.ok c (List.mem_append_left _ hc)).lt e).1 hk⟩
 have hFr:∀ c∈C2++ks.map qW,∀ b,c.has b->Rest w C1 b/\¬ (R b\/B b):=fun c hc b hb=>by
  have h1:=(hs.ok c (List.mem_append_right _ hc)).lt hb;exact⟨⟨h1.2,fun c' hc' e=>hpart.2.2 c' hc' c hc b e hb⟩,h1.1⟩
 have hsame:∀ k,Rest w C1 k->w'.heap[k]?=w.heap[k]?:=fun k hk=>(hsh.below.block k (.inl hk)).trans (hko.block k hk)
 have hup:Up B w0 B' w0':=⟨hsub,fun k hk=>(hko.block k (hRest k (.inr hk))).trans (hs.below.block k (.inr hk))⟩
 let e2:Nat->Loc:=fun j=>match inv ps j with | some i=>env' i | none=>env j
 have he1:∀ i j,lk ps i=some j->e2 j=env' i:=fun i j hij=>by
  show(match inv ps j with | some i=>env' i | none=>env j)=_;rw[mem_inv hs2 (lk_mem hij)]
 have hBlk:∀ {l:Hp} {C:List Ck} {envc:Nat->Loc} {Bc:Nat->Prop} {wc:World} {i:Nat} {t:TypeId} {cs:List SC},HR envc Bc wc l C->lk l i=some (.cells t cs)->∃ b,envc i=.blk b:=by
  intro l C envc Bc wc i t cs hl hi;obtain⟨c,K,⟨b,vs,h1,_⟩,_⟩:=hl.foc hi;exact⟨b,h1⟩
 have hBlkM:∀ {l:Hp} {C:List Ck} {envc:Nat->Loc} {Bc:Nat->Prop} {wc:World} {i:Nat} {gk gv:GTy} {q:List (gk.D×gv.D)} {o:Option (List MapEntry×Nat)},HR envc Bc wc l C->lk l i=some (.mp gk gv q o)->∃ b,envc i=.blk b:=by
  intro l C envc Bc wc i gk gv q o hl hi;obtain⟨c,K,⟨b,_,_,h1,_⟩,_⟩:=hl.foc hi;exact⟨b,h1⟩
 have he2:∀ j,(qR h ps).elem j=false->e2 j=env j:=fun j hj=>by
  show(match inv ps j with | some i=>env' i | none=>env j)=_;cases hi:inv ps j with
  | none=>rfl
  | some i=>
   have hm:=inv_mem hi;have hkeep:=killJs_mem hm hj;have hij:=mem_lk hf hm;unfold keepP at hkeep
   split at hkeep
   ·rename_i hb
    show env' i=env j;exact hpin i (env j) (.inr (Nat.le_of_ble_eq_true hb)) (by simp only[hij])
   ·rename_i t cs hb hl _
    obtain⟨b,hb1⟩:=hBlk hC1 hl;have h1:=hpin i (.blk b) (.inl ⟨Nat.le_of_ble_eq_true hb,b,rfl⟩) hb1;rw[hij]at hb1;show env' i=env j;rw[h1];exact hb1.symm
   ·rename_i gk gv q o hb hl _
    obtain⟨b,hb1⟩:=hBlkM hC1 hl;have h1:=hpin i (.blk b) (.inl ⟨Nat.le_of_ble_eq_true hb,b,rfl⟩) hb1;rw[hij]at hb1;show env' i=env j;rw[h1];exact hb1.symm
   ·cases hkeep
 have he3:∀ k,(qv ps).elem k=false->e2 k=env k:=fun k hk=>by
  show(match inv ps k with | some i=>env' i | none=>env k)=_;cases hi:inv ps k with
  | none=>rfl
  | some i=>
   have:=mem_seconds (inv_mem hi)
   simp only[List.elem_eq_mem,decide_eq_false_iff_not]at hk;exact absurd this hk
 obtain⟨C3,hsl,hC3,hC4⟩:=HR.frame (js:=qR h ps) (ks:=qR h ps) he2 he2 (hC2.up hup);have hKO:KO (fun k=>R k\/B k) w0 w0':=⟨hko.os.trans hs.below.os,hko.tape.trans hs.below.tape,hko.output.trans hs.below.output,Nat.le_trans hs.below.size hko.size,fun k hk=>(hko.block k (hRest k hk)).trans (hs.below.block k hk)⟩
 refine⟨e2,B',w0',H'++C3,⟨hS.size,hS.defs,fun s u hu=>?_,(HR.ren he1 hh hhr).append hC3,?_,fun k hk=>hsub k (hA.sub k hk),fun k hk=>?_,fun id b hb=>?_,?_,fun i x hx=>(hA.glob i x hx).up hup⟩,hsub,hKO,fun e c hc=>List.mem_append_right _ (by rw[hC4 e]; exact hc)⟩
 ·rw[zu]at hu
  split at hu
  ·rename_i e; subst e; cases hu; exact⟨v,hS.this,VR.ren he1 hsv hvr⟩
  ·rename_i e
   obtain⟨u0,hu0,rfl⟩:=lk_killL hu;obtain⟨u',h3,h4⟩:=hA.has s u0 hu0;exact⟨u',hS.other e h3,VR.kill he2 (h4.up hup)⟩
 ·have hsub2:(C3++ks.map qW).Sublist (C2++ks.map qW):=hsl.append_right _
  rw[List.append_assoc];refine⟨⟨hsh.below.os,hsh.below.tape,hsh.below.output,hsh.below.size,fun k hk=>hsh.below.block k (hk.imp (fun h=>hRest k (.inl h)) id)⟩,fun k hk=>hsh.base k (hk.imp (fun h=>hRest k (.inl h)) id),fun c hc=>?_,List.pairwise_append.2 ⟨hsh.apart,hpart.2.1.sublist hsub2,fun c hc d hd b hb hb'=>?_⟩⟩
  ·rcases List.mem_append.1 hc with hc | hc
   ·exact(hsh.ok c hc).base fun b hb hk=>((hsh.ok c hc).lt hb).1 (hk.imp (fun h=>hRest b (.inl h)) id)
   ·have hc':=hsub2.subset hc
    have hok:=hs.ok c (List.mem_append_right _ hc');refine(hok.keep (w':=w') fun b hb=>hsame b (hFr c hc' b hb).1).base fun b hb hk=>?_
    obtain⟨h5,h6⟩:=hFr c hc' b hb
    rcases hk with hk | hk
    ·exact h6 (.inl hk)
    ·rcases hnew b hk with h7 | h7
     ·exact h6 (.inr h7)
     ·exact h7.1 h5
  ·exact((hsh.ok c hc).lt hb).1 (.inl (hFr d (hsub2.subset hd) b hb').1)
 ·rcases hnew k hk with h5 | h5
  ·exact(hA.new k h5).imp_right fun h'=>⟨h'.1,h'.2.keep ((hko.block k (hRest k (.inr h5))).trans (hs.below.block k (.inr h5)))⟩
  ·exact .inr ⟨fun hR=>h5.1 (hRest k (.inl hR)),h5.2⟩
 ·obtain⟨h5,h6,h8⟩:=hA.pin id b hb
  refine⟨h5,?_,h8⟩;show(match inv ps id with | some i=>env' i | none=>env id)=_;cases hi:inv ps id with
  | none=>exact h6
  | some i=>
   have hm:=inv_mem hi;have hij:=mem_lk hf hm
   rcases pinsB_ok hp3 hm with h7 | ⟨h7,h9⟩ | h7
   ·exact hpin i b (.inr h7) (by simp only[hij]; exact h6)
   ·rcases h8 with h8 | h8
    ·exact hpin i b (.inl ⟨h7,h8⟩) (by simp only[hij]; exact h6)
    ·omega
   ·omega
 ·exact hA.base.trans ⟨hko.os.trans hs.below.os,hko.tape.trans hs.below.tape,hko.output.trans hs.below.output,Nat.le_trans hs.below.size hko.size,fun k hk=>(hko.block k (hRest k (.inl hk))).trans (hs.below.block k (.inl hk))⟩
section
variable {X:Cx} {M:Bool} {n:Nat} {r:Option Nat} {st:ASt} {Q:Exit->ASt->Prop} {ops rest:List Oper} {o:Oper} {d:Nat}
end
end

section
def ptrAs:List Cap->List SA
 | []=>[]
 | .id i :: r=>.c (.ptr i 0) :: ptrAs r
 | .fz g x :: r=>.c (.pel g x 0) :: ptrAs r
section
variable {X:Cx} {M:Bool} {n:Nat} {r:Option Nat} {st:ASt} {Q:Exit->ASt->Prop} {ops rest:List Oper} {o:Oper} {d:Nat}
theorem ptrs_sas{env:Nat->Loc} {B:Nat->Prop} {w:World}:∀ {ids:List Cap} {vs:List Value},ptrs env B w ids vs->SasR env B w (ptrAs ids) vs
 | [],_,h=>h
 | .id _ :: ids,_,⟨v,r,e,h1,h⟩=>⟨v,r,e,h1,ptrs_sas h⟩
 | .fz _ _ :: ids,_,⟨v,r,e,⟨b,o,h1,h2⟩,h⟩=>⟨v,r,e,⟨b,o,by rw[h1]; rfl,h2⟩,ptrs_sas h⟩
theorem SasR.append{env:Nat->Loc} {B:Nat->Prop} {w:World}:∀ {xs ys:List SA} {vs us:List Value},SasR env B w xs vs->SasR env B w ys us->SasR env B w (xs++ys) (vs++us)
 | [],_,_,_,h,h'=>by rw[show _=[] from h]; exact h'
 | _ :: _,_,_,_,⟨v,r,e,h1,h2⟩,h'=>⟨v,_,by rw[e]; rfl,h1,SasR.append h2 h'⟩
theorem killL_nil:∀ L:Sl,killL [] L=L:=by
 have h1:∀ c:SC,c.kill []=c:=by
  have h0:∀ ids:List Cap,anyIn [] ids=false:=by
   intro ids
   induction ids with
   | nil=>rfl
   | cons i r ih=>cases i<;>simp[anyIn,ih]
  intro c;cases c with
  | fn f ids=>simp only[SC.kill,h0]
  | _=>rfl
 have h2:∀ cs:List SC,killCs [] cs=cs:=by
  intro cs
  induction cs with
  | nil=>rfl
  | cons c r ih=>simp only[killCs,h1,ih]
 have h3:∀ x:SA,x.kill []=x:=by
  intro x;cases x with
  | c x=>simp only[SA.kill,h1]
  | agg cs=>simp only[SA.kill,h2]
  | arr g l=>rfl
 have h4:∀ xs:List SA,killAs [] xs=xs:=by
  intro xs
  induction xs with
  | nil=>rfl
  | cons c r ih=>simp only[killAs,h3,ih]
 have h5:∀ x:SV,x.kill []=x:=by
  intro x;cases x with
  | a x=>simp only[SV.kill,h3]
  | may g x=>simp only[SV.kill,h3]
  | tup xs=>simp only[SV.kill,h4]
 intro L
 induction L with
 | nil=>rfl
 | cons p r ih=>obtain⟨k,v⟩:=p; simp only[killL,h5,ih]
theorem frameH_nil:∀ H:Hp,qc [] [] H=H:=by
 have h1:∀ c:SC,c.kill []=c:=by
  have h0:∀ ids:List Cap,anyIn [] ids=false:=by
   intro ids
   induction ids with
   | nil=>rfl
   | cons i r ih=>cases i<;>simp[anyIn,ih]
  intro c;cases c with
  | fn f ids=>simp only[SC.kill,h0]
  | _=>rfl
 have h2:∀ cs:List SC,killCs [] cs=cs:=by
  intro cs
  induction cs with
  | nil=>rfl
  | cons c r ih=>simp only[killCs,h1,ih]
 intro H
 induction H with
 | nil=>rfl
 | cons p r ih=>
  obtain⟨k,b⟩:=p;cases b with
  | cells t cs=>simp[qc,Blk.kill,h2,ih]
  | row t g l c=>simp[qc,Blk.kill,ih]
  | sit s p=>simp[qc,Blk.kill,ih]
  | mp gk gv l o=>simp[qc,Blk.kill,ih]
  | it mid es k ps=>simp[qc,Blk.kill,ih]
  | junk=>simp[qc,Blk.kill,ih]
  | hrow el t g l c i d=>simp[qc,Blk.kill,ih]
  | rjunk=>simp[qc,Blk.kill,ih]
  | lrow t g l=>simp[qc,Blk.kill,ih]
  | mrow t t' g l c h=>rcases h with _ | ⟨i,_ | d⟩<;>simp[qc,Blk.kill,ih]
end
end

section
section
variable {P:Program} {ops:Array Oper} {Q:Exit->Act->World->Prop} {S:Nat->Array Bool->World->Prop}
def wpAnyJ(P:Program) (ops:Array Oper) (Q:Exit->Act->World->Prop) (S:Nat->Array Bool->World->Prop):Nat->Array Bool->Act->World->Prop
 | 0,listed,a,w=>Region.ready .any ops listed=[]/\Q .normal a w
 | fuel+1,listed,a,w=>(Region.ready .any ops listed=[]->Q .normal a w)/\∀ i∈Region.ready .any ops listed,∃ o,ops[i]?=some o/\XO P ops o (fun a' w'=>S i listed w'/\wpAnyJ P ops Q S fuel (listed.setIfInBounds i true) a' w') a w
theorem OpOk.mono{o:Oper} {a:Act} {w:World} {K K':Value->World->Prop} (h:OpOk P o a w K) (hk:∀ v w,K v w->K' v w):OpOk P o a w K':=by
 rcases h with⟨v,w',h1,h2⟩ | ⟨w',h1,h2⟩ | ⟨f,args,w1,h1,h2⟩
 ·exact .inl ⟨v,w',h1,hk _ _ h2⟩
 ·exact .inr (.inl ⟨w',h1,hk _ _ h2⟩)
 ·exact .inr (.inr ⟨f,args,w1,h1,Calls.mono h2 fun e w' ⟨v,he,hv⟩=>⟨v,he,hk _ _ hv⟩⟩)
theorem XO.mono{o:Oper} {a:Act} {w:World} {K K':Act->World->Prop} (h:XO P ops o K a w) (hk:∀ a w,K a w->K' a w):XO P ops o K' a w:=by
 rcases h with⟨h1,h2⟩ | ⟨h1,h2⟩
 ·exact .inl ⟨h1,h2.mono fun _ _=>hk _ _⟩
 ·exact .inr ⟨h1,hk _ _ h2⟩
theorem wpAnyJ.any(r:Option Nat):∀ (fuel:Nat) (listed:Array Bool) (a:Act) (w:World),wpAnyJ P ops Q S fuel listed a w->wpAnyIn (WF r) 0 P .any ops Q fuel listed a w
 | 0,_,_,_,h=>h
 | fuel+1,_,_,_,h=>⟨h.1,fun i hi=>by
  obtain⟨o,ho,hx⟩:=h.2 i hi;unfold wpOpIn;simp only[ho];exact XO.fenced (hx.mono fun a' w' h'=>wpAnyJ.any r fuel _ a' w' h'.2)⟩
theorem XO.putIf{T:World->Prop} {oi oj:Oper} {v:Value} (hap:oi.apart ops oj=true) (hsi:∀ cs b,oi.op≠.select cs b) (hsj:∀ cs b,oj.op≠.select cs b) {K:Act->World->Prop} {a:Act} {w:World} (hy:YieldsIf P ops T oi v a) (h:XO P ops oj K (a.put oi.dst v) w) :
  XO P ops oj (fun a' w'=>YieldsIf P ops T oi v a'/\K (a'.put oi.dst v) w') a w:=by
 obtain⟨h1,h2,h3⟩:=Oper.apart_spec hap;have keep:∀ u,YieldsIf P ops T oi v (a.put oj.dst u):=fun u=>hy.of_same (execOp_put oi hsi a oj.dst u h3) (wanted_put oi a oj.dst u h3)
 have ew:=wanted_put oj a oi.dst v h1;have ee:=execOp_put oj hsj a oi.dst v h1;have ec:∀ u,(a.put oj.dst u).put oi.dst v=(a.put oi.dst v).put oj.dst u:=fun u=>(Act.put_comm a v u h2).symm
 rcases h with⟨hw,h⟩ | ⟨hw,h⟩
 ·refine .inl ⟨by rw[<- ew]; exact hw,?_⟩
  unfold OpOk at h ⊢;rw[ee]at h
  rcases h with⟨u,w',g1,g2⟩ | ⟨w',g1,g2⟩ | ⟨f,args,w1,g1,g2⟩
  ·exact .inl ⟨u,w',g1,keep u,by rw[ec]; exact g2⟩
  ·exact .inr (.inl ⟨w',g1,keep _,by rw[ec]; exact g2⟩)
  ·exact .inr (.inr ⟨f,args,w1,g1,Calls.mono g2 fun e w' ⟨u,he,hu⟩=>⟨u,he,keep u,by rw[ec]; exact hu⟩⟩)
 ·exact .inr ⟨by rw[<- ew]; exact hw,keep _,by rw[ec]; exact h⟩
theorem yields_xo{T:World->Prop} {o:Oper} {v:Value} {a:Act} (hy:YieldsIf P ops T o v a) {K:Act->World->Prop} {w:World} (hT:T w) (h:K (a.put o.dst v) w):XO P ops o K a w:=by
 rcases hy with⟨hw,hv⟩ | ⟨hw,rfl⟩
 ·exact .inl ⟨hw,.inl ⟨v,w,hv w hT,h⟩⟩
 ·exact .inr ⟨hw,h⟩
def binding(ops:Array Oper) (i:Nat) (D:List Nat) (j:Nat):Prop:=∃ oj e,ops[j]?=some oj/\e∈oj.after/\Region.binds .any e=true/\(e.on=i\/e.on∈D)
theorem wpAnyJ.first{i:Nat} {oi:Oper} {v:Value} {T:World->Prop} (hi:ops[i]?=some oi) (hsel:∀ (j:Nat) (o:Oper) cs b,ops[j]?=some o->o.op≠.select cs b) (D:List Nat) (hbD:∀ j∈D,binding ops i D j) (hmon:∀ j l w,S j (l.setIfInBounds i true) w->S j l w):∀ (fuel:Nat) (listed:Array Bool) (a:Act) (w:World),
   (∀ j∈D,listed.getD j true=false)->(∀ j oj,ops[j]?=some oj->j≠i->listed.getD j true=false->(∀ e∈oj.after,Region.binds .any e=true->e.on≠i)->oi.apart ops oj=true/\(j∈D\/∀ l w,(∀ d∈D,l.getD d true=false)->S j l w->T w)) ->
   i∈Region.ready .any ops listed->YieldsIf P ops T oi v a->T w ->
   wpAnyJ P ops Q S fuel (listed.setIfInBounds i true) (a.put oi.dst v) w->(∀ l w',T w'->S i l w')->wpAnyJ P ops Q S (fuel+1) listed a w:=by
 intro fuel
 induction fuel with
 | zero=>
  intro listed a w _ _ hr hy hT H hSi;refine⟨fun h=>(by rw[h]at hr; cases hr),fun j hj=>?_⟩
  by_cases hji:j=i
  ·subst hji; exact⟨oi,hi,yields_xo hy hT ⟨hSi _ w hT,H⟩⟩
  ·have:=ready_mono hj hji
   rw[H.1]at this;cases this
 | succ fuel ih=>
  intro listed a w hDl hfree hr hy hT H hSi;refine⟨fun h=>(by rw[h]at hr; cases hr),fun j hj=>?_⟩
  by_cases hji:j=i
  ·subst hji; exact⟨oi,hi,yields_xo hy hT ⟨hSi _ w hT,H⟩⟩
  ·obtain⟨oj',hoj',hH⟩:=H.2 j (ready_mono hj hji)
   obtain⟨hun,oj,hoj,hall⟩:=mem_ready.1 hj;have hojj:oj'=oj:=Option.some.inj (hoj'.symm.trans hoj);rw[hojj]at hH;have hnot:∀ e∈oj.after,Region.binds .any e=true->e.on≠i:=fun e he hb heq=>by
    have q1:=hall e he hb;have q0:=(mem_ready.1 hr).1;rw[heq]at q1
    rcases Nat.lt_or_ge i listed.size with h' | h'
    ·simp[h']at q0 q1; rw[q0]at q1; cases q1
    ·simp[Array.getElem?_eq_none h']at q1
   have hjD:j ∉ D:=fun hjd=>by
    obtain⟨ok,e,hk,he,hb,hon⟩:=hbD j hjd
    have:ok=oj:=Option.some.inj (hk.symm.trans hoj)
    subst this;have q1:=hall e he hb
    rcases hon with hon | hon
    ·exact hnot e he hb hon
    ·have q0:=hDl _ hon
     rcases Nat.lt_or_ge e.on listed.size with h' | h'
     ·simp[h']at q0 q1; rw[q0]at q1; cases q1
     ·simp[Array.getElem?_eq_none h']at q1
   obtain⟨hap,hST⟩:=hfree j oj hoj hji hun hnot;have hput:=XO.putIf hap (fun cs b=>hsel i oi cs b hi) (fun cs b=>hsel j oj cs b hoj) hy hH;refine⟨oj,hoj,hput.mono fun a' w' h4=>⟨hmon j listed w' h4.2.1,?_⟩⟩;have hT':=(hST.resolve_left hjD) listed w' hDl (hmon j listed w' h4.2.1);refine ih (listed.setIfInBounds j true) a' w' (fun k hk=>?_) (fun k ok hk hki hkun hno=>?_) (ready_mono hr (Ne.symm hji)) h4.1 hT' ?_ hSi
   ·rw[getD_set_ne true (fun e=>hjD (by rw[e]; exact hk))]
    exact hDl k hk
   ·refine hfree k ok hk hki ?_ hno
    by_cases hjk:j=k
    ·subst hjk; exact hun
    ·rw[getD_set_ne true hjk]at hkun; exact hkun
   ·rw[Array.setIfInBounds_comm _ _ hji]
    exact h4.2.2
end
def isPure:Op->Bool
 | .move _=>true
 | .assign _=>true
 | .pick _ _ _=>true
 | .unOp _ _ _=>true
 | .binOp _ _ _ _ _=>true
 | .load _ _=>true
 | .fieldAddr _ _ _=>true
 | .indexAddr _ _ _=>true
 | .slice _ _ _ _ _=>true
 | .convert _ _ _=>true
 | .build _ _=>true
 | .makeFunc _ _ _=>true
 | .nilCheck _=>true
 | .extract _ _=>true
 | .call ⟨.builtin .len,_,_⟩=>true
 | .call ⟨.builtin .cap,_,_⟩=>true
 | .call ⟨.builtin .min,_,_⟩=>true
 | .call ⟨.builtin .max,_,_⟩=>true
 | _=>false
def bindB(ops:Array Oper) (i:Nat) (D:List Nat) (j:Nat):Bool:=match ops[j]? with
 | some o=>o.after.any fun e=>Region.binds .any e&&(e.on == i || D.elem e.on)
 | none=>false
def xq(ops:Array Oper) (i:Nat):List Nat:=(List.range ops.size).foldl (fun D j=>match bindB ops i D j with
 | true=>j :: D
 | false=>D) []
def barB:Nat:=1000000
def barred(E:List Nat) (listed:Array Bool):Bool:=E.any fun e=>Nat.ble barB e&&listed.getD (e - barB) true
def qo(E:List Nat) (listed:Array Bool) (j:Nat):Bool:=E.elem j&&!barred E listed
def barIn(E D:List Nat):Bool:=E.all fun e=>!Nat.ble barB e || D.elem (e - barB)
def noBar(E:List Nat) (i:Nat):Bool:=!E.elem (i+barB)
theorem must_elem{E:List Nat} {l:Array Bool} {j:Nat} (h:qo E l j=true):E.elem j=true:=by
 unfold qo at h;rw[Bool.and_eq_true]at h;exact h.1
theorem must_set{E:List Nat} {l:Array Bool} {i j:Nat} (hi:noBar E i=true) (h:qo E l j=true):qo E (l.setIfInBounds i true) j=true:=by
 unfold qo barred at h ⊢;rw[Bool.and_eq_true]at h ⊢;refine⟨h.1,?_⟩;have h2:=h.2;rw[Bool.not_eq_true',List.any_eq_false]at h2 ⊢;intro e he;have h3:=h2 e he
 by_cases hb:Nat.ble barB e=true
 ·rw[hb,Bool.true_and]at h3 ⊢
  have hne:i≠e - barB:=fun hh=>by
   have hle:=Nat.le_of_ble_eq_true hb
   have:i+barB=e:=by omega
   unfold noBar at hi;rw[this,List.elem_eq_true_of_mem he]at hi;cases hi
  rwa [getD_set_ne true hne]
 ·rw[(by simpa only[Bool.not_eq_true] using hb:Nat.ble barB e=false),Bool.false_and]
  simp
theorem must_bar{E D:List Nat} {l:Array Bool} {j:Nat} (hb:barIn E D=true) (hD:∀ d∈D,l.getD d true=false) (hj:E.elem j=true):qo E l j=true:=by
 unfold qo barred;rw[hj,Bool.true_and,Bool.not_eq_true',List.any_eq_false];intro e he;unfold barIn at hb;rw[List.all_eq_true]at hb;have h1:=hb e he;rw[Bool.or_eq_true,Bool.not_eq_true']at h1
 rcases h1 with h1 | h1
 ·rw[h1]; simp
 ·rw[hD _ (by simpa using h1)]; simp
def restIn(ops:Array Oper) (E D:List Nat) (listed:Array Bool) (i:Nat):Bool:=
 (D.all fun j=>!listed.getD j true&&bindB ops i D j)&&(List.range ops.size).all (fun j=>j == i || listed.getD j true || E.elem j || D.elem j)&&barIn E D
theorem bindB_ok{ops:Array Oper} {i j:Nat} {D:List Nat} (h:bindB ops i D j=true):binding ops i D j:=by
 unfold bindB at h
 split at h
 ·rename_i o ho
  simp only[Array.any_eq_true]at h;obtain⟨k,hk,h2⟩:=h;simp only[Bool.and_eq_true,Bool.or_eq_true,beq_iff_eq,List.elem_eq_mem,decide_eq_true_eq]at h2;exact⟨o,_,ho,Array.getElem_mem hk,h2.1,h2.2⟩
 ·cases h
def baseOk(ops:Array Oper) (E:List Nat) (listed:Array Bool) (i:Nat):Bool:=noBar E i&&Region.noSelect ops&&Region.free .any ops listed i&&(Region.ready .any ops listed).contains i
def kindAt(f:Op->Bool) (ops:Array Oper) (i:Nat):Bool:=match ops[i]? with
 | some o=>f o.op
 | none=>false
def needOk(ops:Array Oper) (E:List Nat) (listed:Array Bool) (pre:Bool) (i:Nat):Bool:=!E.elem i || (pre&&restIn ops E (xq ops i) listed i)
structure DS where
 listed:Array Bool
 early:Bool
 pre:Bool
 nocall:Bool
 all:Bool
def celH:Hp->Hp
 | []=>[]
 | (k,.cells t cs) :: r=>(k,.cells t cs) :: celH r
 | _ :: r=>celH r
def kf(al:Bool) (c:Ck):Bool:=al || qK c
structure DInv(R:Nat->Prop) (ds:DS) (B0:Nat->Prop) (w00:World) (CS:List Ck) (F:World->Prop) (B:Nat->Prop) (w0:World) (H:List Ck):Prop where
 early:ds.early=true->B0=B/\w00=w0/\CS=H.filter (kf ds.all)
 pre:ds.pre=true->(∀ c∈CS,c∈H/\kf ds.all c=true)/\CS.Pairwise Ck.off/\(∀ k,B0 k->B k)/\KO (fun k=>R k\/B0 k) w00 w0
 frz:ds.nocall=true->F=fun w=>KO (fun k=>R k\/B k) w0 w
 frz':∀ w,KO (fun k=>R k\/B k) w0 w->F w
def AD(X:Cx) (M:Bool) (n:Nat) (ops:List Oper) (E:List Nat) (fuel:Nat) (ds:DS) (st:ASt) (Q:Exit->ASt->Prop):Prop:=
 ∀ (R:Nat->Prop) (W:World) (Bi:Bk) (B0:Nat->Prop) (w00:World) (CS:List Ck) (F:World->Prop) (ks:List Nat) (env:Nat->Loc) (B:Nat->Prop) (w0:World) (H:List Ck) (a:Act) (w:World),MOk M ks Bi->AI X R W Bi n ks env B w0 H st a w->DInv R ds B0 w00 CS F B w0 H ->
  wpAnyJ X.P ops.toArray (fun e a w=>e=.normal/\∃ st',Q e st'/\AR X R W Bi M n st' a w) (fun j l w=>(qo E l j=true->SH (fun k=>R k\/B0 k) w00 CS w)/\F w) fuel ds.listed a w
def ADo(X:Cx) (M:Bool) (n:Nat) (ops:List Oper) (E:List Nat) (fuel:Nat) (ds:DS) (st:ASt) (Q:Exit->ASt->Prop) (i:Nat):Prop:=
 ∀ (R:Nat->Prop) (W:World) (Bi:Bk) (B0:Nat->Prop) (w00:World) (CS:List Ck) (F:World->Prop) (ks:List Nat) (env:Nat->Loc) (B:Nat->Prop) (w0:World) (H:List Ck) (a:Act) (w:World),MOk M ks Bi->AI X R W Bi n ks env B w0 H st a w->DInv R ds B0 w00 CS F B w0 H ->
  ∃ o,ops.toArray[i]?=some o/\XO X.P ops.toArray o (fun a' w'=>((qo E ds.listed i=true->SH (fun k=>R k\/B0 k) w00 CS w')/\F w')/\wpAnyJ X.P ops.toArray (fun e a w=>e=.normal/\∃ st',Q e st'/\AR X R W Bi M n st' a w) (fun j l w=>(qo E l j=true->SH (fun k=>R k\/B0 k) w00 CS w)/\F w) fuel (ds.listed.setIfInBounds i true) a' w') a w
theorem DInv.T{R:Nat->Prop} {ds:DS} {B0:Nat->Prop} {w00:World} {CS:List Ck} {F:World->Prop} {X:Cx} {W:World} {Bi:Bk} {n:Nat} {ks:List Nat} {env:Nat->Loc} {B:Nat->Prop} {w0:World} {H:List Ck} {st:ASt} {a:Act} {w:World} (hD:DInv R ds B0 w00 CS F B w0 H) (hp:ds.pre=true) (hA:AI X R W Bi n ks env B w0 H st a w):SH (fun k=>R k\/B0 k) w00 CS w:=by
 obtain⟨h1,h2,h3,h4⟩:=hD.pre hp;have hb:=hA.sh.below;refine⟨h4.trans ⟨hb.os,hb.tape,hb.output,hb.size,fun k hk=>hb.block k (hk.imp id (h3 k))⟩,fun k hk=>hA.sh.base k (hk.imp id (h3 k)),fun c hc=>?_,h2⟩;have hok:=hA.sh.ok c (List.mem_append_left _ (h1 c hc).1);exact hok.base fun b hb hk=>(hok.lt hb).1 (hk.imp id (h3 b))
theorem DInv.F{R:Nat->Prop} {ds:DS} {B0:Nat->Prop} {w00:World} {CS:List Ck} {F:World->Prop} {X:Cx} {W:World} {Bi:Bk} {n:Nat} {ks:List Nat} {env:Nat->Loc} {B:Nat->Prop} {w0:World} {H:List Ck} {st:ASt} {a:Act} {w:World} (hD:DInv R ds B0 w00 CS F B w0 H) (hA:AI X R W Bi n ks env B w0 H st a w):F w:=
 hD.frz' w ⟨hA.sh.below.os,hA.sh.below.tape,hA.sh.below.output,hA.sh.below.size,hA.sh.below.block⟩
theorem HR.cel{env:Nat->Loc} {B:Nat->Prop} {w:World}:∀ {l:Hp} {H:List Ck},HR env B w l H->HR env B w (celH l) (H.filter qK)
 | [],_,h=>by rw[show _=[] from h]; exact rfl
 | (k,.cells t cs) :: r,_,⟨c,H',e,h1,h2⟩=>by
  subst e;have hc:qK c=true:=by
   obtain⟨b,vs,_,e,_⟩:=h1;rw[e]; rfl
  rw[List.filter_cons_of_pos hc];exact⟨c,_,rfl,h1,HR.cel h2⟩
 | (k,.row t g l cap) :: r,_,⟨c,H',e,h1,h2⟩=>by
  subst e;have hc:qK c=false:=h1.notCel (fun _ _ e=>by cases e);rw[List.filter_cons_of_neg (by rw[hc]; simp)];show HR env B w (celH r) _;exact HR.cel h2
 | (k,.sit s p) :: r,_,⟨c,H',e,h1,h2⟩=>by
  subst e;have hc:qK c=false:=h1.notCel (fun _ _ e=>by cases e);rw[List.filter_cons_of_neg (by rw[hc]; simp)];show HR env B w (celH r) _;exact HR.cel h2
 | (k,.mp gk gv l o) :: r,_,⟨c,H',e,h1,h2⟩=>by
  subst e;have hc:qK c=false:=h1.notCel (fun _ _ e=>by cases e);rw[List.filter_cons_of_neg (by rw[hc]; simp)];show HR env B w (celH r) _;exact HR.cel h2
 | (k,.it mid es q ps) :: r,_,⟨c,H',e,h1,h2⟩=>by
  subst e;have hc:qK c=false:=h1.notCel (fun _ _ e=>by cases e);rw[List.filter_cons_of_neg (by rw[hc]; simp)];show HR env B w (celH r) _;exact HR.cel h2
 | (k,.junk) :: r,_,⟨c,H',e,h1,h2⟩=>by
  subst e;have hc:qK c=false:=h1.notCel (fun _ _ e=>by cases e);rw[List.filter_cons_of_neg (by rw[hc]; simp)];show HR env B w (celH r) _;exact HR.cel h2
 | (k,.hrow el t g l cap i d) :: r,_,⟨c,H',e,h1,h2⟩=>by
  subst e;have hc:qK c=false:=h1.notCel (fun _ _ e=>by cases e);rw[List.filter_cons_of_neg (by rw[hc]; simp)];show HR env B w (celH r) _;exact HR.cel h2
 | (k,.rjunk) :: r,_,⟨c,H',e,h1,h2⟩=>by
  subst e;have hc:qK c=false:=h1.notCel (fun _ _ e=>by cases e);rw[List.filter_cons_of_neg (by rw[hc]; simp)];show HR env B w (celH r) _;exact HR.cel h2
 | (k,.lrow t g l) :: r,_,⟨c,H',e,h1,h2⟩=>by
  subst e;have hc:qK c=false:=h1.notCel (fun _ _ e=>by cases e);rw[List.filter_cons_of_neg (by rw[hc]; simp)];show HR env B w (celH r) _;exact HR.cel h2
 | (k,.mrow t t' g l cap q) :: r,_,⟨c,H',e,h1,h2⟩=>by
  subst e;have hc:qK c=false:=h1.notCel (fun _ _ e=>by cases e);rw[List.filter_cons_of_neg (by rw[hc]; simp)];show HR env B w (celH r) _;exact HR.cel h2
section
variable {X:Cx} {M:Bool} {n:Nat} {st st':ASt} {Q:Exit->ASt->Prop} {ops:List Oper} {E:List Nat} {ds ds':DS} {fuel:Nat}
theorem AI.drew{R:Nat->Prop} {W:World} {Bi:Bk} {ks:List Nat} {env:Nat->Loc} {B:Nat->Prop} {w0:World} {H:List Ck} {a:Act} {w:World} (h:AI X R W Bi n ks env B w0 H st a w):AI X R W Bi n ks env B w0 H st a w.drew:=
 ⟨h.size,h.defs,h.has,h.heap,h.sh.drew,h.sub,h.new,h.pin,h.base,h.glob⟩
theorem ax_draw{id N:Nat} {r:Option Nat} {al:Bool} (E:List Nat) (hm:X.P.follows .mixedOrders=true) (hN:ops.length=N) (h:AD X M n ops E N ⟨Array.replicate N false,true,true,true,al⟩ st Q):AX X M n r (.region id ops.toArray true) st Q:=by
 rintro R W Bi a w ⟨ks,env,B,w0,H,hM,hA⟩;have h1:=wpAnyJ.any r _ _ _ _ (h R W Bi B w0 (H.filter (kf al)) _ ks env B w0 H a w.drew hM hA.drew ⟨fun _=>⟨rfl,rfl,rfl⟩,fun _=>⟨fun c hc=>List.mem_filter.1 hc,(List.pairwise_append.1 hA.sh.apart).1.sublist List.filter_sublist,fun _ h=>h,KO.refl _ _⟩,fun _=>rfl,fun _ h=>h⟩);have h2:(Code.region id ops.toArray true).wpIn (WF r) 0 X.P (fun e a w=>e=.normal/\∃ st',Q e st'/\AR X R W Bi M n st' a w) a w:=wpIn_region_any hm (by simp only[List.size_toArray,hN]; exact h1);refine wpIn_mono h2 ?_;rintro e a w ⟨rfl,st',h3,h4⟩;exact⟨st',h3,h4⟩
theorem ad_done(hr:Region.ready .any ops.toArray ds.listed=[]) (h:Q .normal st):AD X M n ops E 0 ds st Q:=fun R W Bi B0 w00 CS F ks env B w0 H a w hM hA _=>⟨hr,rfl,st,h,ks,env,B,w0,H,hM,hA⟩
theorem qh{i:Nat} {o:Oper} (h:nth ops i=some o):ops.toArray[i]?=some o:=by simpa using nth_get h
theorem ad_tail{R:Nat->Prop} {B0:Nat->Prop} {w00:World} {CS:List Ck} {F:World->Prop} {QQ:Exit->Act->World->Prop} {listed:Array Bool} {fl i:Nat} {o:Oper} {a:Act} {w:World} (need:Bool) (v:Value) (hio:ops.toArray[i]?=some o) (hb:baseOk ops.toArray E listed i=true) (hE:E.elem i=true->need=true) (hr:need=true->restIn ops.toArray E (xq ops.toArray i) listed i=true)
  (hy:YieldsIf X.P ops.toArray (fun w=>(need=true->SH (fun k=>R k\/B0 k) w00 CS w)/\F w) o v a) (hT:need=true->SH (fun k=>R k\/B0 k) w00 CS w) (hF:F w) (hIH:wpAnyJ X.P ops.toArray QQ (fun j l w=>(qo E l j=true->SH (fun k=>R k\/B0 k) w00 CS w)/\F w) fl (listed.setIfInBounds i true) (a.put o.dst v) w) :
  wpAnyJ X.P ops.toArray QQ (fun j l w=>(qo E l j=true->SH (fun k=>R k\/B0 k) w00 CS w)/\F w) (fl+1) listed a w:=by
 simp only[baseOk,Bool.and_eq_true]at hb;obtain⟨⟨⟨hnb,hnosel⟩,hfree⟩,hready⟩:=hb;have hmo:∀ {l:Array Bool} {j:Nat},qo E l j=true->qo E (l.setIfInBounds i true) j=true:=must_set hnb;have hgo:∀ D,(need=true->barIn E D=true)->(∀ j∈D,binding ops.toArray i D j)->(∀ j∈D,listed.getD j true=false)->(∀ j oj,ops.toArray[j]?=some oj->j≠i->listed.getD j true=false->(∀ e∈oj.after,Region.binds .any e=true->e.on≠i)->j∈D\/(need=true->E.elem j=true))->wpAnyJ X.P ops.toArray QQ (fun j l w=>(qo E l j=true->SH (fun k=>R k\/B0 k) w00 CS w)/\F w) (fl+1) listed a w:=by
  intro D h0 h1 h2 h3;refine wpAnyJ.first (T:=fun w=>(need=true->SH (fun k=>R k\/B0 k) w00 CS w)/\F w) hio (Region.noSelect_spec hnosel) D h1 (fun j l w hS=>⟨fun he=>hS.1 (hmo he),hS.2⟩) _ _ _ _ h2 ?_ (by simpa using hready) hy ⟨hT,hF⟩ hIH (fun l w' hw=>⟨fun he=>hw.1 (hE (must_elem he)),hw.2⟩)
  intro j oj hoj hji hun hno;refine⟨Region.free_spec hio hfree j oj hoj hji hun hno,?_⟩
  rcases h3 j oj hoj hji hun hno with h4 | h4
  ·exact .inl h4
  ·exact .inr fun l w hDl hSj=>⟨fun hne=>hSj.1 (must_bar (h0 hne) hDl (h4 hne)),hSj.2⟩
 cases hn:need with
 | false=>exact hgo [] (fun h=>by rw[hn]at h; cases h) (fun _ h=>by cases h) (fun _ h=>by cases h) (fun _ _ _ _ _ _=>.inr fun h=>by rw[hn]at h; cases h)
 | true=>
  have hneed:=hr hn;unfold restIn at hneed;rw[Bool.and_eq_true]at hneed;obtain⟨hneed,hb3⟩:=hneed;simp only[Bool.and_eq_true,List.all_eq_true,List.mem_range,Bool.not_eq_true']at hneed;obtain⟨hb1,hb2⟩:=hneed;refine hgo (xq ops.toArray i) (fun _=>hb3) (fun j hj=>bindB_ok (hb1 j hj).2) (fun j hj=>(hb1 j hj).1) (fun j oj hoj hji hun _=>?_)
  have:=hb2 j (Array.getElem?_eq_some_iff.1 hoj).1
  simp only[Bool.or_eq_true,beq_iff_eq]at this
  rcases this with((h1 | h1) | h1) | h1
  ·exact absurd h1 hji
  ·rw[hun]at h1; cases h1
  ·exact .inr fun _=>h1
  ·exact .inl (by simpa using h1)
theorem need_cases{listed:Array Bool} {pre:Bool} {i:Nat} (h:needOk ops.toArray E listed pre i=true):(E.elem i=true->restIn ops.toArray E (xq ops.toArray i) listed i=true)/\(E.elem i=true->pre=true):=by
 simp only[needOk,Bool.or_eq_true,Bool.not_eq_true',Bool.and_eq_true]at h
 rcases h with h | h
 ·exact⟨fun e=>(by rw[h]at e; cases e),fun e=>(by rw[h]at e; cases e)⟩
 ·exact⟨fun _=>h.2,fun _=>h.1⟩
theorem DInv.kept{R:Nat->Prop} {B0:Nat->Prop} {w00:World} {CS:List Ck} {F:World->Prop} {B:Nat->Prop} {w0:World} {H H':List Ck} (hD:DInv R ds B0 w00 CS F B w0 H) (hk:ds.pre=true->∀ c∈H,kf ds.all c=true->c∈H') {l:Array Bool}:DInv R ⟨l,false,ds.pre,ds.nocall,ds.all⟩ B0 w00 CS F B w0 H':=
 ⟨fun h=>(by cases h),fun h=>by
  obtain⟨h1,h2,h3,h4⟩:=hD.pre h;exact⟨fun c hc=>⟨hk h c (h1 c hc).1 (h1 c hc).2,(h1 c hc).2⟩,h2,h3,h4⟩,hD.frz,hD.frz'⟩
theorem DInv.lost{R:Nat->Prop} {B0:Nat->Prop} {w00:World} {CS:List Ck} {F:World->Prop} {B:Nat->Prop} {w0:World} {H H':List Ck} (hD:DInv R ds B0 w00 CS F B w0 H) {l:Array Bool}:DInv R ⟨l,false,false,ds.nocall,ds.all⟩ B0 w00 CS F B w0 H':=
 ⟨fun h=>(by cases h),fun h=>(by cases h),hD.frz,hD.frz'⟩
theorem ado_step(hX:X.tt.ok X.P) {i:Nat} {o:Oper} {c:Bool} {l':Array Bool} (hi:nth ops i=some o) (hE:qo E ds.listed i=false) (hs:astep X n (zm ops) st o=.ok c st') (hc:c=true) (hl:ds.listed.setIfInBounds i true=l') (h:AD X M n ops E fuel ⟨l',false,false,ds.nocall,ds.all⟩ st' Q):ADo X M n ops E fuel ds st Q i:=by
 intro R W Bi B0 w00 CS F ks env B w0 H a w hM hA hD;refine⟨o,qh hi,astep_ok hX hs hc hA fun a' w' env' H' heff hA'=>?_⟩;have hD':=hD.lost (H':=H') (l:=l');rw[hl];exact⟨⟨fun he=>(by rw[hE]at he; cases he),hD'.F hA'⟩,h R W Bi B0 w00 CS F ks env' B w0 H' a' w' hM hA' hD'⟩
theorem ado_keep(hX:X.tt.ok X.P) {i:Nat} {o:Oper} {c:Bool} {l':Array Bool} (hi:nth ops i=some o) (hk:(ds.pre&&kindKeep o.op&&keepD o st.H&&!ds.all)=true) (hs:astep X n (zm ops) st o=.ok c st') (hc:c=true) (hl:ds.listed.setIfInBounds i true=l') (h:AD X M n ops E fuel ⟨l',false,true,ds.nocall,ds.all⟩ st' Q):ADo X M n ops E fuel ds st Q i:=by
 intro R W Bi B0 w00 CS F ks env B w0 H a w hM hA hD;simp only[Bool.and_eq_true]at hk;refine⟨o,qh hi,astep_ok hX hs hc hA fun a' w' env' H' heff hA'=>?_⟩;have hal:ds.all=false:=by simpa using hk.2
 have hD':=hD.kept (H':=H') (l:=l') (fun _=>by rw[hal]; exact heff.keep hk.1.1.2 hk.1.2);rw[hl];refine⟨⟨fun he=>hD'.T hk.1.1.1 hA',hD'.F hA'⟩,h R W Bi B0 w00 CS F ks env' B w0 H' a' w' hM hA' ?_⟩;rw[hk.1.1.1]at hD';exact hD'
theorem ado_keepA(hX:X.tt.ok X.P) {i:Nat} {o:Oper} {c:Bool} {l':Array Bool} (hi:nth ops i=some o) (hk:(ds.pre&&kindNew o.op&&noKeyD o st.H)=true) (hs:astep X n (zm ops) st o=.ok c st') (hc:c=true) (hl:ds.listed.setIfInBounds i true=l') (h:AD X M n ops E fuel ⟨l',false,true,ds.nocall,ds.all⟩ st' Q):ADo X M n ops E fuel ds st Q i:=by
 intro R W Bi B0 w00 CS F ks env B w0 H a w hM hA hD;simp only[Bool.and_eq_true]at hk;refine⟨o,qh hi,astep_ok hX hs hc hA fun a' w' env' H' heff hA'=>?_⟩;have hD':=hD.kept (H':=H') (l:=l') (fun _ c hc _=>heff.all hk.1.2 hk.2 c hc);rw[hl];refine⟨⟨fun he=>hD'.T hk.1.1 hA',hD'.F hA'⟩,h R W Bi B0 w00 CS F ks env' B w0 H' a' w' hM hA' ?_⟩;rw[hk.1.1]at hD';exact hD'
def ADs(X:Cx) (M:Bool) (n:Nat) (ops:List Oper) (E:List Nat) (fuel:Nat) (ds:DS) (st:ASt) (Q:Exit->ASt->Prop) (rs:List Nat):Prop:=∀ i∈rs,ADo X M n ops E fuel ds st Q i
theorem ads_nil:ADs X M n ops E fuel ds st Q []:=fun _ h=>by cases h
theorem ads_cons{i:Nat} {rs:List Nat} (h:ADo X M n ops E fuel ds st Q i) (hr:ADs X M n ops E fuel ds st Q rs):ADs X M n ops E fuel ds st Q (i :: rs):=fun j hj=>by
 rcases List.mem_cons.1 hj with rfl | hj
 ·exact h
 ·exact hr j hj
theorem ad_ready{i:Nat} {rs:List Nat} (hr:Region.ready .any ops.toArray ds.listed=i :: rs) (h:ADs X M n ops E fuel ds st Q (i :: rs)):AD X M n ops E (fuel+1) ds st Q:=by
 intro R W Bi B0 w00 CS F ks env B w0 H a w hM hA hD;refine⟨fun h0=>(by rw[hr]at h0; cases h0),fun k hk=>?_⟩;rw[hr]at hk;exact h k hk R W Bi B0 w00 CS F ks env B w0 H a w hM hA hD
end
/-! ### A drawn region, xq a call, as at its beginning -/
theorem wpAnyJ.strong{P:Program} {ops:Array Oper} {Q:Exit->Act->World->Prop} {S S':Nat->Array Bool->World->Prop} (hS:∀ j l w,S' j l w->S j l w):∀ (fuel:Nat) (listed:Array Bool) (a:Act) (w:World),wpAnyJ P ops Q S' fuel listed a w->wpAnyJ P ops Q S fuel listed a w
 | 0,_,_,_,h=>h
 | fuel+1,_,_,_,h=>⟨h.1,fun i hi=>by
  obtain⟨o,ho,hx⟩:=h.2 i hi;exact⟨o,ho,hx.mono fun a' w' h'=>⟨hS _ _ _ h'.1,wpAnyJ.strong hS fuel _ a' w' h'.2⟩⟩⟩
theorem ad_fresh{X:Cx} {M:Bool} {n:Nat} {st:ASt} {Q:Exit->ASt->Prop} {ops:List Oper} {E:List Nat} {ds:DS} {fuel:Nat} (hE:(E.isEmpty || ds.pre)=true) (h:AD X M n ops E fuel ⟨ds.listed,true,true,true,ds.all⟩ st Q):AD X M n ops E fuel ds st Q:=by
 intro R W Bi B0 w00 CS F ks env B w0 H a w hM hA hD;refine wpAnyJ.strong ?_ _ _ _ _ (h R W Bi B w0 (H.filter (kf ds.all)) (fun w=>KO (fun k=>R k\/B k) w0 w) ks env B w0 H a w hM hA ⟨fun _=>⟨rfl,rfl,rfl⟩,fun _=>⟨fun c hc=>List.mem_filter.1 hc,(List.pairwise_append.1 hA.sh.apart).1.sublist List.filter_sublist,fun _ h=>h,KO.refl _ _⟩,fun _=>rfl,fun _ h=>h⟩);rintro j l w' ⟨h1,h2⟩;refine⟨fun he=>?_,hD.frz' w' h2⟩;have hp:ds.pre=true:=by
  cases E with
  | nil=>cases (must_elem he)
  | cons e E=>simpa using hE
 obtain⟨p1,p2,p3,p4⟩:=hD.pre hp;have hs:=h1 he;have hb:=hs.below;refine⟨p4.trans ⟨hb.os,hb.tape,hb.output,hb.size,fun k hk=>hb.block k (hk.imp id (p3 k))⟩,fun k hk=>hs.base k (hk.imp id (p3 k)),fun c hc=>?_,p2⟩;have hok:=hs.ok c (List.mem_filter.2 ⟨(p1 c hc).1,(p1 c hc).2⟩);exact hok.base fun b hb hk=>(hok.lt hb).1 (hk.imp id (p3 b))
end

section
def fzCaps(id:Nat) (g:GTy) (x:g.D):List Cap->List Cap
 | []=>[]
 | .id i :: r=>match Nat.beq i id with
  | true=>.fz g x :: fzCaps id g x r
  | false=>.id i :: fzCaps id g x r
 | .fz h y :: r=>.fz h y :: fzCaps id g x r
def SC.fzc:SC->Nat->(g:GTy)->g.D->SC
 | .ptr i o,id,g,x=>match Nat.beq i id with
  | true=>.pel g x o
  | false=>.ptr i o
 | .fn f ids,id,g,x=>.fn f (fzCaps id g x ids)
 | c,_,_,_=>c
def fzcCs(id:Nat) (g:GTy) (x:g.D):List SC->List SC
 | []=>[]
 | c :: r=>c.fzc id g x :: fzcCs id g x r
def SA.fzc:SA->Nat->(g:GTy)->g.D->SA
 | .c y,id,g,x=>.c (y.fzc id g x)
 | .agg cs,id,g,x=>.agg (fzcCs id g x cs)
 | .arr g l,_,_,_=>.arr g l
def fzcAs(id:Nat) (g:GTy) (x:g.D):List SA->List SA
 | []=>[]
 | c :: r=>c.fzc id g x :: fzcAs id g x r
def SV.fzc:SV->Nat->(g:GTy)->g.D->SV
 | .a y,id,g,x=>.a (y.fzc id g x)
 | .may b y,id,g,x=>.may b (y.fzc id g x)
 | .tup ys,id,g,x=>.tup (fzcAs id g x ys)
def fzcL(id:Nat) (g:GTy) (x:g.D):Sl->Sl
 | []=>[]
 | (k,v) :: r=>(k,v.fzc id g x) :: fzcL id g x r
def Blk.fzc:Blk->Nat->(g:GTy)->g.D->Blk
 | .cells t cs,id,g,x=>.cells t (fzcCs id g x cs)
 | b,_,_,_=>b
def fzcH(id:Nat) (g:GTy) (x:g.D):Hp->Hp
 | []=>[]
 | (k,b) :: r=>match Nat.beq k id with
  | true=>fzcH id g x r
  | false=>(k,b.fzc id g x) :: fzcH id g x r
section
variable {env:Nat->Loc} {B:Nat->Prop} {w:World} {id b:Nat} {g:GTy} {x:g.D} (he:env id=.blk b) (ha:At B w g x b 0)
include he ha
theorem ptrs.fzc{cs:List Cap}:∀ {vs:List Value},ptrs env B w cs vs->ptrs env B w (fzCaps id g x cs) vs:=by
 induction cs with
 | nil=>intro vs h; exact h
 | cons c cs ih=>
  intro vs h;obtain⟨v,r,e,h1,h3⟩:=h;cases c with
  | id i=>
   obtain⟨b',h1,h2⟩:=h1;simp only[fzCaps]
   split
   ·rename_i hi
    have:=Nat.eq_of_beq_eq_true hi
    subst this;rw[he]at h1;cases h1;exact⟨v,r,e,⟨b,0,h2,ha⟩,ih h3⟩
   ·exact⟨v,r,e,⟨b',h1,h2⟩,ih h3⟩
  | fz h y=>exact⟨v,r,e,h1,ih h3⟩
theorem CR.fzc:∀ {c:SC} {v:Value},CR env B w c v->CR env B w (c.fzc id g x) v
 | .val _,_,hc=>hc
 | .str _,_,hc=>hc
 | .dead,_,hc=>hc
 | .ptr i o,v,hc=>by
  simp only[SC.fzc]
  split
  ·rename_i hi
   have:=Nat.eq_of_beq_eq_true hi
   subst this;obtain⟨b',h1,h2⟩:=hc;rw[he]at h1;cases h1;exact⟨b,0,by rw[Nat.zero_add]; exact h2,ha⟩
  ·exact hc
 | .elt _ _ _ _,_,hc=>hc
 | .pel _ _ _,_,hc=>hc
 | .par _ _,_,hc=>hc
 | .sl _,_,hc=>hc
 | .lst _ _ _,_,hc=>hc
 | .fn _ _,_,⟨vs,h1,h2⟩=>⟨vs,h1,ptrs.fzc he ha h2⟩
 | .mref _,_,hc=>hc
 | .bfn _ _,_,hc=>hc
 | .nel _ _,_,hc=>hc
 | .slp _ _ _,_,hc=>hc
 | .cpo _,_,hc=>hc
 | .slf _ _,_,hc=>hc
theorem CsR.fzc:∀ {c:List SC} {v:List Value},CsR env B w c v->CsR env B w (fzcCs id g x c) v
 | [],_,hc=>hc
 | _ :: _,_,⟨v,r,e,h1,h2⟩=>⟨v,r,e,CR.fzc he ha h1,CsR.fzc h2⟩
theorem SaR.fzc:∀ {c:SA} {v:Value},SaR env B w c v->SaR env B w (c.fzc id g x) v
 | .c _,_,hc=>CR.fzc he ha hc
 | .agg _,_,⟨vs,e,h1⟩=>⟨vs,e,CsR.fzc he ha h1⟩
 | .arr _ _,_,h=>h
theorem SasR.fzc:∀ {c:List SA} {v:List Value},SasR env B w c v->SasR env B w (fzcAs id g x c) v
 | [],_,hc=>hc
 | _ :: _,_,⟨v,r,e,h1,h2⟩=>⟨v,r,e,SaR.fzc he ha h1,SasR.fzc h2⟩
theorem VR.fzc:∀ {c:SV} {v:Value},VR env B w c v->VR env B w (c.fzc id g x) v
 | .a _,_,hc=>SaR.fzc he ha hc
 | .may _ _,_,hc=>⟨fun hg=>SaR.fzc he ha (hc.1 hg),hc.2⟩
 | .tup _,_,⟨vs,e,h1⟩=>⟨vs,e,SasR.fzc he ha h1⟩
theorem BR.fzc{k:Nat}:∀ {bl:Blk} {c:Ck},BR env B w k bl c->BR env B w k (bl.fzc id g x) c
 | .cells _ _,_,⟨b',vs,e,hc,h1⟩=>⟨b',vs,e,hc,CsR.fzc he ha h1⟩
 | .row _ _ _ _,_,h=>h
 | .sit _ _,_,h=>h
 | .mp _ _ _ _,_,h=>h
 | .it _ _ _ _,_,h=>h
 | .junk,_,h=>h
 | .hrow _ _ _ _ _ _ _,_,h=>h
 | .rjunk,_,h=>h
 | .lrow _ _ _,_,h=>h
 | .mrow _ _ _ _ _ _,_,h=>h
theorem HR.fzc:∀ {l:Hp} {H:List Ck},HR env B w l H->∃ H',H'.Sublist H/\HR env B w (fzcH id g x l) H'
 | [],_,hh=>⟨[],by rw[show _=[] from hh]; exact List.Sublist.refl _,rfl⟩
 | (k,bl) :: l,_,⟨c,H',e,h1,h2⟩=>by
  obtain⟨H2,hs,h3⟩:=HR.fzc h2;subst e;unfold fzcH
  split
  ·exact⟨H2,hs.cons _,h3⟩
  ·exact⟨c :: H2,hs.cons_cons _,c,H2,rfl,BR.fzc he ha h1,h3⟩
theorem HR.fzc':∀ {l:Hp} {H:List Ck} {bl:Blk},HR env B w l H->lk l id=some bl->∃ c Y Z H',BR env B w id bl c/\H=Y++c :: Z/\H'.Sublist (Y++Z)/\HR env B w (fzcH id g x l) H'
 | [],_,_,_,h=>by cases h
 | (k,b') :: l,H,bl,⟨c,H',e,h1,h2⟩,h=>by
  rw[zu]at h;subst e
  split at h
  ·rename_i e
   subst e;cases h;obtain⟨H2,h3,h4⟩:=HR.fzc he ha h2;refine⟨c,[],H',H2,h1,rfl,h3,?_⟩;unfold fzcH;rw[Nat.beq_refl];exact h4
  ·rename_i e
   obtain⟨c',Y,Z,H2,h3,h4,h5,h6⟩:=HR.fzc' h2 h;have hk:Nat.beq k id=false:=by
    cases hb:Nat.beq k id with
    | false=>rfl
    | true=>exact absurd (Nat.eq_of_beq_eq_true hb).symm e
   refine⟨c',c :: Y,Z,c :: H2,h3,by rw[h4]; rfl,h5.cons_cons _,?_⟩;unfold fzcH;rw[hk];exact⟨c,H2,rfl,BR.fzc he ha h1,h6⟩
omit he ha in
theorem lk_fzcL:∀ {l:Sl} {s:Nat} {v:SV},lk (fzcL id g x l) s=some v->∃ u,lk l s=some u/\v=u.fzc id g x
 | [],_,_,h=>by cases h
 | (k,u) :: l,s,v,h=>by
  unfold fzcL at h;rw[zu]at h ⊢
  split at h
  ·rename_i e
   cases h;rw[if_pos e];exact⟨u,rfl,rfl⟩
  ·rename_i e
   rw[if_neg e];exact lk_fzcL h
end
section
variable {X:Cx} {R:Nat->Prop} {W:World} {Bi:Bk} {n:Nat} {ks:List Nat} {env:Nat->Loc} {B:Nat->Prop} {w0:World} {H:List Ck} {st st':ASt} {a:Act} {w:World}
theorem AI.frzC(h:AI X R W Bi n ks env B w0 H st a w) {id:Nat} {t:TypeId} {cs:List SC} {g:GTy} {x:g.D} {c:Bool} (hlk:lk st.H id=some (.cells t cs)) (hdec:dec g cs=some (c,x,[])) (hc:c=true):∃ env' B' w0' H',AI X R W Bi n ks env' B' w0' H' ⟨fzcL id g x st.L,fzcH id g x st.H⟩ a w:=by
 obtain⟨c0,_,⟨b,vs,he,rfl,hcs⟩,hfoc⟩:=h.heap.foc hlk;have hup:Up B w0 (fun q=>B q\/q=b) w:=⟨fun q hq=>.inl hq,fun q hq=>h.sh.below.block q (.inr hq)⟩
 obtain⟨v1,v2,hv,hfr,hv2⟩:=dec_ok (hcs.up hup) hdec hc;have hv2':v2=[]:=hv2;subst hv2';rw[List.append_nil]at hv;subst hv;have hat:At (fun q=>B q\/q=b) w g x b 0:=⟨.inr rfl,vs,hfr,fun j u hu=>by rw[Nat.zero_add,cel_cell h.sh hfoc.more]; exact hu⟩
 obtain⟨c,Y,Z,H2,⟨b',vs',he',rfl,_⟩,h2,h4,h5⟩:=HR.fzc' he hat (h.heap.up hup) hlk;rw[he]at he';cases he';have hmem:Ck.cel b vs' t∈H++ks.map qW:=by rw[h2]; simp
 have hnew:=(h.sh.ok _ hmem).lt (b:=b) rfl;have hpart:=h.sh.apart;rw[h2,List.append_assoc,List.cons_append]at hpart;refine⟨env,_,w,H2,h.size,h.defs,fun s u hu=>?_,h5,?_,fun q hq=>.inl (h.sub q hq),fun q hq=>?_,h.pin,h.base.trans ⟨h.sh.below.os,h.sh.below.tape,h.sh.below.output,h.sh.below.size,fun q hq=>h.sh.below.block q (.inl hq)⟩,fun i x hx=>(h.glob i x hx).up hup⟩
 ·obtain⟨u0,hu0,rfl⟩:=lk_fzcL hu
  obtain⟨u',h6,h7⟩:=h.has s u0 hu0;exact⟨u',h6,VR.fzc he hat (h7.up hup)⟩
 ·have hs:SH (fun k=>R k\/B k) w0 (H2++ks.map qW) w:=by
   have h6:=h.sh;rw[h2]at h6;have hp:(Y++Ck.cel b vs' t :: Z++ks.map qW).Perm (Ck.cel b vs' t :: (Y++Z++ks.map qW)):=by
    simp only[List.append_assoc,List.cons_append];exact List.perm_middle
   exact(h6.perm hp).weak (((h4.append_right _)).cons _)
  refine⟨KO.refl _ _,fun q hq=>?_,fun c hc=>(hs.ok c hc).base fun q hb hB=>?_,hs.apart⟩
  ·rcases hq with hq | hq | hq
   ·exact h.sh.base q (.inl hq)
   ·exact h.sh.base q (.inr hq)
   ·subst hq; exact hnew.2
  ·rcases hB with hB | hB | hB
   ·exact((hs.ok c hc).lt hb).1 (.inl hB)
   ·exact((hs.ok c hc).lt hb).1 (.inr hB)
   ·subst hB
    have hcm:c∈Y++(Z++ks.map qW):=by
     rcases List.mem_append.1 hc with hc | hc
     ·have:=h4.subset hc
      rcases List.mem_append.1 this with h7 | h7
      ·exact List.mem_append_left _ h7
      ·exact List.mem_append_right _ (List.mem_append_left _ h7)
     ·exact List.mem_append_right _ (List.mem_append_right _ hc)
    rw[List.pairwise_append,List.pairwise_cons]at hpart;obtain⟨_,⟨h8,_⟩,h9⟩:=hpart
    rcases List.mem_append.1 hcm with h7 | h7
    ·exact h9 c h7 _ List.mem_cons_self q hb rfl
    ·exact h8 c h7 q rfl hb
 ·rcases hq with hq | hq
  ·exact(h.new q hq).imp_right fun h'=>⟨h'.1,h'.2.keep (h.sh.below.block q (.inr hq))⟩
  ·subst hq; exact .inr ⟨fun hR=>hnew.1 (.inl hR),(h.sh.ok _ hmem).cells rfl rfl⟩
theorem Wk.frzC(id:Nat) (g:GTy) {t:TypeId} {cs:List SC} {x:g.D} {c:Bool} (hlk:lk st.H id=some (.cells t cs)) (hdec:dec g cs=some (c,x,[])) (hc:c=true):Wk X n st ⟨fzcL id g x st.L,fzcH id g x st.H⟩:=fun _ _ _ _ _ _ ⟨ks,env,B,w0,H,hM,hA⟩=>by
 obtain⟨env',B',w0',H',h⟩:=hA.frzC hlk hdec hc;exact⟨ks,env',B',w0',H',hM,h⟩
end
section
variable {X:Cx} {M:Bool} {n:Nat} {st:ASt} {Q:Exit->ASt->Prop} {ops:List Oper} {E:List Nat} {ds:DS} {listed':Array Bool} {fuel d i:Nat} {o:Oper}
theorem ad_frz{st':ASt} (z:Nat) (hf:frz z st=some st') (h:AD X M n ops E fuel ⟨ds.listed,false,ds.pre&&!ds.all,false,ds.all⟩ st' Q):AD X M n ops E fuel ds st Q:=by
 intro R W Bi B0 w00 CS F ks env B w0 H a w hM hA hD;obtain⟨env',B',w0',H',hA',hsub,hKO,hkeep⟩:=hA.frz hf;refine h R W Bi B0 w00 CS F ks env' B' w0' H' a w hM hA' ⟨fun h=>(by cases h),fun hp=>?_,fun h=>(by cases h),fun w hw=>hD.frz' w (hKO.trans ⟨hw.os,hw.tape,hw.output,hw.size,fun k hk=>hw.block k (hk.imp id (hsub k))⟩)⟩;have hp':ds.pre=true/\ds.all=false:=by
  have:(ds.pre&&!ds.all)=true:=hp
  simpa using this
 obtain⟨g1,g2,g3,g4⟩:=hD.pre hp'.1;exact⟨fun c hc=>⟨hkeep c (g1 c hc).1 (by have:=(g1 c hc).2; rw[hp'.2]at this; exact this),(g1 c hc).2⟩,g2,fun k hk=>hsub k (g3 k hk),g4.trans ⟨hKO.os,hKO.tape,hKO.output,hKO.size,fun k hk=>hKO.block k (hk.imp id (g3 k))⟩⟩
end
end

section
abbrev Re:=Bool->Nat->Option Nat
def capsRe(φ:Re):List Cap->Option (List Cap)
 | []=>some []
 | .id i :: r=>match φ true i,capsRe φ r with
  | some j,some l=>some (.id j :: l)
  | _,_=>none
 | .fz g x :: r=>match capsRe φ r with
  | some l=>some (.fz g x :: l)
  | none=>none
def SC.re:SC->Re->SC
 | .ptr i o,φ=>match φ true i with
  | some j=>.ptr j o
  | none=>.dead
 | .elt i sz k o,φ=>match φ false i with
  | some j=>.elt j sz k o
  | none=>.dead
 | .sl i,φ=>match φ false i with
  | some j=>.sl j
  | none=>.dead
 | .fn f ids,φ=>match capsRe φ ids with
  | some l=>.fn f l
  | none=>.dead
 | .mref i,φ=>match φ true i with
  | some j=>.mref j
  | none=>.dead
 | .bfn f i,φ=>match φ true i with
  | some j=>.bfn f j
  | none=>.dead
 | .nel i o,φ=>match φ false i with
  | some j=>.nel j o
  | none=>.dead
 | .cpo i,φ=>match φ false i with
  | some j=>.cpo j
  | none=>.dead
 | .slp i s o,φ=>match φ false i with
  | some j=>.slp j s o
  | none=>.dead
 | .slf b i,φ=>match φ true i with
  | some j=>.slf b j
  | none=>.dead
 | c,_=>c
def reCs(φ:Re):List SC->List SC
 | []=>[]
 | c :: r=>c.re φ :: reCs φ r
def SA.re:SA->Re->SA
 | .c x,φ=>.c (x.re φ)
 | .agg cs,φ=>.agg (reCs φ cs)
 | .arr g l,_=>.arr g l
def reAs(φ:Re):List SA->List SA
 | []=>[]
 | c :: r=>c.re φ :: reAs φ r
def SV.re:SV->Re->SV
 | .a x,φ=>.a (x.re φ)
 | .may g x,φ=>.may g (x.re φ)
 | .tup xs,φ=>.tup (reAs φ xs)
def reL(φ:Re):Sl->Sl
 | []=>[]
 | (k,v) :: r=>(k,v.re φ) :: reL φ r
def Blk.re:Blk->Re->Blk
 | .cells t cs,φ=>.cells t (reCs φ cs)
 | .it mid es k ps,φ=>match φ true mid with
  | some j=>.it j es k ps
  | none=>.junk
 | .hrow el t g l c i d,φ=>match φ false d with
  | some j=>.hrow el t g l c i j
  | none=>.rjunk
 | .mrow t t' g l c (some (i,some d)),φ=>match φ false d with
  | some j=>.mrow t t' g l c (some (i,some j))
  | none=>.mrow t t' g l c (some (i,none))
 | b,_=>b
def Blk.kd:Blk->Bool
 | .row _ _ _ _=>false
 | .hrow _ _ _ _ _ _ _=>false
 | .rjunk=>false
 | .lrow _ _ _=>false
 | .mrow _ _ _ _ _ _=>false
 | _=>true
def reH(φ:Re):Hp->Hp
 | []=>[]
 | (k,b) :: r=>match φ b.kd k with
  | some j=>(j,b.re φ) :: reH φ r
  | none=>reH φ r
structure ReOk(φ:Re) (env env':Nat->Loc):Prop where
 blk:∀ k j b,φ true k=some j->env k=.blk b->env' j=.blk b
 row:∀ k j A c n,φ false k=some j->env k=.row A c n->env' j=.row A c n
section
variable {φ:Re} {env env':Nat->Loc} {B:Nat->Prop} {w:World} (he:ReOk φ env env')
include he
theorem ptrs.re:∀ {ids l:List Cap} {vs:List Value},capsRe φ ids=some l->ptrs env B w ids vs->ptrs env' B w l vs
 | [],l,vs,h,hv=>by cases h; exact hv
 | .id i :: ids,l,vs,h,⟨v,r,e,⟨b,h2,h4⟩,h3⟩=>by
  simp only[capsRe]at h
  split at h
  ·rename_i j r hi hr
   cases h;exact⟨v,_,e,⟨b,he.blk i j b hi h2,h4⟩,ptrs.re hr h3⟩
  ·cases h
 | .fz g x :: ids,l,vs,h,⟨v,r,e,h2,h3⟩=>by
  simp only[capsRe]at h
  split at h
  ·rename_i r hr
   cases h;exact⟨v,_,e,h2,ptrs.re hr h3⟩
  ·cases h
theorem CR.re:∀ {c:SC} {v:Value},CR env B w c v->CR env' B w (c.re φ) v
 | .val _,_,hc=>hc
 | .str _,_,hc=>hc
 | .dead,_,hc=>hc
 | .ptr i o,v,hc=>by
  simp only[SC.re]
  split
  ·rename_i j h
   obtain⟨b,e,hv⟩:=hc;exact⟨b,he.blk i j b h e,hv⟩
  ·trivial
 | .elt i sz j o,v,hc=>by
  simp only[SC.re]
  split
  ·rename_i j h
   obtain⟨b,c,n,e,hv⟩:=hc;exact⟨b,c,n,he.row i j _ _ _ h e,hv⟩
  ·trivial
 | .slf b i,v,hc=>by
  simp only[SC.re]
  split
  ·rename_i j h
   obtain⟨k,e,hv⟩:=hc;exact⟨k,fun hb=>he.blk i j k h (e hb),hv⟩
  ·trivial
 | .cpo i,v,hc=>by
  simp only[SC.re]
  split
  ·rename_i j h
   obtain⟨b,c,n,e,hv⟩:=hc;exact⟨b,c,n,he.row i j _ _ _ h e,hv⟩
  ·trivial
 | .slp i s o,v,hc=>by
  simp only[SC.re]
  split
  ·rename_i j h
   obtain⟨b,c,n,e,hv⟩:=hc;exact⟨b,c,n,he.row i j _ _ _ h e,hv⟩
  ·trivial
 | .nel i o,v,hc=>by
  simp only[SC.re]
  split
  ·rename_i j h
   obtain⟨b,c,n,e,hv⟩:=hc;exact⟨b,c,n,he.row i j _ _ _ h e,hv⟩
  ·trivial
 | .pel _ _ _,_,hc=>hc
 | .par _ _,_,hc=>hc
 | .sl i,v,hc=>by
  simp only[SC.re]
  split
  ·rename_i j h
   obtain⟨A,c,n,e,hv⟩:=hc;exact⟨A,c,n,he.row i j _ _ _ h e,hv⟩
  ·trivial
 | .lst _ _ _,_,hc=>hc
 | .fn f ids,v,hc=>by
  simp only[SC.re]
  split
  ·rename_i l h
   obtain⟨vs,hv,hp⟩:=hc;exact⟨vs,hv,ptrs.re he h hp⟩
  ·trivial
 | .mref i,v,hc=>by
  simp only[SC.re]
  split
  ·rename_i j h
   obtain⟨b,e,hv⟩:=hc;exact⟨b,he.blk i j b h e,hv⟩
  ·trivial
 | .bfn f i,v,hc=>by
  simp only[SC.re]
  split
  ·rename_i j h
   obtain⟨b,e,hv⟩:=hc;exact⟨b,he.blk i j b h e,hv⟩
  ·trivial
theorem CsR.re:∀ {c:List SC} {v:List Value},CsR env B w c v->CsR env' B w (reCs φ c) v
 | [],_,hc=>hc
 | _ :: _,_,⟨v,r,e,h1,h2⟩=>⟨v,r,e,CR.re he h1,CsR.re h2⟩
theorem SaR.re:∀ {c:SA} {v:Value},SaR env B w c v->SaR env' B w (c.re φ) v
 | .c _,_,hc=>CR.re he hc
 | .agg _,_,⟨vs,e,h1⟩=>⟨vs,e,CsR.re he h1⟩
 | .arr _ _,_,h=>h
theorem SasR.re:∀ {c:List SA} {v:List Value},SasR env B w c v->SasR env' B w (reAs φ c) v
 | [],_,hc=>hc
 | _ :: _,_,⟨v,r,e,h1,h2⟩=>⟨v,r,e,SaR.re he h1,SasR.re h2⟩
theorem VR.re:∀ {c:SV} {v:Value},VR env B w c v->VR env' B w (c.re φ) v
 | .a _,_,hc=>SaR.re he hc
 | .may _ _,_,hc=>⟨fun hg=>SaR.re he (hc.1 hg),hc.2⟩
 | .tup _,_,⟨vs,e,h1⟩=>⟨vs,e,SasR.re he h1⟩
theorem BR.re{k j:Nat}:∀ {b:Blk} {c:Ck},φ b.kd k=some j->BR env B w k b c->BR env' B w j (b.re φ) c
 | .cells _ _,_,h,⟨b,vs,e,hc,h1⟩=>⟨b,vs,he.blk k j b h e,hc,CsR.re he h1⟩
 | .row _ _ _ _,_,h,⟨A,c,xs,e,hc,h1⟩=>⟨A,c,xs,he.row k j _ _ _ h e,hc,h1⟩
 | .sit _ _,_,h,⟨b,e,hc⟩=>⟨b,he.blk k j b h e,hc⟩
 | .mp _ _ _ _,_,h,⟨b,es,q,e,hc⟩=>⟨b,es,q,he.blk k j b h e,hc⟩
 | .it mid _ _ _,_,h,⟨b,m,e,hm,hc⟩=>by
  simp only[Blk.re]
  split
  ·rename_i j' hj
   exact⟨b,m,he.blk k j b h e,he.blk mid j' m hj hm,hc⟩
  ·exact⟨b,_,he.blk k j b h e,hc⟩
 | .junk,_,h,⟨b,o,e,hc⟩=>⟨b,o,he.blk k j b h e,hc⟩
 | .hrow el t g l cap i d,_,h,⟨A,c,ys,A',c',m,e,hc,h1,hi,h2,h3⟩=>by
  simp only[Blk.re]
  split
  ·rename_i j' hj
   exact⟨A,c,ys,A',c',m,he.row k j _ _ _ h e,hc,h1,hi,he.row d j' _ _ _ hj h2,h3⟩
  ·exact⟨A,c,_,_,_,_,_,he.row k j _ _ _ h e,hc⟩
 | .rjunk,_,h,⟨A,c,n,t,s,m,xs,e,hc⟩=>⟨A,c,n,t,s,m,xs,he.row k j _ _ _ h e,hc⟩
 | .lrow _ _ _,_,h,⟨A,c,e,h1⟩=>⟨A,c,he.row k j _ _ _ h e,h1⟩
 | .mrow _ _ _ _ _ none,_,h,⟨A,q,ys,ys',I,e,hc,h1,h2,h3⟩=>⟨A,q,ys,ys',I,he.row k j _ _ _ h e,hc,h1,h2,h3⟩
 | .mrow _ _ _ _ _ (some (i,none)),_,h,⟨A,q,ys,ys',I,e,hc,h1,⟨h2,v,h4,_⟩,h3⟩=>⟨A,q,ys,ys',I,he.row k j _ _ _ h e,hc,h1,⟨h2,v,h4,fun _ h=>by cases h⟩,h3⟩
 | .mrow _ _ _ _ _ (some (i,some d)),_,h,⟨A,q,ys,ys',I,e,hc,h1,⟨h2,v,h4,h5⟩,h3⟩=>by
  simp only[Blk.re]
  split
  ·rename_i j' hj
   obtain⟨A',c',m,h6,h7⟩:=h5 d rfl;exact⟨A,q,ys,ys',I,he.row k j _ _ _ h e,hc,h1,⟨h2,v,h4,fun d' hd=>by cases hd; exact⟨A',c',m,he.row d j' _ _ _ hj h6,h7⟩⟩,h3⟩
  ·exact⟨A,q,ys,ys',I,he.row k j _ _ _ h e,hc,h1,⟨h2,v,h4,fun _ h=>by cases h⟩,h3⟩
theorem HR.re:∀ {l:Hp} {H:List Ck},HR env B w l H->∃ H',H'.Sublist H/\HR env' B w (reH φ l) H'
 | [],_,hh=>⟨[],by rw[show _=[] from hh]; exact List.Sublist.refl _,rfl⟩
 | (k,b) :: l,_,⟨c,H',e,h1,h2⟩=>by
  obtain⟨H2,hs,h3⟩:=HR.re h2;subst e;unfold reH
  split
  ·rename_i j h
   exact⟨c :: H2,hs.cons_cons _,c,H2,rfl,BR.re he h h1,h3⟩
  ·exact⟨H2,hs.cons _,h3⟩
omit he in
theorem lk_reL:∀ {l:Sl} {s:Nat} {v:SV},lk (reL φ l) s=some v->∃ u,lk l s=some u/\v=u.re φ
 | [],_,_,h=>by cases h
 | (k,u) :: l,s,v,h=>by
  unfold reL at h;rw[zu]at h ⊢
  split at h
  ·rename_i e
   cases h;rw[if_pos e];exact⟨u,rfl,rfl⟩
  ·rename_i e
   rw[if_neg e];exact lk_reL h
end
def mvId(i j:Nat):Re:=fun _ k=>match Nat.beq k i with
 | true=>some j
 | false=>match Nat.beq k j with
  | true=>none
  | false=>some k
theorem mvId_ok{i j:Nat} {env:Nat->Loc}:ReOk (mvId i j) env (upd env j (env i)):=by
 have key:∀ b k k',mvId i j b k=some k'->upd env j (env i) k'=env k:=by
  intro b k k' h;unfold mvId at h
  split at h
  ·rename_i hb
   cases h
   have:=Nat.eq_of_beq_eq_true hb
   subst this;exact zf
  ·split at h
   ·cases h
   ·rename_i hb
    cases h;exact zC _ (fun e=>by subst e; rw[Nat.beq_refl]at hb; cases hb)
 exact⟨fun k j' b h e=>by rw[key _ _ _ h]; exact e,fun k j' A c n h e=>by rw[key _ _ _ h]; exact e⟩
end

section
def pinRe(n:Nat):Re:=fun b k=>match b with
 | true=>match Nat.ble n k with
  | true=>some k
  | false=>none
 | false=>match Nat.ble zP k with
  | true=>some k
  | false=>none
theorem pinRe_ok{n:Nat} {env env':Nat->Loc} (h:∀ id l,n<=id->env id=l->((∃ b,l=.blk b)\/zP<=id)->env' id=l) (hn:n<=zP):ReOk (pinRe n) env env':=by
 refine⟨fun k j b hk e=>?_,fun k j A c m hk e=>?_⟩
 ·simp only[pinRe]at hk
  split at hk
  ·rename_i hb
   cases hk;exact h _ _ (Nat.le_of_ble_eq_true hb) e (.inl ⟨b,rfl⟩)
  ·cases hk
 ·simp only[pinRe]at hk
  split at hk
  ·rename_i hb
   cases hk
   have:=Nat.le_of_ble_eq_true hb
   exact h _ _ (Nat.le_trans hn this) e (.inr this)
  ·cases hk
def capsFz:List Cap->Bool
 | []=>true
 | .id _ :: _=>false
 | .fz _ _ :: r=>capsFz r
section
variable {env env':Nat->Loc} {B:Nat->Prop} {w:World}
theorem ptrs.fzAny:∀ {cs:List Cap} {vs:List Value},capsFz cs=true->ptrs env B w cs vs->ptrs env' B w cs vs
 | [],_,_,h=>h
 | .id _ :: _,_,h,_=>by cases h
 | .fz _ _ :: _,_,h,⟨v,r,e,h1,h2⟩=>⟨v,r,e,h1,ptrs.fzAny (by simpa [capsFz] using h) h2⟩
theorem ptrs.any:∀ {cs:List Cap} {vs:List Value},ptrs (fun _=>.no) B w cs vs->ptrs env B w cs vs
 | [],_,h=>h
 | .id _ :: _,_,⟨v,r,e,⟨b,h1,_⟩,h2⟩=>by cases h1
 | .fz _ _ :: _,_,⟨v,r,e,h1,h2⟩=>⟨v,r,e,h1,ptrs.any h2⟩
theorem CR.any:∀ {c:SC} {v:Value},CR (fun _=>.no) B w c v->CR env B w c v
 | .val _,_,hc=>hc
 | .str _,_,hc=>hc
 | .dead,_,hc=>hc
 | .ptr _ _,_,⟨b,h,_⟩=>by cases h
 | .elt _ _ _ _,_,⟨_,_,_,h,_⟩=>by cases h
 | .pel _ _ _,_,hc=>hc
 | .par _ _,_,hc=>hc
 | .sl _,_,⟨_,_,_,h,_⟩=>by cases h
 | .lst _ _ _,_,hc=>hc
 | .fn _ _,_,⟨vs,h1,h2⟩=>⟨vs,h1,ptrs.any h2⟩
 | .mref _,_,⟨_,h,_⟩=>by cases h
 | .bfn _ _,_,⟨_,h,_⟩=>by cases h
 | .nel _ _,_,⟨_,_,_,h,_⟩=>by cases h
 | .slp _ _ _,_,⟨_,_,_,h,_⟩=>by cases h
 | .cpo _,_,⟨_,_,_,h,_⟩=>by cases h
 | .slf true _,_,⟨_,h,_⟩=>by cases h rfl
 | .slf false _,_,⟨k,_,h⟩=>⟨k,fun h=>(by cases h),h⟩
theorem CsR.any:∀ {c:List SC} {v:List Value},CsR (fun _=>.no) B w c v->CsR env B w c v
 | [],_,hc=>hc
 | _ :: _,_,⟨v,r,e,h1,h2⟩=>⟨v,r,e,h1.any,h2.any⟩
theorem SaR.any:∀ {c:SA} {v:Value},SaR (fun _=>.no) B w c v->SaR env B w c v
 | .c _,_,hc=>CR.any hc
 | .agg _,_,⟨vs,e,h1⟩=>⟨vs,e,h1.any⟩
 | .arr _ _,_,h=>h
theorem SasR.any:∀ {c:List SA} {v:List Value},SasR (fun _=>.no) B w c v->SasR env B w c v
 | [],_,hc=>hc
 | _ :: _,_,⟨v,r,e,h1,h2⟩=>⟨v,r,e,h1.any,h2.any⟩
end
/-! ### Slots: parameters and moves -/
structure Has(n:Nat) (env:Nat->Loc) (B:Nat->Prop) (w:World) (L:Sl) (tmps:Array Value):Prop where
 size:tmps.size=n
 has:∀ s sv,lk L s=some sv->∃ v,tmps[s]?=some v/\VR env B w sv v
def parL:List Nat->List SA->Sl->Sl
 | p :: ps,x :: xs,L=>parL ps xs ((p,.a x) :: L)
 | _,_,L=>L
def mvS:List (Nat×Nat)->Sl->Sl
 | [],L=>L
 | (d,s) :: r,L=>match lk L s with
  | some v=>mvS r ((d,v) :: L)
  | none=>mvS r ((d,.a (.c .dead)) :: L)
def mvT:List (Nat×Nat)->Array Value->Array Value
 | [],t=>t
 | (d,s) :: r,t=>mvT r (t.setIfInBounds d (t.getD s undef))
def allLt(n:Nat):List Nat->Bool
 | []=>true
 | p :: r=>Nat.blt p n&&allLt n r
section
variable {n:Nat} {env:Nat->Loc} {B:Nat->Prop} {w:World} {L:Sl} {tmps:Array Value}
theorem Has.set(h:Has n env B w L tmps) {d:Nat} (hd:d < n) {sv:SV} {v:Value} (hv:VR env B w sv v):Has n env B w ((d,sv) :: L) (tmps.setIfInBounds d v):=by
 refine⟨by simpa using h.size,fun s u hu=>?_⟩;rw[zu]at hu
 split at hu
 ·rename_i e
  subst e;cases hu;exact⟨v,by rw[Array.getElem?_setIfInBounds_self_of_lt (by rw[h.size]; exact hd)],hv⟩
 ·rename_i e
  obtain⟨u',h1,h2⟩:=h.has s u hu;exact⟨u',by rw[Array.getElem?_setIfInBounds_ne (fun e'=>e e'.symm)]; exact h1,h2⟩
theorem Has.par:∀ {ps:List Nat} {xs:List SA} {vs:List Value} {L:Sl} {tmps:Array Value},Has n env B w L tmps->allLt n ps=true->SasR env B w xs vs->Has n env B w (parL ps xs L) ((ps.zip vs).foldl (fun t (p,v)=>t.setIfInBounds p v) tmps)
 | [],_,_,_,_,h,_,_=>by cases ‹List SA›<;>exact h
 | _ :: _,[],_,_,_,h,_,hx=>by rw[show _=[] from hx]; exact h
 | p :: ps,x :: xs,_,L,tmps,h,hp,⟨v,r,e,h1,h2⟩=>by
  subst e;simp only[allLt,Bool.and_eq_true]at hp;exact Has.par (ps:=ps) (xs:=xs) (vs:=r) (L:=(p,.a x) :: L) (tmps:=tmps.setIfInBounds p v) (h.set (zk hp.1) (sv:=.a x) h1) hp.2 h2
theorem Has.mv:∀ {ms:List (Nat×Nat)} {L:Sl} {tmps:Array Value},Has n env B w L tmps->allLt n (ms.map (·.1))=true->Has n env B w (mvS ms L) (mvT ms tmps)
 | [],_,_,h,_=>h
 | (d,s) :: r,L,tmps,h,hp=>by
  simp only[List.map_cons,allLt,Bool.and_eq_true]at hp;unfold mvS mvT
  split
  ·rename_i v hv
   obtain⟨u,h1,h2⟩:=h.has s v hv;refine Has.mv (h.set (zk hp.1) ?_) hp.2;rw[Array.getD_eq_getD_getElem?,h1];exact h2
  ·exact Has.mv (h.set (zk hp.1) trivial) hp.2
end
def asgO(n:Nat):List Oper->Option (List (Nat×Nat))
 | []=>some []
 | o :: r=>match o.guard,o.dst,o.op,asgO n r with
  | none,some d,.assign (.tmp s),some l=>some ((d,s) :: l)
  | none,some d,.move (.tmp s),some l=>some ((d,s) :: l)
  | _,_,_,_=>none
inductive Asg (n:Nat):Code->List (Nat×Nat)->Prop where
 | region {id:Nat} {ops:List Oper} {ms:List (Nat×Nat)} (h:asgO n ops=some ms):Asg n (.region id ops.toArray false) ms
 | skip:Asg n .skip []
theorem asgO_ok{P:Program} {n l:Nat} {ops:Array Oper} {Q:Exit->Act->World->Prop} {w:World}:∀ {os:List Oper} {ms:List (Nat×Nat)} {a:Act},asgO n os=some ms->Q .normal { a with tmps:=mvT ms a.tmps } w->XL (some l) P ops Q os a w
 | [],ms,a,h,hq=>by cases h; exact x_end hq
 | o :: os,ms,a,h,hq=>by
  have key:∀ d s,o.guard=none->o.dst=some d->(o.op=.assign (.tmp s)\/o.op=.move (.tmp s))->∀ l',asgO n os=some l'->ms=(d,s) :: l'->XL (some l) P ops Q (o :: os) a w:=by
   intro d s hg hd hop l' hl hms;subst hms;refine xl_cons (.inl ⟨by simp[Region.wanted,hg],.inl ⟨a.eval (.tmp s),w,?_,asgO_ok hl ?_⟩⟩)
   ·rcases hop with hop | hop<;>simp[execOp,hop]
   ·rw[hd]
    exact hq
  unfold asgO at h
  split at h
  ·rename_i d s l' hg hd hop hl
   cases h;exact key d s hg hd (.inl hop) l' hl rfl
  ·rename_i d s l' hg hd hop hl
   cases h;exact key d s hg hd (.inr hop) l' hl rfl
  ·cases h
theorem Asg.ok{P:Program} {n l:Nat} {c:Code} {ms:List (Nat×Nat)} {Q:Exit->Act->World->Prop} {w:World} {a:Act} (h:Asg n c ms) (hq:Q .normal { a with tmps:=mvT ms a.tmps } w):XC (some l) P c Q a w:=by
 cases h with
 | region h=>exact c_region (asgO_ok h hq)
 | skip=>exact c_skip hq
end

section
def exitC:Exit->Option Code
 | .ret=>some .ret
 | .exit id=>some (.exit id)
 | _=>none
def exitB:Exit->Bool
 | .normal=>true
 | .ret=>true
 | .exit _=>true
 | _=>false
section
variable {X:Cx} {R:Nat->Prop} {W:World} {Bi:Bk} {n:Nat} {ks:List Nat} {env:Nat->Loc} {B:Nat->Prop} {w0:World} {H:List Ck} {st:ASt} {a:Act} {w:World}
def pinsOf(n:Nat) (env:Nat->Loc):Nat->Loc->Prop:=fun id l=>n<=id/\env id=l/\((∃ b,l=.blk b)\/zP<=id)
theorem AI.rebase(h:AI X R W Bi n ks env B w0 H st a w):AI X (fun k=>R k\/B k) w ⟨B,pinsOf n env,Bi.d⟩ n ks env B w H st a w:=by
 have hup:Up B w0 B w:=⟨fun _ h=>h,fun k hk=>h.sh.below.block k (.inr hk)⟩
 refine⟨h.size,h.defs,fun s sv hs=>?_,h.heap.up hup,?_,fun _ h=>h,fun _ h=>.inl h,fun _ _ h=>h,KO.refl _ _,fun i x hx=>(h.glob i x hx).up hup⟩
 ·obtain⟨v,h1,h2⟩:=h.has s sv hs
  exact⟨v,h1,h2.up hup⟩
 ·exact⟨KO.refl _ _,fun k hk=>h.sh.base k (hk.elim (fun h=>h) .inr),fun c hc=>(h.sh.ok c hc).base fun b hb hk=>((h.sh.ok c hc).lt hb).1 (hk.elim (fun h=>h) .inr),h.sh.apart⟩
theorem AI.unbase{env':Nat->Loc} {B':Nat->Prop} {w0':World} {H':List Ck} {st':ASt} {a':Act} {w':World} {ks':List Nat} (h:AI X R W Bi n ks env B w0 H st a w) (h':AI X (fun k=>R k\/B k) w ⟨B,pinsOf n env,Bi.d⟩ n ks' env' B' w0' H' st' a' w'):AI X R W Bi n ks' env' B' w0' H' st' a' w':=by
 refine⟨h'.size,h'.defs,h'.has,h'.heap,?_,fun k hk=>h'.sub k (h.sub k hk),fun k hk=>?_,fun id l hp=>?_,?_,h'.glob⟩
 ·exact⟨⟨h'.sh.below.os,h'.sh.below.tape,h'.sh.below.output,h'.sh.below.size,fun k hk=>h'.sh.below.block k (hk.imp .inl id)⟩,fun k hk=>h'.sh.base k (hk.imp .inl id),fun c hc=>(h'.sh.ok c hc).base fun b hb hk=>((h'.sh.ok c hc).lt hb).1 (hk.imp .inl id),h'.sh.apart⟩
 ·have hKO:∀ q,B q->w0'.heap[q]?=w0.heap[q]?:=fun q hq=>(h'.base.block q (.inr hq)).trans (h.sh.below.block q (.inr hq))
  rcases h'.new k hk with h1 | h1
  ·exact(h.new k h1).imp_right fun h2=>⟨h2.1,h2.2.keep (hKO k h1)⟩
  ·exact .inr ⟨fun hR=>h1.1 (.inl hR),h1.2⟩
 ·obtain⟨h1,h2,h3⟩:=h.pin id l hp
  exact⟨h1,(h'.pin id l ⟨h1,h2,h3⟩).2.1,h3⟩
 ·exact h.base.trans ⟨h.sh.below.os.symm ▸ h'.base.os,h.sh.below.tape ▸ h'.base.tape,h.sh.below.output ▸ h'.base.output,Nat.le_trans h.sh.below.size h'.base.size,fun k hk=>(h'.base.block k (.inl hk)).trans (h.sh.below.block k (.inl hk))⟩
theorem AI.round(h:AI X R W Bi n ks env B w0 H st a w) {L':Sl} {t:Array Value} (hL:Has n env B w L' t):AI X (Rest w H) w ⟨B,pinsOf n env,[]⟩ n [] env B w H ⟨L',st.H⟩ { tmps:=t,defers:=[] } w:=by
 have hup:Up B w0 B w:=⟨fun _ h=>h,fun k hk=>h.sh.below.block k (.inr hk)⟩
 have hs:SH (fun k=>R k\/B k) w0 H w:=h.sh.weak (List.sublist_append_left _ _);refine⟨hL.size,rfl,hL.has,h.heap.up hup,?_,fun _ h=>h,fun _ h=>.inl h,fun _ _ h=>h,KO.refl _ _,fun i x hx=>(h.glob i x hx).up hup⟩;have h1:=hs.rest;simp only[List.map_nil,List.append_nil];exact⟨KO.refl _ _,fun k hk=>hk.elim (fun h=>h.1) (fun h=>hs.base k (.inr h)),fun c hc=>(h1.ok c hc).base fun b hb hk=>hk.elim (fun h=>((h1.ok c hc).lt hb).1 h) (fun h=>((hs.ok c hc).lt hb).1 (.inr h)),h1.apart⟩
theorem AI.rounded{env':Nat->Loc} {B':Nat->Prop} {w0':World} {H':List Ck} {st':ASt} {a':Act} {w':World} (h:AI X R W Bi n ks env B w0 H st a w) (h':AI X (Rest w H) w ⟨B,pinsOf n env,[]⟩ n [] env' B' w0' H' st' a' w') {L:Sl} (hL:∀ s sv,lk L s=some sv->∃ v,a.tmps[s]?=some v/\VR env' B' w0' sv v):AI X R W Bi n ks env' B' w0' H' ⟨L,st'.H⟩ a w':=by
 have hs:SH (fun k=>R k\/B k) w0 H w:=h.sh.weak (List.sublist_append_left _ _);have hRest:∀ k,R k\/B k->Rest w H k:=fun k hk=>⟨hs.base k hk,fun c hc e=>((hs.ok c hc).lt e).1 hk⟩
 have hup:Up B w0 B' w0':=⟨h'.sub,fun k hk=>(h'.base.block k (hRest k (.inr hk))).trans (h.sh.below.block k (.inr hk))⟩
 have hsh:=h'.sh;simp only[List.map_nil,List.append_nil]at hsh;have hf:SH (Rest w H) w H' w':=⟨h'.base.trans ⟨hsh.below.os,hsh.below.tape,hsh.below.output,hsh.below.size,fun k hk=>hsh.below.block k (.inl hk)⟩,fun k hk=>hsh.base k (.inl hk),fun c hc=>(hsh.ok c hc).base fun b hb hk=>((hsh.ok c hc).lt hb).1 (.inl hk),hsh.apart⟩
 have hfr:=h.sh.frame hf;have hpart:=List.pairwise_append.1 h.sh.apart;refine⟨h.size,h.defs,hL,h'.heap,⟨⟨hsh.below.os,hsh.below.tape,hsh.below.output,hsh.below.size,fun k hk=>hsh.below.block k (hk.imp (fun h=>hRest k (.inl h)) id)⟩,fun k hk=>hsh.base k (hk.imp (fun h=>hRest k (.inl h)) id),fun c hc=>(hfr.ok c hc).base fun b hb hk=>?_,hfr.apart⟩,fun k hk=>h'.sub k (h.sub k hk),fun k hk=>?_,fun id l hp=>?_,?_,fun i x hx=>(h.glob i x hx).up hup⟩
 ·rcases hk with hk | hk
  ·exact((hfr.ok c hc).lt hb).1 (.inl hk)
  ·rcases List.mem_append.1 hc with hc' | hc'
   ·exact((hsh.ok c hc').lt hb).1 (.inr hk)
   ·rcases h'.new b hk with h1 | h1
    ·exact((hfr.ok c hc).lt hb).1 (.inr h1)
    ·exact h1.1 ⟨((h.sh.ok c (List.mem_append_right _ hc')).lt hb).2,fun c' hc'' e=>hpart.2.2 c' hc'' c hc' b e hb⟩
 ·rcases h'.new k hk with h1 | h1
  ·exact(h.new k h1).imp_right fun h2=>⟨h2.1,h2.2.keep (hup.2 k h1)⟩
  ·exact .inr ⟨fun hR=>h1.1 (hRest k (.inl hR)),h1.2⟩
 ·obtain⟨h1,h2,h3⟩:=h.pin id l hp
  exact⟨h1,(h'.pin id l ⟨h1,h2,h3⟩).2.1,h3⟩
 ·exact h.base.trans ⟨h'.base.os.trans h.sh.below.os,h'.base.tape.trans h.sh.below.tape,h'.base.output.trans h.sh.below.output,Nat.le_trans h.sh.below.size h'.base.size,fun k hk=>(h'.base.block k (hRest k (.inl hk))).trans (h.sh.below.block k (.inl hk))⟩
end
end

section
section
variable {X:Cx} {R:Nat->Prop} {W:World} {Bi:Bk} {n:Nat} {ks:List Nat} {B:Nat->Prop} {w0:World} {r:Option Nat} {ops:List Oper} {Q:Exit->Act->World->Prop}
end
section
variable {X:Cx} {B:Nat->Prop} {n:Nat} {L L':Sl} {w1:World} {a:Act} {w:World} {Q:Exit->Act->World->Prop}
theorem evs_map{D:List Deferred} {M:List (Nat×Value)} (hS:St n D M a) {us:List Operand} {vs:List Value} (h:evs M us=some vs):us.toArray.map a.eval=vs.toArray:=by
 have:=hS.evs h
 simp[this]
end
end

section
def nilCs(id:Nat):Nat->List SC->List SC
 | 0,.val (.slice none 0 0) :: r=>.sl id :: r
 | p+1,c :: r=>c :: nilCs id p r
 | _,cs=>cs
def nilH(k p id:Nat):Hp->Hp
 | []=>[]
 | (j,.cells t cs) :: r=>match Nat.beq j k with
  | true=>(j,.cells t (nilCs id p cs)) :: r
  | false=>(j,.cells t cs) :: nilH k p id r
 | b :: r=>b :: nilH k p id r
section
variable {env:Nat->Loc} {B:Nat->Prop} {w:World} {id:Nat} (he:env id=.row none 0 0)
include he
theorem CsR.nilCs:∀ {p:Nat} {cs:List SC} {vs:List Value},CsR env B w cs vs->CsR env B w (nilCs id p cs) vs:=by
 intro p
 induction p with
 | zero=>
  intro cs vs h;unfold Go.Proofs.YtldjgdggcodgeaaGreat.nilCs
  split
  ·obtain⟨v,r,e,h1,h2⟩:=h
   exact⟨v,r,e,⟨none,0,0,he,h1⟩,h2⟩
  ·omega
  ·exact h
 | succ p ih=>
  intro cs vs h;cases cs with
  | nil=>exact h
  | cons c r=>
   obtain⟨v,q,e,h1,h2⟩:=h;exact⟨v,q,e,h1,ih h2⟩
theorem HR.nilH{k p:Nat}:∀ {l:Hp} {H:List Ck},HR env B w l H->HR env B w (nilH k p id l) H
 | [],_,h=>h
 | (j,.cells t cs) :: r,_,⟨c,H',e,h1,h2⟩=>by
  unfold Go.Proofs.YtldjgdggcodgeaaGreat.nilH
  split
  ·obtain⟨b,vs,h3,h4,h5⟩:=h1
   exact⟨c,H',e,⟨b,vs,h3,h4,CsR.nilCs he h5⟩,h2⟩
  ·exact⟨c,H',e,h1,HR.nilH h2⟩
 | (j,.row _ _ _ _) :: r,_,⟨c,H',e,h1,h2⟩=>⟨c,H',e,h1,HR.nilH h2⟩
 | (j,.sit _ _) :: r,_,⟨c,H',e,h1,h2⟩=>⟨c,H',e,h1,HR.nilH h2⟩
 | (j,.mp _ _ _ _) :: r,_,⟨c,H',e,h1,h2⟩=>⟨c,H',e,h1,HR.nilH h2⟩
 | (j,.it _ _ _ _) :: r,_,⟨c,H',e,h1,h2⟩=>⟨c,H',e,h1,HR.nilH h2⟩
 | (j,.junk) :: r,_,⟨c,H',e,h1,h2⟩=>⟨c,H',e,h1,HR.nilH h2⟩
 | (j,.hrow _ _ _ _ _ _ _) :: r,_,⟨c,H',e,h1,h2⟩=>⟨c,H',e,h1,HR.nilH h2⟩
 | (j,.rjunk) :: r,_,⟨c,H',e,h1,h2⟩=>⟨c,H',e,h1,HR.nilH h2⟩
 | (j,.lrow _ _ _) :: r,_,⟨c,H',e,h1,h2⟩=>⟨c,H',e,h1,HR.nilH h2⟩
 | (j,.mrow _ _ _ _ _ _) :: r,_,⟨c,H',e,h1,h2⟩=>⟨c,H',e,h1,HR.nilH h2⟩
end
theorem Wk.nilC{X:Cx} {n:Nat} {st:ASt} (k p id:Nat) (t:TypeId) (g:GTy) (hid:Nat.blt id n=true):Wk X n st ⟨qb id .dead st.L,(id,.row t g [] none) :: nilH k p id (zM id .dead st.H)⟩:=fun R W Bi M a w ⟨ks,env,B,w0,H,hM,h⟩=>by
 obtain⟨H2,h1,h2⟩:=h.heap.del (z:=.dead) (zC (env:=env) (id:=id) (l:=.row none 0 0)) (fun _ _=>trivial);refine⟨ks,upd env id (.row none 0 0),B,w0,.row none 0 t g.size 0 [] :: H2,hM,h.size,h.defs,fun q u hu=>?_,⟨_,H2,rfl,⟨none,0,[],zf,rfl,rfl,fun _ hq=>by cases hq⟩,HR.nilH zf h2⟩,(h.sh.nilRow t g.size).weak ((h1.append_right _).cons_cons _),h.sub,h.new,pin_upd h.pin (fun q hp=>by have h1:=(h.pin _ _ hp).1; have h2:=zk hid; omega),h.base,h.glob⟩;obtain⟨u0,hu0,rfl⟩:=qF hu;obtain⟨u',h6,h7⟩:=h.has q u0 hu0;exact⟨u',h6,VR.sub (z:=.dead) zC (fun _ _=>trivial) h7⟩
end

theorem nil_lst{env:Nat->Loc} {B:Nat->Prop} {w:World} {g:GTy} {v:Value} (h:SaR env B w (.c (.val (.slice none 0 0))) v):SaR env B w (.c (.lst g [] (some 0))) v:=by
 have e:v=_:=h;subst e;exact⟨none,0,[],rfl,Nat.le_refl _,Nat.zero_le _,fun _ h=>by cases h; rfl,rfl,Reads.nil _ _ _,fun _ _ h=>absurd h (Nat.lt_irrefl 0)⟩
theorem flat_ints{B:Nat->Prop} {w:World} {k:IntKind}:∀ {l:List Int} {vs:List Value},Flat (FR B w (.int k)) l vs->vs=l.map fun z=>Value.int k z
 | [],_,h=>h
 | x :: l,_,⟨v1,v2,e,h1,h2⟩=>by rw[e,show v1=_ from h1,flat_ints h2]; rfl

def ti1:TI:={ desc:=TypeDesc.func #[] #[] false,size:=1,bytes:=8,zero:=Value.nilFunc }
theorem ti1_ok:TI.ok Tryz.prog 1 ti1:=⟨Tryz.underlying1,by kernel_rfl⟩
def ti2:TI:={ desc:=TypeDesc.int IntKind.i64,size:=1,bytes:=8,zero:=Value.int IntKind.i64 0 }
theorem ti2_ok:TI.ok Tryz.prog 2 ti2:=⟨Tryz.underlying2,by kernel_rfl⟩
def ti3:TI:={ desc:=TypeDesc.int IntKind.i64,size:=1,bytes:=8,zero:=Value.int IntKind.i64 0 }
theorem ti3_ok:TI.ok Tryz.prog 3 ti3:=⟨Tryz.underlying3,by kernel_rfl⟩
def ti4:TI:={ desc:=TypeDesc.bool,size:=1,bytes:=1,zero:=Value.bool false }
theorem ti4_ok:TI.ok Tryz.prog 4 ti4:=⟨Tryz.underlying4,by kernel_rfl⟩
def ti5:TI:={ desc:=TypeDesc.int IntKind.u8,size:=1,bytes:=1,zero:=Value.int IntKind.u8 0 }
theorem ti5_ok:TI.ok Tryz.prog 5 ti5:=⟨Tryz.underlying5,by kernel_rfl⟩
def ti6:TI:={ desc:=TypeDesc.int IntKind.u8,size:=1,bytes:=1,zero:=Value.int IntKind.u8 0 }
theorem ti6_ok:TI.ok Tryz.prog 6 ti6:=⟨Tryz.underlying6,by kernel_rfl⟩
def ti9:TI:={ desc:=TypeDesc.string,size:=1,bytes:=16,zero:=Value.string { data:=#[] } }
theorem ti9_ok:TI.ok Tryz.prog 9 ti9:=⟨Tryz.underlying9,by kernel_rfl⟩
def ti10:TI:={ desc:=TypeDesc.string,size:=1,bytes:=16,zero:=Value.string { data:=#[] } }
theorem ti10_ok:TI.ok Tryz.prog 10 ti10:=⟨Tryz.underlying10,by kernel_rfl⟩
def ti11:TI:={ desc:=TypeDesc.string,size:=1,bytes:=16,zero:=Value.string { data:=#[] } }
theorem ti11_ok:TI.ok Tryz.prog 11 ti11:=⟨Tryz.underlying11,by kernel_rfl⟩
def ti12:TI:={ desc:=TypeDesc.int IntKind.u64,size:=1,bytes:=8,zero:=Value.int IntKind.u64 0 }
theorem ti12_ok:TI.ok Tryz.prog 12 ti12:=⟨Tryz.underlying12,by kernel_rfl⟩
def ti15:TI:={ desc:=TypeDesc.pointer 252,size:=1,bytes:=8,zero:=Value.pointer none }
theorem ti15_ok:TI.ok Tryz.prog 15 ti15:=⟨Tryz.underlying15,by kernel_rfl⟩
def ti16:TI:={ desc:=TypeDesc.pointer 255,size:=1,bytes:=8,zero:=Value.pointer none }
theorem ti16_ok:TI.ok Tryz.prog 16 ti16:=⟨Tryz.underlying16,by kernel_rfl⟩
def ti17:TI:={ desc:=TypeDesc.pointer 263,size:=1,bytes:=8,zero:=Value.pointer none }
theorem ti17_ok:TI.ok Tryz.prog 17 ti17:=⟨Tryz.underlying17,by kernel_rfl⟩
def ti20:TI:={ desc:=TypeDesc.interface #[],size:=1,bytes:=16,zero:=Value.nilIface }
theorem ti20_ok:TI.ok Tryz.prog 20 ti20:=⟨Tryz.underlying20,by kernel_rfl⟩
def ti21:TI:={ desc:=TypeDesc.int IntKind.i32,size:=1,bytes:=4,zero:=Value.int IntKind.i32 0 }
theorem ti21_ok:TI.ok Tryz.prog 21 ti21:=⟨Tryz.underlying21,by kernel_rfl⟩
def ti22:TI:={ desc:=TypeDesc.slice 5,size:=1,bytes:=24,zero:=Value.slice none 0 0 }
theorem ti22_ok:TI.ok Tryz.prog 22 ti22:=⟨Tryz.underlying22,by kernel_rfl⟩
def ti23 : TI := { desc := TypeDesc.struct #[{ name := "Width", type := 5, offset := 0, embedded := false, tag := "", pkgPath := "", byteOffset := 0 }, { name := "Height", type := 5, offset := 1, embedded := false, tag := "", pkgPath := "", byteOffset := 1 }, { name := "Stitches", type := 22, offset := 2, embedded := false, tag := "", pkgPath := "", byteOffset := 8 }], size := 3, bytes := 32, zero := Value.agg #[Value.int IntKind.u8 0, Value.int IntKind.u8 0, Value.slice none 0 0] }
theorem ti23_ok:TI.ok Tryz.prog 23 ti23:=⟨Tryz.underlying23,by kernel_rfl⟩
def ti24 : TI := { desc := TypeDesc.struct #[{ name := "Width", type := 5, offset := 0, embedded := false, tag := "", pkgPath := "", byteOffset := 0 }, { name := "Height", type := 5, offset := 1, embedded := false, tag := "", pkgPath := "", byteOffset := 1 }, { name := "Stitches", type := 22, offset := 2, embedded := false, tag := "", pkgPath := "", byteOffset := 8 }], size := 3, bytes := 32, zero := Value.agg #[Value.int IntKind.u8 0, Value.int IntKind.u8 0, Value.slice none 0 0] }
theorem ti24_ok:TI.ok Tryz.prog 24 ti24:=⟨Tryz.underlying24,by kernel_rfl⟩
def ti25:TI:={ desc:=TypeDesc.slice 34,size:=1,bytes:=24,zero:=Value.slice none 0 0 }
theorem ti25_ok:TI.ok Tryz.prog 25 ti25:=⟨Tryz.underlying25,by kernel_rfl⟩
def ti26 : TI := { desc := TypeDesc.struct #[{ name := "Rows", type := 25, offset := 0, embedded := false, tag := "", pkgPath := "", byteOffset := 0 }], size := 1, bytes := 24, zero := Value.agg #[Value.slice none 0 0] }
theorem ti26_ok:TI.ok Tryz.prog 26 ti26:=⟨Tryz.underlying26,by kernel_rfl⟩
def ti27 : TI := { desc := TypeDesc.struct #[{ name := "Rows", type := 25, offset := 0, embedded := false, tag := "", pkgPath := "", byteOffset := 0 }], size := 1, bytes := 24, zero := Value.agg #[Value.slice none 0 0] }
theorem ti27_ok:TI.ok Tryz.prog 27 ti27:=⟨Tryz.underlying27,by kernel_rfl⟩
def ti28:TI:={ desc:=TypeDesc.func #[] #[27] false,size:=1,bytes:=8,zero:=Value.nilFunc }
theorem ti28_ok:TI.ok Tryz.prog 28 ti28:=⟨Tryz.underlying28,by kernel_rfl⟩
def ti29 : TI := { desc := TypeDesc.struct #[{ name := "Yarn", type := 5, offset := 0, embedded := false, tag := "", pkgPath := "", byteOffset := 0 }, { name := "N", type := 3, offset := 1, embedded := false, tag := "", pkgPath := "", byteOffset := 8 }], size := 2, bytes := 16, zero := Value.agg #[Value.int IntKind.u8 0, Value.int IntKind.i64 0] }
theorem ti29_ok:TI.ok Tryz.prog 29 ti29:=⟨Tryz.underlying29,by kernel_rfl⟩
def ti30 : TI := { desc := TypeDesc.struct #[{ name := "Yarn", type := 5, offset := 0, embedded := false, tag := "", pkgPath := "", byteOffset := 0 }, { name := "N", type := 3, offset := 1, embedded := false, tag := "", pkgPath := "", byteOffset := 8 }], size := 2, bytes := 16, zero := Value.agg #[Value.int IntKind.u8 0, Value.int IntKind.i64 0] }
theorem ti30_ok:TI.ok Tryz.prog 30 ti30:=⟨Tryz.underlying30,by kernel_rfl⟩
def ti31:TI:={ desc:=TypeDesc.int IntKind.i64,size:=1,bytes:=8,zero:=Value.int IntKind.i64 0 }
theorem ti31_ok:TI.ok Tryz.prog 31 ti31:=⟨Tryz.underlying31,by kernel_rfl⟩
def ti33:TI:={ desc:=TypeDesc.func #[27,3,3] #[30,31] false,size:=1,bytes:=8,zero:=Value.nilFunc }
theorem ti33_ok:TI.ok Tryz.prog 33 ti33:=⟨Tryz.underlying33,by kernel_rfl⟩
def ti34:TI:={ desc:=TypeDesc.slice 46,size:=1,bytes:=24,zero:=Value.slice none 0 0 }
theorem ti34_ok:TI.ok Tryz.prog 34 ti34:=⟨Tryz.underlying34,by kernel_rfl⟩
def ti35:TI:={ desc:=TypeDesc.func #[] #[4] false,size:=1,bytes:=8,zero:=Value.nilFunc }
theorem ti35_ok:TI.ok Tryz.prog 35 ti35:=⟨Tryz.underlying35,by kernel_rfl⟩
def ti36:TI:={ desc:=TypeDesc.slice 47,size:=1,bytes:=24,zero:=Value.slice none 0 0 }
theorem ti36_ok:TI.ok Tryz.prog 36 ti36:=⟨Tryz.underlying36,by kernel_rfl⟩
def ti37:TI:={ desc:=TypeDesc.slice 47,size:=1,bytes:=24,zero:=Value.slice none 0 0 }
theorem ti37_ok:TI.ok Tryz.prog 37 ti37:=⟨Tryz.underlying37,by kernel_rfl⟩
def ti38:TI:={ desc:=TypeDesc.slice 118,size:=1,bytes:=24,zero:=Value.slice none 0 0 }
theorem ti38_ok:TI.ok Tryz.prog 38 ti38:=⟨Tryz.underlying38,by kernel_rfl⟩
def ti39:TI:={ desc:=TypeDesc.slice 30,size:=1,bytes:=24,zero:=Value.slice none 0 0 }
theorem ti39_ok:TI.ok Tryz.prog 39 ti39:=⟨Tryz.underlying39,by kernel_rfl⟩
def ti40 : TI := { desc := TypeDesc.struct #[{ name := "Yarns", type := 37, offset := 0, embedded := false, tag := "", pkgPath := "", byteOffset := 0 }, { name := "Crossings", type := 38, offset := 1, embedded := false, tag := "", pkgPath := "", byteOffset := 24 }, { name := "Held", type := 39, offset := 2, embedded := false, tag := "", pkgPath := "", byteOffset := 48 }, { name := "Fallen", type := 39, offset := 3, embedded := false, tag := "", pkgPath := "", byteOffset := 72 }], size := 4, bytes := 96, zero := Value.agg #[Value.slice none 0 0, Value.slice none 0 0, Value.slice none 0 0, Value.slice none 0 0] }
theorem ti40_ok:TI.ok Tryz.prog 40 ti40:=⟨Tryz.underlying40,by kernel_rfl⟩
def ti41 : TI := { desc := TypeDesc.struct #[{ name := "Yarns", type := 37, offset := 0, embedded := false, tag := "", pkgPath := "", byteOffset := 0 }, { name := "Crossings", type := 38, offset := 1, embedded := false, tag := "", pkgPath := "", byteOffset := 24 }, { name := "Held", type := 39, offset := 2, embedded := false, tag := "", pkgPath := "", byteOffset := 48 }, { name := "Fallen", type := 39, offset := 3, embedded := false, tag := "", pkgPath := "", byteOffset := 72 }], size := 4, bytes := 96, zero := Value.agg #[Value.slice none 0 0, Value.slice none 0 0, Value.slice none 0 0, Value.slice none 0 0] }
theorem ti41_ok:TI.ok Tryz.prog 41 ti41:=⟨Tryz.underlying41,by kernel_rfl⟩
def ti43:TI:={ desc:=TypeDesc.func #[27] #[41,31] false,size:=1,bytes:=8,zero:=Value.nilFunc }
theorem ti43_ok:TI.ok Tryz.prog 43 ti43:=⟨Tryz.underlying43,by kernel_rfl⟩
def ti44:TI:={ desc:=TypeDesc.int IntKind.u8,size:=1,bytes:=1,zero:=Value.int IntKind.u8 0 }
theorem ti44_ok:TI.ok Tryz.prog 44 ti44:=⟨Tryz.underlying44,by kernel_rfl⟩
def ti45 : TI := { desc := TypeDesc.struct #[{ name := "Kind", type := 44, offset := 0, embedded := false, tag := "", pkgPath := "", byteOffset := 0 }, { name := "Yarn", type := 5, offset := 1, embedded := false, tag := "", pkgPath := "", byteOffset := 1 }, { name := "A", type := 3, offset := 2, embedded := false, tag := "", pkgPath := "", byteOffset := 8 }, { name := "B", type := 3, offset := 3, embedded := false, tag := "", pkgPath := "", byteOffset := 16 }, { name := "Front", type := 4, offset := 4, embedded := false, tag := "", pkgPath := "", byteOffset := 24 }], size := 5, bytes := 32, zero := Value.agg #[Value.int IntKind.u8 0, Value.int IntKind.u8 0, Value.int IntKind.i64 0, Value.int IntKind.i64 0, Value.bool false] }
theorem ti45_ok:TI.ok Tryz.prog 45 ti45:=⟨Tryz.underlying45,by kernel_rfl⟩
def ti46 : TI := { desc := TypeDesc.struct #[{ name := "Kind", type := 44, offset := 0, embedded := false, tag := "", pkgPath := "", byteOffset := 0 }, { name := "Yarn", type := 5, offset := 1, embedded := false, tag := "", pkgPath := "", byteOffset := 1 }, { name := "A", type := 3, offset := 2, embedded := false, tag := "", pkgPath := "", byteOffset := 8 }, { name := "B", type := 3, offset := 3, embedded := false, tag := "", pkgPath := "", byteOffset := 16 }, { name := "Front", type := 4, offset := 4, embedded := false, tag := "", pkgPath := "", byteOffset := 24 }], size := 5, bytes := 32, zero := Value.agg #[Value.int IntKind.u8 0, Value.int IntKind.u8 0, Value.int IntKind.i64 0, Value.int IntKind.i64 0, Value.bool false] }
theorem ti46_ok:TI.ok Tryz.prog 46 ti46:=⟨Tryz.underlying46,by kernel_rfl⟩
def ti47:TI:={ desc:=TypeDesc.slice 51,size:=1,bytes:=24,zero:=Value.slice none 0 0 }
theorem ti47_ok:TI.ok Tryz.prog 47 ti47:=⟨Tryz.underlying47,by kernel_rfl⟩
def ti48:TI:={ desc:=TypeDesc.int IntKind.u8,size:=1,bytes:=1,zero:=Value.int IntKind.u8 0 }
theorem ti48_ok:TI.ok Tryz.prog 48 ti48:=⟨Tryz.underlying48,by kernel_rfl⟩
def ti49:TI:={ desc:=TypeDesc.slice 123,size:=1,bytes:=24,zero:=Value.slice none 0 0 }
theorem ti49_ok:TI.ok Tryz.prog 49 ti49:=⟨Tryz.underlying49,by kernel_rfl⟩
def ti50 : TI := { desc := TypeDesc.struct #[{ name := "Bed", type := 48, offset := 0, embedded := false, tag := "", pkgPath := "", byteOffset := 0 }, { name := "New", type := 4, offset := 1, embedded := false, tag := "", pkgPath := "", byteOffset := 1 }, { name := "Through", type := 39, offset := 2, embedded := false, tag := "", pkgPath := "", byteOffset := 8 }, { name := "Past", type := 49, offset := 3, embedded := false, tag := "", pkgPath := "", byteOffset := 32 }], size := 4, bytes := 56, zero := Value.agg #[Value.int IntKind.u8 0, Value.bool false, Value.slice none 0 0, Value.slice none 0 0] }
theorem ti50_ok:TI.ok Tryz.prog 50 ti50:=⟨Tryz.underlying50,by kernel_rfl⟩
def ti51 : TI := { desc := TypeDesc.struct #[{ name := "Bed", type := 48, offset := 0, embedded := false, tag := "", pkgPath := "", byteOffset := 0 }, { name := "New", type := 4, offset := 1, embedded := false, tag := "", pkgPath := "", byteOffset := 1 }, { name := "Through", type := 39, offset := 2, embedded := false, tag := "", pkgPath := "", byteOffset := 8 }, { name := "Past", type := 49, offset := 3, embedded := false, tag := "", pkgPath := "", byteOffset := 32 }], size := 4, bytes := 56, zero := Value.agg #[Value.int IntKind.u8 0, Value.bool false, Value.slice none 0 0, Value.slice none 0 0] }
theorem ti51_ok:TI.ok Tryz.prog 51 ti51:=⟨Tryz.underlying51,by kernel_rfl⟩
def ti52:TI:={ desc:=TypeDesc.func #[34] #[5] false,size:=1,bytes:=8,zero:=Value.nilFunc }
theorem ti52_ok:TI.ok Tryz.prog 52 ti52:=⟨Tryz.underlying52,by kernel_rfl⟩
def ti53:TI:={ desc:=TypeDesc.func #[24,3,3] #[4] false,size:=1,bytes:=8,zero:=Value.nilFunc }
theorem ti53_ok:TI.ok Tryz.prog 53 ti53:=⟨Tryz.underlying53,by kernel_rfl⟩
def ti54:TI:={ desc:=TypeDesc.func #[27] #[31] false,size:=1,bytes:=8,zero:=Value.nilFunc }
theorem ti54_ok:TI.ok Tryz.prog 54 ti54:=⟨Tryz.underlying54,by kernel_rfl⟩
def ti55:TI:={ desc:=TypeDesc.func #[27] #[4] false,size:=1,bytes:=8,zero:=Value.nilFunc }
theorem ti55_ok:TI.ok Tryz.prog 55 ti55:=⟨Tryz.underlying55,by kernel_rfl⟩
def ti56:TI:={ desc:=TypeDesc.func #[27] #[9] false,size:=1,bytes:=8,zero:=Value.nilFunc }
theorem ti56_ok:TI.ok Tryz.prog 56 ti56:=⟨Tryz.underlying56,by kernel_rfl⟩
def ti57:TI:={ desc:=TypeDesc.slice 22,size:=1,bytes:=24,zero:=Value.slice none 0 0 }
theorem ti57_ok:TI.ok Tryz.prog 57 ti57:=⟨Tryz.underlying57,by kernel_rfl⟩
def ti58:TI:={ desc:=TypeDesc.func #[27] #[57] false,size:=1,bytes:=8,zero:=Value.nilFunc }
theorem ti58_ok:TI.ok Tryz.prog 58 ti58:=⟨Tryz.underlying58,by kernel_rfl⟩
def ti60:TI:={ desc:=TypeDesc.func #[41] #[27,31] false,size:=1,bytes:=8,zero:=Value.nilFunc }
theorem ti60_ok:TI.ok Tryz.prog 60 ti60:=⟨Tryz.underlying60,by kernel_rfl⟩
def ti61:TI:={ desc:=TypeDesc.func #[41] #[31] false,size:=1,bytes:=8,zero:=Value.nilFunc }
theorem ti61_ok:TI.ok Tryz.prog 61 ti61:=⟨Tryz.underlying61,by kernel_rfl⟩
def ti62:TI:={ desc:=TypeDesc.func #[41] #[4] false,size:=1,bytes:=8,zero:=Value.nilFunc }
theorem ti62_ok:TI.ok Tryz.prog 62 ti62:=⟨Tryz.underlying62,by kernel_rfl⟩
def ti63:TI:={ desc:=TypeDesc.func #[27,41] #[4] false,size:=1,bytes:=8,zero:=Value.nilFunc }
theorem ti63_ok:TI.ok Tryz.prog 63 ti63:=⟨Tryz.underlying63,by kernel_rfl⟩
def ti64:TI:={ desc:=TypeDesc.slice 65,size:=1,bytes:=24,zero:=Value.slice none 0 0 }
theorem ti64_ok:TI.ok Tryz.prog 64 ti64:=⟨Tryz.underlying64,by kernel_rfl⟩
def ti65:TI:={ desc:=TypeDesc.array 2 5,size:=2,bytes:=2,zero:=Value.agg #[Value.int IntKind.u8 0,Value.int IntKind.u8 0] }
theorem ti65_ok:TI.ok Tryz.prog 65 ti65:=⟨Tryz.underlying65,by kernel_rfl⟩
def ti67:TI:={ desc:=TypeDesc.func #[27,27] #[4] false,size:=1,bytes:=8,zero:=Value.nilFunc }
theorem ti67_ok:TI.ok Tryz.prog 67 ti67:=⟨Tryz.underlying67,by kernel_rfl⟩
def ti70:TI:={ desc:=TypeDesc.slice 121,size:=1,bytes:=24,zero:=Value.slice none 0 0 }
theorem ti70_ok:TI.ok Tryz.prog 70 ti70:=⟨Tryz.underlying70,by kernel_rfl⟩
def ti71:TI:={ desc:=TypeDesc.slice 112,size:=1,bytes:=24,zero:=Value.slice none 0 0 }
theorem ti71_ok:TI.ok Tryz.prog 71 ti71:=⟨Tryz.underlying71,by kernel_rfl⟩
def ti72:TI:={ desc:=TypeDesc.int IntKind.u8,size:=1,bytes:=1,zero:=Value.int IntKind.u8 0 }
theorem ti72_ok:TI.ok Tryz.prog 72 ti72:=⟨Tryz.underlying72,by kernel_rfl⟩
def ti73 : TI := { desc := TypeDesc.struct #[{ name := "Slots", type := 70, offset := 0, embedded := false, tag := "", pkgPath := "", byteOffset := 0 }, { name := "Yarns", type := 71, offset := 1, embedded := false, tag := "", pkgPath := "", byteOffset := 24 }, { name := "Fabric", type := 41, offset := 2, embedded := false, tag := "", pkgPath := "", byteOffset := 48 }, { name := "Dir", type := 72, offset := 6, embedded := false, tag := "", pkgPath := "", byteOffset := 144 }], size := 7, bytes := 152, zero := Value.agg #[Value.slice none 0 0, Value.slice none 0 0, Value.slice none 0 0, Value.slice none 0 0, Value.slice none 0 0, Value.slice none 0 0, Value.int IntKind.u8 0] }
theorem ti73_ok:TI.ok Tryz.prog 73 ti73:=⟨Tryz.underlying73,by kernel_rfl⟩
def ti74 : TI := { desc := TypeDesc.struct #[{ name := "Slots", type := 70, offset := 0, embedded := false, tag := "", pkgPath := "", byteOffset := 0 }, { name := "Yarns", type := 71, offset := 1, embedded := false, tag := "", pkgPath := "", byteOffset := 24 }, { name := "Fabric", type := 41, offset := 2, embedded := false, tag := "", pkgPath := "", byteOffset := 48 }, { name := "Dir", type := 72, offset := 6, embedded := false, tag := "", pkgPath := "", byteOffset := 144 }], size := 7, bytes := 152, zero := Value.agg #[Value.slice none 0 0, Value.slice none 0 0, Value.slice none 0 0, Value.slice none 0 0, Value.slice none 0 0, Value.slice none 0 0, Value.int IntKind.u8 0] }
theorem ti74_ok:TI.ok Tryz.prog 74 ti74:=⟨Tryz.underlying74,by kernel_rfl⟩
def ti76:TI:={ desc:=TypeDesc.func #[27,3] #[74,31] false,size:=1,bytes:=8,zero:=Value.nilFunc }
theorem ti76_ok:TI.ok Tryz.prog 76 ti76:=⟨Tryz.underlying76,by kernel_rfl⟩
def ti77:TI:={ desc:=TypeDesc.func #[74,5] #[41,31] false,size:=1,bytes:=8,zero:=Value.nilFunc }
theorem ti77_ok:TI.ok Tryz.prog 77 ti77:=⟨Tryz.underlying77,by kernel_rfl⟩
def ti78:TI:={ desc:=TypeDesc.slice 132,size:=1,bytes:=24,zero:=Value.slice none 0 0 }
theorem ti78_ok:TI.ok Tryz.prog 78 ti78:=⟨Tryz.underlying78,by kernel_rfl⟩
def ti80:TI:={ desc:=TypeDesc.func #[27] #[78,31] false,size:=1,bytes:=8,zero:=Value.nilFunc }
theorem ti80_ok:TI.ok Tryz.prog 80 ti80:=⟨Tryz.underlying80,by kernel_rfl⟩
def ti81:TI:={ desc:=TypeDesc.pointer 83,size:=1,bytes:=8,zero:=Value.pointer none }
theorem ti81_ok:TI.ok Tryz.prog 81 ti81:=⟨Tryz.underlying81,by kernel_rfl⟩
def ti82 : TI := { desc := TypeDesc.struct #[{ name := "addr", type := 81, offset := 0, embedded := false, tag := "", pkgPath := "strings", byteOffset := 0 }, { name := "buf", type := 22, offset := 1, embedded := false, tag := "", pkgPath := "strings", byteOffset := 8 }], size := 2, bytes := 32, zero := Value.agg #[Value.pointer none, Value.slice none 0 0] }
theorem ti82_ok:TI.ok Tryz.prog 82 ti82:=⟨Tryz.underlying82,by kernel_rfl⟩
def ti83 : TI := { desc := TypeDesc.struct #[{ name := "addr", type := 81, offset := 0, embedded := false, tag := "", pkgPath := "strings", byteOffset := 0 }, { name := "buf", type := 22, offset := 1, embedded := false, tag := "", pkgPath := "strings", byteOffset := 8 }], size := 2, bytes := 32, zero := Value.agg #[Value.pointer none, Value.slice none 0 0] }
theorem ti83_ok:TI.ok Tryz.prog 83 ti83:=⟨Tryz.underlying83,by kernel_rfl⟩
def ti84:TI:={ desc:=TypeDesc.func #[135] #[] false,size:=1,bytes:=8,zero:=Value.nilFunc }
theorem ti84_ok:TI.ok Tryz.prog 84 ti84:=⟨Tryz.underlying84,by kernel_rfl⟩
def ti85:TI:={ desc:=TypeDesc.func #[135] #[] false,size:=1,bytes:=8,zero:=Value.nilFunc }
theorem ti85_ok:TI.ok Tryz.prog 85 ti85:=⟨Tryz.underlying85,by kernel_rfl⟩
def ti86:TI:={ desc:=TypeDesc.func #[25] #[85] false,size:=1,bytes:=8,zero:=Value.nilFunc }
theorem ti86_ok:TI.ok Tryz.prog 86 ti86:=⟨Tryz.underlying86,by kernel_rfl⟩
def ti87 : TI := { desc := TypeDesc.interface #[("Error", 90)], size := 1, bytes := 16, zero := Value.nilIface }
theorem ti87_ok:TI.ok Tryz.prog 87 ti87:=⟨Tryz.underlying87,by kernel_rfl⟩
def ti88 : TI := { desc := TypeDesc.interface #[("Error", 90)], size := 1, bytes := 16, zero := Value.nilIface }
theorem ti88_ok:TI.ok Tryz.prog 88 ti88:=⟨Tryz.underlying88,by kernel_rfl⟩
def ti89:TI:={ desc:=TypeDesc.func #[5] #[88] false,size:=1,bytes:=8,zero:=Value.nilFunc }
theorem ti89_ok:TI.ok Tryz.prog 89 ti89:=⟨Tryz.underlying89,by kernel_rfl⟩
def ti90:TI:={ desc:=TypeDesc.func #[] #[9] false,size:=1,bytes:=8,zero:=Value.nilFunc }
theorem ti90_ok:TI.ok Tryz.prog 90 ti90:=⟨Tryz.underlying90,by kernel_rfl⟩
def ti91:TI:={ desc:=TypeDesc.func #[27,92] #[57] false,size:=1,bytes:=8,zero:=Value.nilFunc }
theorem ti91_ok:TI.ok Tryz.prog 91 ti91:=⟨Tryz.underlying91,by kernel_rfl⟩
def ti92:TI:={ desc:=TypeDesc.func #[46] #[5] false,size:=1,bytes:=8,zero:=Value.nilFunc }
theorem ti92_ok:TI.ok Tryz.prog 92 ti92:=⟨Tryz.underlying92,by kernel_rfl⟩
def ti93:TI:={ desc:=TypeDesc.func #[137] #[] false,size:=1,bytes:=8,zero:=Value.nilFunc }
theorem ti93_ok:TI.ok Tryz.prog 93 ti93:=⟨Tryz.underlying93,by kernel_rfl⟩
def ti94:TI:={ desc:=TypeDesc.func #[137] #[] false,size:=1,bytes:=8,zero:=Value.nilFunc }
theorem ti94_ok:TI.ok Tryz.prog 94 ti94:=⟨Tryz.underlying94,by kernel_rfl⟩
def ti95:TI:={ desc:=TypeDesc.func #[41,39] #[94] false,size:=1,bytes:=8,zero:=Value.nilFunc }
theorem ti95_ok:TI.ok Tryz.prog 95 ti95:=⟨Tryz.underlying95,by kernel_rfl⟩
def ti96:TI:={ desc:=TypeDesc.func #[41] #[39] false,size:=1,bytes:=8,zero:=Value.nilFunc }
theorem ti96_ok:TI.ok Tryz.prog 96 ti96:=⟨Tryz.underlying96,by kernel_rfl⟩
def ti97:TI:={ desc:=TypeDesc.func #[25] #[] false,size:=1,bytes:=8,zero:=Value.nilFunc }
theorem ti97_ok:TI.ok Tryz.prog 97 ti97:=⟨Tryz.underlying97,by kernel_rfl⟩
def ti98:TI:={ desc:=TypeDesc.func #[25] #[25] false,size:=1,bytes:=8,zero:=Value.nilFunc }
theorem ti98_ok:TI.ok Tryz.prog 98 ti98:=⟨Tryz.underlying98,by kernel_rfl⟩
def ti99:TI:={ desc:=TypeDesc.func #[41,41] #[4] false,size:=1,bytes:=8,zero:=Value.nilFunc }
theorem ti99_ok:TI.ok Tryz.prog 99 ti99:=⟨Tryz.underlying99,by kernel_rfl⟩
def ti100:TI:={ desc:=TypeDesc.func #[37] #[31] false,size:=1,bytes:=8,zero:=Value.nilFunc }
theorem ti100_ok:TI.ok Tryz.prog 100 ti100:=⟨Tryz.underlying100,by kernel_rfl⟩
def ti101:TI:={ desc:=TypeDesc.func #[34,102] #[3] false,size:=1,bytes:=8,zero:=Value.nilFunc }
theorem ti101_ok:TI.ok Tryz.prog 101 ti101:=⟨Tryz.underlying101,by kernel_rfl⟩
def ti102:TI:={ desc:=TypeDesc.func #[46] #[3] false,size:=1,bytes:=8,zero:=Value.nilFunc }
theorem ti102_ok:TI.ok Tryz.prog 102 ti102:=⟨Tryz.underlying102,by kernel_rfl⟩
def ti103:TI:={ desc:=TypeDesc.func #[25,25,106] #[4] false,size:=1,bytes:=8,zero:=Value.nilFunc }
theorem ti103_ok:TI.ok Tryz.prog 103 ti103:=⟨Tryz.underlying103,by kernel_rfl⟩
def ti104:TI:={ desc:=TypeDesc.func #[34,34,105] #[4] false,size:=1,bytes:=8,zero:=Value.nilFunc }
theorem ti104_ok:TI.ok Tryz.prog 104 ti104:=⟨Tryz.underlying104,by kernel_rfl⟩
def ti105:TI:={ desc:=TypeDesc.func #[46,46] #[4] false,size:=1,bytes:=8,zero:=Value.nilFunc }
theorem ti105_ok:TI.ok Tryz.prog 105 ti105:=⟨Tryz.underlying105,by kernel_rfl⟩
def ti106:TI:={ desc:=TypeDesc.func #[34,34] #[4] false,size:=1,bytes:=8,zero:=Value.nilFunc }
theorem ti106_ok:TI.ok Tryz.prog 106 ti106:=⟨Tryz.underlying106,by kernel_rfl⟩
def ti107:TI:={ desc:=TypeDesc.func #[5,3] #[74,31] false,size:=1,bytes:=8,zero:=Value.nilFunc }
theorem ti107_ok:TI.ok Tryz.prog 107 ti107:=⟨Tryz.underlying107,by kernel_rfl⟩
def ti109:TI:={ desc:=TypeDesc.func #[74,25] #[74,3,31] false,size:=1,bytes:=8,zero:=Value.nilFunc }
theorem ti109_ok:TI.ok Tryz.prog 109 ti109:=⟨Tryz.underlying109,by kernel_rfl⟩
def ti110:TI:={ desc:=TypeDesc.func #[74] #[31] false,size:=1,bytes:=8,zero:=Value.nilFunc }
theorem ti110_ok:TI.ok Tryz.prog 110 ti110:=⟨Tryz.underlying110,by kernel_rfl⟩
def ti111 : TI := { desc := TypeDesc.struct #[{ name := "In", type := 4, offset := 0, embedded := false, tag := "", pkgPath := "", byteOffset := 0 }, { name := "Place", type := 3, offset := 1, embedded := false, tag := "", pkgPath := "", byteOffset := 8 }, { name := "Count", type := 3, offset := 2, embedded := false, tag := "", pkgPath := "", byteOffset := 16 }, { name := "New", type := 4, offset := 3, embedded := false, tag := "", pkgPath := "", byteOffset := 24 }, { name := "Pending", type := 49, offset := 4, embedded := false, tag := "", pkgPath := "", byteOffset := 32 }], size := 5, bytes := 56, zero := Value.agg #[Value.bool false, Value.int IntKind.i64 0, Value.int IntKind.i64 0, Value.bool false, Value.slice none 0 0] }
theorem ti111_ok:TI.ok Tryz.prog 111 ti111:=⟨Tryz.underlying111,by kernel_rfl⟩
def ti112 : TI := { desc := TypeDesc.struct #[{ name := "In", type := 4, offset := 0, embedded := false, tag := "", pkgPath := "", byteOffset := 0 }, { name := "Place", type := 3, offset := 1, embedded := false, tag := "", pkgPath := "", byteOffset := 8 }, { name := "Count", type := 3, offset := 2, embedded := false, tag := "", pkgPath := "", byteOffset := 16 }, { name := "New", type := 4, offset := 3, embedded := false, tag := "", pkgPath := "", byteOffset := 24 }, { name := "Pending", type := 49, offset := 4, embedded := false, tag := "", pkgPath := "", byteOffset := 32 }], size := 5, bytes := 56, zero := Value.agg #[Value.bool false, Value.int IntKind.i64 0, Value.int IntKind.i64 0, Value.bool false, Value.slice none 0 0] }
theorem ti112_ok:TI.ok Tryz.prog 112 ti112:=⟨Tryz.underlying112,by kernel_rfl⟩
def ti113:TI:={ desc:=TypeDesc.func #[37] #[3] false,size:=1,bytes:=8,zero:=Value.nilFunc }
theorem ti113_ok:TI.ok Tryz.prog 113 ti113:=⟨Tryz.underlying113,by kernel_rfl⟩
def ti114:TI:={ desc:=TypeDesc.func #[39,30] #[39] false,size:=1,bytes:=8,zero:=Value.nilFunc }
theorem ti114_ok:TI.ok Tryz.prog 114 ti114:=⟨Tryz.underlying114,by kernel_rfl⟩
def ti115:TI:={ desc:=TypeDesc.func #[39] #[39] false,size:=1,bytes:=8,zero:=Value.nilFunc }
theorem ti115_ok:TI.ok Tryz.prog 115 ti115:=⟨Tryz.underlying115,by kernel_rfl⟩
def ti116:TI:={ desc:=TypeDesc.func #[38] #[38] false,size:=1,bytes:=8,zero:=Value.nilFunc }
theorem ti116_ok:TI.ok Tryz.prog 116 ti116:=⟨Tryz.underlying116,by kernel_rfl⟩
def ti117 : TI := { desc := TypeDesc.struct #[{ name := "A", type := 30, offset := 0, embedded := false, tag := "", pkgPath := "", byteOffset := 0 }, { name := "B", type := 30, offset := 2, embedded := false, tag := "", pkgPath := "", byteOffset := 16 }, { name := "N", type := 3, offset := 4, embedded := false, tag := "", pkgPath := "", byteOffset := 32 }], size := 5, bytes := 40, zero := Value.agg #[Value.int IntKind.u8 0, Value.int IntKind.i64 0, Value.int IntKind.u8 0, Value.int IntKind.i64 0, Value.int IntKind.i64 0] }
theorem ti117_ok:TI.ok Tryz.prog 117 ti117:=⟨Tryz.underlying117,by kernel_rfl⟩
def ti118 : TI := { desc := TypeDesc.struct #[{ name := "A", type := 30, offset := 0, embedded := false, tag := "", pkgPath := "", byteOffset := 0 }, { name := "B", type := 30, offset := 2, embedded := false, tag := "", pkgPath := "", byteOffset := 16 }, { name := "N", type := 3, offset := 4, embedded := false, tag := "", pkgPath := "", byteOffset := 32 }], size := 5, bytes := 40, zero := Value.agg #[Value.int IntKind.u8 0, Value.int IntKind.i64 0, Value.int IntKind.u8 0, Value.int IntKind.i64 0, Value.int IntKind.i64 0] }
theorem ti118_ok:TI.ok Tryz.prog 118 ti118:=⟨Tryz.underlying118,by kernel_rfl⟩
def ti119:TI:={ desc:=TypeDesc.func #[37,5,3] #[37] false,size:=1,bytes:=8,zero:=Value.nilFunc }
theorem ti119_ok:TI.ok Tryz.prog 119 ti119:=⟨Tryz.underlying119,by kernel_rfl⟩
def ti120 : TI := { desc := TypeDesc.struct #[{ name := "Bed", type := 48, offset := 0, embedded := false, tag := "", pkgPath := "", byteOffset := 0 }, { name := "Loops", type := 39, offset := 1, embedded := false, tag := "", pkgPath := "", byteOffset := 8 }], size := 2, bytes := 32, zero := Value.agg #[Value.int IntKind.u8 0, Value.slice none 0 0] }
theorem ti120_ok:TI.ok Tryz.prog 120 ti120:=⟨Tryz.underlying120,by kernel_rfl⟩
def ti121 : TI := { desc := TypeDesc.struct #[{ name := "Bed", type := 48, offset := 0, embedded := false, tag := "", pkgPath := "", byteOffset := 0 }, { name := "Loops", type := 39, offset := 1, embedded := false, tag := "", pkgPath := "", byteOffset := 8 }], size := 2, bytes := 32, zero := Value.agg #[Value.int IntKind.u8 0, Value.slice none 0 0] }
theorem ti121_ok:TI.ok Tryz.prog 121 ti121:=⟨Tryz.underlying121,by kernel_rfl⟩
def ti122 : TI := { desc := TypeDesc.struct #[{ name := "Id", type := 30, offset := 0, embedded := false, tag := "", pkgPath := "", byteOffset := 0 }, { name := "Front", type := 4, offset := 2, embedded := false, tag := "", pkgPath := "", byteOffset := 16 }, { name := "Dir", type := 72, offset := 3, embedded := false, tag := "", pkgPath := "", byteOffset := 17 }], size := 4, bytes := 24, zero := Value.agg #[Value.int IntKind.u8 0, Value.int IntKind.i64 0, Value.bool false, Value.int IntKind.u8 0] }
theorem ti122_ok:TI.ok Tryz.prog 122 ti122:=⟨Tryz.underlying122,by kernel_rfl⟩
def ti123 : TI := { desc := TypeDesc.struct #[{ name := "Id", type := 30, offset := 0, embedded := false, tag := "", pkgPath := "", byteOffset := 0 }, { name := "Front", type := 4, offset := 2, embedded := false, tag := "", pkgPath := "", byteOffset := 16 }, { name := "Dir", type := 72, offset := 3, embedded := false, tag := "", pkgPath := "", byteOffset := 17 }], size := 4, bytes := 24, zero := Value.agg #[Value.int IntKind.u8 0, Value.int IntKind.i64 0, Value.bool false, Value.int IntKind.u8 0] }
theorem ti123_ok:TI.ok Tryz.prog 123 ti123:=⟨Tryz.underlying123,by kernel_rfl⟩
def ti125:TI:={ desc:=TypeDesc.func #[112,3,49] #[112,31] false,size:=1,bytes:=8,zero:=Value.nilFunc }
theorem ti125_ok:TI.ok Tryz.prog 125 ti125:=⟨Tryz.underlying125,by kernel_rfl⟩
def ti127 : TI := { desc := TypeDesc.struct #[{ name := "N", type := 3, offset := 0, embedded := false, tag := "", pkgPath := "", byteOffset := 0 }, { name := "New", type := 4, offset := 1, embedded := false, tag := "", pkgPath := "", byteOffset := 8 }, { name := "Past", type := 49, offset := 2, embedded := false, tag := "", pkgPath := "", byteOffset := 16 }], size := 3, bytes := 40, zero := Value.agg #[Value.int IntKind.i64 0, Value.bool false, Value.slice none 0 0] }
theorem ti127_ok:TI.ok Tryz.prog 127 ti127:=⟨Tryz.underlying127,by kernel_rfl⟩
def ti129:TI:={ desc:=TypeDesc.func #[112] #[112,127,31] false,size:=1,bytes:=8,zero:=Value.nilFunc }
theorem ti129_ok:TI.ok Tryz.prog 129 ti129:=⟨Tryz.underlying129,by kernel_rfl⟩
def ti130:TI:={ desc:=TypeDesc.func #[49] #[49] false,size:=1,bytes:=8,zero:=Value.nilFunc }
theorem ti130_ok:TI.ok Tryz.prog 130 ti130:=⟨Tryz.underlying130,by kernel_rfl⟩
def ti131:TI:={ desc:=TypeDesc.func #[25] #[31] false,size:=1,bytes:=8,zero:=Value.nilFunc }
theorem ti131_ok:TI.ok Tryz.prog 131 ti131:=⟨Tryz.underlying131,by kernel_rfl⟩
def ti132:TI:={ desc:=TypeDesc.slice 3,size:=1,bytes:=24,zero:=Value.slice none 0 0 }
theorem ti132_ok:TI.ok Tryz.prog 132 ti132:=⟨Tryz.underlying132,by kernel_rfl⟩
def ti134:TI:={ desc:=TypeDesc.func #[46,132] #[132,31] false,size:=1,bytes:=8,zero:=Value.nilFunc }
theorem ti134_ok:TI.ok Tryz.prog 134 ti134:=⟨Tryz.underlying134,by kernel_rfl⟩
def ti135:TI:={ desc:=TypeDesc.func #[3,34] #[4] false,size:=1,bytes:=8,zero:=Value.nilFunc }
theorem ti135_ok:TI.ok Tryz.prog 135 ti135:=⟨Tryz.underlying135,by kernel_rfl⟩
def ti136:TI:={ desc:=TypeDesc.pointer 5,size:=1,bytes:=8,zero:=Value.pointer none }
theorem ti136_ok:TI.ok Tryz.prog 136 ti136:=⟨Tryz.underlying136,by kernel_rfl⟩
def ti137:TI:={ desc:=TypeDesc.func #[34] #[4] false,size:=1,bytes:=8,zero:=Value.nilFunc }
theorem ti137_ok:TI.ok Tryz.prog 137 ti137:=⟨Tryz.underlying137,by kernel_rfl⟩
def ti139:TI:={ desc:=TypeDesc.func #[37,30] #[51,31] false,size:=1,bytes:=8,zero:=Value.nilFunc }
theorem ti139_ok:TI.ok Tryz.prog 139 ti139:=⟨Tryz.underlying139,by kernel_rfl⟩
def ti140:TI:={ desc:=TypeDesc.func #[39] #[] false,size:=1,bytes:=8,zero:=Value.nilFunc }
theorem ti140_ok:TI.ok Tryz.prog 140 ti140:=⟨Tryz.underlying140,by kernel_rfl⟩
def ti141:TI:={ desc:=TypeDesc.func #[39,39] #[4] false,size:=1,bytes:=8,zero:=Value.nilFunc }
theorem ti141_ok:TI.ok Tryz.prog 141 ti141:=⟨Tryz.underlying141,by kernel_rfl⟩
def ti142:TI:={ desc:=TypeDesc.func #[49,49] #[4] false,size:=1,bytes:=8,zero:=Value.nilFunc }
theorem ti142_ok:TI.ok Tryz.prog 142 ti142:=⟨Tryz.underlying142,by kernel_rfl⟩
def ti143:TI:={ desc:=TypeDesc.func #[51,51] #[4] false,size:=1,bytes:=8,zero:=Value.nilFunc }
theorem ti143_ok:TI.ok Tryz.prog 143 ti143:=⟨Tryz.underlying143,by kernel_rfl⟩
def ti151:TI:={ desc:=TypeDesc.func #[30,30] #[3] false,size:=1,bytes:=8,zero:=Value.nilFunc }
theorem ti151_ok:TI.ok Tryz.prog 151 ti151:=⟨Tryz.underlying151,by kernel_rfl⟩
def ti152:TI:={ desc:=TypeDesc.func #[118,118] #[3] false,size:=1,bytes:=8,zero:=Value.nilFunc }
theorem ti152_ok:TI.ok Tryz.prog 152 ti152:=⟨Tryz.underlying152,by kernel_rfl⟩
def ti153:TI:={ desc:=TypeDesc.array 2 39,size:=2,bytes:=48,zero:=Value.agg #[Value.slice none 0 0,Value.slice none 0 0] }
theorem ti153_ok:TI.ok Tryz.prog 153 ti153:=⟨Tryz.underlying153,by kernel_rfl⟩
def ti154:TI:={ desc:=TypeDesc.map 30 3,size:=1,bytes:=8,zero:=Value.map none }
theorem ti154_ok:TI.ok Tryz.prog 154 ti154:=⟨Tryz.underlying154,by kernel_rfl⟩
def ti155:TI:={ desc:=TypeDesc.func #[46] #[31] false,size:=1,bytes:=8,zero:=Value.nilFunc }
theorem ti155_ok:TI.ok Tryz.prog 155 ti155:=⟨Tryz.underlying155,by kernel_rfl⟩
def ti156:TI:={ desc:=TypeDesc.func #[] #[41] false,size:=1,bytes:=8,zero:=Value.nilFunc }
theorem ti156_ok:TI.ok Tryz.prog 156 ti156:=⟨Tryz.underlying156,by kernel_rfl⟩
def ti157:TI:={ desc:=TypeDesc.pointer 160,size:=1,bytes:=8,zero:=Value.pointer none }
theorem ti157_ok:TI.ok Tryz.prog 157 ti157:=⟨Tryz.underlying157,by kernel_rfl⟩
def ti158:TI:={ desc:=TypeDesc.slice 70,size:=1,bytes:=24,zero:=Value.slice none 0 0 }
theorem ti158_ok:TI.ok Tryz.prog 158 ti158:=⟨Tryz.underlying158,by kernel_rfl⟩
def ti159 : TI := { desc := TypeDesc.struct #[{ name := "row", type := 34, offset := 0, embedded := false, tag := "", pkgPath := "gansey/rows", byteOffset := 0 }, { name := "slots", type := 158, offset := 1, embedded := false, tag := "", pkgPath := "gansey/rows", byteOffset := 24 }, { name := "yarns", type := 71, offset := 2, embedded := false, tag := "", pkgPath := "gansey/rows", byteOffset := 48 }, { name := "table", type := 37, offset := 3, embedded := false, tag := "", pkgPath := "gansey/rows", byteOffset := 72 }, { name := "dir", type := 72, offset := 4, embedded := false, tag := "", pkgPath := "gansey/rows", byteOffset := 96 }], size := 5, bytes := 104, zero := Value.agg #[Value.slice none 0 0, Value.slice none 0 0, Value.slice none 0 0, Value.slice none 0 0, Value.int IntKind.u8 0] }
theorem ti159_ok:TI.ok Tryz.prog 159 ti159:=⟨Tryz.underlying159,by kernel_rfl⟩
def ti160 : TI := { desc := TypeDesc.struct #[{ name := "row", type := 34, offset := 0, embedded := false, tag := "", pkgPath := "gansey/rows", byteOffset := 0 }, { name := "slots", type := 158, offset := 1, embedded := false, tag := "", pkgPath := "gansey/rows", byteOffset := 24 }, { name := "yarns", type := 71, offset := 2, embedded := false, tag := "", pkgPath := "gansey/rows", byteOffset := 48 }, { name := "table", type := 37, offset := 3, embedded := false, tag := "", pkgPath := "gansey/rows", byteOffset := 72 }, { name := "dir", type := 72, offset := 4, embedded := false, tag := "", pkgPath := "gansey/rows", byteOffset := 96 }], size := 5, bytes := 104, zero := Value.agg #[Value.slice none 0 0, Value.slice none 0 0, Value.slice none 0 0, Value.slice none 0 0, Value.int IntKind.u8 0] }
theorem ti160_ok:TI.ok Tryz.prog 160 ti160:=⟨Tryz.underlying160,by kernel_rfl⟩
def ti161:TI:={ desc:=TypeDesc.func #[5] #[31] false,size:=1,bytes:=8,zero:=Value.nilFunc }
theorem ti161_ok:TI.ok Tryz.prog 161 ti161:=⟨Tryz.underlying161,by kernel_rfl⟩
def ti162:TI:={ desc:=TypeDesc.func #[5,48,39] #[30,31] false,size:=1,bytes:=8,zero:=Value.nilFunc }
theorem ti162_ok:TI.ok Tryz.prog 162 ti162:=⟨Tryz.underlying162,by kernel_rfl⟩
def ti163:TI:={ desc:=TypeDesc.func #[5,3,49] #[31] false,size:=1,bytes:=8,zero:=Value.nilFunc }
theorem ti163_ok:TI.ok Tryz.prog 163 ti163:=⟨Tryz.underlying163,by kernel_rfl⟩
def ti164:TI:={ desc:=TypeDesc.func #[41,70] #[74] false,size:=1,bytes:=8,zero:=Value.nilFunc }
theorem ti164_ok:TI.ok Tryz.prog 164 ti164:=⟨Tryz.underlying164,by kernel_rfl⟩
def ti165:TI:={ desc:=TypeDesc.func #[74] #[74] false,size:=1,bytes:=8,zero:=Value.nilFunc }
theorem ti165_ok:TI.ok Tryz.prog 165 ti165:=⟨Tryz.underlying165,by kernel_rfl⟩
def ti166:TI:={ desc:=TypeDesc.func #[74,34] #[74,31] false,size:=1,bytes:=8,zero:=Value.nilFunc }
theorem ti166_ok:TI.ok Tryz.prog 166 ti166:=⟨Tryz.underlying166,by kernel_rfl⟩
def ti172:TI:={ desc:=TypeDesc.func #[123] #[4] false,size:=1,bytes:=8,zero:=Value.nilFunc }
theorem ti172_ok:TI.ok Tryz.prog 172 ti172:=⟨Tryz.underlying172,by kernel_rfl⟩
def ti173:TI:={ desc:=TypeDesc.func #[49,49] #[49] false,size:=1,bytes:=8,zero:=Value.nilFunc }
theorem ti173_ok:TI.ok Tryz.prog 173 ti173:=⟨Tryz.underlying173,by kernel_rfl⟩
def ti175:TI:={ desc:=TypeDesc.unsafePointer,size:=1,bytes:=8,zero:=Value.pointer none }
theorem ti175_ok:TI.ok Tryz.prog 175 ti175:=⟨Tryz.underlying175,by kernel_rfl⟩
def ti195:TI:={ desc:=TypeDesc.func #[207] #[] false,size:=1,bytes:=8,zero:=Value.nilFunc }
theorem ti195_ok:TI.ok Tryz.prog 195 ti195:=⟨Tryz.underlying195,by kernel_rfl⟩
def ti198:TI:={ desc:=TypeDesc.slice 39,size:=1,bytes:=24,zero:=Value.slice none 0 0 }
theorem ti198_ok:TI.ok Tryz.prog 198 ti198:=⟨Tryz.underlying198,by kernel_rfl⟩
def ti202:TI:={ desc:=TypeDesc.int IntKind.u64,size:=1,bytes:=8,zero:=Value.int IntKind.u64 0 }
theorem ti202_ok:TI.ok Tryz.prog 202 ti202:=⟨Tryz.underlying202,by kernel_rfl⟩
def ti207:TI:={ desc:=TypeDesc.func #[5] #[4] false,size:=1,bytes:=8,zero:=Value.nilFunc }
theorem ti207_ok:TI.ok Tryz.prog 207 ti207:=⟨Tryz.underlying207,by kernel_rfl⟩
def ti214:TI:={ desc:=TypeDesc.func #[46] #[4] false,size:=1,bytes:=8,zero:=Value.nilFunc }
theorem ti214_ok:TI.ok Tryz.prog 214 ti214:=⟨Tryz.underlying214,by kernel_rfl⟩
def ti216:TI:={ desc:=TypeDesc.func #[3] #[31] false,size:=1,bytes:=8,zero:=Value.nilFunc }
theorem ti216_ok:TI.ok Tryz.prog 216 ti216:=⟨Tryz.underlying216,by kernel_rfl⟩
def ti217:TI:={ desc:=TypeDesc.array 9 216,size:=9,bytes:=72,zero:=Value.agg #[Value.nilFunc,Value.nilFunc,Value.nilFunc,Value.nilFunc,Value.nilFunc,Value.nilFunc,Value.nilFunc,Value.nilFunc,Value.nilFunc] }
theorem ti217_ok:TI.ok Tryz.prog 217 ti217:=⟨Tryz.underlying217,by kernel_rfl⟩
def ti220:TI:={ desc:=TypeDesc.int IntKind.i64,size:=1,bytes:=8,zero:=Value.int IntKind.i64 0 }
theorem ti220_ok:TI.ok Tryz.prog 220 ti220:=⟨Tryz.underlying220,by kernel_rfl⟩
def ti228:TI:={ desc:=TypeDesc.int IntKind.u32,size:=1,bytes:=4,zero:=Value.int IntKind.u32 0 }
theorem ti228_ok:TI.ok Tryz.prog 228 ti228:=⟨Tryz.underlying228,by kernel_rfl⟩
def ti230:TI:={ desc:=TypeDesc.int IntKind.u64,size:=1,bytes:=8,zero:=Value.int IntKind.u64 0 }
theorem ti230_ok:TI.ok Tryz.prog 230 ti230:=⟨Tryz.underlying230,by kernel_rfl⟩
def ti235:TI:={ desc:=TypeDesc.func #[118] #[4] false,size:=1,bytes:=8,zero:=Value.nilFunc }
theorem ti235_ok:TI.ok Tryz.prog 235 ti235:=⟨Tryz.underlying235,by kernel_rfl⟩
def ti243:TI:={ desc:=TypeDesc.slice 38,size:=1,bytes:=24,zero:=Value.slice none 0 0 }
theorem ti243_ok:TI.ok Tryz.prog 243 ti243:=⟨Tryz.underlying243,by kernel_rfl⟩
def ti253:TI:={ desc:=TypeDesc.array 0 16,size:=0,bytes:=0,zero:=Value.agg #[] }
theorem ti253_ok:TI.ok Tryz.prog 253 ti253:=⟨Tryz.underlying253,by kernel_rfl⟩
def ti257:TI:={ desc:=TypeDesc.int IntKind.u8,size:=1,bytes:=1,zero:=Value.int IntKind.u8 0 }
theorem ti257_ok:TI.ok Tryz.prog 257 ti257:=⟨Tryz.underlying257,by kernel_rfl⟩
def ti258:TI:={ desc:=TypeDesc.int IntKind.u8,size:=1,bytes:=1,zero:=Value.int IntKind.u8 0 }
theorem ti258_ok:TI.ok Tryz.prog 258 ti258:=⟨Tryz.underlying258,by kernel_rfl⟩
def ti259:TI:={ desc:=TypeDesc.func #[175,175] #[4] false,size:=1,bytes:=8,zero:=Value.nilFunc }
theorem ti259_ok:TI.ok Tryz.prog 259 ti259:=⟨Tryz.underlying259,by kernel_rfl⟩
def ti260:TI:={ desc:=TypeDesc.int IntKind.i32,size:=1,bytes:=4,zero:=Value.int IntKind.i32 0 }
theorem ti260_ok:TI.ok Tryz.prog 260 ti260:=⟨Tryz.underlying260,by kernel_rfl⟩
def ti261:TI:={ desc:=TypeDesc.int IntKind.i32,size:=1,bytes:=4,zero:=Value.int IntKind.i32 0 }
theorem ti261_ok:TI.ok Tryz.prog 261 ti261:=⟨Tryz.underlying261,by kernel_rfl⟩
def ti263 : TI := { desc := TypeDesc.struct #[{ name := "Size_", type := 12, offset := 0, embedded := false, tag := "", pkgPath := "", byteOffset := 0 }, { name := "PtrBytes", type := 12, offset := 1, embedded := false, tag := "", pkgPath := "", byteOffset := 8 }, { name := "Hash", type := 228, offset := 2, embedded := false, tag := "", pkgPath := "", byteOffset := 16 }, { name := "TFlag", type := 257, offset := 3, embedded := false, tag := "", pkgPath := "", byteOffset := 20 }, { name := "Align_", type := 5, offset := 4, embedded := false, tag := "", pkgPath := "", byteOffset := 21 }, { name := "FieldAlign_", type := 5, offset := 5, embedded := false, tag := "", pkgPath := "", byteOffset := 22 }, { name := "Kind_", type := 258, offset := 6, embedded := false, tag := "", pkgPath := "", byteOffset := 23 }, { name := "Equal", type := 259, offset := 7, embedded := false, tag := "", pkgPath := "", byteOffset := 24 }, { name := "GCData", type := 136, offset := 8, embedded := false, tag := "", pkgPath := "", byteOffset := 32 }, { name := "Str", type := 260, offset := 9, embedded := false, tag := "", pkgPath := "", byteOffset := 40 }, { name := "PtrToThis", type := 261, offset := 10, embedded := false, tag := "", pkgPath := "", byteOffset := 44 }], size := 11, bytes := 48, zero := Value.agg #[Value.int IntKind.u64 0, Value.int IntKind.u64 0, Value.int IntKind.u32 0, Value.int IntKind.u8 0, Value.int IntKind.u8 0, Value.int IntKind.u8 0, Value.int IntKind.u8 0, Value.nilFunc, Value.pointer none, Value.int IntKind.i32 0, Value.int IntKind.i32 0] }
theorem ti263_ok:TI.ok Tryz.prog 263 ti263:=⟨Tryz.underlying263,by kernel_rfl⟩
def tab:List (TypeId×TI):=[(1,ti1),(2,ti2),(3,ti3),(4,ti4),(5,ti5),(6,ti6),(9,ti9),(10,ti10),(11,ti11),(12,ti12),(15,ti15),(16,ti16),(17,ti17),(20,ti20),(21,ti21),(22,ti22),(23,ti23),(24,ti24),(25,ti25),(26,ti26),(27,ti27),(28,ti28),(29,ti29),(30,ti30),(31,ti31),(33,ti33),(34,ti34),(35,ti35),(36,ti36),(37,ti37),(38,ti38),(39,ti39),(40,ti40),(41,ti41),(43,ti43),(44,ti44),(45,ti45),(46,ti46),(47,ti47),(48,ti48),(49,ti49),(50,ti50),(51,ti51),(52,ti52),(53,ti53),(54,ti54),(55,ti55),(56,ti56),(57,ti57),(58,ti58),(60,ti60),(61,ti61),(62,ti62),(63,ti63),(64,ti64),(65,ti65),(67,ti67),(70,ti70),(71,ti71),(72,ti72),(73,ti73),(74,ti74),(76,ti76),(77,ti77),(78,ti78),(80,ti80),(81,ti81),(82,ti82),(83,ti83),(84,ti84),(85,ti85),(86,ti86),(87,ti87),(88,ti88),(89,ti89),(90,ti90),(91,ti91),(92,ti92),(93,ti93),(94,ti94),(95,ti95),(96,ti96),(97,ti97),(98,ti98),(99,ti99),(100,ti100),(101,ti101),(102,ti102),(103,ti103),(104,ti104),(105,ti105),(106,ti106),(107,ti107),(109,ti109),(110,ti110),(111,ti111),(112,ti112),(113,ti113),(114,ti114),(115,ti115),(116,ti116),(117,ti117),(118,ti118),(119,ti119),(120,ti120),(121,ti121),(122,ti122),(123,ti123),(125,ti125),(127,ti127),(129,ti129),(130,ti130),(131,ti131),(132,ti132),(134,ti134),(135,ti135),(136,ti136),(137,ti137),(139,ti139),(140,ti140),(141,ti141),(142,ti142),(143,ti143),(151,ti151),(152,ti152),(153,ti153),(154,ti154),(155,ti155),(156,ti156),(157,ti157),(158,ti158),(159,ti159),(160,ti160),(161,ti161),(162,ti162),(163,ti163),(164,ti164),(165,ti165),(166,ti166),(172,ti172),(173,ti173),(175,ti175),(195,ti195),(198,ti198),(202,ti202),(207,ti207),(214,ti214),(216,ti216),(217,ti217),(220,ti220),(228,ti228),(230,ti230),(235,ti235),(243,ti243),(253,ti253),(257,ti257),(258,ti258),(259,ti259),(260,ti260),(261,ti261),(263,ti263)]
theorem tab_ok:TabOk Tryz.prog tab:=TabOk.cons ti1_ok (TabOk.cons ti2_ok (TabOk.cons ti3_ok (TabOk.cons ti4_ok (TabOk.cons ti5_ok (TabOk.cons ti6_ok (TabOk.cons ti9_ok (TabOk.cons ti10_ok (TabOk.cons ti11_ok (TabOk.cons ti12_ok (TabOk.cons ti15_ok (TabOk.cons ti16_ok (TabOk.cons ti17_ok (TabOk.cons ti20_ok (TabOk.cons ti21_ok (TabOk.cons ti22_ok (TabOk.cons ti23_ok (TabOk.cons ti24_ok (TabOk.cons ti25_ok (TabOk.cons ti26_ok (TabOk.cons ti27_ok (TabOk.cons ti28_ok (TabOk.cons ti29_ok (TabOk.cons ti30_ok (TabOk.cons ti31_ok (TabOk.cons ti33_ok (TabOk.cons ti34_ok (TabOk.cons ti35_ok (TabOk.cons ti36_ok (TabOk.cons ti37_ok (TabOk.cons ti38_ok (TabOk.cons ti39_ok (TabOk.cons ti40_ok (TabOk.cons ti41_ok (TabOk.cons ti43_ok (TabOk.cons ti44_ok (TabOk.cons ti45_ok (TabOk.cons ti46_ok (TabOk.cons ti47_ok (TabOk.cons ti48_ok (TabOk.cons ti49_ok (TabOk.cons ti50_ok (TabOk.cons ti51_ok (TabOk.cons ti52_ok (TabOk.cons ti53_ok (TabOk.cons ti54_ok (TabOk.cons ti55_ok (TabOk.cons ti56_ok (TabOk.cons ti57_ok (TabOk.cons ti58_ok (TabOk.cons ti60_ok (TabOk.cons ti61_ok (TabOk.cons ti62_ok (TabOk.cons ti63_ok (TabOk.cons ti64_ok (TabOk.cons ti65_ok (TabOk.cons ti67_ok (TabOk.cons ti70_ok (TabOk.cons ti71_ok (TabOk.cons ti72_ok (TabOk.cons ti73_ok (TabOk.cons ti74_ok (TabOk.cons ti76_ok (TabOk.cons ti77_ok (TabOk.cons ti78_ok (TabOk.cons ti80_ok (TabOk.cons ti81_ok (TabOk.cons ti82_ok (TabOk.cons ti83_ok (TabOk.cons ti84_ok (TabOk.cons ti85_ok (TabOk.cons ti86_ok (TabOk.cons ti87_ok (TabOk.cons ti88_ok (TabOk.cons ti89_ok (TabOk.cons ti90_ok (TabOk.cons ti91_ok (TabOk.cons ti92_ok (TabOk.cons ti93_ok (TabOk.cons ti94_ok (TabOk.cons ti95_ok (TabOk.cons ti96_ok (TabOk.cons ti97_ok (TabOk.cons ti98_ok (TabOk.cons ti99_ok (TabOk.cons ti100_ok (TabOk.cons ti101_ok (TabOk.cons ti102_ok (TabOk.cons ti103_ok (TabOk.cons ti104_ok (TabOk.cons ti105_ok (TabOk.cons ti106_ok (TabOk.cons ti107_ok (TabOk.cons ti109_ok (TabOk.cons ti110_ok (TabOk.cons ti111_ok (TabOk.cons ti112_ok (TabOk.cons ti113_ok (TabOk.cons ti114_ok (TabOk.cons ti115_ok (TabOk.cons ti116_ok (TabOk.cons ti117_ok (TabOk.cons ti118_ok (TabOk.cons ti119_ok (TabOk.cons ti120_ok (TabOk.cons ti121_ok (TabOk.cons ti122_ok (TabOk.cons ti123_ok (TabOk.cons ti125_ok (TabOk.cons ti127_ok (TabOk.cons ti129_ok (TabOk.cons ti130_ok (TabOk.cons ti131_ok (TabOk.cons ti132_ok (TabOk.cons ti134_ok (TabOk.cons ti135_ok (TabOk.cons ti136_ok (TabOk.cons ti137_ok (TabOk.cons ti139_ok (TabOk.cons ti140_ok (TabOk.cons ti141_ok (TabOk.cons ti142_ok (TabOk.cons ti143_ok (TabOk.cons ti151_ok (TabOk.cons ti152_ok (TabOk.cons ti153_ok (TabOk.cons ti154_ok (TabOk.cons ti155_ok (TabOk.cons ti156_ok (TabOk.cons ti157_ok (TabOk.cons ti158_ok (TabOk.cons ti159_ok (TabOk.cons ti160_ok (TabOk.cons ti161_ok (TabOk.cons ti162_ok (TabOk.cons ti163_ok (TabOk.cons ti164_ok (TabOk.cons ti165_ok (TabOk.cons ti166_ok (TabOk.cons ti172_ok (TabOk.cons ti173_ok (TabOk.cons ti175_ok (TabOk.cons ti195_ok (TabOk.cons ti198_ok (TabOk.cons ti202_ok (TabOk.cons ti207_ok (TabOk.cons ti214_ok (TabOk.cons ti216_ok (TabOk.cons ti217_ok (TabOk.cons ti220_ok (TabOk.cons ti228_ok (TabOk.cons ti230_ok (TabOk.cons ti235_ok (TabOk.cons ti243_ok (TabOk.cons ti253_ok (TabOk.cons ti257_ok (TabOk.cons ti258_ok (TabOk.cons ti259_ok (TabOk.cons ti260_ok (TabOk.cons ti261_ok (TabOk.cons ti263_ok (TabOk.nil _)))))))))))))))))))))))))))))))))))))))))))))))))))))))))))))))))))))))))))))))))))))))))))))))))))))))))))))))))))))))))))))))))))))))))))))))))))))))))))))))))

def te1:TE:=⟨ti1,none⟩
theorem te1_ok:TE.ok Tryz.prog 1 te1:=⟨ti1_ok,fun g hg=>by cases hg⟩
def te2:TE:=⟨ti2,some (.int .i64)⟩
theorem te2_ok:TE.ok Tryz.prog 2 te2:=⟨ti2_ok,fun g hg=>by cases hg; exact⟨rfl,rfl,by decide⟩⟩
def te3:TE:=⟨ti3,some (.int .i64)⟩
theorem te3_ok:TE.ok Tryz.prog 3 te3:=⟨ti3_ok,fun g hg=>by cases hg; exact⟨rfl,rfl,by decide⟩⟩
def te4:TE:=⟨ti4,some (.bool)⟩
theorem te4_ok:TE.ok Tryz.prog 4 te4:=⟨ti4_ok,fun g hg=>by cases hg; exact⟨rfl,rfl,by decide⟩⟩
def te5:TE:=⟨ti5,some (.int .u8)⟩
theorem te5_ok:TE.ok Tryz.prog 5 te5:=⟨ti5_ok,fun g hg=>by cases hg; exact⟨rfl,rfl,by decide⟩⟩
def te6:TE:=⟨ti6,some (.int .u8)⟩
theorem te6_ok:TE.ok Tryz.prog 6 te6:=⟨ti6_ok,fun g hg=>by cases hg; exact⟨rfl,rfl,by decide⟩⟩
def te9:TE:=⟨ti9,some (.str)⟩
theorem te9_ok:TE.ok Tryz.prog 9 te9:=⟨ti9_ok,fun g hg=>by cases hg; exact⟨rfl,rfl,by decide⟩⟩
def te10:TE:=⟨ti10,some (.str)⟩
theorem te10_ok:TE.ok Tryz.prog 10 te10:=⟨ti10_ok,fun g hg=>by cases hg; exact⟨rfl,rfl,by decide⟩⟩
def te11:TE:=⟨ti11,some (.str)⟩
theorem te11_ok:TE.ok Tryz.prog 11 te11:=⟨ti11_ok,fun g hg=>by cases hg; exact⟨rfl,rfl,by decide⟩⟩
def te12:TE:=⟨ti12,some (.int .u64)⟩
theorem te12_ok:TE.ok Tryz.prog 12 te12:=⟨ti12_ok,fun g hg=>by cases hg; exact⟨rfl,rfl,by decide⟩⟩
def te15:TE:=⟨ti15,none⟩
theorem te15_ok:TE.ok Tryz.prog 15 te15:=⟨ti15_ok,fun g hg=>by cases hg⟩
def te16:TE:=⟨ti16,none⟩
theorem te16_ok:TE.ok Tryz.prog 16 te16:=⟨ti16_ok,fun g hg=>by cases hg⟩
def te17:TE:=⟨ti17,none⟩
theorem te17_ok:TE.ok Tryz.prog 17 te17:=⟨ti17_ok,fun g hg=>by cases hg⟩
def te20:TE:=⟨ti20,none⟩
theorem te20_ok:TE.ok Tryz.prog 20 te20:=⟨ti20_ok,fun g hg=>by cases hg⟩
def te21:TE:=⟨ti21,some (.int .i32)⟩
theorem te21_ok:TE.ok Tryz.prog 21 te21:=⟨ti21_ok,fun g hg=>by cases hg; exact⟨rfl,rfl,by decide⟩⟩
def te22:TE:=⟨ti22,some (.sl (.int .u8))⟩
theorem te22_ok:TE.ok Tryz.prog 22 te22:=⟨ti22_ok,fun g hg=>by cases hg; exact⟨rfl,rfl,by decide⟩⟩
def te23:TE:=⟨ti23,some (.pair (.int .u8) (.pair (.int .u8) (.sl (.int .u8))))⟩
theorem te23_ok:TE.ok Tryz.prog 23 te23:=⟨ti23_ok,fun g hg=>by cases hg; exact⟨rfl,rfl,by decide⟩⟩
def te24:TE:=⟨ti24,some (.pair (.int .u8) (.pair (.int .u8) (.sl (.int .u8))))⟩
theorem te24_ok:TE.ok Tryz.prog 24 te24:=⟨ti24_ok,fun g hg=>by cases hg; exact⟨rfl,rfl,by decide⟩⟩
def te25:TE:=⟨ti25,some (.sl (.sl (.pair (.int .u8) (.pair (.int .u8) (.pair (.int .i64) (.pair (.int .i64) (.bool)))))))⟩
theorem te25_ok:TE.ok Tryz.prog 25 te25:=⟨ti25_ok,fun g hg=>by cases hg; exact⟨rfl,rfl,by decide⟩⟩
def te26:TE:=⟨ti26,some (.sl (.sl (.pair (.int .u8) (.pair (.int .u8) (.pair (.int .i64) (.pair (.int .i64) (.bool)))))))⟩
theorem te26_ok:TE.ok Tryz.prog 26 te26:=⟨ti26_ok,fun g hg=>by cases hg; exact⟨rfl,rfl,by decide⟩⟩
def te27:TE:=⟨ti27,some (.sl (.sl (.pair (.int .u8) (.pair (.int .u8) (.pair (.int .i64) (.pair (.int .i64) (.bool)))))))⟩
theorem te27_ok:TE.ok Tryz.prog 27 te27:=⟨ti27_ok,fun g hg=>by cases hg; exact⟨rfl,rfl,by decide⟩⟩
def te28:TE:=⟨ti28,none⟩
theorem te28_ok:TE.ok Tryz.prog 28 te28:=⟨ti28_ok,fun g hg=>by cases hg⟩
def te29:TE:=⟨ti29,some (.pair (.int .u8) (.int .i64))⟩
theorem te29_ok:TE.ok Tryz.prog 29 te29:=⟨ti29_ok,fun g hg=>by cases hg; exact⟨rfl,rfl,by decide⟩⟩
def te30:TE:=⟨ti30,some (.pair (.int .u8) (.int .i64))⟩
theorem te30_ok:TE.ok Tryz.prog 30 te30:=⟨ti30_ok,fun g hg=>by cases hg; exact⟨rfl,rfl,by decide⟩⟩
def te31:TE:=⟨ti31,some (.int .i64)⟩
theorem te31_ok:TE.ok Tryz.prog 31 te31:=⟨ti31_ok,fun g hg=>by cases hg; exact⟨rfl,rfl,by decide⟩⟩
def te33:TE:=⟨ti33,none⟩
theorem te33_ok:TE.ok Tryz.prog 33 te33:=⟨ti33_ok,fun g hg=>by cases hg⟩
def te34:TE:=⟨ti34,some (.sl (.pair (.int .u8) (.pair (.int .u8) (.pair (.int .i64) (.pair (.int .i64) (.bool))))))⟩
theorem te34_ok:TE.ok Tryz.prog 34 te34:=⟨ti34_ok,fun g hg=>by cases hg; exact⟨rfl,rfl,by decide⟩⟩
def te35:TE:=⟨ti35,none⟩
theorem te35_ok:TE.ok Tryz.prog 35 te35:=⟨ti35_ok,fun g hg=>by cases hg⟩
def te36:TE:=⟨ti36,some (.sl (.sl (.pair (.int .u8) (.pair (.bool) (.pair (.sl (.pair (.int .u8) (.int .i64))) (.sl (.pair (.pair (.int .u8) (.int .i64)) (.pair (.bool) (.int .u8)))))))))⟩
theorem te36_ok:TE.ok Tryz.prog 36 te36:=⟨ti36_ok,fun g hg=>by cases hg; exact⟨rfl,rfl,by decide⟩⟩
def te37:TE:=⟨ti37,some (.sl (.sl (.pair (.int .u8) (.pair (.bool) (.pair (.sl (.pair (.int .u8) (.int .i64))) (.sl (.pair (.pair (.int .u8) (.int .i64)) (.pair (.bool) (.int .u8)))))))))⟩
theorem te37_ok:TE.ok Tryz.prog 37 te37:=⟨ti37_ok,fun g hg=>by cases hg; exact⟨rfl,rfl,by decide⟩⟩
def te38:TE:=⟨ti38,some (.sl (.pair (.pair (.int .u8) (.int .i64)) (.pair (.pair (.int .u8) (.int .i64)) (.int .i64))))⟩
theorem te38_ok:TE.ok Tryz.prog 38 te38:=⟨ti38_ok,fun g hg=>by cases hg; exact⟨rfl,rfl,by decide⟩⟩
def te39:TE:=⟨ti39,some (.sl (.pair (.int .u8) (.int .i64)))⟩
theorem te39_ok:TE.ok Tryz.prog 39 te39:=⟨ti39_ok,fun g hg=>by cases hg; exact⟨rfl,rfl,by decide⟩⟩
def te40:TE:=⟨ti40,some (.pair (.sl (.sl (.pair (.int .u8) (.pair (.bool) (.pair (.sl (.pair (.int .u8) (.int .i64))) (.sl (.pair (.pair (.int .u8) (.int .i64)) (.pair (.bool) (.int .u8))))))))) (.pair (.sl (.pair (.pair (.int .u8) (.int .i64)) (.pair (.pair (.int .u8) (.int .i64)) (.int .i64)))) (.pair (.sl (.pair (.int .u8) (.int .i64))) (.sl (.pair (.int .u8) (.int .i64))))))⟩
theorem te40_ok:TE.ok Tryz.prog 40 te40:=⟨ti40_ok,fun g hg=>by cases hg; exact⟨rfl,rfl,by decide⟩⟩
def te41:TE:=⟨ti41,some (.pair (.sl (.sl (.pair (.int .u8) (.pair (.bool) (.pair (.sl (.pair (.int .u8) (.int .i64))) (.sl (.pair (.pair (.int .u8) (.int .i64)) (.pair (.bool) (.int .u8))))))))) (.pair (.sl (.pair (.pair (.int .u8) (.int .i64)) (.pair (.pair (.int .u8) (.int .i64)) (.int .i64)))) (.pair (.sl (.pair (.int .u8) (.int .i64))) (.sl (.pair (.int .u8) (.int .i64))))))⟩
theorem te41_ok:TE.ok Tryz.prog 41 te41:=⟨ti41_ok,fun g hg=>by cases hg; exact⟨rfl,rfl,by decide⟩⟩
def te43:TE:=⟨ti43,none⟩
theorem te43_ok:TE.ok Tryz.prog 43 te43:=⟨ti43_ok,fun g hg=>by cases hg⟩
def te44:TE:=⟨ti44,some (.int .u8)⟩
theorem te44_ok:TE.ok Tryz.prog 44 te44:=⟨ti44_ok,fun g hg=>by cases hg; exact⟨rfl,rfl,by decide⟩⟩
def te45:TE:=⟨ti45,some (.pair (.int .u8) (.pair (.int .u8) (.pair (.int .i64) (.pair (.int .i64) (.bool)))))⟩
theorem te45_ok:TE.ok Tryz.prog 45 te45:=⟨ti45_ok,fun g hg=>by cases hg; exact⟨rfl,rfl,by decide⟩⟩
def te46:TE:=⟨ti46,some (.pair (.int .u8) (.pair (.int .u8) (.pair (.int .i64) (.pair (.int .i64) (.bool)))))⟩
theorem te46_ok:TE.ok Tryz.prog 46 te46:=⟨ti46_ok,fun g hg=>by cases hg; exact⟨rfl,rfl,by decide⟩⟩
def te47:TE:=⟨ti47,some (.sl (.pair (.int .u8) (.pair (.bool) (.pair (.sl (.pair (.int .u8) (.int .i64))) (.sl (.pair (.pair (.int .u8) (.int .i64)) (.pair (.bool) (.int .u8))))))))⟩
theorem te47_ok:TE.ok Tryz.prog 47 te47:=⟨ti47_ok,fun g hg=>by cases hg; exact⟨rfl,rfl,by decide⟩⟩
def te48:TE:=⟨ti48,some (.int .u8)⟩
theorem te48_ok:TE.ok Tryz.prog 48 te48:=⟨ti48_ok,fun g hg=>by cases hg; exact⟨rfl,rfl,by decide⟩⟩
def te49:TE:=⟨ti49,some (.sl (.pair (.pair (.int .u8) (.int .i64)) (.pair (.bool) (.int .u8))))⟩
theorem te49_ok:TE.ok Tryz.prog 49 te49:=⟨ti49_ok,fun g hg=>by cases hg; exact⟨rfl,rfl,by decide⟩⟩
def te50:TE:=⟨ti50,some (.pair (.int .u8) (.pair (.bool) (.pair (.sl (.pair (.int .u8) (.int .i64))) (.sl (.pair (.pair (.int .u8) (.int .i64)) (.pair (.bool) (.int .u8)))))))⟩
theorem te50_ok:TE.ok Tryz.prog 50 te50:=⟨ti50_ok,fun g hg=>by cases hg; exact⟨rfl,rfl,by decide⟩⟩
def te51:TE:=⟨ti51,some (.pair (.int .u8) (.pair (.bool) (.pair (.sl (.pair (.int .u8) (.int .i64))) (.sl (.pair (.pair (.int .u8) (.int .i64)) (.pair (.bool) (.int .u8)))))))⟩
theorem te51_ok:TE.ok Tryz.prog 51 te51:=⟨ti51_ok,fun g hg=>by cases hg; exact⟨rfl,rfl,by decide⟩⟩
def te52:TE:=⟨ti52,none⟩
theorem te52_ok:TE.ok Tryz.prog 52 te52:=⟨ti52_ok,fun g hg=>by cases hg⟩
def te53:TE:=⟨ti53,none⟩
theorem te53_ok:TE.ok Tryz.prog 53 te53:=⟨ti53_ok,fun g hg=>by cases hg⟩
def te54:TE:=⟨ti54,none⟩
theorem te54_ok:TE.ok Tryz.prog 54 te54:=⟨ti54_ok,fun g hg=>by cases hg⟩
def te55:TE:=⟨ti55,none⟩
theorem te55_ok:TE.ok Tryz.prog 55 te55:=⟨ti55_ok,fun g hg=>by cases hg⟩
def te56:TE:=⟨ti56,none⟩
theorem te56_ok:TE.ok Tryz.prog 56 te56:=⟨ti56_ok,fun g hg=>by cases hg⟩
def te57:TE:=⟨ti57,some (.sl (.sl (.int .u8)))⟩
theorem te57_ok:TE.ok Tryz.prog 57 te57:=⟨ti57_ok,fun g hg=>by cases hg; exact⟨rfl,rfl,by decide⟩⟩
def te58:TE:=⟨ti58,none⟩
theorem te58_ok:TE.ok Tryz.prog 58 te58:=⟨ti58_ok,fun g hg=>by cases hg⟩
def te60:TE:=⟨ti60,none⟩
theorem te60_ok:TE.ok Tryz.prog 60 te60:=⟨ti60_ok,fun g hg=>by cases hg⟩
def te61:TE:=⟨ti61,none⟩
theorem te61_ok:TE.ok Tryz.prog 61 te61:=⟨ti61_ok,fun g hg=>by cases hg⟩
def te62:TE:=⟨ti62,none⟩
theorem te62_ok:TE.ok Tryz.prog 62 te62:=⟨ti62_ok,fun g hg=>by cases hg⟩
def te63:TE:=⟨ti63,none⟩
theorem te63_ok:TE.ok Tryz.prog 63 te63:=⟨ti63_ok,fun g hg=>by cases hg⟩
def te64:TE:=⟨ti64,some (.sl (.pair (.int .u8) (.int .u8)))⟩
theorem te64_ok:TE.ok Tryz.prog 64 te64:=⟨ti64_ok,fun g hg=>by cases hg; exact⟨rfl,rfl,by decide⟩⟩
def te65:TE:=⟨ti65,some (.pair (.int .u8) (.int .u8))⟩
theorem te65_ok:TE.ok Tryz.prog 65 te65:=⟨ti65_ok,fun g hg=>by cases hg; exact⟨rfl,rfl,by decide⟩⟩
def te67:TE:=⟨ti67,none⟩
theorem te67_ok:TE.ok Tryz.prog 67 te67:=⟨ti67_ok,fun g hg=>by cases hg⟩
def te70:TE:=⟨ti70,some (.sl (.pair (.int .u8) (.sl (.pair (.int .u8) (.int .i64)))))⟩
theorem te70_ok:TE.ok Tryz.prog 70 te70:=⟨ti70_ok,fun g hg=>by cases hg; exact⟨rfl,rfl,by decide⟩⟩
def te71:TE:=⟨ti71,some (.sl (.pair (.bool) (.pair (.int .i64) (.pair (.int .i64) (.pair (.bool) (.sl (.pair (.pair (.int .u8) (.int .i64)) (.pair (.bool) (.int .u8)))))))))⟩
theorem te71_ok:TE.ok Tryz.prog 71 te71:=⟨ti71_ok,fun g hg=>by cases hg; exact⟨rfl,rfl,by decide⟩⟩
def te72:TE:=⟨ti72,some (.int .u8)⟩
theorem te72_ok:TE.ok Tryz.prog 72 te72:=⟨ti72_ok,fun g hg=>by cases hg; exact⟨rfl,rfl,by decide⟩⟩
def te73:TE:=⟨ti73,some (.pair (.sl (.pair (.int .u8) (.sl (.pair (.int .u8) (.int .i64))))) (.pair (.sl (.pair (.bool) (.pair (.int .i64) (.pair (.int .i64) (.pair (.bool) (.sl (.pair (.pair (.int .u8) (.int .i64)) (.pair (.bool) (.int .u8))))))))) (.pair (.pair (.sl (.sl (.pair (.int .u8) (.pair (.bool) (.pair (.sl (.pair (.int .u8) (.int .i64))) (.sl (.pair (.pair (.int .u8) (.int .i64)) (.pair (.bool) (.int .u8))))))))) (.pair (.sl (.pair (.pair (.int .u8) (.int .i64)) (.pair (.pair (.int .u8) (.int .i64)) (.int .i64)))) (.pair (.sl (.pair (.int .u8) (.int .i64))) (.sl (.pair (.int .u8) (.int .i64)))))) (.int .u8))))⟩
theorem te73_ok:TE.ok Tryz.prog 73 te73:=⟨ti73_ok,fun g hg=>by cases hg; exact⟨rfl,rfl,by decide⟩⟩
def te74:TE:=⟨ti74,some (.pair (.sl (.pair (.int .u8) (.sl (.pair (.int .u8) (.int .i64))))) (.pair (.sl (.pair (.bool) (.pair (.int .i64) (.pair (.int .i64) (.pair (.bool) (.sl (.pair (.pair (.int .u8) (.int .i64)) (.pair (.bool) (.int .u8))))))))) (.pair (.pair (.sl (.sl (.pair (.int .u8) (.pair (.bool) (.pair (.sl (.pair (.int .u8) (.int .i64))) (.sl (.pair (.pair (.int .u8) (.int .i64)) (.pair (.bool) (.int .u8))))))))) (.pair (.sl (.pair (.pair (.int .u8) (.int .i64)) (.pair (.pair (.int .u8) (.int .i64)) (.int .i64)))) (.pair (.sl (.pair (.int .u8) (.int .i64))) (.sl (.pair (.int .u8) (.int .i64)))))) (.int .u8))))⟩
theorem te74_ok:TE.ok Tryz.prog 74 te74:=⟨ti74_ok,fun g hg=>by cases hg; exact⟨rfl,rfl,by decide⟩⟩
def te76:TE:=⟨ti76,none⟩
theorem te76_ok:TE.ok Tryz.prog 76 te76:=⟨ti76_ok,fun g hg=>by cases hg⟩
def te77:TE:=⟨ti77,none⟩
theorem te77_ok:TE.ok Tryz.prog 77 te77:=⟨ti77_ok,fun g hg=>by cases hg⟩
def te78:TE:=⟨ti78,some (.sl (.sl (.int .i64)))⟩
theorem te78_ok:TE.ok Tryz.prog 78 te78:=⟨ti78_ok,fun g hg=>by cases hg; exact⟨rfl,rfl,by decide⟩⟩
def te80:TE:=⟨ti80,none⟩
theorem te80_ok:TE.ok Tryz.prog 80 te80:=⟨ti80_ok,fun g hg=>by cases hg⟩
def te81:TE:=⟨ti81,none⟩
theorem te81_ok:TE.ok Tryz.prog 81 te81:=⟨ti81_ok,fun g hg=>by cases hg⟩
def te82:TE:=⟨ti82,none⟩
theorem te82_ok:TE.ok Tryz.prog 82 te82:=⟨ti82_ok,fun g hg=>by cases hg⟩
def te83:TE:=⟨ti83,none⟩
theorem te83_ok:TE.ok Tryz.prog 83 te83:=⟨ti83_ok,fun g hg=>by cases hg⟩
def te84:TE:=⟨ti84,none⟩
theorem te84_ok:TE.ok Tryz.prog 84 te84:=⟨ti84_ok,fun g hg=>by cases hg⟩
def te85:TE:=⟨ti85,none⟩
theorem te85_ok:TE.ok Tryz.prog 85 te85:=⟨ti85_ok,fun g hg=>by cases hg⟩
def te86:TE:=⟨ti86,none⟩
theorem te86_ok:TE.ok Tryz.prog 86 te86:=⟨ti86_ok,fun g hg=>by cases hg⟩
def te87:TE:=⟨ti87,none⟩
theorem te87_ok:TE.ok Tryz.prog 87 te87:=⟨ti87_ok,fun g hg=>by cases hg⟩
def te88:TE:=⟨ti88,none⟩
theorem te88_ok:TE.ok Tryz.prog 88 te88:=⟨ti88_ok,fun g hg=>by cases hg⟩
def te89:TE:=⟨ti89,none⟩
theorem te89_ok:TE.ok Tryz.prog 89 te89:=⟨ti89_ok,fun g hg=>by cases hg⟩
def te90:TE:=⟨ti90,none⟩
theorem te90_ok:TE.ok Tryz.prog 90 te90:=⟨ti90_ok,fun g hg=>by cases hg⟩
def te91:TE:=⟨ti91,none⟩
theorem te91_ok:TE.ok Tryz.prog 91 te91:=⟨ti91_ok,fun g hg=>by cases hg⟩
def te92:TE:=⟨ti92,none⟩
theorem te92_ok:TE.ok Tryz.prog 92 te92:=⟨ti92_ok,fun g hg=>by cases hg⟩
def te93:TE:=⟨ti93,none⟩
theorem te93_ok:TE.ok Tryz.prog 93 te93:=⟨ti93_ok,fun g hg=>by cases hg⟩
def te94:TE:=⟨ti94,none⟩
theorem te94_ok:TE.ok Tryz.prog 94 te94:=⟨ti94_ok,fun g hg=>by cases hg⟩
def te95:TE:=⟨ti95,none⟩
theorem te95_ok:TE.ok Tryz.prog 95 te95:=⟨ti95_ok,fun g hg=>by cases hg⟩
def te96:TE:=⟨ti96,none⟩
theorem te96_ok:TE.ok Tryz.prog 96 te96:=⟨ti96_ok,fun g hg=>by cases hg⟩
def te97:TE:=⟨ti97,none⟩
theorem te97_ok:TE.ok Tryz.prog 97 te97:=⟨ti97_ok,fun g hg=>by cases hg⟩
def te98:TE:=⟨ti98,none⟩
theorem te98_ok:TE.ok Tryz.prog 98 te98:=⟨ti98_ok,fun g hg=>by cases hg⟩
def te99:TE:=⟨ti99,none⟩
theorem te99_ok:TE.ok Tryz.prog 99 te99:=⟨ti99_ok,fun g hg=>by cases hg⟩
def te100:TE:=⟨ti100,none⟩
theorem te100_ok:TE.ok Tryz.prog 100 te100:=⟨ti100_ok,fun g hg=>by cases hg⟩
def te101:TE:=⟨ti101,none⟩
theorem te101_ok:TE.ok Tryz.prog 101 te101:=⟨ti101_ok,fun g hg=>by cases hg⟩
def te102:TE:=⟨ti102,none⟩
theorem te102_ok:TE.ok Tryz.prog 102 te102:=⟨ti102_ok,fun g hg=>by cases hg⟩
def te103:TE:=⟨ti103,none⟩
theorem te103_ok:TE.ok Tryz.prog 103 te103:=⟨ti103_ok,fun g hg=>by cases hg⟩
def te104:TE:=⟨ti104,none⟩
theorem te104_ok:TE.ok Tryz.prog 104 te104:=⟨ti104_ok,fun g hg=>by cases hg⟩
def te105:TE:=⟨ti105,none⟩
theorem te105_ok:TE.ok Tryz.prog 105 te105:=⟨ti105_ok,fun g hg=>by cases hg⟩
def te106:TE:=⟨ti106,none⟩
theorem te106_ok:TE.ok Tryz.prog 106 te106:=⟨ti106_ok,fun g hg=>by cases hg⟩
def te107:TE:=⟨ti107,none⟩
theorem te107_ok:TE.ok Tryz.prog 107 te107:=⟨ti107_ok,fun g hg=>by cases hg⟩
def te109:TE:=⟨ti109,none⟩
theorem te109_ok:TE.ok Tryz.prog 109 te109:=⟨ti109_ok,fun g hg=>by cases hg⟩
def te110:TE:=⟨ti110,none⟩
theorem te110_ok:TE.ok Tryz.prog 110 te110:=⟨ti110_ok,fun g hg=>by cases hg⟩
def te111:TE:=⟨ti111,some (.pair (.bool) (.pair (.int .i64) (.pair (.int .i64) (.pair (.bool) (.sl (.pair (.pair (.int .u8) (.int .i64)) (.pair (.bool) (.int .u8))))))))⟩
theorem te111_ok:TE.ok Tryz.prog 111 te111:=⟨ti111_ok,fun g hg=>by cases hg; exact⟨rfl,rfl,by decide⟩⟩
def te112:TE:=⟨ti112,some (.pair (.bool) (.pair (.int .i64) (.pair (.int .i64) (.pair (.bool) (.sl (.pair (.pair (.int .u8) (.int .i64)) (.pair (.bool) (.int .u8))))))))⟩
theorem te112_ok:TE.ok Tryz.prog 112 te112:=⟨ti112_ok,fun g hg=>by cases hg; exact⟨rfl,rfl,by decide⟩⟩
def te113:TE:=⟨ti113,none⟩
theorem te113_ok:TE.ok Tryz.prog 113 te113:=⟨ti113_ok,fun g hg=>by cases hg⟩
def te114:TE:=⟨ti114,none⟩
theorem te114_ok:TE.ok Tryz.prog 114 te114:=⟨ti114_ok,fun g hg=>by cases hg⟩
def te115:TE:=⟨ti115,none⟩
theorem te115_ok:TE.ok Tryz.prog 115 te115:=⟨ti115_ok,fun g hg=>by cases hg⟩
def te116:TE:=⟨ti116,none⟩
theorem te116_ok:TE.ok Tryz.prog 116 te116:=⟨ti116_ok,fun g hg=>by cases hg⟩
def te117:TE:=⟨ti117,some (.pair (.pair (.int .u8) (.int .i64)) (.pair (.pair (.int .u8) (.int .i64)) (.int .i64)))⟩
theorem te117_ok:TE.ok Tryz.prog 117 te117:=⟨ti117_ok,fun g hg=>by cases hg; exact⟨rfl,rfl,by decide⟩⟩
def te118:TE:=⟨ti118,some (.pair (.pair (.int .u8) (.int .i64)) (.pair (.pair (.int .u8) (.int .i64)) (.int .i64)))⟩
theorem te118_ok:TE.ok Tryz.prog 118 te118:=⟨ti118_ok,fun g hg=>by cases hg; exact⟨rfl,rfl,by decide⟩⟩
def te119:TE:=⟨ti119,none⟩
theorem te119_ok:TE.ok Tryz.prog 119 te119:=⟨ti119_ok,fun g hg=>by cases hg⟩
def te120:TE:=⟨ti120,some (.pair (.int .u8) (.sl (.pair (.int .u8) (.int .i64))))⟩
theorem te120_ok:TE.ok Tryz.prog 120 te120:=⟨ti120_ok,fun g hg=>by cases hg; exact⟨rfl,rfl,by decide⟩⟩
def te121:TE:=⟨ti121,some (.pair (.int .u8) (.sl (.pair (.int .u8) (.int .i64))))⟩
theorem te121_ok:TE.ok Tryz.prog 121 te121:=⟨ti121_ok,fun g hg=>by cases hg; exact⟨rfl,rfl,by decide⟩⟩
def te122:TE:=⟨ti122,some (.pair (.pair (.int .u8) (.int .i64)) (.pair (.bool) (.int .u8)))⟩
theorem te122_ok:TE.ok Tryz.prog 122 te122:=⟨ti122_ok,fun g hg=>by cases hg; exact⟨rfl,rfl,by decide⟩⟩
def te123:TE:=⟨ti123,some (.pair (.pair (.int .u8) (.int .i64)) (.pair (.bool) (.int .u8)))⟩
theorem te123_ok:TE.ok Tryz.prog 123 te123:=⟨ti123_ok,fun g hg=>by cases hg; exact⟨rfl,rfl,by decide⟩⟩
def te125:TE:=⟨ti125,none⟩
theorem te125_ok:TE.ok Tryz.prog 125 te125:=⟨ti125_ok,fun g hg=>by cases hg⟩
def te127:TE:=⟨ti127,some (.pair (.int .i64) (.pair (.bool) (.sl (.pair (.pair (.int .u8) (.int .i64)) (.pair (.bool) (.int .u8))))))⟩
theorem te127_ok:TE.ok Tryz.prog 127 te127:=⟨ti127_ok,fun g hg=>by cases hg; exact⟨rfl,rfl,by decide⟩⟩
def te129:TE:=⟨ti129,none⟩
theorem te129_ok:TE.ok Tryz.prog 129 te129:=⟨ti129_ok,fun g hg=>by cases hg⟩
def te130:TE:=⟨ti130,none⟩
theorem te130_ok:TE.ok Tryz.prog 130 te130:=⟨ti130_ok,fun g hg=>by cases hg⟩
def te131:TE:=⟨ti131,none⟩
theorem te131_ok:TE.ok Tryz.prog 131 te131:=⟨ti131_ok,fun g hg=>by cases hg⟩
def te132:TE:=⟨ti132,some (.sl (.int .i64))⟩
theorem te132_ok:TE.ok Tryz.prog 132 te132:=⟨ti132_ok,fun g hg=>by cases hg; exact⟨rfl,rfl,by decide⟩⟩
def te134:TE:=⟨ti134,none⟩
theorem te134_ok:TE.ok Tryz.prog 134 te134:=⟨ti134_ok,fun g hg=>by cases hg⟩
def te135:TE:=⟨ti135,none⟩
theorem te135_ok:TE.ok Tryz.prog 135 te135:=⟨ti135_ok,fun g hg=>by cases hg⟩
def te136:TE:=⟨ti136,none⟩
theorem te136_ok:TE.ok Tryz.prog 136 te136:=⟨ti136_ok,fun g hg=>by cases hg⟩
def te137:TE:=⟨ti137,none⟩
theorem te137_ok:TE.ok Tryz.prog 137 te137:=⟨ti137_ok,fun g hg=>by cases hg⟩
def te139:TE:=⟨ti139,none⟩
theorem te139_ok:TE.ok Tryz.prog 139 te139:=⟨ti139_ok,fun g hg=>by cases hg⟩
def te140:TE:=⟨ti140,none⟩
theorem te140_ok:TE.ok Tryz.prog 140 te140:=⟨ti140_ok,fun g hg=>by cases hg⟩
def te141:TE:=⟨ti141,none⟩
theorem te141_ok:TE.ok Tryz.prog 141 te141:=⟨ti141_ok,fun g hg=>by cases hg⟩
def te142:TE:=⟨ti142,none⟩
theorem te142_ok:TE.ok Tryz.prog 142 te142:=⟨ti142_ok,fun g hg=>by cases hg⟩
def te143:TE:=⟨ti143,none⟩
theorem te143_ok:TE.ok Tryz.prog 143 te143:=⟨ti143_ok,fun g hg=>by cases hg⟩
def te151:TE:=⟨ti151,none⟩
theorem te151_ok:TE.ok Tryz.prog 151 te151:=⟨ti151_ok,fun g hg=>by cases hg⟩
def te152:TE:=⟨ti152,none⟩
theorem te152_ok:TE.ok Tryz.prog 152 te152:=⟨ti152_ok,fun g hg=>by cases hg⟩
def te153:TE:=⟨ti153,some (.pair (.sl (.pair (.int .u8) (.int .i64))) (.sl (.pair (.int .u8) (.int .i64))))⟩
theorem te153_ok:TE.ok Tryz.prog 153 te153:=⟨ti153_ok,fun g hg=>by cases hg; exact⟨rfl,rfl,by decide⟩⟩
def te154:TE:=⟨ti154,none⟩
theorem te154_ok:TE.ok Tryz.prog 154 te154:=⟨ti154_ok,fun g hg=>by cases hg⟩
def te155:TE:=⟨ti155,none⟩
theorem te155_ok:TE.ok Tryz.prog 155 te155:=⟨ti155_ok,fun g hg=>by cases hg⟩
def te156:TE:=⟨ti156,none⟩
theorem te156_ok:TE.ok Tryz.prog 156 te156:=⟨ti156_ok,fun g hg=>by cases hg⟩
def te157:TE:=⟨ti157,none⟩
theorem te157_ok:TE.ok Tryz.prog 157 te157:=⟨ti157_ok,fun g hg=>by cases hg⟩
def te158:TE:=⟨ti158,some (.sl (.sl (.pair (.int .u8) (.sl (.pair (.int .u8) (.int .i64))))))⟩
theorem te158_ok:TE.ok Tryz.prog 158 te158:=⟨ti158_ok,fun g hg=>by cases hg; exact⟨rfl,rfl,by decide⟩⟩
def te159:TE:=⟨ti159,some (.pair (.sl (.pair (.int .u8) (.pair (.int .u8) (.pair (.int .i64) (.pair (.int .i64) (.bool)))))) (.pair (.sl (.sl (.pair (.int .u8) (.sl (.pair (.int .u8) (.int .i64)))))) (.pair (.sl (.pair (.bool) (.pair (.int .i64) (.pair (.int .i64) (.pair (.bool) (.sl (.pair (.pair (.int .u8) (.int .i64)) (.pair (.bool) (.int .u8))))))))) (.pair (.sl (.sl (.pair (.int .u8) (.pair (.bool) (.pair (.sl (.pair (.int .u8) (.int .i64))) (.sl (.pair (.pair (.int .u8) (.int .i64)) (.pair (.bool) (.int .u8))))))))) (.int .u8)))))⟩
theorem te159_ok:TE.ok Tryz.prog 159 te159:=⟨ti159_ok,fun g hg=>by cases hg; exact⟨rfl,rfl,by decide⟩⟩
def te160:TE:=⟨ti160,some (.pair (.sl (.pair (.int .u8) (.pair (.int .u8) (.pair (.int .i64) (.pair (.int .i64) (.bool)))))) (.pair (.sl (.sl (.pair (.int .u8) (.sl (.pair (.int .u8) (.int .i64)))))) (.pair (.sl (.pair (.bool) (.pair (.int .i64) (.pair (.int .i64) (.pair (.bool) (.sl (.pair (.pair (.int .u8) (.int .i64)) (.pair (.bool) (.int .u8))))))))) (.pair (.sl (.sl (.pair (.int .u8) (.pair (.bool) (.pair (.sl (.pair (.int .u8) (.int .i64))) (.sl (.pair (.pair (.int .u8) (.int .i64)) (.pair (.bool) (.int .u8))))))))) (.int .u8)))))⟩
theorem te160_ok:TE.ok Tryz.prog 160 te160:=⟨ti160_ok,fun g hg=>by cases hg; exact⟨rfl,rfl,by decide⟩⟩
def te161:TE:=⟨ti161,none⟩
theorem te161_ok:TE.ok Tryz.prog 161 te161:=⟨ti161_ok,fun g hg=>by cases hg⟩
def te162:TE:=⟨ti162,none⟩
theorem te162_ok:TE.ok Tryz.prog 162 te162:=⟨ti162_ok,fun g hg=>by cases hg⟩
def te163:TE:=⟨ti163,none⟩
theorem te163_ok:TE.ok Tryz.prog 163 te163:=⟨ti163_ok,fun g hg=>by cases hg⟩
def te164:TE:=⟨ti164,none⟩
theorem te164_ok:TE.ok Tryz.prog 164 te164:=⟨ti164_ok,fun g hg=>by cases hg⟩
def te165:TE:=⟨ti165,none⟩
theorem te165_ok:TE.ok Tryz.prog 165 te165:=⟨ti165_ok,fun g hg=>by cases hg⟩
def te166:TE:=⟨ti166,none⟩
theorem te166_ok:TE.ok Tryz.prog 166 te166:=⟨ti166_ok,fun g hg=>by cases hg⟩
def te172:TE:=⟨ti172,none⟩
theorem te172_ok:TE.ok Tryz.prog 172 te172:=⟨ti172_ok,fun g hg=>by cases hg⟩
def te173:TE:=⟨ti173,none⟩
theorem te173_ok:TE.ok Tryz.prog 173 te173:=⟨ti173_ok,fun g hg=>by cases hg⟩
def te175:TE:=⟨ti175,none⟩
theorem te175_ok:TE.ok Tryz.prog 175 te175:=⟨ti175_ok,fun g hg=>by cases hg⟩
def te195:TE:=⟨ti195,none⟩
theorem te195_ok:TE.ok Tryz.prog 195 te195:=⟨ti195_ok,fun g hg=>by cases hg⟩
def te198:TE:=⟨ti198,some (.sl (.sl (.pair (.int .u8) (.int .i64))))⟩
theorem te198_ok:TE.ok Tryz.prog 198 te198:=⟨ti198_ok,fun g hg=>by cases hg; exact⟨rfl,rfl,by decide⟩⟩
def te202:TE:=⟨ti202,some (.int .u64)⟩
theorem te202_ok:TE.ok Tryz.prog 202 te202:=⟨ti202_ok,fun g hg=>by cases hg; exact⟨rfl,rfl,by decide⟩⟩
def te207:TE:=⟨ti207,none⟩
theorem te207_ok:TE.ok Tryz.prog 207 te207:=⟨ti207_ok,fun g hg=>by cases hg⟩
def te214:TE:=⟨ti214,none⟩
theorem te214_ok:TE.ok Tryz.prog 214 te214:=⟨ti214_ok,fun g hg=>by cases hg⟩
def te216:TE:=⟨ti216,none⟩
theorem te216_ok:TE.ok Tryz.prog 216 te216:=⟨ti216_ok,fun g hg=>by cases hg⟩
def te217:TE:=⟨ti217,none⟩
theorem te217_ok:TE.ok Tryz.prog 217 te217:=⟨ti217_ok,fun g hg=>by cases hg⟩
def te220:TE:=⟨ti220,some (.int .i64)⟩
theorem te220_ok:TE.ok Tryz.prog 220 te220:=⟨ti220_ok,fun g hg=>by cases hg; exact⟨rfl,rfl,by decide⟩⟩
def te228:TE:=⟨ti228,some (.int .u32)⟩
theorem te228_ok:TE.ok Tryz.prog 228 te228:=⟨ti228_ok,fun g hg=>by cases hg; exact⟨rfl,rfl,by decide⟩⟩
def te230:TE:=⟨ti230,some (.int .u64)⟩
theorem te230_ok:TE.ok Tryz.prog 230 te230:=⟨ti230_ok,fun g hg=>by cases hg; exact⟨rfl,rfl,by decide⟩⟩
def te235:TE:=⟨ti235,none⟩
theorem te235_ok:TE.ok Tryz.prog 235 te235:=⟨ti235_ok,fun g hg=>by cases hg⟩
def te243:TE:=⟨ti243,some (.sl (.sl (.pair (.pair (.int .u8) (.int .i64)) (.pair (.pair (.int .u8) (.int .i64)) (.int .i64)))))⟩
theorem te243_ok:TE.ok Tryz.prog 243 te243:=⟨ti243_ok,fun g hg=>by cases hg; exact⟨rfl,rfl,by decide⟩⟩
def te253:TE:=⟨ti253,none⟩
theorem te253_ok:TE.ok Tryz.prog 253 te253:=⟨ti253_ok,fun g hg=>by cases hg⟩
def te257:TE:=⟨ti257,some (.int .u8)⟩
theorem te257_ok:TE.ok Tryz.prog 257 te257:=⟨ti257_ok,fun g hg=>by cases hg; exact⟨rfl,rfl,by decide⟩⟩
def te258:TE:=⟨ti258,some (.int .u8)⟩
theorem te258_ok:TE.ok Tryz.prog 258 te258:=⟨ti258_ok,fun g hg=>by cases hg; exact⟨rfl,rfl,by decide⟩⟩
def te259:TE:=⟨ti259,none⟩
theorem te259_ok:TE.ok Tryz.prog 259 te259:=⟨ti259_ok,fun g hg=>by cases hg⟩
def te260:TE:=⟨ti260,some (.int .i32)⟩
theorem te260_ok:TE.ok Tryz.prog 260 te260:=⟨ti260_ok,fun g hg=>by cases hg; exact⟨rfl,rfl,by decide⟩⟩
def te261:TE:=⟨ti261,some (.int .i32)⟩
theorem te261_ok:TE.ok Tryz.prog 261 te261:=⟨ti261_ok,fun g hg=>by cases hg; exact⟨rfl,rfl,by decide⟩⟩
def te263:TE:=⟨ti263,none⟩
theorem te263_ok:TE.ok Tryz.prog 263 te263:=⟨ti263_ok,fun g hg=>by cases hg⟩
def tt:TT:=(.node (.node (.node (.node (.node (.node (.node (.node .leaf 1 te1 .leaf) 2 te2 .leaf) 3 te3 (.node (.node .leaf 4 te4 .leaf) 5 te5 .leaf)) 6 te6 (.node (.node (.node .leaf 9 te9 .leaf) 10 te10 .leaf) 11 te11 (.node .leaf 12 te12 .leaf))) 15 te15 (.node (.node (.node (.node .leaf 16 te16 .leaf) 17 te17 .leaf) 20 te20 (.node .leaf 21 te21 .leaf)) 22 te22 (.node (.node (.node .leaf 23 te23 .leaf) 24 te24 .leaf) 25 te25 (.node .leaf 26 te26 .leaf)))) 27 te27 (.node (.node (.node (.node (.node .leaf 28 te28 .leaf) 29 te29 .leaf) 30 te30 (.node .leaf 31 te31 .leaf)) 33 te33 (.node (.node (.node .leaf 34 te34 .leaf) 35 te35 .leaf) 36 te36 (.node .leaf 37 te37 .leaf))) 38 te38 (.node (.node (.node (.node .leaf 39 te39 .leaf) 40 te40 .leaf) 41 te41 (.node .leaf 43 te43 .leaf)) 44 te44 (.node (.node (.node .leaf 45 te45 .leaf) 46 te46 .leaf) 47 te47 (.node .leaf 48 te48 .leaf))))) 49 te49 (.node (.node (.node (.node (.node (.node .leaf 50 te50 .leaf) 51 te51 .leaf) 52 te52 (.node .leaf 53 te53 .leaf)) 54 te54 (.node (.node (.node .leaf 55 te55 .leaf) 56 te56 .leaf) 57 te57 (.node .leaf 58 te58 .leaf))) 60 te60 (.node (.node (.node (.node .leaf 61 te61 .leaf) 62 te62 .leaf) 63 te63 (.node .leaf 64 te64 .leaf)) 65 te65 (.node (.node (.node .leaf 67 te67 .leaf) 70 te70 .leaf) 71 te71 (.node .leaf 72 te72 .leaf)))) 73 te73 (.node (.node (.node (.node (.node .leaf 74 te74 .leaf) 76 te76 .leaf) 77 te77 (.node .leaf 78 te78 .leaf)) 80 te80 (.node (.node (.node .leaf 81 te81 .leaf) 82 te82 .leaf) 83 te83 (.node .leaf 84 te84 .leaf))) 85 te85 (.node (.node (.node (.node .leaf 86 te86 .leaf) 87 te87 .leaf) 88 te88 (.node .leaf 89 te89 .leaf)) 90 te90 (.node (.node (.node .leaf 91 te91 .leaf) 92 te92 .leaf) 93 te93 (.node .leaf 94 te94 .leaf)))))) 95 te95 (.node (.node (.node (.node (.node (.node (.node .leaf 96 te96 .leaf) 97 te97 .leaf) 98 te98 (.node (.node .leaf 99 te99 .leaf) 100 te100 .leaf)) 101 te101 (.node (.node (.node .leaf 102 te102 .leaf) 103 te103 .leaf) 104 te104 (.node .leaf 105 te105 .leaf))) 106 te106 (.node (.node (.node (.node .leaf 107 te107 .leaf) 109 te109 .leaf) 110 te110 (.node .leaf 111 te111 .leaf)) 112 te112 (.node (.node (.node .leaf 113 te113 .leaf) 114 te114 .leaf) 115 te115 (.node .leaf 116 te116 .leaf)))) 117 te117 (.node (.node (.node (.node (.node .leaf 118 te118 .leaf) 119 te119 .leaf) 120 te120 (.node .leaf 121 te121 .leaf)) 122 te122 (.node (.node (.node .leaf 123 te123 .leaf) 125 te125 .leaf) 127 te127 (.node .leaf 129 te129 .leaf))) 130 te130 (.node (.node (.node (.node .leaf 131 te131 .leaf) 132 te132 .leaf) 134 te134 (.node .leaf 135 te135 .leaf)) 136 te136 (.node (.node (.node .leaf 137 te137 .leaf) 139 te139 .leaf) 140 te140 (.node .leaf 141 te141 .leaf))))) 142 te142 (.node (.node (.node (.node (.node (.node .leaf 143 te143 .leaf) 151 te151 .leaf) 152 te152 (.node .leaf 153 te153 .leaf)) 154 te154 (.node (.node (.node .leaf 155 te155 .leaf) 156 te156 .leaf) 157 te157 (.node .leaf 158 te158 .leaf))) 159 te159 (.node (.node (.node (.node .leaf 160 te160 .leaf) 161 te161 .leaf) 162 te162 (.node .leaf 163 te163 .leaf)) 164 te164 (.node (.node (.node .leaf 165 te165 .leaf) 166 te166 .leaf) 172 te172 (.node .leaf 173 te173 .leaf)))) 175 te175 (.node (.node (.node (.node (.node .leaf 195 te195 .leaf) 198 te198 .leaf) 202 te202 (.node .leaf 207 te207 .leaf)) 214 te214 (.node (.node (.node .leaf 216 te216 .leaf) 217 te217 .leaf) 220 te220 (.node .leaf 228 te228 .leaf))) 230 te230 (.node (.node (.node (.node .leaf 235 te235 .leaf) 243 te243 .leaf) 253 te253 (.node .leaf 257 te257 .leaf)) 258 te258 (.node (.node (.node .leaf 259 te259 .leaf) 260 te260 .leaf) 261 te261 (.node .leaf 263 te263 .leaf)))))))
theorem za:tt.ok Tryz.prog:=⟨⟨⟨⟨⟨⟨⟨⟨trivial,te1_ok,trivial⟩,te2_ok,trivial⟩,te3_ok,⟨⟨trivial,te4_ok,trivial⟩,te5_ok,trivial⟩⟩,te6_ok,⟨⟨⟨trivial,te9_ok,trivial⟩,te10_ok,trivial⟩,te11_ok,⟨trivial,te12_ok,trivial⟩⟩⟩,te15_ok,⟨⟨⟨⟨trivial,te16_ok,trivial⟩,te17_ok,trivial⟩,te20_ok,⟨trivial,te21_ok,trivial⟩⟩,te22_ok,⟨⟨⟨trivial,te23_ok,trivial⟩,te24_ok,trivial⟩,te25_ok,⟨trivial,te26_ok,trivial⟩⟩⟩⟩,te27_ok,⟨⟨⟨⟨⟨trivial,te28_ok,trivial⟩,te29_ok,trivial⟩,te30_ok,⟨trivial,te31_ok,trivial⟩⟩,te33_ok,⟨⟨⟨trivial,te34_ok,trivial⟩,te35_ok,trivial⟩,te36_ok,⟨trivial,te37_ok,trivial⟩⟩⟩,te38_ok,⟨⟨⟨⟨trivial,te39_ok,trivial⟩,te40_ok,trivial⟩,te41_ok,⟨trivial,te43_ok,trivial⟩⟩,te44_ok,⟨⟨⟨trivial,te45_ok,trivial⟩,te46_ok,trivial⟩,te47_ok,⟨trivial,te48_ok,trivial⟩⟩⟩⟩⟩,te49_ok,⟨⟨⟨⟨⟨⟨trivial,te50_ok,trivial⟩,te51_ok,trivial⟩,te52_ok,⟨trivial,te53_ok,trivial⟩⟩,te54_ok,⟨⟨⟨trivial,te55_ok,trivial⟩,te56_ok,trivial⟩,te57_ok,⟨trivial,te58_ok,trivial⟩⟩⟩,te60_ok,⟨⟨⟨⟨trivial,te61_ok,trivial⟩,te62_ok,trivial⟩,te63_ok,⟨trivial,te64_ok,trivial⟩⟩,te65_ok,⟨⟨⟨trivial,te67_ok,trivial⟩,te70_ok,trivial⟩,te71_ok,⟨trivial,te72_ok,trivial⟩⟩⟩⟩,te73_ok,⟨⟨⟨⟨⟨trivial,te74_ok,trivial⟩,te76_ok,trivial⟩,te77_ok,⟨trivial,te78_ok,trivial⟩⟩,te80_ok,⟨⟨⟨trivial,te81_ok,trivial⟩,te82_ok,trivial⟩,te83_ok,⟨trivial,te84_ok,trivial⟩⟩⟩,te85_ok,⟨⟨⟨⟨trivial,te86_ok,trivial⟩,te87_ok,trivial⟩,te88_ok,⟨trivial,te89_ok,trivial⟩⟩,te90_ok,⟨⟨⟨trivial,te91_ok,trivial⟩,te92_ok,trivial⟩,te93_ok,⟨trivial,te94_ok,trivial⟩⟩⟩⟩⟩⟩,te95_ok,⟨⟨⟨⟨⟨⟨⟨trivial,te96_ok,trivial⟩,te97_ok,trivial⟩,te98_ok,⟨⟨trivial,te99_ok,trivial⟩,te100_ok,trivial⟩⟩,te101_ok,⟨⟨⟨trivial,te102_ok,trivial⟩,te103_ok,trivial⟩,te104_ok,⟨trivial,te105_ok,trivial⟩⟩⟩,te106_ok,⟨⟨⟨⟨trivial,te107_ok,trivial⟩,te109_ok,trivial⟩,te110_ok,⟨trivial,te111_ok,trivial⟩⟩,te112_ok,⟨⟨⟨trivial,te113_ok,trivial⟩,te114_ok,trivial⟩,te115_ok,⟨trivial,te116_ok,trivial⟩⟩⟩⟩,te117_ok,⟨⟨⟨⟨⟨trivial,te118_ok,trivial⟩,te119_ok,trivial⟩,te120_ok,⟨trivial,te121_ok,trivial⟩⟩,te122_ok,⟨⟨⟨trivial,te123_ok,trivial⟩,te125_ok,trivial⟩,te127_ok,⟨trivial,te129_ok,trivial⟩⟩⟩,te130_ok,⟨⟨⟨⟨trivial,te131_ok,trivial⟩,te132_ok,trivial⟩,te134_ok,⟨trivial,te135_ok,trivial⟩⟩,te136_ok,⟨⟨⟨trivial,te137_ok,trivial⟩,te139_ok,trivial⟩,te140_ok,⟨trivial,te141_ok,trivial⟩⟩⟩⟩⟩,te142_ok,⟨⟨⟨⟨⟨⟨trivial,te143_ok,trivial⟩,te151_ok,trivial⟩,te152_ok,⟨trivial,te153_ok,trivial⟩⟩,te154_ok,⟨⟨⟨trivial,te155_ok,trivial⟩,te156_ok,trivial⟩,te157_ok,⟨trivial,te158_ok,trivial⟩⟩⟩,te159_ok,⟨⟨⟨⟨trivial,te160_ok,trivial⟩,te161_ok,trivial⟩,te162_ok,⟨trivial,te163_ok,trivial⟩⟩,te164_ok,⟨⟨⟨trivial,te165_ok,trivial⟩,te166_ok,trivial⟩,te172_ok,⟨trivial,te173_ok,trivial⟩⟩⟩⟩,te175_ok,⟨⟨⟨⟨⟨trivial,te195_ok,trivial⟩,te198_ok,trivial⟩,te202_ok,⟨trivial,te207_ok,trivial⟩⟩,te214_ok,⟨⟨⟨trivial,te216_ok,trivial⟩,te217_ok,trivial⟩,te220_ok,⟨trivial,te228_ok,trivial⟩⟩⟩,te230_ok,⟨⟨⟨⟨trivial,te235_ok,trivial⟩,te243_ok,trivial⟩,te253_ok,⟨trivial,te257_ok,trivial⟩⟩,te258_ok,⟨⟨⟨trivial,te259_ok,trivial⟩,te260_ok,trivial⟩,te261_ok,⟨trivial,te263_ok,trivial⟩⟩⟩⟩⟩⟩⟩

def glT:Nat->Option GL
 | _=>none
noncomputable def cx:Cx:=⟨Tryz.prog,tt,glT⟩

section
open Go.ChangeShapes Go.WideShapes Go.ChangeAt Go.WideElems Go.RowKit
section
variable {H:Type} {enc:TypeId×Value->H} {P:Program} {W:World}
def DecOk(enc:TypeId×Value->H) (P:Program) (W:World) (t:TypeId) (g:GTy) (R:g.D->Prop):Prop:=
 ∀ k cs x,DataW.trod enc P W 0 (fun _=>true) true k t cs=some x->∃ y:g.D,R y/\FR (fun b=>b < W.heap.size) W g y cs
theorem dec_int{t:TypeId} {k:IntKind} (ht:P.underlying t=some (.int k)):DecOk enc P W t (.int k) (fun(y:Int)=>k.min<=y/\y<=k.max):=fun n cs x h=>by
 obtain⟨z,rfl,_,hw⟩:=DataW.trod_int ht h;exact⟨z,by simpa [Lit.wf] using hw,rfl⟩
theorem flat_sub{g:GTy} {R:g.D->Prop}:∀ l:List { p:g.D×List Value // R p.1/\FR (fun b=>b < W.heap.size) W g p.1 p.2 },Flat (FR (fun b=>b < W.heap.size) W g) (l.map (·.1.1)) (l.flatMap (·.1.2))
 | []=>rfl
 | x :: l=>⟨x.1.2,l.flatMap (·.1.2),rfl,x.2.2,flat_sub l⟩
theorem cell_lt{b o:Nat} {v:Value} (h:W.cell? ⟨b,o,none⟩=some v):b < W.heap.size:=by
 by_cases hb:b < W.heap.size
 ·exact hb
 ·simp[World.cell?,Array.getElem?_eq_none (by omega:W.heap.size<=b)]at h
end
theorem AC.law{X:Cx} {f:FuncId} {args:List SA} {vs:List Value} {W:World} (h:AC X f args [] (fun sv h=>sv=.c (.val (.bool true))/\h=[])) (hg:GlobOk X (fun b=>b < W.heap.size) W) (ha:SasR (fun _=>.no) (fun b=>b < W.heap.size) W args vs):Ret X.P f vs.toArray W (fun v w'=>v=.bool true/\Below W.heap.size W w'):=by
 refine(h (fun b=>b < W.heap.size) W (fun _=>.no) vs [] W hg ha rfl (SH.start W)).mono ?_;rintro v w' ⟨env',B',w0',H',sv,h',⟨rfl,rfl⟩,h1,h2,h3,h4,h5,h6,h7⟩;have hr:∀ k,k < W.heap.size->Rest W [] k:=fun k hk=>⟨hk,fun c hc=>by cases hc⟩
 exact⟨h4,h6.below.os.trans h3.os,h6.below.tape.trans h3.tape,h6.below.output.trans h3.output,Nat.le_trans h3.size h6.below.size,fun k hk=>(h6.below.block k (.inl (hr k hk))).trans (h3.block k (hr k hk))⟩
end

section
def gd{α:Type} (c:Bool) (k:Option α):Option α:=match c with
 | true=>k
 | false=>none
theorem zI{α:Type} {c:Bool} {k:Option α} {r:α} (h:gd c k=some r):c=true/\k=some r:=by
 cases c with
 | true=>exact⟨rfl,h⟩
 | false=>cases h
theorem bd{α β:Type} {x:Option α} {f:α->Option β} {r:β} (h:x.bind f=some r):∃ a,x=some a/\f a=some r:=by
 cases x with
 | none=>cases h
 | some a=>exact⟨a,rfl,h⟩
theorem cond_t{α:Type} {b:Bool} {x y z:α} (hb:b=true) (h:cond b x y=z):x=z:=by rw[hb]at h; exact h
theorem cond_f{α:Type} {b:Bool} {x y z:α} (hb:b=false) (h:cond b x y=z):y=z:=by rw[hb]at h; exact h
abbrev sm {α β γ:Type} (x:α⊕β) (f:α->Option γ) (g:β->Option γ):Option γ:=match x with
 | .inl a=>f a
 | .inr b=>g b
def nocapH(id:Nat):Hp->Hp
 | []=>[]
 | (j,.row t g l c) :: r=>match Nat.beq j id with
  | true=>(j,.row t g l none) :: r
  | false=>(j,.row t g l c) :: nocapH id r
 | b :: r=>b :: nocapH id r
section
variable {X:Cx} {M:Bool} {n:Nat} {r:Option Nat} {c:Code} {st:ASt} {Q:Exit->ASt->Prop}
theorem Wk.conv{s:Nat} {sv:SV} (sv':SV) (hs:lk st.L s=some sv) (hV:∀ env B w v,VR env B w sv v->VR env B w sv' v):Wk X n st ⟨(s,sv') :: st.L,st.H⟩:=fun R W Bi M a w ⟨ks,env,B,w0,H,hM,h⟩=>
 ⟨ks,env,B,w0,H,hM,h.size,h.defs,fun q u hu=>by
  rw[zu]at hu
  split at hu
  ·rename_i e
   subst e;cases hu;obtain⟨v,h1,h2⟩:=h.has _ _ hs;exact⟨v,h1,hV _ _ _ _ h2⟩
  ·exact h.has q u hu,h.heap,h.sh,h.sub,h.new,h.pin,h.base,h.glob⟩
theorem HR.nocap{env:Nat->Loc} {B:Nat->Prop} {w:World} (id:Nat):∀ {l:Hp} {H:List Ck},HR env B w l H->HR env B w (nocapH id l) H
 | [],_,h=>h
 | (j,.row t g l c) :: r,_,⟨k,H',e,h1,h2⟩=>by
  unfold nocapH
  split
  ·obtain⟨A,q,xs,h3,h4,h5,h6⟩:=h1
   exact⟨k,H',e,⟨A,q,xs,h3,h4,h5,fun _ h=>by cases h⟩,h2⟩
  ·exact⟨k,H',e,h1,HR.nocap id h2⟩
 | (j,.cells _ _) :: r,_,⟨k,H',e,h1,h2⟩=>⟨k,H',e,h1,HR.nocap id h2⟩
 | (j,.sit _ _) :: r,_,⟨k,H',e,h1,h2⟩=>⟨k,H',e,h1,HR.nocap id h2⟩
 | (j,.mp _ _ _ _) :: r,_,⟨k,H',e,h1,h2⟩=>⟨k,H',e,h1,HR.nocap id h2⟩
 | (j,.it _ _ _ _) :: r,_,⟨k,H',e,h1,h2⟩=>⟨k,H',e,h1,HR.nocap id h2⟩
 | (j,.junk) :: r,_,⟨k,H',e,h1,h2⟩=>⟨k,H',e,h1,HR.nocap id h2⟩
 | (j,.hrow _ _ _ _ _ _ _) :: r,_,⟨k,H',e,h1,h2⟩=>⟨k,H',e,h1,HR.nocap id h2⟩
 | (j,.rjunk) :: r,_,⟨k,H',e,h1,h2⟩=>⟨k,H',e,h1,HR.nocap id h2⟩
 | (j,.lrow _ _ _) :: r,_,⟨k,H',e,h1,h2⟩=>⟨k,H',e,h1,HR.nocap id h2⟩
 | (j,.mrow _ _ _ _ _ _) :: r,_,⟨k,H',e,h1,h2⟩=>⟨k,H',e,h1,HR.nocap id h2⟩
theorem Wk.rowcap(id:Nat) {st':ASt} (h:st'=⟨st.L,nocapH id st.H⟩):Wk X n st st':=fun R W Bi M a w ⟨ks,env,B,w0,H,hM,hA⟩=>by
 subst h;exact⟨ks,env,B,w0,H,hM,hA.size,hA.defs,hA.has,HR.nocap id hA.heap,hA.sh,hA.sub,hA.new,hA.pin,hA.base,hA.glob⟩
end
theorem ob:(∀ b,(b&&true)=b)/\(∀ b,(true&&b)=b)/\(∀ b,(b || true)=true)/\(∀ b,(true || b)=true)/\(!true)=false/\(!false)=true/\(∀ b,(b || false)=b)/\(∀ b,(false || b)=b)/\(∀ b,(b&&b)=b)/\(∀ b:Bool,(!b || b)=true)/\(∀ b,(b || b)=b):=by decide
theorem oc:(∀ b,(b&&true)=b)/\(∀ b,(true&&b)=b)/\(∀ b,(b||true)=true)/\(∀ b,(true||b)=true)/\(!true)=false/\(!false)=true/\(∀ b,(b||false)=b)/\(∀ b,(false||b)=b)/\(∀ b,(b&&b)=b)/\(∀ b:Bool,(!b||b)=true)/\(∀ b,(b||b)=b)/\(∀ [h:Decidable True],@decide True h=true)/\(∀ {α:Type}(a b:α),cond true a b=a)/\(∀ {α:Type}(a b:α),cond false a b=b):=⟨ob.1,ob.2.1,ob.2.2.1,ob.2.2.2.1,ob.2.2.2.2.1,ob.2.2.2.2.2.1,ob.2.2.2.2.2.2.1,ob.2.2.2.2.2.2.2.1,ob.2.2.2.2.2.2.2.2.1,ob.2.2.2.2.2.2.2.2.2.1,ob.2.2.2.2.2.2.2.2.2.2,fun {_}=>decide_true _,fun _ _=>rfl,fun _ _=>rfl⟩
theorem CsR.data{env:Nat->Loc} {B:Nat->Prop} {w:World} {g:GTy} {cs cs':List SC} {x:g.D} {c:Bool} {vs:List Value} (h1:CsR env B w cs vs) (hd:dec g cs=some (c,x,[])) (hc:c=true) (hg:qS g x 0 g.size=some cs'):CsR env B w cs' vs:=by
 obtain⟨v1,v2,e2,hf,h2⟩:=dec_ok h1 hd hc;have h4:v2=[]:=h2;subst h4;rw[List.append_nil]at e2;subst e2;obtain⟨us,⟨hl,hp⟩,h3⟩:=FR.cells hf hg;have hvl:=FR.length hf;have hus:us=vs:=by
  apply List.ext_getElem?
  intro j;cases hj:us[j]? with
  | some u=>
   have:=hp j u hj
   rw[Nat.zero_add]at this;exact this.symm
  | none=>
   rw[List.getElem?_eq_none_iff]at hj;exact(List.getElem?_eq_none_iff.2 (by omega)).symm
 subst hus;exact h3
theorem Wk.data{X:Cx} {n:Nat} {st:ASt} (s:Nat) (g:GTy) {cs cs':List SC} {x:g.D} {c:Bool} (hs:lk st.L s=some (.a (.agg cs))) (hd:dec g cs=some (c,x,[])) (hc:c=true) (hg:qS g x 0 g.size=some cs'):Wk X n st ⟨(s,.a (.agg cs')) :: st.L,st.H⟩:=Wk.conv _ hs fun env B w v ⟨vs,e,h1⟩=>⟨vs,e,h1.data hd hc hg⟩
theorem Wk.dataB{X:Cx} {n:Nat} {st:ASt} (id:Nat) (g:GTy) {t:TypeId} {cs cs':List SC} {x:g.D} {c:Bool} (hs:lk st.H id=some (.cells t cs)) (hd:dec g cs=some (c,x,[])) (hc:c=true) (hg:qS g x 0 g.size=some cs'):Wk X n st ⟨st.L,zX id (.cells t cs') st.H⟩:=fun R W Bi M a w ⟨ks,env,B,w0,H,hM,h⟩=>by
 obtain⟨ck,K,⟨b,vs,he,e,hcs⟩,⟨Y,Z,h1,h2⟩,h3⟩:=h.setBlk (b':=.cells t cs') hs;obtain⟨H',h4⟩:=h3 ck a w ⟨b,vs,he,e,hcs.data hd hc hg⟩ (by rw[h2]; dsimp only; rw[<- h1]; exact h.sh) h.stt;exact⟨ks,env,B,w0,H',hM,h4⟩
end

section
open Go.ChangeShapes Go.WideShapes Go.ChangeAt Go.WideElems Go.RowKit
theorem Tryz.own:ownKnob Tryz.prog.godebug=none:=by kernel_rfl
theorem Tryz.laidOut:laidOutB Tryz.prog=true:=by kernel_rfl
theorem wf_range{k:IntKind} {n:Int} (h:(Lit.int k n).wf=true):k.min<=n/\n<=k.max:=by simpa [Lit.wf] using h
end

section
def GTy.beq:(g:GTy)->g.D->g.D->Bool
 | .int _=>fun(x:Int) (y:Int)=>x == y
 | .bool=>fun(x:Bool) (y:Bool)=>x == y
 | .str=>fun(x:List UInt8) (y:List UInt8)=>x == y
 | .pair g h=>fun x y=>g.beq x.1 y.1&&h.beq x.2 y.2
 | _=>fun _ _=>false
def mget(gk gv:GTy):List (gk.D×gv.D)->gk.D->Option gv.D
 | [],_=>none
 | x :: l,k=>match gk.beq x.1 k with
  | true=>some x.2
  | false=>mget gk gv l k
def mset(gk gv:GTy):List (gk.D×gv.D)->gk.D->gv.D->List (gk.D×gv.D)
 | [],k,v=>[(k,v)]
 | x :: l,k,v=>match gk.beq x.1 k with
  | true=>(x.1,v) :: l
  | false=>x :: mset gk gv l k v
def vSA:(g:GTy)->g.D->Option SA
 | .pair a b,x=>(qS (.pair a b) x 0 (a.size+b.size)).map .agg
 | g,x=>(gcell g x 0).map .c
section
variable {B:Nat->Prop} {w:World} {k:IntKind} {gv:GTy}
theorem modify_map{es:List MapEntry} {f:MapEntry->MapEntry} (hf:∀ e,(f e).born=e.born):∀ (j:Nat),(es.modify j f).map (·.born)=es.map (·.born):=by
 induction es with
 | nil=>intro j; cases j<;>rfl
 | cons e es ih=>
  intro j;cases j with
  | zero=>simp[hf]
  | succ j=>simp only[List.modify_succ_cons,List.map_cons,ih j]
theorem MR.snoc{gk gv:GTy} {x:gk.D×gv.D} {e:MapEntry} (h1:VD B w gk x.1 e.key) (h2:VD B w gv x.2 e.val):∀ {l:List (gk.D×gv.D)} {es:List MapEntry},MR B w gk gv l es->MR B w gk gv (l++[x]) (es++[e])
 | [],_,h=>by rw[show _=[] from h]; exact⟨e,[],rfl,h1,h2,rfl⟩
 | _ :: _,_,⟨e',r,he,h3,h4,h5⟩=>by subst he; exact⟨e',_,rfl,h3,h4,MR.snoc h1 h2 h5⟩
def xa:GTy->SA->Bool
 | .pair _ _,.agg _=>true
 | .pair _ _,.c _=>false
 | _,.c _=>true
 | _,.agg _=>false
 | _,.arr _ _=>false
theorem VD.ofSA{env:Nat->Loc} {g:GTy} {sa:SA} {c:Bool} {x:g.D} {v:Value} (hd:dec g sa.cells=some (c,x,[])) (hc:c=true) (hs:xa g sa=true) (h:SaR env B w sa v):VD B w g x v:=by
 cases sa with
 | c sc=>
  obtain⟨v1,v2,e,h1,h2⟩:=dec_ok (cs:=[sc]) (vs:=[v]) ⟨v,[],rfl,h,rfl⟩ hd hc;have e2:v2=[]:=h2;rw[e2,List.append_nil]at e;rw[<- e]at h1;cases g with
  | pair a b=>cases hs
  | _=>exact h1
 | arr g2 l=>
  cases g with
  | pair a b=>cases hs
  | _=>cases hs
 | agg cs=>
  obtain⟨vs,e,h3⟩:=h;obtain⟨v1,v2,e1,h1,h2⟩:=dec_ok h3 hd hc;have e2:v2=[]:=h2;rw[e2,List.append_nil]at e1;cases g with
  | pair a b=>exact⟨vs,e,by rw[e1]; exact h1⟩
  | _=>cases hs
theorem VD.sa{env:Nat->Loc} {g:GTy} {x:g.D} {v:Value} {sa:SA} (h:VD B w g x v) (hs:vSA g x=some sa):SaR env B w sa v:=by
 have one:∀ {g:GTy} {x:g.D} {v:Value} {sa:SA},FR B w g x [v]->(gcell g x 0).map SA.c=some sa->SaR env B w sa v:=by
  intro g x v sa h hs;obtain⟨c,hc,rfl⟩:=Option.map_eq_some_iff.1 hs;obtain⟨u,h1,h2⟩:=FR.cell (env:=env) h hc;simp only[List.getElem?_cons_zero,Option.some.injEq]at h1;rw[h1];exact h2
 cases g with
 | pair a b=>
  obtain⟨vs,e,h1⟩:=h;obtain⟨l,hl,rfl⟩:=Option.map_eq_some_iff.1 (show(qS (.pair a b) x 0 (a.size+b.size)).map SA.agg=some sa from hs);obtain⟨us,⟨h2,h3⟩,h4⟩:=FR.cells (env:=env) h1 hl;have hlen:vs.length=a.size+b.size:=FR.length h1
  have:us=vs:=by
   apply List.ext_getElem?
   intro i
   by_cases hi:i < us.length
   ·rw[List.getElem?_eq_getElem hi]
    have:=h3 i us[i] (List.getElem?_eq_getElem hi)
    rw[Nat.zero_add]at this;exact this.symm
   ·rw[List.getElem?_eq_none (by omega),List.getElem?_eq_none (by omega)]
  subst this;exact⟨us,e,h4⟩
 | _=>exact one h hs
end
section
variable {X:Cx} {M:Bool} {n:Nat} {r:Option Nat} {st:ASt} {Q:Exit->ASt->Prop} {ops rest:List Oper} {o:Oper} {d:Nat}
end
end

section
section
variable {X:Cx} {M:Bool} {n:Nat} {r:Option Nat} {st:ASt} {Q:Exit->ASt->Prop} {ops rest:List Oper} {o:Oper} {d:Nat}
end
end

section
section
variable {α β:Type}
end
end

section
section
variable {X:Cx} {M:Bool} {n:Nat} {r:Option Nat} {st:ASt} {Q:Exit->ASt->Prop} {ops rest:List Oper} {o:Oper} {d:Nat}
end
end

section
def decs(g:GTy):Nat->List SC->Option (Bool×List g.D×List SC)
 | 0,r=>some (true,[],r)
 | m+1,r=>match dec g r with
  | some (c1,x,r1)=>match decs g m r1 with
   | some (c2,l,r2)=>some (c1&&c2,x :: l,r2)
   | none=>none
  | none=>none
section
variable {env:Nat->Loc} {B:Nat->Prop} {w:World}
theorem decs_ok{g:GTy}:∀ {m:Nat} {cs:List SC} {c:Bool} {l:List g.D} {r:List SC} {vs:List Value},CsR env B w cs vs->decs g m cs=some (c,l,r)->c=true->l.length=m/\∃ v1 v2,vs=v1++v2/\Flat (FR B w g) l v1/\CsR env B w r v2
 | 0,cs,c,l,r,vs,h,hd,_=>by
  cases hd;exact⟨rfl,[],vs,rfl,rfl,h⟩
 | m+1,cs,c,l,r,vs,h,hd,hc=>by
  simp only[decs]at hd
  split at hd
  ·rename_i c1 x r1 h1
   split at hd
   ·rename_i c2 l2 r2 h2
    cases hd;simp only[Bool.and_eq_true]at hc;obtain⟨v1,v2,rfl,h3,h4⟩:=dec_ok h h1 hc.1;obtain⟨hl,v3,v4,rfl,h5,h6⟩:=decs_ok h4 h2 hc.2;exact⟨by rw[List.length_cons,hl],v1++v3,v4,by rw[List.append_assoc],⟨v1,v3,rfl,h3,h5⟩,h6⟩
   ·cases hd
  ·cases hd
end
section
variable {X:Cx} {R:Nat->Prop} {W:World} {Bi:Bk} {n:Nat} {ks:List Nat} {env:Nat->Loc} {B:Nat->Prop} {w0:World} {H:List Ck} {st st':ASt} {a:Act} {w:World}
theorem Wk.arr(s:Nat) (g:GTy) (m:Nat) (l:List g.D) {t:TypeId} {cs:List SC} {c:Bool} (hid:Nat.blt s n=true) (hs:lk st.L s=some (.c (.ptr s 0))) (hlk:lk st.H s=some (.cells t cs)) (hdec:decs g m cs=some (c,l,[])) (hc:c=true) (hm:m<=140737488355328) :
  Wk X n st ⟨(s,.c (.elt s g.size 0 0)) :: qb s .dead st.L,(s,.row t g l (some m)) :: zM s .dead st.H⟩:=fun R W Bi M a w ⟨ks,env,B,w0,H,hM,h⟩=>by
 obtain⟨ck,Y,Z,⟨b,vs,he,rfl,hcs⟩,h2,h3⟩:=h.heap.take hlk;obtain⟨hl,v1,v2,hv,hfl,hv2⟩:=decs_ok hcs hdec hc;have hv2':v2=[]:=hv2;subst hv2';rw[List.append_nil]at hv;subst hv;subst hl;obtain⟨H2,h4,h5,_⟩:=h3 (upd env s (.row (some ⟨b,0,none⟩) l.length l.length)) .dead zC (fun _ _=>trivial);have hp:(H++ks.map qW).Perm (Ck.cel b vs t :: (Y++Z++ks.map qW)):=by
  rw[h2];simp only[List.append_assoc,List.cons_append];exact List.perm_middle
 have hs1:SH (fun k=>R k\/B k) w0 (Ck.cel b vs t :: (H2++ks.map qW)) w:=(h.sh.perm hp).weak ((h4.append_right _).cons_cons _);refine⟨ks,upd env s (.row (some ⟨b,0,none⟩) l.length l.length),B,w0,.row (some ⟨b,0,none⟩) l.length t g.size l.length vs :: H2,hM,h.size,h.defs,fun q u hu=>?_,⟨_,H2,rfl,⟨_,_,vs,zf,rfl,hfl,fun q hq=>by cases hq; rfl⟩,h5⟩,hs1.toRow (FR.flat_length hfl) hm,h.sub,h.new,pin_upd h.pin (fun q hp=>by have h1:=(h.pin _ _ hp).1; have h2:=zk hid; omega),h.base,h.glob⟩;rw[zu]at hu
 split at hu
 ·rename_i e
  subst e;cases hu;obtain⟨u',h6,b',h7,h8⟩:=h.has _ _ hs;rw[he]at h7;cases h7;exact⟨u',h6,b,_,_,zf,by rw[h8]; simp⟩
 ·obtain⟨u0,hu0,rfl⟩:=qF hu
  obtain⟨u',h6,h7⟩:=h.has q u0 hu0;exact⟨u',h6,VR.sub (z:=.dead) zC (fun _ _=>trivial) h7⟩
end
section
variable {X:Cx} {M:Bool} {n:Nat} {r:Option Nat} {st:ASt} {Q:Exit->ASt->Prop} {ops rest:List Oper} {o:Oper} {d:Nat}
end
end

section
def GTy.key:GTy->Bool
 | .int _=>true
 | .bool=>true
 | .str=>true
 | .pair g h=>g.key&&h.key
 | _=>false
def GTy.vals:(g:GTy)->g.D->List Value
 | .int k,x=>[.int k x]
 | .bool,x=>[.bool x]
 | .str,x=>[qe x]
 | .pair g h,x=>g.vals x.1++h.vals x.2
 | _,_=>[]
theorem FR.vals{B:Nat->Prop} {w:World}:∀ {g:GTy} {x:g.D} {vs:List Value},g.key=true->FR B w g x vs->vs=g.vals x
 | .int _,_,_,_,h=>h
 | .bool,_,_,_,h=>h
 | .str,_,_,_,h=>h
 | .sl _,_,_,h,_=>by cases h
 | .csl _,_,_,h,_=>by cases h
 | .unit,_,_,h,_=>by cases h
 | .pair g h,x,_,hk,⟨v1,v2,e,h1,h2⟩=>by
  simp only[GTy.key,Bool.and_eq_true]at hk;rw[e,FR.vals hk.1 h1,FR.vals hk.2 h2]
  rfl
theorem beq_iff{g:GTy} (x y:g.D) (hk:g.key=true):g.beq x y=true ↔ x=y:=by
 induction g with
 | int k=>show((x:Int) == y)=true ↔ _; simp
 | bool=>show((x:Bool) == y)=true ↔ _; simp
 | str=>show((x:List UInt8) == y)=true ↔ _; simp
 | sl g _=>cases hk
 | csl g _=>cases hk
 | unit=>cases hk
 | pair g h ih1 ih2=>
  simp only[GTy.key,Bool.and_eq_true]at hk;show(g.beq x.1 y.1&&h.beq x.2 y.2)=true ↔ _;rw[Bool.and_eq_true,ih1 _ _ hk.1,ih2 _ _ hk.2];exact⟨fun⟨a,b⟩=>Prod.ext a b,fun e=>by rw[e]; exact⟨rfl,rfl⟩⟩
structure KeyOk(P:Program) (t:TypeId) (g:GTy):Prop where
 key:g.key=true
 eq:∀ (x y:g.D) (w:World),(Op.equalIn 10000 t (.agg (g.vals x).toArray) (.agg (g.vals y).toArray)).run P w=.ok (g.beq x y) w
 guard:P.eqGuardType P.depth t=false
def GTy.isK:GTy->Nat->Bool
 | .int _,0=>true
 | .bool,1=>true
 | .str,2=>true
 | _,_=>false
def eqFs(e:TypeId->GTy->Bool):Nat->List Field->GTy->Bool
 | _,[],_=>false
 | off, [f], g => decide (f.name ≠ "_") && (Nat.beq f.offset off && e f.type g)
 | off, f :: fs, .pair g h => decide (f.name ≠ "_") && (Nat.beq f.offset off && (e f.type g && eqFs e (off + g.size) fs h))
 | _,_,_=>false
def eqT(P:Program) (tt:TT):Nat->TypeId->GTy->Bool
 | 0,_,_=>false
 | d+1,t,g=>match tt.find t with
  | none=>false
  | some te=>match te.ti.desc with
   | .int _=>g.isK 0
   | .bool=>g.isK 1
   | .string=>g.isK 2
   | .struct fs=>Nat.beq te.ti.size g.size&&(!P.stoodInHeld t&&eqFs (eqT P tt d) 0 fs.toList g)
   | _=>false
def vd(tt:TT) (t:TypeId) (vs:List Value):Value:=match tt.find t with
 | some te=>match qt te.ti.desc with
  | true=>.agg vs.toArray
  | false=>vs.headD undef
 | none=>undef
theorem vals_len:∀ {g:GTy} (x:g.D),g.key=true->(g.vals x).length=g.size
 | .int _,_,_=>rfl
 | .bool,_,_=>rfl
 | .str,_,_=>rfl
 | .sl _,_,h=>by cases h
 | .csl _,_,h=>by cases h
 | .unit,_,h=>by cases h
 | .pair g h,x,hk=>by
  simp only[GTy.key,Bool.and_eq_true]at hk;show(g.vals x.1++h.vals x.2).length=g.size+h.size;rw[List.length_append,vals_len x.1 hk.1,vals_len x.2 hk.2]
theorem xl{P:Program} {tt:TT} (hX:tt.ok P) {d:Nat} {t:TypeId} {g:GTy} {x:g.D} {xs:Array Value} {off:Nat} {r:List Value} (hk:g.key=true) (he:eqT P tt d t g=true) (hx:xs.toList.drop off=g.vals x++r) (w:World):(part t xs off).run P w=.ok (vd tt t (g.vals x)) w:=by
 cases d with
 | zero=>cases he
 | succ d=>
  unfold eqT at he;cases hf:tt.find t with
  | none=>simp[hf]at he
  | some te=>
   rw[hf]at he;dsimp only at he;have hti:=(TT.get hX hf).ti;have h1:∀ v,g.vals x=[v]->xs[off]?=some v:=fun v hv=>by
    have h2:(xs.toList.drop off)[0]?=some v:=by rw[hx,hv]; rfl
    rw[List.getElem?_drop]at h2
    simpa using h2
   unfold part;simp only[Sem.run_bind,TI.run_isAgg hti,Result.andThen_ok];unfold vd;rw[hf];dsimp only;have hone:∀ q,g.isK q=true->∃ v,g.vals x=[v]:=fun q hq=>by
    cases g with
    | int k=>exact⟨_,rfl⟩
    | bool=>exact⟨_,rfl⟩
    | str=>exact⟨_,rfl⟩
    | sl _=>cases hk
    | csl _=>cases hk
    | unit=>cases hk
    | pair _ _=>cases q<;>cases hq
   split at he
   ·rename_i hd
    obtain⟨v,hv⟩:=hone _ he;rw[hd,h1 v hv,hv]
    rfl
   ·rename_i hd
    obtain⟨v,hv⟩:=hone _ he;rw[hd,h1 v hv,hv]
    rfl
   ·rename_i hd
    obtain⟨v,hv⟩:=hone _ he;rw[hd,h1 v hv,hv]
    rfl
   ·rename_i fs hd
    simp only[Bool.and_eq_true]at he;rw[hd];have hs:=Nat.eq_of_beq_eq_true he.1;simp only[qt,if_true,Sem.run_bind,TI.run_sizeOf hti,Result.andThen_ok,Sem.run_pure,hs];have h3:xs.extract off (off+g.size)=(g.vals x).toArray:=by
     apply Array.toList_inj.1
     rw[Array.toList_extract,List.extract_eq_take_drop,hx,Nat.add_sub_cancel_left,List.take_left' (vals_len x hk)]
    rw[h3]
   ·cases he
theorem eqFs_ok{P:Program} {tt:TT} (hX:tt.ok P) {k d:Nat} (ih:∀ t (g:GTy) (x y:g.D) w,g.key=true->eqT P tt k t g=true->(Op.equalIn d t (vd tt t (g.vals x)) (vd tt t (g.vals y))).run P w=.ok (g.beq x y) w) :
  ∀ (fs:List Field) (off:Nat) (g:GTy) (x y:g.D) (xs ys:Array Value) (w:World),g.key=true->eqFs (eqT P tt k) off fs g=true->xs.toList.drop off=g.vals x->ys.toList.drop off=g.vals y->(Op.eqFields d xs ys fs).run P w=.ok (g.beq x y) w:=by
 intro fs
 induction fs with
 | nil=>intro off g x y xs ys w _ h; simp[eqFs]at h
 | cons f fs ihf=>
  intro off g x y xs ys w hk h hx hy;cases fs with
  | nil=>
   have h' : (decide (f.name ≠ "_") && (Nat.beq f.offset off && eqT P tt k f.type g)) = true := by
    cases g<;>exact h
   simp only[Bool.and_eq_true,decide_eq_true_eq]at h';obtain⟨hn,ho,he⟩:=h';have ho:=Nat.eq_of_beq_eq_true ho;simp only[Op.eqFields,if_pos hn,Sem.run_bind,ho,xl hX hk he (r:=[]) (by rw[hx,List.append_nil]),xl hX hk he (r:=[]) (by rw[hy,List.append_nil]),Result.andThen_ok,ih _ _ _ _ _ hk he];cases g.beq x y<;>simp
  | cons f2 fs=>
   cases g with
   | pair g h2=>
    have h' : (decide (f.name ≠ "_") && (Nat.beq f.offset off && (eqT P tt k f.type g && eqFs (eqT P tt k) (off + g.size) (f2 :: fs) h2))) = true := h
    simp only[Bool.and_eq_true,decide_eq_true_eq]at h';obtain⟨hn,ho,he,hr⟩:=h';have ho:=Nat.eq_of_beq_eq_true ho;simp only[GTy.key,Bool.and_eq_true]at hk;have hx':xs.toList.drop off=g.vals x.1++h2.vals x.2:=hx;have hy':ys.toList.drop off=g.vals y.1++h2.vals y.2:=hy;have hrest:=ihf (off+g.size) h2 x.2 y.2 xs ys w hk.2 hr (by rw[<- List.drop_drop,hx',<- vals_len x.1 hk.1,List.drop_left]) (by rw[<- List.drop_drop,hy',<- vals_len y.1 hk.1,List.drop_left]);show _=Result.ok (g.beq x.1 y.1&&h2.beq x.2 y.2) w;rw[Op.eqFields,if_pos hn];simp only[Sem.run_bind,ho,xl hX hk.1 he hx',xl hX hk.1 he hy',Result.andThen_ok,ih _ _ _ _ _ hk.1 he];cases hb:g.beq x.1 y.1 with
    | true=>simpa using hrest
    | false=>simp
   | int _=>simp[eqFs]at h
   | bool=>simp[eqFs]at h
   | str=>simp[eqFs]at h
   | sl _=>simp[eqFs]at h
   | csl _=>simp[eqFs]at h
   | unit=>simp[eqFs]at h
theorem eqT_ok{P:Program} {tt:TT} (hX:tt.ok P) (m:Nat):∀ (k:Nat) (t:TypeId) (g:GTy) (x y:g.D) (w:World),g.key=true->eqT P tt k t g=true->(Op.equalIn (m+k) t (vd tt t (g.vals x)) (vd tt t (g.vals y))).run P w=.ok (g.beq x y) w:=by
 intro k
 induction k with
 | zero=>intro t g x y w _ h; cases h
 | succ k ih=>
  intro t g x y w hk h;have h0:=h;unfold eqT at h;cases hf:tt.find t with
  | none=>simp[hf]at h
  | some te=>
   rw[hf]at h;dsimp only at h;have hti:=(TT.get hX hf).ti;have hd0:=hti.1;unfold vd;rw[hf];dsimp only
   split at h
   ·rename_i k1 hd
    rw[hd]at hd0 ⊢;cases g with
    | int k=>exact run_equalIn_int w _ t _ _ _ _ hd0
    | _=>cases h
   ·rename_i hd
    rw[hd]at hd0 ⊢;cases g with
    | bool=>exact run_equalIn_bool w _ t _ _ hd0
    | _=>cases h
   ·rename_i hd
    rw[hd]at hd0 ⊢;cases g with
    | str=>
     have:=run_equalIn_string (P:=P) w (m+k) t ⟨List.toArray x⟩ ⟨List.toArray y⟩ hd0
     simp only[bytes_toList]at this;exact this
    | _=>cases h
   ·rename_i fs hd
    rw[hd]at hd0 ⊢;simp only[Bool.and_eq_true,Bool.not_eq_true']at h;have hfs:P.underlying t=some (.struct fs.toList.toArray):=by simpa using hd0
    show(Op.equalIn (m+k+1) t (.agg _) (.agg _)).run P w=_;rw[eq_struct w (m+k) t _ _ hfs h.2.1];exact eqFs_ok hX ih fs.toList 0 g x y _ _ w hk h.2.2 (by simp) (by simp)
   ·cases h
theorem KeyOk.of{P:Program} {tt:TT} (hX:tt.ok P) {t:TypeId} {te:TE} {g:GTy} {fs:Array Field} (hk:g.key=true) (hf:tt.find t=some te) (hd:te.ti.desc=.struct fs) (h:eqT P tt 12 t g=true) (hg:P.eqGuardType P.depth t=false):KeyOk P t g:=by
 refine⟨hk,fun x y w=>?_,hg⟩
 have:=eqT_ok hX 9988 12 t g x y w hk h
 unfold vd at this;rw[hf]at this;dsimp only at this;rw[hd]at this;exact this
section
variable {X:Cx} {M:Bool} {n:Nat} {r:Option Nat} {st:ASt} {Q:Exit->ASt->Prop} {ops rest:List Oper} {o:Oper} {d:Nat}
theorem CsR.vals{env:Nat->Loc} {B:Nat->Prop} {w:World} {g:GTy} {cs:List SC} {x:g.D} {c:Bool} {v:Value} (hk:g.key=true) (h1:SaR env B w (.agg cs) v) (hd:dec g cs=some (c,x,[])) (hc:c=true):v=.agg (g.vals x).toArray:=by
 obtain⟨vs,rfl,h1⟩:=h1;obtain⟨v1,v2,e2,hf,h2⟩:=dec_ok h1 hd hc;have h4:v2=[]:=h2;subst h4;rw[List.append_nil]at e2;subst e2;rw[FR.vals hk hf]
end
end

section
open Go.ChangeShapes Go.WideShapes Go.ChangeAt Go.WideElems Go.RowKit
def WfD:(g:GTy)->g.D->Prop
 | .int k,(x:Int)=>k.min<=x/\x<=k.max
 | .sl g,(l:List g.D)=>∀ y∈l,WfD g y
 | .pair g h,x=>WfD g x.1/\WfD h x.2
 | _,_=>True
def sizeIs(tt:TT) (t:TypeId) (n:Nat):Bool:=match tt.find t with
 | some te=>Nat.beq te.ti.size n
 | none=>false
def fsG(tt:TT) (e:TypeId->GTy->Bool):Nat->List Field->GTy->Bool
 | _,[],_=>false
 | off,[f],g=>Nat.beq f.offset off&&(sizeIs tt f.type g.size&&e f.type g)
 | off,f :: fs,.pair g h=>Nat.beq f.offset off&&(sizeIs tt f.type g.size&&(e f.type g&&fsG tt e (off+g.size) fs h))
 | _,_,_=>false
def arG(tt:TT) (e:TypeId->GTy->Bool) (t:TypeId) (s:Nat):Nat->GTy->Bool
 | 0,_=>false
 | 1,g=>Nat.beq g.size s&&e t g
 | n+1,.pair g h=>Nat.beq g.size s&&(e t g&&arG tt e t s n h)
 | _,_=>false
def GTy.isI:GTy->IntKind->Bool
 | .int k,k'=>decide (k=k')
 | _,_=>false
def tyG(tt:TT):Nat->TypeId->GTy->Bool
 | 0,_,_=>false
 | d+1,t,g=>match tt.find t with
  | none=>false
  | some te=>match te.ti.desc with
   | .int k=>g.isI k
   | .bool=>g.isK 1
   | .string=>g.isK 2
   | .slice e=>match g with
    | .sl h=>Nat.blt 0 h.size&&(sizeIs tt e h.size&&tyG tt d e h)
    | _=>false
   | .struct fs=>Nat.beq te.ti.size g.size&&fsG tt (tyG tt d) 0 fs.toList g
   | .array n e=>Nat.beq te.ti.size g.size&&(match tt.find e with
    | some ee=>arG tt (tyG tt d) e ee.ti.size n g
    | none=>false)
   | _=>false
section
variable {H:Type} {enc:TypeId×Value->H} {P:Program} {W:World} {tt:TT}
theorem cells_tt(hX:tt.ok P) {t:TypeId} {te:TE} (h:tt.find t=some te):P.cellsOf t=te.ti.size:=by
 obtain⟨x,h1,h2,_⟩:=TI.info (TT.get hX h).ti;unfold Program.cellsOf;rw[h1];exact h2
theorem cells_is(hX:tt.ok P) {t:TypeId} {n:Nat} (h:sizeIs tt t n=true):P.cellsOf t=n:=by
 unfold sizeIs at h
 split at h
 ·rename_i te hf
  rw[cells_tt hX hf];exact Nat.eq_of_beq_eq_true h
 ·cases h
theorem slice_dec{g:GTy} {R:g.D->Prop} (hs0:0 < g.size) {t e:TypeId} (ht:P.underlying t=some (.slice e)) (hc:P.cellsOf e=g.size) (hdec:DecOk enc P W e g R):DecOk enc P W t (.sl g) (fun(l:List g.D)=>∀ y∈l,R y):=fun k cs x hf=>by
 let α:={ p:g.D×List Value // R p.1/\FR (fun b=>b < W.heap.size) W g p.1 p.2 }
 let f:α->List Value:=fun p=>p.1.2
 have hs:∀ x:α,(f x).length=g.size:=fun x=>x.2.2.length
 rcases DataW.trod_slice ht hf with⟨h,_⟩ | ⟨a,len,cap,elems,rest,n,_,h,_,_,hl,hm,hlen,hel,_,_⟩
 ·subst h
  exact⟨([]:List g.D),(fun y hy=>by cases hy),none,0,[],rfl,Nat.le_refl _,Nat.zero_le _,rfl,Reads.nil _ _ _,fun _ _ h=>absurd h (Nat.lt_irrefl _)⟩
 ·subst h
  rw[hc]at hel;obtain⟨l,hll,hq⟩:=choose_list (Q:=fun i (y:α)=>∀ j,j < g.size->W.cell? ((a.add (i * g.size)).add j)=(f y)[j]?) len (fun i hi=>by
   have h1:=hel i hi;have h2:elems[i]?=some (elems[i]'(by omega)):=List.getElem?_eq_getElem (by omega);rw[h2,Option.bind_eq_some_iff]at h1;obtain⟨cs,h3,h4⟩:=h1;obtain⟨y,hy1,hy2⟩:=hdec _ _ _ h4;exact⟨⟨(y,cs),hy1,hy2⟩,(World.cells?_some h3).2.2⟩)
  have hr:Reads W (some a) len g.size (l.flatMap f):=by
   refine⟨by rw[flat_length f g.size hs,hll],fun h0=>?_⟩;have hz:=hq 0 (by omega) 0 hs0;have hz':W.cell? a=some ((f l[0])[0]'(by rw[hs]; exact hs0)):=by
    have e2:(a.add (0 * g.size)).add 0=a:=by simp[Addr.add]
    rw[e2,List.getElem?_eq_getElem (by rw[hs]; exact hs0)]at hz;exact hz
   have hsp:=spot_none hz';refine⟨a.block,a.off,congrArg some hsp,fun j u hu=>?_⟩;have hj:j < len * g.size:=by have:=(List.getElem?_eq_some_iff.1 hu).1; rwa [flat_length f g.size hs,hll]at this
   have hdiv:j / g.size < len:=(Nat.div_lt_iff_lt_mul hs0).2 hj;have hmod:=Nat.mod_lt j hs0;have h5:=hq (j / g.size) (by omega) (j % g.size) hmod;rw[hsp,Addr.add_lit,Addr.add_lit,List.getElem?_eq_getElem (by rw[hs]; exact hmod)]at h5;have h6:=flat_get f g.size hs l (j / g.size) (j % g.size) (by omega) _ (List.getElem?_eq_getElem (by rw[hs]; exact hmod));have hjs:j / g.size * g.size+j % g.size=j:=by rw[Nat.mul_comm]; exact Nat.div_add_mod j g.size
   rw[hjs,hu]at h6;rw[Nat.add_assoc,hjs]at h5;rw[h5,h6]
  refine⟨l.map (·.1.1),fun x hx=>?_,some a,cap,l.flatMap f,by rw[List.length_map,hll],by rw[List.length_map,hll]; exact hl,hm,flat_sub l,by rw[List.length_map,hll]; exact hr,fun b p hm e=>?_⟩
  ·obtain⟨p,_,rfl⟩:=List.mem_map.1 hx
   exact p.2.1
  ·rw[List.length_map]at hm
   obtain⟨b',p',e',hcell⟩:=hr.2 (by omega);rw[e]at e';cases e';cases hx:(l.flatMap f)[0]? with
   | some u=>exact cell_lt (hcell 0 u hx)
   | none=>
    exfalso
    have h3:=hr.1;rw[List.getElem?_eq_none_iff]at hx;have h4:0 < len * g.size:=Nat.mul_pos (by omega) hs0;omega
theorem fs_dec(hX:tt.ok P) {e:TypeId->GTy->Bool} (ih:∀ t g,e t g=true->DecOk enc P W t g (WfD g)):∀ (fs:List Field) (off:Nat) (g:GTy) (cs:List Value),fsG tt e off fs g=true->cs.length=off+g.size ->
  (∀ f∈fs,∃ m x,DataW.trod enc P W 0 (fun _=>true) true m f.type ((cs.drop f.offset).take (P.cellsOf f.type))=some x)->∃ y:g.D,WfD g y/\FR (fun b=>b < W.heap.size) W g y (cs.drop off):=by
 intro fs
 induction fs with
 | nil=>intro off g cs h; simp[fsG]at h
 | cons f fs ihf=>
  intro off g cs h hl hf;cases fs with
  | nil=>
   have h':(Nat.beq f.offset off&&(sizeIs tt f.type g.size&&e f.type g))=true:=by
    cases g<;>exact h
   simp only[Bool.and_eq_true]at h';obtain⟨ho,hs,he⟩:=h';have ho:=Nat.eq_of_beq_eq_true ho;obtain⟨m,x,hx⟩:=hf f List.mem_cons_self;obtain⟨y,h1,h2⟩:=ih _ _ he _ _ _ hx;rw[ho,cells_is hX hs,List.take_of_length_le (by rw[List.length_drop]; omega)]at h2;exact⟨y,h1,h2⟩
  | cons f2 fs=>
   cases g with
   | pair g h2=>
    have h':(Nat.beq f.offset off&&(sizeIs tt f.type g.size&&(e f.type g&&fsG tt e (off+g.size) (f2 :: fs) h2)))=true:=h;simp only[Bool.and_eq_true]at h';obtain⟨ho,hs,he,hr⟩:=h';have ho:=Nat.eq_of_beq_eq_true ho;have hl':cs.length=off+(g.size+h2.size):=hl;obtain⟨m,x,hx⟩:=hf f List.mem_cons_self;obtain⟨y1,h3,h4⟩:=ih _ _ he _ _ _ hx;rw[ho,cells_is hX hs]at h4;obtain⟨y2,h5,h6⟩:=ihf (off+g.size) h2 cs hr (by omega) (fun q hq=>hf q (List.mem_cons_of_mem _ hq));refine⟨(y1,y2),⟨h3,h5⟩,_,_,?_,h4,h6⟩;rw[<- List.drop_drop,List.take_append_drop]
   | int _=>simp[fsG]at h
   | bool=>simp[fsG]at h
   | str=>simp[fsG]at h
   | sl _=>simp[fsG]at h
   | csl _=>simp[fsG]at h
   | unit=>simp[fsG]at h
theorem ar_dec{e:TypeId->GTy->Bool} {t:TypeId} {s:Nat} (ih:∀ g,e t g=true->DecOk enc P W t g (WfD g)):∀ (n:Nat) (i0:Nat) (g:GTy) (cs:List Value),arG tt e t s n g=true->cs.length=i0 * s+g.size ->
  (∀ i,i < n->∃ m x,DataW.trod enc P W 0 (fun _=>true) true m t ((cs.drop ((i0+i) * s)).take s)=some x)->∃ y:g.D,WfD g y/\FR (fun b=>b < W.heap.size) W g y (cs.drop (i0 * s)):=by
 intro n
 induction n with
 | zero=>intro i0 g cs h; simp[arG]at h
 | succ n ihn=>
  intro i0 g cs h hl hf;cases n with
  | zero=>
   have h':(Nat.beq g.size s&&e t g)=true:=by
    cases g<;>exact h
   simp only[Bool.and_eq_true]at h';obtain⟨hs,he⟩:=h';have hs:=Nat.eq_of_beq_eq_true hs;obtain⟨m,x,hx⟩:=hf 0 (by omega);obtain⟨y,h1,h2⟩:=ih _ he _ _ _ hx;rw[Nat.add_zero,List.take_of_length_le (by rw[List.length_drop]; omega)]at h2;exact⟨y,h1,h2⟩
  | succ n=>
   cases g with
   | pair g h2=>
    have h':(Nat.beq g.size s&&(e t g&&arG tt e t s (n+1) h2))=true:=h;simp only[Bool.and_eq_true]at h';obtain⟨hs,he,hr⟩:=h';have hs:=Nat.eq_of_beq_eq_true hs;have hl':cs.length=i0 * s+(g.size+h2.size):=hl;obtain⟨m,x,hx⟩:=hf 0 (by omega);obtain⟨y1,h3,h4⟩:=ih _ he _ _ _ hx;obtain⟨y2,h5,h6⟩:=ihn (i0+1) h2 cs hr (by rw[Nat.add_mul]; omega) (fun i hi=>by
     have:=hf (i+1) (by omega)
     rw[show i0+1+i=i0+(i+1) by omega];exact this)
    refine⟨(y1,y2),⟨h3,h5⟩,_,_,?_,h4,h6⟩;rw[Nat.add_zero,Nat.add_mul,Nat.one_mul,<- List.drop_drop,List.take_append_drop]
   | int _=>simp[arG]at h
   | bool=>simp[arG]at h
   | str=>simp[arG]at h
   | sl _=>simp[arG]at h
   | csl _=>simp[arG]at h
   | unit=>simp[arG]at h
theorem tyG_dec(hX:tt.ok P):∀ (d:Nat) (t:TypeId) (g:GTy),tyG tt d t g=true->DecOk enc P W t g (WfD g):=by
 intro d
 induction d with
 | zero=>intro t g h; cases h
 | succ d ih=>
  intro t g h k cs x hx;unfold tyG at h;cases hf:tt.find t with
  | none=>simp[hf]at h
  | some te=>
   rw[hf]at h;dsimp only at h;have hti:=(TT.get hX hf).ti;have hd0:=hti.1;have hsz:=cells_tt hX hf
   split at h
   ·rename_i k1 hd
    rw[hd]at hd0;cases g with
    | int k2=>
     have:k2=k1:=of_decide_eq_true h
     subst this;exact dec_int hd0 k cs x hx
    | _=>cases h
   ·rename_i hd
    rw[hd]at hd0;cases g with
    | bool=>
     obtain⟨b,rfl,_⟩:=DataW.trod_bool hd0 hx;exact⟨b,trivial,rfl⟩
    | _=>cases h
   ·rename_i hd
    rw[hd]at hd0;cases g with
    | str=>
     obtain⟨s,rfl,_⟩:=DataW.trod_string hd0 hx;exact⟨s.data.toList,trivial,rfl⟩
    | _=>cases h
   ·rename_i e hd
    rw[hd]at hd0;cases g with
    | sl g=>
     simp only[Bool.and_eq_true]at h;exact slice_dec (zk h.1) hd0 (cells_is hX h.2.1) (ih _ _ h.2.2) k cs x hx
    | _=>cases h
   ·rename_i fs hd
    rw[hd]at hd0;simp only[Bool.and_eq_true]at h;have hs:=Nat.eq_of_beq_eq_true h.1;obtain⟨xs,n,_,_,hlen,hxl,hel⟩:=DataW.trod_struct hd0 hx;rw[hsz,hs]at hlen;obtain⟨y,h1,h2⟩:=fs_dec (enc:=enc) (W:=W) hX ih fs.toList 0 g cs h.2 (by omega) (fun f hfm=>by
     obtain⟨i,hi,rfl⟩:=List.mem_iff_getElem.1 hfm;have hi':i < fs.size:=by simpa using hi
     have h3:=hel i fs[i] (Array.getElem?_eq_getElem hi');rw[List.getElem?_eq_getElem (by omega)]at h3;exact⟨n,_,by simpa using h3⟩)
    exact⟨y,h1,h2⟩
   ·rename_i n e hd
    rw[hd]at hd0;simp only[Bool.and_eq_true]at h;have hs:=Nat.eq_of_beq_eq_true h.1;obtain⟨xs,m,_,_,hlen,hxl,hel⟩:=DataW.trod_array hd0 hx;rw[hsz,hs]at hlen;have h2:=h.2
    split at h2
    ·rename_i ee hee
     rw[cells_tt hX hee]at hel;obtain⟨y,h1,h3⟩:=ar_dec (enc:=enc) (W:=W) (tt:=tt) (fun g hg=>ih e g hg) n 0 g cs h2 (by omega) (fun i hi=>by
      have h3:=hel i hi;rw[List.getElem?_eq_getElem (by omega)]at h3;rw[Nat.zero_add];exact⟨m,_,h3⟩)
     rw[Nat.zero_mul]at h3;exact⟨y,h1,h3⟩
    ·cases h2
   ·cases h
theorem open_agg(hX:tt.ok P) {t:TypeId} {te:TE} {g:GTy} (hf:tt.find t=some te) (ha:qt te.ti.desc=true) (h:tyG tt 12 t g=true) {r:Reach} {b0:Nat} {v:Value} {d:DataW H} {ps:List MemPlace} (hval:Value.okWide P W r b0 t v) (hd:DataW.Trod enc P W 0 (fun _=>true) true t v d ps) :
  ∃ y:g.D,WfD g y/\∀ env ds,qS g y 0 g.size=some ds->SaR env (fun b=>b < W.heap.size) W (.agg ds) v:=by
 have hti:=(TT.get hX hf).ti;obtain⟨cs,rfl⟩:∃ cs,v=.agg cs:=by
  have hd0:=hti.1;unfold Value.okWide at hval;rw[hd0]at hval;cases hdd:te.ti.desc with
  | struct fs=>rw[hdd]at hval; obtain⟨cs,e,_⟩:=hval; exact⟨cs,e⟩
  | array n e=>rw[hdd]at hval; obtain⟨cs,e,_⟩:=hval; exact⟨cs,e⟩
  | _=>rw[hdd]at ha; cases ha
 obtain⟨n,hn⟩:=hd;obtain⟨y,h1,h2⟩:=tyG_dec hX 12 t g h n _ _ hn;refine⟨y,h1,fun env ds hds=>?_⟩;obtain⟨us,hp,hc⟩:=FR.cells (env:=env) h2 hds;have hl:cs.toList.length=g.size:=h2.length;have hu:us=cs.toList:=by
  refine List.ext_getElem? fun j=>?_
  by_cases hj:j < us.length
  ·have:=hp.2 j _ (List.getElem?_eq_getElem hj)
   rw[Nat.zero_add]at this;rw[List.getElem?_eq_getElem hj];exact this.symm
  ·rw[List.getElem?_eq_none (by omega),List.getElem?_eq_none (by rw[hl]; have:=hp.1; omega)]
 subst hu;exact⟨cs.toList,rfl,hc⟩
end
end

section
section
variable {env:Nat->Loc} {B:Nat->Prop} {w:World}
end
def GTy.isPair:GTy->Bool
 | .pair _ _=>true
 | _=>false
theorem VD.of_FR{B:Nat->Prop} {w:World} {g:GTy} {x:g.D} {vs:List Value} (h:FR B w g x vs) (hp:g.isPair=true):VD B w g x (.agg vs.toArray):=by
 cases g with
 | pair a b=>exact⟨vs,rfl,h⟩
 | _=>cases hp
theorem VD.of_FR1{B:Nat->Prop} {w:World} {g:GTy} {x:g.D} {v:Value} (h:FR B w g x [v]) (hp:g.isPair=false):VD B w g x v:=by
 cases g with
 | pair a b=>cases hp
 | _=>exact h
section
variable {X:Cx} {M:Bool} {n:Nat} {r:Option Nat} {st:ASt} {Q:Exit->ASt->Prop} {ops rest:List Oper} {o:Oper} {d:Nat}
end
end

section
section
variable {P:Program} {b:Frame} {a:Act} {k:List Item} {cs:List Frame} {w:World} {Q:Exit->Act->World->Prop} {F:Fence} {n:Nat}
theorem stepR_scope{c:Code}:step P (lone (b.atR a (.code (.scope c) :: k)) cs w)=.next (lone (b.atR a (.code c :: .inScope c :: k)) cs w):=
 step_lone_go (by simp[stepG,stepG.exec,Frame.atR])
theorem stepR_inScope{c:Code}:step P (lone (b.atR a (.inScope c :: k)) cs w)=.next (lone (b.atR a k) cs w):=
 step_lone_go (by simp[stepG,stepG.exec,Frame.atR])
theorem wpIn_scope{c:Code} (h:c.wpIn F n P (Exit.noGoto Q) a w):(Code.scope c).wpIn F n P Q a w:=by
 intro b k cs hro hb hr;have h0:(lone (b.atR a (.code (.scope c) :: k)) cs w).fenced P F:=fenced_calm hb hr rfl;obtain⟨e,a₁,w₁,hq,harr⟩:=h b (.inScope c :: k) cs hro hb hr;have hx:∀ id,exitTo id (.inScope c :: k)=exitTo id k:=fun id=>by simp[exitTo]
 cases e with
 | normal=>exact⟨.normal,a₁,w₁,hq,.head h0 stepR_scope (StepsIn.trans harr (.one (fenced_calm hb hr rfl) stepR_inScope))⟩
 | exit id=>exact⟨.exit id,a₁,w₁,hq,.of_steps (.one h0 stepR_scope) ⟨fun k' hk=>harr.1 k' (by rw[hx]; exact hk),fun hr hk=>harr.2 hr (by rw[hx]; exact hk)⟩⟩
 | goto l=>exact hq.elim
 | ret=>exact⟨_,a₁,w₁,hq,.of_steps (.one h0 stepR_scope) harr⟩
 | panic ch=>exact⟨_,a₁,w₁,hq,.of_steps (.one h0 stepR_scope) harr⟩
 | outgrown=>exact⟨_,a₁,w₁,hq,.of_steps (.one h0 stepR_scope) harr⟩
end
section
variable {X:Cx} {M:Bool} {n:Nat} {r:Option Nat} {st:ASt} {Q:Exit->ASt->Prop} {c:Code}
theorem ax_label{l:Nat} (h:Q .normal st):AX X M n r (.label l) st Q:=fun R W Bi a w hA=>wpIn_label ⟨st,h,hA⟩
end
end

section
section
variable {X:Cx} {M:Bool} {n:Nat} {r:Option Nat} {st:ASt} {Q:Exit->ASt->Prop} {ops rest:List Oper} {o:Oper} {d:Nat}
end
end

section
theorem run_indexA{P:Program} {t e:TypeId} {m:Nat} {i':TI} {cs:List Value} {k:IntKind} {j:Nat} {w:World} (ht:P.underlying t=some (.array m e)) (he:TI.ok P e i') (hj:j < m) {v:Value} (hv:(part e cs.toArray (j * i'.size)).run P w=.ok v w):(Instr.index t (.agg cs.toArray) (.int k (j:Int))).run P w=.ok v w:=by
 have h0:(0:Int)<=(j:Int):=Int.natCast_nonneg j;unfold Instr.index;simp only[asIntOf,Sem.run_bind,Sem.run_pure,Result.andThen_ok,run_underlying ht];rw[if_pos ⟨h0,by omega⟩];simp only[Sem.run_bind,TI.run_sizeOf he,Result.andThen_ok,Int.toNat_natCast,hv]
theorem part_elem{P:Program} {e:TypeId} {i':TI} {B:Nat->Prop} {w0 w:World} {g:GTy} {l:List g.D} {vs:List Value} {j:Nat} (he:TI.ok P e i') (hf:Flat (FR B w0 g) l vs) (hj:j < l.length) (hsz:g.size=i'.size) (hag:qt i'.desc=g.isPair) (hone:(g.isPair || Nat.beq g.size 1)=true) :
  ∃ v,(part e vs.toArray (j * i'.size)).run P w=.ok v w/\VD B w0 g (l.getD j g.zero) v:=by
 have hxl:l[j]?=some (l.getD j g.zero):=by rw[List.getD_eq_getElem?_getD,List.getElem?_eq_getElem hj]; rfl
 have h2:=Flat.get (fun _ _=>FR.length) hf hxl;have hlen:=FR.length h2;cases hp:g.isPair with
 | true=>
  refine⟨.agg (vs.toArray.extract (j * i'.size) (j * i'.size+i'.size)),?_,?_⟩
  ·unfold part
   simp[TI.run_isAgg he,hag,hp,TI.run_sizeOf he]
  ·have:=VD.of_FR h2 hp
   rw[<- hsz];have e1:vs.toArray.extract (j * g.size) (j * g.size+g.size)=((vs.drop (j * g.size)).take g.size).toArray:=by
    apply Array.ext'
    simp[Array.toList_extract,List.extract]
   rw[e1];exact this
 | false=>
  rw[hp,Bool.false_or]at hone;have h1s:=Nat.eq_of_beq_eq_true hone;obtain⟨v,hv1⟩:∃ v,(vs.drop (j * g.size)).take g.size=[v]:=by
   match hm:(vs.drop (j * g.size)).take g.size,hlen with
   | [v],_=>exact⟨v,rfl⟩
   | [],h=>simp[h1s]at h
   | _ :: _ :: _,h=>simp[h1s]at h
  have hget:vs[j * i'.size]?=some v:=by
   have:=congrArg (·[0]?) hv1
   rw[<- hsz]
   simpa [List.getElem?_take,List.getElem?_drop,h1s] using this
  refine⟨v,?_,VD.of_FR1 (by rw[<- hv1]; exact h2) hp⟩;unfold part
  simp[TI.run_isAgg he,hag,hp,hget]
def arrL(g:GTy) (m:Nat):SA->Option (Bool×List g.D)
 | .agg cs=>match decs g m cs with
  | some (c,l,[])=>some (c,l)
  | _=>none
 | .arr g' l=>match decEq g' g with
  | isTrue h=>some (true,h ▸ l)
  | isFalse _=>none
 | _=>none
theorem arrL_ok{env:Nat->Loc} {B:Nat->Prop} {w:World} {g:GTy} {m:Nat} {x:SA} {c:Bool} {l:List g.D} {v:Value} (h:SaR env B w x v) (ha:arrL g m x=some (c,l)) (hc:c=true):∃ vs,v=.agg vs.toArray/\Flat (FR B w g) l vs:=by
 unfold arrL at ha
 split at ha
 ·split at ha
  ·rename_i c' l' hd
   cases ha;obtain⟨vs,rfl,h1⟩:=h;obtain⟨_,v1,v2,e,h2,h3⟩:=decs_ok h1 hd hc;have h4:v2=[]:=h3;rw[h4,List.append_nil]at e;subst e;exact⟨_,rfl,h2⟩
  ·cases ha
 ·split at ha
  ·rename_i hg _
   subst hg;cases ha;exact h
  ·cases ha
 ·cases ha
section
variable {X:Cx} {M:Bool} {n:Nat} {r:Option Nat} {st:ASt} {Q:Exit->ASt->Prop} {ops rest:List Oper} {o:Oper} {d:Nat}
end
end

section
def bsOf(l:List Int):List UInt8:=l.map fun z=>UInt8.ofNat z.toNat
def isBs(l:List Int):Bool:=l.all fun z=>decide (0<=z)&&decide (z < 256)
theorem by_back:∀ l:List Int,isBs l=true->(bsOf l).map (fun c=>Value.int .u8 (c.toNat:Int))=l.map fun z=>Value.int .u8 z
 | [],_=>rfl
 | z :: l,h=>by
  simp only[isBs,List.all_cons,Bool.and_eq_true,decide_eq_true_eq]at h;show Value.int .u8 (((UInt8.ofNat z.toNat).toNat:Nat):Int) :: (bsOf l).map _=_;rw[by_back l h.2,List.map_cons]
  congr 2
  have:(UInt8.ofNat z.toNat).toNat=z.toNat:=UInt8.toNat_ofNat_of_lt' (by show z.toNat < 256; omega)
  rw[this,Int.toNat_of_nonneg h.1.1]
theorem strV_extract(s:List UInt8) (a b:Nat):Value.string ((ByteArray.mk s.toArray).extract a b)=qe ((s.take b).drop a):=by
 unfold qe
 congr 1
 apply ByteArray.ext
 rw[ByteArray.data_extract]
 apply Array.ext'
 simp[Array.toList_extract,List.extract,List.drop_take]
section
variable {X:Cx} {M:Bool} {n:Nat} {r:Option Nat} {st:ASt} {Q:Exit->ASt->Prop} {ops rest:List Oper} {o:Oper} {d:Nat}
theorem run_sliceS{P:Program} {t:TypeId} {s:List UInt8} {w:World} (ht:P.underlying t=some .string) {lo hi:Option Value} {a b:Nat} (h:(Instr.sliceBounds false s.length s.length lo hi none).run P w=.ok (a,b,s.length) w):(Instr.sliceAt t (qe s) lo hi none).run P w=.ok (qe ((s.take b).drop a)) w:=by
 have hsz:(ByteArray.mk s.toArray).size=s.length:=by simp[ByteArray.size]
 unfold Instr.sliceAt Instr.slice;simp only[qe,Sem.run_bind,run_underlying ht,Result.andThen_ok,hsz,h,Option.isSome_none,Bool.false_eq_true,if_false,Sem.run_pure]
 have:=strV_extract s a b
 simp only[qe]at this;rw[this]
end
end

section
section
variable {P:Program} {o:Oper} {n d:Nat} {D:List Deferred} {L:List (Nat×Value)} {a:Act} {w w0:World} {B:Nat->Prop} {H:List Ck} {T:List (TypeId×TI)} {ops:Array Oper} {KK:Act->World->Prop}
theorem y_append_full{s x:Operand} {t e:TypeId} {i i':TI} {A A2:Option Addr} {k m cc:Nat} {xs news:List Value} (hX:Sym n D L B w0 H a w)
  (hop:o.op=.call { callee:=.builtin .append,args:=#[s,x],argTypes:=#[t,t] }) (ho:o.guard=none/\o.dst=some d) (hd:Nat.blt d n=true)
  (hT:TabOk P T) (h1:T.lookup t=some i) (h2:i.desc=.slice e) (h3:T.lookup e=some i') (h4:Nat.blt 0 i'.size=true) (h5:i'.zero.cells.size=i'.size) (hs:ev L s=some (.slice A k k)) (hx:ev L x=some (.slice A2 m cc))
  (hr1:Reads w A k i'.size xs) (hr:Reads w A2 m i'.size news) (hone:∀ u∈news,u.oneCell'=true) (hb1:(k+m) * i'.bytes<=140737488355328) (hb2:k+m<=140737488355328)
  (hz:m=0->∀ a' w',Sym n D ((d,.slice A k k) :: L) B w0 H a' w'->KK a' w')
  (h:∀ A' c' a' w',Sym n D ((d,.slice A' (k+m) c') :: L) B w0 (.row A' c' e i'.size (k+m) (xs++news) :: H) a' w'->KK a' w'):XO P ops o KK a w:=by
 have e1:=(hT _ _ h1).1;rw[h2]at e1;have e3:=hT _ _ h3
 by_cases hm:m=0
 ·subst hm
  have hrun:(execOp a.eval o).run P w=.ok (.value (.slice A k k)) w:=by
   have hrun':(Builtin.append_ #[t,t] o.type #[.slice A k k,.slice A2 0 cc]).run P w=.ok (.slice A k k) w:=by
    have e4:=TI.run_sizeOf e3 w;have hfc:(Builtin.firstCells i'.size 0 (.slice A2 0 cc)).run P w=.ok #[] w:=by
     cases A2<;>simp[Builtin.firstCells,loadCells,loadCellsFrom]
    simp only[Builtin.append_,Sem.run_bind,run_underlying e1,Result.andThen_ok,e4]
    simp[run_underlying e1,Builtin.lenOf,hfc]
    cases A<;>simp[storeCells,e4,hfc]
   simp[execOp,hop,resolve,invoke,builtin,hX.ev hs,hX.ev hx,hrun']
  exact y_value hX ho hd hrun hX.sh (hz rfl)
 ·have hm0:0 < m:=by omega
  cases A with
  | none=>
   have hk:k=0:=by
    by_cases hk:k=0
    ·exact hk
    ·obtain⟨b,p,e,_⟩:=hr1.2 (by omega)
     cases e
   subst hk;have hxs:xs=[]:=List.eq_nil_of_length_eq_zero (by rw[hr1.1]; simp);subst hxs;have hsym:Sym n D L B w0 (.row none 0 e i'.size 0 [] :: H) a w:=⟨hX.st,hX.sh.nilRow e i'.size⟩
   exact y_append hsym hop ho hd hT h1 h2 h3 h4 h5 hs hx foc0 hr hone hb1 hb2 h
  | some ad=>
   obtain⟨inf,hinf,hs1,hs2,hs3⟩:=TI.info e3;obtain⟨b2,p2,e',hc2⟩:=hr.2 hm0;subst e';have holds:∀ j u,xs[j]?=some u->w.cell? (ad.add j)=some u:=fun j u hu=>by
    have hlt:j < xs.length:=(List.getElem?_eq_some_iff.1 hu).1;rw[hr1.1]at hlt;have hk:0 < k:=by
     rcases Nat.eq_zero_or_pos k with hk | hk
     ·rw[hk,Nat.zero_mul]at hlt; omega
     ·exact hk
    obtain⟨b,p,e',hc1⟩:=hr1.2 hk;cases e';rw[Addr.add_lit];exact hc1 j u hu
   have hlen:(xs++news).length=(k+m) * i'.size:=by rw[List.length_append,hr1.1,hr.1,Nat.add_mul]
   have hrun:=run_append_grow (P:=P) w t o.type e inf i'.zero e1 hinf hs3 ad k k xs (by rw[hr1.1,hs1]) holds ⟨b2,p2,none⟩ m cc news (by rw[hr.1,hs1]) (fun j u hu=>by rw[Addr.add_lit]; exact hc2 j u hu) (by omega) (by omega) (growslice_fits (by omega) (by rw[hs2]; exact hb1));have hge:=grownCap_ge w (k+m) k e;have hcm:grownCap w (k+m) k e<=maxLen:=grownCap_le_maxLen w (k+m) k e (by simp only[maxLen]; omega);refine y_value hX ho hd (v:=.slice (some ⟨w.heap.size,0,none⟩) (k+m) (grownCap w (k+m) k e)) (w':=w.drew.alloc (.cells (xs.toArray++news.toArray++Builtin.zeroCells i'.zero.cells (grownCap w (k+m) k e - (k+m))) e)) (by simp[execOp,hop,resolve,invoke,builtin,hX.ev hs,hX.ev hx,hrun]) ?_ (h (some ⟨w.heap.size,0,none⟩) (grownCap w (k+m) k e));have hd1:=hX.sh.drew;have ha:=hd1.alloc (.cells (xs.toArray++news.toArray++Builtin.zeroCells i'.zero.cells (grownCap w (k+m) k e - (k+m))) e);have hp:=List.pairwise_cons.1 ha.apart;refine⟨ha.below,ha.base,fun ck hck=>?_,List.Pairwise.cons (fun ck hck q e'=>hp.1 ck hck q (by simpa [Ck.has] using e')) hp.2⟩
   rcases List.mem_cons.1 hck with rfl | hck
   ·refine⟨hlen,.inr ⟨w.heap.size,_,(0,0),rfl,hX.sh.fresh,heap_alloc_new w.drew _,.inl rfl,hge,hcm,?_,?_⟩⟩
    ·simp only[Array.size_append,List.size_toArray,size_zeroCells,h5,hr1.1,hr.1,<- Nat.add_mul]
     congr 1
     omega
    ·simp only[Array.toList_append,List.append_assoc]
     rw[<- List.append_assoc,<- hlen];exact List.take_left
   ·exact ha.ok ck (List.mem_cons_of_mem _ hck)
end
section
variable {X:Cx} {M:Bool} {n:Nat} {r:Option Nat} {st:ASt} {Q:Exit->ASt->Prop} {ops rest:List Oper} {o:Oper} {d:Nat}
def StepOk(X:Cx) (n:Nat) (o:Oper) (st st':ASt):Prop:=∀ (R:Nat->Prop) (W:World) (Bi:Bk) (ks:List Nat) (env:Nat->Loc) (B:Nat->Prop) (w0:World) (H:List Ck) (a:Act) (w:World),AI X R W Bi n ks env B w0 H st a w->∀ (KK:Act->World->Prop) (l:List Oper),(∀ a' w' env' H',AI X R W Bi n ks env' B w0 H' st' a' w'->KK a' w')->XO X.P l.toArray o KK a w
theorem ado_sk{st':ASt} {E:List Nat} {ds:DS} {fuel i:Nat} {l':Array Bool} (hi:nth ops i=some o) (hp:StepOk X n o st st') (hE:qo E ds.listed i=false) (hl:ds.listed.setIfInBounds i true=l')
  (h:AD X M n ops E fuel ⟨l',false,false,ds.nocall,ds.all⟩ st' Q):ADo X M n ops E fuel ds st Q i:=by
 intro R W Bi B0 w00 CS F ks env B w0 H a w hM hA hD;refine⟨o,qh hi,hp R W Bi ks env B w0 H a w hA _ _ fun a' w' env' H' hA'=>?_⟩;have hD':=hD.lost (H':=H') (l:=l');rw[hl];exact⟨⟨fun he=>(by rw[hE]at he; cases he),hD'.F hA'⟩,h R W Bi B0 w00 CS F ks env' B w0 H' a' w' hM hA' hD'⟩
theorem sk_appendR(hX:X.tt.ok X.P) {t e:TypeId} {x y:Operand} {g1 g2:Bool} {sy:SA} {id sz bts:Nat} {ge g:GTy} {l l2:List g.D} {te:TE} {ds:TypeDesc} {zz:Value} (hop:o.op=.call ⟨.builtin .append,⟨[x,y]⟩,⟨[t,t]⟩⟩) (ho:o.guard=none/\o.dst=some d) (hd:(Nat.blt d n&&Nat.blt id zP)=true)
  (ht:X.tt.find t=some te) (hte:te.ti.desc=.slice e) (he:X.tt.find e=some ⟨⟨ds,sz,bts,zz⟩,some ge⟩) (hx:ae X st.L x=some (g1,.c (.sl id))) (hg:g1=true) (hy:ae X st.L y=some (g2,sy)) (hg':g2=true)
  (hlk:lk st.H id=some (.lrow e g l)) (hsz:Nat.beq g.size sz=true) (hsrc:srcL st g sy=some l2) (hc:zV bts (l.length+l2.length)=true):StepOk X n o st ⟨(d,.c (.sl id)) :: qb id .dead st.L,(id,.lrow e g (l++l2)) :: zM id .dead st.H⟩:=by
 intro R W Bi ks env B w0 H a w h KK lo hnext;obtain⟨vx,hvx,hrx⟩:=h.ev hx hg;obtain⟨vy,hvy,hry⟩:=h.ev hy hg';obtain⟨hg1,hg2,hg3⟩:=(TT.get hX he).g ge rfl;obtain⟨T,hT,h1,h4⟩:=tab2 (TT.get hX ht).ti (TT.get hX he).ti;dsimp only at hg1 hg2 h4;have hzs:zz.cells.size=sz:=by
  have:zz.cells.toList.length=sz:=by rw[hg2,<- hg1]; exact FR.length (FR.zeros (B:=B) (w:=w0) ge)
  simpa using this
 simp only[Bool.and_eq_true]at hd;obtain⟨hd,hfix⟩:=hd;have hsz':=Nat.eq_of_beq_eq_true hsz;simp only[zV,Bool.and_eq_true,decide_eq_true_eq]at hc;obtain⟨A2,c2,xs2,rfl,hfl2,hR2⟩:=srcL_ok h hsrc hry;obtain⟨A,c,m,hen,rfl⟩:=hrx;obtain⟨ck,K,⟨A',k',hen',hor⟩,hfoc,hturn⟩:=h.turnRow (d:=d) (b':=.lrow e g (l++l2)) hlk (fun q hp=>by
  obtain⟨_,h5,h6⟩:=h.pin _ _ hp;rw[hen]at h5
  rcases h6 with⟨b,h6⟩ | h6
  ·rw[<- h5]at h6; cases h6
  ·have:=zk hfix; omega)
 rw[hen]at hen';cases hen';have hp4:Nat.blt 0 sz=true:=by rw[<- hg1]; exact Nat.ble_eq_true_of_le hg3
 rcases hor with⟨xs,rfl,hfl⟩ | ⟨rfl,rfl,q2,xs,hfl,hrb⟩
 ·rw[hsz']at hfoc hR2
  refine y_append h.sym hop ho hd hT h1 hte h4 hp4 hzs hvx hvy hfoc hR2 (Flat.ones (fun _ _=>FR.ones) hfl2) hc.1 hc.2 fun A' c' a' w' hY=>?_
  obtain⟨H',_,h8⟩:=hturn (.row A' c' (l++l2).length) (.row A' c' e g.size (l++l2).length (xs++xs2)) a' w' (.c (.sl id)) _ ⟨A',c',zf,.inl ⟨_,rfl,hfl.append hfl2⟩⟩ ⟨A',c',_,zf,by rw[List.length_append]⟩ (by rw[hsz',List.length_append]; exact hY.sh) hY.st;exact hnext a' w' _ H' h8
 ·have hR1:=hrb.old h.sh
  rw[hsz']at hR1 hR2;refine y_append_full h.sym hop ho hd hT h1 hte h4 hp4 hzs hvx hvy hR1 hR2 (Flat.ones (fun _ _=>FR.ones) hfl2) hc.1 hc.2 (fun hm a' w' hY=>?_) fun A' c' a' w' hY=>?_
  ·have hl2:l2=[]:=List.eq_nil_of_length_eq_zero hm
   subst hl2;obtain⟨Y,Z,e5,e6⟩:=hfoc;obtain⟨H',_,h8⟩:=hturn (.row A l.length (l++[]).length) (.row none 0 e g.size 0 []) a' w' (.c (.sl id)) (.slice A l.length l.length) ⟨A,l.length,zf,.inr ⟨rfl,by simp,q2,xs,by rw[List.append_nil]; exact hfl,by rw[List.append_nil]; exact hrb⟩⟩ ⟨A,l.length,_,zf,by simp⟩ (by rw[e6]; dsimp only; rw[<- e5]; exact hY.sh) hY.st;exact hnext a' w' _ H' h8
  ·obtain⟨Y,Z,e5,e6⟩:=hfoc
   obtain⟨H',_,h8⟩:=hturn (.row A' c' (l++l2).length) (.row A' c' e g.size (l++l2).length (xs++xs2)) a' w' (.c (.sl id)) (.slice A' (l.length+l2.length) c') ⟨A',c',zf,.inl ⟨_,rfl,hfl.append hfl2⟩⟩ ⟨A',c',_,zf,by rw[List.length_append]⟩ (by
    have h9:=hY.sh;rw[e5]at h9;rw[e6];dsimp only;have hp:(Ck.row A' c' e sz (l.length+l2.length) (xs++xs2) :: (Y++Ck.row none 0 e g.size 0 [] :: Z)).Perm (Ck.row none 0 e g.size 0 [] :: (Y++Ck.row A' c' e sz (l.length+l2.length) (xs++xs2) :: Z)):=by
     refine(List.Perm.cons _ List.perm_middle).trans ?_;refine(List.Perm.swap _ _ _).trans (List.Perm.cons _ List.perm_middle.symm)
    have h10:=(h9.perm hp).weak (List.sublist_cons_self _ _);rw[hsz',List.length_append];exact h10) hY.st
   exact hnext a' w' _ H' h8
end
section
variable {X:Cx} {n:Nat} {st:ASt}
theorem Wk.row2l(id:Nat) {t:TypeId} {g:GTy} {l:List g.D} {cap:Option Nat} (hs:lk st.H id=some (.row t g l cap)):Wk X n st ⟨st.L,zX id (.lrow t g l) st.H⟩:=fun R W Bi M a w ⟨ks,env,B,w0,H,hM,h⟩=>by
 obtain⟨ck,K,⟨A,k,xs,he,e,hfl,_⟩,⟨Y,Z,h1,h2⟩,h3⟩:=h.setBlk (b':=.lrow t g l) hs;obtain⟨H',h4⟩:=h3 ck a w ⟨A,k,he,.inl ⟨xs,e,hfl⟩⟩ (by rw[h2]; dsimp only; rw[<- h1]; exact h.sh) h.stt;exact⟨ks,env,B,w0,H',hM,h4⟩
theorem Wk.lfull(s id:Nat) (t:TypeId) (hid:Nat.blt id n=true) {g:GTy} {l:List g.D} {c:Nat} (hs:lk st.L s=some (.c (.lst g l (some c)))) (hc:c=l.length):Wk X n st ⟨(s,.c (.sl id)) :: qb id .dead st.L,(id,.lrow t g l) :: zM id .dead st.H⟩:=fun R W Bi M a w ⟨ks,env,B,w0,H,hM,h⟩=>by
 obtain⟨v,hv,A,c',xs,rfl,q1,q2,hcap,hfl,hrb⟩:=h.has _ _ hs;have e3:c'=l.length:=(hcap c rfl).trans hc;subst e3;obtain⟨H2,h1,h2⟩:=h.heap.del (z:=.dead) (zC (env:=env) (id:=id) (l:=.row A l.length l.length)) (fun _ _=>trivial);refine⟨ks,upd env id (.row A l.length l.length),B,w0,.row none 0 t g.size 0 [] :: H2,hM,h.size,h.defs,fun q u hu=>?_,⟨_,H2,rfl,⟨A,_,zf,.inr ⟨rfl,rfl,q2,xs,hfl,hrb⟩⟩,h2⟩,(h.sh.nilRow t g.size).weak ((h1.append_right _).cons_cons _),h.sub,h.new,pin_upd h.pin (fun q hp=>by have h1:=(h.pin _ _ hp).1; have h2:=zk hid; omega),h.base,h.glob⟩;rw[zu]at hu
 split at hu
 ·rename_i e
  subst e;cases hu;exact⟨_,hv,A,_,_,zf,rfl⟩
 ·obtain⟨u0,hu0,rfl⟩:=qF hu
  obtain⟨u',h6,h7⟩:=h.has q u0 hu0;exact⟨u',h6,VR.sub (z:=.dead) zC (fun _ _=>trivial) h7⟩
def frzL(id:Nat) (st:ASt):Option ASt:=
 match lk st.H id with
 | some (.lrow _ g l)=>some ⟨qb id (.lst g l none) st.L,zM id (.lst g l none) st.H⟩
 | _=>none
theorem lk_putH{b b2:Blk} {id:Nat}:∀ {l:Hp},lk l id=some b->lk (zX id b2 l) id=some b2
 | [],h=>by cases h
 | (k,b') :: r,h=>by
  rw[zu]at h;unfold zX
  split
  ·rename_i hk
   rw[zu,if_pos (Nat.eq_of_beq_eq_true hk).symm]
  ·rename_i hk
   have hne:¬ id=k:=fun e=>by rw[e,Nat.beq_refl]at hk; cases hk
   rw[if_neg hne]at h;rw[zu,if_neg hne];exact lk_putH h
theorem delH_putH{b:Blk} {id:Nat} {z:SC}:∀ {l:Hp} {b2:Blk},lk l id=some b2->zM id z (zX id b l)=zM id z l
 | [],_,h=>by cases h
 | (k,b') :: r,b2,h=>by
  rw[zu]at h;unfold zX;cases hk:Nat.beq k id with
  | true=>simp only[zM,hk]
  | false=>
   have hne:¬ id=k:=fun e=>by rw[e,Nat.beq_refl]at hk; cases hk
   rw[if_neg hne]at h;simp only[zM,hk,delH_putH h]
theorem Wk.frzL{id:Nat} {st':ASt} (hf:frzL id st=some st'):Wk X n st st':=fun R W Bi M a w ⟨ks,env,B,w0,H,hM,h⟩=>by
 unfold Go.Proofs.YtldjgdggcodgeaaGreat.frzL at hf
 split at hf
 ·rename_i t g l hlk
  cases hf;obtain⟨ck,K,⟨A,k,he,hor⟩,⟨Y,Z,e1,e2⟩,h5⟩:=h.setBlk (b':=.row t g l none) hlk
  rcases hor with⟨xs,rfl,hfl⟩ | ⟨rfl,rfl,q2,xs,hfl,hrb⟩
  ·obtain⟨H',h6⟩:=h5 _ a w ⟨A,k,xs,he,rfl,hfl,fun _ hq=>by cases hq⟩ (by rw[e2]; dsimp only; rw[<- e1]; exact h.sh) h.stt
   have hfz:Go.Proofs.YtldjgdggcodgeaaGreat.frz id ⟨st.L,zX id (.row t g l none) st.H⟩=some ⟨qb id (.lst g l none) st.L,zM id (.lst g l none) st.H⟩:=by
    unfold Go.Proofs.YtldjgdggcodgeaaGreat.frz;dsimp only;rw[lk_putH hlk];dsimp only;rw[delH_putH hlk]
   exact Wk.frz (X:=X) (n:=n) hfz R W Bi M a w ⟨ks,env,B,w0,H',hM,h6⟩
  ·have hcr:∀ v,CR env B w0 (.sl id) v->CR env B w0 (.lst g l none) v:=by
    rintro v ⟨A',c',m,he',rfl⟩;rw[he]at he';cases he';exact⟨A,l.length,xs,rfl,Nat.le_refl _,q2,(fun _ hq=>by cases hq),hfl,hrb⟩
   obtain⟨H2,h1,h2⟩:=h.heap.del (id:=id) (env':=env) (fun _ _=>rfl) hcr;refine⟨ks,env,B,w0,H2,hM,h.size,h.defs,fun q u hu=>?_,h2,h.sh.weak (h1.append_right _),h.sub,h.new,h.pin,h.base,h.glob⟩;obtain⟨u0,hu0,rfl⟩:=qF hu;obtain⟨u',h6,h7⟩:=h.has q u0 hu0;exact⟨u',h6,VR.sub (fun _ _=>rfl) hcr h7⟩
 ·cases hf
end
end

section
section
variable {X:Cx} {M:Bool} {n:Nat} {r:Option Nat} {st:ASt} {Q:Exit->ASt->Prop} {ops rest:List Oper} {o:Oper} {d:Nat} {sa:SA}
theorem pk_loadH(hX:X.tt.ok X.P) {t T:TypeId} {te:TE} {x:Operand} {id d2 i:Nat} {el:Bool} {g:GTy} {l:List (List g.D)} {cap:Option Nat} {g1:Bool} (hop:o.op=.load t x)
  (ht:X.tt.find t=some te) (hag:qt te.ti.desc=false) (hx:ae X st.L x=some (g1,.c (.elt id 1 i 0))) (hg1:g1=true) (hlk:lk st.H id=some (.hrow el T g l cap i d2)):PureOk X st o (.c (.sl d2)):=by
 intro R W Bi n ks env B w0 H a w1 hA;obtain⟨vx,h1,b,c,m,he,rfl⟩:=hA.ev hx hg1;obtain⟨ck,K,⟨A,k,ys,A',c',m',he',rfl,hfl,hi,he2,_⟩,hf⟩:=hA.heap.foc hlk;rw[he]at he';cases he';have hyl':ys.length=l.length:=FRe.flat_length hfl;refine⟨.slice A' m' c',⟨A',c',m',he2,rfl⟩,fun w hs=>?_⟩;have hown:Owns w (fun k=>R k\/B k) T 1 (some ⟨b,0,none⟩) c l.length (ys.set i (.slice A' m' c')):=(hs (by rw[hop]; rfl)).ok _ hf.more.mem;have hcell:w.cell? ⟨b,i * 1+0,none⟩=some (.slice A' m' c'):=by
  rw[hown.cells rfl _ (by omega)]
  simp[List.getElem?_set,hyl',hi]
 exact run_load1 hA.stt hop (TT.get hX ht).ti hag h1 hcell
theorem pk_eqlA{t t':TypeId} {u v:Operand} {g1 g2 c1 c2:Bool} {cs ds:List SC} {g:GTy} {x y:g.D} (hK:KeyOk X.P t g) (hop:o.op=.binOp .eql t u v t')
  (hu:ae X st.L u=some (g1,.agg cs)) (hg1:g1=true) (hv:ae X st.L v=some (g2,.agg ds)) (hg2:g2=true) (hx:dec g cs=some (c1,x,[])) (hc1:c1=true) (hy:dec g ds=some (c2,y,[])) (hc2:c2=true):PureOk X st o (.c (.val (.bool (g.beq x y)))):=by
 intro R W Bi n ks env B w0 H a w1 hA;obtain⟨vu,h1,h2⟩:=hA.ev hu hg1;obtain⟨vv,h3,h4⟩:=hA.ev hv hg2;rw[CsR.vals hK.key h2 hx hc1]at h1;rw[CsR.vals hK.key h4 hy hc2]at h3;exact⟨_,rfl,fun w _=>p_eql_a hA.stt hop h1 h3 hK.guard (hK.eq x y) w⟩
theorem pk_neqA{t t':TypeId} {u v:Operand} {g1 g2 c1 c2:Bool} {cs ds:List SC} {g:GTy} {x y:g.D} (hK:KeyOk X.P t g) (hop:o.op=.binOp .neq t u v t')
  (hu:ae X st.L u=some (g1,.agg cs)) (hg1:g1=true) (hv:ae X st.L v=some (g2,.agg ds)) (hg2:g2=true) (hx:dec g cs=some (c1,x,[])) (hc1:c1=true) (hy:dec g ds=some (c2,y,[])) (hc2:c2=true):PureOk X st o (.c (.val (.bool (!(g.beq x y))))):=by
 intro R W Bi n ks env B w0 H a w1 hA;obtain⟨vu,h1,h2⟩:=hA.ev hu hg1;obtain⟨vv,h3,h4⟩:=hA.ev hv hg2;rw[CsR.vals hK.key h2 hx hc1]at h1;rw[CsR.vals hK.key h4 hy hc2]at h3;exact⟨_,rfl,fun w _=>p_neq_a hA.stt hop h1 h3 hK.guard (hK.eq x y) w⟩
end
end

section
section
variable {env:Nat->Loc} {B B':Nat->Prop} {w w':World}
end
end

section
def setCs(p:Nat) (c:SC):List SC->List SC
 | []=>[]
 | x :: r=>match p with
  | 0=>c :: r
  | q+1=>x :: setCs q c r
def setCl(k p:Nat) (c:SC):Hp->Hp
 | []=>[]
 | (j,b) :: r=>match Nat.beq j k with
  | true=>(j,match b with
   | .cells t cs=>.cells t (setCs p c cs)
   | b=>b) :: r
  | false=>(j,b) :: setCl k p c r
theorem CsR.at{env:Nat->Loc} {B:Nat->Prop} {w:World}:∀ {p:Nat} {cs:List SC} {vs:List Value} {c:SC},CsR env B w cs vs->cs[p]?=some c->∃ v,vs[p]?=some v/\CR env B w c v
 | _,[],_,_,_,hp=>by cases hp
 | 0,x :: cs,_,c,⟨v,r,e,h1,_⟩,hp=>by
  cases hp;exact⟨v,by rw[e]; rfl,h1⟩
 | p+1,x :: cs,_,c,⟨v,r,e,_,h2⟩,hp=>by
  obtain⟨u,h3,h4⟩:=CsR.at (p:=p) (cs:=cs) h2 (by simpa using hp);exact⟨u,by rw[e]; simpa using h3,h4⟩
theorem CsR.setAt{env:Nat->Loc} {B:Nat->Prop} {w:World} {c:SC}:∀ {p:Nat} {cs:List SC} {vs:List Value} {v:Value},CsR env B w cs vs->vs[p]?=some v->CR env B w c v->CsR env B w (setCs p c cs) vs
 | 0,[],_,_,h,_,_=>h
 | _+1,[],_,_,h,_,_=>h
 | 0,x :: cs,_,v,⟨u,r,e,_,h2⟩,hp,hc=>by
  rw[e]at hp;cases hp;exact⟨_,r,e,hc,h2⟩
 | p+1,x :: cs,_,v,⟨u,r,e,h1,h2⟩,hp,hc=>by
  rw[e]at hp;exact⟨u,r,e,h1,CsR.setAt (p:=p) h2 (by simpa using hp) hc⟩
section
variable {env:Nat->Loc} {B:Nat->Prop} {w:World}
theorem HR.lfull{k p id:Nat} {t:TypeId} {cs:List SC} {g:GTy} {li:List g.D} {c:Nat} (hk:Nat.beq k id=false) (hc:c=li.length):∀ {l:Hp} {H:List Ck},HR env B w l H->lk l k=some (.cells t cs)->cs[p]?=some (.lst g li (some c)) ->
  ∃ A xs,li.length<=maxLen/\Flat (FR B w g) li xs/\RB B w A li.length g.size xs/\∀ env',(∀ j,j≠id->env' j=env j)->env' id=.row A li.length li.length->∃ H',H'.Sublist H/\HR env' B w (setCl k p (.sl id) (zM id .dead l)) H'
 | [],_,_,hl,_=>by cases hl
 | (j,b) :: l,_,⟨ck,H',e,h1,h2⟩,hl,hp=>by
  rw[zu]at hl;subst e
  split at hl
  ·rename_i e
   subst e;cases hl;obtain⟨bb,vs,q1,q2,q3⟩:=h1;obtain⟨v,q4,A,c',xs,q5,q6,q7,q8,q9,q10⟩:=CsR.at q3 hp;have ec:c'=li.length:=(q8 c rfl).trans hc;subst ec;refine⟨A,xs,q7,q9,q10,fun env' he hid=>?_⟩;obtain⟨H2,hs,h3⟩:=HR.del (z:=.dead) he (fun _ _=>trivial) h2;have hb:BR env' B w k ((Blk.cells t cs).sub id .dead) ck:=BR.sub (z:=.dead) he (fun _ _=>trivial) (Nat.ne_of_beq_eq_false hk) (b:=.cells t cs) ⟨bb,vs,q1,q2,q3⟩;obtain⟨bb',vs',r1,r2,r3⟩:=hb;have hvs:vs'=vs:=by
    rw[q2]at r2;cases r2
    rfl
   subst hvs;refine⟨ck :: H2,hs.cons_cons _,?_⟩;unfold zM;rw[hk];show HR env' B w (setCl k p (.sl id) ((k,(Blk.cells t cs).sub id .dead) :: zM id .dead l)) (ck :: H2);unfold setCl;rw[Nat.beq_refl];exact⟨ck,H2,rfl,⟨bb',vs',r1,r2,CsR.setAt r3 q4 ⟨A,_,_,hid,q5⟩⟩,h3⟩
  ·rename_i hne
   obtain⟨A,xs,q1,q2,q3,q4⟩:=HR.lfull hk hc h2 hl hp;refine⟨A,xs,q1,q2,q3,fun env' he hid=>?_⟩;obtain⟨H2,hs,h3⟩:=q4 env' he hid;unfold zM
   split
   ·exact⟨H2,hs.cons _,h3⟩
   ·rename_i hj
    refine⟨ck :: H2,hs.cons_cons _,?_⟩;unfold setCl;have hjk:Nat.beq j k=false:=by
     cases hb:Nat.beq j k with
     | false=>rfl
     | true=>exact absurd (Nat.eq_of_beq_eq_true hb).symm hne
    rw[hjk];exact⟨ck,H2,rfl,BR.sub (z:=.dead) he (fun _ _=>trivial) (Nat.ne_of_beq_eq_false hj) h1,h3⟩
end
theorem Wk.lfullC{X:Cx} {n:Nat} {st:ASt} (k p id:Nat) (t:TypeId) (hid:Nat.blt id n=true) (hki:Nat.beq k id=false) {T:TypeId} {cs:List SC} {g:GTy} {l:List g.D} {c:Nat} (hs:lk st.H k=some (.cells T cs)) (hp:cs[p]?=some (.lst g l (some c))) (hc:c=l.length) :
  Wk X n st ⟨qb id .dead st.L,(id,.lrow t g l) :: setCl k p (.sl id) (zM id .dead st.H)⟩:=fun R W Bi M a w ⟨ks,env,B,w0,H,hM,h⟩=>by
 obtain⟨A,xs,q2,hfl,hrb,hq⟩:=HR.lfull hki hc h.heap hs hp;obtain⟨H2,h1,h2⟩:=hq (upd env id (.row A l.length l.length)) zC zf;refine⟨ks,upd env id (.row A l.length l.length),B,w0,.row none 0 t g.size 0 [] :: H2,hM,h.size,h.defs,fun q u hu=>?_,⟨_,H2,rfl,⟨A,_,zf,.inr ⟨rfl,rfl,q2,xs,hfl,hrb⟩⟩,h2⟩,(h.sh.nilRow t g.size).weak ((h1.append_right _).cons_cons _),h.sub,h.new,pin_upd h.pin (fun q hp=>by have h1:=(h.pin _ _ hp).1; have h2:=zk hid; omega),h.base,h.glob⟩;obtain⟨u0,hu0,rfl⟩:=qF hu;obtain⟨u',h6,h7⟩:=h.has q u0 hu0;exact⟨u',h6,VR.sub (z:=.dead) zC (fun _ _=>trivial) h7⟩
end

section
section
variable {P:Program} {ops:Array Oper} {o:Oper} {KK:Act->World->Prop} {n:Nat} {D:List Deferred} {L:List (Nat×Value)} {B:Nat->Prop} {w0:World} {H:List Ck} {a:Act} {w:World} {d:Nat}
theorem run_callB{f:FuncId} {fn:Func} {s:Nat} {p:Value} {xs:List Operand} {ts:Array TypeId} {vs:List Value} (hX:Sym n D L B w0 H a w) (hop:o.op=.call { callee:=.value (.tmp s),args:=xs.toArray,argTypes:=ts })
  (hs:L.lookup s=some (.func (.func f) #[p] #[])) (hfn:P.funcs[f]?=some fn)
  (hn : (fn.name == "runtime.NumGoroutine") = false) (hb : fn.body.isNone = false) (hv : evs L xs = some vs) : (execOp a.eval o).run P w = .ok (.enter f (p :: vs).toArray) w := by
 have e:a.eval (.tmp s)=.func (.func f) #[p] #[]:=hX.ev (x:=.tmp s) hs
 have hn' : fn.name ≠ "runtime.NumGoroutine" := by simpa using hn
 have hb':fn.body≠none:=by intro h; rw[h]at hb; cases hb
 simp[execOp,hop,resolve,e,Deferred.ofValue,invoke,callFunc,program,Sem.run,hfn,hn',hb',hX.st.evs hv]
theorem y_callB{f:FuncId} {fn:Func} {s:Nat} {p:Value} {xs:List Operand} {ts:Array TypeId} {vs:List Value} {R:Value->World->Prop} (hX:Sym n D L B w0 H a w)
  (hop:o.op=.call { callee:=.value (.tmp s),args:=xs.toArray,argTypes:=ts }) (ho:o.guard=none/\o.dst=some d) (hd:Nat.blt d n=true) (hs:L.lookup s=some (.func (.func f) #[p] #[]))
  (hfn : P.funcs[f]? = some fn) (hn : (fn.name == "runtime.NumGoroutine") = false) (hb : fn.body.isNone = false) (hv : evs L xs = some vs) (hC : Ret P f (p :: vs).toArray w R)
  (h:∀ v a' w',R v w'->St n D ((d,v) :: L) a'->KK a' w'):XO P ops o KK a w:=by
 refine .inl ⟨by simp[Region.wanted,ho.1],.inr (.inr ⟨f,(p :: vs).toArray,w,run_callB hX hop hs hfn hn hb hv,?_⟩)⟩;refine Calls.mono hC ?_;rintro e w' ⟨v,rfl,hR⟩;exact⟨v,rfl,h v _ w' hR (by rw[ho.2]; exact hX.st.put d v (zk hd))⟩
end
section
variable {X:Cx} {M:Bool} {n:Nat} {r:Option Nat} {st:ASt} {Q:Exit->ASt->Prop} {ops rest:List Oper} {o:Oper} {d:Nat}
end
section
variable {X:Cx} {M:Bool} {n:Nat} {st:ASt} {Q:Exit->ASt->Prop} {ops:List Oper} {E:List Nat} {ds:DS} {listed':Array Bool} {fuel d i:Nat} {o:Oper}
end
end

section
section
variable {X:Cx} {M:Bool} {n:Nat} {r:Option Nat} {st:ASt} {Q:Exit->ASt->Prop} {ops rest:List Oper} {o:Oper} {d:Nat}
end
end

section
section
variable {X:Cx} {M:Bool} {n:Nat} {r:Option Nat} {ops:List Oper} {rest:List Oper} {o:Oper} {d:Nat} {st:ASt} {Q:Exit->ASt->Prop}
theorem sk_copy(hX:X.tt.ok X.P) {t e:TypeId} {x y:Operand} {g1 g2:Bool} {sy:SA} {id sz bts:Nat} {ge g:GTy} {l l2:List g.D} {cap:Option Nat} {te:TE} {ds:TypeDesc} {zz:Value} (hop:o.op=.call ⟨.builtin .copy,⟨[x,y]⟩,⟨[t,t]⟩⟩) (ho:o.guard=none/\o.dst=some d) (hd:Nat.blt d n=true)
  (ht:X.tt.find t=some te) (hte:te.ti.desc=.slice e) (he:X.tt.find e=some ⟨⟨ds,sz,bts,zz⟩,some ge⟩) (hx:ae X st.L x=some (g1,.c (.sl id))) (hg:g1=true) (hy:ae X st.L y=some (g2,sy)) (hg':g2=true)
  (hlk:lk st.H id=some (.row e g l cap)) (hsz:Nat.beq g.size sz=true) (hsrc:srcL st g sy=some l2) (hc:Nat.beq l2.length l.length=true):StepOk X n o st ⟨(d,.c (.val (.int .i64 (l.length:Int)))) :: st.L,zX id (.row e g l2 cap) st.H⟩:=by
 intro R W Bi ks env B w0 H a w h KK lo hnext;obtain⟨vx,hvx,hrx⟩:=h.ev hx hg;obtain⟨vy,hvy,hry⟩:=h.ev hy hg';obtain⟨hg1,hg2,hg3⟩:=(TT.get hX he).g ge rfl;obtain⟨T,hT,h1,h4⟩:=tab2 (TT.get hX ht).ti (TT.get hX he).ti;have hsz':=Nat.eq_of_beq_eq_true hsz;have hcl:=Nat.eq_of_beq_eq_true hc;obtain⟨A2,c2,xs2,rfl,hfl2,hR2⟩:=srcL_ok h hsrc hry;obtain⟨A,c,m,hen,rfl⟩:=hrx;obtain⟨ck,K,⟨A',k',xs,hen',rfl,hfl,hcap⟩,hfoc,hturn⟩:=h.setBlk (b':=.row e g l2 cap) hlk;rw[hen]at hen';cases hen';rw[hsz']at hfoc hR2;rw[hcl]at hvy hR2;refine y_copy h.sym hop ho hd hT h1 hte h4 hvx hvy hfoc hR2 (Flat.ones (fun _ _=>FR.ones) hfl2) fun a' w' hY=>?_
 obtain⟨H',h8⟩:=hturn (.row A c e g.size l.length xs2) a w' ⟨A,c,xs2,by rw[hcl]; exact hen,by rw[hcl],hfl2,hcap⟩ (by rw[hsz']; exact hY.sh) h.stt;exact hnext a' w' _ H' (h8.set rfl hY.st)
end
end

section
section
variable {X:Cx} {M:Bool} {n:Nat} {r:Option Nat} {ops rest:List Oper} {o:Oper} {d:Nat} {st:ASt} {Q:Exit->ASt->Prop}
end
end

section
def nm{α β:Type} (x:α) (k:α->Option β):Option β:=k x
section
variable {X:Cx} {n:Nat} {st:ASt}
end
/-! ### Arrays that are rows are frozen -/
section
variable {X:Cx} {R:Nat->Prop} {W:World} {Bi:Bk} {n:Nat} {ks:List Nat} {env:Nat->Loc} {B:Nat->Prop} {w0:World} {H:List Ck} {st st':ASt} {a:Act} {w:World}
theorem AI.frzA(h:AI X R W Bi n ks env B w0 H st a w) (s:Nat) {id sz:Nat} {t:TypeId} {g:GTy} {l:List g.D} {cap:Option Nat} (hs:lk st.L s=some (.c (.elt id sz 0 0))) (hlk:lk st.H id=some (.row t g l cap)):∃ env' B' w0' H',AI X R W Bi n ks env' B' w0' H' ⟨(s,.c (.par g l)) :: qb id .dead st.L,zM id .dead st.H⟩ a w:=by
 obtain⟨c0,_,⟨A,k,xs0,he,rfl,_,hcap⟩,hfoc0⟩:=h.heap.foc hlk;have hup:Up B w0 (fun q=>B q\/A.map (·.block)=some q) w:=⟨fun q hq=>.inl hq,fun q hq=>h.sh.below.block q (.inr hq)⟩
 obtain⟨c,Y,Z,⟨A',k',xs,he',rfl,hfl,_⟩,h2,h3⟩:=(h.heap.up hup).take hlk;rw[he]at he';cases he';have hmem:Ck.row A k t g.size l.length xs∈H++ks.map qW:=by rw[h2]; simp
 have hown:Owns w (fun k=>R k\/B k) t g.size A k l.length xs:=h.sh.ok _ hmem;have hnew:∀ q,A.map (·.block)=some q->¬ (R q\/B q)/\q < w.heap.size:=fun q hq=>(h.sh.ok _ hmem).lt hq
 obtain⟨H2,h4,h5,h45⟩:=h3 env .dead (fun _ _=>rfl) (fun _ _=>trivial);have hpart:=h.sh.apart;rw[h2,List.append_assoc,List.cons_append]at hpart;refine⟨env,_,w,H2,⟨h.size,h.defs,fun q u hu=>?_,h5,?_,fun q hq=>.inl (h.sub q hq),fun q hq=>?_,h.pin,h.base.trans ⟨h.sh.below.os,h.sh.below.tape,h.sh.below.output,h.sh.below.size,fun q hq=>h.sh.below.block q (.inl hq)⟩,fun i x hx=>(h.glob i x hx).up hup⟩⟩
 ·rw[zu]at hu
  split at hu
  ·rename_i e
   subst e;cases hu;obtain⟨u',h6,b,c',n',h7,h8⟩:=h.has _ _ hs;rw[he]at h7;cases h7;refine⟨u',h6,b,0,xs,by rw[h8]; simp,.inr rfl,hfl,fun j u hj=>?_⟩;have hr:Reads w (some ⟨b,0,none⟩) l.length g.size xs:=Reads.rowM h.sh hmem;have hl:=FR.flat_length hfl;have hpos:0 < l.length:=by
    rcases Nat.eq_zero_or_pos l.length with e | e
    ·rw[e,Nat.zero_mul]at hl
     have:=(List.getElem?_eq_some_iff.1 hj).1
     omega
    ·exact e
   obtain⟨b',p,e,hc⟩:=hr.2 hpos;cases e;exact hc j u hj
  ·obtain⟨u0,hu0,rfl⟩:=qF hu
   obtain⟨u',h6,h7⟩:=h.has q u0 hu0;exact⟨u',h6,VR.sub (z:=.dead) (fun _ _=>rfl) (fun _ _=>trivial) (h7.up hup)⟩
 ·have hs:SH (fun k=>R k\/B k) w0 (H2++ks.map qW) w:=by
   have h6:=h.sh;rw[h2]at h6;have hp:(Y++Ck.row A k t g.size l.length xs :: Z++ks.map qW).Perm (Ck.row A k t g.size l.length xs :: (Y++Z++ks.map qW)):=by
    simp only[List.append_assoc,List.cons_append];exact List.perm_middle
   exact(h6.perm hp).weak (((h4.append_right _)).cons _)
  refine⟨KO.refl _ _,fun q hq=>?_,fun c hc=>(hs.ok c hc).base fun b hb hB=>?_,hs.apart⟩
  ·rcases hq with hq | hq | hq
   ·exact h.sh.base q (.inl hq)
   ·exact h.sh.base q (.inr hq)
   ·exact(hnew q hq).2
  ·rcases hB with hB | hB | hB
   ·exact((hs.ok c hc).lt hb).1 (.inl hB)
   ·exact((hs.ok c hc).lt hb).1 (.inr hB)
   ·have hcm:c∈Y++(Z++ks.map qW):=by
     rcases List.mem_append.1 hc with hc | hc
     ·have:=h4.subset hc
      rcases List.mem_append.1 this with h7 | h7
      ·exact List.mem_append_left _ h7
      ·exact List.mem_append_right _ (List.mem_append_left _ h7)
     ·exact List.mem_append_right _ (List.mem_append_right _ hc)
    rw[List.pairwise_append,List.pairwise_cons]at hpart;obtain⟨_,⟨h8,_⟩,h9⟩:=hpart
    rcases List.mem_append.1 hcm with h7 | h7
    ·exact h9 c h7 _ List.mem_cons_self b hb hB
    ·exact h8 c h7 b hB hb
 ·rcases hq with hq | hq
  ·exact(h.new q hq).imp_right fun h'=>⟨h'.1,h'.2.keep (h.sh.below.block q (.inr hq))⟩
  ·exact .inr ⟨fun hR=>(hnew q hq).1 (.inl hR),(h.sh.ok _ hmem).cells rfl hq⟩
theorem Wk.frzA(s:Nat) {id sz:Nat} {t:TypeId} {g:GTy} {l:List g.D} {cap:Option Nat} (hs:lk st.L s=some (.c (.elt id sz 0 0))) (hlk:lk st.H id=some (.row t g l cap)):Wk X n st ⟨(s,.c (.par g l)) :: qb id .dead st.L,zM id .dead st.H⟩:=fun _ _ _ _ _ _ ⟨ks,env,B,w0,H,hM,hA⟩=>by
 obtain⟨env',B',w0',H',h⟩:=hA.frzA s hs hlk;exact⟨ks,env',B',w0',H',hM,h⟩
end
end

abbrev HL:List Type->Type
 | []=>Unit
 | A :: r=>A×HL r
abbrev TupT:List Type->Type
 | []=>Unit
 | [A]=>A
 | A :: B :: r=>A×TupT (B :: r)
def toT:(l:List Type)->HL l->TupT l
 | [],_=>()
 | [_],u=>u.1
 | _ :: B :: r,u=>(u.1,toT (B :: r) u.2)
def ofT:(l:List Type)->TupT l->HL l
 | [],_=>()
 | [_],u=>(u,())
 | _ :: B :: r,u=>(u.1,ofT (B :: r) u.2)
theorem ofT_toT:∀ (l:List Type) (u:HL l),ofT l (toT l u)=u
 | [],_=>rfl
 | [_],_=>rfl
 | _ :: B :: r,u=>by
  show(u.1,ofT (B :: r) (toT (B :: r) u.2))=u;rw[ofT_toT (B :: r)]
inductive CapS where
 | id (i:Nat)
 | fz (g:GTy)
abbrev capsLT:List CapS->List Type->List Type
 | [],T=>T
 | .id _ :: r,T=>capsLT r T
 | .fz g :: r,T=>g.D :: capsLT r T
def capsS:(l:List CapS)->{T:List Type}->HL (capsLT l T)->List Cap×HL T
 | [],_,t=>([],t)
 | .id i :: r,_,u=>(.id i :: (capsS r u).1,(capsS r u).2)
 | .fz g :: r,_,u=>(.fz g u.1 :: (capsS r u.2).1,(capsS r u.2).2)
def castD{g g':GTy} (h:g'=g) (x:g'.D):g.D:=h ▸ x
def castL{g g':GTy} (h:g'=g) (l:List g'.D):List g.D:=h ▸ l
def capsGet:(l:List CapS)->List Cap->{T:List Type}->HL T->Option (HL (capsLT l T))
 | [],[],_,t=>some t
 | .id i :: r,.id j :: s,_,t=>match Nat.beq i j with
  | true=>capsGet r s t
  | false=>none
 | .fz g :: r,.fz g' x :: s,_,t=>match decEq g' g with
  | isTrue h=>match capsGet r s t with
   | some u=>some (castD h x,u)
   | none=>none
  | isFalse _=>none
 | _,_,_,_=>none
theorem capsGet_ok:∀ {l:List CapS} {s:List Cap} {T:List Type} {t:HL T} {u:HL (capsLT l T)},capsGet l s t=some u->capsS l u=(s,t)
 | [],[],_,_,_,h=>by cases h; rfl
 | .id i :: r,.id j :: s,_,t,u,h=>by
  unfold capsGet at h
  split at h
  ·rename_i e
   have:=Nat.eq_of_beq_eq_true e
   subst this
   have:=capsGet_ok h
   unfold capsS;rw[this]
  ·cases h
 | .fz g :: r,.fz g' x :: s,_,t,u,h=>by
  unfold capsGet at h
  split at h
  ·rename_i e _
   subst e
   split at h
   ·rename_i u' e
    cases h
    have:=capsGet_ok e
    unfold capsS;rw[this]
    rfl
   ·cases h
  ·cases h
 | [],_ :: _,_,_,_,h=>by cases h
 | .id _ :: _,[],_,_,_,h=>by cases h
 | .fz _ :: _,[],_,_,_,h=>by cases h
 | .id _ :: _,.fz _ _ :: _,_,_,_,h=>by cases h
 | .fz _ :: _,.id _ :: _,_,_,_,h=>by cases h
inductive CS where
 | raw (c:SC)
 | int (k:IntKind)
 | bool
 | str
 | lst (g:GTy)
 | lstc (g:GTy)
 | lstx (g:GTy)
 | lstq (g:GTy)
 | pel (g:GTy) (off:Nat)
 | par (g:GTy)
 | fn (f:FuncId) (cs:List CapS)
 | elt (id sz off:Nat)
 | nel (id:Nat)
 | slf (id:Nat)
abbrev CS.LT:CS->List Type->List Type
 | .raw _,T=>T
 | .int _,T=>Int :: T
 | .bool,T=>Bool :: T
 | .str,T=>List UInt8 :: T
 | .lst g,T=>List g.D :: T
 | .lstc g,T=>List g.D :: T
 | .lstx g,T=>List g.D :: Nat :: T
 | .lstq g,T=>List g.D :: Option Nat :: T
 | .pel g _,T=>g.D :: T
 | .par g,T=>List g.D :: T
 | .fn _ cs,T=>capsLT cs T
 | .elt _ _ _,T=>Nat :: T
 | .nel _,T=>Nat :: T
 | .slf _,T=>Bool :: T
def CS.S:(s:CS)->{T:List Type}->HL (s.LT T)->SC×HL T
 | .raw c,_,t=>(c,t)
 | .int k,_,u=>(.val (.int k u.1),u.2)
 | .bool,_,u=>(.val (.bool u.1),u.2)
 | .str,_,u=>(.str u.1,u.2)
 | .lst g,_,u=>(.lst g u.1 none,u.2)
 | .lstc g,_,u=>(.lst g u.1 (some u.1.length),u.2)
 | .lstx g,_,u=>(.lst g u.1 (some u.2.1),u.2.2)
 | .lstq g,_,u=>(.lst g u.1 u.2.1,u.2.2)
 | .pel g off,_,u=>(.pel g u.1 off,u.2)
 | .par g,_,u=>(.par g u.1,u.2)
 | .fn f cs,_,u=>(.fn f (capsS cs u).1,(capsS cs u).2)
 | .elt id sz off,_,u=>(.elt id sz u.1 off,u.2)
 | .nel id,_,u=>(.nel id u.1,u.2)
 | .slf id,_,u=>(.slf u.1 id,u.2)
def valEqv:Value->Value->Bool
 | .slice none 0 0,.slice none 0 0=>true
 | .pointer none,.pointer none=>true
 | .map none,.map none=>true
 | .nilIface,.nilIface=>true
 | .nilFunc,.nilFunc=>true
 | _,_=>false
def SC.eqv:SC->SC->Bool
 | .dead,_=>true
 | .ptr i o,.ptr j p=>Nat.beq i j&&Nat.beq o p
 | .sl i,.sl j=>Nat.beq i j
 | .mref i,.mref j=>Nat.beq i j
 | .nel i o,.nel j p=>Nat.beq i j&&Nat.beq o p
 | .bfn f i,.bfn g j=>Nat.beq f g&&Nat.beq i j
 | .val v,.val u=>valEqv v u
 | _,_=>false
def CI(x y:SC):Prop:=∀ env B w v,CR env B w x v->CR env B w y v
theorem valEqv_ok:∀ {v u:Value},valEqv v u=true->v=u:=by
 intro v u h;unfold valEqv at h
 split at h<;>first | rfl | cases h
theorem SC.eqv_ok{c x:SC} (h:c.eqv x=true):CI x c:=by
 unfold SC.eqv at h
 split at h
 ·intro _ _ _ _ _; trivial
 ·simp only[Bool.and_eq_true]at h
  rw[Nat.eq_of_beq_eq_true h.1,Nat.eq_of_beq_eq_true h.2]; exact fun _ _ _ _ h=>h
 ·rw[Nat.eq_of_beq_eq_true h]; exact fun _ _ _ _ h=>h
 ·rw[Nat.eq_of_beq_eq_true h]; exact fun _ _ _ _ h=>h
 ·simp only[Bool.and_eq_true]at h
  rw[Nat.eq_of_beq_eq_true h.1,Nat.eq_of_beq_eq_true h.2]; exact fun _ _ _ _ h=>h
 ·simp only[Bool.and_eq_true]at h
  rw[Nat.eq_of_beq_eq_true h.1,Nat.eq_of_beq_eq_true h.2]; exact fun _ _ _ _ h=>h
 ·rw[valEqv_ok h]; exact fun _ _ _ _ h=>h
 ·cases h
def isNil:Value->Bool
 | .slice none 0 0=>true
 | _=>false
theorem isNil_ok{v:Value} (h:isNil v=true):v=.slice none 0 0:=by
 unfold isNil at h
 split at h
 ·rfl
 ·cases h
def CS.get:(s:CS)->SC->{T:List Type}->HL T->Option (HL (s.LT T))
 | .raw c,x,_,t=>match c.eqv x with
  | true=>some t
  | false=>none
 | .int k,.val (.int k' z),_,t=>match decEq k' k with
  | isTrue _=>some (z,t)
  | isFalse _=>none
 | .bool,.val (.bool b),_,t=>some (b,t)
 | .str,.str s,_,t=>some (s,t)
 | .lst g,.lst g' l _,_,t=>match decEq g' g with
  | isTrue h=>some (castL h l,t)
  | isFalse _=>none
 | .lst g,.val v,_,t=>match isNil v with
  | true=>some (([]:List g.D),t)
  | false=>none
 | .lstc g,.lst g' l (some c),_,t=>match decEq g' g,Nat.beq c l.length with
  | isTrue h,true=>some (castL h l,t)
  | _,_=>none
 | .lstc g,.val v,_,t=>match isNil v with
  | true=>some (([]:List g.D),t)
  | false=>none
 | .lstx g,.lst g' l (some c),_,t=>match decEq g' g with
  | isTrue h=>some (castL h l,c,t)
  | isFalse _=>none
 | .lstx g,.val v,_,t=>match isNil v with
  | true=>some (([]:List g.D),0,t)
  | false=>none
 | .lstq g,.lst g' l c,_,t=>match decEq g' g with
  | isTrue h=>some (castL h l,c,t)
  | isFalse _=>none
 | .lstq g,.val v,_,t=>match isNil v with
  | true=>some (([]:List g.D),some 0,t)
  | false=>none
 | .pel g off,.pel g' x o,_,t=>match decEq g' g,Nat.beq off o with
  | isTrue h,true=>some (castD h x,t)
  | _,_=>none
 | .par g,.par g' l,_,t=>match decEq g' g with
  | isTrue h=>some (castL h l,t)
  | isFalse _=>none
 | .fn f cs,.fn f' ids,_,t=>match Nat.beq f f' with
  | true=>capsGet cs ids t
  | false=>none
 | .elt id sz off,.elt id' sz' i off',_,t=>match Nat.beq id id',Nat.beq sz sz',Nat.beq off off' with
  | true,true,true=>some (i,t)
  | _,_,_=>none
 | .nel id,.nel id' i,_,t=>match Nat.beq id id' with
  | true=>some (i,t)
  | false=>none
 | .slf id,.slf b id',_,t=>match Nat.beq id id' with
  | true=>some (b,t)
  | false=>none
 | .slf id,.ptr id' 0,_,t=>match Nat.beq id id' with
  | true=>some (true,t)
  | false=>none
 | .slf _,.val (.pointer none),_,t=>some (false,t)
 | _,_,_,_=>none
theorem CI.nil{g:GTy} {v:Value} (h:isNil v=true) (k:Option Nat) (hk:∀ q,k=some q->q=0):CI (.val v) (.lst g [] k):=fun env B w u hu=>by
 rw[isNil_ok h]at hu;obtain⟨A,c,xs,h1,h2,h3,h4,h5⟩:=nil_lst (env:=env) (B:=B) (w:=w) (g:=g) hu;exact⟨A,c,xs,h1,h2,h3,fun q hq=>by rw[hk q hq]; exact h4 0 rfl,h5⟩
theorem fn_fin{f:FuncId} {cs:List CapS} {ids:List Cap} {T:List Type} {t:HL T} {u:HL (capsLT cs T)} (h:capsGet cs ids t=some u):((CS.fn f cs).S (T:=T) u).2=t/\CI (.fn f ids) ((CS.fn f cs).S (T:=T) u).1:=by
 show(capsS cs u).2=t/\CI _ (.fn f (capsS cs u).1);rw[capsGet_ok h];exact⟨rfl,fun _ _ _ _ h=>h⟩
theorem CS.get_ok{s:CS} {x:SC} {T:List Type} {t:HL T} {u:HL (s.LT T)} (h:s.get x t=some u):(s.S u).2=t/\CI x (s.S u).1:=by
 unfold CS.get at h
 split at h
 ·split at h
  ·rename_i e; cases h; exact⟨rfl,SC.eqv_ok e⟩
  ·cases h
 ·split at h
  ·rename_i e _; subst e; cases h; exact⟨rfl,fun _ _ _ _ h=>h⟩
  ·cases h
 ·cases h; exact⟨rfl,fun _ _ _ _ h=>h⟩
 ·cases h; exact⟨rfl,fun _ _ _ _ h=>h⟩
 ·split at h
  ·rename_i e _; subst e; cases h
   exact⟨rfl,fun _ _ _ _ ⟨A,c,xs,h1,h2,h3,_,h5⟩=>⟨A,c,xs,h1,h2,h3,(fun _ e=>by cases e),h5⟩⟩
  ·cases h
 ·split at h
  ·rename_i e; cases h; exact⟨rfl,CI.nil e _ fun _ e=>by cases e⟩
  ·cases h
 ·split at h
  ·rename_i e _ hc; subst e; cases h
   have:=Nat.eq_of_beq_eq_true hc
   subst this;exact⟨rfl,fun _ _ _ _ h=>h⟩
  ·cases h
 ·split at h
  ·rename_i e; cases h; exact⟨rfl,CI.nil e _ fun _ e=>by cases e; rfl⟩
  ·cases h
 ·split at h
  ·rename_i e _; subst e; cases h; exact⟨rfl,fun _ _ _ _ h=>h⟩
  ·cases h
 ·split at h
  ·rename_i e; cases h; exact⟨rfl,CI.nil e _ fun _ e=>by cases e; rfl⟩
  ·cases h
 ·split at h
  ·rename_i e _; subst e; cases h; exact⟨rfl,fun _ _ _ _ h=>h⟩
  ·cases h
 ·split at h
  ·rename_i e; cases h; exact⟨rfl,CI.nil e _ fun _ e=>by cases e; rfl⟩
  ·cases h
 ·split at h
  ·rename_i e _ hc; subst e; cases h
   have:=Nat.eq_of_beq_eq_true hc
   subst this;exact⟨rfl,fun _ _ _ _ h=>h⟩
  ·cases h
 ·split at h
  ·rename_i e _; subst e; cases h; exact⟨rfl,fun _ _ _ _ h=>h⟩
  ·cases h
 ·split at h
  ·rename_i e
   have:=Nat.eq_of_beq_eq_true e
   subst this;exact fn_fin h
  ·cases h
 ·split at h
  ·rename_i e1 e2 e3
   cases h;rw[<- Nat.eq_of_beq_eq_true e1,<- Nat.eq_of_beq_eq_true e2,<- Nat.eq_of_beq_eq_true e3];exact⟨rfl,fun _ _ _ _ h=>h⟩
  ·cases h
 ·split at h
  ·rename_i e1
   cases h;rw[<- Nat.eq_of_beq_eq_true e1];exact⟨rfl,fun _ _ _ _ h=>h⟩
  ·cases h
 ·split at h
  ·rename_i e1
   cases h;rw[<- Nat.eq_of_beq_eq_true e1];exact⟨rfl,fun _ _ _ _ h=>h⟩
  ·cases h
 ·split at h
  ·rename_i e1
   cases h;rw[<- Nat.eq_of_beq_eq_true e1];exact⟨rfl,fun _ _ _ _ ⟨b,h1,h2⟩=>⟨b,fun _=>h1,h2⟩⟩
  ·cases h
 ·cases h
  exact⟨rfl,fun _ _ _ _ h=>⟨0,fun h=>(by cases h),h⟩⟩
 ·cases h
abbrev csLT:List CS->List Type->List Type
 | [],T=>T
 | c :: r,T=>c.LT (csLT r T)
def csS:(l:List CS)->{T:List Type}->HL (csLT l T)->List SC×HL T
 | [],_,t=>([],t)
 | c :: r,_,u=>((c.S u).1 :: (csS r (c.S u).2).1,(csS r (c.S u).2).2)
def csGet:(l:List CS)->List SC->{T:List Type}->HL T->Option (HL (csLT l T))
 | [],[],_,t=>some t
 | c :: r,x :: s,_,t=>match csGet r s t with
  | some u=>c.get x u
  | none=>none
 | _,_,_,_=>none
theorem csGet_ok:∀ {l:List CS} {s:List SC} {T:List Type} {t:HL T} {u:HL (csLT l T)},csGet l s t=some u->(csS l u).2=t/\∀ env B w vs,CsR env B w s vs->CsR env B w (csS l u).1 vs
 | [],[],_,_,_,h=>by cases h; exact⟨rfl,fun _ _ _ _ h=>h⟩
 | c :: r,x :: s,_,t,u,h=>by
  unfold csGet at h
  split at h
  ·rename_i u' e
   obtain⟨h1,h2⟩:=csGet_ok e;obtain⟨h3,h4⟩:=CS.get_ok h;unfold csS;rw[h3];refine⟨h1,fun env B w vs ⟨v,q,e,ha,hb⟩=>⟨v,q,e,h4 _ _ _ _ ha,h2 _ _ _ _ hb⟩⟩
  ·cases h
 | [],_ :: _,_,_,_,h=>by cases h
 | _ :: _,[],_,_,_,h=>by cases h
inductive AS where
 | c (x:CS)
 | agg (l:List CS)
 | arr (g:GTy)
 | dat (g:GTy)
abbrev AS.LT:AS->List Type->List Type
 | .c x,T=>x.LT T
 | .agg l,T=>csLT l T
 | .arr g,T=>List g.D :: T
 | .dat g,T=>g.D :: T
def datS(g:GTy) (x:g.D):SA:=match qS g x 0 g.size with
 | some cs=>.agg cs
 | none=>.agg []
def AS.S:(s:AS)->{T:List Type}->HL (s.LT T)->SA×HL T
 | .c x,_,u=>(.c (x.S u).1,(x.S u).2)
 | .agg l,_,u=>(.agg (csS l u).1,(csS l u).2)
 | .arr g,_,u=>(.arr g u.1,u.2)
 | .dat g,_,u=>(datS g u.1,u.2)
def AS.get:(s:AS)->SA->{T:List Type}->HL T->Option (HL (s.LT T))
 | .c x,.c y,_,t=>x.get y t
 | .agg l,.agg cs,_,t=>csGet l cs t
 | .arr g,.arr g' l,_,t=>match decEq g' g with
  | isTrue h=>some (castL h l,t)
  | isFalse _=>none
 | .dat g,.agg cs,_,t=>match dec g cs with
  | some (true,x,[])=>match qS g x 0 g.size with
   | some _=>some (x,t)
   | none=>none
  | _=>none
 | _,_,_,_=>none
theorem AS.get_ok{s:AS} {x:SA} {T:List Type} {t:HL T} {u:HL (s.LT T)} (h:s.get x t=some u):(s.S u).2=t/\∀ env B w v,SaR env B w x v->SaR env B w (s.S u).1 v:=by
 unfold AS.get at h
 split at h
 ·exact CS.get_ok h
 ·obtain⟨h1,h2⟩:=csGet_ok h
  exact⟨h1,fun env B w v ⟨vs,e,hc⟩=>⟨vs,e,h2 _ _ _ _ hc⟩⟩
 ·split at h
  ·rename_i e _; subst e; cases h; exact⟨rfl,fun _ _ _ _ h=>h⟩
  ·cases h
 ·split at h
  ·rename_i e1
   split at h
   ·rename_i cs' e2
    cases h;refine⟨rfl,fun env B w v ⟨vs,e,hc⟩=>?_⟩;show SaR env B w (datS _ _) v;unfold datS;rw[e2];exact⟨vs,e,hc.data e1 rfl e2⟩
   ·cases h
  ·cases h
 ·cases h
abbrev asLT:List AS->List Type->List Type
 | [],T=>T
 | c :: r,T=>c.LT (asLT r T)
def asS:(l:List AS)->{T:List Type}->HL (asLT l T)->List SA×HL T
 | [],_,t=>([],t)
 | c :: r,_,u=>((c.S u).1 :: (asS r (c.S u).2).1,(asS r (c.S u).2).2)
def asGet:(l:List AS)->List SA->{T:List Type}->HL T->Option (HL (asLT l T))
 | [],[],_,t=>some t
 | c :: r,x :: s,_,t=>match asGet r s t with
  | some u=>c.get x u
  | none=>none
 | _,_,_,_=>none
theorem asGet_ok:∀ {l:List AS} {s:List SA} {T:List Type} {t:HL T} {u:HL (asLT l T)},asGet l s t=some u->(asS l u).2=t/\∀ env B w vs,SasR env B w s vs->SasR env B w (asS l u).1 vs
 | [],[],_,_,_,h=>by cases h; exact⟨rfl,fun _ _ _ _ h=>h⟩
 | c :: r,x :: s,_,t,u,h=>by
  unfold asGet at h
  split at h
  ·rename_i u' e
   obtain⟨h1,h2⟩:=asGet_ok e;obtain⟨h3,h4⟩:=AS.get_ok h;unfold asS;rw[h3];refine⟨h1,fun env B w vs ⟨v,q,e,ha,hb⟩=>⟨v,q,e,h4 _ _ _ _ ha,h2 _ _ _ _ hb⟩⟩
  ·cases h
 | [],_ :: _,_,_,_,h=>by cases h
 | _ :: _,[],_,_,_,h=>by cases h
inductive VS where
 | a (x:AS)
 | tup (l:List AS)
abbrev VS.LT:VS->List Type->List Type
 | .a x,T=>x.LT T
 | .tup l,T=>asLT l T
def VS.S:(s:VS)->{T:List Type}->HL (s.LT T)->SV×HL T
 | .a x,_,u=>(.a (x.S u).1,(x.S u).2)
 | .tup l,_,u=>(.tup (asS l u).1,(asS l u).2)
def VS.get:(s:VS)->SV->{T:List Type}->HL T->Option (HL (s.LT T))
 | .a x,.a y,_,t=>x.get y t
 | .tup l,.tup cs,_,t=>asGet l cs t
 | _,_,_,_=>none
def VI(x y:SV):Prop:=∀ env B w v,VR env B w x v->VR env B w y v
theorem VS.get_ok{s:VS} {x:SV} {T:List Type} {t:HL T} {u:HL (s.LT T)} (h:s.get x t=some u):(s.S u).2=t/\VI x (s.S u).1:=by
 unfold VS.get at h
 split at h
 ·exact AS.get_ok h
 ·obtain⟨h1,h2⟩:=asGet_ok h
  exact⟨h1,fun env B w v ⟨vs,e,hc⟩=>⟨vs,e,h2 _ _ _ _ hc⟩⟩
 ·cases h
abbrev slLT:List (Nat×VS)->List Type->List Type
 | [],T=>T
 | c :: r,T=>c.2.LT (slLT r T)
def slS:(l:List (Nat×VS))->{T:List Type}->HL (slLT l T)->Sl×HL T
 | [],_,t=>([],t)
 | c :: r,_,u=>((c.1,(c.2.S u).1) :: (slS r (c.2.S u).2).1,(slS r (c.2.S u).2).2)
def slGet:(l:List (Nat×VS))->Sl->{T:List Type}->HL T->Option (HL (slLT l T))
 | [],_,_,t=>some t
 | c :: r,L,_,t=>match lk L c.1,slGet r L t with
  | some x,some u=>c.2.get x u
  | _,_=>none
theorem slGet_ok:∀ {l:List (Nat×VS)} {L:Sl} {T:List Type} {t:HL T} {u:HL (slLT l T)},slGet l L t=some u->(slS l u).2=t/\∀ s sv,lk (slS l u).1 s=some sv->∃ x,lk L s=some x/\VI x sv
 | [],_,_,_,_,h=>by cases h; exact⟨rfl,fun _ _ h=>by cases h⟩
 | c :: r,L,_,t,u,h=>by
  unfold slGet at h
  split at h
  ·rename_i x u' e1 e
   obtain⟨h1,h2⟩:=slGet_ok e;obtain⟨h3,h4⟩:=VS.get_ok h;unfold slS;rw[h3];refine⟨h1,fun s sv hs=>?_⟩;rw[zu]at hs
   split at hs
   ·rename_i e; subst e; cases hs; exact⟨x,e1,h4⟩
   ·exact h2 s sv hs
  ·cases h
inductive BS where
 | cells (t:TypeId) (l:List CS)
 | row (t:TypeId) (g:GTy)
 | rowx (t:TypeId) (g:GTy)
 | lrow (t:TypeId) (g:GTy)
 | mp (gk gv:GTy)
 | hrow (el:Bool) (t:TypeId) (g:GTy) (d:Nat)
 | hrowx (el:Bool) (t:TypeId) (g:GTy) (d:Nat)
 | sit
 | mrow (t t':TypeId) (g:GTy)
 | mrowh (t t':TypeId) (g:GTy) (d:Option Nat)
abbrev BS.LT:BS->List Type->List Type
 | .cells _ l,T=>csLT l T
 | .row _ g,T=>List g.D :: T
 | .rowx _ g,T=>List g.D :: Nat :: T
 | .lrow _ g,T=>List g.D :: T
 | .mp gk gv,T=>List (gk.D×gv.D) :: T
 | .hrow _ _ g _,T=>List (List g.D) :: Nat :: T
 | .hrowx _ _ g _,T=>List (List g.D) :: Nat :: Nat :: T
 | .sit,T=>ByteArray :: Nat :: T
 | .mrow _ _ g,T=>List (Bool×List g.D) :: T
 | .mrowh _ _ g _,T=>List (Bool×List g.D) :: Nat :: T
def BS.S:(s:BS)->{T:List Type}->HL (s.LT T)->Blk×HL T
 | .cells t l,_,u=>(.cells t (csS l u).1,(csS l u).2)
 | .row t g,_,u=>(.row t g u.1 none,u.2)
 | .rowx t g,_,u=>(.row t g u.1 (some u.2.1),u.2.2)
 | .lrow t g,_,u=>(.lrow t g u.1,u.2)
 | .mp gk gv,_,u=>(.mp gk gv u.1 none,u.2)
 | .hrow el t g d,_,u=>(.hrow el t g u.1 none u.2.1 d,u.2.2)
 | .hrowx el t g d,_,u=>(.hrow el t g u.1 (some u.2.2.1) u.2.1 d,u.2.2.2)
 | .sit,_,u=>(.sit u.1 u.2.1,u.2.2)
 | .mrow t t' g,_,u=>(.mrow t t' g u.1 none none,u.2)
 | .mrowh t t' g d,_,u=>(.mrow t t' g u.1 none (some (u.2.1,d)),u.2.2)
def castBL{g g':GTy} (h:g'=g) (l:List (Bool×List g'.D)):List (Bool×List g.D):=h ▸ l
def castLL{g g':GTy} (h:g'=g) (l:List (List g'.D)):List (List g.D):=h ▸ l
def castM{gk gk' gv gv':GTy} (h:gk'=gk) (h2:gv'=gv) (l:List (gk'.D×gv'.D)):List (gk.D×gv.D):=h ▸ h2 ▸ l
def BS.get:(s:BS)->Blk->{T:List Type}->HL T->Option (HL (s.LT T))
 | .cells t l,.cells t' cs,_,u=>match Nat.beq t' t with
  | true=>csGet l cs u
  | false=>none
 | .row t g,.row t' g' l _,_,u=>match Nat.beq t' t,decEq g' g with
  | true,isTrue h=>some (castL h l,u)
  | _,_=>none
 | .rowx t g,.row t' g' l (some c),_,u=>match Nat.beq t' t,decEq g' g with
  | true,isTrue h=>some (castL h l,c,u)
  | _,_=>none
 | .lrow t g,.lrow t' g' l,_,u=>match Nat.beq t' t,decEq g' g with
  | true,isTrue h=>some (castL h l,u)
  | _,_=>none
 | .lrow t g,.row t' g' l _,_,u=>match Nat.beq t' t,decEq g' g with
  | true,isTrue h=>some (castL h l,u)
  | _,_=>none
 | .mp gk gv,.mp gk' gv' l _,_,u=>match decEq gk' gk,decEq gv' gv with
  | isTrue h,isTrue h2=>some (castM h h2 l,u)
  | _,_=>none
 | .hrow el t g d,.hrow el' t' g' l _ i d',_,u=>match decEq el' el,Nat.beq t' t,Nat.beq d' d,decEq g' g with
  | isTrue _,true,true,isTrue h=>some (castLL h l,i,u)
  | _,_,_,_=>none
 | .hrowx el t g d,.hrow el' t' g' l (some c) i d',_,u=>match decEq el' el,Nat.beq t' t,Nat.beq d' d,decEq g' g with
  | isTrue _,true,true,isTrue h=>some (castLL h l,i,c,u)
  | _,_,_,_=>none
 | .sit,.sit s p,_,u=>some (s,p,u)
 | .mrow t t2 g,.mrow t' t2' g' l _ none,_,u=>match Nat.beq t' t,Nat.beq t2' t2,decEq g' g with
  | true,true,isTrue h=>some (castBL h l,u)
  | _,_,_=>none
 | .mrowh t t2 g d,.mrow t' t2' g' l _ (some (i,d')),_,u=>match Nat.beq t' t,Nat.beq t2' t2,decEq d' d,decEq g' g with
  | true,true,isTrue _,isTrue h=>some (castBL h l,i,u)
  | _,_,_,_=>none
 | _,_,_,_=>none
def BI(id:Nat) (x y:Blk):Prop:=∀ env B w c,BR env B w id x c->BR env B w id y c
theorem BS.get_ok{s:BS} {x:Blk} {T:List Type} {t:HL T} {u:HL (s.LT T)} (id:Nat) (h:s.get x t=some u):(s.S u).2=t/\BI id x (s.S u).1:=by
 unfold BS.get at h
 split at h
 ·split at h
  ·rename_i e
   rw[Nat.eq_of_beq_eq_true e];obtain⟨h1,h2⟩:=csGet_ok h;exact⟨h1,fun env B w c ⟨b,vs,e,hc,h3⟩=>⟨b,vs,e,hc,h2 _ _ _ _ h3⟩⟩
  ·cases h
 ·split at h
  ·rename_i h2 e _
   subst h2;rw[Nat.eq_of_beq_eq_true e];cases h;exact⟨rfl,fun env B w c ⟨A,k,xs,e,hc,h3,_⟩=>⟨A,k,xs,e,hc,h3,fun _ e=>by cases e⟩⟩
  ·cases h
 ·split at h
  ·rename_i h2 e _
   subst h2;rw[Nat.eq_of_beq_eq_true e];cases h;exact⟨rfl,fun env B w c h=>h⟩
  ·cases h
 ·split at h
  ·rename_i h2 e _
   subst h2;rw[Nat.eq_of_beq_eq_true e];cases h;exact⟨rfl,fun env B w c h=>h⟩
  ·cases h
 ·split at h
  ·rename_i h2 e _
   subst h2;rw[Nat.eq_of_beq_eq_true e];cases h;exact⟨rfl,fun env B w c ⟨A,k,xs,e,hc,h3,_⟩=>⟨A,k,e,.inl ⟨xs,hc,h3⟩⟩⟩
  ·cases h
 ·split at h
  ·rename_i h1 h2 _ _
   subst h1;subst h2;cases h;exact⟨rfl,fun env B w c ⟨b,es,k,e,hc,h3,h4,_⟩=>⟨b,es,k,e,hc,h3,h4,fun _ e=>by cases e⟩⟩
  ·cases h
 ·split at h
  ·rename_i he h3 _ h1 h2 _
   subst he;subst h3;rw[Nat.eq_of_beq_eq_true h1,Nat.eq_of_beq_eq_true h2];cases h;exact⟨rfl,fun env B w c ⟨A,k,ys,A',c',m,e,hc,h1,hi,h2,_,h4⟩=>⟨A,k,ys,A',c',m,e,hc,h1,hi,h2,(fun _ e=>by cases e),h4⟩⟩
  ·cases h
 ·split at h
  ·rename_i he h3 _ h1 h2 _
   subst he;subst h3;rw[Nat.eq_of_beq_eq_true h1,Nat.eq_of_beq_eq_true h2];cases h;exact⟨rfl,fun env B w c h=>h⟩
  ·cases h
 ·cases h
  exact⟨rfl,fun env B w c h=>h⟩
 ·split at h
  ·rename_i h3 h1 h2 _
   subst h3;rw[Nat.eq_of_beq_eq_true h1,Nat.eq_of_beq_eq_true h2];cases h;exact⟨rfl,fun env B w c ⟨A,k,ys,ys',I,e,hc,h4,h5,_⟩=>⟨A,k,ys,ys',I,e,hc,h4,h5,fun _ e=>by cases e⟩⟩
  ·cases h
 ·split at h
  ·rename_i he h3 h1 h2 _ _
   subst he;subst h3;rw[Nat.eq_of_beq_eq_true h1,Nat.eq_of_beq_eq_true h2];cases h;exact⟨rfl,fun env B w c ⟨A,k,ys,ys',I,e,hc,h4,h5,_⟩=>⟨A,k,ys,ys',I,e,hc,h4,h5,fun _ e=>by cases e⟩⟩
  ·cases h
 ·cases h
abbrev hpLT:List (Nat×BS)->List Type->List Type
 | [],T=>T
 | c :: r,T=>c.2.LT (hpLT r T)
def hpS:(l:List (Nat×BS))->{T:List Type}->HL (hpLT l T)->Hp×HL T
 | [],_,t=>([],t)
 | c :: r,_,u=>((c.1,(c.2.S u).1) :: (hpS r (c.2.S u).2).1,(hpS r (c.2.S u).2).2)
def hpGet:(l:List (Nat×BS))->Hp->{T:List Type}->HL T->Option (HL (hpLT l T))
 | [],[],_,t=>some t
 | c :: r,x :: s,_,t=>match Nat.beq c.1 x.1,hpGet r s t with
  | true,some u=>c.2.get x.2 u
  | _,_=>none
 | _,_,_,_=>none
theorem hpGet_ok:∀ {l:List (Nat×BS)} {h:Hp} {T:List Type} {t:HL T} {u:HL (hpLT l T)},hpGet l h t=some u->(hpS l u).2=t/\∀ env B w H,HR env B w h H->HR env B w (hpS l u).1 H
 | [],[],_,_,_,h=>by cases h; exact⟨rfl,fun _ _ _ _ h=>h⟩
 | c :: r,x :: s,_,t,u,h=>by
  unfold hpGet at h
  split at h
  ·rename_i u' e1 e
   obtain⟨h1,h2⟩:=hpGet_ok e;obtain⟨h3,h4⟩:=BS.get_ok x.1 h;unfold hpS;rw[h3];refine⟨h1,fun env B w H ⟨q,H',e,ha,hb⟩=>⟨q,H',e,?_,h2 _ _ _ _ hb⟩⟩;rw[Nat.eq_of_beq_eq_true e1];exact h4 _ _ _ _ ha
  ·cases h
 | [],_ :: _,_,_,_,h=>by cases h
 | _ :: _,[],_,_,_,h=>by cases h
structure Sh where
 L:List (Nat×VS)
 H:List (Nat×BS)
 kL:List Nat:=[]
 kH:List Nat:=[]
abbrev Sh.T (s:Sh):List Type:=slLT s.L (hpLT s.H [])
abbrev Sh.D (s:Sh):Type:=TupT s.T
end Go.Proofs.YtldjgdggcodgeaaGreat
