/- Part 2 of 6 of the proof. -/
import Derived.Test.YtijeenjclhajhaaGreatDoorRm01
import Derived.Lib.LaidTab
import Derived.Test.YtijeenjclhajhaaGreatDoorProg
import Derived.KernelRfl
import Derived.Lib.ItoaNum
import Derived.Test.YtijeenjclhajhaaGreatDoorRows
import Derived.LaidMore
import Derived.OpenShut
import Derived.Stop.Joined
import Derived.Test.YtijeenjclhajhaaGreatDoorCards
import Derived.Test.YtijeenjclhajhaaGreatDoorTie
import Derived.SevenTiedAt
import Derived.Maps.RangeRun
import Derived.Scope
import Derived.Lib.OthersKept
set_option linter.all false
set_option maxRecDepth 100000
namespace Go.Proofs.YtijeenjclhajhaaGreatDoor
open Go.Proofs.Tryz
open _root_.Bool (and_eq_true not_eq_true' or_eq_true)
open _root_.Nat (add_mul beq beq_refl ble blt eq_of_beq_eq_true le_of_ble_eq_true le_refl le_trans zero_add)
open _root_.List (all_eq_true append_assoc append_nil cons_append drop_drop elem_eq_mem ext_getElem? filter_cons_of_neg filter_sublist getElem?_eq_getElem getElem?_eq_none getElem?_map length_append length_cons length_map map_append map_nil mem_append_right mem_cons_of_mem mem_cons_self range sublist_append_left toArray)
open Go.RowKit
variable{α:Type}{clock i j n s:Nat}{h:bC}{k:IntKind}{X:bx}{B R:Nat->Prop}{W ai w:World}{aC:fe}{env:Nat->Loc}{H:cW}{st st':aP}{a:Act}{v:Value}{f:FuncId}{fn:Func}{xs:dX}{fI:Array TypeId}{args:dT}{o:Oper}{l l':Array Bool}{P:Program}{e e3 fB t:TypeId}{g gk gv:aZ}{vs:bQ}{z:Int}{bB dC:cm}{u x y:Operand}{iW:Option (List MapEntry×Nat)}{g2:Bool}{dW:bn}{V js ps:bG}{cap:Option Nat}{aK:TypeDesc}{b:cz}
section
abbrev eh:=List (Nat×Nat)
def zd(ps:eh):dY->Option dY
 |[]=>some []
 |.id i::r=>match bh ps i,zd ps r with
  |some j,some l=>some (.id j::l)
  |_,_=>none
 |.eC g x::r=>match zd ps r with
  |some l=>some (.eC g x::l)
  |none=>none
def bs.dF(ps:eh):bs->Option bs
 |.ptr i o=>match bh ps i with
  |some j=>some (.ptr j o)
  |none=>none
 |.eT i a k o=>match bh ps i with
  |some j=>some (.eT j a k o)
  |none=>none
 |.ax i=>match bh ps i with
  |some j=>some (.ax j)
  |none=>none
 |.fn f ids=>match zd ps ids with
  |some l=>some (.fn f l)
  |none=>none
 |.dv i=>match bh ps i with
  |some j=>some (.dv j)
  |none=>none
 |.jD f i=>match bh ps i with
  |some j=>some (.jD f j)
  |none=>none
 |.il i o=>match bh ps i with
  |some j=>some (.il j o)
  |none=>none
 |.jV i=>match bh ps i with
  |some j=>some (.jV j)
  |none=>none
 |.jE i s o=>match bh ps i with
  |some j=>some (.jE j s o)
  |none=>none
 |.iC b i=>match bh ps i with
  |some j=>some (.iC b j)
  |none=>none
 |.val v=>some (.val v)
 |.str s=>some (.str s)
 |.dead=>some .dead
 |.fu g x o=>some (.fu g x o)
 |.par g l=>some (.par g l)
 |.bz g l c=>some (.bz g l c)
def BD(ps:eh):dP->Option dP
 |[]=>some []
 |c::r=>match c.dF ps,BD ps r with
  |some c',some a=>some (c'::a)
  |_,_=>none
def bn.dF(ps:eh):bn->Option bn
 |.c x=>match x.dF ps with
  |some y=>some (.c y)
  |none=>none
 |.agg cs=>match BD ps cs with
  |some l=>some (.agg l)
  |none=>none
 |.arr g l=>some (.arr g l)
def u5(ps:eh):dT->Option dT
 |[]=>some []
 |c::r=>match c.dF ps,u5 ps r with
  |some c',some a=>some (c'::a)
  |_,_=>none
def b7.dF(ps:eh):b7->Option b7
 |.a x=>match x.dF ps with
  |some y=>some (.a y)
  |none=>none
 |.cE xs=>match u5 ps xs with
  |some l=>some (.cE l)
  |none=>none
 |.may _ _=>none
def cz.dF(ps:eh):cz->Option cz
 |.cells t cs=>match BD ps cs with
  |some l=>some (.cells t l)
  |none=>none
 |.row t g l c=>some (.row t g l c)
 |.k7 s p=>some (.k7 s p)
 |.mp gk gv l o=>some (.mp gk gv l o)
 |.it a f k b=>match bh ps a with
  |some j=>some (.it j f k b)
  |none=>none
 |.k8=>some .k8
 |.hS a=>match bh ps a with
  |some j=>some (.hS j)
  |none=>none
 |.cN e t g l c i d=>match bh ps d with
  |some j=>some (.cN e t g l c i j)
  |none=>none
 |.lH=>some .lH
 |.gT t g l=>some (.gT t g l)
 |.bS t t' g l c none=>some (.bS t t' g l c none)
 |.bS t t' g l c (some (i,none))=>some (.bS t t' g l c (some (i,none)))
 |.bS t t' g l c (some (i,some d))=>match bh ps d with
  |some j=>some (.bS t t' g l c (some (i,some j)))
  |none=>none
def tB(ps:eh):bC->Option bC
 |[]=>some []
 |(i,b)::r=>match bh ps i,b.dF ps,tB ps r with
  |some j,some b',some a=>some ((j,b')::a)
  |_,_,_=>none
def rB(js:bG):dY->Bool
 |[]=>false
 |.id i::r=>js.elem i || rB js r
 |.eC _ _::r=>rB js r
def bs.kill:bs->bG->bs
 |.ptr i o,js=>match js.elem i with
  |true=>.dead
  |false=>.ptr i o
 |.eT i a j o,js=>match js.elem i with
  |true=>.dead
  |false=>.eT i a j o
 |.ax i,js=>match js.elem i with
  |true=>.dead
  |false=>.ax i
 |.fn f ids,js=>match rB js ids with
  |true=>.dead
  |false=>.fn f ids
 |.dv i,js=>match js.elem i with
  |true=>.dead
  |false=>.dv i
 |.jD f i,js=>match js.elem i with
  |true=>.dead
  |false=>.jD f i
 |.il i o,js=>match js.elem i with
  |true=>.dead
  |false=>.il i o
 |.jV i,js=>match js.elem i with
  |true=>.dead
  |false=>.jV i
 |.jE i s o,js=>match js.elem i with
  |true=>.dead
  |false=>.jE i s o
 |.iC b i,js=>match js.elem i with
  |true=>.dead
  |false=>.iC b i
 |c,_=>c
def su(js:bG):dP->dP
 |[]=>[]
 |c::r=>c.kill js::su js r
def bn.kill:bn->bG->bn
 |.c x,js=>.c (x.kill js)
 |.agg cs,js=>.agg (su js cs)
 |.arr g l,_=>.arr g l
def w4(js:bG):dT->dT
 |[]=>[]
 |c::r=>c.kill js::w4 js r
def b7.kill:b7->bG->b7
 |.a x,js=>.a (x.kill js)
 |.may g x,js=>.may g (x.kill js)
 |.cE xs,js=>.cE (w4 js xs)
def qH(js:bG):cS->cS
 |[]=>[]
 |(k,v)::r=>(k,v.kill js)::qH js r
def cz.kill:cz->bG->cz
 |.cells t cs,js=>.cells t (su js cs)
 |.it a f k ps,js=>match js.elem a with
  |true=>.k8
  |false=>.it a f k ps
 |.hS a,js=>match js.elem a with
  |true=>.k8
  |false=>.hS a
 |.cN e t g l c i d,js=>match js.elem d with
  |true=>.lH
  |false=>.cN e t g l c i d
 |.bS t t' g l c (some (i,some d)),js=>match js.elem d with
  |true=>.bS t t' g l c (some (i,none))
  |false=>.bS t t' g l c (some (i,some d))
 |b,_=>b
def je(js ks:bG):bC->bC
 |[]=>[]
 |(k,b)::r=>match js.elem k with
  |true=>je js ks r
  |false=>(k,b.kill ks)::je js ks r
def lO:eh->bG
 |[]=>[]
 |(_,j)::r=>j::lO r
def E7(h:bC)(i:Nat):Bool:=match ble h1 i,ble lJ i,bh h i with
 |true,_,_=>true
 |_,true,some (.cells _ _)=>true
 |_,true,some (.mp _ _ _ _)=>true
 |_,_,_=>false
def j0(h:bC):eh->bG
 |[]=>[]
 |(i,j)::r=>match E7 h i with
  |true=>j0 h r
  |false=>j::j0 h r
def rC:bG->Bool
 |[]=>true
 |x::r=>!(r.elem x)&&rC r
def u6:eh->bG
 |[]=>[]
 |(i,_)::r=>i::u6 r
def E8(n:Nat):eh->Bool
 |[]=>true
 |(i,j)::r=>(ble h1 i || (ble lJ i&&blt j h1) || blt j n)&&E8 n r
def ze(n:Nat)(ps:eh):Bool:=rC (u6 ps)&&rC (lO ps)&&E8 n ps
def inv:eh->Nat->Option Nat
 |[],_=>none
 |(i,j)::r,k=>if k=j then some i else inv r k
theorem BE:∀ {l:bG},rC l=true->l.Nodup
 |[],_=>List.nodup_nil
 |x::r,h=>by
  simp only[rC,and_eq_true,not_eq_true',elem_eq_mem,decide_eq_false_iff_not]at h;exact List.nodup_cons.2 ⟨h.1,BE h.2⟩
theorem BF:∀ {l:List (Nat×α)} {i:Nat} {x:α},bh l i=some x->(i,x)∈l
 |[],_,_,h=>by cases h
 |(k,v)::r,i,x,h=>by
  rw[cO]at h
  split at h
  ·grind
  ·exact mem_cons_of_mem _ (BF h)
theorem RB:∀ {ps:eh} {i j:Nat},(i,j)∈ps->i∈u6 ps
 |[],_,_,h=>by cases h
 |(k,l)::r,i,j,h=>by
  rcases List.mem_cons.1 h with h|h
  ·cases h;exact mem_cons_self
  ·exact mem_cons_of_mem _ (RB h)
theorem E9:∀ {ps:eh} {i j:Nat},(i,j)∈ps->j∈lO ps
 |[],_,_,h=>by cases h
 |(k,l)::r,i,j,h=>by
  rcases List.mem_cons.1 h with h|h
  ·cases h;exact mem_cons_self
  ·exact mem_cons_of_mem _ (E9 h)
theorem Fa:∀ {ps:eh} {i j:Nat},(u6 ps).Nodup->(i,j)∈ps->bh ps i=some j
 |[],_,_,_,h=>by cases h
 |(k,l)::r,i,j,bc,h=>by
  have a:=List.nodup_cons.1 bc;rw[cO]
  rcases List.mem_cons.1 h with hm|hm
  ·grind
  ·rw[if_neg (λe=>a.1 (by subst e;exact RB hm)),Fa a.2 hm]
theorem RC:∀ {ps:eh} {i j:Nat},(lO ps).Nodup->(i,j)∈ps->inv ps j=some i
 |[],_,_,_,h=>by cases h
 |(k,l)::r,i,j,bc,h=>by
  have a:=List.nodup_cons.1 bc;unfold inv
  rcases List.mem_cons.1 h with hm|hm
  ·grind
  ·rw[if_neg (λe=>a.1 (by subst e;exact E9 hm)),RC a.2 hm]
theorem Fb:∀ {ps:eh} {i j:Nat},inv ps j=some i->(i,j)∈ps
 |[],_,_,h=>by cases h
 |(k,l)::r,i,j,h=>by
  unfold inv at h
  split at h
  ·grind
  ·exact mem_cons_of_mem _ (Fb h)
theorem RD:∀ {ps:eh} {i j:Nat},E8 n ps=true->(i,j)∈ps->h1<=i\/(lJ<=i/\j<h1)\/j<n
 |[],_,_,_,h=>by cases h
 |(k,l)::r,i,j,an,h=>by
  simp only[E8,and_eq_true,or_eq_true]at an
  rcases List.mem_cons.1 h with h|h
  ·cases h
   rcases an.1 with(J|J)|J
   ·exact .inl (le_of_ble_eq_true J)
   ·exact .inr (.inl ⟨le_of_ble_eq_true J.1,dH J.2⟩)
   ·exact .inr (.inr (dH J))
  ·exact RD an.2 h
theorem Kj:∀ {ps:eh} {i j:Nat},(i,j)∈ps->(j0 h ps).elem j=false->E7 h i=true
 |[],_,_,h,_=>by cases h
 |(k,l)::r,i,j,hm,ab=>by
  unfold j0 at ab
  rcases List.mem_cons.1 hm with hm|hm
  ·grind
  ·split at ab
   ·exact Kj hm ab
   ·simp only[elem_eq_mem,List.mem_cons,decide_eq_false_iff_not,not_or]at ab
    exact Kj hm (by simpa using ab.2)
section
variable {env env' env'':Nat->Loc} {B:Nat->Prop} {w:World} {ps:eh} {js:bG}
theorem fv.dF(he:∀i j,bh ps i=some j->env' j=env i):∀ {ids l:dY} {vs:bQ},zd ps ids=some l->(fv env B w ids vs↔fv env' B w l vs)
 |[],l,vs,h=>by cases h;exact Iff.rfl
 |.id i::ids,l,vs,h=>by
  simp only[zd]at h
  split at h
  ·rename_i j r hi a
   cases h;constructor
   ·rintro⟨v,cH,J,⟨b,U,aw⟩,ah⟩
    exact⟨v,cH,J,⟨b,by rw[he i j hi];exact U,aw⟩,(fv.dF he a).1 ah⟩
   ·rintro⟨v,cH,J,⟨b,U,aw⟩,ah⟩
    exact⟨v,cH,J,⟨b,by rw[<- he i j hi];exact U,aw⟩,(fv.dF he a).2 ah⟩
  grind
 |.eC g x::ids,l,vs,h=>by
  simp only[zd]at h
  split at h
  ·rename_i r a
   cases h;constructor
   ·rintro⟨v,cH,J,U,ah⟩;exact⟨v,cH,J,U,(fv.dF he a).1 ah⟩
   ·rintro⟨v,cH,J,U,ah⟩;exact⟨v,cH,J,U,(fv.dF he a).2 ah⟩
  grind
theorem dw.dF(he:∀i j,bh ps i=some j->env' j=env i):∀ {c c':bs} {v:Value},c.dF ps=some c'->(dw env B w c v↔dw env' B w c' v)
 |.val _,_,_,h=>by cases h;exact Iff.rfl
 |.str _,_,_,h=>by cases h;exact Iff.rfl
 |.dead,_,_,h=>by cases h;exact Iff.rfl
 |.ptr i o,_,_,h=>by
  grind [bs.dF,dw]
 |.eT i a k o,_,_,h=>by
  grind [bs.dF,dw]
 |.iC b i,_,_,h=>by
  grind [bs.dF,dw]
 |.jV i,_,_,h=>by
  grind [bs.dF,dw]
 |.jE i s o,_,_,h=>by
  grind [bs.dF,dw]
 |.il i o,_,_,h=>by
  grind [bs.dF,dw]
 |.fu _ _ _,_,_,h=>by cases h;exact Iff.rfl
 |.par _ _,_,_,h=>by cases h;exact Iff.rfl
 |.ax i,_,_,h=>by
  grind [bs.dF,dw]
 |.bz _ _ _,_,_,h=>by cases h;exact Iff.rfl
 |.fn f ids,_,_,h=>by
  grind [bs.dF,dw,fv.dF]
 |.dv i,_,_,h=>by
  grind [bs.dF,dw]
 |.jD f i,_,_,h=>by
  grind [bs.dF,dw]
theorem cM.dF(he:∀i j,bh ps i=some j->env' j=env i):∀ {c c':dP} {v:bQ},BD ps c=some c'->(cM env B w c v↔cM env' B w c' v)
 |[],_,_,h=>by cases h;exact Iff.rfl
 |c::r,_,_,h=>by
  simp only[BD]at h
  split at h
  ·rename_i c' a J U
   cases h;constructor
   ·rintro⟨v,q,e,ah,aw⟩;exact⟨v,q,e,(dw.dF he J).1 ah,(cM.dF he U).1 aw⟩
   ·rintro⟨v,q,e,ah,aw⟩;exact⟨v,q,e,(dw.dF he J).2 ah,(cM.dF he U).2 aw⟩
  grind
theorem dN.dF(he:∀i j,bh ps i=some j->env' j=env i):∀ {c c':bn} {v:Value},c.dF ps=some c'->(dN env B w c v↔dN env' B w c' v)
 |.c x,_,_,h=>by
  simp only[bn.dF]at h
  split at h
  ·rename_i y aA;cases h;exact dw.dF he aA
  grind
 |.agg cs,_,_,h=>by
  simp only[bn.dF]at h
  split at h
  ·rename_i l ao
   cases h;constructor
   ·rintro⟨vs,e,ah⟩;exact⟨vs,e,(cM.dF he ao).1 ah⟩
   ·rintro⟨vs,e,ah⟩;exact⟨vs,e,(cM.dF he ao).2 ah⟩
  grind
 |.arr g l,_,_,h=>by cases h;exact Iff.rfl
theorem dx.dF(he:∀i j,bh ps i=some j->env' j=env i):∀ {c c':dT} {v:bQ},u5 ps c=some c'->(dx env B w c v↔dx env' B w c' v)
 |[],_,_,h=>by cases h;exact Iff.rfl
 |c::r,_,_,h=>by
  simp only[u5]at h
  split at h
  ·rename_i c' a J U
   cases h;constructor
   ·rintro⟨v,q,e,ah,aw⟩;exact⟨v,q,e,(dN.dF he J).1 ah,(dx.dF he U).1 aw⟩
   ·rintro⟨v,q,e,ah,aw⟩;exact⟨v,q,e,(dN.dF he J).2 ah,(dx.dF he U).2 aw⟩
  grind
theorem eI.dF(he:∀i j,bh ps i=some j->env' j=env i):∀ {c c':b7} {v:Value},c.dF ps=some c'->eI env B w c v->eI env' B w c' v
 |.a x,_,_,h,a=>by
  simp only[b7.dF]at h
  split at h
  ·rename_i y aA;cases h;exact(dN.dF he aA).1 a
  grind
 |.cE xs,_,_,h,⟨vs,e,a⟩=>by
  simp only[b7.dF]at h
  split at h
  ·rename_i l ao;cases h;exact⟨vs,e,(dx.dF he ao).1 a⟩
  grind
 |.may _ _,_,_,h,_=>by cases h
theorem eF.dF(he:∀i j,bh ps i=some j->env' j=env i)(hi:bh ps i=some j):∀ {b b':cz} {c:bm},b.dF ps=some b'->(eF env B w i b c↔eF env' B w j b' c)
 |.cells t cs,_,_,h=>by
  grind [cz.dF,eF,cM.dF]
 |.row t g l c,_,_,h=>by cases h;simp only[eF,he i j hi]
 |.k7 s p,_,_,h=>by cases h;simp only[eF,he i j hi]
 |.mp gk gv l o,_,_,h=>by cases h;simp only[eF,he i j hi]
 |.it m y k r,_,_,h=>by
  grind [cz.dF,eF]
 |.hS m,_,_,h=>by
  grind [cz.dF,eF]
 |.k8,_,_,h=>by cases h;simp only[eF,he i j hi]
 |.cN u t g l c q d,_,_,h=>by
  grind [cz.dF,eF]
 |.lH,_,_,h=>by cases h;simp only[eF,he i j hi]
 |.gT t g l,_,_,h=>by cases h;simp only[eF,he i j hi]
 |.bS t t' g l c none,_,_,h=>by cases h;simp only[eF,he i j hi,Bm]
 |.bS t t' g l c (some (q,none)),_,_,h=>by
  cases h
  grind [eF,Bm]
 |.bS t t' g l c (some (q,some d)),_,_,h=>by
  simp only[cz.dF]at h
  split at h
  ·rename_i a f
   cases h;simp only[eF,he i j hi,Bm];constructor
   ·rintro⟨A,k,ys,ys',I,e,aa,J,⟨U,v,aw,aI⟩,ah⟩
    exact⟨A,k,ys,ys',I,e,aa,J,⟨U,v,aw,λn az=>by cases az;rw[he d a f];exact aI d rfl⟩,ah⟩
   ·rintro⟨A,k,ys,ys',I,e,aa,J,⟨U,v,aw,aI⟩,ah⟩
    exact⟨A,k,ys,ys',I,e,aa,J,⟨U,v,aw,λn az=>by cases az;rw[<- he d a f];exact aI a rfl⟩,ah⟩
  grind
theorem bE.dF(he:∀i j,bh ps i=some j->env' j=env i):∀ {h a:bC} {H:cW},tB ps h=some a->bE env B w h H->bE env' B w a H
 |[],_,_,h,g=>by cases h;exact g
 |(i,b)::r,_,_,h,⟨c,H',e,J,U⟩=>by
  simp only[tB]at h
  split at h
  ·rename_i j b' k ah f d
   cases h;exact⟨c,H',e,(eF.dF he ah f).1 J,bE.dF he d U⟩
  grind
theorem fv.kill(he:∀j,js.elem j=false->env' j=env j):∀ {ids:dY} {vs:bQ},rB js ids=false->fv env B w ids vs->fv env' B w ids vs
 |[],_,_,h=>h
 |.id i::ids,_,bc,⟨v,r,e,⟨b,ag,a⟩,h⟩=>by
  simp only[rB,Bool.or_eq_false_iff]at bc;exact⟨v,r,e,⟨b,by rw[he i bc.1];exact ag,a⟩,fv.kill he bc.2 h⟩
 |.eC g x::ids,_,bc,⟨v,r,e,J,h⟩=>⟨v,r,e,J,fv.kill he (by simpa [rB] using bc) h⟩
variable (he:∀j,js.elem j=false->env' j=env j)
include he
theorem dw.kill:∀ {c:bs} {v:Value},dw env B w c v->dw env' B w (c.kill js) v
 |.val _,_,aa=>aa
 |.str _,_,aa=>aa
 |.dead,_,aa=>aa
 |.ptr i o,v,aa=>by
  simp only[bs.kill]
  split
  ·trivial
  ·rename_i h
   obtain⟨b,e,a⟩:=aa;exact⟨b,by rw[he i h];exact e,a⟩
 |.eT i d j o,v,aa=>by
  simp only[bs.kill]
  split
  ·trivial
  ·rename_i h
   obtain⟨b,c,n,e,a⟩:=aa;exact⟨b,c,n,by rw[he i h];exact e,a⟩
 |.iC b i,v,aa=>by
  simp only[bs.kill]
  split
  ·trivial
  ·rename_i h
   obtain⟨k,e,a⟩:=aa;exact⟨k,λag=>by rw[he i h];exact e ag,a⟩
 |.jV i,v,aa=>by
  simp only[bs.kill]
  split
  ·trivial
  ·rename_i h
   obtain⟨b,c,n,e,a⟩:=aa;exact⟨b,c,n,by rw[he i h];exact e,a⟩
 |.jE i s o,v,aa=>by
  simp only[bs.kill]
  split
  ·trivial
  ·rename_i h
   obtain⟨b,c,n,e,a⟩:=aa;exact⟨b,c,n,by rw[he i h];exact e,a⟩
 |.il i o,v,aa=>by
  simp only[bs.kill]
  split
  ·trivial
  ·rename_i h
   obtain⟨b,c,n,e,a⟩:=aa;exact⟨b,c,n,by rw[he i h];exact e,a⟩
 |.fu _ _ _,_,aa=>aa
 |.par _ _,_,aa=>aa
 |.ax i,v,aa=>by
  simp only[bs.kill]
  split
  ·trivial
  ·rename_i h
   obtain⟨A,c,n,e,a⟩:=aa;exact⟨A,c,n,by rw[he i h];exact e,a⟩
 |.bz _ _ _,_,aa=>aa
 |.fn f ids,v,aa=>by
  simp only[bs.kill]
  split
  ·trivial
  ·rename_i h
   obtain⟨vs,a,an⟩:=aa;exact⟨vs,a,fv.kill he h an⟩
 |.dv i,v,aa=>by
  simp only[bs.kill]
  split
  ·trivial
  ·rename_i h
   obtain⟨b,e,a⟩:=aa;exact⟨b,by rw[he i h];exact e,a⟩
 |.jD f i,v,aa=>by
  simp only[bs.kill]
  split
  ·trivial
  ·rename_i h
   obtain⟨b,e,a⟩:=aa;exact⟨b,by rw[he i h];exact e,a⟩
theorem cM.kill:∀ {c:dP} {v:bQ},cM env B w c v->cM env' B w (su js c) v
 |[],_,aa=>aa
 |_::_,_,⟨v,r,e,J,U⟩=>⟨v,r,e,dw.kill he J,cM.kill U⟩
theorem dN.kill:∀ {c:bn} {v:Value},dN env B w c v->dN env' B w (c.kill js) v
 |.c _,_,aa=>dw.kill he aa
 |.agg _,_,⟨vs,e,J⟩=>⟨vs,e,cM.kill he J⟩
 |.arr _ _,_,h=>h
theorem dx.kill:∀ {c:dT} {v:bQ},dx env B w c v->dx env' B w (w4 js c) v
 |[],_,aa=>aa
 |_::_,_,⟨v,r,e,J,U⟩=>⟨v,r,e,dN.kill he J,dx.kill U⟩
theorem eI.kill:∀ {c:b7} {v:Value},eI env B w c v->eI env' B w (c.kill js) v
 |.a _,_,aa=>dN.kill he aa
 |.may _ _,_,aa=>⟨λa=>dN.kill he (aa.1 a),aa.2⟩
 |.cE _,_,⟨vs,e,J⟩=>⟨vs,e,dx.kill he J⟩
theorem eF.kill{k:Nat}(ab:env' k=env k):∀ {b:cz} {c:bm},eF env B w k b c->eF env' B w k (b.kill js) c
 |.cells _ _,_,⟨b,vs,e,aa,J⟩=>⟨b,vs,by rw[ab];exact e,aa,cM.kill he J⟩
 |.row _ _ _ _,_,⟨A,c,xs,e,aa,J⟩=>⟨A,c,xs,by rw[ab];exact e,aa,J⟩
 |.k7 _ _,_,⟨b,e,aa⟩=>⟨b,by rw[ab];exact e,aa⟩
 |.mp _ _ _ _,_,⟨b,u,q,e,aa⟩=>⟨b,u,q,by rw[ab];exact e,aa⟩
 |.it f _ _ _,_,⟨b,m,e,j,aa⟩=>by
  simp only[cz.kill]
  split
  ·exact⟨b,_,by rw[ab];exact e,aa⟩
  ·rename_i h
   exact⟨b,m,by rw[ab];exact e,by rw[he f h];exact j,aa⟩
 |.hS f,_,⟨b,m,q,e,j,aa⟩=>by
  simp only[cz.kill]
  split
  ·exact⟨b,_,by rw[ab];exact e,aa⟩
  ·rename_i h
   exact⟨b,m,q,by rw[ab];exact e,by rw[he f h];exact j,aa⟩
 |.k8,_,⟨b,o,e,aa⟩=>⟨b,o,by rw[ab];exact e,aa⟩
 |.cN z t g l cap i d,_,⟨A,c,ys,r,c',m,e,aa,J,hi,U,ah⟩=>by
  simp only[cz.kill]
  split
  ·exact⟨A,c,_,_,_,_,_,by rw[ab];exact e,aa⟩
  ·rename_i h
   exact⟨A,c,ys,r,c',m,by rw[ab];exact e,aa,J,hi,by rw[he d h];exact U,ah⟩
 |.lH,_,⟨A,c,n,t,s,m,xs,e,aa⟩=>⟨A,c,n,t,s,m,xs,by rw[ab];exact e,aa⟩
 |.gT _ _ _,_,⟨A,c,e,J⟩=>⟨A,c,by rw[ab];exact e,J⟩
 |.bS _ _ _ _ _ none,_,⟨A,q,ys,ys',I,e,aa,J,U,ah⟩=>⟨A,q,ys,ys',I,by rw[ab];exact e,aa,J,U,ah⟩
 |.bS _ _ _ _ _ (some (i,none)),_,⟨A,q,ys,ys',I,e,aa,J,⟨U,v,a,_⟩,ah⟩=>⟨A,q,ys,ys',I,by rw[ab];exact e,aa,J,⟨U,v,a,λ_ h=>by cases h⟩,ah⟩
 |.bS _ _ _ _ _ (some (i,some d)),_,⟨A,q,ys,ys',I,e,aa,J,⟨U,v,a,p⟩,ah⟩=>by
  simp only[cz.kill]
  split
  ·exact⟨A,q,ys,ys',I,by rw[ab];exact e,aa,J,⟨U,v,a,λ_ h=>by cases h⟩,ah⟩
  ·rename_i h
   exact⟨A,q,ys,ys',I,by rw[ab];exact e,aa,J,⟨U,v,a,λy az=>by cases az;rw[he d h];exact p d rfl⟩,ah⟩
omit he in
theorem Kk:∀ {l:cS} {s:Nat} {v:b7},bh (qH js l) s=some v->∃u,bh l s=some u/\v=u.kill js
 |[],_,_,h=>by cases h
 |(k,u)::l,s,v,h=>by
  unfold qH at h;rw[cO]at h ⊢
  split at h
  ·grind
  ·rename_i e
   rw[if_neg e];exact Kk h
omit he in
theorem bE.append:∀ {h a:bC} {H H':cW},bE env B w h H->bE env B w a H'->bE env B w (h++a) (H++H')
 |[],_,_,_,J,U=>by rw[show _=[] from J];exact U
 |_::_,_,_,_,⟨c,H',e,J,U⟩,ah=>⟨c,_,by rw[e];rfl,J,bE.append U ah⟩
end
inductive ld(ps:eh):bC->bC->bC->Prop where
 |nil {H:bC}:ld ps [] H H
 |cons {i j:Nat} {b b':cz} {r H H':bC} (hi:bh ps i=some j) (ag:b.dF ps=some b') (ao:bh H j=some b') (av:ld ps r (nF j H) H'):ld ps ((i,b)::r) H H'
section
variable {env env' env'':Nat->Loc} {B:Nat->Prop} {w:World} {ps:eh} {js ks:bG}
theorem ld.split(he:∀i j,bh ps i=some j->env' j=env i){H H':bC}(an:ld ps h H H'):∀ {C:cW},bE env' B w H C->∃a b,C.Perm (a++b)/\bE env B w h a/\bE env' B w H' b:=by
 induction an with
 |nil=>intro C cA;exact⟨[],C,List.Perm.refl _,rfl,cA⟩
 |cons hi ag ao _ f=>
  intro C cA;obtain⟨c,H2,J,U,ah⟩:=cA.erase ao;obtain⟨a,b,e,d,g⟩:=f ah;exact⟨c::a,b,U.trans (List.Perm.cons _ e),⟨c,a,rfl,(eF.dF he hi ag).2 J,d⟩,g⟩
def u7(js:bG):bC->Bool
 |[]=>true
 |(k,_)::r=>!js.elem k&&u7 js r
theorem bE.frame(he:∀j,ks.elem j=false->env' j=env j)(ab:∀k,js.elem k=false->env' k=env k):∀ {l:bC} {H:cW},bE env B w l H->∃H',H'.Sublist H/\bE env' B w (je js ks l) H'/\(u7 js l=true->H'=H)
 |[],_,a=>⟨[],by rw[show _=[] from a];exact List.Sublist.refl _,rfl,λ_=>(show _=[] from a).symm⟩
 |(k,b)::l,_,⟨c,H',e,J,U⟩=>by
  obtain⟨H2,d,ah,f⟩:=bE.frame he ab U;subst e;unfold je
  split
  ·grind [u7]
  ·rename_i h
   exact⟨c::H2,d.cons_cons _,⟨c,H2,rfl,eF.kill he (ab k h) J,ah⟩,λe=>by unfold u7 at e;rw[and_eq_true]at e;rw[f e.2]⟩
end
def pL(X:bx)(L:cS):dX->Option (Bool×dT)
 |[]=>some (true,[])
 |u::r=>match bu X L u,pL X L r with
  |some (g,x),some (c,l)=>some (g&&c,x::l)
  |_,_=>none
theorem w5{ks:bG}(h:bO X R W aC n ks env B ai H st a w) :
  ∀ {us:dX} {c:Bool} {xs:dT},pL X st.L us=some (c,xs)->c=true->∃vs,jA (full a) us=some vs/\dx env B ai xs vs
 |[],c,xs,hu,_=>by cases hu;exact⟨[],rfl,rfl⟩
 |u::us,c,xs,hu,aa=>by
  simp only[pL]at hu
  split at hu
  ·rename_i g x c' l J U
   cases hu;simp only[and_eq_true]at aa;obtain⟨v,ah,b⟩:=h.aD J aa.1;obtain⟨vs,e,d⟩:=w5 h U aa.2;refine⟨v::vs,?_,v,vs,rfl,b,d⟩
   grind [jA]
  grind
theorem bO.called{d:Nat}{ks:bG}{aS:Act}{w':World}{ps:eh}{H1:bC}{Q:b7->bC->Prop}(ae:bO X R W aC n ks env B ai H st a w)(af:ze n ps=true){y E:cW}(aL:H.Perm (y++E))(a1:bE (λi=>match bh ps i with|some j=>env j|none=>.no) B ai h y)(ap:bE env B ai H1 E)(aU:tz X (λi=>match bh ps i with|some j=>env j|none=>.no) B y w Q v w')(N:c5 n (kf ks aC) ((d,v)::full a) aS) :
  ∃sv r,Q sv r/\∀U V,sv.dF ps=some U->tB ps r=some V->∃env' B' D H',bO X R W aC n ks env' B' D H' ⟨(d,U)::qH (j0 h ps) st.L,V++je (j0 h ps) (j0 h ps) H1⟩ aS w'/\(∀k,B k->B' k)/\cV (λk=>R k\/B k) ai D/\(u7 (j0 h ps) H1=true->∀c∈E,c∈H'):=by
 obtain⟨env',B',D,H',sv,r,aE,T,ad,g,av,aw,m,ac⟩:=aU;refine⟨sv,r,aE,λU V aT aB=>?_⟩;simp only[ze,and_eq_true]at af;obtain⟨⟨aq,aR⟩,ar⟩:=af;have aF:=BE aq;have aK:=BE aR;have f:bK (λk=>R k\/B k) ai (y++(E++ks.map dj)) w:=by
  have:=ae.aQ.perm (aL.append_right (ks.map dj))
  rw[append_assoc]at this;exact this
 have aj:=List.pairwise_append.1 f.apart;have p:∀k,R k\/B k->ga w y k:=λk ab=>⟨f.base k ab,λc aa e=>((f.ok c (List.mem_append_left _ aa)).lt e).1 ab⟩
 have P:∀c∈E++ks.map dj,∀b,c.has b->ga w y b/\¬(R b\/B b):=λc aa b ag=>by
  have J:=(f.ok c (mem_append_right _ aa)).lt ag;exact⟨⟨J.2,λc' I e=>aj.2.2 c' I c aa b e ag⟩,J.1⟩
 have aQ:∀k,ga w y k->w'.heap[k]?=w.heap[k]?:=λk ab=>(m.below.block k (.inl ab)).trans (g.block k ab)
 have S:gm B ai B' D:=⟨T,λk ab=>(g.block k (p k (.inr ab))).trans (f.below.block k (.inr ab))⟩
 let O:Nat->Loc:=λj=>match inv ps j with|some i=>env' i|none=>env j
 have al:∀i j,bh ps i=some j->O j=env' i:=λi j M=>by
  show(match inv ps j with|some i=>env' i|none=>env j)=_;rw[RC aK (BF M)]
 have aX:∀ {l:bC} {C:cW} {z:Nat->Loc} {G:Nat->Prop} {F:World} {i:Nat} {t:TypeId} {cs:dP},bE z G F l C->bh l i=some (.cells t cs)->∃b,z i=.blk b:=by
  intro l C z G F i t cs ao hi;obtain⟨c,K,⟨b,vs,J,_⟩,_⟩:=ao.gA hi;exact⟨b,J⟩
 have aY:∀ {l:bC} {C:cW} {z:Nat->Loc} {G:Nat->Prop} {F:World} {i:Nat} {gk gv:aZ} {q:List (gk.D×gv.D)} {o:Option (List MapEntry×Nat)},bE z G F l C->bh l i=some (.mp gk gv q o)->∃b,z i=.blk b:=by
  intro l C z G F i gk gv q o ao hi;obtain⟨c,K,⟨b,_,_,J,_⟩,_⟩:=ao.gA hi;exact⟨b,J⟩
 have Y:∀j,(j0 h ps).elem j=false->O j=env j:=λj au=>by
  show(match inv ps j with|some i=>env' i|none=>env j)=_;cases hi:inv ps j with
  |none=>rfl
  |some i=>
   have L:=Fb hi;have am:=Kj L au;have M:=Fa aF L;unfold E7 at am
   split at am
   ·grind [le_of_ble_eq_true]
   ·grind [le_of_ble_eq_true]
   ·grind [le_of_ble_eq_true]
   grind
 have aW:∀k,(lO ps).elem k=false->O k=env k:=λk ab=>by
  show(match inv ps k with|some i=>env' i|none=>env k)=_;cases hi:inv ps k with
  |none=>rfl
  |some i=>
   have:=E9 (Fb hi)
   simp only[elem_eq_mem,decide_eq_false_iff_not]at ab;exact absurd this ab
 obtain⟨an,aV,ax,ay⟩:=bE.frame (js:=j0 h ps) (ks:=j0 h ps) Y Y (ap.up S);have aO:cV (λk=>R k\/B k) ai D:=⟨g.os.trans f.below.os,g.tape.trans f.below.tape,g.output.trans f.below.output,le_trans f.below.size g.size,λk ab=>(g.block k (p k ab)).trans (f.below.block k ab)⟩
 refine⟨O,B',D,H'++an,⟨N.size,N.defs,λs u hu=>?_,(bE.dF al aB aw).append ax,?_,λk ab=>T k (ae.sub k ab),λk ab=>?_,λid b ag=>?_,?_,λi x ak=>(ae.eg i x ak).up S⟩,T,aO,λe c aa=>mem_append_right _ (by rw[ay e];exact aa)⟩
 ·rw[cO]at hu
  split at hu
  ·rename_i e;subst e;cases hu;exact⟨v,N.this,eI.dF al aT av⟩
  ·rename_i e
   obtain⟨aM,aN,rfl⟩:=Kk hu;obtain⟨aJ,ah,aA⟩:=ae.has s aM aN;exact⟨aJ,N.other e ah,eI.kill Y (aA.up S)⟩
 ·have Z:(an++ks.map dj).Sublist (E++ks.map dj):=aV.append_right _
  rw[append_assoc];refine⟨⟨m.below.os,m.below.tape,m.below.output,m.below.size,λk ab=>m.below.block k (ab.imp (λh=>p k (.inl h)) id)⟩,λk ab=>m.base k (ab.imp (λh=>p k (.inl h)) id),λc aa=>?_,List.pairwise_append.2 ⟨m.apart,aj.2.1.sublist Z,λc aa d az b ag aD=>?_⟩⟩
  ·rcases List.mem_append.1 aa with aa|aa
   ·exact(m.ok c aa).base λb ag ab=>((m.ok c aa).lt ag).1 (ab.imp (λh=>p b (.inl h)) id)
   ·have I:=Z.subset aa
    have aH:=f.ok c (mem_append_right _ I);refine(aH.eb (w':=w') λb ag=>aQ b (P c I b ag).1).base λb ag ab=>?_
    obtain⟨aI,A⟩:=P c I b ag
    rcases ab with ab|ab
    ·exact A (.inl ab)
    ·rcases ad b ab with cl|cl
     ·exact A (.inr cl)
     ·exact cl.1 aI
  ·exact((m.ok c aa).lt ag).1 (.inl (P d (Z.subset az) b aD).1)
 ·rcases ad k ab with aI|aI
  ·exact(ae.new k aI).imp_right λr=>⟨r.1,r.2.eb ((g.block k (p k (.inr aI))).trans (f.below.block k (.inr aI)))⟩
  ·exact .inr ⟨λaG=>aI.1 (p k (.inl aG)),aI.2⟩
 ·obtain⟨aI,A,de⟩:=ae.dB id b ag
  refine⟨aI,?_,de⟩;show(match inv ps id with|some i=>env' i|none=>env id)=_;cases hi:inv ps id with
  |none=>exact A
  |some i=>
   have L:=Fb hi;have M:=Fa aF L
   rcases RD ar L with cl|⟨cl,a0⟩|cl
   ·exact ac i b (.inr cl) (by simp only[M];exact A)
   ·rcases de with de|de
    ·exact ac i b (.inl ⟨cl,de⟩) (by simp only[M];exact A)
    ·omega
   ·omega
 ·exact ae.base.trans ⟨g.os.trans f.below.os,g.tape.trans f.below.tape,g.output.trans f.below.output,le_trans f.below.size g.size,λk ab=>(g.block k (p k (.inl ab))).trans (f.below.block k (.inl ab))⟩
section
variable {X:bx} {M:Bool} {n:Nat} {r:Option Nat} {st:aP} {Q:Exit->aP->Prop} {ops rest:List Oper} {o:Oper} {d:Nat}
theorem RE{qI:dT}{H1:bC}{BH:b7->bC->Prop}{c:Bool}(ps:eh)(cA:AC X f args h BH)(aG:o.op=.call { callee:=.value (.func f),args:=xs.toArray,argTypes:=fI })(a8:o.guard=none/\o.dst=some d)(az:blt d n=true)(gL : X.P.funcs[f]? = some fn)(bc : (fn.name == "runtime.NumGoroutine") = false)(ag : fn.body.isNone = false)(og : pL X st.L xs = some (c, qI))(aa : c = true)(va : u5 ps args = some qI)(kk : ze n ps = true)(mW : ld ps h st.H H1)(dG:∀sv aW,BH sv aW->∃jJ kQ,sv.dF ps=some jJ/\tB ps aW=some kQ/\fV X M n r ops rest ⟨(d,jJ)::qH (j0 h ps) st.L,kQ++je (j0 h ps) (j0 h ps) H1⟩ Q):fV X M n r ops (o::rest) st Q:=by
 rintro R W aC a w ⟨ks,env,B,ai,H,bM,ae⟩;obtain⟨vs,J,U⟩:=w5 ae og aa;have he:∀i j,bh ps i=some j->env j=(λi=>match bh ps i with|some j=>env j|none=>Loc.no) i:=λi j mV=>by simp only[mV]
 obtain⟨e5,lP,ah,aw,aI⟩:=ld.split (env:=λi=>match bh ps i with|some j=>env j|none=>Loc.no) he mW ae.heap;have aj:bK B ai e5 w:=by
  have bb:=(ae.aQ.perm (ah.append_right (ks.map dj))).fb (H':=e5) (by rw[append_assoc];exact sublist_append_left _ _);exact⟨⟨bb.below.os,bb.below.tape,bb.below.output,bb.below.size,λk ab=>bb.below.block k (.inr ab)⟩,λk ab=>bb.base k (.inr ab),λc aa=>(bb.ok c aa).base λb ag ab=>((bb.ok c aa).lt ag).1 (.inr ab),bb.apart⟩
 refine nx (Qs ae.sym aG a8 az gL bc ag J (cA B ai _ vs e5 w (λi x ak=>ae.eg i x ak) ((dx.dF he va).2 U) aw aj) λv aS w' pM aL=>?_);obtain⟨sv,aW,eV,zf⟩:=ae.called kk ah aw aI pM aL;obtain⟨jJ,kQ,aH,bk,Kn⟩:=dG sv aW eV;obtain⟨env',B',cD,H',bZ,_,_,_⟩:=zf jJ kQ aH bk;exact Kn R W aC aS w' ⟨ks,env',B',cD,H',bM,bZ⟩
end
end
section
def qJ:dY->dT
 |[]=>[]
 |.id i::r=>.c (.ptr i 0)::qJ r
 |.eC g x::r=>.c (.fu g x 0)::qJ r
section
variable {X:bx} {M:Bool} {n:Nat} {r:Option Nat} {st:aP} {Q:Exit->aP->Prop} {ops rest:List Oper} {o:Oper} {d:Nat}
theorem BI:∀ {ids:dY} {vs:bQ},fv env B w ids vs->dx env B w (qJ ids) vs
 |[],_,h=>h
 |.id _::ids,_,⟨v,r,e,J,h⟩=>⟨v,r,e,J,BI h⟩
 |.eC _ _::ids,_,⟨v,r,e,⟨b,o,J,U⟩,h⟩=>⟨v,r,e,⟨b,o,by rw[J];rfl,U⟩,BI h⟩
theorem dx.append:∀ {xs ys:dT} {vs us:bQ},dx env B w xs vs->dx env B w ys us->dx env B w (xs++ys) (vs++us)
 |[],_,_,_,h,a=>by rw[show _=[] from h];exact a
 |_::_,_,_,_,⟨v,r,e,J,U⟩,a=>⟨v,_,by rw[e];rfl,J,dx.append U a⟩
theorem RF{ids:dY}{qI:dT}{H1:bC}{BH:b7->bC->Prop}{c:Bool}(ps:eh)(cA:AC X f args h BH)(aG:o.op=.call { callee:=.value (.tmp s),args:=xs.toArray,argTypes:=fI })(a8:o.guard=none/\o.dst=some d)(az:blt d n=true)(aj : bh st.L s = some (.c (.fn f ids)))(gL : X.P.funcs[f]? = some fn)(bc : (fn.name == "runtime.NumGoroutine") = false)(ag : fn.body.isNone = false)(og : pL X st.L xs = some (c, qI))(aa : c = true)(va : u5 ps args = some (qI ++ qJ ids))(kk : ze n ps = true)(mW : ld ps h st.H H1)(dG:∀sv aW,BH sv aW->∃jJ kQ,sv.dF ps=some jJ/\tB ps aW=some kQ/\fV X M n r ops rest ⟨(d,jJ)::qH (j0 h ps) st.L,kQ++je (j0 h ps) (j0 h ps) H1⟩ Q):fV X M n r ops (o::rest) st Q:=by
 rintro R W aC a w ⟨ks,env,B,ai,H,bM,ae⟩;obtain⟨vs,J,U⟩:=w5 ae og aa;obtain⟨e6,pN,lb,rfl,fW⟩:=ae.has _ _ aj;have he:∀i j,bh ps i=some j->env j=(λi=>match bh ps i with|some j=>env j|none=>Loc.no) i:=λi j mV=>by simp only[mV]
 obtain⟨e5,lP,ah,aw,aI⟩:=ld.split (env:=λi=>match bh ps i with|some j=>env j|none=>Loc.no) he mW ae.heap;have h0:bK B ai e5 w:=by
  have bb:=(ae.aQ.perm (ah.append_right (ks.map dj))).fb (H':=e5) (by rw[append_assoc];exact sublist_append_left _ _);exact⟨⟨bb.below.os,bb.below.tape,bb.below.output,bb.below.size,λk ab=>bb.below.block k (.inr ab)⟩,λk ab=>bb.base k (.inr ab),λc aa=>(bb.ok c aa).base λb ag ab=>((bb.ok c aa).lt ag).1 (.inr ab),bb.apart⟩
 refine nx (QH ae.sym aG a8 az (hr pN) gL bc ag J (cA B ai _ (vs++lb) e5 w (λi x ak=>ae.eg i x ak) ((dx.dF he va).2 (U.append (BI fW))) aw h0) λv aS w' pM aL=>?_);obtain⟨sv,aW,eV,zf⟩:=ae.called kk ah aw aI pM aL;obtain⟨jJ,kQ,aH,bk,Kn⟩:=dG sv aW eV;obtain⟨env',B',cD,H',bZ,_,_,_⟩:=zf jJ kQ aH bk;exact Kn R W aC aS w' ⟨ks,env',B',cD,H',bM,bZ⟩
theorem RG:∀L:cS,qH [] L=L:=by
 have J:∀c:bs,c.kill []=c:=by
  have e:∀ids:dY,rB [] ids=false:=by
   intro ids
   induction ids with
   |nil=>rfl
   |cons i r b=>cases i<;>simp[rB,b]
  intro c;cases c with
  |fn f ids=>simp only[bs.kill,e]
  |_=>rfl
 have U:∀cs:dP,su [] cs=cs:=by
  intro cs
  induction cs with
  |nil=>rfl
  |cons c r b=>simp only[su,J,b]
 have ah:∀x:bn,x.kill []=x:=by
  intro x;cases x with
  |c x=>simp only[bn.kill,J]
  |agg cs=>simp only[bn.kill,U]
  |arr g l=>rfl
 have h:∀xs:dT,w4 [] xs=xs:=by
  intro xs
  induction xs with
  |nil=>rfl
  |cons c r b=>simp only[w4,ah,b]
 have d:∀x:b7,x.kill []=x:=by
  intro x;cases x with
  |a x=>simp only[b7.kill,ah]
  |may g x=>simp only[b7.kill,ah]
  |cE xs=>simp only[b7.kill,h]
 intro L
 induction L with
 |nil=>rfl
 |cons p r b=>obtain⟨k,v⟩:=p;simp only[qH,d,b]
theorem RH:∀H:bC,je [] [] H=H:=by
 have J:∀c:bs,c.kill []=c:=by
  have e:∀ids:dY,rB [] ids=false:=by
   intro ids
   induction ids with
   |nil=>rfl
   |cons i r a=>cases i<;>simp[rB,a]
  intro c;cases c with
  |fn f ids=>simp only[bs.kill,e]
  |_=>rfl
 have U:∀cs:dP,su [] cs=cs:=by
  intro cs
  induction cs with
  |nil=>rfl
  |cons c r a=>simp only[su,J,a]
 intro H
 induction H with
 |nil=>rfl
 |cons p r a=>
  obtain⟨k,b⟩:=p;cases b with
  |cells t cs=>simp[je,cz.kill,U,a]
  |row t g l c=>simp[je,cz.kill,a]
  |k7 s p=>simp[je,cz.kill,a]
  |mp gk gv l o=>simp[je,cz.kill,a]
  |it j n k ps=>simp[je,cz.kill,a]
  |hS j=>simp[je,cz.kill,a]
  |k8=>simp[je,cz.kill,a]
  |cN m t g l c i d=>simp[je,cz.kill,a]
  |lH=>simp[je,cz.kill,a]
  |gT t g l=>simp[je,cz.kill,a]
  |bS t t' g l c h=>rcases h with _|⟨i,_|d⟩<;>simp[je,cz.kill,a]
theorem pO{qI:dT}{V:b7}{c:Bool}(cA:AC X f args [] (λsv h=>sv=V/\h=[]))(aG:o.op=.call { callee:=.value (.func f),args:=xs.toArray,argTypes:=fI })(a8:o.guard=none/\o.dst=some d)(az:blt d n=true)(gL : X.P.funcs[f]? = some fn)(bc : (fn.name == "runtime.NumGoroutine") = false)(ag : fn.body.isNone = false)(og : pL X st.L xs = some (c, qI))(aa : c = true)(va : u5 [] args = some qI)(jg : V.dF [] = some V)(dG:fV X M n r ops rest ⟨(d,V)::st.L,st.H⟩ Q):fV X M n r ops (o::rest) st Q:=
 RE (n:=n) [] cA aG a8 az gL bc ag og aa va rfl ld.nil λsv aW ⟨J,U⟩=>by
  subst J;subst U;refine⟨sv,[],jg,rfl,?_⟩;show fV X M n r ops rest ⟨(d,sv)::qH [] st.L,[]++je [] [] st.H⟩ Q
  grind [RG,RH]
theorem pP(f:bn){want b:Bool}(k:o.guard=some (j,want))(l:nth (ey ops) j=some (some s))(m:bh st.L s=some (.c (.val (.bool b))))(t:o.dst=some d)(az:blt d n=true)(J:b=want->fV X M n r ops ({ dst:=o.dst,op:=o.op,type:=o.type,pos:=o.pos,after:=o.after,guard:=none }::rest) st Q)(i:b=!want->fV X M n r ops rest ⟨(d,.may false f)::st.L,st.H⟩ Q):fV X M n r ops (o::rest) st Q:=by
 rintro R W aC a w ⟨ks,env,B,ai,H,e,ae⟩;obtain⟨A,u,z⟩:=BC l;have y:(ops.toArray[j]?).bind (·.dst)=some s:=by simp[u,<- z]
 obtain⟨v,U,ah⟩:=ae.has _ _ m;rw[show v=_ from ah]at U;have hw:=pC ae.sym k y (hr U)
 by_cases ag:b=want
 ·have p:=J ag R W aC a w ⟨ks,env,B,ai,H,e,ae⟩
  show(if Region.wanted o (yielded ops.toArray a.tmps)then _ else _);rw[hw,if_pos (by simp[ag])];have c:(if Region.wanted { dst:=o.dst,op:=o.op,type:=o.type,pos:=o.pos,after:=o.after,guard:=none } (yielded ops.toArray a.tmps)then _ else _):=p;rw[show Region.wanted { dst:=o.dst,op:=o.op,type:=o.type,pos:=o.pos,after:=o.after,guard:=none } (yielded ops.toArray a.tmps)=true by simp[Region.wanted],if_pos rfl]at c;exact c
 ·have q:b=!want:=by cases b<;>cases want<;>simp_all
  have g:c5 n (kf ks aC) ((d,undef)::full a) (a.put o.dst undef):=by rw[t];exact ae.bV.put d undef (dH az)
  show(if Region.wanted o (yielded ops.toArray a.tmps)then _ else _);rw[hw,if_neg (by simp[ag])];exact⟨λ_ _=>trivial,i q R W aC _ w ⟨ks,env,B,ai,H,e,ae.set (sv:=.may false f) ⟨λh=>(by cases h),λ_=>rfl⟩ g⟩⟩
end
end
section
section
variable {P:Program} {ops:Array Oper} {Q:Exit->Act->World->Prop} {S:Nat->Array Bool->World->Prop}
def gN(P:Program)(ops:Array Oper)(Q:Exit->Act->World->Prop)(S:Nat->Array Bool->World->Prop):Nat->Array Bool->Act->World->Prop
 |0,listed,a,w=>Region.ready .any ops listed=[]/\Q .normal a w
 |fuel+1,listed,a,w=>(Region.ready .any ops listed=[]->Q .normal a w)/\∀i∈Region.ready .any ops listed,∃o,ops[i]?=some o/\fa P ops o (λaS w'=>S i listed w'/\gN P ops Q S fuel (listed.setIfInBounds i true) aS w') a w
theorem Be.mono{K b:Value->World->Prop}(h:Be P o a w K)(ab:∀v w,K v w->b v w):Be P o a w b:=by
 rcases h with⟨v,w',J,U⟩|⟨w',J,U⟩|⟨f,args,b9,J,U⟩
 ·exact .inl ⟨v,w',J,ab _ _ U⟩
 ·exact .inr (.inl ⟨w',J,ab _ _ U⟩)
 ·exact .inr (.inr ⟨f,args,b9,J,Calls.mono U λe w' ⟨v,he,c⟩=>⟨v,he,ab _ _ c⟩⟩)
theorem fa.mono{K b:Act->World->Prop}(h:fa P ops o K a w)(ab:∀a w,K a w->b a w):fa P ops o b a w:=by
 rcases h with⟨J,U⟩|⟨J,U⟩
 ·exact .inl ⟨J,U.mono λ_ _=>ab _ _⟩
 ·exact .inr ⟨J,ab _ _ U⟩
theorem gN.any(r:Option Nat):∀(fuel:Nat) (listed:Array Bool) (a:Act) (w:World),gN P ops Q S fuel listed a w->wpAnyIn (WF r) 0 P .any ops Q fuel listed a w
 |0,_,_,_,h=>h
 |fuel+1,_,_,_,h=>⟨h.1,λi hi=>by
  obtain⟨o,b,ak⟩:=h.2 i hi;unfold wpOpIn;simp only[b];exact fa.fenced (ak.mono λaS w' c=>gN.any r fuel _ aS w' c.2)⟩
theorem fa.RI{T:World->Prop}{c d:Oper}(kK:c.apart ops d=true)(j:∀cs b,c.op≠.select cs b)(k:∀cs b,d.op≠.select cs b){K:Act->World->Prop}(aA:YieldsIf P ops T c v a)(h:fa P ops d K (a.put c.dst v) w) :
  fa P ops d (λaS w'=>YieldsIf P ops T c v aS/\K (aS.put c.dst v) w') a w:=by
 obtain⟨J,U,ah⟩:=Oper.apart_spec kK;have eb:∀u,YieldsIf P ops T c v (a.put d.dst u):=λu=>aA.of_same (execOp_put c j a d.dst u ah) (wanted_put c a d.dst u ah)
 have i:=wanted_put d a c.dst v J;have dC:=execOp_put d k a c.dst v J;have g:∀u,(a.put d.dst u).put c.dst v=(a.put c.dst v).put d.dst u:=λu=>(Act.put_comm a v u U).symm
 rcases h with⟨hw,h⟩|⟨hw,h⟩
 ·refine .inl ⟨by rw[<- i];exact hw,?_⟩
  unfold Be at h ⊢;rw[dC]at h
  rcases h with⟨u,w',g1,g2⟩|⟨w',g1,g2⟩|⟨f,args,b9,g1,g2⟩
  ·exact .inl ⟨u,w',g1,eb u,by rw[g];exact g2⟩
  ·exact .inr (.inl ⟨w',g1,eb _,by rw[g];exact g2⟩)
  ·exact .inr (.inr ⟨f,args,b9,g1,Calls.mono g2 λe w' ⟨u,he,hu⟩=>⟨u,he,eb u,by rw[g];exact hu⟩⟩)
 ·exact .inr ⟨by rw[<- i];exact hw,eb _,by rw[g];exact h⟩
theorem Fi{T:World->Prop}(aA:YieldsIf P ops T o v a){K:Act->World->Prop}(b:T w)(h:K (a.put o.dst v) w):fa P ops o K a w:=by
 rcases aA with⟨hw,aB⟩|⟨hw,rfl⟩
 ·exact .inl ⟨hw,.inl ⟨v,w,aB w b,h⟩⟩
 ·exact .inr ⟨hw,h⟩
def Ko(ops:Array Oper)(i:Nat)(D:bG)(j:Nat):Prop:=∃a e,ops[j]?=some a/\e∈a.after/\Region.binds .any e=true/\(e.on=i\/e.on∈D)
theorem gN.first{g:Oper}{T:World->Prop}(hi:ops[i]?=some g)(F:∀(j:Nat) (o:Oper) cs b,ops[j]?=some o->o.op≠.select cs b)(D:bG)(N:∀j∈D,Ko ops i D j)(t:∀j l w,S j (l.setIfInBounds i true) w->S j l w):∀(fuel:Nat) (listed:Array Bool) (a:Act) (w:World),
   (∀j∈D,listed.getD j true=false)->(∀j c,ops[j]?=some c->j≠i->listed.getD j true=false->(∀e∈c.after,Region.binds .any e=true->e.on≠i)->g.apart ops c=true/\(j∈D\/∀l w,(∀d∈D,l.getD d true=false)->S j l w->T w)) ->
   i∈Region.ready .any ops listed->YieldsIf P ops T g v a->T w ->
   gN P ops Q S fuel (listed.setIfInBounds i true) (a.put g.dst v) w->(∀l w',T w'->S i l w')->gN P ops Q S (fuel+1) listed a w:=by
 intro fuel
 induction fuel with
 |zero=>
  intro listed a w _ _ m aA n H p;refine⟨λh=>(by rw[h]at m;cases m),λj q=>?_⟩
  by_cases f:j=i
  ·subst f;exact⟨g,hi,Fi aA n ⟨p _ w n,H⟩⟩
  ·have:=ready_mono q f
   rw[H.1]at this;cases this
 |succ fuel R=>
  intro listed a w z E m aA n H p;refine⟨λh=>(by rw[h]at m;cases m),λj q=>?_⟩
  by_cases f:j=i
  ·subst f;exact⟨g,hi,Fi aA n ⟨p _ w n,H⟩⟩
  ·obtain⟨G,I,B⟩:=H.2 j (ready_mono q f)
   obtain⟨C,c,s,Y⟩:=mem_ready.1 q;have J:G=c:=Option.some.inj (I.symm.trans s);rw[J]at B;have K:∀e∈c.after,Region.binds .any e=true->e.on≠i:=λe he ag heq=>by
    grind [mem_ready,Nat.lt_or_ge,Array.getElem?_eq_none]
   have A:j ∉ D:=λO=>by
    obtain⟨ok,e,ab,he,ag,X⟩:=N j O
    grind
   obtain⟨kK,L⟩:=E j c s f C K;have W:=fa.RI kK (λcs b=>F i g cs b hi) (λcs b=>F j c cs b s) aA B;refine⟨c,s,W.mono λaS w' r=>⟨t j listed w' r.2.1,?_⟩⟩;have M:=(L.resolve_left A) listed w' z (t j listed w' r.2.1);refine R (listed.setIfInBounds j true) aS w' (λk ab=>?_) (λk ok ab V u U=>?_) (ready_mono m (Ne.symm f)) r.1 M ?_ p
   ·rw[getD_set_ne true (λe=>A (by rw[e];exact ab))]
    exact z k ab
   ·refine E k ok ab V ?_ U
    by_cases y:j=k
    ·subst y;exact C
    ·rw[getD_set_ne true y]at u;exact u
   ·rw[Array.setIfInBounds_comm _ _ f]
    exact r.2.2
end
def pQ:Op->Bool
 |.move _=>true
 |.assign _=>true
 |.pick _ _ _=>true
 |.unOp _ _ _=>true
 |.binOp _ _ _ _ _=>true
 |.load _ _=>true
 |.fieldAddr _ _ _=>true
 |.indexAddr _ _ _=>true
 |.slice _ _ _ _ _=>true
 |.convert _ _ _=>true
 |.build _ _=>true
 |.makeFunc _ _ _=>true
 |.nilCheck _=>true
 |.extract _ _=>true
 |.call ⟨.builtin .len,_,_⟩=>true
 |.call ⟨.builtin .cap,_,_⟩=>true
 |.call ⟨.builtin .min,_,_⟩=>true
 |.call ⟨.builtin .max,_,_⟩=>true
 |_=>false
def zg(ops:Array Oper)(i:Nat)(D:bG)(j:Nat):Bool:=match ops[j]? with
 |some o=>o.after.any λe=>Region.binds .any e&&(e.on==i || D.elem e.on)
 |none=>false
def xI(ops:Array Oper)(i:Nat):bG:=(range ops.size).foldl (λD j=>match zg ops i D j with
 |true=>j::D
 |false=>D) []
def nI:Nat:=1000000
def tD(E:bG)(listed:Array Bool):Bool:=E.any λe=>ble nI e&&listed.getD (e-nI) true
def fz(E:bG)(listed:Array Bool)(j:Nat):Bool:=E.elem j&&!tD E listed
def Fl(E D:bG):Bool:=E.all λe=>!ble nI e || D.elem (e-nI)
def BN(E:bG)(i:Nat):Bool:=!E.elem (i+nI)
theorem RL{E:bG}(h:fz E l j=true):E.elem j=true:=by
 grind [fz]
theorem Kv{E:bG}(hi:BN E i=true)(h:fz E l j=true):fz E (l.setIfInBounds i true) j=true:=by
 unfold fz tD at h ⊢;rw[and_eq_true]at h ⊢;refine⟨h.1,?_⟩;have U:=h.2;rw[not_eq_true',List.any_eq_false]at U ⊢;intro e he;have ah:=U e he
 by_cases ag:ble nI e=true
 ·rw[ag,Bool.true_and]at ah ⊢
  have a:i≠e-nI:=λb=>by
   have hle:=le_of_ble_eq_true ag
   grind [nI,BN,List.elem_eq_true_of_mem]
  rwa [getD_set_ne true a]
 ·rw[(by simpa only[Bool.not_eq_true] using ag:ble nI e=false),Bool.false_and]
  simp
theorem aci{E D:bG}(ag:Fl E D=true)(b:∀d∈D,l.getD d true=false)(a:E.elem j=true):fz E l j=true:=by
 unfold fz tD;rw[a,Bool.true_and,not_eq_true',List.any_eq_false];intro e he;unfold Fl at ag;rw[all_eq_true]at ag;have J:=ag e he;rw[or_eq_true,not_eq_true']at J
 rcases J with J|J
 ·rw[J];simp
 ·rw[b _ (by simpa using J)];simp
def zh(ops:Array Oper)(E D:bG)(listed:Array Bool)(i:Nat):Bool:=
 (D.all λj=>!listed.getD j true&&zg ops i D j)&&(range ops.size).all (λj=>j==i || listed.getD j true || E.elem j || D.elem j)&&Fl E D
theorem RM{ops:Array Oper}{D:bG}(h:zg ops i D j=true):Ko ops i D j:=by
 unfold zg at h
 split at h
 ·rename_i o a
  simp only[Array.any_eq_true]at h;obtain⟨k,ab,U⟩:=h;simp only[and_eq_true,or_eq_true,beq_iff_eq,elem_eq_mem,decide_eq_true_eq]at U;exact⟨o,_,a,Array.getElem_mem ab,U.1,U.2⟩
 grind
def pR(ops:Array Oper)(E:bG)(listed:Array Bool)(i:Nat):Bool:=BN E i&&Region.noSelect ops&&Region.free .any ops listed i&&(Region.ready .any ops listed).contains i
def nJ(f:Op->Bool)(ops:Array Oper)(i:Nat):Bool:=match ops[i]? with
 |some o=>f o.op
 |none=>false
def zi(ops:Array Oper)(E:bG)(listed:Array Bool)(pre:Bool)(i:Nat):Bool:=!E.elem i || (pre&&zh ops E (xI ops i) listed i)
structure hU where
 listed:Array Bool
 early:Bool
 pre:Bool
 lR:Bool
 all:Bool
def qL(ops:Array Oper)(E:bG):List (Nat×Nat)->hU->Option hU
 |[],s=>some s
 |(i,0)::b,⟨listed,early,pre,a,al⟩=>match pR ops E listed i&&zi ops E listed pre i&&nJ (λo=>pQ o&&!n5 o) ops i with
  |true=>qL ops E b ⟨listed.setIfInBounds i true,early,pre,a,al⟩
  |false=>none
 |(i,1)::b,⟨listed,early,pre,a,al⟩=>match pR ops E listed i&&zi ops E listed pre i&&nJ pQ ops i&&a with
  |true=>qL ops E b ⟨listed.setIfInBounds i true,early,pre,a,al⟩
  |false=>none
 |(i,3)::b,⟨listed,early,pre,a,al⟩=>match pR ops E listed i&&zh ops E (xI ops i) listed i&&nJ pQ ops i&&early&&pre&&!al with
  |true=>qL ops E b ⟨listed.setIfInBounds i true,early,pre,a,al⟩
  |false=>none
 |(i,4)::b,⟨listed,_,pre,a,al⟩=>match (Region.ready .any ops listed==[i])&&pre&&nJ Bv ops i&&!al with
  |true=>qL ops E b ⟨listed.setIfInBounds i true,false,pre,a,al⟩
  |false=>none
 |(i,_)::b,⟨listed,_,_,a,al⟩=>match (Region.ready .any ops listed==[i])&&!fz E listed i with
  |true=>qL ops E b ⟨listed.setIfInBounds i true,false,false,a,al⟩
  |false=>none
def nK:bC->bC
 |[]=>[]
 |(k,.cells t cs)::r=>(k,.cells t cs)::nK r
 |_::r=>nK r
def tE(X:bx)(n:Nat)(cF:List (Option Nat))(ops:List Oper):List (Nat×Nat)->Bool->aP->Out
 |[],c,st=>.done c st
 |(i,m)::a,c,⟨L,H⟩=>match nth ops i with
  |some o=>match m with
   |1=>match kO X n cF ⟨L,[]⟩ o with
    |.ok c' ⟨dJ,_⟩=>tE X n cF ops a (c&&c') ⟨dJ,H⟩
    |.stop=>.stop c ⟨L,H⟩ []
   |3=>match kO X n cF ⟨L,nK H⟩ o with
    |.ok c' ⟨dJ,_⟩=>tE X n cF ops a (c&&c') ⟨dJ,H⟩
    |.stop=>.stop c ⟨L,H⟩ []
   |4=>match kO X n cF ⟨L,H⟩ o with
    |.ok c' st'=>match ry o H with
     |true=>tE X n cF ops a (c&&c') st'
     |false=>.stop c ⟨L,H⟩ []
    |.stop=>.stop c ⟨L,H⟩ []
   |_=>match kO X n cF ⟨L,H⟩ o with
    |.ok c' st'=>tE X n cF ops a (c&&c') st'
    |.stop=>.stop c ⟨L,H⟩ []
  |none=>.stop c ⟨L,H⟩ []
def rD(al:Bool)(c:bm):Bool:=al || jd c
structure mX(R:Nat->Prop)(aK:hU)(c7:Nat->Prop)(dD:World)(cL:cW)(F:World->Prop)(B:Nat->Prop)(ai:World)(H:cW):Prop where
 early:aK.early=true->c7=B/\dD=ai/\cL=H.filter (rD aK.all)
 pre:aK.pre=true->(∀c∈cL,c∈H/\rD aK.all c=true)/\cL.Pairwise bm.off/\(∀k,c7 k->B k)/\cV (λk=>R k\/c7 k) dD ai
 da:aK.lR=true->F=λw=>cV (λk=>R k\/B k) ai w
 oX:∀w,cV (λk=>R k\/B k) ai w->F w
def jh(X:bx)(M:Bool)(n:Nat)(ops:List Oper)(E:bG)(fuel:Nat)(aK:hU)(st:aP)(Q:Exit->aP->Prop):Prop:=
 ∀(R:Nat->Prop) (W:World) (aC:fe) (b:Nat->Prop) (c:World) (cL:cW) (F:World->Prop) (ks:bG) (env:Nat->Loc) (B:Nat->Prop) (ai:World) (H:cW) (a:Act) (w:World),JL M ks aC->bO X R W aC n ks env B ai H st a w->mX R aK b c cL F B ai H ->
  gN X.P ops.toArray (λe a w=>e=.normal/\∃st',Q e st'/\me X R W aC M n st' a w) (λj l w=>(fz E l j=true->bK (λk=>R k\/b k) c cL w)/\F w) fuel aK.listed a w
def sy(X:bx)(M:Bool)(n:Nat)(ops:List Oper)(E:bG)(fuel:Nat)(aK:hU)(st:aP)(Q:Exit->aP->Prop)(i:Nat):Prop:=
 ∀(R:Nat->Prop) (W:World) (aC:fe) (b:Nat->Prop) (c:World) (cL:cW) (F:World->Prop) (ks:bG) (env:Nat->Loc) (B:Nat->Prop) (ai:World) (H:cW) (a:Act) (w:World),JL M ks aC->bO X R W aC n ks env B ai H st a w->mX R aK b c cL F B ai H ->
  ∃o,ops.toArray[i]?=some o/\fa X.P ops.toArray o (λaS w'=>((fz E aK.listed i=true->bK (λk=>R k\/b k) c cL w')/\F w')/\gN X.P ops.toArray (λe a w=>e=.normal/\∃st',Q e st'/\me X R W aC M n st' a w) (λj l w=>(fz E l j=true->bK (λk=>R k\/b k) c cL w)/\F w) fuel (aK.listed.setIfInBounds i true) aS w') a w
theorem mX.T{aK:hU}{d:Nat->Prop}{e:World}{cL:cW}{F:World->Prop}{ks:bG}(h:mX R aK d e cL F B ai H)(an:aK.pre=true)(ae:bO X R W aC n ks env B ai H st a w):bK (λk=>R k\/d k) e cL w:=by
 obtain⟨J,U,ah,g⟩:=h.pre an;have ag:=ae.aQ.below;refine⟨g.trans ⟨ag.os,ag.tape,ag.output,ag.size,λk ab=>ag.block k (ab.imp id (ah k))⟩,λk ab=>ae.aQ.base k (ab.imp id (ah k)),λc aa=>?_,U⟩;have f:=ae.aQ.ok c (List.mem_append_left _ (J c aa).1);exact f.base λb ag ab=>(f.lt ag).1 (ab.imp id (ah b))
theorem mX.F{aK:hU}{b:Nat->Prop}{d:World}{cL:cW}{F:World->Prop}{ks:bG}(c:mX R aK b d cL F B ai H)(ae:bO X R W aC n ks env B ai H st a w):F w:=
 c.oX w ⟨ae.aQ.below.os,ae.aQ.below.tape,ae.aQ.below.output,ae.aQ.below.size,ae.aQ.below.block⟩
theorem bE.hE:∀ {l:bC} {H:cW},bE env B w l H->bE env B w (nK l) (H.filter jd)
 |[],_,h=>by rw[show _=[] from h];exact rfl
 |(k,.cells t cs)::r,_,⟨c,H',e,J,U⟩=>by
  subst e;have aa:jd c=true:=by
   obtain⟨b,vs,_,e,_⟩:=J;rw[e];rfl
  rw[List.filter_cons_of_pos aa];exact⟨c,_,rfl,J,bE.hE U⟩
 |(k,.row t g l cap)::r,_,⟨c,H',e,J,U⟩=>by
  subst e;have aa:jd c=false:=J.pG (λ_ _ e=>by cases e);rw[filter_cons_of_neg (by rw[aa];simp)];show bE env B w (nK r) _;exact bE.hE U
 |(k,.k7 s p)::r,_,⟨c,H',e,J,U⟩=>by
  subst e;have aa:jd c=false:=J.pG (λ_ _ e=>by cases e);rw[filter_cons_of_neg (by rw[aa];simp)];show bE env B w (nK r) _;exact bE.hE U
 |(k,.mp gk gv l o)::r,_,⟨c,H',e,J,U⟩=>by
  subst e;have aa:jd c=false:=J.pG (λ_ _ e=>by cases e);rw[filter_cons_of_neg (by rw[aa];simp)];show bE env B w (nK r) _;exact bE.hE U
 |(k,.it a j q ps)::r,_,⟨c,H',e,J,U⟩=>by
  subst e;have aa:jd c=false:=J.pG (λ_ _ e=>by cases e);rw[filter_cons_of_neg (by rw[aa];simp)];show bE env B w (nK r) _;exact bE.hE U
 |(k,.hS a)::r,_,⟨c,H',e,J,U⟩=>by
  subst e;have aa:jd c=false:=J.pG (λ_ _ e=>by cases e);rw[filter_cons_of_neg (by rw[aa];simp)];show bE env B w (nK r) _;exact bE.hE U
 |(k,.k8)::r,_,⟨c,H',e,J,U⟩=>by
  subst e;have aa:jd c=false:=J.pG (λ_ _ e=>by cases e);rw[filter_cons_of_neg (by rw[aa];simp)];show bE env B w (nK r) _;exact bE.hE U
 |(k,.cN f t g l cap i d)::r,_,⟨c,H',e,J,U⟩=>by
  subst e;have aa:jd c=false:=J.pG (λ_ _ e=>by cases e);rw[filter_cons_of_neg (by rw[aa];simp)];show bE env B w (nK r) _;exact bE.hE U
 |(k,.lH)::r,_,⟨c,H',e,J,U⟩=>by
  subst e;have aa:jd c=false:=J.pG (λ_ _ e=>by cases e);rw[filter_cons_of_neg (by rw[aa];simp)];show bE env B w (nK r) _;exact bE.hE U
 |(k,.gT t g l)::r,_,⟨c,H',e,J,U⟩=>by
  subst e;have aa:jd c=false:=J.pG (λ_ _ e=>by cases e);rw[filter_cons_of_neg (by rw[aa];simp)];show bE env B w (nK r) _;exact bE.hE U
 |(k,.bS t t' g l cap q)::r,_,⟨c,H',e,J,U⟩=>by
  subst e;have aa:jd c=false:=J.pG (λ_ _ e=>by cases e);rw[filter_cons_of_neg (by rw[aa];simp)];show bE env B w (nK r) _;exact bE.hE U
section
variable {X:bx} {M:Bool} {n:Nat} {st st':aP} {Q:Exit->aP->Prop} {ops:List Oper} {E:bG} {aK ds':hU} {fuel:Nat}
theorem bO.drew{ks:bG}(h:bO X R W aC n ks env B ai H st a w):bO X R W aC n ks env B ai H st a w.drew:=
 ⟨h.size,h.defs,h.has,h.heap,h.aQ.drew,h.sub,h.new,h.dB,h.base,h.eg⟩
theorem Kw{id N:Nat}{r:Option Nat}{al:Bool}(E:bG)(f:X.P.follows .mixedOrders=true)(aR:ops.length=N)(h:jh X M n ops E N ⟨Array.replicate N false,true,true,true,al⟩ st Q):hf X M n r (.region id ops.toArray true) st Q:=by
 rintro R W aC a w ⟨ks,env,B,ai,H,d,ae⟩;have J:=gN.any r _ _ _ _ (h R W aC B ai (H.filter (rD al)) _ ks env B ai H a w.drew d ae.drew ⟨λ_=>⟨rfl,rfl,rfl⟩,λ_=>⟨λc aa=>List.mem_filter.1 aa,(List.pairwise_append.1 ae.aQ.apart).1.sublist filter_sublist,λ_ h=>h,cV.refl _ _⟩,λ_=>rfl,λ_ h=>h⟩);have U:(Code.region id ops.toArray true).wpIn (WF r) 0 X.P (λe a w=>e=.normal/\∃st',Q e st'/\me X R W aC M n st' a w) a w:=wpIn_region_any f (by simp only[List.size_toArray,aR];exact J);refine wpIn_mono U ?_;rintro e a w ⟨rfl,st',ah,b⟩;exact⟨st',ah,b⟩
theorem Kx(b:Region.ready .any ops.toArray aK.listed=[])(h:Q .normal st):jh X M n ops E 0 aK st Q:=λR W aC d e cL F ks env B ai H a w c ae _=>⟨b,rfl,st,h,ks,env,B,ai,H,c,ae⟩
theorem mm(h:nth ops i=some o):ops.toArray[i]?=some o:=by simpa using JX h
theorem acj{op:Op}(h:pQ op=true)(d:Option Nat):za X n st d op=none:=by
 unfold pQ at h
 split at h<;>first|rfl|(cases h)
theorem RN(u:X.a1.ok X.P){ks:bG}{c:Bool}(an:pQ o.op=true)(e:kO X n (ey ops) st o=.ok c st')(aa:c=true)(ae:bO X R W aC n ks env B ai H st a w) :
  ∃v,bO X R W aC n ks env B ai H st' (a.put o.dst v) w/\(∀T:World->Prop,(n5 o.op=true->T=λw=>bK (λk=>R k\/B k) ai (H++ks.map dj) w)->YieldsIf X.P ops.toArray T o v a):=by
 obtain⟨L,C⟩:=st;simp only[kO]at e;have t:∀ {sa:bn} {v:Value} {T:World->Prop},(∀w,(n5 o.op=true->bK (λk=>R k\/B k) ai (H++ks.map dj) w)->(execOp a.eval o).run X.P w=.ok (.value v) w)->(n5 o.op=true->T=λw=>bK (λk=>R k\/B k) ai (H++ks.map dj) w)->∀w,T w->(execOp a.eval o).run X.P w=.ok (.value v) w:=by
  intro sa v T J U w hw;exact J w λao=>by have:=U ao;rw[this]at hw;exact hw
 split at e
 ·rename_i f
  split at e
  ·rename_i c' sa r
   split at e
   ·rename_i d l
    split at e
    ·rename_i az
     cases e;obtain⟨v,J,U⟩:=y7 u r aa ae;refine⟨v,ae.set J (by rw[l];exact ae.bV.put d v (dH az)),λT p=>.inl ⟨by simp[Region.wanted,f],t (sa:=sa) U p⟩⟩
    ·cases e
   ·cases e
  ·split at e
   ·rename_i xs z
    split at e
    ·rename_i d l
     split at e
     ·rename_i az
      cases e;obtain⟨v,J,U⟩:=Kd ae z;exact⟨v,ae.set J (by rw[l];exact ae.bV.put d v (dH az)),λT p=>.inl ⟨by simp[Region.wanted,f],λw _=>U w⟩⟩
     ·cases e
    ·cases e
   ·rw[acj an]at e
    cases e
 ·rename_i j want f
  split at e
  ·rename_i s y
   obtain⟨E,A,D⟩:=BC y;have m:(ops.toArray[j]?).bind (·.dst)=some s:=by simp[A,<- D]
   have key:∀g:Bool,u2 X n L C o g=.ok c st'->Region.wanted o (yielded ops.toArray a.tmps)=g->∃v,bO X R W aC n ks env B ai H st' (a.put o.dst v) w/\(∀T:World->Prop,(n5 o.op=true->T=λw=>bK (λk=>R k\/B k) ai (H++ks.map dj) w)->YieldsIf X.P ops.toArray T o v a):=by
    intro g q hw;unfold u2 at q
    split at q
    ·rename_i c' sa d r l
     split at q
     ·rename_i az
      cases q;cases g with
      |true=>
       obtain⟨v,J,U⟩:=y7 u r (by simpa using aa) ae;exact⟨v,ae.set (sv:=.may true sa) ⟨λ_=>J,λh=>by cases h⟩ (by rw[l];exact ae.bV.put d v (dH az)),λT p=>.inl ⟨hw,t (sa:=sa) U p⟩⟩
      |false=>exact⟨undef,ae.set (sv:=.may false sa) ⟨(λh=>by cases h),λ_=>rfl⟩ (by rw[l];exact ae.bV.put d undef (dH az)),λT p=>.inr ⟨hw,rfl⟩⟩
     grind
    grind
   split at e
   ·rename_i b i
    obtain⟨v,J,U⟩:=ae.has _ _ i;rw[show v=_ from U]at J;refine key _ e ?_;rw[pC ae.sym f m (hr J)];cases b<;>rfl
   ·rename_i b i
    obtain⟨v,J,U⟩:=ae.has _ _ i;rw[show v=_ from U]at J;refine key _ e ?_;rw[pC ae.sym f m (hr J)];cases b<;>rfl
   ·rename_i g b i
    obtain⟨v,J,U,ah⟩:=ae.has _ _ i;refine key _ e ?_;cases g with
    |true=>
     rw[show v=_ from U rfl]at J;rw[pC ae.sym f m (hr J)];cases b<;>rfl
    |false=>
     rw[ah rfl]at J;rw[yY ae.sym f m (hr J)]
     rfl
   ·rename_i g b i
    obtain⟨v,J,U,ah⟩:=ae.has _ _ i;refine key _ e ?_;cases g with
    |true=>
     rw[show v=_ from U rfl]at J;rw[pC ae.sym f m (hr J)];cases b<;>rfl
    |false=>
     rw[ah rfl]at J;rw[yY ae.sym f m (hr J)]
     rfl
   ·cases e
  ·cases e
theorem vb:∀ {a:List (Nat×Nat)} {c c':Bool} {st st':aP} {cF:List (Option Nat)},tE X n cF ops a c st=.done c' st'->c'=true->c=true
 |[],c,c',st,st',cF,h,aa=>by cases h;exact aa
 |(i,m)::a,c,c',⟨L,H⟩,st',cF,h,aa=>by
  simp only[tE]at h
  split at h
  ·split at h
   ·split at h
    ·have:=vb h aa
     grind
    grind
   ·split at h
    ·have:=vb h aa
     grind
    grind
   ·split at h
    ·split at h
     ·have:=vb h aa
      grind
     grind
    grind
   ·split at h
    ·have:=vb h aa
     grind
    grind
  ·grind
theorem zj{c:Nat->Prop}{d:World}{cL:cW}{F:World->Prop}{n:Exit->Act->World->Prop}{listed:Array Bool}{fl:Nat}(b:Bool)(v:Value)(K:ops.toArray[i]?=some o)(ag:pR ops.toArray E listed i=true)(C:E.elem i=true->b=true)(z:b=true->zh ops.toArray E (xI ops.toArray i) listed i=true)(aA:YieldsIf X.P ops.toArray (λw=>(b=true->bK (λk=>R k\/c k) d cL w)/\F w) o v a)(A:b=true->bK (λk=>R k\/c k) d cL w)(B:F w)(y:gN X.P ops.toArray n (λj l w=>(fz E l j=true->bK (λk=>R k\/c k) d cL w)/\F w) fl (listed.setIfInBounds i true) (a.put o.dst v) w) :
  gN X.P ops.toArray n (λj l w=>(fz E l j=true->bK (λk=>R k\/c k) d cL w)/\F w) (fl+1) listed a w:=by
 simp only[pR,and_eq_true]at ag;obtain⟨⟨⟨s,M⟩,P⟩,u⟩:=ag;have t:∀ {l:Array Bool} {j:Nat},fz E l j=true->fz E (l.setIfInBounds i true) j=true:=Kv s;have r:∀D,(b=true->Fl E D=true)->(∀j∈D,Ko ops.toArray i D j)->(∀j∈D,listed.getD j true=false)->(∀j m,ops.toArray[j]?=some m->j≠i->listed.getD j true=false->(∀e∈m.after,Region.binds .any e=true->e.on≠i)->j∈D\/(b=true->E.elem j=true))->gN X.P ops.toArray n (λj l w=>(fz E l j=true->bK (λk=>R k\/c k) d cL w)/\F w) (fl+1) listed a w:=by
  intro D O J U ah;refine gN.first (T:=λw=>(b=true->bK (λk=>R k\/c k) d cL w)/\F w) K (Region.noSelect_spec M) D J (λj l w p=>⟨λhe=>p.1 (t he),p.2⟩) _ _ _ _ U ?_ (by simpa using u) aA ⟨A,B⟩ y (λl w' hw=>⟨λhe=>hw.1 (C (RL he)),hw.2⟩)
  grind [Region.free_spec,aci]
 cases bc:b with
 |false=>exact r [] (λh=>by rw[bc]at h;cases h) (λ_ h=>by cases h) (λ_ h=>by cases h) (λ_ _ _ _ _ _=>.inr λh=>by rw[bc]at h;cases h)
 |true=>
  have f:=z bc;unfold zh at f;rw[and_eq_true]at f;obtain⟨f,N⟩:=f;simp only[and_eq_true,all_eq_true,List.mem_range,not_eq_true']at f;obtain⟨q,I⟩:=f;refine r (xI ops.toArray i) (λ_=>N) (λj g=>RM (q j g).2) (λj g=>(q j g).1) (λj m G H L _=>?_)
  have:=I j (Array.getElem?_eq_some_iff.1 G).1
  simp only[or_eq_true,beq_iff_eq]at this
  rcases this with((J|J)|J)|J
  ·exact absurd J H
  ·rw[L]at J;cases J
  ·exact .inr λ_=>J
  ·exact .inl (by simpa using J)
theorem Fo{listed:Array Bool}{pre:Bool}(h:zi ops.toArray E listed pre i=true):(E.elem i=true->zh ops.toArray E (xI ops.toArray i) listed i=true)/\(E.elem i=true->pre=true):=by
 grind [zi,not_eq_true']
theorem RP{ops:Array Oper}{T T':World->Prop}(h:YieldsIf P ops T o v a)(hw:∀w,T' w->T w):YieldsIf P ops T' o v a:=by
 rcases h with⟨J,U⟩|J
 ·exact .inl ⟨J,λw b=>U w (hw w b)⟩
 ·exact .inr J
theorem RQ(i:X.a1.ok X.P){ks:bG}{C:cW}{L dJ:cS}{e m:bC}{c:Bool}(ae:bO X R W aC n ks env B ai H ⟨L,e⟩ a w)(j:bE env B ai h C)(cA:C.Sublist H)(an:pQ o.op=true)(g:kO X n (ey ops) ⟨L,h⟩ o=.ok c ⟨dJ,m⟩)(aa:c=true) :
  ∃v,bO X R W aC n ks env B ai H ⟨dJ,e⟩ (a.put o.dst v) w/\YieldsIf X.P ops.toArray (λw=>bK (λk=>R k\/B k) ai C w) o v a:=by
 have l:bO X R W aC n [] env B ai C ⟨L,h⟩ { tmps:=a.tmps,defers:=aC.d } w:=⟨ae.size,rfl,ae.has,j,ae.aQ.fb (by simpa using cA.trans (sublist_append_left _ _)),ae.sub,ae.new,ae.dB,ae.base,ae.eg⟩
 obtain⟨v,b,aA⟩:=RN i an g aa l;have d:(({ tmps:=a.tmps,defers:=aC.d }:Act).put o.dst v).tmps=(a.put o.dst v).tmps:=by cases o.dst<;>rfl
 have f:(a.put o.dst v).defers=a.defers:=by cases o.dst<;>rfl
 refine⟨v,⟨by rw[<- d];exact b.size,by rw[f];exact ae.defs,λs sv h=>by rw[<- d];exact b.has s sv h,ae.heap,ae.aQ,ae.sub,ae.new,ae.dB,ae.base,ae.eg⟩,?_⟩;have J:=aA _ (λ_=>rfl);simp only[map_nil,append_nil]at J;exact J
theorem mX.kept{b:Nat->Prop}{d:World}{cL:cW}{F:World->Prop}{H':cW}(a:mX R aK b d cL F B ai H)(ab:aK.pre=true->∀c∈H,rD aK.all c=true->c∈H'):mX R ⟨l,false,aK.pre,aK.lR,aK.all⟩ b d cL F B ai H':=
 ⟨λh=>(by cases h),λh=>by
  obtain⟨J,U,ah,e⟩:=a.pre h;exact⟨λc aa=>⟨ab h c (J c aa).1 (J c aa).2,(J c aa).2⟩,U,ah,e⟩,a.da,a.oX⟩
theorem mX.lost{a:Nat->Prop}{c:World}{cL:cW}{F:World->Prop}{H':cW}(b:mX R aK a c cL F B ai H):mX R ⟨l,false,false,aK.lR,aK.all⟩ a c cL F B ai H':=
 ⟨λh=>(by cases h),λh=>(by cases h),b.da,b.oX⟩
theorem zn(g:X.a1.ok X.P):∀ {q:List (Nat×Nat)} {c c':Bool} {st st':aP} {aK ds':hU},qL ops.toArray E q aK=some ds'->tE X n (ey ops) ops q c st=.done c' st'->c'=true ->
  jh X M n ops E fuel ds' st' Q->jh X M n ops E (q.length+fuel) aK st Q
 |[],c,c',st,st',aK,ds',bj,b,aa,h=>by
  cases bj;cases b
  grind
 |(i,m)::q,c,c',⟨L,aw⟩,st',⟨listed,early,pre,aB,al⟩,ds',bj,b,aa,h=>by
  simp only[tE]at b
  split at b
  case h_2=>cases b
  rename_i o hi;have j:=mm hi;rw[length_cons,show q.length+1+fuel=(q.length+fuel)+1 by omega];intro R W aC z A cL F ks env B ai H a w y ae d;have V:F w:=d.F ae
  split at b
  ·-- a load of what is frozen
   split at b
   case h_2=>cases b
   rename_i cC dJ ax p;have f:=vb b aa;simp only[and_eq_true]at f;simp only[qL]at bj
   split at bj
   case h_2=>cases bj
   rename_i e;simp only[nJ,j,and_eq_true]at e;obtain⟨⟨⟨D,T⟩,G⟩,ay⟩:=e;obtain⟨oi,U⟩:=Fo T;obtain⟨v,J,aA⟩:=RQ g ae (h:=[]) (C:=[]) rfl (List.nil_sublist _) G p f.2;refine zj (E.elem i) v j D id oi (RP aA λw' P=>?_) (λhe=>d.T (U he) ae) V (zn g bj b aa h R W aC z A cL F ks env B ai H _ w y J ⟨d.early,d.pre,d.da,d.oX⟩);have t:=P.2;rw[d.da ay]at t;refine⟨t,λk ab=>?_,(λ_ h=>by cases h),List.Pairwise.nil⟩;have ah:=ae.aQ.base k ab;have aE:=ae.aQ.below.block k ab;have aD:=t.block k ab
   grind
  ·-- a load of one's own cells
   split at b
   case h_2=>cases b
   rename_i cC dJ ax p;have f:=vb b aa;simp only[and_eq_true]at f;simp only[qL]at bj
   split at bj
   case h_2=>cases bj
   rename_i e;simp only[nJ,j,and_eq_true]at e;simp only[not_eq_true']at e;obtain⟨⟨⟨⟨⟨D,az⟩,G⟩,ag⟩,S⟩,O⟩:=e;subst O;obtain⟨v,J,aA⟩:=RQ g ae (h:=nK aw) (C:=H.filter jd) ae.heap.hE filter_sublist G p f.2;refine zj true v j D (λ_=>rfl) (λ_=>az) (RP aA λw' P=>?_) (λ_=>d.T S ae) V (zn g bj b aa h R W aC z A cL F ks env B ai H _ w y J ⟨d.early,d.pre,d.da,d.oX⟩);have t:=P.1 rfl;obtain⟨ak,ap,aq⟩:=d.early ag;rw[ak,ap,aq]at t;exact t
  ·-- one that keeps all cells
   split at b
   case h_2=>cases b
   rename_i cC av p
   split at b
   case h_2=>cases b
   rename_i am;have f:=vb b aa;simp only[and_eq_true]at f;simp only[qL]at bj
   split at bj
   case h_2=>cases bj
   rename_i e;simp only[nJ,j,and_eq_true,beq_iff_eq]at e;simp only[not_eq_true']at e;obtain⟨⟨⟨I,S⟩,an⟩,O⟩:=e;subst O;refine⟨λu=>(by rw[I]at u;cases u),λk ab=>?_⟩;rw[I]at ab;have N:k=i:=by simpa using ab
   subst N;refine⟨o,j,ss g p f.2 ae λaS w' env' H' ac r=>?_⟩;have s:=d.kept (H':=H') (l:=listed.setIfInBounds k true) (λ_=>ac.eb an am);exact⟨⟨λ_=>s.T S r,s.F r⟩,zn g bj b aa h R W aC z A cL F ks env' B ai H' aS w' y r s⟩
  ·rename_i aj ad ao
   split at b
   case h_2=>cases b
   rename_i cC av p;have f:=vb b aa;simp only[and_eq_true]at f
   by_cases Y:m=0
   ·subst Y
    simp only[qL]at bj
    split at bj
    case h_2=>cases bj
    rename_i e;simp only[nJ,j,and_eq_true,not_eq_true']at e;obtain⟨⟨D,T⟩,G,af⟩:=e;obtain⟨oi,U⟩:=Fo T;obtain⟨v,au,aA⟩:=RN g G p f.2 ae;exact zj (E.elem i) v j D id oi (aA _ (λh=>by rw[af]at h;cases h)) (λhe=>d.T (U he) ae) V (zn g bj b aa h R W aC z A cL F ks env B ai H _ w y au ⟨d.early,d.pre,d.da,d.oX⟩)
   ·have K:(match (Region.ready .any ops.toArray listed==[i])&&!fz E listed i with|true=>qL ops.toArray E q ⟨listed.setIfInBounds i true,false,false,aB,al⟩|false=>none)=some ds':=by
     rw[<- bj]
     match m,Y,aj,ad,ao with
     |0,h,_,_,_=>exact absurd rfl h
     |1,_,h,_,_=>exact absurd rfl h
     |2,_,_,_,_=>rfl
     |3,_,_,h,_=>exact absurd rfl h
     |4,_,_,_,h=>exact absurd rfl h
     |_+5,_,_,_,_=>rfl
    split at K
    case h_2=>cases K
    rename_i Z;simp only[and_eq_true,beq_iff_eq,not_eq_true']at Z;obtain⟨I,ar⟩:=Z;refine⟨λu=>(by rw[I]at u;cases u),λk ab=>?_⟩;rw[I]at ab;have N:k=i:=by simpa using ab
    subst N;refine⟨o,j,ss g p f.2 ae λaS w' env' H' ac r=>?_⟩;have s:=d.lost (H':=H') (l:=listed.setIfInBounds k true);exact⟨⟨λhe=>(by rw[ar]at he;cases he),s.F r⟩,zn g K b aa h R W aC z A cL F ks env' B ai H' aS w' y r s⟩
theorem RR(d:X.a1.ok X.P)(a:List (Nat×Nat)){c:Bool}(bj:qL ops.toArray E a aK=some ds')(b:tE X n (ey ops) ops a true st=.done c st')(aa:c=true)(h:jh X M n ops E fuel ds' st' Q):jh X M n ops E (a.length+fuel) aK st Q:=zn d bj b aa h
theorem RS(f:X.a1.ok X.P){c:Bool}(hi:nth ops i=some o)(p:fz E aK.listed i=false)(e:kO X n (ey ops) st o=.ok c st')(aa:c=true)(ao:aK.listed.setIfInBounds i true=l')(h:jh X M n ops E fuel ⟨l',false,false,aK.lR,aK.all⟩ st' Q):sy X M n ops E fuel aK st Q i:=by
 intro R W aC j m cL F ks env B ai H a w g ae k;refine⟨o,mm hi,ss f e aa ae λaS w' env' H' q b=>?_⟩;have d:=k.lost (H':=H') (l:=l');rw[ao];exact⟨⟨λhe=>(by rw[p]at he;cases he),d.F b⟩,h R W aC j m cL F ks env' B ai H' aS w' g b d⟩
theorem RT(f:X.a1.ok X.P){c:Bool}(hi:nth ops i=some o)(ab:(aK.pre&&Bv o.op&&ry o st.H&&!aK.all)=true)(e:kO X n (ey ops) st o=.ok c st')(aa:c=true)(ao:aK.listed.setIfInBounds i true=l')(h:jh X M n ops E fuel ⟨l',false,true,aK.lR,aK.all⟩ st' Q):sy X M n ops E fuel aK st Q i:=by
 intro R W aC j m cL F ks env B ai H a w g ae k;simp only[and_eq_true]at ab;refine⟨o,mm hi,ss f e aa ae λaS w' env' H' q b=>?_⟩;have p:aK.all=false:=by simpa using ab.2
 have d:=k.kept (H':=H') (l:=l') (λ_=>by rw[p];exact q.eb ab.1.1.2 ab.1.2);rw[ao];refine⟨⟨λhe=>d.T ab.1.1.1 b,d.F b⟩,h R W aC j m cL F ks env' B ai H' aS w' g b ?_⟩
 grind
theorem RU(f:X.a1.ok X.P){c:Bool}(hi:nth ops i=some o)(ab:(aK.pre&&y8 o.op&&uV o st.H)=true)(e:kO X n (ey ops) st o=.ok c st')(aa:c=true)(ao:aK.listed.setIfInBounds i true=l')(h:jh X M n ops E fuel ⟨l',false,true,aK.lR,aK.all⟩ st' Q):sy X M n ops E fuel aK st Q i:=by
 intro R W aC j m cL F ks env B ai H a w g ae k;simp only[and_eq_true]at ab;refine⟨o,mm hi,ss f e aa ae λaS w' env' H' p b=>?_⟩;have d:=k.kept (H':=H') (l:=l') (λ_ c aa _=>p.all ab.1.2 ab.2 c aa);rw[ao];refine⟨⟨λhe=>d.T ab.1.1 b,d.F b⟩,h R W aC j m cL F ks env' B ai H' aS w' g b ?_⟩
 grind
def Fq(X:bx)(M:Bool)(n:Nat)(ops:List Oper)(E:bG)(fuel:Nat)(aK:hU)(st:aP)(Q:Exit->aP->Prop)(a:bG):Prop:=∀i∈a,sy X M n ops E fuel aK st Q i
theorem KD:Fq X M n ops E fuel aK st Q []:=λ_ h=>by cases h
theorem zo{a:bG}(h:sy X M n ops E fuel aK st Q i)(b:Fq X M n ops E fuel aK st Q a):Fq X M n ops E fuel aK st Q (i::a):=λj aX=>by
 rcases List.mem_cons.1 aX with rfl|aX
 ·grind
 ·exact b j aX
theorem KE{d:bG}(c:Region.ready .any ops.toArray aK.listed=i::d)(h:Fq X M n ops E fuel aK st Q (i::d)):jh X M n ops E (fuel+1) aK st Q:=by
 intro R W aC f j cL F ks env B ai H a w e ae g;refine⟨λb=>(by rw[c]at b;cases b),λk ab=>?_⟩;rw[c]at ab;exact h k ab R W aC f j cL F ks env B ai H a w e ae g
end
theorem gN.KF{ops:Array Oper}{Q:Exit->Act->World->Prop}{S S':Nat->Array Bool->World->Prop}(b:∀j l w,S' j l w->S j l w):∀(fuel:Nat) (listed:Array Bool) (a:Act) (w:World),gN P ops Q S' fuel listed a w->gN P ops Q S fuel listed a w
 |0,_,_,_,h=>h
 |fuel+1,_,_,_,h=>⟨h.1,λi hi=>by
  obtain⟨o,d,ak⟩:=h.2 i hi;exact⟨o,d,ak.mono λaS w' c=>⟨b _ _ _ c.1,gN.KF b fuel _ aS w' c.2⟩⟩⟩
theorem acp{M:Bool}{Q:Exit->aP->Prop}{ops:List Oper}{E:bG}{aK:hU}{fuel:Nat}(q:(E.isEmpty || aK.pre)=true)(h:jh X M n ops E fuel ⟨aK.listed,true,true,true,aK.all⟩ st Q):jh X M n ops E fuel aK st Q:=by
 intro R W aC s t cL F ks env B ai H a w p ae g;refine gN.KF ?_ _ _ _ _ (h R W aC B ai (H.filter (rD aK.all)) (λw=>cV (λk=>R k\/B k) ai w) ks env B ai H a w p ae ⟨λ_=>⟨rfl,rfl,rfl⟩,λ_=>⟨λc aa=>List.mem_filter.1 aa,(List.pairwise_append.1 ae.aQ.apart).1.sublist filter_sublist,λ_ h=>h,cV.refl _ _⟩,λ_=>rfl,λ_ h=>h⟩);rintro j l w' ⟨J,U⟩;refine⟨λhe=>?_,g.oX w' U⟩;have an:aK.pre=true:=by
  cases E with
  |nil=>cases (RL he)
  |cons e E=>simpa using q
 obtain⟨m,r,f,o⟩:=g.pre an;have d:=J he;have ag:=d.below;refine⟨o.trans ⟨ag.os,ag.tape,ag.output,ag.size,λk ab=>ag.block k (ab.imp id (f k))⟩,λk ab=>d.base k (ab.imp id (f k)),λc aa=>?_,r⟩;have i:=d.ok c (List.mem_filter.2 ⟨(m c aa).1,(m c aa).2⟩);exact i.base λb ag ab=>(i.lt ag).1 (ab.imp id (f b))
end
section
def vd(id:Nat)(g:aZ)(x:g.D):dY->dY
 |[]=>[]
 |.id i::r=>match beq i id with
  |true=>.eC g x::vd id g x r
  |false=>.id i::vd id g x r
 |.eC h y::r=>.eC h y::vd id g x r
def bs.eR:bs->Nat->(g:aZ)->g.D->bs
 |.ptr i o,id,g,x=>match beq i id with
  |true=>.fu g x o
  |false=>.ptr i o
 |.fn f ids,id,g,x=>.fn f (vd id g x ids)
 |c,_,_,_=>c
def zp(id:Nat)(g:aZ)(x:g.D):dP->dP
 |[]=>[]
 |c::r=>c.eR id g x::zp id g x r
def bn.eR:bn->Nat->(g:aZ)->g.D->bn
 |.c y,id,g,x=>.c (y.eR id g x)
 |.agg cs,id,g,x=>.agg (zp id g x cs)
 |.arr g l,_,_,_=>.arr g l
def BS(id:Nat)(g:aZ)(x:g.D):dT->dT
 |[]=>[]
 |c::r=>c.eR id g x::BS id g x r
def b7.eR:b7->Nat->(g:aZ)->g.D->b7
 |.a y,id,g,x=>.a (y.eR id g x)
 |.may b y,id,g,x=>.may b (y.eR id g x)
 |.cE ys,id,g,x=>.cE (BS id g x ys)
def w9(id:Nat)(g:aZ)(x:g.D):cS->cS
 |[]=>[]
 |(k,v)::r=>(k,v.eR id g x)::w9 id g x r
def cz.eR:cz->Nat->(g:aZ)->g.D->cz
 |.cells t cs,id,g,x=>.cells t (zp id g x cs)
 |b,_,_,_=>b
def o1(id:Nat)(g:aZ)(x:g.D):bC->bC
 |[]=>[]
 |(k,b)::r=>match beq k id with
  |true=>o1 id g x r
  |false=>(k,b.eR id g x)::o1 id g x r
section
variable {env:Nat->Loc} {B:Nat->Prop} {w:World} {id b:Nat} {g:aZ} {x:g.D} (he:env id=.blk b) (bl:At B w g x b 0)
include he bl
theorem fv.eR{cs:dY}:∀ {vs:bQ},fv env B w cs vs->fv env B w (vd id g x cs) vs:=by
 induction cs with
 |nil=>intro vs h;exact h
 |cons c cs a=>
  intro vs h;obtain⟨v,r,e,J,ah⟩:=h;cases c with
  |id i=>
   obtain⟨b',J,U⟩:=J;simp only[vd]
   split
   ·rename_i hi
    have:=eq_of_beq_eq_true hi
    subst this;rw[he]at J;cases J;exact⟨v,r,e,⟨b,0,U,bl⟩,a ah⟩
   ·exact⟨v,r,e,⟨b',J,U⟩,a ah⟩
  |eC h y=>exact⟨v,r,e,J,a ah⟩
theorem dw.eR:∀ {c:bs} {v:Value},dw env B w c v->dw env B w (c.eR id g x) v
 |.val _,_,aa=>aa
 |.str _,_,aa=>aa
 |.dead,_,aa=>aa
 |.ptr i o,v,aa=>by
  simp only[bs.eR]
  split
  ·rename_i hi
   have:=eq_of_beq_eq_true hi
   subst this;obtain⟨b',J,U⟩:=aa;rw[he]at J;cases J;exact⟨b,0,by rw[zero_add];exact U,bl⟩
  grind
 |.eT _ _ _ _,_,aa=>aa
 |.fu _ _ _,_,aa=>aa
 |.par _ _,_,aa=>aa
 |.ax _,_,aa=>aa
 |.bz _ _ _,_,aa=>aa
 |.fn _ _,_,⟨vs,J,U⟩=>⟨vs,J,fv.eR he bl U⟩
 |.dv _,_,aa=>aa
 |.jD _ _,_,aa=>aa
 |.il _ _,_,aa=>aa
 |.jE _ _ _,_,aa=>aa
 |.jV _,_,aa=>aa
 |.iC _ _,_,aa=>aa
theorem cM.eR:∀ {c:dP} {v:bQ},cM env B w c v->cM env B w (zp id g x c) v
 |[],_,aa=>aa
 |_::_,_,⟨v,r,e,J,U⟩=>⟨v,r,e,dw.eR he bl J,cM.eR U⟩
theorem dN.eR:∀ {c:bn} {v:Value},dN env B w c v->dN env B w (c.eR id g x) v
 |.c _,_,aa=>dw.eR he bl aa
 |.agg _,_,⟨vs,e,J⟩=>⟨vs,e,cM.eR he bl J⟩
 |.arr _ _,_,h=>h
theorem dx.eR:∀ {c:dT} {v:bQ},dx env B w c v->dx env B w (BS id g x c) v
 |[],_,aa=>aa
 |_::_,_,⟨v,r,e,J,U⟩=>⟨v,r,e,dN.eR he bl J,dx.eR U⟩
theorem eI.eR:∀ {c:b7} {v:Value},eI env B w c v->eI env B w (c.eR id g x) v
 |.a _,_,aa=>dN.eR he bl aa
 |.may _ _,_,aa=>⟨λa=>dN.eR he bl (aa.1 a),aa.2⟩
 |.cE _,_,⟨vs,e,J⟩=>⟨vs,e,dx.eR he bl J⟩
theorem eF.eR{k:Nat}:∀ {qO:cz} {c:bm},eF env B w k qO c->eF env B w k (qO.eR id g x) c
 |.cells _ _,_,⟨b',vs,e,aa,J⟩=>⟨b',vs,e,aa,cM.eR he bl J⟩
 |.row _ _ _ _,_,h=>h
 |.k7 _ _,_,h=>h
 |.mp _ _ _ _,_,h=>h
 |.it _ _ _ _,_,h=>h
 |.hS _,_,h=>h
 |.k8,_,h=>h
 |.cN _ _ _ _ _ _ _,_,h=>h
 |.lH,_,h=>h
 |.gT _ _ _,_,h=>h
 |.bS _ _ _ _ _ _,_,h=>h
theorem bE.eR:∀ {l:bC} {H:cW},bE env B w l H->∃H',H'.Sublist H/\bE env B w (o1 id g x l) H'
 |[],_,b=>⟨[],by rw[show _=[] from b];exact List.Sublist.refl _,rfl⟩
 |(k,qO)::l,_,⟨c,H',e,J,U⟩=>by
  obtain⟨H2,a,ah⟩:=bE.eR U;subst e;unfold o1
  split
  ·grind
  ·exact⟨c::H2,a.cons_cons _,c,H2,rfl,eF.eR he bl J,ah⟩
theorem bE.RV:∀ {l:bC} {H:cW} {qO:cz},bE env B w l H->bh l id=some qO->∃c Y Z H',eF env B w id qO c/\H=Y++c::Z/\H'.Sublist (Y++Z)/\bE env B w (o1 id g x l) H'
 |[],_,_,_,h=>by cases h
 |(k,b')::l,H,qO,⟨c,H',e,J,U⟩,h=>by
  rw[cO]at h;subst e
  split at h
  ·rename_i e
   subst e;cases h;obtain⟨H2,ah,a⟩:=bE.eR he bl U;refine⟨c,[],H',H2,J,rfl,ah,?_⟩
   grind [o1,beq_refl]
  ·rename_i e
   obtain⟨c',Y,Z,H2,ah,a,b,d⟩:=bE.RV U h;have ab:beq k id=false:=by
    grind [beq,id,absurd,eq_of_beq_eq_true]
   refine⟨c',c::Y,Z,c::H2,ah,by rw[a];rfl,b.cons_cons _,?_⟩;unfold o1;rw[ab];exact⟨c,H2,rfl,eF.eR he bl J,d⟩
omit he bl in
theorem KG:∀ {l:cS} {s:Nat} {v:b7},bh (w9 id g x l) s=some v->∃u,bh l s=some u/\v=u.eR id g x
 |[],_,_,h=>by cases h
 |(k,u)::l,s,v,h=>by
  unfold w9 at h;rw[cO]at h ⊢
  split at h
  ·grind
  ·rename_i e
   rw[if_neg e];exact KG h
end
section
variable {X:bx} {R:Nat->Prop} {W:World} {aC:fe} {n:Nat} {ks:bG} {env:Nat->Loc} {B:Nat->Prop} {ai:World} {H:cW} {st st':aP} {a:Act} {w:World}
theorem bO.bX(h:bO X R W aC n ks env B ai H st a w){id:Nat}{cs:dP}{x:g.D}{c:Bool}(r:bh st.H id=some (.cells t cs))(T:dec g cs=some (c,x,[]))(aa:c=true):∃env' B' F H',bO X R W aC n ks env' B' F H' ⟨w9 id g x st.L,o1 id g x st.H⟩ a w:=by
 obtain⟨c0,_,⟨b,vs,he,rfl,M⟩,G⟩:=h.heap.gA r;have f:gm B ai (λq=>B q\/q=b) w:=⟨λq aq=>.inl aq,λq aq=>h.aQ.below.block q (.inr aq)⟩
 obtain⟨ab,V,o,S,N⟩:=sr (M.up f) T aa;have D:V=[]:=N;subst D;rw[append_nil]at o;subst o;have z:At (λq=>B q\/q=b) w g x b 0:=⟨.inr rfl,vs,S,λj u hu=>by rw[zero_add,JC h.aQ G.more];exact hu⟩
 obtain⟨c,Y,Z,H2,⟨b',m,v,rfl,_⟩,U,E,C⟩:=bE.RV he z (h.heap.up f) r;rw[he]at v;cases v;have A:bm.hE b m t∈H++ks.map dj:=by rw[U];simp
 have y:=(h.aQ.ok _ A).lt (b:=b) rfl;have l:=h.aQ.apart;rw[U,append_assoc,cons_append]at l;refine⟨env,_,w,H2,h.size,h.defs,λs u hu=>?_,C,?_,λq aq=>.inl (h.sub q aq),λq aq=>?_,h.dB,h.base.trans ⟨h.aQ.below.os,h.aQ.below.tape,h.aQ.below.output,h.aQ.below.size,λq aq=>h.aQ.below.block q (.inl aq)⟩,λi x ak=>(h.eg i x ak).up f⟩
 ·obtain⟨P,Q,rfl⟩:=KG hu
  obtain⟨K,e,cl⟩:=h.has s P Q;exact⟨K,e,eI.eR he z (cl.up f)⟩
 ·have d:bK (λk=>R k\/B k) ai (H2++ks.map dj) w:=by
   have e:=h.aQ;rw[U]at e;have an:(Y++bm.hE b m t::Z++ks.map dj).Perm (bm.hE b m t::(Y++Z++ks.map dj)):=by
    simp only[append_assoc,cons_append];exact List.perm_middle
   exact(e.perm an).fb (((E.append_right _)).cons _)
  refine⟨cV.refl _ _,λq aq=>?_,λc aa=>(d.ok c aa).base λq ag cG=>?_,d.apart⟩
  ·rcases aq with aq|aq|aq
   ·exact h.aQ.base q (.inl aq)
   ·exact h.aQ.base q (.inr aq)
   ·subst aq;exact y.2
  ·rcases cG with cG|cG|cG
   ·exact((d.ok c aa).lt ag).1 (.inl cG)
   ·exact((d.ok c aa).lt ag).1 (.inr cG)
   ·subst cG
    have O:c∈Y++(Z++ks.map dj):=by
     rcases List.mem_append.1 aa with aa|aa
     ·grind
     grind
    rw[List.pairwise_append,List.pairwise_cons]at l;obtain⟨_,⟨I,_⟩,L⟩:=l
    rcases List.mem_append.1 O with cl|cl
    ·exact L c cl _ mem_cons_self q ag rfl
    ·exact I c cl q rfl ag
 ·rcases aq with aq|aq
  ·exact(h.new q aq).imp_right λp=>⟨p.1,p.2.eb (h.aQ.below.block q (.inr aq))⟩
  ·subst aq;exact .inr ⟨λJ=>y.1 (.inl J),(h.aQ.ok _ A).cells rfl rfl⟩
theorem cj.bX(id:Nat)(g:aZ){cs:dP}{x:g.D}{c:Bool}(b:bh st.H id=some (.cells t cs))(e:dec g cs=some (c,x,[]))(aa:c=true):cj X n st ⟨w9 id g x st.L,o1 id g x st.H⟩:=λ_ _ _ _ _ _ ⟨ks,env,B,ai,H,a,ae⟩=>by
 obtain⟨env',B',d,H',h⟩:=ae.bX b e aa;exact⟨ks,env',B',d,H',a,h⟩
end
section
variable {X:bx} {M:Bool} {n:Nat} {st:aP} {Q:Exit->aP->Prop} {ops:List Oper} {E:bG} {aK:hU} {Qx:Array Bool} {fuel d i:Nat} {o:Oper}
theorem acr(z:Nat)(aF:da z st=some st')(h:jh X M n ops E fuel ⟨aK.listed,false,aK.pre&&!aK.all,false,aK.all⟩ st' Q):jh X M n ops E fuel aK st Q:=by
 intro R W aC m p cL F ks env B ai H a w j ae e;obtain⟨env',B',o,H',l,g,b,r⟩:=ae.da aF;refine h R W aC m p cL F ks env' B' o H' a w j l ⟨λh=>(by cases h),λan=>?_,λh=>(by cases h),λw hw=>e.oX w (b.trans ⟨hw.os,hw.tape,hw.output,hw.size,λk ab=>hw.block k (ab.imp id (g k))⟩)⟩;have i:aK.pre=true/\aK.all=false:=by
  grind
 obtain⟨d,g2,f,q⟩:=e.pre i.1;exact⟨λc aa=>⟨r c (d c aa).1 (by have:=(d c aa).2;rw[i.2]at this;exact this),(d c aa).2⟩,g2,λk ab=>g k (f k ab),q.trans ⟨b.os,b.tape,b.output,b.size,λk ab=>b.block k (ab.imp id (f k))⟩⟩
end
end
section
abbrev iu:=Bool->Nat->Option Nat
def sz(bP:iu):dY->Option dY
 |[]=>some []
 |.id i::r=>match bP true i,sz bP r with
  |some j,some l=>some (.id j::l)
  |_,_=>none
 |.eC g x::r=>match sz bP r with
  |some l=>some (.eC g x::l)
  |none=>none
def bs.db:bs->iu->bs
 |.ptr i o,bP=>match bP true i with
  |some j=>.ptr j o
  |none=>.dead
 |.eT i a k o,bP=>match bP false i with
  |some j=>.eT j a k o
  |none=>.dead
 |.ax i,bP=>match bP false i with
  |some j=>.ax j
  |none=>.dead
 |.fn f ids,bP=>match sz bP ids with
  |some l=>.fn f l
  |none=>.dead
 |.dv i,bP=>match bP true i with
  |some j=>.dv j
  |none=>.dead
 |.jD f i,bP=>match bP true i with
  |some j=>.jD f j
  |none=>.dead
 |.il i o,bP=>match bP false i with
  |some j=>.il j o
  |none=>.dead
 |.jV i,bP=>match bP false i with
  |some j=>.jV j
  |none=>.dead
 |.jE i s o,bP=>match bP false i with
  |some j=>.jE j s o
  |none=>.dead
 |.iC b i,bP=>match bP true i with
  |some j=>.iC b j
  |none=>.dead
 |c,_=>c
def ve(bP:iu):dP->dP
 |[]=>[]
 |c::r=>c.db bP::ve bP r
def bn.db:bn->iu->bn
 |.c x,bP=>.c (x.db bP)
 |.agg cs,bP=>.agg (ve bP cs)
 |.arr g l,_=>.arr g l
def xa(bP:iu):dT->dT
 |[]=>[]
 |c::r=>c.db bP::xa bP r
def b7.db:b7->iu->b7
 |.a x,bP=>.a (x.db bP)
 |.may g x,bP=>.may g (x.db bP)
 |.cE xs,bP=>.cE (xa bP xs)
def gg(bP:iu):cS->cS
 |[]=>[]
 |(k,v)::r=>(k,v.db bP)::gg bP r
def cz.db:cz->iu->cz
 |.cells t cs,bP=>.cells t (ve bP cs)
 |.it a f k ps,bP=>match bP true a with
  |some j=>.it j f k ps
  |none=>.k8
 |.hS a,bP=>match bP true a with
  |some j=>.hS j
  |none=>.k8
 |.cN e t g l c i d,bP=>match bP false d with
  |some j=>.cN e t g l c i j
  |none=>.lH
 |.bS t t' g l c (some (i,some d)),bP=>match bP false d with
  |some j=>.bS t t' g l c (some (i,some j))
  |none=>.bS t t' g l c (some (i,none))
 |b,_=>b
def cz.rF:cz->Bool
 |.row _ _ _ _=>false
 |.cN _ _ _ _ _ _ _=>false
 |.lH=>false
 |.gT _ _ _=>false
 |.bS _ _ _ _ _ _=>false
 |_=>true
def pV(bP:iu):bC->bC
 |[]=>[]
 |(k,b)::r=>match bP b.rF k with
  |some j=>(j,b.db bP)::pV bP r
  |none=>pV bP r
structure KH(bP:iu)(env env':Nat->Loc):Prop where
 blk:∀k j b,bP true k=some j->env k=.blk b->env' j=.blk b
 row:∀k j A c n,bP false k=some j->env k=.row A c n->env' j=.row A c n
section
variable {bP:iu} {env env':Nat->Loc} {B:Nat->Prop} {w:World} (he:KH bP env env')
include he
theorem fv.db:∀ {ids l:dY} {vs:bQ},sz bP ids=some l->fv env B w ids vs->fv env' B w l vs
 |[],l,vs,h,c=>by cases h;exact c
 |.id i::ids,l,vs,h,⟨v,r,e,⟨b,U,d⟩,ah⟩=>by
  simp only[sz]at h
  split at h
  ·rename_i j r hi a
   cases h;exact⟨v,_,e,⟨b,he.blk i j b hi U,d⟩,fv.db a ah⟩
  grind
 |.eC g x::ids,l,vs,h,⟨v,r,e,U,ah⟩=>by
  simp only[sz]at h
  split at h
  ·rename_i r a
   cases h;exact⟨v,_,e,U,fv.db a ah⟩
  grind
theorem dw.db:∀ {c:bs} {v:Value},dw env B w c v->dw env' B w (c.db bP) v
 |.val _,_,aa=>aa
 |.str _,_,aa=>aa
 |.dead,_,aa=>aa
 |.ptr i o,v,aa=>by
  simp only[bs.db]
  split
  ·rename_i j h
   obtain⟨b,e,a⟩:=aa;exact⟨b,he.blk i j b h e,a⟩
  ·trivial
 |.eT i d j o,v,aa=>by
  simp only[bs.db]
  split
  ·rename_i j h
   obtain⟨b,c,n,e,a⟩:=aa;exact⟨b,c,n,he.row i j _ _ _ h e,a⟩
  ·trivial
 |.iC b i,v,aa=>by
  simp only[bs.db]
  split
  ·rename_i j h
   obtain⟨k,e,a⟩:=aa;exact⟨k,λag=>he.blk i j k h (e ag),a⟩
  ·trivial
 |.jV i,v,aa=>by
  simp only[bs.db]
  split
  ·rename_i j h
   obtain⟨b,c,n,e,a⟩:=aa;exact⟨b,c,n,he.row i j _ _ _ h e,a⟩
  ·trivial
 |.jE i s o,v,aa=>by
  simp only[bs.db]
  split
  ·rename_i j h
   obtain⟨b,c,n,e,a⟩:=aa;exact⟨b,c,n,he.row i j _ _ _ h e,a⟩
  ·trivial
 |.il i o,v,aa=>by
  simp only[bs.db]
  split
  ·rename_i j h
   obtain⟨b,c,n,e,a⟩:=aa;exact⟨b,c,n,he.row i j _ _ _ h e,a⟩
  ·trivial
 |.fu _ _ _,_,aa=>aa
 |.par _ _,_,aa=>aa
 |.ax i,v,aa=>by
  simp only[bs.db]
  split
  ·rename_i j h
   obtain⟨A,c,n,e,a⟩:=aa;exact⟨A,c,n,he.row i j _ _ _ h e,a⟩
  ·trivial
 |.bz _ _ _,_,aa=>aa
 |.fn f ids,v,aa=>by
  simp only[bs.db]
  split
  ·rename_i l h
   obtain⟨vs,a,an⟩:=aa;exact⟨vs,a,fv.db he h an⟩
  ·trivial
 |.dv i,v,aa=>by
  simp only[bs.db]
  split
  ·rename_i j h
   obtain⟨b,e,a⟩:=aa;exact⟨b,he.blk i j b h e,a⟩
  ·trivial
 |.jD f i,v,aa=>by
  simp only[bs.db]
  split
  ·rename_i j h
   obtain⟨b,e,a⟩:=aa;exact⟨b,he.blk i j b h e,a⟩
  ·trivial
theorem cM.db:∀ {c:dP} {v:bQ},cM env B w c v->cM env' B w (ve bP c) v
 |[],_,aa=>aa
 |_::_,_,⟨v,r,e,J,U⟩=>⟨v,r,e,dw.db he J,cM.db U⟩
theorem dN.db:∀ {c:bn} {v:Value},dN env B w c v->dN env' B w (c.db bP) v
 |.c _,_,aa=>dw.db he aa
 |.agg _,_,⟨vs,e,J⟩=>⟨vs,e,cM.db he J⟩
 |.arr _ _,_,h=>h
theorem dx.db:∀ {c:dT} {v:bQ},dx env B w c v->dx env' B w (xa bP c) v
 |[],_,aa=>aa
 |_::_,_,⟨v,r,e,J,U⟩=>⟨v,r,e,dN.db he J,dx.db U⟩
theorem eI.db:∀ {c:b7} {v:Value},eI env B w c v->eI env' B w (c.db bP) v
 |.a _,_,aa=>dN.db he aa
 |.may _ _,_,aa=>⟨λa=>dN.db he (aa.1 a),aa.2⟩
 |.cE _,_,⟨vs,e,J⟩=>⟨vs,e,dx.db he J⟩
theorem eF.db{k:Nat}:∀ {b:cz} {c:bm},bP b.rF k=some j->eF env B w k b c->eF env' B w j (b.db bP) c
 |.cells _ _,_,h,⟨b,vs,e,aa,J⟩=>⟨b,vs,he.blk k j b h e,aa,cM.db he J⟩
 |.row _ _ _ _,_,h,⟨A,c,xs,e,aa,J⟩=>⟨A,c,xs,he.row k j _ _ _ h e,aa,J⟩
 |.k7 _ _,_,h,⟨b,e,aa⟩=>⟨b,he.blk k j b h e,aa⟩
 |.mp _ _ _ _,_,h,⟨b,E,q,e,aa⟩=>⟨b,E,q,he.blk k j b h e,aa⟩
 |.it u _ _ _,_,h,⟨b,m,e,y,aa⟩=>by
  simp only[cz.db]
  split
  ·rename_i f a
   exact⟨b,m,he.blk k j b h e,he.blk u f m a y,aa⟩
  ·exact⟨b,_,he.blk k j b h e,aa⟩
 |.hS u,_,h,⟨b,m,q,e,y,aa⟩=>by
  simp only[cz.db]
  split
  ·rename_i f a
   exact⟨b,m,q,he.blk k j b h e,he.blk u f m a y,aa⟩
  ·exact⟨b,_,he.blk k j b h e,aa⟩
 |.k8,_,h,⟨b,o,e,aa⟩=>⟨b,o,he.blk k j b h e,aa⟩
 |.cN G t g l cap i d,_,h,⟨A,c,ys,r,c',m,e,aa,J,hi,U,ah⟩=>by
  simp only[cz.db]
  split
  ·rename_i f a
   exact⟨A,c,ys,r,c',m,he.row k j _ _ _ h e,aa,J,hi,he.row d f _ _ _ a U,ah⟩
  ·exact⟨A,c,_,_,_,_,_,he.row k j _ _ _ h e,aa⟩
 |.lH,_,h,⟨A,c,n,t,s,m,xs,e,aa⟩=>⟨A,c,n,t,s,m,xs,he.row k j _ _ _ h e,aa⟩
 |.gT _ _ _,_,h,⟨A,c,e,J⟩=>⟨A,c,he.row k j _ _ _ h e,J⟩
 |.bS _ _ _ _ _ none,_,h,⟨A,q,ys,ys',I,e,aa,J,U,ah⟩=>⟨A,q,ys,ys',I,he.row k j _ _ _ h e,aa,J,U,ah⟩
 |.bS _ _ _ _ _ (some (i,none)),_,h,⟨A,q,ys,ys',I,e,aa,J,⟨U,v,p,_⟩,ah⟩=>⟨A,q,ys,ys',I,he.row k j _ _ _ h e,aa,J,⟨U,v,p,λ_ h=>by cases h⟩,ah⟩
 |.bS _ _ _ _ _ (some (i,some d)),_,h,⟨A,q,ys,ys',I,e,aa,J,⟨U,v,p,z⟩,ah⟩=>by
  simp only[cz.db]
  split
  ·rename_i f a
   obtain⟨r,c',m,C,D⟩:=z d rfl;exact⟨A,q,ys,ys',I,he.row k j _ _ _ h e,aa,J,⟨U,v,p,λF az=>by cases az;exact⟨r,c',m,he.row d f _ _ _ a C,D⟩⟩,ah⟩
  ·exact⟨A,q,ys,ys',I,he.row k j _ _ _ h e,aa,J,⟨U,v,p,λ_ h=>by cases h⟩,ah⟩
theorem bE.db:∀ {l:bC} {H:cW},bE env B w l H->∃H',H'.Sublist H/\bE env' B w (pV bP l) H'
 |[],_,d=>⟨[],by rw[show _=[] from d];exact List.Sublist.refl _,rfl⟩
 |(k,b)::l,_,⟨c,H',e,J,U⟩=>by
  obtain⟨H2,a,ah⟩:=bE.db U;subst e;unfold pV
  split
  ·rename_i j h
   exact⟨c::H2,a.cons_cons _,c,H2,rfl,eF.db he h J,ah⟩
  grind
omit he in
theorem xb:∀ {l:cS} {s:Nat} {v:b7},bh (gg bP l) s=some v->∃u,bh l s=some u/\v=u.db bP
 |[],_,_,h=>by cases h
 |(k,u)::l,s,v,h=>by
  unfold gg at h;rw[cO]at h ⊢
  split at h
  ·grind
  ·rename_i e
   rw[if_neg e];exact xb h
end
def km(i j:Nat):iu:=λ_ k=>match beq k i with
 |true=>some j
 |false=>match beq k j with
  |true=>none
  |false=>some k
theorem Ft:KH (km i j) env (lL env j (env i)):=by
 have key:∀b k k',km i j b k=some k'->lL env j (env i) k'=env k:=by
  grind [km,eq_of_beq_eq_true,fi,ki,beq_refl]
 exact⟨λk a b h e=>by rw[key _ _ _ h];exact e,λk a A c n h e=>by rw[key _ _ _ h];exact e⟩
end
section
def hv(n:Nat):iu:=λb k=>match b with
 |true=>match ble n k with
  |true=>some k
  |false=>none
 |false=>match ble h1 k with
  |true=>some k
  |false=>none
theorem RW{env':Nat->Loc}(h:∀id l,n<=id->env id=l->((∃b,l=.blk b)\/h1<=id)->env' id=l)(bc:n<=h1):KH (hv n) env env':=by
 refine⟨λk j b ab e=>?_,λk j A c m ab e=>?_⟩
 ·grind [hv,le_of_ble_eq_true]
 grind [hv,le_of_ble_eq_true,le_trans]
def tG:dY->Bool
 |[]=>true
 |.id _::_=>false
 |.eC _ _::r=>tG r
section
variable {env env':Nat->Loc} {B:Nat->Prop} {w:World}
theorem fv.KI:∀ {cs:dY} {vs:bQ},tG cs=true->fv env B w cs vs->fv env' B w cs vs
 |[],_,_,h=>h
 |.id _::_,_,h,_=>by cases h
 |.eC _ _::_,_,h,⟨v,r,e,J,U⟩=>⟨v,r,e,J,fv.KI (by simpa [tG] using h) U⟩
theorem fv.any:∀ {cs:dY} {vs:bQ},fv (λ_=>.no) B w cs vs->fv env B w cs vs
 |[],_,h=>h
 |.id _::_,_,⟨v,r,e,⟨b,J,_⟩,U⟩=>by cases J
 |.eC _ _::_,_,⟨v,r,e,J,U⟩=>⟨v,r,e,J,fv.any U⟩
theorem dw.any:∀ {c:bs} {v:Value},dw (λ_=>.no) B w c v->dw env B w c v
 |.val _,_,aa=>aa
 |.str _,_,aa=>aa
 |.dead,_,aa=>aa
 |.ptr _ _,_,⟨b,h,_⟩=>by cases h
 |.eT _ _ _ _,_,⟨_,_,_,h,_⟩=>by cases h
 |.fu _ _ _,_,aa=>aa
 |.par _ _,_,aa=>aa
 |.ax _,_,⟨_,_,_,h,_⟩=>by cases h
 |.bz _ _ _,_,aa=>aa
 |.fn _ _,_,⟨vs,J,U⟩=>⟨vs,J,fv.any U⟩
 |.dv _,_,⟨_,h,_⟩=>by cases h
 |.jD _ _,_,⟨_,h,_⟩=>by cases h
 |.il _ _,_,⟨_,_,_,h,_⟩=>by cases h
 |.jE _ _ _,_,⟨_,_,_,h,_⟩=>by cases h
 |.jV _,_,⟨_,_,_,h,_⟩=>by cases h
 |.iC true _,_,⟨_,h,_⟩=>by cases h rfl
 |.iC false _,_,⟨k,_,h⟩=>⟨k,λh=>(by cases h),h⟩
theorem cM.any:∀ {c:dP} {v:bQ},cM (λ_=>.no) B w c v->cM env B w c v
 |[],_,aa=>aa
 |_::_,_,⟨v,r,e,J,U⟩=>⟨v,r,e,J.any,U.any⟩
theorem dN.any:∀ {c:bn} {v:Value},dN (λ_=>.no) B w c v->dN env B w c v
 |.c _,_,aa=>dw.any aa
 |.agg _,_,⟨vs,e,J⟩=>⟨vs,e,J.any⟩
 |.arr _ _,_,h=>h
theorem dx.any:∀ {c:dT} {v:bQ},dx (λ_=>.no) B w c v->dx env B w c v
 |[],_,aa=>aa
 |_::_,_,⟨v,r,e,J,U⟩=>⟨v,r,e,J.any,U.any⟩
end
structure Has(n:Nat)(env:Nat->Loc)(B:Nat->Prop)(w:World)(L:cS)(tmps:Array Value):Prop where
 size:tmps.size=n
 has:∀s sv,bh L s=some sv->∃v,tmps[s]?=some v/\eI env B w sv v
def vf:bG->dT->cS->cS
 |p::ps,x::xs,L=>vf ps xs ((p,.a x)::L)
 |_,_,L=>L
def tH:List (Nat×Nat)->cS->cS
 |[],L=>L
 |(d,s)::r,L=>match bh L s with
  |some v=>tH r ((d,v)::L)
  |none=>tH r ((d,.a (.c .dead))::L)
def tI:List (Nat×Nat)->Array Value->Array Value
 |[],t=>t
 |(d,s)::r,t=>tI r (t.setIfInBounds d (t.getD s undef))
def nL(n:Nat):bG->Bool
 |[]=>true
 |p::r=>blt p n&&nL n r
section
variable {n:Nat} {env:Nat->Loc} {B:Nat->Prop} {w:World} {L:cS} {tmps:Array Value}
theorem Has.set(h:Has n env B w L tmps){d:Nat}(az:d<n){sv:b7}(a:eI env B w sv v):Has n env B w ((d,sv)::L) (tmps.setIfInBounds d v):=by
 refine⟨by simpa using h.size,λs u hu=>?_⟩;rw[cO]at hu
 split at hu
 ·rename_i e
  subst e;cases hu;exact⟨v,by rw[Array.getElem?_setIfInBounds_self_of_lt (by rw[h.size];exact az)],a⟩
 ·rename_i e
  obtain⟨b,J,U⟩:=h.has s u hu
  grind
theorem Has.par:∀ {ps:bG} {xs:dT} {vs:bQ} {L:cS} {tmps:Array Value},Has n env B w L tmps->nL n ps=true->dx env B w xs vs->Has n env B w (vf ps xs L) ((ps.zip vs).foldl (λt (p,v)=>t.setIfInBounds p v) tmps)
 |[],_,_,_,_,h,_,_=>by cases ‹dT›<;>exact h
 |_::_,[],_,_,_,h,_,ak=>by rw[show _=[] from ak];exact h
 |p::ps,x::xs,_,L,tmps,h,an,⟨v,r,e,J,U⟩=>by
  subst e;simp only[nL,and_eq_true]at an;exact Has.par (ps:=ps) (xs:=xs) (vs:=r) (L:=(p,.a x)::L) (tmps:=tmps.setIfInBounds p v) (h.set (dH an.1) (sv:=.a x) J) an.2 U
theorem Has.cZ:∀ {ms:List (Nat×Nat)} {L:cS} {tmps:Array Value},Has n env B w L tmps->nL n (ms.map (·.1))=true->Has n env B w (tH ms L) (tI ms tmps)
 |[],_,_,h,_=>h
 |(d,s)::r,L,tmps,h,an=>by
  simp only[List.map_cons,nL,and_eq_true]at an;unfold tH tI
  split
  ·rename_i v a
   obtain⟨u,J,U⟩:=h.has s v a;refine Has.cZ (h.set (dH an.1) ?_) an.2;rw[Array.getD_eq_getD_getElem?,J]
   grind
  ·exact Has.cZ (h.set (dH an.1) trivial) an.2
end
def zq(n:Nat):List Oper->Option (List (Nat×Nat))
 |[]=>some []
 |o::r=>match o.guard,o.dst,o.op,zq n r with
  |none,some d,.assign (.tmp s),some l=>some ((d,s)::l)
  |none,some d,.move (.tmp s),some l=>some ((d,s)::l)
  |_,_,_,_=>none
inductive mY(n:Nat):Code->List (Nat×Nat)->Prop where
 |region {id:Nat} {ops:List Oper} {ms:List (Nat×Nat)} (h:zq n ops=some ms):mY n (.region id ops.toArray false) ms
 |skip:mY n .skip []
 |seq {a b:Code} {m1 m2:List (Nat×Nat)} (J:mY n a m1) (U:mY n b m2):mY n (.seq a b) (m1++m2)
theorem RX:∀(a b:List (Nat×Nat)) (t:Array Value),tI (a++b) t=tI b (tI a t)
 |[],_,_=>rfl
 |(d,s)::a,b,t=>RX a b (t.setIfInBounds d (t.getD s undef))
theorem RY{P:Program}{l:Nat}{ops:Array Oper}{Q:Exit->Act->World->Prop}{w:World}:∀ {os:List Oper} {ms:List (Nat×Nat)} {a:Act},zq n os=some ms->Q .normal { a with tmps:=tI ms a.tmps } w->tn (some l) P ops Q os a w
 |[],ms,a,h,b=>by cases h;exact Jv b
 |o::os,ms,a,h,b=>by
  have key:∀d s,o.guard=none->o.dst=some d->(o.op=.assign (.tmp s)\/o.op=.move (.tmp s))->∀l',zq n os=some l'->ms=(d,s)::l'->tn (some l) P ops Q (o::os) a w:=by
   intro d s c az aG l' ao e;subst e;refine nx (.inl ⟨by simp[Region.wanted,c],.inl ⟨a.eval (.tmp s),w,?_,RY ao ?_⟩⟩)
   ·rcases aG with aG|aG<;>simp[execOp,aG]
   ·rw[az]
    exact b
  unfold zq at h
  split at h
  ·grind
  ·grind
  grind
theorem mY.ok{P:Program}{l:Nat}{c:Code}{ms:List (Nat×Nat)}{w:World}(h:mY n c ms):∀ {Q:Exit->Act->World->Prop} {a:Act},Q .normal { a with tmps:=tI ms a.tmps } w->ma (some l) P c Q a w:=by
 induction h with
 |region h=>exact λb=>JD (RY h b)
 |skip=>exact λb=>Qt b
 |seq J U e d=>exact λb=>aaF λK f=>e (f _ _ (d (by rw[RX]at b;exact b)))
end
section
def R1:Exit->Option Code
 |.ret=>some .ret
 |.exit id=>some (.exit id)
 |_=>none
def Fu:Exit->Bool
 |.normal=>true
 |.ret=>true
 |.exit _=>true
 |_=>false
section
variable {X:bx} {R:Nat->Prop} {W:World} {aC:fe} {n:Nat} {ks:bG} {env:Nat->Loc} {B:Nat->Prop} {ai:World} {H:cW} {st:aP} {a:Act} {w:World}
def om(n:Nat)(env:Nat->Loc):Nat->Loc->Prop:=λid l=>n<=id/\env id=l/\((∃b,l=.blk b)\/h1<=id)
theorem bO.R2(h:bO X R W aC n ks env B ai H st a w):bO X (λk=>R k\/B k) w ⟨B,om n env,aC.d⟩ n ks env B w H st a w:=by
 have d:gm B ai B w:=⟨λ_ h=>h,λk ab=>h.aQ.below.block k (.inr ab)⟩
 refine⟨h.size,h.defs,λs sv e=>?_,h.heap.up d,?_,λ_ h=>h,λ_ h=>.inl h,λ_ _ h=>h,cV.refl _ _,λi x ak=>(h.eg i x ak).up d⟩
 ·obtain⟨v,J,U⟩:=h.has s sv e
  exact⟨v,J,U.up d⟩
 ·exact⟨cV.refl _ _,λk ab=>h.aQ.base k (ab.elim (λh=>h) .inr),λc aa=>(h.aQ.ok c aa).base λb ag ab=>((h.aQ.ok c aa).lt ag).1 (ab.elim (λh=>h) .inr),h.aQ.apart⟩
theorem bO.acs{env':Nat->Loc}{B':Nat->Prop}{e:World}{H':cW}{aS:Act}{w':World}{f:bG}(h:bO X R W aC n ks env B ai H st a w)(d:bO X (λk=>R k\/B k) w ⟨B,om n env,aC.d⟩ n f env' B' e H' st' aS w'):bO X R W aC n f env' B' e H' st' aS w':=by
 refine⟨d.size,d.defs,d.has,d.heap,?_,λk ab=>d.sub k (h.sub k ab),λk ab=>?_,λid l an=>?_,?_,d.eg⟩
 ·exact⟨⟨d.aQ.below.os,d.aQ.below.tape,d.aQ.below.output,d.aQ.below.size,λk ab=>d.aQ.below.block k (ab.imp .inl id)⟩,λk ab=>d.aQ.base k (ab.imp .inl id),λc aa=>(d.aQ.ok c aa).base λb ag ab=>((d.aQ.ok c aa).lt ag).1 (ab.imp .inl id),d.aQ.apart⟩
 ·have i:∀q,B q->e.heap[q]?=ai.heap[q]?:=λq g=>(d.base.block q (.inr g)).trans (h.aQ.below.block q (.inr g))
  rcases d.new k ab with J|J
  ·exact(h.new k J).imp_right λU=>⟨U.1,U.2.eb (i k J)⟩
  grind
 ·obtain⟨J,U,ah⟩:=h.dB id l an
  exact⟨J,(d.dB id l ⟨J,U,ah⟩).2.1,ah⟩
 ·exact h.base.trans ⟨h.aQ.below.os.symm ▸ d.base.os,h.aQ.below.tape ▸ d.base.tape,h.aQ.below.output ▸ d.base.output,le_trans h.aQ.below.size d.base.size,λk ab=>(d.base.block k (.inl ab)).trans (h.aQ.below.block k (.inl ab))⟩
theorem bO.round(h:bO X R W aC n ks env B ai H st a w){dJ:cS}{t:Array Value}(cR:Has n env B w dJ t):bO X (ga w H) w ⟨B,om n env,[]⟩ n [] env B w H ⟨dJ,st.H⟩ { tmps:=t,defers:=[] } w:=by
 have e:gm B ai B w:=⟨λ_ h=>h,λk ab=>h.aQ.below.block k (.inr ab)⟩
 have d:bK (λk=>R k\/B k) ai H w:=h.aQ.fb (sublist_append_left _ _);refine⟨cR.size,rfl,cR.has,h.heap.up e,?_,λ_ h=>h,λ_ h=>.inl h,λ_ _ h=>h,cV.refl _ _,λi x ak=>(h.eg i x ak).up e⟩;have J:=d.rest;simp only[map_nil,append_nil];exact⟨cV.refl _ _,λk ab=>ab.elim (λh=>h.1) (λh=>d.base k (.inr h)),λc aa=>(J.ok c aa).base λb ag ab=>ab.elim (λh=>((J.ok c aa).lt ag).1 h) (λh=>((d.ok c aa).lt ag).1 (.inr h)),J.apart⟩
theorem bO.acu{env':Nat->Loc}{B':Nat->Prop}{g:World}{H':cW}{aS:Act}{w':World}(h:bO X R W aC n ks env B ai H st a w)(f:bO X (ga w H) w ⟨B,om n env,[]⟩ n [] env' B' g H' st' aS w'){L:cS}(cR:∀s sv,bh L s=some sv->∃v,a.tmps[s]?=some v/\eI env' B' g sv v):bO X R W aC n ks env' B' g H' ⟨L,st'.H⟩ a w':=by
 have o:bK (λk=>R k\/B k) ai H w:=h.aQ.fb (sublist_append_left _ _);have j:∀k,R k\/B k->ga w H k:=λk ab=>⟨o.base k ab,λc aa e=>((o.ok c aa).lt e).1 ab⟩
 have p:gm B ai B' g:=⟨f.sub,λk ab=>(f.base.block k (j k (.inr ab))).trans (h.aQ.below.block k (.inr ab))⟩
 have d:=f.aQ;simp only[map_nil,append_nil]at d;have aF:bK (ga w H) w H' w':=⟨f.base.trans ⟨d.below.os,d.below.tape,d.below.output,d.below.size,λk ab=>d.below.block k (.inl ab)⟩,λk ab=>d.base k (.inl ab),λc aa=>(d.ok c aa).base λb ag ab=>((d.ok c aa).lt ag).1 (.inl ab),d.apart⟩
 have m:=h.aQ.frame aF;have r:=List.pairwise_append.1 h.aQ.apart;refine⟨h.size,h.defs,cR,f.heap,⟨⟨d.below.os,d.below.tape,d.below.output,d.below.size,λk ab=>d.below.block k (ab.imp (λh=>j k (.inl h)) id)⟩,λk ab=>d.base k (ab.imp (λh=>j k (.inl h)) id),λc aa=>(m.ok c aa).base λb ag ab=>?_,m.apart⟩,λk ab=>f.sub k (h.sub k ab),λk ab=>?_,λid l an=>?_,?_,λi x ak=>(h.eg i x ak).up p⟩
 ·rcases ab with ab|ab
  ·exact((m.ok c aa).lt ag).1 (.inl ab)
  ·rcases List.mem_append.1 aa with eD|eD
   ·exact((d.ok c eD).lt ag).1 (.inr ab)
   ·rcases f.new b ab with J|J
    ·exact((m.ok c aa).lt ag).1 (.inr J)
    ·exact J.1 ⟨((h.aQ.ok c (mem_append_right _ eD)).lt ag).2,λc' q e=>r.2.2 c' q c eD b e ag⟩
 ·rcases f.new k ab with J|J
  ·exact(h.new k J).imp_right λU=>⟨U.1,U.2.eb (p.2 k J)⟩
  grind
 ·obtain⟨J,U,ah⟩:=h.dB id l an
  exact⟨J,(f.dB id l ⟨J,U,ah⟩).2.1,ah⟩
 ·exact h.base.trans ⟨f.base.os.trans h.aQ.below.os,f.base.tape.trans h.aQ.below.tape,f.base.output.trans h.aQ.below.output,le_trans h.aQ.below.size f.base.size,λk ab=>(f.base.block k (j k (.inl ab))).trans (h.aQ.below.block k (.inl ab))⟩
end
end
section
section
variable {X:bx} {R:Nat->Prop} {W:World} {aC:fe} {n:Nat} {ks:bG} {B:Nat->Prop} {ai:World} {r:Option Nat} {ops:List Oper} {Q:Exit->Act->World->Prop}
end
section
variable {X:bx} {B:Nat->Prop} {n:Nat} {L dJ:cS} {b9:World} {a:Act} {w:World} {Q:Exit->Act->World->Prop}
theorem R4{D:List Deferred}{M:List (Nat×Value)}(b:c5 n D M a){us:dX}(h:jA M us=some vs):us.toArray.map a.eval=vs.toArray:=by
 have:=b.jA h
 grind
end
end
section
def zr(id:Nat):Nat->dP->dP
 |0,.val (.slice none 0 0)::r=>.ax id::r
 |p+1,c::r=>c::zr id p r
 |_,cs=>cs
def kn(k p id:Nat):bC->bC
 |[]=>[]
 |(j,.cells t cs)::r=>match beq j k with
  |true=>(j,.cells t (zr id p cs))::r
  |false=>(j,.cells t cs)::kn k p id r
 |b::r=>b::kn k p id r
section
variable {env:Nat->Loc} {B:Nat->Prop} {w:World} {id:Nat} (he:env id=.row none 0 0)
include he
theorem cM.zr:∀ {p:Nat} {cs:dP} {vs:bQ},cM env B w cs vs->cM env B w (zr id p cs) vs:=by
 intro p
 induction p with
 |zero=>
  intro cs vs h;unfold Go.Proofs.YtijeenjclhajhaaGreatDoor.zr
  split
  ·obtain⟨v,r,e,J,U⟩:=h
   exact⟨v,r,e,⟨none,0,0,he,J⟩,U⟩
  ·omega
  grind
 |succ p a=>
  intro cs vs h;cases cs with
  |nil=>exact h
  |cons c r=>
   obtain⟨v,q,e,J,U⟩:=h;exact⟨v,q,e,J,a U⟩
theorem bE.kn{k p:Nat}:∀ {l:bC} {H:cW},bE env B w l H->bE env B w (kn k p id l) H
 |[],_,h=>h
 |(j,.cells t cs)::r,_,⟨c,H',e,J,U⟩=>by
  unfold Go.Proofs.YtijeenjclhajhaaGreatDoor.kn
  split
  ·obtain⟨b,vs,ah,d,a⟩:=J
   exact⟨c,H',e,⟨b,vs,ah,d,cM.zr he a⟩,U⟩
  ·exact⟨c,H',e,J,bE.kn U⟩
 |(j,.row _ _ _ _)::r,_,⟨c,H',e,J,U⟩=>⟨c,H',e,J,bE.kn U⟩
 |(j,.k7 _ _)::r,_,⟨c,H',e,J,U⟩=>⟨c,H',e,J,bE.kn U⟩
 |(j,.mp _ _ _ _)::r,_,⟨c,H',e,J,U⟩=>⟨c,H',e,J,bE.kn U⟩
 |(j,.it _ _ _ _)::r,_,⟨c,H',e,J,U⟩=>⟨c,H',e,J,bE.kn U⟩
 |(j,.hS _)::r,_,⟨c,H',e,J,U⟩=>⟨c,H',e,J,bE.kn U⟩
 |(j,.k8)::r,_,⟨c,H',e,J,U⟩=>⟨c,H',e,J,bE.kn U⟩
 |(j,.cN _ _ _ _ _ _ _)::r,_,⟨c,H',e,J,U⟩=>⟨c,H',e,J,bE.kn U⟩
 |(j,.lH)::r,_,⟨c,H',e,J,U⟩=>⟨c,H',e,J,bE.kn U⟩
 |(j,.gT _ _ _)::r,_,⟨c,H',e,J,U⟩=>⟨c,H',e,J,bE.kn U⟩
 |(j,.bS _ _ _ _ _ _)::r,_,⟨c,H',e,J,U⟩=>⟨c,H',e,J,bE.kn U⟩
end
theorem cj.rG(k p id:Nat)(t:TypeId)(g:aZ)(hid:blt id n=true):cj X n st ⟨fS id .dead st.L,(id,.row t g [] none)::kn k p id (en id .dead st.H)⟩:=λR W aC M a w ⟨ks,env,B,ai,H,c,h⟩=>by
 obtain⟨H2,J,U⟩:=h.heap.del (z:=.dead) (ki (env:=env) (id:=id) (l:=.row none 0 0)) (λ_ _=>trivial);refine⟨ks,lL env id (.row none 0 0),B,ai,.row none 0 t g.size 0 []::H2,c,h.size,h.defs,λq u hu=>?_,⟨_,H2,rfl,⟨none,0,[],fi,rfl,rfl,λ_ b=>by cases b⟩,bE.kn fi U⟩,(h.aQ.uQ t g.size).fb ((J.append_right _).cons_cons _),h.sub,h.new,wX h.dB (λq an=>by have J:=(h.dB _ _ an).1;have U:=dH hid;omega),h.base,h.eg⟩;obtain⟨i,j,rfl⟩:=rq hu;obtain⟨f,d,e⟩:=h.has q i j;exact⟨f,d,eI.sub (z:=.dead) ki (λ_ _=>trivial) e⟩
end
theorem AC.R5{sv:b7}{v0:Value}(j:∀env B w,eI env B w sv v0)(g:∀(env:Nat->Loc) (B:Nat->Prop) (ai:World) (vs:bQ) (W:World),zc X B W->dx env B W args vs->(∀k,B k->k<W.heap.size)->qx X.P f vs.toArray W (λv w'=>v=v0/\Below W.heap.size W w')):AC X f args [] (λs h=>s=sv/\h=[]):=by
 intro B ai env vs H W c bl d a;have e:H=[]:=d;subst e;have b:gm B ai B W:=⟨λ_ h=>h,a.below.block⟩
 refine(g env B ai vs W (λi x ak=>(c i x ak).up b) (bl.up b) a.base).mono ?_;rintro v w' ⟨rfl,ag⟩;refine⟨env,B,W,[],sv,[],⟨rfl,rfl⟩,λ_ h=>h,λ_ h=>.inl h,cV.refl _ _,j _ _ _,rfl,⟨⟨ag.os,ag.tape,ag.output,ag.size,λk ab=>ag.block k (ab.elim (λh=>h.1) (a.base k))⟩,λk ab=>Nat.lt_of_lt_of_le (ab.elim (λh=>h.1) (a.base k)) ag.size,(λ_ h=>by cases h),List.Pairwise.nil⟩,λ_ _ _ h=>h⟩
theorem R6(h:dN env B w (.c (.val (.slice none 0 0))) v):dN env B w (.c (.bz g [] (some 0))) v:=by
 have e:v=_:=h;subst e;exact⟨none,0,[],rfl,le_refl _,Nat.zero_le _,λ_ h=>by cases h;rfl,rfl,Reads.nil _ _ _,λ_ _ h=>absurd h (Nat.lt_irrefl 0)⟩
theorem R7:∀ {l:bR} {vs:bQ},Flat (bN B w (.int k)) l vs->vs=l.map λz=>Value.int k z
 |[],_,h=>h
 |x::l,_,⟨a,b,e,J,U⟩=>by rw[e,show a=_ from J,R7 U];rfl
theorem R8:∀ {l:List dQ} {vs:bQ},Flat (bN B w .str) l vs->vs=l.map fF
 |[],_,h=>h
 |x::l,_,⟨a,b,e,J,U⟩=>by rw[e,show a=_ from J,R8 U];rfl
theorem uT.acw{zs:bR}(h:uT B w i ⟨.int k,zs⟩){name:String}(bc:P.globalNamed name=some i):Lib.TabIs P w name k zs:=by
 obtain⟨⟨b,o,vs,e,ag,aF,aa⟩,cs,t,g,J,U⟩:=h;cases e;have a:=R7 aF;unfold Lib.TabIs World.var?;rw[bc];simp only[Option.bind_some,J,Option.some.injEq];have ao:cs.size=vs.length:=by rw[U,a];simp[aZ.size]
 rw[<- a]
 apply Array.ext (by simpa using ao)
 intro j f d;have c:j<vs.length:=by simpa using d
 have:=aa j vs[j] (getElem?_eq_getElem c)
 grind [World.cell?,Array.getElem?_eq_getElem]
def jL(d:TypeDesc)(s b:Nat)(z:Value)(g:Option aZ):cm:=⟨⟨d,s,b,z⟩,g⟩
def sA(k:IntKind)(b:Nat):cm:=jL (.int k) 1 b (.int k 0) (some (.int k))
def Fv(a r:Array TypeId)(v:Bool):cm:=jL (.func a r v) 1 8 .nilFunc none
def acx(t:TypeId):cm:=jL (.pointer t) 1 8 (.pointer none) none
def o2(t:TypeId)(g:Option aZ):cm:=jL (.slice t) 1 24 (.slice none 0 0) g
def fr(n:String)(t:TypeId)(o b:Nat):Field:=⟨n,t,o,false,"","",b⟩
def nM(f:Array Field)(s b:Nat)(g:aZ):cm:=jL (.struct f) s b (.agg g.eO.toArray) (some g)
theorem qP{d:TypeDesc}{b:Nat}{z:Value}(h:P.underlying t=some d)(U:(P.info? t).map (λx=>(x.size,x.bytes,x.zero))=some (s,b,some z)):cm.ok P t (jL d s b z none):=⟨⟨h,U⟩,λg a=>by cases a⟩
theorem fk{d:TypeDesc}{b:Nat}{z:Value}(h:P.underlying t=some d)(U:(P.info? t).map (λx=>(x.size,x.bytes,x.zero))=some (s,b,some z))(ah:g.size=s)(e:z.cells.toList=g.eO)(a:blt 0 s=true):cm.ok P t (jL d s b z (some g)):=⟨⟨h,U⟩,λg' c=>by cases c;exact⟨ah,e,ah ▸ dH a⟩⟩
def acy:cm:=sA .i64 8
def acz:cm:=jL (.bool) 1 1 (.bool false) (some (.bool))
def acA:cm:=sA .u8 1
def acB:cm:=jL (.string) 1 16 (.string { data:=#[] }) (some (.str))
def acC:cm:=o2 5 (some (.ax (.int .u8)))
def acD:cm:=nM #[fr "Width" 5 0 0,fr "Rounds" 22 1 8] 2 32 (.pair (.int .u8) (.ax (.int .u8)))
def acE:cm:=nM #[fr "Width" 3 0 0,fr "Rounds" 22 1 8] 2 32 (.pair (.int .i64) (.ax (.int .u8)))
def acF:cm:=o2 76 (some (.ax (.pair (.int .u8) (.pair (.int .u8) (.pair (.pair (.int .u8) (.int .i64)) (.pair (.int .u8) (.int .i64)))))))
def acG:cm:=sA .i64 8
def acH:cm:=o2 3 (some (.ax (.int .i64)))
def acI:cm:=o2 42 (some (.ax (.ax (.pair (.int .u8) (.int .i64)))))
def acJ:cm:=nM #[fr "Front" 35 0 0,fr "Back" 35 1 24] 2 48 (.pair (.ax (.ax (.pair (.int .u8) (.int .i64)))) (.ax (.ax (.pair (.int .u8) (.int .i64)))))
def acK:cm:=o2 52 (some (.ax (.pair (.bool) (.pair (.int .i64) (.pair (.int .i64) (.pair (.bool) (.ax (.pair (.pair (.int .u8) (.int .i64)) (.pair (.bool) (.int .u8))))))))))
def acL:cm:=o2 90 (some (.ax (.ax (.pair (.int .u8) (.pair (.bool) (.pair (.ax (.pair (.int .u8) (.int .i64))) (.ax (.pair (.pair (.int .u8) (.int .i64)) (.pair (.bool) (.int .u8))))))))))
def acM:cm:=o2 104 (some (.ax (.pair (.pair (.int .u8) (.int .i64)) (.pair (.pair (.int .u8) (.int .i64)) (.int .i64)))))
def acN:cm:=o2 58 (some (.ax (.pair (.int .u8) (.int .i64))))
def acO:cm:=nM #[fr "Yarns" 40 0 0,fr "Crossings" 41 1 24,fr "Held" 42 2 48,fr "Fallen" 42 3 72] 4 96 (.pair (.ax (.ax (.pair (.int .u8) (.pair (.bool) (.pair (.ax (.pair (.int .u8) (.int .i64))) (.ax (.pair (.pair (.int .u8) (.int .i64)) (.pair (.bool) (.int .u8))))))))) (.pair (.ax (.pair (.pair (.int .u8) (.int .i64)) (.pair (.pair (.int .u8) (.int .i64)) (.int .i64)))) (.pair (.ax (.pair (.int .u8) (.int .i64))) (.ax (.pair (.int .u8) (.int .i64))))))
def acP:cm:=nM #[fr "Rack" 3 0 0,fr "Beds" 37 1 8,fr "Yarns" 38 3 56,fr "Fabric" 44 4 80] 8 176 (.pair (.int .i64) (.pair (.pair (.ax (.ax (.pair (.int .u8) (.int .i64)))) (.ax (.ax (.pair (.int .u8) (.int .i64))))) (.pair (.ax (.pair (.bool) (.pair (.int .i64) (.pair (.int .i64) (.pair (.bool) (.ax (.pair (.pair (.int .u8) (.int .i64)) (.pair (.bool) (.int .u8))))))))) (.pair (.ax (.ax (.pair (.int .u8) (.pair (.bool) (.pair (.ax (.pair (.int .u8) (.int .i64))) (.ax (.pair (.pair (.int .u8) (.int .i64)) (.pair (.bool) (.int .u8))))))))) (.pair (.ax (.pair (.pair (.int .u8) (.int .i64)) (.pair (.pair (.int .u8) (.int .i64)) (.int .i64)))) (.pair (.ax (.pair (.int .u8) (.int .i64))) (.ax (.pair (.int .u8) (.int .i64)))))))))
def acQ:cm:=o2 97 (some (.ax (.pair (.pair (.int .u8) (.int .i64)) (.pair (.bool) (.int .u8)))))
def acR:cm:=nM #[fr "In" 4 0 0,fr "Place" 3 1 8,fr "Count" 3 2 16,fr "New" 4 3 24,fr "Pending" 50 4 32] 5 56 (.pair (.bool) (.pair (.int .i64) (.pair (.int .i64) (.pair (.bool) (.ax (.pair (.pair (.int .u8) (.int .i64)) (.pair (.bool) (.int .u8))))))))
def acS:cm:=sA .u8 1
def acT:cm:=nM #[fr "Bed" 54 0 0,fr "At" 3 1 8] 2 16 (.pair (.int .u8) (.int .i64))
def acU:cm:=nM #[fr "Yarn" 5 0 0,fr "N" 3 1 8] 2 16 (.pair (.int .u8) (.int .i64))
def acV:cm:=jL (.map 73 125) 1 8 (.map none) none
def acW:cm:=sA .u8 1
def acX:cm:=sA .u8 1
def acY:cm:=nM #[fr "Kind" 73 0 0,fr "Dir" 74 1 1,fr "Needle" 56 2 8,fr "Yarn" 5 4 24,fr "Rack" 3 5 32] 6 40 (.pair (.int .u8) (.pair (.int .u8) (.pair (.pair (.int .u8) (.int .i64)) (.pair (.int .u8) (.int .i64)))))
def acZ:cm:=acx 86
def ac0:cm:=jL (.struct #[{ name := "yarns",type := 38,offset := 0,embedded := false,tag := "",pkgPath := "gansey/tubes",byteOffset := 0 },{ name := "table",type := 40,offset := 1,embedded := false,tag := "",pkgPath := "gansey/tubes",byteOffset := 24 },{ name := "front",type := 35,offset := 2,embedded := false,tag := "",pkgPath := "gansey/tubes",byteOffset := 48 },{ name := "back",type := 35,offset := 3,embedded := false,tag := "",pkgPath := "gansey/tubes",byteOffset := 72 }]) 4 96 (.agg #[.slice none 0 0,.slice none 0 0,.slice none 0 0,.slice none 0 0]) (some (.pair (.ax (.pair (.bool) (.pair (.int .i64) (.pair (.int .i64) (.pair (.bool) (.ax (.pair (.pair (.int .u8) (.int .i64)) (.pair (.bool) (.int .u8))))))))) (.pair (.ax (.ax (.pair (.int .u8) (.pair (.bool) (.pair (.ax (.pair (.int .u8) (.int .i64))) (.ax (.pair (.pair (.int .u8) (.int .i64)) (.pair (.bool) (.int .u8))))))))) (.pair (.ax (.ax (.pair (.int .u8) (.int .i64)))) (.ax (.ax (.pair (.int .u8) (.int .i64))))))))
def ac1:cm:=o2 93 (some (.ax (.pair (.int .u8) (.pair (.bool) (.pair (.ax (.pair (.int .u8) (.int .i64))) (.ax (.pair (.pair (.int .u8) (.int .i64)) (.pair (.bool) (.int .u8)))))))))
def ac2:cm:=nM #[fr "Bed" 54 0 0,fr "New" 4 1 1,fr "Through" 42 2 8,fr "Past" 50 3 32] 4 56 (.pair (.int .u8) (.pair (.bool) (.pair (.ax (.pair (.int .u8) (.int .i64))) (.ax (.pair (.pair (.int .u8) (.int .i64)) (.pair (.bool) (.int .u8)))))))
def ac3:cm:=nM #[fr "Id" 58 0 0,fr "Front" 4 2 16,fr "Dir" 74 3 17] 4 24 (.pair (.pair (.int .u8) (.int .i64)) (.pair (.bool) (.int .u8)))
def ac4:cm:=Fv #[93,93] #[4] false
def ac5:cm:=nM #[fr "A" 58 0 0,fr "B" 58 2 16,fr "N" 3 4 32] 5 40 (.pair (.pair (.int .u8) (.int .i64)) (.pair (.pair (.int .u8) (.int .i64)) (.int .i64)))
def ac6:cm:=jL (.map 5 4) 1 8 (.map none) none
def ac7:cm:=jL (.map 124 3) 1 8 (.map none) none
def ac8:cm:=jL (.struct #[{ name := "rack",type := 3,offset := 0,embedded := false,tag := "",pkgPath := "gansey/machines",byteOffset := 0 },{ name := "beds",type := 37,offset := 1,embedded := false,tag := "",pkgPath := "gansey/machines",byteOffset := 8 },{ name := "yarns",type := 38,offset := 3,embedded := false,tag := "",pkgPath := "gansey/machines",byteOffset := 56 },{ name := "table",type := 40,offset := 4,embedded := false,tag := "",pkgPath := "gansey/machines",byteOffset := 80 },{ name := "cross",type := 121,offset := 5,embedded := false,tag := "",pkgPath := "gansey/machines",byteOffset := 104 },{ name := "fallen",type := 42,offset := 6,embedded := false,tag := "",pkgPath := "gansey/machines",byteOffset := 112 }]) 7 136 (.agg #[.int .i64 0,.slice none 0 0,.slice none 0 0,.slice none 0 0,.slice none 0 0,.map none,.slice none 0 0]) none
def ac9:cm:=jL (.array 2 58) 4 32 (.agg #[.int .u8 0,.int .i64 0,.int .u8 0,.int .i64 0]) (some (.pair (.pair (.int .u8) (.int .i64)) (.pair (.int .u8) (.int .i64))))
def ada:cm:=Fv #[69,76] #[29] false
def adb:cm:=nM #[fr "Bed" 54 0 0,fr "Loops" 42 1 8] 2 32 (.pair (.int .u8) (.ax (.pair (.int .u8) (.int .i64))))
def ade:cm:=o2 139 (some (.ax (.pair (.int .u8) (.ax (.pair (.int .u8) (.int .i64))))))
def adf:cm:=Fv #[56,42] #[4] false
def adg:cm:=sA .u64 8
def adh:cm:=jL (.map 58 4) 1 8 (.map none) none
def adi:cm:=o2 164 (some (.ax (.pair (.pair (.int .u8) (.int .i64)) (.pair (.pair (.int .u8) (.int .i64)) (.int .i64)))))
def adj:cm:=nM #[fr "Id" 58 0 0,fr "Needle" 56 2 16,fr "Spot" 3 4 32] 5 40 (.pair (.pair (.int .u8) (.int .i64)) (.pair (.pair (.int .u8) (.int .i64)) (.int .i64)))
def adk:cm:=jL (.array 9 9) 9 144 (.agg #[.string { data:=#[] },.string { data:=#[] },.string { data:=#[] },.string { data:=#[] },.string { data:=#[] },.string { data:=#[] },.string { data:=#[] },.string { data:=#[] },.string { data:=#[] }]) (some (.pair (.str) (.pair (.str) (.pair (.str) (.pair (.str) (.pair (.str) (.pair (.str) (.pair (.str) (.pair (.str) (.str))))))))))
def adl:cm:=o2 9 (some (.ax (.str)))
def adm:cm:=jL (.array 2 9) 2 32 (.agg #[.string { data:=#[] },.string { data:=#[] }]) (some (.pair (.str) (.str)))
def adn:cm:=nM #[fr "N" 3 0 0,fr "New" 4 1 8,fr "Past" 50 2 16] 3 40 (.pair (.int .i64) (.pair (.bool) (.ax (.pair (.pair (.int .u8) (.int .i64)) (.pair (.bool) (.int .u8))))))
def ado:cm:=jL (.struct #[{ name := "ops",type := 28,offset := 0,embedded := false,tag := "",pkgPath := "gansey/shifts",byteOffset := 0 },{ name := "rack",type := 3,offset := 1,embedded := false,tag := "",pkgPath := "gansey/shifts",byteOffset := 24 }]) 2 32 (.agg #[.slice none 0 0,.int .i64 0]) (some (.pair (.ax (.pair (.int .u8) (.pair (.int .u8) (.pair (.pair (.int .u8) (.int .i64)) (.pair (.int .u8) (.int .i64)))))) (.int .i64)))
def adp:cm:=Fv #[3] #[3] false
def adq:cm:=sA .i64 8
def adr:cm:=sA .u32 4
def ads:cm:=sA .u64 8
def adt:cm:=jL (.array 2 42) 2 48 (.agg #[.slice none 0 0,.slice none 0 0]) (some (.pair (.ax (.pair (.int .u8) (.int .i64))) (.ax (.pair (.int .u8) (.int .i64)))))
def adu:cm:=jL (.map 58 3) 1 8 (.map none) none
def adv:cm:=o2 238 (some (.ax (.pair (.pair (.int .u8) (.int .i64)) (.pair (.pair (.int .u8) (.int .i64)) (.int .i64)))))
def adw:cm:=nM #[fr "A" 58 0 0,fr "B" 58 2 16,fr "Sign" 3 4 32] 5 40 (.pair (.pair (.int .u8) (.int .i64)) (.pair (.pair (.int .u8) (.int .i64)) (.int .i64)))
def adx:cm:=jL (.struct #[{ name := "dir",type := 4,offset := 0,embedded := false,tag := "",pkgPath := "gansey/operations",byteOffset := 0 },{ name := "needle",type := 4,offset := 1,embedded := false,tag := "",pkgPath := "gansey/operations",byteOffset := 1 },{ name := "yarn",type := 4,offset := 2,embedded := false,tag := "",pkgPath := "gansey/operations",byteOffset := 2 },{ name := "rack",type := 4,offset := 3,embedded := false,tag := "",pkgPath := "gansey/operations",byteOffset := 3 }]) 4 4 (.agg #[.bool false,.bool false,.bool false,.bool false]) (some (.pair (.bool) (.pair (.bool) (.pair (.bool) (.bool)))))
def ady:cm:=jL (.map 73 244) 1 8 (.map none) none
def adz:cm:=jL (.array 2 3) 2 16 (.agg #[.int .i64 0,.int .i64 0]) (some (.pair (.int .i64) (.int .i64)))
def a1:cd:=(.node (.node (.node (.node (.node (.node .leaf 3 acy .leaf) 4 acz (.node .leaf 5 acA .leaf)) 9 acB (.node (.node .leaf 22 acC .leaf) 24 acD (.node .leaf 26 acE .leaf))) 28 acF (.node (.node (.node .leaf 29 acG .leaf) 32 acH (.node .leaf 35 acI .leaf)) 37 acJ (.node (.node .leaf 38 acK .leaf) 40 acL (.node .leaf 41 acM .leaf)))) 42 acN (.node (.node (.node (.node .leaf 44 acO .leaf) 46 acP (.node .leaf 50 acQ .leaf)) 52 acR (.node (.node .leaf 54 acS .leaf) 56 acT (.node .leaf 58 acU .leaf))) 71 acV (.node (.node (.node .leaf 73 acW .leaf) 74 acX (.node .leaf 76 acY .leaf)) 84 acZ (.node (.node .leaf 86 ac0 .leaf) 90 ac1 (.node .leaf 93 ac2 .leaf))))) 97 ac3 (.node (.node (.node (.node (.node .leaf 98 ac4 .leaf) 104 ac5 (.node .leaf 108 ac6 .leaf)) 121 ac7 (.node (.node .leaf 123 ac8 .leaf) 124 ac9 (.node .leaf 125 ada .leaf))) 139 adb (.node (.node (.node .leaf 140 ade .leaf) 144 adf (.node .leaf 153 adg .leaf)) 155 adh (.node (.node .leaf 160 adi .leaf) 164 adj (.node .leaf 185 adk .leaf)))) 186 adl (.node (.node (.node (.node .leaf 187 adm .leaf) 195 adn (.node .leaf 201 ado .leaf)) 203 adp (.node (.node .leaf 209 adq .leaf) 218 adr (.node .leaf 220 ads .leaf))) 224 adt (.node (.node (.node .leaf 225 adu .leaf) 234 adv (.node .leaf 238 adw .leaf)) 244 adx (.node (.node .leaf 246 ady .leaf) 283 adz .leaf)))))
theorem ba:a1.ok prog:=⟨⟨⟨⟨⟨⟨trivial,fk underlying3 (by kernel_rfl) rfl rfl rfl,trivial⟩,fk underlying4 (by kernel_rfl) rfl rfl rfl,⟨trivial,fk underlying5 (by kernel_rfl) rfl rfl rfl,trivial⟩⟩,fk underlying9 (by kernel_rfl) rfl rfl rfl,⟨⟨trivial,fk underlying22 (by kernel_rfl) rfl rfl rfl,trivial⟩,fk underlying24 (by kernel_rfl) rfl rfl rfl,⟨trivial,fk underlying26 (by kernel_rfl) rfl rfl rfl,trivial⟩⟩⟩,fk underlying28 (by kernel_rfl) rfl rfl rfl,⟨⟨⟨trivial,fk underlying29 (by kernel_rfl) rfl rfl rfl,trivial⟩,fk underlying32 (by kernel_rfl) rfl rfl rfl,⟨trivial,fk underlying35 (by kernel_rfl) rfl rfl rfl,trivial⟩⟩,fk underlying37 (by kernel_rfl) rfl rfl rfl,⟨⟨trivial,fk underlying38 (by kernel_rfl) rfl rfl rfl,trivial⟩,fk underlying40 (by kernel_rfl) rfl rfl rfl,⟨trivial,fk underlying41 (by kernel_rfl) rfl rfl rfl,trivial⟩⟩⟩⟩,fk underlying42 (by kernel_rfl) rfl rfl rfl,⟨⟨⟨⟨trivial,fk underlying44 (by kernel_rfl) rfl rfl rfl,trivial⟩,fk underlying46 (by kernel_rfl) rfl rfl rfl,⟨trivial,fk underlying50 (by kernel_rfl) rfl rfl rfl,trivial⟩⟩,fk underlying52 (by kernel_rfl) rfl rfl rfl,⟨⟨trivial,fk underlying54 (by kernel_rfl) rfl rfl rfl,trivial⟩,fk underlying56 (by kernel_rfl) rfl rfl rfl,⟨trivial,fk underlying58 (by kernel_rfl) rfl rfl rfl,trivial⟩⟩⟩,qP underlying71 (by kernel_rfl),⟨⟨⟨trivial,fk underlying73 (by kernel_rfl) rfl rfl rfl,trivial⟩,fk underlying74 (by kernel_rfl) rfl rfl rfl,⟨trivial,fk underlying76 (by kernel_rfl) rfl rfl rfl,trivial⟩⟩,qP underlying84 (by kernel_rfl),⟨⟨trivial,fk underlying86 (by kernel_rfl) rfl rfl rfl,trivial⟩,fk underlying90 (by kernel_rfl) rfl rfl rfl,⟨trivial,fk underlying93 (by kernel_rfl) rfl rfl rfl,trivial⟩⟩⟩⟩⟩,fk underlying97 (by kernel_rfl) rfl rfl rfl,⟨⟨⟨⟨⟨trivial,qP underlying98 (by kernel_rfl),trivial⟩,fk underlying104 (by kernel_rfl) rfl rfl rfl,⟨trivial,qP underlying108 (by kernel_rfl),trivial⟩⟩,qP underlying121 (by kernel_rfl),⟨⟨trivial,qP underlying123 (by kernel_rfl),trivial⟩,fk underlying124 (by kernel_rfl) rfl rfl rfl,⟨trivial,qP underlying125 (by kernel_rfl),trivial⟩⟩⟩,fk underlying139 (by kernel_rfl) rfl rfl rfl,⟨⟨⟨trivial,fk underlying140 (by kernel_rfl) rfl rfl rfl,trivial⟩,qP underlying144 (by kernel_rfl),⟨trivial,fk underlying153 (by kernel_rfl) rfl rfl rfl,trivial⟩⟩,qP underlying155 (by kernel_rfl),⟨⟨trivial,fk underlying160 (by kernel_rfl) rfl rfl rfl,trivial⟩,fk underlying164 (by kernel_rfl) rfl rfl rfl,⟨trivial,fk underlying185 (by kernel_rfl) rfl rfl rfl,trivial⟩⟩⟩⟩,fk underlying186 (by kernel_rfl) rfl rfl rfl,⟨⟨⟨⟨trivial,fk underlying187 (by kernel_rfl) rfl rfl rfl,trivial⟩,fk underlying195 (by kernel_rfl) rfl rfl rfl,⟨trivial,fk underlying201 (by kernel_rfl) rfl rfl rfl,trivial⟩⟩,qP underlying203 (by kernel_rfl),⟨⟨trivial,fk underlying209 (by kernel_rfl) rfl rfl rfl,trivial⟩,fk underlying218 (by kernel_rfl) rfl rfl rfl,⟨trivial,fk underlying220 (by kernel_rfl) rfl rfl rfl,trivial⟩⟩⟩,fk underlying224 (by kernel_rfl) rfl rfl rfl,⟨⟨⟨trivial,qP underlying225 (by kernel_rfl),trivial⟩,fk underlying234 (by kernel_rfl) rfl rfl rfl,⟨trivial,fk underlying238 (by kernel_rfl) rfl rfl rfl,trivial⟩⟩,fk underlying244 (by kernel_rfl) rfl rfl rfl,⟨⟨trivial,qP underlying246 (by kernel_rfl),trivial⟩,fk underlying283 (by kernel_rfl) rfl rfl rfl,trivial⟩⟩⟩⟩⟩
def o3:List dQ:=[[],[105,110],[111,117,116],[114,97,99,107],[107,110,105,116],[116,117,99,107],[109,105,115,115],[120,102,101,114],[100,114,111,112]]
def vg:List dQ:=[[108,101,102,116],[114,105,103,104,116]]
def lf:bR:=[-1,1]
def adA:Nat->Option EH
 |0=>some ⟨.str,o3⟩
 |1=>some ⟨.str,vg⟩
 |2=>some ⟨.int .i64,lf⟩
 |3=>some ⟨.int .u64,Lib.pow10Tab⟩
 |_=>none
noncomputable def bD:bx:=⟨prog,a1,adA⟩
section
open Go.ChangeShapes Go.WideShapes Go.ChangeAt Go.WideElems Go.RowKit
section
variable {H:Type} {enc:TypeId×Value->H} {P:Program} {W:World}
def zt(enc:TypeId×Value->H)(P:Program)(W:World)(t:TypeId)(g:aZ)(R:g.D->Prop):Prop:=
 ∀k cs x,DataW.trod enc P W 0 (λ_=>true) true k t cs=some x->∃y:g.D,R y/\bN (λb=>b<W.heap.size) W g y cs
theorem adB(bj:P.underlying t=some (.int k)):zt enc P W t (.int k) (λ(y:Int)=>k.min<=y/\y<=k.max):=λn cs x h=>by
 obtain⟨z,rfl,_,hw⟩:=DataW.trod_int bj h;exact⟨z,by simpa [Lit.wf] using hw,rfl⟩
theorem R9{R:g.D->Prop}:∀l:List { p:g.D×bQ // R p.1/\bN (λb=>b<W.heap.size) W g p.1 p.2 },Flat (bN (λb=>b<W.heap.size) W g) (l.map (·.1.1)) (l.flatMap (·.1.2))
 |[]=>rfl
 |x::l=>⟨x.1.2,l.flatMap (·.1.2),rfl,x.2.2,R9 l⟩
theorem adC{b o:Nat}(h:W.cell? ⟨b,o,none⟩=some v):b<W.heap.size:=by
 by_cases ag:b<W.heap.size
 ·exact ag
 ·simp[World.cell?,Array.getElem?_eq_none (by omega:W.heap.size<=b)]at h
theorem Sa{base:Nat}{sp:Nat->Bool}{held:Bool}{fuel:Nat}{cs:bQ}{zs:List dQ}{p:List MemPlace}(bj:P.underlying t=some (.array n e))(he:P.underlying e=some .string)(d:P.cellsOf e=1)(k:P.cellsOf t=n)(h:DataW.trod enc P W base sp held fuel t cs=some (.agg (zs.map λz=>.lit (.string z)),p)):cs=zs.map fF:=by
 obtain⟨xs,m,_,ak,l,o,a⟩:=DataW.trod_array bj h;have b:xs.map (·.1)=zs.map λz=>(DataW.lit (.string z):DataW H):=by
  have:=congrArg Prod.fst ak
  simpa using this.symm
 have r:zs.length=n:=by
  have:=congrArg List.length b
  simp at this
  omega
 rw[d]at a
 apply ext_getElem?
 intro i
 by_cases hi:i<n
 ·have J:=a i hi
  rw[getElem?_eq_getElem (by omega:i<xs.length)]at J;obtain⟨s,f,c,_⟩:=DataW.trod_string he J;have U:cs[i]?=some (.string s):=by
   have:=congrArg (·[0]?) f
   simpa [List.getElem?_take,List.getElem?_drop] using this
  have ah:(xs.map (·.1))[i]?=some (DataW.lit (.string s.data.toList):DataW H):=by
   rw[getElem?_map,getElem?_eq_getElem (by omega),c]
   rfl
  rw[b]at ah;simp only[getElem?_map,Option.map_eq_some_iff,DataW.lit.injEq,Lit.string.injEq]at ah;obtain⟨q,j,g⟩:=ah;rw[U,getElem?_map,j,Option.map_some,g]
  rfl
 ·rw[getElem?_eq_none (by omega),getElem?_eq_none (by simp;omega)]
theorem KL:∀l:bR,Flat (bN B W (.int k)) l (l.map λz=>Value.int k z)
 |[]=>rfl
 |x::l=>⟨[.int k x],_,rfl,rfl,KL l⟩
theorem KM:∀l:List dQ,Flat (bN B W .str) l (l.map fF)
 |[]=>rfl
 |x::l=>⟨[fF x],_,rfl,rfl,KM l⟩
theorem Fx{n:String}{l:List g.D}{cs:Array Value}(d:P.globalNamed n=some i)(a:W.var? P n=some cs)(aF:Flat (bN (λb=>b<W.heap.size) W g) l cs.toList):uT (λb=>b<W.heap.size) W i ⟨g,l⟩:=by
 unfold World.var? at a;rw[d,Option.bind_some]at a
 split at a
 ·rename_i k e h c
  cases a;have f:=(Array.getElem?_eq_some_iff.1 c).1;refine⟨⟨i,0,cs.toList,rfl,f,aF,λj u hu=>?_⟩,cs,e,h,c,?_⟩
  ·simp only[zero_add,World.cell?,c]
   simpa using hu
  ·have:=bN.qz aF
   simpa using this
 ·cases a
theorem Fy{n:String}{g:Nat}(h:P.globalNamed n=some g)(ab:P.globalNamed n=some i):g=i:=Option.some.inj (h.symm.trans ab)
theorem Fz{a:Option TypeId}{u:TypeId}(h:a=some t)(ab:a=some u):t=u:=Option.some.inj (h.symm.trans ab)
end
theorem AC.law(h:AC X f args [] (λsv h=>sv=.c (.val (.bool true))/\h=[]))(e:zc X (λb=>b<W.heap.size) W)(bl:dx (λ_=>.no) (λb=>b<W.heap.size) W args vs):qx X.P f vs.toArray W (λv w'=>v=.bool true/\Below W.heap.size W w'):=by
 refine(h (λb=>b<W.heap.size) W (λ_=>.no) vs [] W e bl rfl (bK.start W)).mono ?_;rintro v w' ⟨env',B',l,H',sv,j,⟨rfl,rfl⟩,J,U,ah,g,i,a,m⟩;have d:∀k,k<W.heap.size->ga W [] k:=λk ab=>⟨ab,λc aa=>by cases aa⟩
 exact⟨g,a.below.os.trans ah.os,a.below.tape.trans ah.tape,a.below.output.trans ah.output,le_trans ah.size a.below.size,λk ab=>(a.below.block k (.inl (d k ab))).trans (ah.block k (d k ab))⟩
end
section
def ar{α:Type}(c:Bool)(k:Option α):Option α:=match c with
 |true=>k
 |false=>none
theorem e7{c:Bool}{k:Option α}{r:α}(h:ar c k=some r):c=true/\k=some r:=by
 cases c with
 |true=>exact⟨rfl,h⟩
 |false=>cases h
theorem Sb{c:Bool}{k:Option α}(h:c=true):ar c k=k:=by rw[h];rfl
theorem cx{β:Type}{x:Option α}{f:α->Option β}{r:β}(h:x.bind f=some r):∃a,x=some a/\f a=some r:=by
 cases x with
 |none=>cases h
 |some a=>exact⟨a,rfl,h⟩
theorem mZ{b:Bool}{x y z:α}(ag:b=true)(h:cond b x y=z):x=z:=by rw[ag]at h;exact h
theorem o4{b:Bool}{x y z:α}(ag:b=false)(h:cond b x y=z):y=z:=by rw[ag]at h;exact h
abbrev sm{α β c:Type}(x:α⊕β)(f:α->Option c)(g:β->Option c):Option c:=match x with
 |.inl a=>f a
 |.inr b=>g b
def j4:Nat:=1000000000
def BT(id:Nat):bC->bC
 |[]=>[]
 |(j,.row t g l c)::r=>match beq j id with
  |true=>(j,.row t g l none)::r
  |false=>(j,.row t g l c)::BT id r
 |b::r=>b::BT id r
section
variable {X:bx} {M:Bool} {n:Nat} {r:Option Nat} {c:Code} {st:aP} {Q:Exit->aP->Prop}
def adE(X:bx)(n:Nat){O:Type}(S:O->aP)(P:O->Prop)(Q:Exit->aP->Prop):Exit->aP->Prop
 |.normal,s=>∃o,P o/\cj X n s (S o)
 |e,s=>Q e s
theorem tJ{b:Type}(S:b->aP)(P:b->Prop)(J:hf X M n r c st (adE X n S P Q))(U:∀o,P o->Q .normal (S o)):hf X M n r c st Q:=λR W aC a w ae=>wpIn_mono (J R W aC a w ae) λe a w ⟨s,d,f⟩=>by
 cases e with
 |normal=>
  obtain⟨o,an,hw⟩:=d;exact⟨S o,U o an,hw _ _ _ _ _ _ f⟩
 |_=>exact⟨s,d,f⟩
theorem cj.conv{sv:b7}(b:b7)(c:bh st.L s=some sv)(f:∀env B w v,eI env B w sv v->eI env B w b v):cj X n st ⟨(s,b)::st.L,st.H⟩:=λR W aC M a w ⟨ks,env,B,ai,H,d,h⟩=>
 ⟨ks,env,B,ai,H,d,h.size,h.defs,λq u hu=>by
  rw[cO]at hu
  split at hu
  ·rename_i e
   subst e;cases hu;obtain⟨v,J,U⟩:=h.has _ _ c
   grind
  ·exact h.has q u hu,h.heap,h.aQ,h.sub,h.new,h.dB,h.base,h.eg⟩
theorem cj.zu(s:Nat)(g:aZ)(a:bh st.L s=some (.c (.val (.slice none 0 0)))):cj X n st ⟨(s,.c (.bz g [] (some 0)))::st.L,st.H⟩:=cj.conv _ a λenv B w _ h=>R6 (env:=env) (B:=B) (w:=w) h
theorem bE.nN(id:Nat):∀ {l:bC} {H:cW},bE env B w l H->bE env B w (BT id l) H
 |[],_,h=>h
 |(j,.row t g l c)::r,_,⟨k,H',e,J,U⟩=>by
  unfold BT
  split
  ·obtain⟨A,q,xs,ah,b,a,d⟩:=J
   exact⟨k,H',e,⟨A,q,xs,ah,b,a,λ_ h=>by cases h⟩,U⟩
  ·exact⟨k,H',e,J,bE.nN id U⟩
 |(j,.cells _ _)::r,_,⟨k,H',e,J,U⟩=>⟨k,H',e,J,bE.nN id U⟩
 |(j,.k7 _ _)::r,_,⟨k,H',e,J,U⟩=>⟨k,H',e,J,bE.nN id U⟩
 |(j,.mp _ _ _ _)::r,_,⟨k,H',e,J,U⟩=>⟨k,H',e,J,bE.nN id U⟩
 |(j,.it _ _ _ _)::r,_,⟨k,H',e,J,U⟩=>⟨k,H',e,J,bE.nN id U⟩
 |(j,.hS _)::r,_,⟨k,H',e,J,U⟩=>⟨k,H',e,J,bE.nN id U⟩
 |(j,.k8)::r,_,⟨k,H',e,J,U⟩=>⟨k,H',e,J,bE.nN id U⟩
 |(j,.cN _ _ _ _ _ _ _)::r,_,⟨k,H',e,J,U⟩=>⟨k,H',e,J,bE.nN id U⟩
 |(j,.lH)::r,_,⟨k,H',e,J,U⟩=>⟨k,H',e,J,bE.nN id U⟩
 |(j,.gT _ _ _)::r,_,⟨k,H',e,J,U⟩=>⟨k,H',e,J,bE.nN id U⟩
 |(j,.bS _ _ _ _ _ _)::r,_,⟨k,H',e,J,U⟩=>⟨k,H',e,J,bE.nN id U⟩
theorem cj.adF(id:Nat)(h:st'=⟨st.L,BT id st.H⟩):cj X n st st':=λR W aC M a w ⟨ks,env,B,ai,H,b,ae⟩=>by
 subst h;exact⟨ks,env,B,ai,H,b,ae.size,ae.defs,ae.has,bE.nN id ae.heap,ae.aQ,ae.sub,ae.new,ae.dB,ae.base,ae.eg⟩
end
theorem dm:(∀b,(b&&true)=b)/\(∀b,(true&&b)=b)/\(∀b,(b || true)=true)/\(∀b,(true || b)=true)/\(!true)=false/\(!false)=true/\(∀b,(b || false)=b)/\(∀b,(false || b)=b)/\(∀b,(b&&b)=b)/\(∀b:Bool,(!b || b)=true)/\(∀b,(b || b)=b):=by decide
theorem aqU:(∀b,(b&&true)=b)/\(∀b,(true&&b)=b)/\(∀b,(b||true)=true)/\(∀b,(true||b)=true)/\(!true)=false/\(!false)=true/\(∀b,(b||false)=b)/\(∀b,(false||b)=b)/\(∀b,(b&&b)=b)/\(∀b:Bool,(!b||b)=true)/\(∀b,(b||b)=b)/\(∀ [h:Decidable True],@decide True h=true)/\(∀ {α:Type}(a b:α),cond true a b=a)/\(∀ {α:Type}(a b:α),cond false a b=b):=⟨dm.1,dm.2.1,dm.2.2.1,dm.2.2.2.1,dm.2.2.2.2.1,dm.2.2.2.2.2.1,dm.2.2.2.2.2.2.1,dm.2.2.2.2.2.2.2.1,dm.2.2.2.2.2.2.2.2.1,dm.2.2.2.2.2.2.2.2.2.1,dm.2.2.2.2.2.2.2.2.2.2,λ{_}=>decide_true _,λ_ _=>rfl,λ_ _=>rfl⟩
theorem ko:(∀b,(b&&true)=b)/\(∀b,(true&&b)=b)/\(∀b,(b&&false)=false)/\(∀b,(false&&b)=false)/\(!true)=false/\(!false)=true/\((false=true)=False)/\((true=false)=False):=by
 grind
theorem cM.data{env:Nat->Loc}{B:Nat->Prop}{w:World}{g:aZ}{cs b:dP}{x:g.D}{c:Bool}{vs:bQ}(J:cM env B w cs vs)(az:dec g cs=some (c,x,[]))(aa:c=true)(e:pH g x 0 g.size=some b):cM env B w b vs:=by
 obtain⟨j,h,a,aF,U⟩:=sr J az aa;have f:h=[]:=U;subst f;rw[append_nil]at a;subst a;obtain⟨us,⟨ao,an⟩,ah⟩:=bN.cells aF e;have i:=bN.length aF;have d:us=vs:=by
  apply ext_getElem?
  grind
 subst d;exact ah
end
section
open Go.ChangeShapes Go.WideShapes Go.ChangeAt Go.WideElems Go.RowKit
theorem Tryz.own:ownKnob prog.godebug=none:=by kernel_rfl
theorem Tryz.laidOut:laidOutB prog=true:=by kernel_rfl
end
section
def aZ.beq:(g:aZ)->g.D->g.D->Bool
 |.int _=>λ(x:Int) (y:Int)=>x==y
 |.bool=>λ(x:Bool) (y:Bool)=>x==y
 |.str=>λ(x:dQ) (y:dQ)=>x==y
 |.pair g h=>λx y=>g.beq x.1 y.1&&h.beq x.2 y.2
 |_=>λ_ _=>false
def cX(gk gv:aZ):List (gk.D×gv.D)->gk.D->Option gv.D
 |[],_=>none
 |x::l,k=>match gk.beq x.1 k with
  |true=>some x.2
  |false=>cX gk gv l k
def ez(gk gv:aZ):List (gk.D×gv.D)->gk.D->gv.D->List (gk.D×gv.D)
 |[],k,v=>[(k,v)]
 |x::l,k,v=>match gk.beq x.1 k with
  |true=>(x.1,v)::l
  |false=>x::ez gk gv l k v
def pX:(g:aZ)->g.D->Option bn
 |.pair a b,x=>(pH (.pair a b) x 0 (a.size+b.size)).map .agg
 |g,x=>(mQ g x 0).map .c
section
variable {B:Nat->Prop} {w:World} {k:IntKind} {gv:aZ}
theorem fK.FA:∀ {l:List (Int×gv.D)} {b:List MapEntry} (i:Nat),fK B w (.int k) gv l b ->
  (cX (.int k) gv l z=none/\Instr.findNow (.int k) (.int k z) b i=some none)\/∃x j v,cX (.int k) gv l z=some x/\Instr.findNow (.int k) (.int k z) b i=some (some (i+j,v))/\dZ B w gv x v/\j<b.length
 |[],_,i,h=>by rw[show _=[] from h];exact .inl ⟨rfl,rfl⟩
 |x::l,_,i,⟨e,r,he,J,U,ah⟩=>by
  subst he;have ab:e.key=.int k x.1:=by
   have:=(show bN B w (.int k) x.1 [e.key] from J)
   have a:[e.key]=[Value.int k x.1]:=this
   grind
  unfold Instr.findNow cX;rw[ab];simp only[Instr.sameNow,if_true]
  by_cases bw:x.1=z
  ·have c:(aZ.int k).beq x.1 z=true:=by simp[aZ.beq,bw]
   have d:(z==x.1)=true:=by simp[bw]
   rw[c,d];exact .inr ⟨x.2,0,e.val,rfl,rfl,U,by simp⟩
  ·have c:(aZ.int k).beq x.1 z=false:=by simp[aZ.beq,bw]
   have d:(z==x.1)=false:=by simp[Ne.symm bw]
   rw[c,d]
   rcases fK.FA (i+1) ah with⟨a,aI⟩|⟨y,j,v,a,aI,bb,cl⟩
   ·exact .inl ⟨a,aI⟩
   ·exact .inr ⟨y,j+1,v,a,by rw[aI,Nat.add_assoc,Nat.add_comm 1 j],bb,by simpa using cl⟩
theorem zv{a:List MapEntry}{f:MapEntry->MapEntry}(aF:∀e,(f e).born=e.born):∀(j:Nat),(a.modify j f).map (·.born)=a.map (·.born):=by
 induction a with
 |nil=>intro j;cases j<;>rfl
 |cons e a b=>
  grind
theorem fK.setInt{e8:gv.D}{vv:Value}(f:dZ B w gv e8 vv):∀ {l:List (Int×gv.D)} {a:List MapEntry} (i:Nat),fK B w (.int k) gv l a ->
  (Instr.findNow (.int k) (.int k z) a i=some none/\ez (.int k) gv l z e8=l++[(z,e8)]) \/
  ∃j v e,Instr.findNow (.int k) (.int k z) a i=some (some (i+j,v))/\a[j]?=some e/\e.key=.int k z/\fK B w (.int k) gv (ez (.int k) gv l z e8) (a.modify j λe=>{ e with key:=.int k z,val:=vv })
 |[],_,i,h=>by rw[show _=[] from h];exact .inl ⟨rfl,rfl⟩
 |x::l,_,i,⟨e,r,he,J,U,ah⟩=>by
  subst he;have ab:e.key=.int k x.1:=by
   have b:[e.key]=[Value.int k x.1]:=J
   grind
  unfold Instr.findNow ez;rw[ab];simp only[Instr.sameNow,if_true]
  by_cases bw:x.1=z
  ·have c:(aZ.int k).beq x.1 z=true:=by simp[aZ.beq,bw]
   have d:(z==x.1)=true:=by simp[bw]
   rw[c,d];refine .inr ⟨0,e.val,e,rfl,rfl,by rw[ab,bw],{ e with key:=.int k z,val:=vv },r,rfl,?_,f,ah⟩
   grind
  ·have c:(aZ.int k).beq x.1 z=false:=by simp[aZ.beq,bw]
   have d:(z==x.1)=false:=by simp[Ne.symm bw]
   rw[c,d]
   rcases fK.setInt f (i+1) ah with⟨b,aI⟩|⟨j,v,cv,b,aI,bb,cl⟩
   ·exact .inl ⟨b,by show x::ez (.int k) gv l z e8=_;rw[aI];rfl⟩
   ·exact .inr ⟨j+1,v,cv,by rw[b,Nat.add_assoc,Nat.add_comm 1 j],by simpa using aI,bb,e,_,rfl,J,U,cl⟩
theorem fK.snoc{gv:aZ}{x:gk.D×gv.D}{e:MapEntry}(J:dZ B w gk x.1 e.key)(U:dZ B w gv x.2 e.val):∀ {l:List (gk.D×gv.D)} {a:List MapEntry},fK B w gk gv l a->fK B w gk gv (l++[x]) (a++[e])
 |[],_,h=>by rw[show _=[] from h];exact⟨e,[],rfl,J,U,rfl⟩
 |_::_,_,⟨d,r,he,ah,c,b⟩=>by subst he;exact⟨d,_,rfl,ah,c,fK.snoc J U b⟩
def mn:aZ->bn->Bool
 |.pair _ _,.agg _=>true
 |.pair _ _,.c _=>false
 |_,.c _=>true
 |_,.agg _=>false
 |_,.arr _ _=>false
theorem dZ.vh{sa:bn}{c:Bool}{x:g.D}(az:dec g sa.cells=some (c,x,[]))(aa:c=true)(d:mn g sa=true)(h:dN env B w sa v):dZ B w g x v:=by
 cases sa with
 |c k=>
  obtain⟨m,i,e,J,U⟩:=sr (cs:=[k]) (vs:=[v]) ⟨v,[],rfl,h,rfl⟩ az aa;have f:i=[]:=U;rw[f,append_nil]at e;rw[<- e]at J;cases g with
  |pair a b=>cases d
  |_=>exact J
 |arr g2 l=>
  cases g with
  |pair a b=>cases d
  |_=>cases d
 |agg cs=>
  obtain⟨vs,e,ah⟩:=h;obtain⟨m,i,j,J,U⟩:=sr ah az aa;have f:i=[]:=U;rw[f,append_nil]at j;cases g with
  |pair a b=>exact⟨vs,e,by rw[j];exact J⟩
  |_=>cases d
theorem dZ.sa{env:Nat->Loc}{x:g.D}{sa:bn}(h:dZ B w g x v)(d:pX g x=some sa):dN env B w sa v:=by
 have one:∀ {g:aZ} {x:g.D} {v:Value} {sa:bn},bN B w g x [v]->(mQ g x 0).map bn.c=some sa->dN env B w sa v:=by
  intro g x v sa h d;obtain⟨c,aa,rfl⟩:=Option.map_eq_some_iff.1 d;obtain⟨u,J,U⟩:=bN.cell (env:=env) h aa;simp only[List.getElem?_cons_zero,Option.some.injEq]at J;rw[J];exact U
 cases g with
 |pair a b=>
  obtain⟨vs,e,J⟩:=h;obtain⟨l,ao,rfl⟩:=Option.map_eq_some_iff.1 (show(pH (.pair a b) x 0 (a.size+b.size)).map bn.agg=some sa from d);obtain⟨us,⟨U,ah⟩,f⟩:=bN.cells (env:=env) J ao;have j:vs.length=a.size+b.size:=bN.length J
  have:us=vs:=by
   apply ext_getElem?
   intro i
   by_cases hi:i<us.length
   ·grind
   grind
  subst this;exact⟨us,e,f⟩
 |_=>exact one h d
end
section
variable {X:bx} {M:Bool} {n:Nat} {r:Option Nat} {st:aP} {Q:Exit->aP->Prop} {ops rest:List Oper} {o:Oper} {d:Nat}
theorem adG(gk gv:aZ)(c:o.op=.makeMap t none)(b:o.guard=none/\o.dst=some d)(az:blt d n=true)(g:fV X M n r ops rest ⟨(d,.c (.dv d))::fS d .dead st.L,(d,.mp gk gv [] none)::en d .dead st.H⟩ Q):fV X M n r ops (o::rest) st Q:=by
 rintro R W aC a w ⟨ks,env,B,ai,H,f,ae⟩;refine nx (hD ae.bV b.1 b.2 (dH az) (v:=.map (some w.heap.size)) (w':=w.alloc (.map #[] 0)) (by simp[execOp,c,Instr.makeMap,newObj,Sem.run]) λaS e=>?_);obtain⟨H',_,ah⟩:=ae.oT (d:=d) az (l:=.blk w.heap.size) (blk:=.mp gk gv [] none) (sv:=.c (.dv d)) (ae.aQ.alloc (.map #[] 0)) ⟨_,[],0,fi,rfl,rfl,⟨List.Pairwise.nil,λ_ h=>by cases h⟩,λ_ h=>by cases h⟩ ⟨_,fi,rfl⟩ e;exact g R W aC aS _ ⟨ks,_,B,ai,H',f,ah⟩
theorem adH(f:X.a1.ok X.P){p:cm}{id:Nat}{l:List (Int×gv.D)}{g:Bool}{sa:bn}(q:o.op=.lookup t u x false)(h:o.guard=none/\o.dst=some d)(az:blt d n=true)(bj:X.a1.find t=some bB)(c6:bB.ti.desc=.map e3 fB)(ab:X.a1.find e3=some p)(S:p.ti.desc=.int k)(he:X.a1.find fB=some dC)(bw:∀B w,dZ B w gv gv.zero dC.ti.zero)(hu:bu X st.L u=some (true,.c (.dv id)))(ak:bu X st.L x=some (g,.c (.val (.int k z))))(A:g=true)(D:bh st.H id=some (.mp (.int k) gv l iW))(mo:pX gv ((cX (.int k) gv l z).getD gv.zero)=some sa)(F:fV X M n r ops rest ⟨(d,.a sa)::st.L,st.H⟩ Q):fV X M n r ops (o::rest) st Q:=by
 rintro R W aC a w ⟨ks,env,B,ai,H,C,ae⟩;obtain⟨V,J,b,ag,rfl⟩:=ae.aD hu rfl;obtain⟨vx,U,ah⟩:=ae.aD ak A;rw[show vx=_ from ah]at U;obtain⟨c,K,⟨b',T,clock,m,rfl,N,cY,_⟩,G⟩:=ae.heap.gA D;rw[ag]at m;cases m;have I:=(ae.aQ.ok _ G.more.mem).2;have i:=(cd.get f bj).ti.1;rw[c6]at i;have e:=(cd.get f ab).ti.1;rw[S]at e;have L:=bI.sg (cd.get f he).ti w;have O:∃v,(Instr.lookup t (.map (some b)) (.int k z) false).run X.P w=.ok v w/\dZ B ai gv ((cX (.int k) gv l z).getD gv.zero) v:=by
  unfold Instr.lookup;rw[show(10000:Nat)=9999+1 from rfl];simp only[Sem.run_bind,run_underlying i,Result.andThen_ok,MapKept.run_getObj_map I,Bi e,Sem.run_pure]
  rcases N.FA (z:=z) 0 with⟨aw,aI⟩|⟨y,j,v,aw,aI,bb,_⟩
  ·refine⟨dC.ti.zero,?_,by rw[aw];exact bw _ _⟩
   simp[MapKept.run_findKey e aI,L,Result.andThen]
  ·refine⟨v,?_,by rw[aw];exact bb⟩
   simp[MapKept.run_findKey e aI,Result.andThen]
 obtain⟨v,E,P⟩:=O;refine nx (hD ae.bV h.1 h.2 (dH az) (v:=v) (w':=w) ?_ λaS s=>?_)
 ·simp[execOp,q,ae.bV.aD J,ae.bV.aD U,E]
 ·exact F R W aC aS _ ⟨ks,env,B,ai,H,C,ae.set (sv:=.a sa) (P.sa mo) s⟩
theorem adI(F:X.a1.ok X.P){L:cm}{id:Nat}{l:List (Int×gv.D)}{g c:Bool}{e8:gv.D}(O:o.op=.mapUpdate t u x y)(C:o.guard=none/\o.dst=none)(bj:X.a1.find t=some bB)(c6:bB.ti.desc=.map e3 fB)(ab:X.a1.find e3=some L)(aw:L.ti.desc=.int k)(hu:bu X st.L u=some (true,.c (.dv id)))(ak:bu X st.L x=some (g,.c (.val (.int k z))))(T:g=true)(aA:bu X st.L y=some (g2,dW))(af:g2=true)(Z:bh st.H id=some (.mp (.int k) gv l iW))(av:dec gv dW.cells=some (c,e8,[]))(aa:c=true)(aj:mn gv dW=true)(ad:fV X M n r ops rest ⟨st.L,qr id (.mp (.int k) gv (ez (.int k) gv l z e8) none) st.H⟩ Q):fV X M n r ops (o::rest) st Q:=by
 rintro R W aC a w ⟨ks,env,B,ai,H,Y,ae⟩;obtain⟨ay,J,b,ag,rfl⟩:=ae.aD hu rfl;obtain⟨vx,U,ah⟩:=ae.aD ak T;rw[show vx=_ from ah]at U;obtain⟨vy,V,P⟩:=ae.aD aA af;have ar:dZ B ai gv e8 vy:=dZ.vh av aa aj P;obtain⟨et,K,⟨b',s,clock,I,rfl,am,cY,_⟩,G,al⟩:=ae.oU (b':=.mp (.int k) gv (ez (.int k) gv l z e8) none) Z;rw[ag]at I;cases I;have A:=(ae.aQ.ok _ G.mem).2;have D:=(cd.get F bj).ti.1;rw[c6]at D;have m:=(cd.get F ab).ti.1;rw[aw]at m;have aq:∃d i,(Instr.mapUpdate t (.map (some b)) (.int k z) vy).run X.P w=.ok () { w with heap:=w.heap.setIfInBounds b (.map d.toArray i) }/\fK B ai (.int k) gv (ez (.int k) gv l z e8) d/\n3 d i:=by
  unfold Instr.mapUpdate;rw[show(10000:Nat)=9999+1 from rfl];simp only[Sem.run_bind,run_underlying D,Result.andThen_ok,MapKept.run_getObj_map A,Bi m]
  rcases am.setInt ar (z:=z) 0 with⟨bb,cl⟩|⟨j,v,e,bb,cl,de,ao⟩
  ·refine⟨s++[MapEntry.mk (.int k z) vy clock],clock+1,?_,?_,?_⟩
   ·simp only[MapKept.run_findKey m bb,Result.andThen_ok,MapKept.run_setObj_map _ A]
    simp
   ·rw[cl]
    have az:dZ B ai (.int k) z (.int k z):=show [Value.int k z]=[Value.int k z] from rfl
    grind [fK.snoc]
   ·refine⟨?_,?_⟩
    ·rw[map_append,List.pairwise_append]
     exact⟨cY.1,by simp,λp an q E=>by simp at E;subst E;exact cY.2 p an⟩
    ·intro p an
     rw[map_append,List.mem_append]at an
     rcases an with an|an
     ·exact Nat.lt_succ_of_lt (cY.2 p an)
     grind
  ·refine⟨s.modify j λe=>{ e with key:=.int k z,val:=vy },clock,?_,ao,?_⟩
   ·rw[zero_add]at bb
    have au:(Instr.keyThatStays (((s.toArray[j]?).map (·.key)).getD (.int k z)) (.int k z)).run X.P w=.ok (.int k z) w:=by
     have:((s.toArray[j]?).map (·.key)).getD (.int k z)=.int k z:=by simp[cl,de]
     rw[this]
     simp[Instr.keyThatStays,Instr.sameBits]
    simp only[MapKept.run_findKey m bb,Result.andThen_ok,Sem.run_bind,au,MapKept.run_setObj_map _ A]
    simp
   ·rw[n3,zv (f:=λe=>{ e with key:=.int k z,val:=vy }) (λ_=>rfl)]
    exact cY
 obtain⟨d,i,ac,N,ax⟩:=aq;refine nx (Bf ae.bV C.1 C.2 (w':={ w with heap:=w.heap.setIfInBounds b (.map d.toArray i) }) ?_ λaS S=>?_)
 ·simp[execOp,O,ae.bV.aD J,ae.bV.aD U,ae.bV.aD V,ac]
 ·obtain⟨H',ap⟩:=al _ aS _ ⟨b,d,i,ag,rfl,N,ax,λ_ h=>by cases h⟩ (ae.aQ.wN G) S
  exact ad R W aC aS _ ⟨ks,env,B,ai,H',Y,ap⟩
end
end
section
theorem fK.length:∀ {l:List (gk.D×gv.D)} {a:List MapEntry},fK B w gk gv l a->a.length=l.length
 |[],_,h=>by rw[show _=[] from h];rfl
 |_::_,_,⟨_,_,e,_,_,h⟩=>by rw[e,length_cons,length_cons,fK.length h]
theorem fK.get{x:gk.D×gv.D}:∀ {l:List (gk.D×gv.D)} {b:List MapEntry} {j:Nat},fK B w gk gv l b->l[j]?=some x->∃e,b[j]?=some e/\dZ B w gk x.1 e.key/\dZ B w gv x.2 e.val
 |[],_,_,_,a=>by simp at a
 |y::_,_,0,⟨e,r,h,J,U,_⟩,a=>by
  grind
 |_::_,_,j+1,⟨_,_,h,_,_,ah⟩,a=>by
  subst h;obtain⟨e,d,c⟩:=fK.get ah (by simpa using a)
  grind
theorem born_inj{c:List MapEntry}(f:n3 c clock){a b:MapEntry}(hi:c[i]?=some a)(d:c[j]?=some b)(e:a.born=b.born):i=j:=by
 have an:=List.pairwise_iff_getElem.1 f.1;obtain⟨l,k⟩:=List.getElem?_eq_some_iff.1 hi;obtain⟨g,m⟩:=List.getElem?_eq_some_iff.1 d
 rcases Nat.lt_trichotomy i j with h|h|h
 ·grind
 ·grind
 grind
theorem Sd{a:List MapEntry}{e:MapEntry}(h:a[j]?=some e):lI a (ps++[j])=lI a ps++[e.born]:=by simp[lI,h]
theorem Se{a:List MapEntry}(d:n3 a clock)(an:∀j∈ps,j<a.length){e:MapEntry}(h:a[j]?=some e):e.born∈lI a ps↔j∈ps:=by
 constructor
 ·intro c
  obtain⟨i,hi,ag⟩:=List.mem_map.1 c
  grind [getElem?_eq_getElem,born_inj]
 ·intro b
  exact List.mem_map.2 ⟨j,b,by simp[h]⟩
section
variable {X:bx} {M:Bool} {n:Nat} {r:Option Nat} {st:aP} {Q:Exit->aP->Prop} {ops rest:List Oper} {o:Oper} {d:Nat}
theorem adJ{l:List (gk.D×gv.D)}(id:Nat)(k:bh st.H id=some (.mp gk gv l iW))(h:∀d clock,n3 d clock->d.length=l.length->fV X M n r ops rest ⟨st.L,qr id (.mp gk gv l (some (d,clock))) st.H⟩ Q):fV X M n r ops rest st Q:=by
 rintro R W aC a w ⟨ks,env,B,ai,H,j,ae⟩;obtain⟨c,K,⟨b,d,clock,J,U,ah,e,s⟩,aF,p⟩:=ae.heap.put k;have o:K c=H:=by obtain⟨X,Y,g,m⟩:=aF;rw[m,g]
 have f:=p (.mp gk gv l (some (d,clock))) c ⟨b,d,clock,J,U,ah,e,λq i=>(Option.some.inj i).symm⟩;rw[o]at f;exact h d clock e ah.length R W aC a w ⟨ks,env,B,ai,H,j,ae.size,ae.defs,ae.has,f,ae.aQ,ae.sub,ae.new,ae.dB,ae.base,ae.eg⟩
theorem adK(m:X.a1.ok X.P){id:Nat}{l:List (gk.D×gv.D)}{e:List MapEntry}(i:o.op=.range t u)(f:o.guard=none/\o.dst=some d)(az:blt d n=true)(bj:X.a1.find t=some bB)(c6:bB.ti.desc=.map e3 fB)(hu:bu X st.L u=some (true,.c (.dv id)))(q:bh st.H id=some (.mp gk gv l (some (e,clock))))(y:beq id d=false)(z:fV X M n r ops rest ⟨(d,.c (.ptr d 0))::fS d .dead st.L,(d,.it id e clock [])::en d .dead st.H⟩ Q):fV X M n r ops (o::rest) st Q:=by
 rintro R W aC a w ⟨ks,env,B,ai,H,p,ae⟩;obtain⟨D,J,b,ag,rfl⟩:=ae.aD hu rfl;obtain⟨c,K,⟨b',F,G,h,rfl,E,cY,k⟩,A⟩:=ae.heap.gA q;rw[ag]at h;cases h;cases k _ rfl;have C:=(ae.aQ.ok _ A.more.mem).2;have g:=(cd.get m bj).ti.1;rw[c6]at g;have s:(Instr.range t (.map (some b))).run X.P w=.ok (.pointer (some ⟨w.heap.size,0,none⟩)) (w.alloc (.mapIter (some b) clock #[] clock)):=by
  simp[Instr.range,run_underlying g,MapKept.run_getObj_map C,newObj,Sem.run,Result.andThen]
 refine nx (hD ae.bV f.1 f.2 (dH az) (v:=.pointer (some ⟨w.heap.size,0,none⟩)) (w':=w.alloc (.mapIter (some b) clock #[] clock)) (by simp[execOp,i,ae.bV.aD J,s]) λaS j=>?_);obtain⟨H',_,ah⟩:=ae.oT (d:=d) az (l:=.blk w.heap.size) (blk:=.it id e clock []) (sv:=.c (.ptr d 0)) (ae.aQ.alloc _) ⟨_,b,fi,by rw[ki id (Nat.ne_of_beq_eq_false y)];exact ag,rfl⟩ ⟨_,fi,rfl⟩ j;exact z R W aC aS _ ⟨ks,_,B,ai,H',p,ah⟩
theorem adL{id:Nat}{l:List (gk.D×gv.D)}{f:List MapEntry}(D:o.op=.next u false)(p:o.guard=none/\o.dst=some d)(az:blt d n=true)(hu:bu X st.L u=some (true,.c (.ptr id 0)))(A:bh st.H id=some (.it i f clock ps))(ad:bh st.H i=some (.mp gk gv l (some (f,clock))))(cY:n3 f clock)(I:∀j∈ps,j<f.length)(ar:(∀j,j<f.length->j∈ps)->fV X M n r ops rest ⟨(d,.cE [.c (.val (.bool false))])::st.L,st.H⟩ Q)(O:∀j,j<f.length->j ∉ ps->fV X M n r ops rest ⟨(d,.cE [.c (.val (.bool true)),.c .dead,.c .dead])::st.L,qr id (.it i f clock (ps++[j])) st.H⟩ Q):fV X M n r ops (o::rest) st Q:=by
 rintro R W aC a w ⟨ks,env,B,ai,H,E,ae⟩;obtain⟨aG,J,b,ag,rfl⟩:=ae.aD hu rfl;obtain⟨cC,av,⟨m,aI,aJ,G,rfl,aH,_,ac⟩,au⟩:=ae.heap.gA ad;cases ac _ rfl;have S:=(ae.aQ.ok _ au.more.mem).2;obtain⟨c,K,T,aj,aF⟩:=ae.oU (b':=cz.it i f clock ps) A;obtain⟨b',aE,F,L,rfl⟩:=T;rw[ag]at F;cases F;rw[G]at L;cases L;have an:=(ae.aQ.ok _ aj.mem).2;have hold:∀x∈f.toArray.toList,x.born<clock:=λx ak=>cY.2 _ (List.mem_map_of_mem (by simpa using ak))
 rcases run_next_at (P:=X.P) w o.type b m clock clock (lI f ps).toArray f.toArray clock an S hold (le_refl _)with⟨aM,c2⟩|⟨e,he,b9,ic,c2⟩
 ·refine nx (hD ae.bV p.1 p.2 (dH az) (v:=.tuple #[.bool false]) (w':=w) (by simp[execOp,D,ae.bV.aD J,c2]) λaS g=>?_)
  refine ar (λj q=>?_) R W aC aS _ ⟨ks,env,B,ai,H,E,ae.set (sv:=.cE [.c (.val (.bool false))]) ⟨[.bool false],rfl,.bool false,[],rfl,rfl,rfl⟩ g⟩;have y:f[j]?=some f[j]:=getElem?_eq_getElem q;refine(Se cY I y).1 ?_;have V:leftOf f.toArray (lI f ps).toArray=#[]:=Array.eq_empty_of_size_eq_zero aM
  by_cases ca:f[j].born∈lI f ps
  ·exact ca
  ·exfalso
   have:f[j]∈leftOf f.toArray (lI f ps).toArray:=by
    simp only[leftOf,Array.mem_filter]
    grind
   rw[V]at this
   simp at this
 ·have N:e∈f/\e.born ∉ lI f ps:=by
   have:e∈leftOf f.toArray (lI f ps).toArray:=by simpa using he
   simp only[leftOf,Array.mem_filter]at this;exact⟨by simpa using this.1,by simpa using this.2⟩
  obtain⟨j,q,U⟩:=List.mem_iff_getElem.1 N.1;have y:f[j]?=some e:=by rw[getElem?_eq_getElem q,U]
  have aq:j ∉ ps:=λh=>N.2 ((Se cY I y).2 h)
  have am:bK (λk=>R k\/B k) ai (H++ks.map dj) b9:=by
   rcases ic with rfl|rfl
   ·exact ae.aQ
   ·exact ae.aQ.drew
  refine nx (hD ae.bV p.1 p.2 (dH az) (v:=.tuple #[.bool true,e.key,e.val]) (w':={ b9 with heap:=b9.heap.setIfInBounds b (.mapIter (some m) clock ((lI f (ps++[j])).toArray) clock) }) ?_ λaS g=>?_)
  ·have ah:(lI f ps).toArray.push e.born=(lI f (ps++[j])).toArray:=by rw[Sd y];simp
   rw[ah]at c2
   simp[execOp,D,ae.bV.aD J,c2,ChangeMaps.setBlock]
  ·obtain⟨aN,ay,_,aA,aB⟩:=ae.oU (b':=.it i f clock (ps++[j])) A
   have aD:c5 n (kf ks aC) ((d,.tuple #[.bool true,e.key,e.val])::full a) aS:=g;obtain⟨aw,ax,Y,Z,ap⟩:=ae.heap.put A;obtain⟨aL,aK,C,_,rfl⟩:=Y;rw[ag]at C;cases C;have aa:=ap (.it i f clock (ps++[j])) (.obj b (.mapIter (some m) clock (lI f (ps++[j])).toArray clock)) ⟨b,m,ag,G,rfl⟩;have ab:=am.wN (x':=.mapIter (some m) clock (lI f (ps++[j])).toArray clock) Z.more;refine O j q aq R W aC aS _ ⟨ks,env,B,ai,_,E,g.size,g.defs,λs u t=>?_,aa,ab,ae.sub,ae.new,ae.dB,ae.base,ae.eg⟩;rw[cO]at t
   split at t
   ·rename_i z
    subst z;cases t;exact⟨_,g.this,[.bool true,e.key,e.val],rfl,_,_,rfl,rfl,_,_,rfl,trivial,_,_,rfl,trivial,rfl⟩
   ·rename_i z
    obtain⟨ao,af,al⟩:=ae.has s u t;exact⟨ao,g.other z af,al⟩
theorem adR{q id:Nat}{l:List (gk.D×gv.D)}{f:List MapEntry}{x:gk.D×gv.D}{g i:bn}(A:o.op=.entry u)(k:o.guard=none/\o.dst=some d)(az:blt d n=true)(hu:bu X st.L u=some (true,.c (.ptr id 0)))(O:bh st.H id=some (.it q f clock (ps++[j])))(G:bh st.H q=some (.mp gk gv l (some (f,clock))))(cY:n3 f clock)(D:l[j]?=some x)(ab:pX gk x.1=some g)(z:pX gv x.2=some i)(L:fV X M n r ops rest ⟨(d,.cE [g,i])::st.L,st.H⟩ Q):fV X M n r ops (o::rest) st Q:=by
 rintro R W aC a w ⟨ks,env,B,ai,H,F,ae⟩;obtain⟨ac,J,b,ag,rfl⟩:=ae.aD hu rfl;obtain⟨cC,Z,⟨m,ad,af,S,rfl,T,_,E⟩,Y⟩:=ae.heap.gA G;cases E _ rfl;have y:=(ae.aQ.ok _ Y.more.mem).2;obtain⟨c,K,⟨b',aa,p,t,rfl⟩,N⟩:=ae.heap.gA O;rw[ag]at p;cases p;rw[S]at t;cases t;have s:=(ae.aQ.ok _ N.more.mem).2;obtain⟨e,he,V,U⟩:=T.get D;rw[Sd he,show(lI f ps++[e.born]).toArray=(lI f ps).toArray.push e.born by simp]at s;have bc:(f.toArray.toList.map (·.born)).Nodup:=List.Pairwise.imp (λh=>Nat.ne_of_lt h) cY.1;have I:=run_entry_at (P:=X.P) w b m clock (lI f ps).toArray f.toArray clock e s y (by simpa using List.mem_of_getElem? he) bc;refine nx (hD ae.bV k.1 k.2 (dH az) (v:=.tuple #[e.key,e.val]) (w':=w) (by simp[execOp,A,ae.bV.aD J,I]) λaS C=>?_);exact L R W aC aS _ ⟨ks,env,B,ai,H,F,ae.set (sv:=.cE [g,i]) ⟨[e.key,e.val],rfl,_,_,rfl,V.sa ab,_,_,rfl,U.sa z,rfl⟩ C⟩
end
end
section
section
variable {α β:Type}
def vi(x:α):List α->List (List α)
 |[]=>[[x]]
 |y::l=>(x::y::l)::(vi x l).map (y :: ·)
def perms:List α->List (List α)
 |[]=>[[]]
 |x::l=>(perms l).flatMap (vi x)
theorem Sg(x:α)(b:List α):∀a:List α,(a++x::b)∈vi x (a++b)
 |[]=>by cases b<;>simp[vi]
 |y::a=>by
  simp only[cons_append,vi,List.mem_cons,List.mem_map];exact .inr ⟨_,Sg x b a,rfl⟩
theorem Sh(x:α):∀ {l a:List α},a∈vi x l->a.Perm (x::l)
 |[],a,h=>by simp only[vi,List.mem_singleton]at h;subst h;exact List.Perm.refl _
 |y::l,a,h=>by
  simp only[vi,List.mem_cons,List.mem_map]at h
  rcases h with rfl|⟨c,b,rfl⟩
  ·exact List.Perm.refl _
  ·exact((Sh x b).cons y).trans (List.Perm.swap x y l)
theorem KS:∀ {l c:List α},c.Perm l->c∈perms l
 |[],c,h=>by rw[List.Perm.eq_nil h];simp[perms]
 |x::l,c,h=>by
  obtain⟨a,b,rfl⟩:=List.append_of_mem (h.mem_iff.2 (mem_cons_self));have U:(a++b).Perm l:=(List.perm_middle.symm.trans h).cons_inv;exact List.mem_flatMap.2 ⟨_,KS U,Sg x b a⟩
theorem Si:∀ {l a:List α},a∈perms l->a.Perm l
 |[],a,h=>by simp only[perms,List.mem_singleton]at h;subst h;exact List.Perm.refl _
 |x::l,a,h=>by
  obtain⟨b,J,U⟩:=List.mem_flatMap.1 h;exact(Sh x U).trans ((Si J).cons x)
def zx[DecidableEq β](l:List α)(f:List α->Option β):Option β:=match f l with
 |some b=>if (perms l).all (λa=>decide (f a=some b))then some b else none
 |none=>none
theorem adT[DecidableEq β]{l:List α}{f:List α->Option β}{b:β}(h:zx l f=some b):∀a,a.Perm l->f a=some b:=by
 grind [zx,all_eq_true,KS]
theorem adU[DecidableEq β]{l:List α}{f:List α->Option β}{b:β}(h:∀a,a.Perm l->f a=some b):zx l f=some b:=by
 grind [zx,List.Perm.refl,all_eq_true,decide_eq_true,Si]
theorem adV{a:Type}[DecidableEq β]{l:List α}{g:List α->Option a}{f:a->Option β}{r:β}(h:zx l (λq=>(g q).bind f)=some r):∃P:a->Prop,(∀o,P o->f o=some r)/\∀q,q.Perm l->∃o,g q=some o/\P o:=
 ⟨λo=>f o=some r,λ_ h=>h,λq b=>by
  have U:(g q).bind f=some r:=adT h q b;cases aV:g q with
  |none=>rw[aV]at U;cases U
  |some o=>exact⟨o,rfl,by rw[aV]at U;exact U⟩⟩
def tL(n:Nat)(ps:bG):bG:=(range n).filter λj=>!ps.elem j
def sD(l:List α)(ps:bG):List α:=(tL l.length ps).filterMap λj=>l[j]?
theorem adW(l:List α):sD l []=l:=by
 unfold sD tL;have e:(range l.length).filter (λj=>!([]:bG).elem j)=range l.length:=by
  grind [List.filter_eq_self]
 rw[e]
 apply ext_getElem?
 have key:∀(k:Nat),k<=l.length->((range k).filterMap λj=>l[j]?)=l.take k:=by
  intro k
  induction k with
  |zero=>intro _;simp
  |succ k a=>
   grind [List.range_succ,List.take_succ_eq_append_getElem,getElem?_eq_getElem]
 grind
theorem adX{l:List α}(h:∀j,j<l.length->j∈ps):sD l ps=[]:=by
 grind [tL,List.filter_eq_nil_iff,sD]
theorem Sj(a:j<n)(bc:j ∉ ps):(j::tL n (ps++[j])).Perm (tL n ps):=by
 grind [tL,List.Pairwise.sublist,filter_sublist,List.nodup_range,List.filter_filter,List.filter_congr,List.append_of_mem,List.nodup_cons,List.perm_middle,Bool.not_true,Bool.false_eq_true,List.filter_eq_self,List.mem_append_left,mem_append_right,List.perm_middle.symm]
theorem adY{l:List α}{x:α}(ak:l[j]?=some x)(bc:j ∉ ps):(x::sD l (ps++[j])).Perm (sD l ps):=by
 have a:j<l.length:=(List.getElem?_eq_some_iff.1 ak).1
 have:=(Sj a bc).filterMap (λj=>l[j]?)
 rw[List.filterMap_cons,ak]at this;exact this
theorem adZ(a:j<n)(bc:j ∉ ps):(tL n (ps++[j])).length<(tL n ps).length:=by
 have:=(Sj a bc).length_eq
 grind
end
end
section
section
variable {X:bx} {M:Bool} {n:Nat} {r:Option Nat} {st:aP} {Q:Exit->aP->Prop} {ops rest:List Oper} {o:Oper} {d:Nat}
theorem Sk(d:X.a1.ok X.P){c:Bool}(b:kO X n (ey ops) st o=.ok c st')(aa:c=true)(h:fV X M n r ops rest st' Q):fV X M n r ops (o::rest) st Q:=by
 rintro R W aC a w ⟨ks,env,B,ai,H,e,ae⟩;exact nx (ss d b aa ae λaS w' env' H' _ f=>h _ _ _ _ _ ⟨ks,env',B,ai,H',e,f⟩)
end
end
section
def FC(g:aZ):Nat->dP->Option (Bool×List g.D×dP)
 |0,r=>some (true,[],r)
 |m+1,r=>match dec g r with
  |some (fp,x,a)=>match FC g m a with
   |some (cC,l,b)=>some (fp&&cC,x::l,b)
   |none=>none
  |none=>none
section
variable {env:Nat->Loc} {B:Nat->Prop} {w:World}
theorem Sl:∀ {m:Nat} {cs:dP} {c:Bool} {l:List g.D} {r:dP} {vs:bQ},cM env B w cs vs->FC g m cs=some (c,l,r)->c=true->l.length=m/\∃a b,vs=a++b/\Flat (bN B w g) l a/\cM env B w r b
 |0,cs,c,l,r,vs,h,az,_=>by
  cases az;exact⟨rfl,[],vs,rfl,rfl,h⟩
 |m+1,cs,c,l,r,vs,h,az,aa=>by
  simp only[FC]at az
  split at az
  ·rename_i fp x k J
   split at az
   ·rename_i cC o n U
    cases az;simp only[and_eq_true]at aa;obtain⟨a,b,rfl,ah,f⟩:=sr h J aa.1;obtain⟨ao,d,j,rfl,e,i⟩:=Sl f U aa.2;exact⟨by rw[length_cons,ao],a++d,j,by rw[append_assoc],⟨a,d,rfl,ah,e⟩,i⟩
   grind
  grind
end
section
variable {X:bx} {R:Nat->Prop} {W:World} {aC:fe} {n:Nat} {ks:bG} {env:Nat->Loc} {B:Nat->Prop} {ai:World} {H:cW} {st st':aP} {a:Act} {w:World}
end
def o6:Option Nat->Nat->Option Nat
 |some c,k=>cond (ble k c) (some c) none
 |none,_=>none
section
variable {X:bx} {M:Bool} {n:Nat} {r:Option Nat} {st:aP} {Q:Exit->aP->Prop} {ops rest:List Oper} {o:Oper} {d:Nat}
theorem BY(k:Nat)(e:X.a1.ok X.P){c':Bool}{l:List Oper}(h:nG X n (ey ops) (l.take k) true st=.done c' st')(aa:c'=true)(b:fV X M n r ops (l.drop k) st' Q):fV X M n r ops l st Q:=by
 have:∀(k:Nat) (l:List Oper) (c:Bool) (st:aP),nG X n (ey ops) (l.take k) c st=.done c' st'->fV X M n r ops (l.drop k) st' Q->fV X M n r ops l st Q:=by
  intro k
  induction k with
  |zero=>intro l c st h b;simp only[List.take_zero,nG]at h;cases h;exact b
  |succ k f=>
   intro l c st h b;cases l with
   |nil=>simp only[List.take_nil,nG]at h;cases h;exact b
   |cons o l=>
    simp only[List.take_succ_cons,nG]at h
    split at h
    ·rename_i cC j d
     have U:=Ke h aa;simp only[and_eq_true]at U;rintro R W aC a w ⟨ks,env,B,ai,H,g,ae⟩;exact nx (ss e d U.2 ae λaS w' env' H' _ i=>f l _ _ h b _ _ _ _ _ ⟨ks,env',B,ai,H',g,i⟩)
    grind
 grind
theorem Sm(p:X.a1.ok X.P){F:Bool}{id N:Nat}{u:aZ}{l f:List g.D}(U:o.op=.call ⟨.builtin .append,⟨[x,y]⟩,⟨[t,t]⟩⟩)(S:o.guard=none/\o.dst=some d)(az:(blt d n&&blt id h1)=true)(bj:X.a1.find t=some bB)(c6:bB.ti.desc=.slice e)(he:X.a1.find e=some ⟨⟨aK,j,N,v⟩,some u⟩)(ak:bu X st.L x=some (F,.c (.ax id)))(Y:F=true)(aA:bu X st.L y=some (g2,dW))(ae:g2=true)(ac:bh st.H id=some (.row e g l cap))(af:beq g.size j=true)(aw:nD st g dW=some f)(aa:dk N (l.length+f.length)=true)(ad:fV X M n r ops rest ⟨(d,.c (.ax id))::fS id .dead st.L,(id,.row e g (l++f) (o6 cap (l.length+f.length)))::en id .dead st.H⟩ Q):fV X M n r ops (o::rest) st Q:=by
 rintro R W aC a w ⟨ks,env,B,ai,H,ab,h⟩;obtain⟨vx,ap,ar⟩:=h.aD ak Y;obtain⟨vy,am,au⟩:=h.aD aA ae;obtain⟨s,E,aq⟩:=(cd.get p he).g u rfl;obtain⟨T,Z,J,C⟩:=n2 (cd.get p bj).ti (cd.get p he).ti;dsimp only at s E C;have av:v.cells.size=j:=by
  have:v.cells.toList.length=j:=by rw[E,<- s];exact bN.length (bN.eO (B:=B) (w:=ai) u)
  simpa using this
 simp only[and_eq_true]at az;obtain⟨az,ay⟩:=az;have G:=eq_of_beq_eq_true af;simp only[dk,and_eq_true,decide_eq_true_eq]at aa;obtain⟨aB,cC,ao,rfl,L,I⟩:=tx h aw au;obtain⟨A,c,m,O,rfl⟩:=ar;obtain⟨et,K,⟨i,k',xs,P,rfl,aj,al⟩,D,ax⟩:=h.ET (d:=d) (b':=.row e g (l++f) (o6 cap (l.length+f.length))) ac (λq an=>by
  obtain⟨_,z,bb⟩:=h.dB _ _ an;rw[O]at z
  rcases bb with⟨b,bb⟩|bb
  ·rw[<- z]at bb;cases bb
  ·have:=dH ay;omega)
 rw[O]at P;cases P;rw[G]at D I;refine nx (Qz h.sym U S az Z J c6 C (by rw[<- s];exact Nat.ble_eq_true_of_le aq) av ap am D I (Flat.jr (λ_ _=>bN.jr) L) aa.1 aa.2 λi c' aS w' aE bt=>?_);obtain⟨H',aD,ah⟩:=ax (.row i c' (l.length+f.length)) _ aS w' (.c (.ax id)) _ ⟨i,c',xs++ao,by rw[fi,length_append],by rw[length_append],aj.append L,λq k=>by
  cases cap with
  |none=>cases k
  |some cc=>
   have V:=al cc rfl;subst V;cases ag:ble (l.length+f.length) c with
   |true=>
    grind [o6,Option.some.injEq,le_of_ble_eq_true]
   |false=>simp only[o6,ag,cond_false]at k;cases k⟩ ⟨i,c',_,fi,rfl⟩ (by rw[G];exact bt.aQ) bt.st
 exact ad R W aC aS w' ⟨ks,_,B,ai,H',ab,ah⟩
end
end
section
def aZ.key:aZ->Bool
 |.int _=>true
 |.bool=>true
 |.str=>true
 |.pair g h=>g.key&&h.key
 |_=>false
def aZ.cJ:(g:aZ)->g.D->bQ
 |.int k,x=>[.int k x]
 |.bool,x=>[.bool x]
 |.str,x=>[fF x]
 |.pair g h,x=>g.cJ x.1++h.cJ x.2
 |_,_=>[]
theorem bN.cJ:∀ {g:aZ} {x:g.D} {vs:bQ},g.key=true->bN B w g x vs->vs=g.cJ x
 |.int _,_,_,_,h=>h
 |.bool,_,_,_,h=>h
 |.str,_,_,_,h=>h
 |.ax _,_,_,h,_=>by cases h
 |.hL _,_,_,h,_=>by cases h
 |.unit,_,_,h,_=>by cases h
 |.fn,_,_,h,_=>by cases h
 |.pair g h,x,_,ab,⟨a,b,e,J,U⟩=>by
  simp only[aZ.key,and_eq_true]at ab;rw[e,bN.cJ ab.1 J,bN.cJ ab.2 U]
  rfl
theorem beq_iff(x y:g.D)(ab:g.key=true):g.beq x y=true↔x=y:=by
 induction g with
 |int k=>show((x:Int)==y)=true↔_;simp
 |bool=>show((x:Bool)==y)=true↔_;simp
 |str=>show((x:dQ)==y)=true↔_;simp
 |ax g _=>cases ab
 |hL g _=>cases ab
 |unit=>cases ab
 |fn=>cases ab
 |pair g h b a=>
  simp only[aZ.key,and_eq_true]at ab;show(g.beq x.1 y.1&&h.beq x.2 y.2)=true↔_
  grind
structure vj(P:Program)(t:TypeId)(g:aZ):Prop where
 key:g.key=true
 eq:∀(x y:g.D) (w:World),(Op.equalIn 10000 t (.agg (g.cJ x).toArray) (.agg (g.cJ y).toArray)).run P w=.ok (g.beq x y) w
 guard:P.eqGuardType P.depth t=false
def aZ.zy:aZ->Nat->Bool
 |.int _,0=>true
 |.bool,1=>true
 |.str,2=>true
 |_,_=>false
def kU(e:TypeId->aZ->Bool):Nat->List Field->aZ->Bool
 |_,[],_=>false
 | off, [f], g => decide (f.name ≠ "_") && (beq f.offset off && e f.type g)
 | off, f :: dp, .pair g h => decide (f.name ≠ "_") && (beq f.offset off && (e f.type g && kU e (off + g.size) dp h))
 |_,_,_=>false
def mq(P:Program)(a1:cd):Nat->TypeId->aZ->Bool
 |0,_,_=>false
 |d+1,t,g=>match a1.find t with
  |none=>false
  |some bB=>match bB.ti.desc with
   |.int _=>g.zy 0
   |.bool=>g.zy 1
   |.string=>g.zy 2
   |.struct dp=>beq bB.ti.size g.size&&(!P.stoodInHeld t&&kU (mq P a1 d) 0 dp.toList g)
   |_=>false
def rI(a1:cd)(t:TypeId)(vs:bQ):Value:=match a1.find t with
 |some bB=>match mM bB.ti.desc with
  |true=>.agg vs.toArray
  |false=>vs.headD undef
 |none=>undef
theorem zz:∀ {g:aZ} (x:g.D),g.key=true->(g.cJ x).length=g.size
 |.int _,_,_=>rfl
 |.bool,_,_=>rfl
 |.str,_,_=>rfl
 |.ax _,_,h=>by cases h
 |.hL _,_,h=>by cases h
 |.unit,_,h=>by cases h
 |.fn,_,h=>by cases h
 |.pair g h,x,ab=>by
  simp only[aZ.key,and_eq_true]at ab;show(g.cJ x.1++h.cJ x.2).length=g.size+h.size;rw[length_append,zz x.1 ab.1,zz x.2 ab.2]
theorem zA{a1:cd}(f:a1.ok P){d:Nat}{x:g.D}{xs:Array Value}{off:Nat}{r:bQ}(ab:g.key=true)(he:mq P a1 d t g=true)(ak:xs.toList.drop off=g.cJ x++r)(w:World):(part t xs off).run P w=.ok (rI a1 t (g.cJ x)) w:=by
 cases d with
 |zero=>cases he
 |succ d=>
  unfold mq at he;cases aF:a1.find t with
  |none=>simp[aF]at he
  |some bB=>
   rw[aF]at he;dsimp only at he;have gV:=(cd.get f aF).ti;have J:∀v,g.cJ x=[v]->xs[off]?=some v:=λv a=>by
    have U:(xs.toList.drop off)[0]?=some v:=by rw[ak,a];rfl
    rw[List.getElem?_drop]at U
    simpa using U
   unfold part;simp only[Sem.run_bind,bI.Bg gV,Result.andThen_ok];unfold rI;rw[aF];dsimp only;have b:∀q,g.zy q=true->∃v,g.cJ x=[v]:=λq e=>by
    cases g with
    |int k=>exact⟨_,rfl⟩
    |bool=>exact⟨_,rfl⟩
    |str=>exact⟨_,rfl⟩
    |ax _=>cases ab
    |hL _=>cases ab
    |unit=>cases ab
    |fn=>cases ab
    |pair _ _=>cases q<;>cases e
   split at he
   ·rename_i az
    obtain⟨v,a⟩:=b _ he;rw[az,J v a,a]
    rfl
   ·rename_i az
    obtain⟨v,a⟩:=b _ he;rw[az,J v a,a]
    rfl
   ·rename_i az
    obtain⟨v,a⟩:=b _ he;rw[az,J v a,a]
    rfl
   ·rename_i dp az
    simp only[and_eq_true]at he;rw[az];have c:=eq_of_beq_eq_true he.1;simp only[mM,if_true,Sem.run_bind,bI.run_sizeOf gV,Result.andThen_ok,Sem.run_pure,c];have ah:xs.extract off (off+g.size)=(g.cJ x).toArray:=by
     grind [Array.toList_inj,Array.toList_extract,List.extract_eq_take_drop,Nat.add_sub_cancel_left,List.take_left',zz]
    grind
   grind
theorem ad0{a1:cd}(ay:a1.ok P){k d:Nat}(bL:∀t (g:aZ) (x y:g.D) w,g.key=true->mq P a1 k t g=true->(Op.equalIn d t (rI a1 t (g.cJ x)) (rI a1 t (g.cJ y))).run P w=.ok (g.beq x y) w) :
  ∀(dp:List Field) (off:Nat) (g:aZ) (x y:g.D) (xs ys:Array Value) (w:World),g.key=true->kU (mq P a1 k) off dp g=true->xs.toList.drop off=g.cJ x->ys.toList.drop off=g.cJ y->(Op.eqFields d xs ys dp).run P w=.ok (g.beq x y) w:=by
 intro dp
 induction dp with
 |nil=>intro off g x y xs ys w _ h;simp[kU]at h
 |cons f dp BZ=>
  intro off g x y xs ys w ab h ak aA;cases dp with
  |nil=>
   have aW : (decide (f.name ≠ "_") && (beq f.offset off && mq P a1 k f.type g)) = true := by
    cases g<;>exact h
   simp only[and_eq_true,decide_eq_true_eq]at aW;obtain⟨bc,a8,he⟩:=aW;have a8:=eq_of_beq_eq_true a8;simp only[Op.eqFields,if_pos bc,Sem.run_bind,a8,zA ay ab he (r:=[]) (by rw[ak,append_nil]),zA ay ab he (r:=[]) (by rw[aA,append_nil]),Result.andThen_ok,bL _ _ _ _ _ ab he];cases g.beq x y<;>simp
  |cons f2 dp=>
   cases g with
   |pair g U=>
    have aW : (decide (f.name ≠ "_") && (beq f.offset off && (mq P a1 k f.type g && kU (mq P a1 k) (off + g.size) (f2 :: dp) U))) = true := h
    simp only[and_eq_true,decide_eq_true_eq]at aW;obtain⟨bc,a8,he,av⟩:=aW;have a8:=eq_of_beq_eq_true a8;simp only[aZ.key,and_eq_true]at ab;have lj:xs.toList.drop off=g.cJ x.1++U.cJ x.2:=ak;have h6:ys.toList.drop off=g.cJ y.1++U.cJ y.2:=aA;have pT:=BZ (off+g.size) U x.2 y.2 xs ys w ab.2 av (by rw[<- drop_drop,lj,<- zz x.1 ab.1,List.drop_left]) (by rw[<- drop_drop,h6,<- zz y.1 ab.1,List.drop_left]);show _=Result.ok (g.beq x.1 y.1&&U.beq x.2 y.2) w;rw[Op.eqFields,if_pos bc];simp only[Sem.run_bind,a8,zA ay ab.1 he lj,zA ay ab.1 he h6,Result.andThen_ok,bL _ _ _ _ _ ab.1 he];cases ag:g.beq x.1 y.1 with
    |true=>simpa using pT
    |false=>simp
   |int _=>simp[kU]at h
   |bool=>simp[kU]at h
   |str=>simp[kU]at h
   |ax _=>simp[kU]at h
   |hL _=>simp[kU]at h
   |unit=>simp[kU]at h
   |fn=>simp[kU]at h
theorem ad1{a1:cd}(c:a1.ok P)(m:Nat):∀(k:Nat) (t:TypeId) (g:aZ) (x y:g.D) (w:World),g.key=true->mq P a1 k t g=true->(Op.equalIn (m+k) t (rI a1 t (g.cJ x)) (rI a1 t (g.cJ y))).run P w=.ok (g.beq x y) w:=by
 intro k
 induction k with
 |zero=>intro t g x y w _ h;cases h
 |succ k e=>
  intro t g x y w ab h;have d:=h;unfold mq at h;cases aF:a1.find t with
  |none=>simp[aF]at h
  |some bB=>
   rw[aF]at h;dsimp only at h;have gV:=(cd.get c aF).ti;have a:=gV.1;unfold rI;rw[aF];dsimp only
   split at h
   ·rename_i f az
    rw[az]at a ⊢;cases g with
    |int k=>exact run_equalIn_int w _ t _ _ _ _ a
    |_=>cases h
   ·rename_i az
    rw[az]at a ⊢;cases g with
    |bool=>exact run_equalIn_bool w _ t _ _ a
    |_=>cases h
   ·rename_i az
    rw[az]at a ⊢;cases g with
    |str=>
     have:=run_equalIn_string (P:=P) w (m+k) t ⟨toArray x⟩ ⟨toArray y⟩ a
     simp only[JI]at this;exact this
    |_=>cases h
   ·rename_i dp az
    rw[az]at a ⊢;simp only[and_eq_true,not_eq_true']at h;have b:P.underlying t=some (.struct dp.toList.toArray):=by simpa using a
    show(Op.equalIn (m+k+1) t (.agg _) (.agg _)).run P w=_;rw[aaS w (m+k) t _ _ b h.2.1]
    grind [ad0]
   grind
theorem vj.of{a1:cd}(b:a1.ok P){dp:Array Field}(ab:g.key=true)(aF:a1.find t=some bB)(az:bB.ti.desc=.struct dp)(h:mq P a1 12 t g=true)(a:P.eqGuardType P.depth t=false):vj P t g:=by
 refine⟨ab,λx y w=>?_,a⟩
 have:=ad1 b 9988 12 t g x y w ab h
 unfold rI at this;rw[aF]at this;dsimp only at this;rw[az]at this;exact this
section
variable {X:bx} {M:Bool} {n:Nat} {r:Option Nat} {st:aP} {Q:Exit->aP->Prop} {ops rest:List Oper} {o:Oper} {d:Nat}
theorem cM.cJ{cs:dP}{x:g.D}{c:Bool}(ab:g.key=true)(J:dN env B w (.agg cs) v)(az:dec g cs=some (c,x,[]))(aa:c=true):v=.agg (g.cJ x).toArray:=by
 obtain⟨vs,rfl,J⟩:=J;obtain⟨e,a,d,aF,U⟩:=sr J az aa;have b:a=[]:=U
 grind [bN.cJ]
end
end
section
open Go.ChangeShapes Go.WideShapes Go.ChangeAt Go.WideElems Go.RowKit
def tM:(g:aZ)->g.D->Prop
 |.int k,(x:Int)=>k.min<=x/\x<=k.max
 |.ax g,(l:List g.D)=>∀y∈l,tM g y
 |.pair g h,x=>tM g x.1/\tM h x.2
 |_,_=>True
def xe(a1:cd)(t:TypeId)(n:Nat):Bool:=match a1.find t with
 |some bB=>beq bB.ti.size n
 |none=>false
def qQ(a1:cd)(e:TypeId->aZ->Bool):Nat->List Field->aZ->Bool
 |_,[],_=>false
 |off,[f],g=>beq f.offset off&&(xe a1 f.type g.size&&e f.type g)
 |off,f::dp,.pair g h=>beq f.offset off&&(xe a1 f.type g.size&&(e f.type g&&qQ a1 e (off+g.size) dp h))
 |_,_,_=>false
def qR(a1:cd)(e:TypeId->aZ->Bool)(t:TypeId)(s:Nat):Nat->aZ->Bool
 |0,_=>false
 |1,g=>beq g.size s&&e t g
 |n+1,.pair g h=>beq g.size s&&(e t g&&qR a1 e t s n h)
 |_,_=>false
def aZ.ad2:aZ->IntKind->Bool
 |.int k,k'=>decide (k=k')
 |_,_=>false
def zB(a1:cd):Nat->TypeId->aZ->Bool
 |0,_,_=>false
 |d+1,t,g=>match a1.find t with
  |none=>false
  |some bB=>match bB.ti.desc with
   |.int k=>g.ad2 k
   |.bool=>g.zy 1
   |.string=>g.zy 2
   |.slice e=>match g with
    |.ax h=>blt 0 h.size&&(xe a1 e h.size&&zB a1 d e h)
    |_=>false
   |.struct dp=>beq bB.ti.size g.size&&qQ a1 (zB a1 d) 0 dp.toList g
   |.array n e=>beq bB.ti.size g.size&&(match a1.find e with
    |some dC=>qR a1 (zB a1 d) e dC.ti.size n g
    |none=>false)
   |_=>false
section
variable {H:Type} {enc:TypeId×Value->H} {P:Program} {W:World} {a1:cd}
theorem KU(a:a1.ok P)(h:a1.find t=some bB):P.cellsOf t=bB.ti.size:=by
 obtain⟨x,J,U,_⟩:=bI.info (cd.get a h).ti
 grind [Program.cellsOf]
theorem KV(a:a1.ok P)(h:xe a1 t n=true):P.cellsOf t=n:=by
 grind [xe,KU,eq_of_beq_eq_true]
theorem ad3{R:g.D->Prop}(m:0<g.size)(bj:P.underlying t=some (.slice e))(aa:P.cellsOf e=g.size)(E:zt enc P W e g R):zt enc P W t (.ax g) (λ(l:List g.D)=>∀y∈l,R y):=λk cs x aF=>by
 let α:={ p:g.D×bQ // R p.1/\bN (λb=>b<W.heap.size) W g p.1 p.2 }
 let f:α->bQ:=λp=>p.1.2
 have c:∀x:α,(f x).length=g.size:=λx=>x.2.2.length
 rcases DataW.trod_slice bj aF with⟨h,_⟩|⟨a,len,cap,elems,rest,n,_,h,_,_,ao,r,hlen,sB,_,_⟩
 ·subst h
  exact⟨([]:List g.D),(λy aA=>by cases aA),none,0,[],rfl,le_refl _,Nat.zero_le _,rfl,Reads.nil _ _ _,λ_ _ h=>absurd h (Nat.lt_irrefl _)⟩
 ·subst h
  rw[aa]at sB;obtain⟨l,d,B⟩:=QK (Q:=λi (y:α)=>∀j,j<g.size->W.cell? ((a.add (i * g.size)).add j)=(f y)[j]?) len (λi hi=>by
   have J:=sB i hi;have U:elems[i]?=some (elems[i]'(by omega)):=getElem?_eq_getElem (by omega);rw[U,Option.bind_eq_some_iff]at J;obtain⟨cs,ah,s⟩:=J;obtain⟨y,F,C⟩:=E _ _ _ s;exact⟨⟨(y,cs),F,C⟩,(World.cells?_some ah).2.2⟩)
  have q:Reads W (some a) len g.size (l.flatMap f):=by
   refine⟨by rw[qz f g.size c,d],λI=>?_⟩;have G:W.cell? a=some ((f l[0])[0]'(by rw[c];exact m)):=by
    grind [Addr.add,getElem?_eq_getElem]
   have w:=abf G;refine⟨a.block,a.off,congrArg some w,λj u hu=>?_⟩;have A:j<len * g.size:=by have:=(List.getElem?_eq_some_iff.1 hu).1;rwa [qz f g.size c,d]at this
   have hdiv:j / g.size<len:=(Nat.div_lt_iff_lt_mul m).2 A;have o:=Nat.mod_lt j m;have z:=B (j / g.size) (by omega) (j % g.size) o;rw[w,Addr.add_lit,Addr.add_lit,getElem?_eq_getElem (by rw[c];exact o)]at z;have L:=abe f g.size c l (j / g.size) (j % g.size) (by omega) _ (getElem?_eq_getElem (by rw[c];exact o));have K:j / g.size * g.size+j % g.size=j:=by rw[Nat.mul_comm];exact Nat.div_add_mod j g.size
   grind
  refine⟨l.map (·.1.1),λx ak=>?_,some a,cap,l.flatMap f,by rw[length_map,d],by rw[length_map,d];exact ao,r,R9 l,by rw[length_map,d];exact q,λb p r e=>?_⟩
  ·obtain⟨p,_,rfl⟩:=List.mem_map.1 ak
   exact p.2.1
  ·rw[length_map]at r
   obtain⟨b',H,v,D⟩:=q.2 (by omega);rw[e]at v;cases v;cases ak:(l.flatMap f)[0]? with
   |some u=>exact adC (D 0 u ak)
   |none=>
    exfalso
    have ah:=q.1;rw[List.getElem?_eq_none_iff]at ak;have s:0<len * g.size:=Nat.mul_pos (by omega) m;omega
theorem ad4(j:a1.ok P){e:TypeId->aZ->Bool}(k:∀t g,e t g=true->zt enc P W t g (tM g)):∀(dp:List Field) (off:Nat) (g:aZ) (cs:bQ),qQ a1 e off dp g=true->cs.length=off+g.size ->
  (∀f∈dp,∃m x,DataW.trod enc P W 0 (λ_=>true) true m f.type ((cs.drop f.offset).take (P.cellsOf f.type))=some x)->∃y:g.D,tM g y/\bN (λb=>b<W.heap.size) W g y (cs.drop off):=by
 intro dp
 induction dp with
 |nil=>intro off g cs h;simp[qQ]at h
 |cons f dp l=>
  intro off g cs h ao aF;cases dp with
  |nil=>
   have c:(beq f.offset off&&(xe a1 f.type g.size&&e f.type g))=true:=by
    cases g<;>exact h
   simp only[and_eq_true]at c;obtain⟨a,d,he⟩:=c;have a:=eq_of_beq_eq_true a;obtain⟨m,x,ak⟩:=aF f mem_cons_self;obtain⟨y,J,U⟩:=k _ _ he _ _ _ ak;rw[a,KV j d,List.take_of_length_le (by rw[List.length_drop];omega)]at U;exact⟨y,J,U⟩
  |cons s dp=>
   cases g with
   |pair g U=>
    have c:(beq f.offset off&&(xe a1 f.type g.size&&(e f.type g&&qQ a1 e (off+g.size) (s::dp) U)))=true:=h;simp only[and_eq_true]at c;obtain⟨a,d,he,p⟩:=c;have a:=eq_of_beq_eq_true a;have w:cs.length=off+(g.size+U.size):=ao;obtain⟨m,x,ak⟩:=aF f mem_cons_self;obtain⟨v,ah,i⟩:=k _ _ he _ _ _ ak;rw[a,KV j d]at i;obtain⟨u,n,r⟩:=l (off+g.size) U cs p (by omega) (λq o=>aF q (mem_cons_of_mem _ o));refine⟨(v,u),⟨ah,n⟩,_,_,?_,i,r⟩;rw[<- drop_drop,List.take_append_drop]
   |int _=>simp[qQ]at h
   |bool=>simp[qQ]at h
   |str=>simp[qQ]at h
   |ax _=>simp[qQ]at h
   |hL _=>simp[qQ]at h
   |unit=>simp[qQ]at h
   |fn=>simp[qQ]at h
theorem ad5{e:TypeId->aZ->Bool}(f:∀g,e t g=true->zt enc P W t g (tM g)):∀(n:Nat) (a:Nat) (g:aZ) (cs:bQ),qR a1 e t s n g=true->cs.length=a * s+g.size ->
  (∀i,i<n->∃m x,DataW.trod enc P W 0 (λ_=>true) true m t ((cs.drop ((a+i) * s)).take s)=some x)->∃y:g.D,tM g y/\bN (λb=>b<W.heap.size) W g y (cs.drop (a * s)):=by
 intro n
 induction n with
 |zero=>intro a g cs h;simp[qR]at h
 |succ n k=>
  intro a g cs h ao aF;cases n with
  |zero=>
   have c:(beq g.size s&&e t g)=true:=by
    cases g<;>exact h
   simp only[and_eq_true]at c;obtain⟨d,he⟩:=c;have d:=eq_of_beq_eq_true d;obtain⟨m,x,ak⟩:=aF 0 (by omega);obtain⟨y,J,U⟩:=f _ he _ _ _ ak;rw[Nat.add_zero,List.take_of_length_le (by rw[List.length_drop];omega)]at U;exact⟨y,J,U⟩
  |succ n=>
   cases g with
   |pair g U=>
    have c:(beq g.size s&&(e t g&&qR a1 e t s (n+1) U))=true:=h;simp only[and_eq_true]at c;obtain⟨d,he,l⟩:=c;have d:=eq_of_beq_eq_true d;have u:cs.length=a * s+(g.size+U.size):=ao;obtain⟨m,x,ak⟩:=aF 0 (by omega);obtain⟨r,ah,o⟩:=f _ he _ _ _ ak;obtain⟨q,j,p⟩:=k (a+1) U cs l (by rw[add_mul];omega) (λi hi=>by
     have:=aF (i+1) (by omega)
     rw[show a+1+i=a+(i+1) by omega];exact this)
    refine⟨(r,q),⟨ah,j⟩,_,_,?_,o,p⟩;rw[Nat.add_zero,add_mul,Nat.one_mul,<- drop_drop,List.take_append_drop]
   |int _=>simp[qR]at h
   |bool=>simp[qR]at h
   |str=>simp[qR]at h
   |ax _=>simp[qR]at h
   |hL _=>simp[qR]at h
   |unit=>simp[qR]at h
   |fn=>simp[qR]at h
theorem ad7(c:a1.ok P):∀(d:Nat) (t:TypeId) (g:aZ),zB a1 d t g=true->zt enc P W t g (tM g):=by
 intro d
 induction d with
 |zero=>intro t g h;cases h
 |succ d l=>
  intro t g h k cs x ak;unfold zB at h;cases aF:a1.find t with
  |none=>simp[aF]at h
  |some bB=>
   rw[aF]at h;dsimp only at h;have gV:=(cd.get c aF).ti;have a:=gV.1;have B:=KU c aF
   split at h
   ·rename_i z az
    rw[az]at a;cases g with
    |int u=>
     have:u=z:=of_decide_eq_true h
     subst this;exact adB a k cs x ak
    |_=>cases h
   ·rename_i az
    rw[az]at a;cases g with
    |bool=>
     obtain⟨b,rfl,_⟩:=DataW.trod_bool a ak;exact⟨b,trivial,rfl⟩
    |_=>cases h
   ·rename_i az
    rw[az]at a;cases g with
    |str=>
     obtain⟨s,rfl,_⟩:=DataW.trod_string a ak;exact⟨s.data.toList,trivial,rfl⟩
    |_=>cases h
   ·rename_i e az
    rw[az]at a;cases g with
    |ax g=>
     simp only[and_eq_true]at h;exact ad3 (dH h.1) a (KV c h.2.1) (l _ _ h.2.2) k cs x ak
    |_=>cases h
   ·rename_i dp az
    rw[az]at a;simp only[and_eq_true]at h;have r:=eq_of_beq_eq_true h.1;obtain⟨xs,n,_,_,v,w,j⟩:=DataW.trod_struct a ak;obtain⟨y,J,U⟩:=ad4 c l dp.toList 0 g cs h.2 (by omega) (λf p=>by
     obtain⟨i,hi,rfl⟩:=List.mem_iff_getElem.1 p;have A:i<dp.size:=by simpa using hi
     have ah:=j i dp[i] (Array.getElem?_eq_getElem A);rw[getElem?_eq_getElem (by omega)]at ah;exact⟨n,_,by simpa using ah⟩)
    grind
   ·rename_i n e az
    rw[az]at a;simp only[and_eq_true]at h;have r:=eq_of_beq_eq_true h.1;obtain⟨xs,m,_,_,v,w,j⟩:=DataW.trod_array a ak;have U:=h.2
    split at U
    ·rename_i dC q
     rw[KU c q]at j;obtain⟨y,J,ah⟩:=ad5 (λg o=>l e g o) n 0 g cs U (by omega) (λi hi=>by
      have ah:=j i hi;rw[getElem?_eq_getElem (by omega)]at ah;rw[zero_add];exact⟨m,_,ah⟩)
     grind
    grind
   grind
theorem aea(f:a1.ok P)(aF:a1.find t=some bB)(bl:mM bB.ti.desc=true)(h:zB a1 12 t g=true){r:Reach}{ru:Nat}{d:DataW H}{ps:List MemPlace}(a:Value.okWide P W r ru t v)(az:DataW.Trod enc P W 0 (λ_=>true) true t v d ps) :
  ∃y:g.D,tM g y/\∀env aK,pH g y 0 g.size=some aK->dN env (λb=>b<W.heap.size) W (.agg aK) v:=by
 have gV:=(cd.get f aF).ti;obtain⟨cs,rfl⟩:∃cs,v=.agg cs:=by
  have k:=gV.1;unfold Value.okWide at a;rw[k]at a;cases B0:bB.ti.desc with
  |struct dp=>rw[B0]at a;obtain⟨cs,e,_⟩:=a;exact⟨cs,e⟩
  |array n e=>rw[B0]at a;obtain⟨cs,e,_⟩:=a;exact⟨cs,e⟩
  |_=>rw[B0]at bl;cases bl
 obtain⟨n,bc⟩:=az;obtain⟨y,J,U⟩:=ad7 f 12 t g h n _ _ bc;refine⟨y,J,λenv aK i=>?_⟩;obtain⟨us,an,aa⟩:=bN.cells U i;have ao:cs.toList.length=g.size:=U.length;have hu:us=cs.toList:=by
  refine ext_getElem? λj=>?_
  by_cases c:j<us.length
  ·have:=an.2 j _ (getElem?_eq_getElem c)
   rw[zero_add]at this;rw[getElem?_eq_getElem c];exact this.symm
  ·rw[getElem?_eq_none (by omega),getElem?_eq_none (by rw[ao];have:=an.1;omega)]
 subst hu;exact⟨cs.toList,rfl,aa⟩
end
abbrev aJ:aZ:=.pair (.int .u8) (.int .i64)
abbrev ad:Type:=Int×Int
abbrev bJ:=List ad
abbrev bF:=List bJ
abbrev FD:aZ:=.pair (.int .u8) (.ax (.int .u8))
abbrev KX:Type:=Int×bR
abbrev lT:aZ:=.pair (.int .i64) (.ax (.int .u8))
abbrev lk:Type:=Int×bR
abbrev eA:aZ:=.pair .bool (.pair .bool (.pair .bool .bool))
abbrev Sn:Type:=Bool×(Bool×(Bool×Bool))
abbrev qS:aZ:=.pair (.int .u8) (.ax aJ)
abbrev mr:Type:=Int×bJ
abbrev c3:aZ:=.pair aJ (.pair .bool (.int .u8))
abbrev b5:Type:=ad×(Bool×Int)
abbrev dd:=List b5
abbrev hz:aZ:=.pair aJ aJ
abbrev eJ:Type:=ad×ad
abbrev aec:aZ:=.pair (.ax aJ) (.ax aJ)
abbrev aed:Type:=bJ×bJ
abbrev cB:aZ:=.pair aJ (.pair aJ (.int .i64))
abbrev cb:Type:=ad×(ad×Int)
abbrev dI:=List cb
abbrev fC:aZ:=.pair (.ax (.ax aJ)) (.ax (.ax aJ))
abbrev hI:Type:=bF×bF
abbrev xg:aZ:=.pair (.int .i64) (.pair .bool (.ax c3))
abbrev KY:Type:=Int×(Bool×dd)
abbrev c4:aZ:=.pair (.int .u8) (.pair (.int .u8) hz)
abbrev bH:Type:=Int×(Int×eJ)
abbrev dc:=List bH
abbrev bU:aZ:=.pair .bool (.pair (.int .i64) xg)
abbrev aU:Type:=Bool×(Int×KY)
abbrev b2:=List aU
abbrev bW:aZ:=.pair (.int .u8) (.pair .bool (.pair (.ax aJ) (.ax c3)))
abbrev a7:Type:=Int×(Bool×(bJ×dd))
abbrev cq:=List a7
abbrev bY:=List cq
abbrev o8:aZ:=.pair (.ax (.ax bW)) (.pair (.ax cB) aec)
abbrev kV:Type:=bY×(dI×aed)
abbrev pY:aZ:=.pair (.int .i64) (.pair fC (.pair (.ax bU) o8))
abbrev mu:Type:=Int×(hI×(b2×kV))
end
section
section
variable {env:Nat->Loc} {B:Nat->Prop} {w:World}
end
def aZ.tP:aZ->Bool
 |.pair _ _=>true
 |_=>false
theorem dZ.aee{x:g.D}(h:bN B w g x vs)(an:g.tP=true):dZ B w g x (.agg vs.toArray):=by
 cases g with
 |pair a b=>exact⟨vs,rfl,h⟩
 |_=>cases an
theorem dZ.aef{x:g.D}(h:bN B w g x [v])(an:g.tP=false):dZ B w g x v:=by
 cases g with
 |pair a b=>cases an
 |_=>exact h
section
variable {X:bx} {M:Bool} {n:Nat} {r:Option Nat} {st:aP} {Q:Exit->aP->Prop} {ops rest:List Oper} {o:Oper} {d:Nat}
end
end
section
section
variable {P:Program} {b:Frame} {a:Act} {k:List Item} {cs:List Frame} {w:World} {Q:Exit->Act->World->Prop} {F:Fence} {n:Nat}
theorem B1{c:Code}:step P (lone (b.atR a (.code (.scope c)::k)) cs w)=.next (lone (b.atR a (.code c :: .inScope c::k)) cs w):=
 step_lone_go (by simp[stepG,stepG.exec,Frame.atR])
theorem aeg{c:Code}:step P (lone (b.atR a (.inScope c::k)) cs w)=.next (lone (b.atR a k) cs w):=
 step_lone_go (by simp[stepG,stepG.exec,Frame.atR])
theorem aeh{c:Code}(h:c.wpIn F n P (Exit.noGoto Q) a w):(Code.scope c).wpIn F n P Q a w:=by
 intro b k cs o ag j;have i:(lone (b.atR a (.code (.scope c)::k)) cs w).fenced P F:=fenced_calm ag j rfl;obtain⟨e,m,g,d,f⟩:=h b (.inScope c::k) cs o ag j;have ak:∀id,exitTo id (.inScope c::k)=exitTo id k:=λid=>by simp[exitTo]
 cases e with
 |normal=>exact⟨.normal,m,g,d,.head i B1 (StepsIn.trans f (.one (fenced_calm ag j rfl) aeg))⟩
 |exit id=>exact⟨.exit id,m,g,d,.of_steps (.one i B1) ⟨λk' ab=>f.1 k' (by rw[ak];exact ab),λj ab=>f.2 j (by rw[ak];exact ab)⟩⟩
 |goto l=>exact d.elim
 |ret=>exact⟨_,m,g,d,.of_steps (.one i B1) f⟩
 |panic p=>exact⟨_,m,g,d,.of_steps (.one i B1) f⟩
 |outgrown=>exact⟨_,m,g,d,.of_steps (.one i B1) f⟩
end
section
variable {X:bx} {M:Bool} {n:Nat} {r:Option Nat} {st:aP} {Q:Exit->aP->Prop} {c:Code}
theorem aei{l:Nat}(h:Q .normal st):hf X M n r (.label l) st Q:=λR W aC a w ae=>wpIn_label ⟨st,h,ae⟩
end
end
section
section
variable {X:bx} {M:Bool} {n:Nat} {r:Option Nat} {st:aP} {Q:Exit->aP->Prop} {ops rest:List Oper} {o:Oper} {d:Nat}
end
end
section
theorem aej{m:Nat}{i':bI}{cs:bQ}(bj:P.underlying t=some (.array m e))(he:bI.ok P e i')(c:j<m)(a:(part e cs.toArray (j * i'.size)).run P w=.ok v w):(Instr.index t (.agg cs.toArray) (.int k (j:Int))).run P w=.ok v w:=by
 have b:(0:Int)<=(j:Int):=Int.natCast_nonneg j;unfold Instr.index;simp only[asIntOf,Sem.run_bind,Sem.run_pure,Result.andThen_ok,run_underlying bj]
 grind [Sem.run_bind,bI.run_sizeOf,Result.andThen_ok,Int.toNat_natCast]
theorem aek{i':bI}{l:List g.D}(he:bI.ok P e i')(aF:Flat (bN B ai g) l vs)(i:j<l.length)(k:g.size=i'.size)(d:mM i'.desc=g.tP)(b:(g.tP || beq g.size 1)=true) :
  ∃v,(part e vs.toArray (j * i'.size)).run P w=.ok v w/\dZ B ai g (l.getD j g.zero) v:=by
 have n:l[j]?=some (l.getD j g.zero):=by rw[List.getD_eq_getElem?_getD,getElem?_eq_getElem i];rfl
 have U:=Flat.get (λ_ _=>bN.length) aF n;have m:=bN.length U;cases an:g.tP with
 |true=>
  refine⟨.agg (vs.toArray.extract (j * i'.size) (j * i'.size+i'.size)),?_,?_⟩
  ·unfold part
   simp[bI.Bg he,d,an,bI.run_sizeOf he]
  ·have:=dZ.aee U an
   rw[<- k];have f:vs.toArray.extract (j * g.size) (j * g.size+g.size)=((vs.drop (j * g.size)).take g.size).toArray:=by
    grind
   rw[f];exact this
 |false=>
  rw[an,Bool.false_or]at b;have a:=eq_of_beq_eq_true b;obtain⟨v,c⟩:∃v,(vs.drop (j * g.size)).take g.size=[v]:=by
   match hm:(vs.drop (j * g.size)).take g.size,m with
   |[v],_=>exact⟨v,rfl⟩
   |[],h=>simp[a]at h
   |_::_::_,h=>simp[a]at h
  have o:vs[j * i'.size]?=some v:=by
   have:=congrArg (·[0]?) c
   grind
  refine⟨v,?_,dZ.aef (by rw[<- c];exact U) an⟩;unfold part
  simp[bI.Bg he,d,an,o]
def FE(g:aZ)(m:Nat):bn->Option (Bool×List g.D)
 |.agg cs=>match FC g m cs with
  |some (c,l,[])=>some (c,l)
  |_=>none
 |.arr g' l=>match decEq g' g with
  |isTrue h=>some (true,h ▸ l)
  |isFalse _=>none
 |_=>none
theorem ael{m:Nat}{x:bn}{c:Bool}{l:List g.D}(h:dN env B w x v)(bl:FE g m x=some (c,l))(aa:c=true):∃vs,v=.agg vs.toArray/\Flat (bN B w g) l vs:=by
 unfold FE at bl
 split at bl
 ·split at bl
  ·rename_i c' l' az
   cases bl;obtain⟨vs,rfl,J⟩:=h;obtain⟨_,f,b,e,U,ah⟩:=Sl J az aa;have d:b=[]:=ah
   grind
  grind
 ·split at bl
  ·rename_i a _
   subst a;cases bl;exact h
  grind
 grind
section
variable {X:bx} {M:Bool} {n:Nat} {r:Option Nat} {st:aP} {Q:Exit->aP->Prop} {ops rest:List Oper} {o:Oper} {d:Nat}
end
end
section
theorem aem(s:dQ)(a b:Nat):Value.string ((ByteArray.mk s.toArray).extract a b)=fF ((s.take b).drop a):=by
 unfold fF
 congr 1
 apply ByteArray.ext
 grind [ByteArray.data_extract,Array.ext',Array.toList_extract,List.drop_take]
section
variable {X:bx} {M:Bool} {n:Nat} {r:Option Nat} {st:aP} {Q:Exit->aP->Prop} {ops rest:List Oper} {o:Oper} {d:Nat}
theorem KZ{s:dQ}(bj:P.underlying t=some .string){lo hi:Option Value}{a b:Nat}(h:(Instr.sliceBounds false s.length s.length lo hi none).run P w=.ok (a,b,s.length) w):(Instr.sliceAt t (fF s) lo hi none).run P w=.ok (fF ((s.take b).drop a)) w:=by
 have c:(ByteArray.mk s.toArray).size=s.length:=by simp[ByteArray.size]
 unfold Instr.sliceAt Instr.slice;simp only[fF,Sem.run_bind,run_underlying bj,Result.andThen_ok,c,h,Option.isSome_none,Bool.false_eq_true,if_false,Sem.run_pure]
 grind [aem,fF]
end
end
section
section
variable {P:Program} {o:Oper} {n d:Nat} {D:List Deferred} {L:List (Nat×Value)} {a:Act} {w ai:World} {B:Nat->Prop} {H:cW} {T:List (TypeId×bI)} {ops:Array Oper} {KK:Act->World->Prop}
theorem So{s:Operand}{i i':bI}{A r:Option Addr}{k m cc:Nat}{xs g:bQ}(c:Sym n D L B ai H a w)(C:o.op=.call { callee:=.builtin .append,args:=#[s,x],argTypes:=#[t,t] })(z:o.guard=none/\o.dst=some d)(az:blt d n=true)(G:h5 P T)(J:T.lookup t=some i)(U:i.desc=.slice e)(ah:T.lookup e=some i')(V:blt 0 i'.size=true)(K:i'.zero.cells.size=i'.size)(F:aD L s=some (.slice A k k))(ak:aD L x=some (.slice r m cc))(f:Reads w A k i'.size xs)(l:Reads w r m i'.size g)(X:∀u∈g,u.oneCell'=true)(R:(k+m) * i'.bytes<=140737488355328)(ag:k+m<=140737488355328)(bw:m=0->∀aS w',Sym n D ((d,.slice A k k)::L) B ai H aS w'->KK aS w')(h:∀M c' aS w',Sym n D ((d,.slice M (k+m) c')::L) B ai (.row M c' e i'.size (k+m) (xs++g)::H) aS w'->KK aS w'):fa P ops o KK a w:=by
 have E:=(G _ _ J).1;rw[U]at E;have N:=G _ _ ah
 by_cases ac:m=0
 ·subst ac
  have I:(execOp a.eval o).run P w=.ok (.value (.slice A k k)) w:=by
   have ao:(Builtin.append_ #[t,t] o.type #[.slice A k k,.slice r 0 cc]).run P w=.ok (.slice A k k) w:=by
    have ad:=bI.run_sizeOf N w;have ar:(Builtin.firstCells i'.size 0 (.slice r 0 cc)).run P w=.ok #[] w:=by
     cases r<;>simp[Builtin.firstCells,loadCells,loadCellsFrom]
    simp only[Builtin.append_]
    simp[run_underlying E,Builtin.lenOf]
    cases A<;>simp[storeCells,ad,ar]
   simp[execOp,C,resolve,invoke,builtin,c.aD F,c.aD ak,ao]
  exact tp c z az I c.aQ (bw rfl)
 ·have am:0<m:=by omega
  cases A with
  |none=>
   have ab:k=0:=by
    by_cases ab:k=0
    ·grind
    ·obtain⟨b,p,e,_⟩:=f.2 (by omega)
     grind
   subst ab;have ap:xs=[]:=List.eq_nil_of_length_eq_zero (by rw[f.1];simp);subst ap;have au:Sym n D L B ai (.row none 0 e i'.size 0 []::H) a w:=⟨c.st,c.aQ.uQ e i'.size⟩
   exact EB au C z az G J U ah V K F ak yW l X R ag h
  |some S=>
   obtain⟨inf,aq,O,ae,aj⟩:=bI.info N;obtain⟨aa,Z,y,Y⟩:=l.2 am;subst y;have holds:∀j u,xs[j]?=some u->w.cell? (S.add j)=some u:=λj u hu=>by
    have W:j<xs.length:=(List.getElem?_eq_some_iff.1 hu).1;rw[f.1]at W;have ab:0<k:=by
     grind
    obtain⟨b,p,y,av⟩:=f.2 ab
    grind [Addr.add_lit]
   have Q:(xs++g).length=(k+m) * i'.size:=by rw[length_append,f.1,l.1,add_mul]
   have I:=run_append_grow (P:=P) w t o.type e inf i'.zero E aq aj S k k xs (by rw[f.1,O]) holds ⟨aa,Z,none⟩ m cc g (by rw[l.1,O]) (λj u hu=>by rw[Addr.add_lit];exact Y j u hu) (by omega) (by omega) (growslice_fits (by omega) (by rw[ae];exact R));have al:=grownCap_ge w (k+m) k e;have af:grownCap w (k+m) k e<=maxLen:=grownCap_le_maxLen w (k+m) k e (by simp only[maxLen];omega);refine tp c z az (v:=.slice (some ⟨w.heap.size,0,none⟩) (k+m) (grownCap w (k+m) k e)) (w':=w.drew.alloc (.cells (xs.toArray++g.toArray++Builtin.zeroCells i'.zero.cells (grownCap w (k+m) k e-(k+m))) e)) (by simp[execOp,C,resolve,invoke,builtin,c.aD F,c.aD ak,I]) ?_ (h (some ⟨w.heap.size,0,none⟩) (grownCap w (k+m) k e));have nA:=c.aQ.drew;have bl:=nA.alloc (.cells (xs.toArray++g.toArray++Builtin.zeroCells i'.zero.cells (grownCap w (k+m) k e-(k+m))) e);have an:=List.pairwise_cons.1 bl.apart;refine⟨bl.below,bl.base,λet iT=>?_,List.Pairwise.cons (λet iT q y=>an.1 et iT q (by simpa [bm.has] using y)) an.2⟩
   rcases List.mem_cons.1 iT with rfl|iT
   ·refine⟨Q,.inr ⟨w.heap.size,_,(0,0),rfl,c.aQ.fresh,heap_alloc_new w.drew _,.inl rfl,al,af,?_,?_⟩⟩
    ·simp only[Array.size_append,List.size_toArray,size_zeroCells,K,f.1,l.1,<- add_mul]
     congr 1
     omega
    ·simp only[Array.toList_append,append_assoc]
     rw[<- append_assoc,<- Q];exact List.take_left
   ·exact bl.ok et (mem_cons_of_mem _ iT)
end
section
variable {X:bx} {M:Bool} {n:Nat} {r:Option Nat} {st:aP} {Q:Exit->aP->Prop} {ops rest:List Oper} {o:Oper} {d:Nat}
def hh(X:bx)(n:Nat)(o:Oper)(st st':aP):Prop:=∀(R:Nat->Prop) (W:World) (aC:fe) (ks:bG) (env:Nat->Loc) (B:Nat->Prop) (ai:World) (H:cW) (a:Act) (w:World),bO X R W aC n ks env B ai H st a w->∀(KK:Act->World->Prop) (l:List Oper),(∀aS w' env' H',bO X R W aC n ks env' B ai H' st' aS w'->KK aS w')->fa X.P l.toArray o KK a w
theorem FF{E:bG}{aK:hU}{fuel:Nat}(hi:nth ops i=some o)(an:hh X n o st st')(j:fz E aK.listed i=false)(ao:aK.listed.setIfInBounds i true=l')(h:jh X M n ops E fuel ⟨l',false,false,aK.lR,aK.all⟩ st' Q):sy X M n ops E fuel aK st Q i:=by
 intro R W aC e g cL F ks env B ai H a w d ae f;refine⟨o,mm hi,an R W aC ks env B ai H a w ae _ _ λaS w' env' H' b=>?_⟩;have c:=f.lost (H':=H') (l:=l');rw[ao];exact⟨⟨λhe=>(by rw[j]at he;cases he),c.F b⟩,h R W aC e g cL F ks env' B ai H' aS w' d b c⟩
theorem aen(D:X.a1.ok X.P){ab:Bool}{id ad:Nat}{I:aZ}{l i:List g.D}{L:Value}(P:o.op=.call ⟨.builtin .append,⟨[x,y]⟩,⟨[t,t]⟩⟩)(O:o.guard=none/\o.dst=some d)(az:(blt d n&&blt id h1)=true)(bj:X.a1.find t=some bB)(c6:bB.ti.desc=.slice e)(he:X.a1.find e=some ⟨⟨aK,j,ad,L⟩,some I⟩)(ak:bu X st.L x=some (ab,.c (.ax id)))(al:ab=true)(aA:bu X st.L y=some (g2,dW))(ao:g2=true)(am:bh st.H id=some (.gT e g l))(ap:beq g.size j=true)(ax:nD st g dW=some i)(aa:dk ad (l.length+i.length)=true):hh X n o st ⟨(d,.c (.ax id))::fS id .dead st.L,(id,.gT e g (l++i))::en id .dead st.H⟩:=by
 intro R W aC ks env B ai H a w h KK lo E;obtain⟨vx,ac,av⟩:=h.aD ak al;obtain⟨vy,V,aw⟩:=h.aD aA ao;obtain⟨F,U,ar⟩:=(cd.get D he).g I rfl;obtain⟨T,S,J,C⟩:=n2 (cd.get D bj).ti (cd.get D he).ti;dsimp only at F U C;have ag:L.cells.size=j:=by
  have:L.cells.toList.length=j:=by rw[U,<- F];exact bN.length (bN.eO (B:=B) (w:=ai) I)
  simpa using this
 simp only[and_eq_true]at az;obtain⟨az,aB⟩:=az;have r:=eq_of_beq_eq_true ap;simp only[dk,and_eq_true,decide_eq_true_eq]at aa;obtain⟨aE,cC,s,rfl,v,u⟩:=tx h ax aw;obtain⟨A,c,m,af,rfl⟩:=av;obtain⟨et,K,⟨f,k',ah,aD⟩,p,M⟩:=h.ET (d:=d) (b':=.gT e g (l++i)) am (λq an=>by
  obtain⟨_,Q,bb⟩:=h.dB _ _ an;rw[af]at Q
  rcases bb with⟨b,bb⟩|bb
  ·rw[<- Q]at bb;cases bb
  ·have:=dH aB;omega)
 rw[af]at ah;cases ah;have N:blt 0 j=true:=by rw[<- F];exact Nat.ble_eq_true_of_le ar
 rcases aD with⟨xs,rfl,dh⟩|⟨rfl,rfl,e1,xs,dh,im⟩
 ·rw[r]at p u
  refine EB h.sym P O az S J c6 C N ag ac V p u (Flat.jr (λ_ _=>bN.jr) v) aa.1 aa.2 λf c' aS w' bt=>?_
  obtain⟨H',_,k⟩:=M (.row f c' (l++i).length) (.row f c' e g.size (l++i).length (xs++s)) aS w' (.c (.ax id)) _ ⟨f,c',fi,.inl ⟨_,rfl,dh.append v⟩⟩ ⟨f,c',_,fi,by rw[length_append]⟩ (by rw[r,length_append];exact bt.aQ) bt.st;exact E aS w' _ H' k
 ·have aj:=im.kJ h.aQ
  rw[r]at aj u;refine So h.sym P O az S J c6 C N ag ac V aj u (Flat.jr (λ_ _=>bN.jr) v) aa.1 aa.2 (λaq aS w' bt=>?_) λf c' aS w' bt=>?_
  ·have ay:i=[]:=List.eq_nil_of_length_eq_zero aq
   subst ay;obtain⟨Y,Z,G,z⟩:=p;obtain⟨H',_,k⟩:=M (.row A l.length (l++[]).length) (.row none 0 e g.size 0 []) aS w' (.c (.ax id)) (.slice A l.length l.length) ⟨A,l.length,fi,.inr ⟨rfl,by simp,e1,xs,by rw[append_nil];exact dh,by rw[append_nil];exact im⟩⟩ ⟨A,l.length,_,fi,by simp⟩ (by rw[z];dsimp only;rw[<- G];exact bt.aQ) bt.st;exact E aS w' _ H' k
  ·obtain⟨Y,Z,G,z⟩:=p
   obtain⟨H',_,k⟩:=M (.row f c' (l++i).length) (.row f c' e g.size (l++i).length (xs++s)) aS w' (.c (.ax id)) (.slice f (l.length+i.length) c') ⟨f,c',fi,.inl ⟨_,rfl,dh.append v⟩⟩ ⟨f,c',_,fi,by rw[length_append]⟩ (by
    have ae:=bt.aQ;rw[G]at ae;rw[z];dsimp only;have an:(bm.row f c' e j (l.length+i.length) (xs++s)::(Y++bm.row none 0 e g.size 0 []::Z)).Perm (bm.row none 0 e g.size 0 []::(Y++bm.row f c' e j (l.length+i.length) (xs++s)::Z)):=by
     refine(List.Perm.cons _ List.perm_middle).trans ?_;refine(List.Perm.swap _ _ _).trans (List.Perm.cons _ List.perm_middle.symm)
    have au:=(ae.perm an).fb (List.sublist_cons_self _ _);rw[r,length_append];exact au) bt.st
   exact E aS w' _ H' k
end
section
variable {X:bx} {n:Nat} {st:aP}
def tR(id:Nat)(st:aP):Option aP:=
 match bh st.H id with
 |some (.gT _ g l)=>some ⟨fS id (.bz g l none) st.L,en id (.bz g l none) st.H⟩
 |_=>none
theorem Sp{c:cz}{id:Nat}:∀ {l:bC},bh l id=some b->bh (qr id c l) id=some c
 |[],h=>by cases h
 |(k,b')::r,h=>by
  rw[cO]at h;unfold qr
  split
  ·grind [cO,eq_of_beq_eq_true]
  ·rename_i ab
   have a:¬id=k:=λe=>by rw[e,beq_refl]at ab;cases ab
   rw[if_neg a]at h;rw[cO,if_neg a];exact Sp h
theorem Sq{id:Nat}{z:bs}:∀ {l:bC} {a:cz},bh l id=some a->en id z (qr id b l)=en id z l
 |[],_,h=>by cases h
 |(k,b')::r,a,h=>by
  rw[cO]at h;unfold qr;cases ab:beq k id with
  |true=>simp only[en,ab]
  |false=>
   have c:¬id=k:=λe=>by rw[e,beq_refl]at ab;cases ab
   rw[if_neg c]at h;simp only[en,ab,Sq h]
theorem cj.tR{id:Nat}(aF:tR id st=some st'):cj X n st st':=λR W aC M a w ⟨ks,env,B,ai,H,d,h⟩=>by
 unfold Go.Proofs.YtijeenjclhajhaaGreatDoor.tR at aF
 split at aF
 ·rename_i t g l p
  cases aF;obtain⟨et,K,⟨A,k,he,D⟩,⟨Y,Z,j,r⟩,o⟩:=h.oU (b':=.row t g l none) p
  rcases D with⟨xs,rfl,dh⟩|⟨rfl,rfl,e1,xs,dh,im⟩
  ·obtain⟨H',c⟩:=o _ a w ⟨A,k,xs,he,rfl,dh,λ_ b=>by cases b⟩ (by rw[r];dsimp only;rw[<- j];exact h.aQ) h.bV
   have i:Go.Proofs.YtijeenjclhajhaaGreatDoor.da id ⟨st.L,qr id (.row t g l none) st.H⟩=some ⟨fS id (.bz g l none) st.L,en id (.bz g l none) st.H⟩:=by
    grind [Go.Proofs.YtijeenjclhajhaaGreatDoor.da,Sp,Sq]
   exact cj.da (X:=X) (n:=n) i R W aC M a w ⟨ks,env,B,ai,H',d,c⟩
  ·have f:∀v,dw env B ai (.ax id) v->dw env B ai (.bz g l none) v:=by
    rintro v ⟨E,c',m,e,rfl⟩;rw[he]at e;cases e;exact⟨A,l.length,xs,rfl,le_refl _,e1,(λ_ b=>by cases b),dh,im⟩
   obtain⟨H2,J,U⟩:=h.heap.del (id:=id) (env':=env) (λ_ _=>rfl) f;refine⟨ks,env,B,ai,H2,d,h.size,h.defs,λq u hu=>?_,U,h.aQ.fb (J.append_right _),h.sub,h.new,h.dB,h.base,h.eg⟩;obtain⟨z,C,rfl⟩:=rq hu;obtain⟨y,c,s⟩:=h.has q z C;exact⟨y,c,eI.sub (λ_ _=>rfl) f s⟩
 grind
end
end
section
section
variable {X:bx} {M:Bool} {n:Nat} {r:Option Nat} {st:aP} {Q:Exit->aP->Prop} {ops rest:List Oper} {o:Oper} {d:Nat} {sa:bn}
theorem aeo(q:X.a1.ok X.P){T:TypeId}{id d2:Nat}{v:Bool}{l:List (List g.D)}{j:Bool}(f:o.op=.load t x)(bj:X.a1.find t=some bB)(D:mM bB.ti.desc=false)(ak:bu X st.L x=some (j,.c (.eT id 1 i 0)))(s:j=true)(r:bh st.H id=some (.cN v T g l cap i d2)):jq X st o (.c (.ax d2)):=by
 intro R W aC n ks env B ai H a b9 ae;obtain⟨vx,J,b,c,m,he,rfl⟩:=ae.aD ak s;obtain⟨et,K,⟨A,k,ys,d,c',e,h,rfl,u,hi,z,_⟩,aF⟩:=ae.heap.gA r;rw[he]at h;cases h;have E:ys.length=l.length:=qA.qz u;refine⟨.slice d e c',⟨d,c',e,z,rfl⟩,λw p=>?_⟩;have y:eY w (λk=>R k\/B k) T 1 (some ⟨b,0,none⟩) c l.length (ys.set i (.slice d e c')):=(p (by rw[f];rfl)).ok _ aF.more.mem;have C:w.cell? ⟨b,i * 1+0,none⟩=some (.slice d e c'):=by
  rw[y.cells rfl _ (by omega)]
  grind
 exact y3 ae.bV f (cd.get q bj).ti D J C
theorem aep{t':TypeId}{v:Operand}{c fp cC:Bool}{cs aK:dP}{x y:g.D}(b:vj X.P t g)(e:o.op=.binOp .eql t u v t')(hu:bu X st.L u=some (c,.agg cs))(h:c=true)(d:bu X st.L v=some (g2,.agg aK))(i:g2=true)(ak:dec g cs=some (fp,x,[]))(k:fp=true)(aA:dec g aK=some (cC,y,[]))(j:cC=true):jq X st o (.c (.val (.bool (g.beq x y)))):=by
 intro R W aC n ks env B ai H a b9 ae;obtain⟨l,J,U⟩:=ae.aD hu h;obtain⟨vv,ah,f⟩:=ae.aD d i;rw[cM.cJ b.key U ak k]at J;rw[cM.cJ b.key f aA j]at ah;exact⟨_,rfl,λw _=>aaQ ae.bV e J ah b.guard (b.eq x y) w⟩
theorem aeq{t':TypeId}{v:Operand}{c fp cC:Bool}{cs aK:dP}{x y:g.D}(b:vj X.P t g)(e:o.op=.binOp .neq t u v t')(hu:bu X st.L u=some (c,.agg cs))(h:c=true)(d:bu X st.L v=some (g2,.agg aK))(i:g2=true)(ak:dec g cs=some (fp,x,[]))(k:fp=true)(aA:dec g aK=some (cC,y,[]))(j:cC=true):jq X st o (.c (.val (.bool (!(g.beq x y))))):=by
 intro R W aC n ks env B ai H a b9 ae;obtain⟨l,J,U⟩:=ae.aD hu h;obtain⟨vv,ah,f⟩:=ae.aD d i;rw[cM.cJ b.key U ak k]at J;rw[cM.cJ b.key f aA j]at ah;exact⟨_,rfl,λw _=>aaR ae.bV e J ah b.guard (b.eq x y) w⟩
end
end
section
section
variable {env:Nat->Loc} {B B':Nat->Prop} {w w':World}
end
end
section
section
variable {env:Nat->Loc} {B:Nat->Prop} {w:World}
end
end
section
section
variable {P:Program} {ops:Array Oper} {o:Oper} {KK:Act->World->Prop} {n:Nat} {D:List Deferred} {L:List (Nat×Value)} {B:Nat->Prop} {ai:World} {H:cW} {a:Act} {w:World} {d:Nat}
theorem aer{p:Value}(ay:Sym n D L B ai H a w)(aG:o.op=.call { callee:=.value (.tmp s),args:=xs.toArray,argTypes:=fI })(aj:L.lookup s=some (.func (.func f) #[p] #[]))(gL:P.funcs[f]?=some fn)(bc : (fn.name == "runtime.NumGoroutine") = false)(ag : fn.body.isNone = false)(aB : jA L xs = some vs) : (execOp a.eval o).run P w = .ok (.enter f (p :: vs).toArray) w := by
 have e:a.eval (.tmp s)=.func (.func f) #[p] #[]:=ay.aD (x:=.tmp s) aj
 have ij : fn.name ≠ "runtime.NumGoroutine" := by simpa using bc
 have du:fn.body≠none:=by intro h;rw[h]at ag;cases ag
 simp[execOp,aG,resolve,e,Deferred.ofValue,invoke,callFunc,program,Sem.run,gL,ij,du,ay.st.jA aB]
theorem aes{p:Value}{R:Value->World->Prop}(ay:Sym n D L B ai H a w)(aG:o.op=.call { callee:=.value (.tmp s),args:=xs.toArray,argTypes:=fI })(a8:o.guard=none/\o.dst=some d)(az:blt d n=true)(aj:L.lookup s=some (.func (.func f) #[p] #[]))(gL : P.funcs[f]? = some fn)(bc : (fn.name == "runtime.NumGoroutine") = false)(ag : fn.body.isNone = false)(aB : jA L xs = some vs)(cA : qx P f (p :: vs).toArray w R)(h:∀v aS w',R v w'->c5 n D ((d,v)::L) aS->KK aS w'):fa P ops o KK a w:=by
 refine .inl ⟨by simp[Region.wanted,a8.1],.inr (.inr ⟨f,(p::vs).toArray,w,aer ay aG aj gL bc ag aB,?_⟩)⟩;refine Calls.mono cA ?_;rintro e w' ⟨v,rfl,ej⟩;exact⟨v,rfl,h v _ w' ej (by rw[a8.2];exact ay.st.put d v (dH az))⟩
end
section
variable {X:bx} {M:Bool} {n:Nat} {r:Option Nat} {st:aP} {Q:Exit->aP->Prop} {ops rest:List Oper} {o:Oper} {d:Nat}
end
section
variable {X:bx} {M:Bool} {n:Nat} {st:aP} {Q:Exit->aP->Prop} {ops:List Oper} {E:bG} {aK:hU} {Qx:Array Bool} {fuel d i:Nat} {o:Oper}
end
end
section
section
variable {X:bx} {M:Bool} {n:Nat} {r:Option Nat} {st:aP} {Q:Exit->aP->Prop} {ops rest:List Oper} {o:Oper} {d:Nat}
theorem aet(f:X.a1.ok X.P){p:cm}{id:Nat}{l:List (Int×gv.D)}{g:Bool}{sa:bn}(q:o.op=.lookup t u x true)(h:o.guard=none/\o.dst=some d)(az:blt d n=true)(bj:X.a1.find t=some bB)(c6:bB.ti.desc=.map e3 fB)(ab:X.a1.find e3=some p)(N:p.ti.desc=.int k)(he:X.a1.find fB=some dC)(bw:∀B w,dZ B w gv gv.zero dC.ti.zero)(hu:bu X st.L u=some (true,.c (.dv id)))(ak:bu X st.L x=some (g,.c (.val (.int k z))))(s:g=true)(A:bh st.H id=some (.mp (.int k) gv l iW))(mo:pX gv ((cX (.int k) gv l z).getD gv.zero)=some sa):hh X n o st ⟨(d,.cE [sa,.c (.val (.bool (cX (.int k) gv l z).isSome))])::st.L,st.H⟩:=by
 intro R W aC ks env B ai H a w ae KK lo D;obtain⟨P,J,b,ag,rfl⟩:=ae.aD hu rfl;obtain⟨vx,U,ah⟩:=ae.aD ak s;rw[show vx=_ from ah]at U;obtain⟨c,K,⟨b',O,clock,m,rfl,I,cY,_⟩,E⟩:=ae.heap.gA A;rw[ag]at m;cases m;have F:=(ae.aQ.ok _ E.more.mem).2;have i:=(cd.get f bj).ti.1;rw[c6]at i;have e:=(cd.get f ab).ti.1;rw[N]at e;have G:=bI.sg (cd.get f he).ti w;have L:∃v,(Instr.lookup t (.map (some b)) (.int k z) true).run X.P w=.ok (.tuple #[v,.bool (cX (.int k) gv l z).isSome]) w/\dZ B ai gv ((cX (.int k) gv l z).getD gv.zero) v:=by
  unfold Instr.lookup;rw[show(10000:Nat)=9999+1 from rfl];simp only[Sem.run_bind,run_underlying i,Result.andThen_ok,MapKept.run_getObj_map F,Bi e,Sem.run_pure]
  rcases I.FA (z:=z) 0 with⟨aw,aI⟩|⟨y,j,v,aw,aI,bb,_⟩
  ·refine⟨dC.ti.zero,?_,by rw[aw];exact bw _ _⟩
   simp[MapKept.run_findKey e aI,G,Result.andThen,aw]
  ·refine⟨v,?_,by rw[aw];exact bb⟩
   simp[MapKept.run_findKey e aI,Result.andThen,aw]
 obtain⟨v,C,M⟩:=L;refine hD ae.bV h.1 h.2 (dH az) (v:=.tuple #[v,.bool (cX (.int k) gv l z).isSome]) (w':=w) ?_ λaS r=>?_
 ·simp[execOp,q,ae.bV.aD J,ae.bV.aD U,C]
 ·exact D aS _ env H (ae.set (sv:=.cE [sa,.c (.val (.bool (cX (.int k) gv l z).isSome))]) ⟨[v,.bool (cX (.int k) gv l z).isSome],rfl,v,_,rfl,M.sa mo,_,_,rfl,rfl,rfl⟩ r)
end
end
section
section
variable {X:bx} {M:Bool} {n:Nat} {r:Option Nat} {ops:List Oper} {rest:List Oper} {o:Oper} {d:Nat} {st:aP} {Q:Exit->aP->Prop}
theorem aeu(f:X.a1.ok X.P){r:Bool}{id k V:Nat}{v:aZ}{l b:List g.D}{ab:Value}(F:o.op=.call ⟨.builtin .copy,⟨[x,y]⟩,⟨[t,t]⟩⟩)(E:o.guard=none/\o.dst=some d)(az:blt d n=true)(bj:X.a1.find t=some bB)(c6:bB.ti.desc=.slice e)(he:X.a1.find e=some ⟨⟨aK,k,V,ab⟩,some v⟩)(ak:bu X st.L x=some (r,.c (.ax id)))(G:r=true)(aA:bu X st.L y=some (g2,dW))(O:g2=true)(M:bh st.H id=some (.row e g l cap))(P:beq g.size k=true)(ac:nD st g dW=some b)(aa:beq b.length l.length=true):hh X n o st ⟨(d,.c (.val (.int .i64 (l.length:Int))))::st.L,qr id (.row e g b cap) st.H⟩:=by
 intro R W aC ks env B ai H a w h KK lo N;obtain⟨vx,U,Y⟩:=h.aD ak G;obtain⟨vy,q,Z⟩:=h.aD aA O;obtain⟨af,aj,al⟩:=(cd.get f he).g v rfl;obtain⟨T,L,J,I⟩:=n2 (cd.get f bj).ti (cd.get f he).ti;have s:=eq_of_beq_eq_true P;have j:=eq_of_beq_eq_true aa;obtain⟨ag,cC,u,rfl,z,i⟩:=tx h ac Z;obtain⟨A,c,m,C,rfl⟩:=Y;obtain⟨et,K,⟨ae,k',xs,D,rfl,ah,S⟩,p,ad⟩:=h.oU (b':=.row e g b cap) M;rw[C]at D;cases D;rw[s]at p i;rw[j]at q i;refine aaZ h.sym F E az L J c6 I U q p i (Flat.jr (λ_ _=>bN.jr) z) λaS w' bt=>?_
 obtain⟨H',Q⟩:=ad (.row A c e g.size l.length u) a w' ⟨A,c,u,by rw[j];exact C,by rw[j],z,S⟩ (by rw[s];exact bt.aQ) h.bV;exact N aS w' _ H' (Q.set rfl bt.st)
end
end
section
section
variable {X:bx} {M:Bool} {n:Nat} {r:Option Nat} {ops rest:List Oper} {o:Oper} {d:Nat} {st:aP} {Q:Exit->aP->Prop}
end
end
section
def Qr{α β:Type}(x:α)(k:α->Option β):Option β:=k x
section
variable {X:bx} {n:Nat} {st:aP}
end
section
variable {X:bx} {R:Nat->Prop} {W:World} {aC:fe} {n:Nat} {ks:bG} {env:Nat->Loc} {B:Nat->Prop} {ai:World} {H:cW} {st st':aP} {a:Act} {w:World}
end
end
abbrev dn:List Type->Type
 |[]=>Unit
 |A::r=>A×dn r
abbrev B4:List Type->Type
 |[]=>Unit
 |[A]=>A
 |A::B::r=>A×B4 (B::r)
def rK:(l:List Type)->dn l->B4 l
 |[],_=>()
 |[_],u=>u.1
 |_::B::r,u=>(u.1,rK (B::r) u.2)
def oq:(l:List Type)->B4 l->dn l
 |[],_=>()
 |[_],u=>(u,())
 |_::B::r,u=>(u.1,oq (B::r) u.2)
theorem xi:∀(l:List Type) (u:dn l),oq l (rK l u)=u
 |[],_=>rfl
 |[_],_=>rfl
 |_::B::r,u=>by
  show(u.1,oq (B::r) (rK (B::r) u.2))=u;rw[xi (B::r)]
inductive vl where
 |id (i:Nat)
 |eC (g:aZ)
abbrev sF:List vl->List Type->List Type
 |[],T=>T
 |.id _::r,T=>sF r T
 |.eC g::r,T=>g.D::sF r T
def nO:(l:List vl)->{T:List Type}->dn (sF l T)->dY×dn T
 |[],_,t=>([],t)
 |.id i::r,_,u=>(.id i::(nO r u).1,(nO r u).2)
 |.eC g::r,_,u=>(.eC g u.1::(nO r u.2).1,(nO r u.2).2)
def Ss{g g':aZ}(h:g'=g)(x:g'.D):g.D:=h ▸ x
def qT{g g':aZ}(h:g'=g)(l:List g'.D):List g.D:=h ▸ l
def vm:(l:List vl)->dY->{T:List Type}->dn T->Option (dn (sF l T))
 |[],[],_,t=>some t
 |.id i::r,.id j::s,_,t=>match beq i j with
  |true=>vm r s t
  |false=>none
 |.eC g::r,.eC g' x::s,_,t=>match decEq g' g with
  |isTrue h=>match vm r s t with
   |some u=>some (Ss h x,u)
   |none=>none
  |isFalse _=>none
 |_,_,_,_=>none
theorem FH:∀ {l:List vl} {s:dY} {T:List Type} {t:dn T} {u:dn (sF l T)},vm l s t=some u->nO l u=(s,t)
 |[],[],_,_,_,h=>by cases h;rfl
 |.id i::r,.id j::s,_,t,u,h=>by
  unfold vm at h
  split at h
  ·rename_i e
   have:=eq_of_beq_eq_true e
   subst this
   have:=FH h
   grind [nO]
  grind
 |.eC g::r,.eC g' x::s,_,t,u,h=>by
  unfold vm at h
  split at h
  ·rename_i e _
   subst e
   split at h
   ·rename_i a e
    cases h
    have:=FH e
    unfold nO;rw[this]
    rfl
   grind
  grind
 |[],_::_,_,_,_,h=>by cases h
 |.id _::_,[],_,_,_,h=>by cases h
 |.eC _::_,[],_,_,_,h=>by cases h
 |.id _::_,.eC _ _::_,_,_,_,h=>by cases h
 |.eC _::_,.id _::_,_,_,_,h=>by cases h
inductive cL where
 |raw (c:bs)
 |int (k:IntKind)
 |bool
 |str
 |bz (g:aZ)
 |FI (g:aZ)
 |iG (g:aZ)
 |FJ (g:aZ)
 |fu (g:aZ) (off:Nat)
 |par (g:aZ)
 |fn (f:FuncId) (cs:List vl)
 |eT (id cI off:Nat)
 |il (id:Nat)
 |iC (id:Nat)
abbrev cL.LT:cL->List Type->List Type
 |.raw _,T=>T
 |.int _,T=>Int::T
 |.bool,T=>Bool::T
 |.str,T=>dQ::T
 |.bz g,T=>List g.D::T
 |.FI g,T=>List g.D::T
 |.iG g,T=>List g.D::Nat::T
 |.FJ g,T=>List g.D::Option Nat::T
 |.fu g _,T=>g.D::T
 |.par g,T=>List g.D::T
 |.fn _ cs,T=>sF cs T
 |.eT _ _ _,T=>Nat::T
 |.il _,T=>Nat::T
 |.iC _,T=>Bool::T
def cL.S:(s:cL)->{T:List Type}->dn (s.LT T)->bs×dn T
 |.raw c,_,t=>(c,t)
 |.int k,_,u=>(.val (.int k u.1),u.2)
 |.bool,_,u=>(.val (.bool u.1),u.2)
 |.str,_,u=>(.str u.1,u.2)
 |.bz g,_,u=>(.bz g u.1 none,u.2)
 |.FI g,_,u=>(.bz g u.1 (some u.1.length),u.2)
 |.iG g,_,u=>(.bz g u.1 (some u.2.1),u.2.2)
 |.FJ g,_,u=>(.bz g u.1 u.2.1,u.2.2)
 |.fu g off,_,u=>(.fu g u.1 off,u.2)
 |.par g,_,u=>(.par g u.1,u.2)
 |.fn f cs,_,u=>(.fn f (nO cs u).1,(nO cs u).2)
 |.eT id a off,_,u=>(.eT id a u.1 off,u.2)
 |.il id,_,u=>(.il id u.1,u.2)
 |.iC id,_,u=>(.iC u.1 id,u.2)
def K0:Value->Value->Bool
 |.slice none 0 0,.slice none 0 0=>true
 |.pointer none,.pointer none=>true
 |.map none,.map none=>true
 |.nilIface,.nilIface=>true
 |.nilFunc,.nilFunc=>true
 |_,_=>false
def bs.eqv:bs->bs->Bool
 |.dead,_=>true
 |.ptr i o,.ptr j p=>beq i j&&beq o p
 |.ax i,.ax j=>beq i j
 |.dv i,.dv j=>beq i j
 |.il i o,.il j p=>beq i j&&beq o p
 |.jD f i,.jD g j=>beq f g&&beq i j
 |.val v,.val u=>K0 v u
 |_,_=>false
def sG(x y:bs):Prop:=∀env B w v,dw env B w x v->dw env B w y v
theorem aev:∀ {v u:Value},K0 v u=true->v=u:=by
 intro v u h;unfold K0 at h
 grind
theorem bs.aew{c x:bs}(h:c.eqv x=true):sG x c:=by
 unfold bs.eqv at h
 split at h
 ·intro _ _ _ _ _;trivial
 ·simp only[and_eq_true]at h
  rw[eq_of_beq_eq_true h.1,eq_of_beq_eq_true h.2];exact λ_ _ _ _ h=>h
 ·rw[eq_of_beq_eq_true h];exact λ_ _ _ _ h=>h
 ·rw[eq_of_beq_eq_true h];exact λ_ _ _ _ h=>h
 ·simp only[and_eq_true]at h
  rw[eq_of_beq_eq_true h.1,eq_of_beq_eq_true h.2];exact λ_ _ _ _ h=>h
 ·simp only[and_eq_true]at h
  rw[eq_of_beq_eq_true h.1,eq_of_beq_eq_true h.2];exact λ_ _ _ _ h=>h
 ·rw[aev h];exact λ_ _ _ _ h=>h
 grind
def isNil:Value->Bool
 |.slice none 0 0=>true
 |_=>false
theorem St(h:isNil v=true):v=.slice none 0 0:=by
 grind [isNil]
def cL.get:(s:cL)->bs->{T:List Type}->dn T->Option (dn (s.LT T))
 |.raw c,x,_,t=>match c.eqv x with
  |true=>some t
  |false=>none
 |.int k,.val (.int k' z),_,t=>match decEq k' k with
  |isTrue _=>some (z,t)
  |isFalse _=>none
 |.bool,.val (.bool b),_,t=>some (b,t)
 |.str,.str s,_,t=>some (s,t)
 |.bz g,.bz g' l _,_,t=>match decEq g' g with
  |isTrue h=>some (qT h l,t)
  |isFalse _=>none
 |.bz g,.val v,_,t=>match isNil v with
  |true=>some (([]:List g.D),t)
  |false=>none
 |.FI g,.bz g' l (some c),_,t=>match decEq g' g,beq c l.length with
  |isTrue h,true=>some (qT h l,t)
  |_,_=>none
 |.FI g,.val v,_,t=>match isNil v with
  |true=>some (([]:List g.D),t)
  |false=>none
 |.iG g,.bz g' l (some c),_,t=>match decEq g' g with
  |isTrue h=>some (qT h l,c,t)
  |isFalse _=>none
 |.iG g,.val v,_,t=>match isNil v with
  |true=>some (([]:List g.D),0,t)
  |false=>none
 |.FJ g,.bz g' l c,_,t=>match decEq g' g with
  |isTrue h=>some (qT h l,c,t)
  |isFalse _=>none
 |.FJ g,.val v,_,t=>match isNil v with
  |true=>some (([]:List g.D),some 0,t)
  |false=>none
 |.fu g off,.fu g' x o,_,t=>match decEq g' g,beq off o with
  |isTrue h,true=>some (Ss h x,t)
  |_,_=>none
 |.par g,.par g' l,_,t=>match decEq g' g with
  |isTrue h=>some (qT h l,t)
  |isFalse _=>none
 |.fn f cs,.fn f' ids,_,t=>match beq f f' with
  |true=>vm cs ids t
  |false=>none
 |.eT id j off,.eT a d i e,_,t=>match beq id a,beq j d,beq off e with
  |true,true,true=>some (i,t)
  |_,_,_=>none
 |.il id,.il a i,_,t=>match beq id a with
  |true=>some (i,t)
  |false=>none
 |.iC id,.iC b a,_,t=>match beq id a with
  |true=>some (b,t)
  |false=>none
 |.iC id,.ptr a 0,_,t=>match beq id a with
  |true=>some (true,t)
  |false=>none
 |.iC _,.val (.pointer none),_,t=>some (false,t)
 |_,_,_,_=>none
theorem sG.nil(h:isNil v=true)(k:Option Nat)(ab:∀q,k=some q->q=0):sG (.val v) (.bz g [] k):=λenv B w u hu=>by
 rw[St h]at hu;obtain⟨A,c,xs,J,U,ah,d,a⟩:=R6 (env:=env) (B:=B) (w:=w) (g:=g) hu;exact⟨A,c,xs,J,U,ah,λq b=>by rw[ab q b];exact d 0 rfl,a⟩
theorem aez{cs:List vl}{ids:dY}{T:List Type}{t:dn T}{u:dn (sF cs T)}(h:vm cs ids t=some u):((cL.fn f cs).S (T:=T) u).2=t/\sG (.fn f ids) ((cL.fn f cs).S (T:=T) u).1:=by
 show(nO cs u).2=t/\sG _ (.fn f (nO cs u).1);rw[FH h];exact⟨rfl,λ_ _ _ _ h=>h⟩
theorem cL.jv{s:cL}{x:bs}{T:List Type}{t:dn T}{u:dn (s.LT T)}(h:s.get x t=some u):(s.S u).2=t/\sG x (s.S u).1:=by
 unfold cL.get at h
 split at h
 ·split at h
  ·rename_i e;cases h;exact⟨rfl,bs.aew e⟩
  grind
 ·split at h
  ·rename_i e _;subst e;cases h;exact⟨rfl,λ_ _ _ _ h=>h⟩
  grind
 ·cases h;exact⟨rfl,λ_ _ _ _ h=>h⟩
 ·cases h;exact⟨rfl,λ_ _ _ _ h=>h⟩
 ·split at h
  ·rename_i e _;subst e;cases h
   exact⟨rfl,λ_ _ _ _ ⟨A,c,xs,J,U,ah,_,d⟩=>⟨A,c,xs,J,U,ah,(λ_ e=>by cases e),d⟩⟩
  grind
 ·split at h
  ·rename_i e;cases h;exact⟨rfl,sG.nil e _ λ_ e=>by cases e⟩
  grind
 ·split at h
  ·rename_i e _ aa;subst e;cases h
   have:=eq_of_beq_eq_true aa
   subst this;exact⟨rfl,λ_ _ _ _ h=>h⟩
  grind
 ·split at h
  ·rename_i e;cases h;exact⟨rfl,sG.nil e _ λ_ e=>by cases e;rfl⟩
  grind
 ·split at h
  ·rename_i e _;subst e;cases h;exact⟨rfl,λ_ _ _ _ h=>h⟩
  grind
 ·split at h
  ·rename_i e;cases h;exact⟨rfl,sG.nil e _ λ_ e=>by cases e;rfl⟩
  grind
 ·split at h
  ·rename_i e _;subst e;cases h;exact⟨rfl,λ_ _ _ _ h=>h⟩
  grind
 ·split at h
  ·rename_i e;cases h;exact⟨rfl,sG.nil e _ λ_ e=>by cases e;rfl⟩
  grind
 ·split at h
  ·rename_i e _ aa;subst e;cases h
   have:=eq_of_beq_eq_true aa
   subst this;exact⟨rfl,λ_ _ _ _ h=>h⟩
  grind
 ·split at h
  ·rename_i e _;subst e;cases h;exact⟨rfl,λ_ _ _ _ h=>h⟩
  grind
 ·grind [eq_of_beq_eq_true,aez]
 ·split at h
  ·rename_i a f g
   cases h;rw[<- eq_of_beq_eq_true a,<- eq_of_beq_eq_true f,<- eq_of_beq_eq_true g];exact⟨rfl,λ_ _ _ _ h=>h⟩
  grind
 ·split at h
  ·rename_i a
   cases h;rw[<- eq_of_beq_eq_true a];exact⟨rfl,λ_ _ _ _ h=>h⟩
  grind
 ·split at h
  ·rename_i a
   cases h;rw[<- eq_of_beq_eq_true a];exact⟨rfl,λ_ _ _ _ h=>h⟩
  grind
 ·split at h
  ·rename_i a
   cases h;rw[<- eq_of_beq_eq_true a];exact⟨rfl,λ_ _ _ _ ⟨b,J,U⟩=>⟨b,λ_=>J,U⟩⟩
  grind
 ·cases h
  exact⟨rfl,λ_ _ _ _ h=>⟨0,λh=>(by cases h),h⟩⟩
 grind
abbrev zD:List cL->List Type->List Type
 |[],T=>T
 |c::r,T=>c.LT (zD r T)
def tS:(l:List cL)->{T:List Type}->dn (zD l T)->dP×dn T
 |[],_,t=>([],t)
 |c::r,_,u=>((c.S u).1::(tS r (c.S u).2).1,(tS r (c.S u).2).2)
def B5:(l:List cL)->dP->{T:List Type}->dn T->Option (dn (zD l T))
 |[],[],_,t=>some t
 |c::r,x::s,_,t=>match B5 r s t with
  |some u=>c.get x u
  |none=>none
 |_,_,_,_=>none
theorem K1:∀ {l:List cL} {s:dP} {T:List Type} {t:dn T} {u:dn (zD l T)},B5 l s t=some u->(tS l u).2=t/\∀env B w vs,cM env B w s vs->cM env B w (tS l u).1 vs
 |[],[],_,_,_,h=>by cases h;exact⟨rfl,λ_ _ _ _ h=>h⟩
 |c::r,x::s,_,t,u,h=>by
  unfold B5 at h
  split at h
  ·rename_i b e
   obtain⟨J,U⟩:=K1 e;obtain⟨ah,a⟩:=cL.jv h;unfold tS;rw[ah];refine⟨J,λenv B w vs ⟨v,q,e,bl,ag⟩=>⟨v,q,e,a _ _ _ _ bl,U _ _ _ _ ag⟩⟩
  grind
 |[],_::_,_,_,_,h=>by cases h
 |_::_,[],_,_,_,h=>by cases h
inductive gC where
 |c (x:cL)
 |agg (l:List cL)
 |arr (g:aZ)
 |cK (g:aZ)
abbrev er:=List gC
abbrev gC.LT:gC->List Type->List Type
 |.c x,T=>x.LT T
 |.agg l,T=>zD l T
 |.arr g,T=>List g.D::T
 |.cK g,T=>g.D::T
def K2(g:aZ)(x:g.D):bn:=match pH g x 0 g.size with
 |some cs=>.agg cs
 |none=>.agg []
def gC.S:(s:gC)->{T:List Type}->dn (s.LT T)->bn×dn T
 |.c x,_,u=>(.c (x.S u).1,(x.S u).2)
 |.agg l,_,u=>(.agg (tS l u).1,(tS l u).2)
 |.arr g,_,u=>(.arr g u.1,u.2)
 |.cK g,_,u=>(K2 g u.1,u.2)
def gC.get:(s:gC)->bn->{T:List Type}->dn T->Option (dn (s.LT T))
 |.c x,.c y,_,t=>x.get y t
 |.agg l,.agg cs,_,t=>B5 l cs t
 |.arr g,.arr g' l,_,t=>match decEq g' g with
  |isTrue h=>some (qT h l,t)
  |isFalse _=>none
 |.cK g,.agg cs,_,t=>match dec g cs with
  |some (true,x,[])=>match pH g x 0 g.size with
   |some _=>some (x,t)
   |none=>none
  |_=>none
 |_,_,_,_=>none
theorem gC.jv{s:gC}{x:bn}{T:List Type}{t:dn T}{u:dn (s.LT T)}(h:s.get x t=some u):(s.S u).2=t/\∀env B w v,dN env B w x v->dN env B w (s.S u).1 v:=by
 unfold gC.get at h
 split at h
 ·exact cL.jv h
 ·obtain⟨J,U⟩:=K1 h
  exact⟨J,λenv B w v ⟨vs,e,aa⟩=>⟨vs,e,U _ _ _ _ aa⟩⟩
 ·split at h
  ·rename_i e _;subst e;cases h;exact⟨rfl,λ_ _ _ _ h=>h⟩
  grind
 ·split at h
  ·rename_i b
   split at h
   ·rename_i c a
    cases h;refine⟨rfl,λenv B w v ⟨vs,e,aa⟩=>?_⟩;show dN env B w (K2 _ _) v;unfold K2;rw[a];exact⟨vs,e,aa.data b rfl a⟩
   grind
  grind
 grind
abbrev j6:er->List Type->List Type
 |[],T=>T
 |c::r,T=>c.LT (j6 r T)
def iH:(l:er)->{T:List Type}->dn (j6 l T)->dT×dn T
 |[],_,t=>([],t)
 |c::r,_,u=>((c.S u).1::(iH r (c.S u).2).1,(iH r (c.S u).2).2)
def zE:(l:er)->dT->{T:List Type}->dn T->Option (dn (j6 l T))
 |[],[],_,t=>some t
 |c::r,x::s,_,t=>match zE r s t with
  |some u=>c.get x u
  |none=>none
 |_,_,_,_=>none
theorem B6:∀ {l:er} {s:dT} {T:List Type} {t:dn T} {u:dn (j6 l T)},zE l s t=some u->(iH l u).2=t/\∀env B w vs,dx env B w s vs->dx env B w (iH l u).1 vs
 |[],[],_,_,_,h=>by cases h;exact⟨rfl,λ_ _ _ _ h=>h⟩
 |c::r,x::s,_,t,u,h=>by
  unfold zE at h
  split at h
  ·rename_i b e
   obtain⟨J,U⟩:=B6 e;obtain⟨ah,a⟩:=gC.jv h;unfold iH;rw[ah];refine⟨J,λenv B w vs ⟨v,q,e,bl,ag⟩=>⟨v,q,e,a _ _ _ _ bl,U _ _ _ _ ag⟩⟩
  grind
 |[],_::_,_,_,_,h=>by cases h
 |_::_,[],_,_,_,h=>by cases h
inductive mv where
 |a (x:gC)
 |cE (l:er)
abbrev mv.LT:mv->List Type->List Type
 |.a x,T=>x.LT T
 |.cE l,T=>j6 l T
def mv.S:(s:mv)->{T:List Type}->dn (s.LT T)->b7×dn T
 |.a x,_,u=>(.a (x.S u).1,(x.S u).2)
 |.cE l,_,u=>(.cE (iH l u).1,(iH l u).2)
def mv.get:(s:mv)->b7->{T:List Type}->dn T->Option (dn (s.LT T))
 |.a x,.a y,_,t=>x.get y t
 |.cE l,.cE cs,_,t=>zE l cs t
 |_,_,_,_=>none
def xj(x y:b7):Prop:=∀env B w v,eI env B w x v->eI env B w y v
theorem mv.jv{s:mv}{x:b7}{T:List Type}{t:dn T}{u:dn (s.LT T)}(h:s.get x t=some u):(s.S u).2=t/\xj x (s.S u).1:=by
 unfold mv.get at h
 split at h
 ·exact gC.jv h
 ·obtain⟨J,U⟩:=B6 h
  exact⟨J,λenv B w v ⟨vs,e,aa⟩=>⟨vs,e,U _ _ _ _ aa⟩⟩
 grind
abbrev zF:List (Nat×mv)->List Type->List Type
 |[],T=>T
 |c::r,T=>c.2.LT (zF r T)
def o9:(l:List (Nat×mv))->{T:List Type}->dn (zF l T)->cS×dn T
 |[],_,t=>([],t)
 |c::r,_,u=>((c.1,(c.2.S u).1)::(o9 r (c.2.S u).2).1,(o9 r (c.2.S u).2).2)
def FK:(l:List (Nat×mv))->cS->{T:List Type}->dn T->Option (dn (zF l T))
 |[],_,_,t=>some t
 |c::r,L,_,t=>match bh L c.1,FK r L t with
  |some x,some u=>c.2.get x u
  |_,_=>none
theorem FL:∀ {l:List (Nat×mv)} {L:cS} {T:List Type} {t:dn T} {u:dn (zF l T)},FK l L t=some u->(o9 l u).2=t/\∀s sv,bh (o9 l u).1 s=some sv->∃x,bh L s=some x/\xj x sv
 |[],_,_,_,_,h=>by cases h;exact⟨rfl,λ_ _ h=>by cases h⟩
 |c::r,L,_,t,u,h=>by
  unfold FK at h
  split at h
  ·rename_i x d a e
   obtain⟨J,U⟩:=FL e;obtain⟨ah,b⟩:=mv.jv h
   grind [o9,cO]
  grind
inductive fD where
 |cells (t:TypeId) (l:List cL)
 |row (t:TypeId) (g:aZ)
 |K3 (t:TypeId) (g:aZ)
 |gT (t:TypeId) (g:aZ)
 |mp (gk gv:aZ)
 |cN (el:Bool) (t:TypeId) (g:aZ) (d:Nat)
 |K4 (el:Bool) (t:TypeId) (g:aZ) (d:Nat)
 |k7
 |hS (eE:Nat)
 |bS (t t':TypeId) (g:aZ)
 |K5 (t t':TypeId) (g:aZ) (d:Option Nat)
abbrev fD.LT:fD->List Type->List Type
 |.cells _ l,T=>zD l T
 |.row _ g,T=>List g.D::T
 |.K3 _ g,T=>List g.D::Nat::T
 |.gT _ g,T=>List g.D::T
 |.mp gk gv,T=>List (gk.D×gv.D)::T
 |.cN _ _ g _,T=>List (List g.D)::Nat::T
 |.K4 _ _ g _,T=>List (List g.D)::Nat::Nat::T
 |.k7,T=>ByteArray::Nat::T
 |.hS _,T=>T
 |.bS _ _ g,T=>List (Bool×List g.D)::T
 |.K5 _ _ g _,T=>List (Bool×List g.D)::Nat::T
def fD.S:(s:fD)->{T:List Type}->dn (s.LT T)->cz×dn T
 |.cells t l,_,u=>(.cells t (tS l u).1,(tS l u).2)
 |.row t g,_,u=>(.row t g u.1 none,u.2)
 |.K3 t g,_,u=>(.row t g u.1 (some u.2.1),u.2.2)
 |.gT t g,_,u=>(.gT t g u.1,u.2)
 |.mp gk gv,_,u=>(.mp gk gv u.1 none,u.2)
 |.cN a t g d,_,u=>(.cN a t g u.1 none u.2.1 d,u.2.2)
 |.K4 a t g d,_,u=>(.cN a t g u.1 (some u.2.2.1) u.2.1 d,u.2.2.2)
 |.k7,_,u=>(.k7 u.1 u.2.1,u.2.2)
 |.hS m,_,u=>(.hS m,u)
 |.bS t t' g,_,u=>(.bS t t' g u.1 none none,u.2)
 |.K5 t t' g d,_,u=>(.bS t t' g u.1 none (some (u.2.1,d)),u.2.2)
def Su{g g':aZ}(h:g'=g)(l:List (Bool×List g'.D)):List (Bool×List g.D):=h ▸ l
def Sv{g g':aZ}(h:g'=g)(l:List (List g'.D)):List (List g.D):=h ▸ l
def aeA{gk a gv b:aZ}(h:a=gk)(U:b=gv)(l:List (a.D×b.D)):List (gk.D×gv.D):=h ▸ U ▸ l
def fD.get:(s:fD)->cz->{T:List Type}->dn T->Option (dn (s.LT T))
 |.cells t l,.cells t' cs,_,u=>match beq t' t with
  |true=>B5 l cs u
  |false=>none
 |.row t g,.row t' g' l _,_,u=>match beq t' t,decEq g' g with
  |true,isTrue h=>some (qT h l,u)
  |_,_=>none
 |.K3 t g,.row t' g' l (some c),_,u=>match beq t' t,decEq g' g with
  |true,isTrue h=>some (qT h l,c,u)
  |_,_=>none
 |.gT t g,.gT t' g' l,_,u=>match beq t' t,decEq g' g with
  |true,isTrue h=>some (qT h l,u)
  |_,_=>none
 |.gT t g,.row t' g' l _,_,u=>match beq t' t,decEq g' g with
  |true,isTrue h=>some (qT h l,u)
  |_,_=>none
 |.mp gk gv,.mp k n l _,_,u=>match decEq k gk,decEq n gv with
  |isTrue h,isTrue U=>some (aeA h U l,u)
  |_,_=>none
 |.cN f t g d,.cN b t' g' l _ i a,_,u=>match decEq b f,beq t' t,beq a d,decEq g' g with
  |isTrue _,true,true,isTrue h=>some (Sv h l,i,u)
  |_,_,_,_=>none
 |.K4 f t g d,.cN b t' g' l (some c) i a,_,u=>match decEq b f,beq t' t,beq a d,decEq g' g with
  |isTrue _,true,true,isTrue h=>some (Sv h l,i,c,u)
  |_,_,_,_=>none
 |.k7,.k7 s p,_,u=>some (s,p,u)
 |.hS m,.hS o,_,u=>match beq o m with
  |true=>some u
  |false=>none
 |.bS t j g,.bS t' e g' l _ none,_,u=>match beq t' t,beq e j,decEq g' g with
  |true,true,isTrue h=>some (Su h l,u)
  |_,_,_=>none
 |.K5 t j g d,.bS t' e g' l _ (some (i,a)),_,u=>match beq t' t,beq e j,decEq a d,decEq g' g with
  |true,true,isTrue _,isTrue h=>some (Su h l,i,u)
  |_,_,_,_=>none
 |_,_,_,_=>none
def aeB(id:Nat)(x y:cz):Prop:=∀env B w c,eF env B w id x c->eF env B w id y c
theorem fD.jv{s:fD}{x:cz}{T:List Type}{t:dn T}{u:dn (s.LT T)}(id:Nat)(h:s.get x t=some u):(s.S u).2=t/\aeB id x (s.S u).1:=by
 unfold fD.get at h
 split at h
 ·split at h
  ·rename_i e
   rw[eq_of_beq_eq_true e];obtain⟨J,U⟩:=K1 h;exact⟨J,λenv B w c ⟨b,vs,e,aa,ah⟩=>⟨b,vs,e,aa,U _ _ _ _ ah⟩⟩
  grind
 ·split at h
  ·rename_i U e _
   subst U;rw[eq_of_beq_eq_true e];cases h;exact⟨rfl,λenv B w c ⟨A,k,xs,e,aa,ah,_⟩=>⟨A,k,xs,e,aa,ah,λ_ e=>by cases e⟩⟩
  grind
 ·split at h
  ·rename_i U e _
   subst U;rw[eq_of_beq_eq_true e];cases h;exact⟨rfl,λenv B w c h=>h⟩
  grind
 ·split at h
  ·rename_i U e _
   subst U;rw[eq_of_beq_eq_true e];cases h;exact⟨rfl,λenv B w c h=>h⟩
  grind
 ·split at h
  ·rename_i U e _
   subst U;rw[eq_of_beq_eq_true e];cases h;exact⟨rfl,λenv B w c ⟨A,k,xs,e,aa,ah,_⟩=>⟨A,k,e,.inl ⟨xs,aa,ah⟩⟩⟩
  grind
 ·split at h
  ·rename_i J U _ _
   subst J;subst U;cases h;exact⟨rfl,λenv B w c ⟨b,g,k,e,aa,ah,a,_⟩=>⟨b,g,k,e,aa,ah,a,λ_ e=>by cases e⟩⟩
  grind
 ·split at h
  ·rename_i he ah _ J U _
   subst he;subst ah;rw[eq_of_beq_eq_true J,eq_of_beq_eq_true U];cases h;exact⟨rfl,λenv B w c ⟨A,k,ys,f,c',m,e,aa,J,hi,U,_,a⟩=>⟨A,k,ys,f,c',m,e,aa,J,hi,U,(λ_ e=>by cases e),a⟩⟩
  grind
 ·split at h
  ·rename_i he ah _ J U _
   subst he;subst ah;rw[eq_of_beq_eq_true J,eq_of_beq_eq_true U];cases h;exact⟨rfl,λenv B w c h=>h⟩
  grind
 ·cases h
  exact⟨rfl,λenv B w c h=>h⟩
 ·split at h
  ·rename_i e
   rw[eq_of_beq_eq_true e];cases h;exact⟨rfl,λenv B w c h=>h⟩
  grind
 ·split at h
  ·rename_i ah J U _
   subst ah;rw[eq_of_beq_eq_true J,eq_of_beq_eq_true U];cases h;exact⟨rfl,λenv B w c ⟨A,k,ys,ys',I,e,aa,a,d,_⟩=>⟨A,k,ys,ys',I,e,aa,a,d,λ_ e=>by cases e⟩⟩
  grind
 ·split at h
  ·rename_i he ah J U _ _
   subst he;subst ah;rw[eq_of_beq_eq_true J,eq_of_beq_eq_true U];cases h;exact⟨rfl,λenv B w c ⟨A,k,ys,ys',I,e,aa,a,d,_⟩=>⟨A,k,ys,ys',I,e,aa,a,d,λ_ e=>by cases e⟩⟩
  grind
 grind
abbrev ot:List (Nat×fD)->List Type->List Type
 |[],T=>T
 |c::r,T=>c.2.LT (ot r T)
def kt:(l:List (Nat×fD))->{T:List Type}->dn (ot l T)->bC×dn T
 |[],_,t=>([],t)
 |c::r,_,u=>((c.1,(c.2.S u).1)::(kt r (c.2.S u).2).1,(kt r (c.2.S u).2).2)
def xk:(l:List (Nat×fD))->bC->{T:List Type}->dn T->Option (dn (ot l T))
 |[],[],_,t=>some t
 |c::r,x::s,_,t=>match beq c.1 x.1,xk r s t with
  |true,some u=>c.2.get x.2 u
  |_,_=>none
 |_,_,_,_=>none
theorem xl:∀ {l:List (Nat×fD)} {h:bC} {T:List Type} {t:dn T} {u:dn (ot l T)},xk l h t=some u->(kt l u).2=t/\∀env B w H,bE env B w h H->bE env B w (kt l u).1 H
 |[],[],_,_,_,h=>by cases h;exact⟨rfl,λ_ _ _ _ h=>h⟩
 |c::r,x::s,_,t,u,h=>by
  unfold xk at h
  split at h
  ·rename_i d a e
   obtain⟨J,U⟩:=xl e;obtain⟨ah,b⟩:=fD.jv x.1 h;unfold kt;rw[ah];refine⟨J,λenv B w H ⟨q,H',e,bl,ag⟩=>⟨q,H',e,?_,U _ _ _ _ ag⟩⟩;rw[eq_of_beq_eq_true a];exact b _ _ _ _ bl
  grind
 |[],_::_,_,_,_,h=>by cases h
 |_::_,[],_,_,_,h=>by cases h
structure eo where
 L:List (Nat×mv)
 H:List (Nat×fD)
 tT:bG:=[]
 ll:bG:=[]
abbrev eo.T(s:eo):List Type:=zF s.L (ot s.H [])
abbrev eo.D(s:eo):Type:=B4 s.T
section
structure bA(X:bx) where
 f:FuncId
 fn:Func
 A:er
 ec:List (Nat×fD)
 aT:Type
 kW:aT
 m:dn (j6 A (ot ec []))->Option aT
 out:dn (j6 A (ot ec []))->aT->b7×bC
 aF:X.P.funcs[f]?=some fn
 bc : (fn.name == "runtime.NumGoroutine") = false
 ag:fn.body.isNone=false
 ok:∀d r,m d=some r->AC X f (iH A d).1 (kt ec (iH A d).2).1 (λsv h=>sv=(out d r).1/\h=(out d r).2)
def rL:eh->eh
 |[]=>[]
 |(i,j)::r=>(j,i)::rL r
theorem Sw:∀ {ps:eh} {i j:Nat},(j,i)∈rL ps↔(i,j)∈ps
 |[],_,_=>by simp[rL]
 |(a,b)::r,i,j=>by
  unfold rL;rw[List.mem_cons,List.mem_cons,Sw];simp only[Prod.mk.injEq];constructor<;>rintro(⟨J,U⟩|h)
  ·grind
  ·grind
  ·grind
  grind
theorem Sx:∀ps:eh,u6 (rL ps)=lO ps
 |[]=>rfl
 |(a,b)::r=>by
  unfold rL u6 lO;rw[Sx r]
theorem K8{ps:eh}(J:(u6 ps).Nodup)(U:(lO ps).Nodup):bh (rL ps) j=some i↔bh ps i=some j:=by
 grind [Fa,Sw,BF,Sx]
def pa(ps a:eh):bG->bC->Option (bC×bC)
 |[],H=>some ([],H)
 |i::is,H=>match bh ps i with
  |some j=>match bh H j with
   |some b'=>match b'.dF a,pa ps a is (nF j H)with
    |some b,some (h,H')=>some ((i,b)::h,H')
    |_,_=>none
   |none=>none
  |none=>none
section
variable {X:bx} {R:Nat->Prop} {W:World} {aC:fe} {n:Nat} {ks:bG} {env Sy:Nat->Loc} {B:Nat->Prop} {ai:World} {H:cW} {st st':aP} {a aS:Act} {w w':World} {o:Oper} {d:Nat} {ps:eh}
theorem Sz(J:(u6 ps).Nodup)(U:(lO ps).Nodup)(he:∀i j,bh ps i=some j->Sy i=env j):∀ {is:bG} {l h l':bC} {C:cW},pa ps (rL ps) is l=some (h,l')->bE env B ai l C->∃a d,C.Perm (a++d)/\bE Sy B ai h a/\bE env B ai l' d
 |[],l,h,l',C,an,cA=>by cases an;exact⟨[],C,List.Perm.refl _,rfl,cA⟩
 |i::is,l,h,l',C,an,cA=>by
  unfold pa at an
  split at an
  ·rename_i j g
   split at an
   ·rename_i b' ao
    split at an
    ·rename_i b s r ag m
     cases an;obtain⟨c,H2,f,n,o⟩:=cA.erase ao;obtain⟨a,d,q,p,e⟩:=Sz J U he m o;have k:bh (rL ps) j=some i:=(K8 J U).2 g;exact⟨c::a,d,n.trans (List.Perm.cons _ q),⟨c,a,rfl,(eF.dF (λj i h=>he i j ((K8 J U).1 h)) k ag).1 f,p⟩,e⟩
    grind
   grind
  grind
structure zG(X:bx)(e:bA X) where
 d:dn (j6 e.A (ot e.ec []))
 H1:bC
def vn(X:bx)(n:Nat)(e:bA X)(ps:eh)(H:bC)(args:dT):Option (zG X e):=
 match ze n ps,u5 (rL ps) args,pa ps (rL ps) (e.ec.map (·.1)) H with
 |true,some a,some (J,H1)=>match xk (T:=[]) e.ec J ()with
  |some u=>match zE e.A a u with
   |some d=>some ⟨d,H1⟩
   |none=>none
  |none=>none
 |_,_,_=>none
def after(X:bx)(e:bA X)(ps:eh)(st:aP)(d:Nat)(p:zG X e)(r:e.aT):Option aP:=
 match ((e.out p.d r).1).dF ps,tB ps (e.out p.d r).2 with
 |some a,some b=>match ps with
  |[]=>some ⟨(d,a)::st.L,b++st.H⟩
  |_=>some ⟨(d,a)::qH (j0 (kt e.ec (iH e.A p.d).2).1 ps) st.L,b++je (j0 (kt e.ec (iH e.A p.d).2).1 ps) (j0 (kt e.ec (iH e.A p.d).2).1 ps) p.H1⟩
 |_,_=>none
def vo(X:bx)(n:Nat)(o:Oper)(eb:bm->Bool)(st st':aP):Prop:=∀(R:Nat->Prop) (W:World) (aC:fe) (ks:bG) (env:Nat->Loc) (B:Nat->Prop) (ai:World) (H:cW) (a:Act) (w:World),bO X R W aC n ks env B ai H st a w->∀(KK:Act->World->Prop) (l:List Oper),
 (∀aS w' env' B' b H',bO X R W aC n ks env' B' b H' st' aS w'->(∀k,B k->B' k)->cV (λk=>R k\/B k) ai b->(∀c∈H,eb c=true->c∈H')->KK aS w')->fa X.P l.toArray o KK a w
theorem hh.c(h:hh X n o st st'):vo X n o (λ_=>false) st st':=λR W aC ks env B ai H a w ae KK l c=>h R W aC ks env B ai H a w ae KK l λaS w' env' H' b=>c aS w' env' B ai H' b (λ_ h=>h) (cV.refl _ _) (λ_ _ h=>by cases h)
def Callee(X:bx)(st:aP)(o:Oper)(f:FuncId)(xs:dX)(pre post:dT):Prop:=
 ∃a,(o.op=.call { callee:=.value (.func f),args:=xs.toArray,argTypes:=a }/\pre=[]/\post=[]) \/
  (∃s ids,o.op=.call { callee:=.value (.tmp s),args:=xs.toArray,argTypes:=a }/\bh st.L s=some (.c (.fn f ids))/\pre=[]/\post=qJ ids) \/
  ∃s id,o.op=.call { callee:=.value (.tmp s),args:=xs.toArray,argTypes:=a }/\bh st.L s=some (.c (.jD f id))/\pre=[.c (.ptr id 0)]/\post=[]
def FO(X:bx)(n:Nat)(st:aP)(xs:dX)(args:dT):Prop:=∀(R:Nat->Prop) (W:World) (aC:fe) (ks:bG) (env:Nat->Loc) (B:Nat->Prop) (ai:World) (H:cW) (a:Act) (w:World),bO X R W aC n ks env B ai H st a w->∃vs,jA (full a) xs=some vs/\dx env B ai args vs
theorem FO.of{c:Bool}(h:pL X st.L xs=some (c,args))(aa:c=true):FO X n st xs args:=λ_ _ _ _ _ _ _ _ _ _ ae=>w5 ae h aa
def xm:cz->Bool
 |.cells _ _=>false
 |_=>true
def tU(j:Nat):bC->Bool
 |[]=>true
 |(k,_)::r=>!beq k j&&tU j r
def xn(H:bC):eh->Bool
 |[]=>true
 |(i,j)::r=>(ble h1 i || tU j H)&&xn H r
def rM(H:bC):eh->Bool
 |[]=>true
 |(_,j)::r=>tU j H&&rM H r
def tV(js:bG):bC->Bool
 |[]=>true
 |(j,b)::r=>(!js.elem j || xm b)&&tV js r
def zH(H:bC)(ps:eh):Bool:=xn H ps&&tV (lO ps) H
def xo(H:bC)(ps:eh)(c:bm):Bool:=rM H ps || (jd c&&zH H ps)
theorem SA:∀ {H:bC},tU j H=true->∀p∈H,p.1≠j
 |(k,b)::r,h,p,an=>by
  unfold tU at h;rw[and_eq_true]at h
  rcases List.mem_cons.1 an with rfl|an
  ·grind [beq_refl]
  ·exact SA h.2 p an
theorem SB:∀ {H:bC},tU j H=true->bh H j=none
 |[],_=>rfl
 |(k,b)::r,h=>by
  unfold tU at h;rw[and_eq_true]at h;rw[cO,if_neg (λe=>by have J:=h.1;rw[e,beq_refl]at J;cases J)];exact SB h.2
theorem SC:∀ {l:bC},(∀p∈l,p.1 ∉ js)->u7 js l=true
 |[],_=>rfl
 |(k,b)::r,h=>by
  unfold u7;have J:=h (k,b) mem_cons_self;rw[and_eq_true];exact⟨by simpa using J,SC λp an=>h p (mem_cons_of_mem _ an)⟩
theorem Lb{H:bC}:∀ {ps:eh},xn H ps=true->∀j∈j0 h ps,tU j H=true
 |[],_,j,aX=>by cases aX
 |(i,k)::r,aF,j,aX=>by
  unfold xn at aF;rw[and_eq_true,or_eq_true]at aF;unfold j0 at aX
  split at aX
  ·exact Lb aF.2 j aX
  ·rename_i ab
   rcases List.mem_cons.1 aX with rfl|aX
   ·grind [E7]
   ·exact Lb aF.2 j aX
theorem SD{H:bC}:∀ {ps:eh},rM H ps=true->xn H ps=true
 |[],_=>rfl
 |(i,j)::r,h=>by
  unfold rM at h;rw[and_eq_true]at h;unfold xn;rw[h.1,SD h.2,Bool.or_true]
  rfl
theorem SE{H:bC}:∀ {ps:eh},rM H ps=true->∀i j,(i,j)∈ps->tU j H=true
 |(_,_)::r,h,i,j,hm=>by
  unfold rM at h;rw[and_eq_true]at h
  rcases List.mem_cons.1 hm with hm|hm
  ·grind
  ·exact SE h.2 i j hm
theorem SF:∀ {l:bC} {p:Nat×cz},p∈nF j l->p∈l
 |(k,b)::r,p,h=>by
  unfold nF at h
  split at h
  ·grind
  ·rcases List.mem_cons.1 h with rfl|h
   ·grind
   ·exact mem_cons_of_mem _ (SF h)
theorem Lc{ps d:eh}:∀ {is:bG} {l h l':bC},pa ps d is l=some (h,l')->∀p∈l',p∈l
 |[],_,_,_,an,p,a=>by cases an;exact a
 |i::is,l,h,l',an,p,a=>by
  unfold pa at an
  split at an
  ·split at an
   ·split at an
    ·rename_i b f e ag c
     cases an;exact SF (Lc c p a)
    grind
   grind
  grind
theorem aeC{ps b:eh}:∀ {is:bG} {l h l':bC},rM l ps=true->pa ps b is l=some (h,l')->h=[]/\l'=l
 |[],_,_,_,_,an=>by cases an;exact⟨rfl,rfl⟩
 |i::is,l,h,l',bc,an=>by
  unfold pa at an
  split at an
  ·rename_i j a
   split at an
   ·rename_i b' ao
    rw[SB (SE bc i j (BF a))]at ao
    grind
   grind
  grind
theorem SG{H H1:bC}{ps:eh}(aF:xn H ps=true)(a:∀p∈H1,p∈H):u7 (j0 h ps) H1=true:=SC λp an b=>SA (Lb aF p.1 b) p (a p an) rfl
theorem aeD{ps:eh}{b':cz}(h:b.dF ps=some b')(ag:xm b=true):xm b'=true:=by
 unfold cz.dF at h
 split at h
 all_goals first
  |(cases h;rfl)
  |(exfalso;simp[xm]at ag;done)
  |(split at h<;>first|(cases h;rfl)|cases h)
theorem SH:∀ {l:bC} {j:Nat} {b:cz},tV js l=true->j∈js->bh l j=some b->xm b=true
 |[],_,_,_,_,h=>by cases h
 |(k,ru)::r,j,b,bc,a,h=>by
  simp only[tV,and_eq_true]at bc;rw[cO]at h
  split at h
  ·grind
  ·exact SH bc.2 a h
theorem SI:∀ {l:bC},tV js l=true->tV js (nF j l)=true
 |[],_=>rfl
 |(k,ru)::r,bc=>by
  have a:=bc;simp only[tV,and_eq_true]at bc;unfold nF
  split
  ·grind
  ·simp only[tV,and_eq_true]
   exact⟨bc.1,SI bc.2⟩
theorem SJ{ps d:eh}:∀ {is:bG} {l h l':bC},tV (lO ps) l=true->pa ps d is l=some (h,l')->∀p∈h,xm p.2=true
 |[],_,_,_,_,an=>by cases an;intro p an;cases an
 |i::is,l,h,l',bc,an=>by
  unfold pa at an
  split at an
  ·rename_i j a
   split at an
   ·rename_i b' ao
    split at an
    ·rename_i b f e ag c
     cases an;intro p an
     rcases List.mem_cons.1 an with rfl|an
     ·exact aeD ag (SH bc (E9 (BF a)) ao)
     ·exact SJ (SI bc) c p an
    grind
   grind
  grind
theorem bE.sq{env:Nat->Loc}{B:Nat->Prop}{w:World}:∀ {l:bC} {H:cW},bE env B w l H->(∀p∈l,xm p.2=true)->∀c∈H,jd c=false
 |[],_,h,_,c,aa=>by rw[show _=[] from h]at aa;cases aa
 |(k,b)::r,_,⟨c0,H',e,J,U⟩,bc,c,aa=>by
  subst e
  rcases List.mem_cons.1 aa with rfl|aa
  ·exact J.pG λt cs e=>by
    have:=bc _ mem_cons_self
    rw[e]at this;cases this
  ·exact bE.sq U (λp an=>bc p (mem_cons_of_mem _ an)) c aa
theorem SK(e:bA X){pre post I:dT}(ps:eh)(K:Callee X st o e.f xs pre post)(D:o.guard=none/\o.dst=some d)(az:blt d n=true)(aw:FO X n st xs I){p:zG X e}(an:vn X n e ps st.H (pre++(I++post))=some p){r:e.aT}(ac:e.m p.d=some r)(bl:after X e ps st d p r=some st'):vo X n o (xo st.H ps) st st':=by
 intro R W aC ks env B ai H a w ae KK l aK;unfold vn at an
 split at an
 ·rename_i aE J H1 O aA g
  split at an
  ·rename_i u hu
   split at an
   ·rename_i z S
    cases an;have L:=O;simp only[ze,and_eq_true]at L;obtain⟨⟨oi,ax⟩,aJ⟩:=L;have P:=BE oi;have Q:=BE ax;obtain⟨vs,F,g2⟩:=aw _ _ _ _ _ _ _ _ _ _ ae;obtain⟨aF,aB⟩:=xl hu;obtain⟨V,Y⟩:=B6 S;have he:∀i j,bh ps i=some j->(λi=>match bh ps i with|some j=>env j|none=>Loc.no) i=env j:=λi j au=>by simp only[au]
    obtain⟨t,aT,E,A,aq⟩:=Sz P Q he g ae.heap;have Z:bK B ai t w:=by
     have f:=(ae.aQ.perm (E.append_right (ks.map dj))).fb (H':=t) (by rw[append_assoc];exact sublist_append_left _ _);exact⟨⟨f.below.os,f.below.tape,f.below.output,f.below.size,λk ab=>f.below.block k (.inr ab)⟩,λk ab=>f.base k (.inr ab),λc aa=>(f.ok c aa).base λb ag ab=>((f.ok c aa).lt ag).1 (.inr ab),f.apart⟩
    have cA:bE (λi=>match bh ps i with|some j=>env j|none=>Loc.no) B ai (kt e.ec (iH e.A z).2).1 t:=by rw[V];exact aB _ _ _ _ A
    have key:∀C,dx env B ai (pre++(I++post)) C->qx X.P e.f C.toArray w (tz X (λi=>match bh ps i with|some j=>env j|none=>Loc.no) B t w (λsv h=>sv=(e.out z r).1/\h=(e.out z r).2)):=λC h=>by
     have U:=(dx.dF (env:=env) (env':=λi=>match bh ps i with|some j=>env j|none=>Loc.no) (λj i ar=>he i j ((K8 P Q).1 ar)) aA).1 h;exact e.ok z r ac B ai _ C t w (λi x ak=>ae.eg i x ak) (Y _ _ _ _ U) cA Z
    have fin:∀v aS w',tz X (λi=>match bh ps i with|some j=>env j|none=>Loc.no) B t w (λsv h=>sv=(e.out z r).1/\h=(e.out z r).2) v w'->c5 n (kf ks aC) ((d,v)::full a) aS->KK aS w':=λv aS w' y m=>by
     obtain⟨sv,aI,⟨rfl,rfl⟩,aD⟩:=ae.called O E cA aq y m;unfold after at bl
     split at bl
     ·rename_i M N al am
      obtain⟨env',B',af,H',ad,aR,aO,av⟩:=aD M N al am;have aH:∀c∈H,xo st.H ps c=true->c∈H':=λc aa aM=>by
       unfold xo at aM;rw[or_eq_true]at aM;have cl:=E.mem_iff.1 aa
       rcases aM with aM|aM
       ·obtain⟨ah,aN⟩:=aeC aM g
        have ay:t=[]:=by rw[ah]at A;exact A
        rw[ay]at cl;exact av (SG (SD aM) (Lc g)) c (by simpa using cl)
       ·simp only[and_eq_true,zH]at aM
        obtain⟨aU,aV,aj⟩:=aM
        rcases List.mem_append.1 cl with cl|cl
        ·have:=A.sq (SJ aj g) c cl
         grind
        grind [SG,Lc]
      split at bl
      ·cases bl
       have aL:H1=st.H:=by
        cases iD:e.ec with
        |nil=>rw[iD]at g;cases g;rfl
        |cons q _=>rw[iD]at g;cases g
       have aQ:bO X R W aC n ks env' B' af H' ⟨(d,M)::qH [] st.L,N++je [] [] H1⟩ aS w':=ad
       grind [RG,RH]
      grind
     ·grind
    obtain⟨aP,K⟩:=K
    rcases K with⟨aG,rfl,rfl⟩|⟨s,ids,aG,ao,rfl,rfl⟩|⟨s,id,aG,ao,rfl,rfl⟩
    ·exact Qs ae.sym aG D az e.aF e.bc e.ag F (key vs (by simpa using g2)) λv aS w' y m=>fin v aS w' y m
    ·obtain⟨e6,G,lb,rfl,ap⟩:=ae.has _ _ ao
     exact QH ae.sym aG D az (hr G) e.aF e.bc e.ag F (key (vs++lb) (by simpa using g2.append (BI ap))) λv aS w' y m=>fin v aS w' y m
    ·obtain⟨e6,G,b,T,rfl⟩:=ae.has _ _ ao
     exact aes ae.sym aG D az (hr G) e.aF e.bc e.ag F (key (.pointer (some ⟨b,0,none⟩)::vs) (by rw[append_nil];exact⟨_,_,rfl,⟨b,T,rfl⟩,g2⟩)) λv aS w' y m=>fin v aS w' y m
   ·cases an
  ·cases an
 ·cases an
end
end
section
set_option linter.unusedSectionVars false
section
variable {X:bx} {M:Bool} {n:Nat} {r:Option Nat} {st:aP} {Q:Exit->aP->Prop} {ops rest:List Oper} {o:Oper} {d:Nat}
theorem aeG(gk gv:aZ)(c:o.op=.makeMap t none)(b:o.guard=none/\o.dst=some d)(az:blt d n=true)
  : hh X n o st ⟨(d,.c (.dv d))::fS d .dead st.L,(d,.mp gk gv [] none)::en d .dead st.H⟩:=by
 intro R W aC ks env B ai H a w ae KK g f;refine(hD ae.bV b.1 b.2 (dH az) (v:=.map (some w.heap.size)) (w':=w.alloc (.map #[] 0)) (by simp[execOp,c,Instr.makeMap,newObj,Sem.run]) λaS e=>?_);obtain⟨H',_,ah⟩:=ae.oT (d:=d) az (l:=.blk w.heap.size) (blk:=.mp gk gv [] none) (sv:=.c (.dv d)) (ae.aQ.alloc (.map #[] 0)) ⟨_,[],0,fi,rfl,rfl,⟨List.Pairwise.nil,λ_ h=>by cases h⟩,λ_ h=>by cases h⟩ ⟨_,fi,rfl⟩ e;exact f aS _ _ H' (ah)
theorem aeH(f:X.a1.ok X.P){p:cm}{id:Nat}{l:List (Int×gv.D)}{g:Bool}{sa:bn}(q:o.op=.lookup t u x false)(h:o.guard=none/\o.dst=some d)(az:blt d n=true)(bj:X.a1.find t=some bB)(c6:bB.ti.desc=.map e3 fB)(ab:X.a1.find e3=some p)(N:p.ti.desc=.int k)(he:X.a1.find fB=some dC)(bw:∀B w,dZ B w gv gv.zero dC.ti.zero)(hu:bu X st.L u=some (true,.c (.dv id)))(ak:bu X st.L x=some (g,.c (.val (.int k z))))(s:g=true)(A:bh st.H id=some (.mp (.int k) gv l iW))(mo:pX gv ((cX (.int k) gv l z).getD gv.zero)=some sa)
  : hh X n o st ⟨(d,.a sa)::st.L,st.H⟩:=by
 intro R W aC ks env B ai H a w ae KK Q D;obtain⟨P,J,b,ag,rfl⟩:=ae.aD hu rfl;obtain⟨vx,U,ah⟩:=ae.aD ak s;rw[show vx=_ from ah]at U;obtain⟨c,K,⟨b',O,clock,m,rfl,I,cY,_⟩,E⟩:=ae.heap.gA A;rw[ag]at m;cases m;have F:=(ae.aQ.ok _ E.more.mem).2;have i:=(cd.get f bj).ti.1;rw[c6]at i;have e:=(cd.get f ab).ti.1;rw[N]at e;have G:=bI.sg (cd.get f he).ti w;have L:∃v,(Instr.lookup t (.map (some b)) (.int k z) false).run X.P w=.ok v w/\dZ B ai gv ((cX (.int k) gv l z).getD gv.zero) v:=by
  unfold Instr.lookup;rw[show(10000:Nat)=9999+1 from rfl];simp only[Sem.run_bind,run_underlying i,Result.andThen_ok,MapKept.run_getObj_map F,Bi e,Sem.run_pure]
  rcases I.FA (z:=z) 0 with⟨aw,aI⟩|⟨y,j,v,aw,aI,bb,_⟩
  ·refine⟨dC.ti.zero,?_,by rw[aw];exact bw _ _⟩
   simp[MapKept.run_findKey e aI,G,Result.andThen]
  ·refine⟨v,?_,by rw[aw];exact bb⟩
   simp[MapKept.run_findKey e aI,Result.andThen]
 obtain⟨v,C,M⟩:=L;refine(hD ae.bV h.1 h.2 (dH az) (v:=v) (w':=w) ?_ λaS r=>?_)
 ·simp[execOp,q,ae.bV.aD J,ae.bV.aD U,C]
 ·exact D aS _ env H (ae.set (sv:=.a sa) (M.sa mo) r)
theorem aeI(q:X.a1.ok X.P){s:dQ}{g:Bool}(h:o.op=.index t u x)(b:o.guard=none/\o.dst=some d)(az:blt d n=true)(bj:X.a1.find t=some bB)(c6:bB.ti.desc=.string)(hu:bu X st.L u=some (g,.c (.str s)))(m:g=true)(ak:bu X st.L x=some (g2,.c (.val (.int k z))))(C:g2=true)(ag:a6 z s.length=true)
  : hh X n o st ⟨(d,.c (.val (.int .u8 ((s.getD z.toNat 0).toNat:Int))))::st.L,st.H⟩:=by
 intro R W aC ks env B ai H a w ae KK F f;obtain⟨D,J,U⟩:=ae.aD hu m;rw[show D=fF s from U]at J;obtain⟨vx,ah,p⟩:=ae.aD ak C;rw[show vx=_ from p]at ah;obtain⟨j,rfl,e,G⟩:=n6 ag;have c:=(cd.get q bj).ti.1;rw[c6]at c;have E:(ByteArray.mk s.toArray)[j]?=some (s.getD j 0):=by
  have r:j<(ByteArray.mk s.toArray).size:=by simpa [ByteArray.size] using e
  have y:(ByteArray.mk s.toArray)[j]?=some ((ByteArray.mk s.toArray)[j]'r):=by
   grind
  rw[y,List.getD_eq_getElem?_getD,getElem?_eq_getElem e]
  rfl
 refine(hD ae.bV b.1 b.2 (dH az) (v:=.int .u8 ((s.getD j 0).toNat:Int)) (w':=w) ?_ λaS i=>?_)
 ·have l:(0:Int)<=(j:Int):=Int.natCast_nonneg j
  have A:(Instr.index t (fF s) (.int k (j:Int))).run X.P w=.ok (.int .u8 ((s.getD j 0).toNat:Int)) w:=by
   simp only[Instr.index,fF,asIntOf,Sem.run_bind,Sem.run_pure,Result.andThen_ok,run_underlying c,l,if_true,Int.toNat_natCast,E]
  simp[execOp,h,ae.bV.aD J,ae.bV.aD ah,A]
 ·simp only[Int.toNat_natCast]at f
  exact f aS _ env H (ae.set (sv:=.c (.val (.int .u8 ((s.getD j 0).toNat:Int)))) rfl i)
theorem aeJ(E:X.a1.ok X.P){I:cm}{id:Nat}{l:List (Int×gv.D)}{g c:Bool}{e8:gv.D}(M:o.op=.insert t u x y)(A:o.guard=none/\o.dst=none)(bj:X.a1.find t=some bB)(c6:bB.ti.desc=.map e3 fB)(ab:X.a1.find e3=some I)(aq:I.ti.desc=.int k)(hu:bu X st.L u=some (true,.c (.dv id)))(ak:bu X st.L x=some (g,.c (.val (.int k z))))(P:g=true)(aA:bu X st.L y=some (g2,dW))(Y:g2=true)(S:bh st.H id=some (.mp (.int k) gv l iW))(ap:dec gv dW.cells=some (c,e8,[]))(aa:c=true)(Z:mn gv dW=true)
  : hh X n o st ⟨st.L,qr id (.mp (.int k) gv (ez (.int k) gv l z e8) none) st.H⟩:=by
 intro R W aC ks env B ai H a w ae KK av V;obtain⟨au,J,b,ag,rfl⟩:=ae.aD hu rfl;obtain⟨vx,U,ah⟩:=ae.aD ak P;rw[show vx=_ from ah]at U;obtain⟨vy,Q,N⟩:=ae.aD aA Y;have am:dZ B ai gv e8 vy:=dZ.vh ap aa Z N;obtain⟨et,K,⟨b',r,clock,G,rfl,ad,cY,_⟩,F,ac⟩:=ae.oU (b':=.mp (.int k) gv (ez (.int k) gv l z e8) none) S;rw[ag]at G;cases G;have s:=(ae.aQ.ok _ F.mem).2;have C:=(cd.get E bj).ti.1;rw[c6]at C;have m:=(cd.get E ab).ti.1;rw[aq]at m;have al:∃d i,(Instr.mapUpdate t (.map (some b)) (.int k z) vy).run X.P w=.ok () { w with heap:=w.heap.setIfInBounds b (.map d.toArray i) }/\fK B ai (.int k) gv (ez (.int k) gv l z e8) d/\n3 d i:=by
  unfold Instr.mapUpdate;rw[show(10000:Nat)=9999+1 from rfl];simp only[Sem.run_bind,run_underlying C,Result.andThen_ok,MapKept.run_getObj_map s,Bi m]
  rcases ad.setInt am (z:=z) 0 with⟨bb,cl⟩|⟨j,v,e,bb,cl,de,af⟩
  ·refine⟨r++[MapEntry.mk (.int k z) vy clock],clock+1,?_,?_,?_⟩
   ·simp only[MapKept.run_findKey m bb,Result.andThen_ok,MapKept.run_setObj_map _ s]
    simp
   ·rw[cl]
    have aw:dZ B ai (.int k) z (.int k z):=show [Value.int k z]=[Value.int k z] from rfl
    grind [fK.snoc]
   ·refine⟨?_,?_⟩
    ·rw[map_append,List.pairwise_append]
     exact⟨cY.1,by simp,λp an q D=>by simp at D;subst D;exact cY.2 p an⟩
    ·intro p an
     rw[map_append,List.mem_append]at an
     rcases an with an|an
     ·exact Nat.lt_succ_of_lt (cY.2 p an)
     grind
  ·refine⟨r.modify j λe=>{ e with key:=.int k z,val:=vy },clock,?_,af,?_⟩
   ·rw[zero_add]at bb
    have ao:(Instr.keyThatStays (((r.toArray[j]?).map (·.key)).getD (.int k z)) (.int k z)).run X.P w=.ok (.int k z) w:=by
     have:((r.toArray[j]?).map (·.key)).getD (.int k z)=.int k z:=by simp[cl,de]
     rw[this]
     simp[Instr.keyThatStays,Instr.sameBits]
    simp only[MapKept.run_findKey m bb,Result.andThen_ok,Sem.run_bind,ao,MapKept.run_setObj_map _ s]
    simp
   ·rw[n3,zv (f:=λe=>{ e with key:=.int k z,val:=vy }) (λ_=>rfl)]
    exact cY
 obtain⟨d,i,T,L,ar⟩:=al;refine(Bf ae.bV A.1 A.2 (w':={ w with heap:=w.heap.setIfInBounds b (.map d.toArray i) }) ?_ λaS O=>?_)
 ·simp[execOp,M,ae.bV.aD J,ae.bV.aD U,ae.bV.aD Q,T]
 ·obtain⟨H',aj⟩:=ac _ aS _ ⟨b,d,i,ag,rfl,L,ar,λ_ h=>by cases h⟩ (ae.aQ.wN F) O
  exact V aS _ env H' (aj)
theorem aeK(D:X.a1.ok X.P){T s:TypeId}{id d:Nat}{g':aZ}{l:List (List g.D)}{E:List g'.D}{xr:Option Nat}{r:Bool}(C:o.op=.store t x y)(z:o.guard=none/\o.dst=none)(bj:X.a1.find t=some bB)(M:beq bB.ti.size 1=true)(ak:bu X st.L x=some (r,.c (.eT id 1 i 0)))(L:r=true)(aA:bu X st.L y=some (g2,.c (.ax d)))(N:g2=true)(F:bh st.H id=some (.row T (.ax g) l cap))(Z:bh st.H d=some (.row s g' E xr))(hi:decide (i<l.length)=true)
  : hh X n o st ⟨st.L,qr id (.cN false T g l cap i d) st.H⟩:=by
 intro R W aC ks env B ai H a w ae KK ab I;obtain⟨vx,J,b,c,m,he,rfl⟩:=ae.aD ak L;obtain⟨vy,P,f,cC,j,V,rfl⟩:=ae.aD aA N;obtain⟨et,K,⟨A,k,xs,p,rfl,q,O⟩,aF,Q⟩:=ae.oU (b':=.cN false T g l cap i d) F;rw[he]at p;cases p;have G:=of_decide_eq_true hi;have U:=bN.qz q;have aa:xs.length=l.length:=by rw[U];show l.length * 1=_;omega
 have Y:=(cd.get D bj).ti;have S:=eq_of_beq_eq_true M;refine(ES (v:=.slice f j cC) ae.sym C z Y J P (by rw[S];rfl) (by intro u hu;simp[Value.cells]at hu;subst hu;rfl) aF (by show i * 1+0+1<=l.length * 1;omega) λaS w' bt=>?_);obtain⟨H',ah⟩:=Q _ aS w' ⟨some ⟨b,0,none⟩,c,xs,f,cC,j,he,rfl,q,G,V,O,λh=>by cases h⟩ (by
  have e:xs.take (i * 1+0)++(Value.slice f j cC).cells.toList++xs.drop (i * 1+0+(Value.slice f j cC).cells.toList.length)=xs.set i (.slice f j cC):=by
   grind [List.set_eq_take_append_cons_drop,Value.cells]
  have:=bt.aQ
  rw[e]at this;exact this) bt.st
 exact I aS _ env H' (ah)
theorem aeM(F:X.a1.ok X.P){T z:TypeId}{id d:Nat}{g':aZ}{l:List (List g.D)}{j:List g'.D}{q:Nat}{s:Bool}(E:o.op=.store t x y)(D:o.guard=none/\o.dst=none)(bj:X.a1.find t=some bB)(N:beq bB.ti.size 1=true)(ak:bu X st.L x=some (s,.c (.eT id 1 i 0)))(M:s=true)(aA:bu X st.L y=some (g2,.c (.ax d)))(O:g2=true)(G:bh st.H id=some (.row T (.hL g) l cap))(C:bh st.H d=some (.row z g' j (some q)))(hi:decide (i<l.length)=true)(aj:beq q j.length=true)
  : hh X n o st ⟨st.L,qr id (.cN true T g l cap i d) st.H⟩:=by
 intro R W aC ks env B ai H a w ae KK am L;obtain⟨vx,J,b,c,m,he,rfl⟩:=ae.aD ak M;obtain⟨vy,Q,h,cC,f,Z,rfl⟩:=ae.aD aA O;obtain⟨et,K,⟨A,k,xs,p,rfl,r,P⟩,aF,S⟩:=ae.oU (b':=.cN true T g l cap i d) G;rw[he]at p;cases p;have I:=of_decide_eq_true hi;have Y:cC=f:=by
  obtain⟨af,ab,⟨ag,an,al,ac,_,_,ao⟩,_⟩:=ae.heap.gA C
  grind [eq_of_beq_eq_true]
 have V:=bN.qz r;have ad:xs.length=l.length:=by rw[V];show l.length * 1=_;omega
 have aa:=(cd.get F bj).ti;have U:=eq_of_beq_eq_true N;refine(ES (v:=.slice h f cC) ae.sym E D aa J Q (by rw[U];rfl) (by intro u hu;simp[Value.cells]at hu;subst hu;rfl) aF (by show i * 1+0+1<=l.length * 1;omega) λaS w' bt=>?_);obtain⟨H',ah⟩:=S _ aS w' ⟨some ⟨b,0,none⟩,c,xs,h,cC,f,he,rfl,r,I,Z,P,λ_=>Y⟩ (by
  have e:xs.take (i * 1+0)++(Value.slice h f cC).cells.toList++xs.drop (i * 1+0+(Value.slice h f cC).cells.toList.length)=xs.set i (.slice h f cC):=by
   grind [List.set_eq_take_append_cons_drop,Value.cells]
  have:=bt.aQ
  rw[e]at this;exact this) bt.st
 exact L aS _ env H' (ah)
theorem aeP(g:aZ)(m:Nat)(z:Int)(b:X.a1.ok X.P){f:bn}{l:List g.D}{p c:Bool}{sa:bn}(r:o.op=.index t u x)(h:o.guard=none/\o.dst=some d)(az:blt d n=true)(bj:X.a1.find t=some bB)(c6:bB.ti.desc=.array m e)(he:X.a1.find e=some dC)(G:beq g.size dC.ti.size=true)(N:mM dC.ti.desc=g.tP)(L:(g.tP || beq g.size 1)=true)(hu:bu X st.L u=some (p,f))(F:p=true)(ak:bu X st.L x=some (g2,.c (.val (.int k z))))(K:g2=true)(bl:FE g m f=some (c,l))(aa:c=true)(bw:a6 z m=true)(gn:a6 z l.length=true)(mo:pX g (l.getD z.toNat g.zero)=some sa)
  : hh X n o st ⟨(d,.a sa)::st.L,st.H⟩:=by
 intro R W aC ks env B ai H a w ae KK Q E;obtain⟨P,J,U⟩:=ae.aD hu F;obtain⟨vs,rfl,I⟩:=ael U bl aa;obtain⟨vx,ah,C⟩:=ae.aD ak K;rw[show vx=_ from C]at ah;obtain⟨j,rfl,y,_⟩:=n6 bw;obtain⟨T,O,S,_⟩:=n6 gn;have A:j<l.length:=by omega
 rw[Int.toNat_natCast]at mo;have i:=(cd.get b bj).ti.1;rw[c6]at i;obtain⟨v,q,M⟩:=aek (w:=w) (cd.get b he).ti I A (eq_of_beq_eq_true G) N L;have D:=aej (k:=k) i (cd.get b he).ti y q;refine(hD ae.bV h.1 h.2 (dH az) (v:=v) (w':=w) (by simp[execOp,r,ae.bV.aD J,ae.bV.aD ah,D]) λaS s=>?_);exact E aS _ env H (ae.set (sv:=.a sa) (M.sa mo) s)
theorem aeR(q:X.a1.ok X.P){s:dQ}{g:Bool}(j:o.op=.slice t u (some x) none none)(c:o.guard=none/\o.dst=some d)(az:blt d n=true)(bj:X.a1.find t=some bB)(c6:bB.ti.desc=.string)(hu:bu X st.L u=some (g,.c (.str s)))(p:g=true)(ak:bu X st.L x=some (g2,.c (.val (.int k z))))(y:g2=true)(m:decide (0<=z)=true)(J:decide (z<=(s.length:Int))=true)
  : hh X n o st ⟨(d,.c (.str (s.drop z.toNat)))::st.L,st.H⟩:=by
 intro R W aC ks env B ai H a w ae KK G r;obtain⟨C,h,A⟩:=ae.aD hu p;rw[show C=fF s from A]at h;obtain⟨vx,i,D⟩:=ae.aD ak y;rw[show vx=_ from D]at i;have e:=(cd.get q bj).ti.1;rw[c6]at e;have E:=of_decide_eq_true m;have F:=of_decide_eq_true J;have f:=KZ (w:=w) (s:=s) (lo:=some (.int k z)) (hi:=none) (a:=z.toNat) (b:=s.length) e (by simp[Instr.sliceBounds,Instr.sliceBound,asIntOf,E,F]);rw[List.take_length]at f;refine(hD ae.bV c.1 c.2 (dH az) (v:=fF (s.drop z.toNat)) (w':=w) (by simp[execOp,j,ae.bV.aD h,ae.bV.aD i,f]) λaS l=>?_);exact r aS _ env H (ae.set (sv:=.c (.str (s.drop z.toNat))) rfl l)
theorem aeS(q:X.a1.ok X.P){s:dQ}{g:Bool}(j:o.op=.slice t u none (some x) none)(c:o.guard=none/\o.dst=some d)(az:blt d n=true)(bj:X.a1.find t=some bB)(c6:bB.ti.desc=.string)(hu:bu X st.L u=some (g,.c (.str s)))(p:g=true)(ak:bu X st.L x=some (g2,.c (.val (.int k z))))(y:g2=true)(m:decide (0<=z)=true)(J:decide (z<=(s.length:Int))=true)
  : hh X n o st ⟨(d,.c (.str (s.take z.toNat)))::st.L,st.H⟩:=by
 intro R W aC ks env B ai H a w ae KK G r;obtain⟨C,h,A⟩:=ae.aD hu p;rw[show C=fF s from A]at h;obtain⟨vx,i,D⟩:=ae.aD ak y;rw[show vx=_ from D]at i;have e:=(cd.get q bj).ti.1;rw[c6]at e;have E:=of_decide_eq_true m;have F:=of_decide_eq_true J;have f:=KZ (w:=w) (s:=s) (lo:=none) (hi:=some (.int k z)) (a:=0) (b:=z.toNat) e (by simp[Instr.sliceBounds,Instr.sliceBound,asIntOf,E,F]);rw[List.drop_zero]at f;refine(hD ae.bV c.1 c.2 (dH az) (v:=fF (s.take z.toNat)) (w':=w) (by simp[execOp,j,ae.bV.aD h,ae.bV.aD i,f]) λaS l=>?_);exact r aS _ env H (ae.set (sv:=.c (.str (s.take z.toNat))) rfl l)
theorem aeT(E:X.a1.ok X.P){s:dQ}{i:IntKind}{c:Int}{g j:Bool}(r:o.op=.slice t u (some x) (some y) none)(e:o.guard=none/\o.dst=some d)(az:blt d n=true)(bj:X.a1.find t=some bB)(c6:bB.ti.desc=.string)(hu:bu X st.L u=some (g,.c (.str s)))(D:g=true)(ak:bu X st.L x=some (g2,.c (.val (.int k z))))(I:g2=true)(aA:bu X st.L y=some (j,.c (.val (.int i c))))(N:j=true)(C:decide (0<=z)=true)(J:decide (z<=c)=true)(U:decide (c<=(s.length:Int))=true)
  : hh X n o st ⟨(d,.c (.str ((s.take c.toNat).drop z.toNat)))::st.L,st.H⟩:=by
 intro R W aC ks env B ai H a w ae KK T G;obtain⟨L,h,K⟩:=ae.aD hu D;rw[show L=fF s from K]at h;obtain⟨vx,l,M⟩:=ae.aD ak I;rw[show vx=_ from M]at l;obtain⟨vy,m,p⟩:=ae.aD aA N;rw[show vy=_ from p]at m;have f:=(cd.get E bj).ti.1;rw[c6]at f;have O:=of_decide_eq_true C;have V:=of_decide_eq_true J;have P:=of_decide_eq_true U;have q:0<=c:=by omega
 have S:z<=(c.toNat:Int):=by omega
 have F:=KZ (w:=w) (s:=s) (lo:=some (.int k z)) (hi:=some (.int i c)) (a:=z.toNat) (b:=c.toNat) f (by
  have Q:z<=max c 0:=by omega
  simp[Instr.sliceBounds,Instr.sliceBound,asIntOf,O,P,q,Q])
 refine(hD ae.bV e.1 e.2 (dH az) (v:=fF ((s.take c.toNat).drop z.toNat)) (w':=w) (by simp[execOp,r,ae.bV.aD h,ae.bV.aD l,ae.bV.aD m,F]) λaS A=>?_);exact G aS _ env H (ae.set (sv:=.c (.str ((s.take c.toNat).drop z.toNat))) rfl A)
theorem aeU(j:X.a1.ok X.P){D:Bool}{K c:Nat}{p:aZ}{l b:List g.D}{q:Value}(O:o.op=.call ⟨.builtin .append,⟨[x,y]⟩,⟨[t,t]⟩⟩)(N:o.guard=none/\o.dst=some d)(az:blt d n=true)(bj:X.a1.find t=some bB)(c6:bB.ti.desc=.slice e)(he:X.a1.find e=some ⟨⟨aK,i,K,q⟩,some p⟩)(ak:bu X st.L x=some (D,.c (.bz g l (some c))))(Q:D=true)(aA:bu X st.L y=some (g2,dW))(Y:g2=true)(Z:beq g.size i=true)(al:nD st g dW=some b)(aa:dk K (l.length+b.length)=true)(ah:decide (c=l.length)=true)
  : hh X n o st ⟨(d,.c (.ax d))::fS d .dead st.L,(d,.gT e g (l++b))::en d .dead st.H⟩:=by
 intro R W aC ks env B ai H a w h KK ap s;obtain⟨vx,I,A,c',xs,rfl,an,C,ab,u,L⟩:=h.aD ak Q;obtain⟨vy,ac,ag⟩:=h.aD aA Y;have P:=ab c rfl;have U:=of_decide_eq_true ah;have V:c'=l.length:=P.trans U;rw[V]at I C;obtain⟨k,z,af⟩:=(cd.get j he).g p rfl;obtain⟨T,S,J,r⟩:=n2 (cd.get j bj).ti (cd.get j he).ti;dsimp only at k z r;have aj:q.cells.size=i:=by
  have:q.cells.toList.length=i:=by rw[z,<- k];exact bN.length (bN.eO (B:=B) (w:=ai) p)
  grind
 have E:=eq_of_beq_eq_true Z;simp only[dk,and_eq_true,decide_eq_true_eq]at aa;obtain⟨ao,cC,ad,rfl,G,F⟩:=tx h al ag;have M:=L.kJ h.aQ;rw[E]at M F;refine(So h.sym O N az S J c6 r (by rw[<- k];exact Nat.ble_eq_true_of_le af) aj I ac M F (Flat.jr (λ_ _=>bN.jr) G) aa.1 aa.2 (λae aS w' bt=>?_) λf c' aS w' bt=>?_)
 ·have am:b=[]:=List.eq_nil_of_length_eq_zero ae
  subst am;obtain⟨H',_,m⟩:=h.oT (d:=d) az (l:=.row A l.length (l++[]).length) (c:=.row none 0 e g.size 0 []) (blk:=.gT e g (l++[])) (sv:=.c (.ax d)) (v:=.slice A l.length l.length) (bt.aQ.uQ e g.size) ⟨A,l.length,fi,.inr ⟨rfl,by simp,C,xs,by rw[append_nil];exact u,by rw[append_nil];exact L⟩⟩ ⟨A,l.length,_,fi,by simp⟩ bt.st;exact s aS w' _ H' (m)
 ·obtain⟨H',_,m⟩:=h.oT (d:=d) az (l:=.row f c' (l++b).length) (c:=.row f c' e g.size (l++b).length (xs++ad)) (blk:=.gT e g (l++b)) (sv:=.c (.ax d)) (v:=.slice f (l.length+b.length) c') (by have:=bt.aQ;rw[<- E]at this;rw[length_append];exact this) ⟨f,c',fi,.inl ⟨_,rfl,u.append G⟩⟩ ⟨f,c',_,fi,by rw[length_append]⟩ bt.st
  exact s aS w' _ H' (m)
end
end
section
section
variable {X:bx} {n:Nat} {st st':aP} {o:Oper} {d:Nat}
end
end
section
set_option linter.unusedSectionVars false
section
variable {X:bx} {M:Bool} {n:Nat} {st:aP} {Q:Exit->aP->Prop} {ops rest:List Oper} {o:Oper} {d:Nat}
theorem aeV(b:X.a1.ok X.P){id:Nat}{T:TypeId}{l:List g.D}{f:Bool}(i:o.op=.slice t u (some x) none none)(bj:X.a1.find t=some bB)(c6:bB.ti.desc=.slice e)(he:X.a1.find e=some dC)(hu:bu X st.L u=some (f,.c (.ax id)))(r:f=true)(ak:bu X st.L x=some (g2,.c (.val (.int k z))))(v:g2=true)(p:bh st.H id=some (.row T g l cap))(s:beq g.size dC.ti.size=true)(bw:(decide (0<=z)&&decide (z<=(l.length:Int)))=true):jq X st o (.c (.jE id g.size z.toNat)):=by
 intro R W aC n ks env B ai H a b9 ae;simp only[and_eq_true,decide_eq_true_eq]at bw;obtain⟨E,J,A,c,m,h,rfl⟩:=ae.aD hu r;obtain⟨vx,U,ah⟩:=ae.aD ak v;rw[show vx=_ from ah]at U;obtain⟨et,K,⟨D,k',xs,d,rfl,_⟩,aF⟩:=ae.heap.gA p;rw[h]at d;cases d;obtain⟨C,j,q,y⟩:=n2 (cd.get b bj).ti (cd.get b he).ti;refine⟨_,⟨A,c,l.length,h,by omega,rfl⟩,λw _=>?_⟩
 have:=QA (l:=z.toNat) ae.bV i j q c6 y J U (by omega) (by omega) w
 rw[<- eq_of_beq_eq_true s]at this;exact this
theorem Flat.part{R:α->bQ->Prop}{k:Nat}(h:∀x vs,R x vs->vs.length=k){l a:List α}{xs b:bQ}(J:Flat R l xs)(U:Flat R a b):Flat R (l.take i++a++l.drop (i+a.length)) (xs.take (i * k)++b++xs.drop (i * k+b.length)):=by
 have e:=Flat.length h U;rw[e,<- add_mul];exact((Flat.split h i J).1.append U).append (Flat.split h (i+a.length) J).2
theorem aeW(k:X.a1.ok X.P){r:Bool}{id f af p:Nat}{ad:aZ}{l b:List g.D}{aj:Value}(L:o.op=.call ⟨.builtin .copy,⟨[x,y]⟩,⟨[t,t]⟩⟩)(I:o.guard=none/\o.dst=some d)(az:blt d n=true)(bj:X.a1.find t=some bB)(c6:bB.ti.desc=.slice e)(he:X.a1.find e=some ⟨⟨aK,f,af,aj⟩,some ad⟩)(ak:bu X st.L x=some (r,.c (.jE id s p)))(M:r=true)(aA:bu X st.L y=some (g2,dW))(U:g2=true)(Q:bh st.H id=some (.row e g l cap))(V:beq g.size f=true)(N:beq s f=true)(am:nD st g dW=some b)(ao:blt 0 f=true)(aa:decide (p+b.length<=l.length)=true):hh X n o st ⟨(d,.c (.val (.int .i64 (b.length:Int))))::st.L,qr id (.row e g (l.take p++b++l.drop (p+b.length)) cap) st.H⟩:=by
 intro R W aC ks env B ai H a w h KK lo S;obtain⟨vx,C,ag⟩:=h.aD ak M;obtain⟨vy,ac,ah⟩:=h.aD aA U;obtain⟨T,P,J,O⟩:=n2 (cd.get k bj).ti (cd.get k he).ti;have j:=eq_of_beq_eq_true V;have ae:=eq_of_beq_eq_true N;have al:=of_decide_eq_true aa;obtain⟨aq,cC,u,rfl,z,v⟩:=tx h am ah;obtain⟨A,c,m,E,ar,rfl⟩:=ag;obtain⟨et,K,⟨ap,k',xs,F,rfl,Z,ab⟩,q,an⟩:=h.oU (b':=.row e g (l.take p++b++l.drop (p+b.length)) cap) Q;rw[E]at F;cases F;rw[j]at q v;rw[ae]at C;have D:(l.take p++b++l.drop (p+b.length)).length=l.length:=by
  grind
 refine QC h.sym L I az P J c6 O C ac q v (Flat.jr (λ_ _=>bN.jr) z) (dH ao) al λaS w' bt=>?_
 have G:=Flat.part (i:=p) (λ_ _=>bN.length) Z z;rw[j]at G;obtain⟨H',Y⟩:=an (.row A c e g.size l.length (xs.take (p * f)++u++xs.drop (p * f+u.length))) a w' ⟨A,c,_,by rw[D];exact E,by rw[D],G,ab⟩ (by rw[j];exact bt.aQ) h.bV;exact S aS w' _ H' (Y.set rfl bt.st)
theorem aeX(f:X.a1.ok X.P){id:Nat}{b:Bool}(d:o.op=.call ⟨.builtin .cap,⟨[u]⟩,⟨[t]⟩⟩)(bj:X.a1.find t=some bB)(c6:bB.ti.desc=.slice e)(hu:bu X st.L u=some (b,.c (.ax id)))(i:b=true):jq X st o (.c (.jV id)):=by
 intro R W aC n ks env B ai H a b9 ae;obtain⟨l,J,A,c,m,j,rfl⟩:=ae.aD hu i;obtain⟨k,g,h⟩:=EG (cd.get f bj).ti;exact⟨_,⟨A,c,m,j,rfl⟩,λw _=>Jz ae.bV d g h c6 J w⟩
theorem eY.less{size c n m:Nat}{A:Option Addr}{xs:bQ}(h:eY w B e size A c n xs)(b:m<=n):eY w B e size A c m (xs.take (m * size)):=by
 have a:m * size<=n * size:=Nat.mul_le_mul_right _ b;refine⟨by rw[List.length_take,h.1,Nat.min_eq_left a],?_⟩
 rcases h.2 with⟨J,U,ah⟩|⟨g,cur,cg,J,U,ah,aw,aI,bb,cl,de⟩
 ·grind
 grind
theorem aeY(s:X.a1.ok X.P){v:Operand}{id:Nat}{T:TypeId}{l:List g.D}{E F:Bool}(I:o.op=.slice t u none (some y) (some v))(p:o.guard=none/\o.dst=some d)(az:(blt d n&&blt id h1)=true)(bj:X.a1.find t=some bB)(c6:bB.ti.desc=.slice e)(he:X.a1.find e=some dC)(hu:bu X st.L u=some (E,.c (.ax id)))(Y:E=true)(aA:bu X st.L y=some (g2,.c (.val (.int k z))))(ab:g2=true)(G:bu X st.L v=some (F,.c (.jV id)))(af:F=true)(P:bh st.H id=some (.row T g l cap))(bw:(decide (0<=z)&&decide (z<=(l.length:Int)))=true):hh X n o st ⟨(d,.c (.ax id))::fS id .dead st.L,(id,.row T g (l.take z.toNat) cap)::en id .dead st.H⟩:=by
 intro R W aC ks env B ai H a w ae KK ar V;simp only[and_eq_true,decide_eq_true_eq]at bw az;obtain⟨az,ak⟩:=az;obtain⟨aq,J,A,c,m,f,rfl⟩:=ae.aD hu Y;obtain⟨vy,U,ah⟩:=ae.aD aA ab;rw[show vy=_ from ah]at U;obtain⟨vv,N,ao,al,au,i,rfl⟩:=ae.aD G af;rw[f]at i;cases i;obtain⟨et,K,⟨ap,k',xs,C,rfl,aa,ac⟩,aF,aj⟩:=ae.ET (d:=d) (b':=.row T g (l.take z.toNat) cap) P (λq an=>by
  obtain⟨_,r,bb⟩:=ae.dB _ _ an;rw[f]at r
  rcases bb with⟨b,bb⟩|bb
  ·rw[<- r]at bb;cases bb
  ·have:=dH ak;omega)
 rw[f]at C;cases C;obtain⟨am,O,S,ad⟩:=n2 (cd.get s bj).ti (cd.get s he).ti;have D:eY w (λk=>R k\/B k) T g.size A c l.length xs:=ae.aQ.ok _ aF.mem;have Q:=QL (h:=z.toNat) (q:=c) ae.bV I O S c6 ad J U N (by omega) rfl (by have:=D.le.1;omega) (le_refl _) w;refine hD ae.bV p.1 p.2 (dH az) (v:=.slice A z.toNat c) (w':=w) Q λaS L=>?_
 have j:(l.take z.toNat).length=z.toNat:=by rw[List.length_take];omega
 have M:bK (λk=>R k\/B k) ai (K (.row A c T g.size z.toNat (xs.take (z.toNat * g.size)))) w:=ae.aQ.wK aF (cV.refl _ _) (D.less (by omega)) (λb ag=>.inl ag) λb _ _=>rfl
 obtain⟨H',_,Z⟩:=aj (.row A c z.toNat) _ aS w (.c (.ax id)) _ ⟨A,c,_,by rw[j];exact fi,by rw[j],(Flat.split (λ_ _=>bN.length) z.toNat aa).1,ac⟩ ⟨A,c,_,fi,rfl⟩ M L;exact V aS w _ H' Z
end
end
def bs.free:bs->Bool
 |.val _=>true
 |.str _=>true
 |.fu _ _ _=>true
 |.par _ _=>true
 |.bz _ _ _=>true
 |.fn _ cs=>tG cs
 |_=>false
def tX:dP->Bool
 |[]=>true
 |c::r=>match c.free with
  |true=>tX r
  |false=>false
def bn.free:bn->Bool
 |.c x=>x.free
 |.agg cs=>tX cs
 |.arr _ _=>true
def nb:dT->Bool
 |[]=>true
 |c::r=>match c.free with
  |true=>nb r
  |false=>false
def b7.free:b7->Bool
 |.a x=>x.free
 |.may _ x=>x.free
 |.cE xs=>nb xs
def cz.free:cz->Bool
 |.cells _ cs=>tX cs
 |.row _ _ _ _=>true
 |.mp _ _ _ _=>true
 |.gT _ _ _=>true
 |.bS _ _ _ _ _ none=>true
 |_=>false
theorem SR{id:Nat}:∀ {cs:dY},tG cs=true->wR id cs=false
 |[],_=>rfl
 |.id _::_,h=>by cases h
 |.eC _ _::cs,h=>SR (cs:=cs) h
theorem SS:∀ {cs:dY},tG cs=true->rB js cs=false
 |[],_=>rfl
 |.id _::_,h=>by cases h
 |.eC _ _::cs,h=>SS (cs:=cs) h
theorem SU{id:Nat}{x:g.D}:∀ {cs:dY},tG cs=true->vd id g x cs=cs
 |[],_=>rfl
 |.id _::_,h=>by cases h
 |.eC _ _::cs,h=>by
  show fq.eC _ _::vd id g x cs=_;rw[SU (cs:=cs) h]
structure Fix(f:bs->bs):Prop where
 fix:∀c,c.free=true->f c=c
theorem Le(id:Nat)(z:bs):Fix λc=>c.sub id z:=⟨λc h=>by
 cases c with
 |fn f cs=>simp only[bs.sub];rw[SR h]
 |_=>first|rfl|cases h⟩
theorem Lf(js:bG):Fix λc=>c.kill js:=⟨λc h=>by
 cases c with
 |fn f cs=>simp only[bs.kill];rw[SS h]
 |_=>first|rfl|cases h⟩
theorem Lg(id:Nat)(g:aZ)(x:g.D):Fix λc=>c.eR id g x:=⟨λc h=>by
 cases c with
 |fn f cs=>simp only[bs.eR];rw[SU h]
 |_=>first|rfl|cases h⟩
def xv(f:bs->bs):dP->dP
 |[]=>[]
 |c::r=>f c::xv f r
theorem tY{f:bs->bs}(aF:Fix f):∀ {cs:dP},tX cs=true->xv f cs=cs
 |[],_=>rfl
 |c::r,h=>by
  unfold tX at h
  split at h
  ·rename_i e
   show f c::xv f r=_;rw[aF.fix c e,tY aF h]
  grind
theorem Lh(id:Nat)(z:bs):∀cs:dP,ts id z cs=xv (λc=>c.sub id z) cs
 |[]=>rfl
 |c::r=>by
  show c.sub id z::ts id z r=_;rw[Lh id z r];rfl
theorem Li(js:bG):∀cs:dP,su js cs=xv (λc=>c.kill js) cs
 |[]=>rfl
 |c::r=>by
  show c.kill js::su js r=_;rw[Li js r];rfl
theorem Lj(id:Nat)(g:aZ)(x:g.D):∀cs:dP,zp id g x cs=xv (λc=>c.eR id g x) cs
 |[]=>rfl
 |c::r=>by
  show c.eR id g x::zp id g x r=_;rw[Lj id g x r];rfl
theorem Lk{id:Nat}{z:bs}{x:bn}(h:x.free=true):x.sub id z=x:=by
 cases x with
 |c x=>simp only[bn.sub];rw[(Le id z).fix x h]
 |agg cs=>simp only[bn.sub];rw[Lh,tY (Le id z) h]
 |arr g l=>rfl
theorem Ll{x:bn}(h:x.free=true):x.kill js=x:=by
 cases x with
 |c x=>simp only[bn.kill];rw[(Lf js).fix x h]
 |agg cs=>simp only[bn.kill];rw[Li,tY (Lf js) h]
 |arr g l=>rfl
theorem Lm{id:Nat}{y:g.D}{x:bn}(h:x.free=true):x.eR id g y=x:=by
 cases x with
 |c x=>simp only[bn.eR];rw[(Lg id g y).fix x h]
 |agg cs=>simp only[bn.eR];rw[Lj,tY (Lg id g y) h]
 |arr g l=>rfl
theorem SV{id:Nat}{z:bs}:∀ {xs:dT},nb xs=true->Bn id z xs=xs
 |[],_=>rfl
 |c::r,h=>by
  unfold nb at h
  split at h
  ·rename_i e
   show c.sub id z::Bn id z r=_;rw[Lk e,SV h]
  grind
theorem SW:∀ {xs:dT},nb xs=true->w4 js xs=xs
 |[],_=>rfl
 |c::r,h=>by
  unfold nb at h
  split at h
  ·rename_i e
   show c.kill js::w4 js r=_;rw[Ll e,SW h]
  grind
theorem SX{id:Nat}{y:g.D}:∀ {xs:dT},nb xs=true->BS id g y xs=xs
 |[],_=>rfl
 |c::r,h=>by
  unfold nb at h
  split at h
  ·rename_i e
   show c.eR id g y::BS id g y r=_;rw[Lm e,SX h]
  grind
theorem aeZ{id:Nat}{z:bs}{v:b7}(h:v.free=true):v.sub id z=v:=by
 cases v with
 |a x=>simp only[b7.sub];rw[Lk h]
 |may g x=>simp only[b7.sub];rw[Lk h]
 |cE xs=>simp only[b7.sub];rw[SV h]
theorem ae0{v:b7}(h:v.free=true):v.kill js=v:=by
 cases v with
 |a x=>simp only[b7.kill];rw[Ll h]
 |may g x=>simp only[b7.kill];rw[Ll h]
 |cE xs=>simp only[b7.kill];rw[SW h]
theorem ae1{id:Nat}{y:g.D}{v:b7}(h:v.free=true):v.eR id g y=v:=by
 cases v with
 |a x=>simp only[b7.eR];rw[Lm h]
 |may g x=>simp only[b7.eR];rw[Lm h]
 |cE xs=>simp only[b7.eR];rw[SX h]
theorem ae2{id:Nat}{z:bs}(h:b.free=true):b.sub id z=b:=by
 cases b with
 |cells t cs=>simp only[cz.sub];rw[Lh,tY (Le id z) h]
 |bS T T' g l c q=>rcases q with _|⟨i,_|d⟩<;>first|rfl|cases h
 |_=>first|rfl|cases h
theorem ae3(h:b.free=true):b.kill js=b:=by
 cases b with
 |cells t cs=>simp only[cz.kill];rw[Li,tY (Lf js) h]
 |bS T T' g l c q=>rcases q with _|⟨i,_|d⟩<;>first|rfl|cases h
 |_=>first|rfl|cases h
theorem ae4{id:Nat}{y:g.D}(h:b.free=true):b.eR id g y=b:=by
 cases b with
 |cells t cs=>simp only[cz.eR];rw[Lj,tY (Lg id g y) h]
 |_=>first|rfl|cases h
def fs(q:Nat):bG->Bool
 |[]=>false
 |k::r=>match beq k q with
  |true=>true
  |false=>fs q r
theorem sH{q:Nat}:∀ {l r:bG},fs q (l++r)=false↔fs q l=false/\fs q r=false
 |[],r=>by simp[fs]
 |k::l,r=>by
  show(match beq k q with|true=>true|false=>fs q (l++r))=false↔(match beq k q with|true=>true|false=>fs q l)=false/\_;cases beq k q with
  |true=>simp
  |false=>exact sH
theorem gY{q k:Nat}{r:bG}(h:fs q (k::r)=false):q≠k/\fs q r=false:=by
 grind [fs,beq_refl]
def cy{α:Type}(a:α->Bool)(V:bG)(L dJ:List (Nat×α)):Prop:=∀q v,fs q V=false->bh dJ q=some v->∃u,bh L q=some u/\(a u=true->v=u)
theorem cy.refl{a:α->Bool}(L:List (Nat×α)):cy a V L L:=λ_ v _ h=>⟨v,h,λ_=>rfl⟩
theorem cy.trans{a:α->Bool}{V2:bG}{L b c:List (Nat×α)}(h:cy a V L b)(k:cy a V2 b c):cy a (V2++V) L c:=λq v d ao=>by
 obtain⟨J,U⟩:=sH.1 d;obtain⟨u,ah,f⟩:=k q v J ao;obtain⟨i,e,g⟩:=h q u U ah
 grind
theorem cy.more{b:α->Bool}{V2:bG}{L a:List (Nat×α)}(h:cy b V L a)(c:∀q,fs q V2=false->fs q V=false):cy b V2 L a:=λq v d ao=>h q v (c q d) ao
theorem cy.cons{a:α->Bool}{L dJ:List (Nat×α)}{d:Nat}{v:α}(h:cy a V L dJ):cy a (d::V) L ((d,v)::dJ):=λq u b ao=>by
 obtain⟨J,U⟩:=gY b;rw[cO,if_neg J]at ao;exact h q u U ao
theorem cy.append{a:α->Bool}{V:bG}{L dJ:List (Nat×α)}(h:cy a V L dJ):∀ {U:List (Nat×α)} {ks:bG},U.map (·.1)=ks->cy a (ks++V) L (U++dJ)
 |[],_,rfl=>h
 |(k,v)::r,_,rfl=>cy.cons (V:=r.map (·.1)++V) (cy.append h rfl)
theorem cy.map{a:α->Bool}{L dJ:List (Nat×α)}{f:α->α}(aF:∀v,a v=true->f v=v)(h:∀q v,bh dJ q=some v->∃u,bh L q=some u/\v=f u):cy a V L dJ:=λq v _ ao=>by
 grind
abbrev zK:=cy b7.free
abbrev nc:=cy cz.free
theorem lU(id:Nat)(z:bs)(L:cS):zK V L (fS id z L):=cy.map (f:=λv=>v.sub id z) (λ_ h=>aeZ h) λ_ _ h=>rq h
theorem ae5(js:bG)(L:cS):zK V L (qH js L):=cy.map (f:=λv=>v.kill js) (λ_ h=>ae0 h) λ_ _ h=>Kk h
theorem ae6(id:Nat)(g:aZ)(x:g.D)(L:cS):zK V L (w9 id g x L):=cy.map (f:=λv=>v.eR id g x) (λ_ h=>ae1 h) λ_ _ h=>KG h
theorem kX(id:Nat)(z:bs){V:bG}:∀H:bC,nc V H (en id z H)
 |[]=>cy.refl []
 |(k,b)::r=>λq v c ao=>by
  unfold en at ao
  split at ao
  ·rename_i e
   have ab:=eq_of_beq_eq_true e;obtain⟨u,J,U⟩:=kX id z (V:=V) r q v c ao;have d:q≠k:=λa=>by
    subst a;rw[ab]at ao;exact Ln ao
   grind [cO]
  ·rw[cO]at ao ⊢
   split at ao
   ·grind [ae2]
   ·rename_i e
    rw[if_neg e];exact kX id z r q v c ao
where Ln {id:Nat} {z:bs} {v:cz}:∀ {H:bC},bh (en id z H) id=some v->False
 |[],h=>by cases h
 |(k,b)::r,h=>by
  unfold en at h
  split at h
  ·exact Ln h
  ·rename_i e
   rw[cO,if_neg (λa=>by rw[a,beq_refl]at e;cases e)]at h;exact Ln h
theorem ln{id:Nat}(c:fs id V=true):∀ {H:bC},nc V H (qr id b H)
 |[]=>cy.refl []
 |(k,b')::r=>λq v a ao=>by
  have d:q≠id:=λe=>by rw[e,c]at a;cases a
  unfold qr at ao
  split at ao
  ·grind [eq_of_beq_eq_true,cO]
  ·rw[cO]at ao ⊢
   split at ao
   ·grind
   ·rename_i e
    rw[if_neg e];exact ln c q v a ao
end Go.Proofs.YtijeenjclhajhaaGreatDoor
