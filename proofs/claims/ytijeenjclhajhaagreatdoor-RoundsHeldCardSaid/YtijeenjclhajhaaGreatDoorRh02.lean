/- Part 2 of 6 of the proof. -/
import Derived.Test.YtijeenjclhajhaaGreatDoorRh01
import Derived.Lib.LaidTab
import Derived.Test.YtijeenjclhajhaaGreatDoorProg
import Derived.KernelRfl
import Derived.Lib.ItoaNum
import Derived.Test.YtijeenjclhajhaaGreatDoorRows
import Derived.LaidMore
import Derived.OpenShut
import Derived.Stop.Joined
import Derived.Test.YtijeenjclhajhaaGreatDoorCards
import Derived.Test.YtijeenjclhajhaaGreatDoorTie
import Derived.SevenTiedAt
import Derived.Maps.RangeRun
import Derived.Scope
import Derived.Lib.OthersKept
set_option linter.all false
set_option maxRecDepth 100000
namespace Go.Proofs.YtijeenjclhajhaaGreatDoor
open Go.Proofs.Tryz
open _root_.Bool (and_eq_true not_eq_true' or_eq_true)
open _root_.Nat (add_assoc add_mul beq beq_refl ble blt eq_of_beq_eq_true le_of_ble_eq_true le_refl le_trans zero_add)
open _root_.List (append_assoc append_nil cons_append drop_drop elem_eq_mem ext_getElem? extract filter_cons_of_neg filter_sublist getElem?_eq_getElem getElem?_eq_none getElem?_map length_append length_cons length_drop length_map length_take map_append map_cons map_nil mem_append_left mem_append_right mem_cons_of_mem mem_cons_self range sublist_append_left toArray)
open Go.RowKit
section
abbrev ev:=List (Nat×Nat)
def y3(aB:ev):eB->Option eB
 |[]=>some []
 |.id i::r=>match bj aB i,y3 aB r with
  |some j,some l=>some (.id j::l)
  |_,_=>none
 |.fr g x::r=>match y3 aB r with
  |some l=>some (.fr g x::l)
  |none=>none
def bs.dE(aB:ev):bs->Option bs
 |.ptr i o=>match bj aB i with
  |some j=>some (.ptr j o)
  |none=>none
 |.fg i a k o=>match bj aB i with
  |some j=>some (.fg j a k o)
  |none=>none
 |.aI i=>match bj aB i with
  |some j=>some (.aI j)
  |none=>none
 |.fn f ids=>match y3 aB ids with
  |some l=>some (.fn f l)
  |none=>none
 |.dI i=>match bj aB i with
  |some j=>some (.dI j)
  |none=>none
 |.jR f i=>match bj aB i with
  |some j=>some (.jR f j)
  |none=>none
 |.iF i o=>match bj aB i with
  |some j=>some (.iF j o)
  |none=>none
 |.j7 i=>match bj aB i with
  |some j=>some (.j7 j)
  |none=>none
 |.jS i s o=>match bj aB i with
  |some j=>some (.jS j s o)
  |none=>none
 |.iV b i=>match bj aB i with
  |some j=>some (.iV b j)
  |none=>none
 |.val v=>some (.val v)
 |.str s=>some (.str s)
 |.dead=>some .dead
 |.gb g x o=>some (.gb g x o)
 |.par g l=>some (.par g l)
 |.bJ g l c=>some (.bJ g l c)
def Bt(aB:ev):dT->Option dT
 |[]=>some []
 |c::r=>match c.dE aB,Bt aB r with
  |some c',some a=>some (c'::a)
  |_,_=>none
def bp.dE(aB:ev):bp->Option bp
 |.c x=>match x.dE aB with
  |some y=>some (.c y)
  |none=>none
 |.agg cs=>match Bt aB cs with
  |some l=>some (.agg l)
  |none=>none
 |.arr g l=>some (.arr g l)
def tx(aB:ev):ej->Option ej
 |[]=>some []
 |c::r=>match c.dE aB,tx aB r with
  |some c',some a=>some (c'::a)
  |_,_=>none
def b8.dE(aB:ev):b8->Option b8
 |.a x=>match x.dE aB with
  |some y=>some (.a y)
  |none=>none
 |.cY xs=>match tx aB xs with
  |some l=>some (.cY l)
  |none=>none
 |.may _ _=>none
def cC.dE(aB:ev):cC->Option cC
 |.cells t cs=>match Bt aB cs with
  |some l=>some (.cells t l)
  |none=>none
 |.row t g l c=>some (.row t g l c)
 |.lj s p=>some (.lj s p)
 |.mp gk gv l o=>some (.mp gk gv l o)
 |.it b h k e=>match bj aB b with
  |some j=>some (.it j h k e)
  |none=>none
 |.lk=>some .lk
 |.h8 b=>match bj aB b with
  |some j=>some (.h8 j)
  |none=>none
 |.cW f t g l c i d=>match bj aB d with
  |some j=>some (.cW f t g l c i j)
  |none=>none
 |.lM=>some .lM
 |.hl t g l=>some (.hl t g l)
 |.cf t a g l c none=>some (.cf t a g l c none)
 |.cf t a g l c (some (i,none))=>some (.cf t a g l c (some (i,none)))
 |.cf t a g l c (some (i,some d))=>match bj aB d with
  |some j=>some (.cf t a g l c (some (i,some j)))
  |none=>none
def sr(aB:ev):bC->Option bC
 |[]=>some []
 |(i,b)::r=>match bj aB i,b.dE aB,sr aB r with
  |some j,some b',some a=>some ((j,b')::a)
  |_,_,_=>none
def rp(cy:bX):eB->Bool
 |[]=>false
 |.id i::r=>cy.elem i || rp cy r
 |.fr _ _::r=>rp cy r
def bs.kill:bs->bX->bs
 |.ptr i o,cy=>match cy.elem i with
  |true=>.dead
  |false=>.ptr i o
 |.fg i a j o,cy=>match cy.elem i with
  |true=>.dead
  |false=>.fg i a j o
 |.aI i,cy=>match cy.elem i with
  |true=>.dead
  |false=>.aI i
 |.fn f ids,cy=>match rp cy ids with
  |true=>.dead
  |false=>.fn f ids
 |.dI i,cy=>match cy.elem i with
  |true=>.dead
  |false=>.dI i
 |.jR f i,cy=>match cy.elem i with
  |true=>.dead
  |false=>.jR f i
 |.iF i o,cy=>match cy.elem i with
  |true=>.dead
  |false=>.iF i o
 |.j7 i,cy=>match cy.elem i with
  |true=>.dead
  |false=>.j7 i
 |.jS i s o,cy=>match cy.elem i with
  |true=>.dead
  |false=>.jS i s o
 |.iV b i,cy=>match cy.elem i with
  |true=>.dead
  |false=>.iV b i
 |c,_=>c
def ss(cy:bX):dT->dT
 |[]=>[]
 |c::r=>c.kill cy::ss cy r
def bp.kill:bp->bX->bp
 |.c x,cy=>.c (x.kill cy)
 |.agg cs,cy=>.agg (ss cy cs)
 |.arr g l,_=>.arr g l
def wR(cy:bX):ej->ej
 |[]=>[]
 |c::r=>c.kill cy::wR cy r
def b8.kill:b8->bX->b8
 |.a x,cy=>.a (x.kill cy)
 |.may g x,cy=>.may g (x.kill cy)
 |.cY xs,cy=>.cY (wR cy xs)
def pG(cy:bX):c6->c6
 |[]=>[]
 |(k,v)::r=>(k,v.kill cy)::pG cy r
def cC.kill:cC->bX->cC
 |.cells t cs,cy=>.cells t (ss cy cs)
 |.it a h k aB,cy=>match cy.elem a with
  |true=>.lk
  |false=>.it a h k aB
 |.h8 a,cy=>match cy.elem a with
  |true=>.lk
  |false=>.h8 a
 |.cW f t g l c i d,cy=>match cy.elem d with
  |true=>.lM
  |false=>.cW f t g l c i d
 |.cf t e g l c (some (i,some d)),cy=>match cy.elem d with
  |true=>.cf t e g l c (some (i,none))
  |false=>.cf t e g l c (some (i,some d))
 |b,_=>b
def jj(cy aq:bX):bC->bC
 |[]=>[]
 |(k,b)::r=>match cy.elem k with
  |true=>jj cy aq r
  |false=>(k,b.kill aq)::jj cy aq r
def ml:ev->bX
 |[]=>[]
 |(_,j)::r=>j::ml r
def EX(h:bC)(i:Nat):Bool:=match ble iG i,ble mi i,bj h i with
 |true,_,_=>true
 |_,true,some (.cells _ _)=>true
 |_,true,some (.mp _ _ _ _)=>true
 |_,_,_=>false
def jZ(h:bC):ev->bX
 |[]=>[]
 |(i,j)::r=>match EX h i with
  |true=>jZ h r
  |false=>j::jZ h r
def rq:bX->Bool
 |[]=>true
 |x::r=>!(r.elem x)&&rq r
def u3:ev->bX
 |[]=>[]
 |(i,_)::r=>i::u3 r
def EY(n:Nat):ev->Bool
 |[]=>true
 |(i,j)::r=>(ble iG i || (ble mi i&&blt j iG) || blt j n)&&EY n r
def wS(n:Nat)(aB:ev):Bool:=rq (u3 aB)&&rq (ml aB)&&EY n aB
def inv:ev->Nat->Option Nat
 |[],_=>none
 |(i,j)::r,k=>if k=j then some i else inv r k
theorem Bu:∀ {l:bX},rq l=true->l.Nodup
 |[],_=>List.nodup_nil
 |x::r,h=>by
  simp only[rq,and_eq_true,not_eq_true',elem_eq_mem,decide_eq_false_iff_not]at h;exact List.nodup_cons.2 ⟨h.1,Bu h.2⟩
theorem y4{α:Type}:∀ {l:List (Nat×α)} {i:Nat} {x:α},bj l i=some x->(i,x)∈l
 |[],_,_,h=>by cases h
 |(k,v)::r,i,x,h=>by
  rw[cX]at h
  split at h
  ·rename_i e;subst e;cases h;exact mem_cons_self
  ·exact mem_cons_of_mem _ (y4 h)
theorem QY:∀ {aB:ev} {i j:Nat},(i,j)∈aB->i∈u3 aB
 |[],_,_,h=>by cases h
 |(k,l)::r,i,j,h=>by
  rcases List.mem_cons.1 h with h|h
  ·cases h;exact mem_cons_self
  ·exact mem_cons_of_mem _ (QY h)
theorem J1:∀ {aB:ev} {i j:Nat},(i,j)∈aB->j∈ml aB
 |[],_,_,h=>by cases h
 |(k,l)::r,i,j,h=>by
  rcases List.mem_cons.1 h with h|h
  ·cases h;exact mem_cons_self
  ·exact mem_cons_of_mem _ (J1 h)
theorem Bv:∀ {aB:ev} {i j:Nat},(u3 aB).Nodup->(i,j)∈aB->bj aB i=some j
 |[],_,_,_,h=>by cases h
 |(k,l)::r,i,j,ba,h=>by
  have a:=List.nodup_cons.1 ba;rw[cX]
  rcases List.mem_cons.1 h with hm|hm
  ·cases hm;rw[if_pos rfl]
  ·rw[if_neg (λe=>a.1 (by subst e;exact QY hm)),Bv a.2 hm]
theorem QZ:∀ {aB:ev} {i j:Nat},(ml aB).Nodup->(i,j)∈aB->inv aB j=some i
 |[],_,_,_,h=>by cases h
 |(k,l)::r,i,j,ba,h=>by
  have a:=List.nodup_cons.1 ba;unfold inv
  rcases List.mem_cons.1 h with hm|hm
  ·cases hm;rw[if_pos rfl]
  ·rw[if_neg (λe=>a.1 (by subst e;exact J1 hm)),QZ a.2 hm]
theorem J2:∀ {aB:ev} {i j:Nat},inv aB j=some i->(i,j)∈aB
 |[],_,_,h=>by cases h
 |(k,l)::r,i,j,h=>by
  unfold inv at h
  split at h
  ·rename_i e;subst e;cases h;exact mem_cons_self
  ·exact mem_cons_of_mem _ (J2 h)
theorem Q0{n:Nat}:∀ {aB:ev} {i j:Nat},EY n aB=true->(i,j)∈aB->iG<=i\/(mi<=i/\j<iG)\/j<n
 |[],_,_,_,h=>by cases h
 |(k,l)::r,i,j,ak,h=>by
  simp only[EY,and_eq_true,or_eq_true]at ak
  rcases List.mem_cons.1 h with h|h
  ·cases h
   rcases ak.1 with(I|I)|I
   ·exact .inl (le_of_ble_eq_true I)
   ·exact .inr (.inl ⟨le_of_ble_eq_true I.1,dS I.2⟩)
   ·exact .inr (.inr (dS I))
  ·exact Q0 ak.2 h
theorem J3{h:bC}:∀ {aB:ev} {i j:Nat},(i,j)∈aB->(jZ h aB).elem j=false->EX h i=true
 |[],_,_,h,_=>by cases h
 |(k,l)::r,i,j,hm,aa=>by
  unfold jZ at aa
  rcases List.mem_cons.1 hm with hm|hm
  ·cases hm
   split at aa
   ·assumption
   ·simp at aa
  ·split at aa
   ·exact J3 hm aa
   ·simp only[elem_eq_mem,List.mem_cons,decide_eq_false_iff_not,not_or]at aa
    exact J3 hm (by simpa using aa.2)
section
variable {env env' env'':Nat->Loc} {B:Nat->Prop} {w:World} {aB:ev} {cy:bX}
theorem fF.dE(he:∀i j,bj aB i=some j->env' j=env i):∀ {ids l:eB} {vs:bY},y3 aB ids=some l->(fF env B w ids vs↔fF env' B w l vs)
 |[],l,vs,h=>by cases h;exact Iff.rfl
 |.id i::ids,l,vs,h=>by
  simp only[y3]at h
  split at h
  ·rename_i j r hi a
   cases h;constructor
   ·rintro⟨v,cS,I,⟨b,J,ar⟩,ag⟩
    exact⟨v,cS,I,⟨b,by rw[he i j hi];exact J,ar⟩,(fF.dE he a).1 ag⟩
   ·rintro⟨v,cS,I,⟨b,J,ar⟩,ag⟩
    exact⟨v,cS,I,⟨b,by rw[<- he i j hi];exact J,ar⟩,(fF.dE he a).2 ag⟩
  ·cases h
 |.fr g x::ids,l,vs,h=>by
  simp only[y3]at h
  split at h
  ·rename_i r a
   cases h;constructor
   ·rintro⟨v,cS,I,J,ag⟩;exact⟨v,cS,I,J,(fF.dE he a).1 ag⟩
   ·rintro⟨v,cS,I,J,ag⟩;exact⟨v,cS,I,J,(fF.dE he a).2 ag⟩
  ·cases h
theorem dN.dE(he:∀i j,bj aB i=some j->env' j=env i):∀ {c c':bs} {v:Value},c.dE aB=some c'->(dN env B w c v↔dN env' B w c' v)
 |.val _,_,_,h=>by cases h;exact Iff.rfl
 |.str _,_,_,h=>by cases h;exact Iff.rfl
 |.dead,_,_,h=>by cases h;exact Iff.rfl
 |.ptr i o,_,_,h=>by
  simp only[bs.dE]at h
  split at h
  ·rename_i j hi
   cases h;simp only[dN,he i j hi]
  ·cases h
 |.fg i a k o,_,_,h=>by
  simp only[bs.dE]at h
  split at h
  ·rename_i j hi
   cases h;simp only[dN,he i j hi]
  ·cases h
 |.iV b i,_,_,h=>by
  simp only[bs.dE]at h
  split at h
  ·rename_i j hi
   cases h;simp only[dN,he i j hi]
  ·cases h
 |.j7 i,_,_,h=>by
  simp only[bs.dE]at h
  split at h
  ·rename_i j hi
   cases h;simp only[dN,he i j hi]
  ·cases h
 |.jS i s o,_,_,h=>by
  simp only[bs.dE]at h
  split at h
  ·rename_i j hi
   cases h;simp only[dN,he i j hi]
  ·cases h
 |.iF i o,_,_,h=>by
  simp only[bs.dE]at h
  split at h
  ·rename_i j hi
   cases h;simp only[dN,he i j hi]
  ·cases h
 |.gb _ _ _,_,_,h=>by cases h;exact Iff.rfl
 |.par _ _,_,_,h=>by cases h;exact Iff.rfl
 |.aI i,_,_,h=>by
  simp only[bs.dE]at h
  split at h
  ·rename_i j hi
   cases h;simp only[dN,he i j hi]
  ·cases h
 |.bJ _ _ _,_,_,h=>by cases h;exact Iff.rfl
 |.fn f ids,_,_,h=>by
  simp only[bs.dE]at h
  split at h
  ·rename_i l ah
   cases h;constructor
   ·rintro⟨vs,I,J⟩;exact⟨vs,I,(fF.dE he ah).1 J⟩
   ·rintro⟨vs,I,J⟩;exact⟨vs,I,(fF.dE he ah).2 J⟩
  ·cases h
 |.dI i,_,_,h=>by
  simp only[bs.dE]at h
  split at h
  ·rename_i j hi
   cases h;simp only[dN,he i j hi]
  ·cases h
 |.jR f i,_,_,h=>by
  simp only[bs.dE]at h
  split at h
  ·rename_i j hi
   cases h;simp only[dN,he i j hi]
  ·cases h
theorem cZ.dE(he:∀i j,bj aB i=some j->env' j=env i):∀ {c c':dT} {v:bY},Bt aB c=some c'->(cZ env B w c v↔cZ env' B w c' v)
 |[],_,_,h=>by cases h;exact Iff.rfl
 |c::r,_,_,h=>by
  simp only[Bt]at h
  split at h
  ·rename_i c' a I J
   cases h;constructor
   ·rintro⟨v,q,e,ag,ar⟩;exact⟨v,q,e,(dN.dE he I).1 ag,(cZ.dE he J).1 ar⟩
   ·rintro⟨v,q,e,ag,ar⟩;exact⟨v,q,e,(dN.dE he I).2 ag,(cZ.dE he J).2 ar⟩
  ·cases h
theorem eb.dE(he:∀i j,bj aB i=some j->env' j=env i):∀ {c c':bp} {v:Value},c.dE aB=some c'->(eb env B w c v↔eb env' B w c' v)
 |.c x,_,_,h=>by
  simp only[bp.dE]at h
  split at h
  ·rename_i y aG;cases h;exact dN.dE he aG
  ·cases h
 |.agg cs,_,_,h=>by
  simp only[bp.dE]at h
  split at h
  ·rename_i l ah
   cases h;constructor
   ·rintro⟨vs,e,ag⟩;exact⟨vs,e,(cZ.dE he ah).1 ag⟩
   ·rintro⟨vs,e,ag⟩;exact⟨vs,e,(cZ.dE he ah).2 ag⟩
  ·cases h
 |.arr g l,_,_,h=>by cases h;exact Iff.rfl
theorem dO.dE(he:∀i j,bj aB i=some j->env' j=env i):∀ {c c':ej} {v:bY},tx aB c=some c'->(dO env B w c v↔dO env' B w c' v)
 |[],_,_,h=>by cases h;exact Iff.rfl
 |c::r,_,_,h=>by
  simp only[tx]at h
  split at h
  ·rename_i c' a I J
   cases h;constructor
   ·rintro⟨v,q,e,ag,ar⟩;exact⟨v,q,e,(eb.dE he I).1 ag,(dO.dE he J).1 ar⟩
   ·rintro⟨v,q,e,ag,ar⟩;exact⟨v,q,e,(eb.dE he I).2 ag,(dO.dE he J).2 ar⟩
  ·cases h
theorem e7.dE(he:∀i j,bj aB i=some j->env' j=env i):∀ {c c':b8} {v:Value},c.dE aB=some c'->e7 env B w c v->e7 env' B w c' v
 |.a x,_,_,h,a=>by
  simp only[b8.dE]at h
  split at h
  ·rename_i y aG;cases h;exact(eb.dE he aG).1 a
  ·cases h
 |.cY xs,_,_,h,⟨vs,e,a⟩=>by
  simp only[b8.dE]at h
  split at h
  ·rename_i l ah;cases h;exact⟨vs,e,(dO.dE he ah).1 a⟩
  ·cases h
 |.may _ _,_,_,h,_=>by cases h
theorem e1.dE(he:∀i j,bj aB i=some j->env' j=env i){i j:Nat}(hi:bj aB i=some j):∀ {b b':cC} {c:bo},b.dE aB=some b'->(e1 env B w i b c↔e1 env' B w j b' c)
 |.cells t cs,_,_,h=>by
  simp only[cC.dE]at h
  split at h
  ·rename_i l ah
   cases h;simp only[e1,he i j hi];constructor
   ·rintro⟨b,vs,I,J,ag⟩;exact⟨b,vs,I,J,(cZ.dE he ah).1 ag⟩
   ·rintro⟨b,vs,I,J,ag⟩;exact⟨b,vs,I,J,(cZ.dE he ah).2 ag⟩
  ·cases h
 |.row t g l c,_,_,h=>by cases h;simp only[e1,he i j hi]
 |.lj s p,_,_,h=>by cases h;simp only[e1,he i j hi]
 |.mp gk gv l o,_,_,h=>by cases h;simp only[e1,he i j hi]
 |.it m z k u,_,_,h=>by
  simp only[cC.dE]at h
  split at h
  ·rename_i a f
   cases h;simp only[e1,he i j hi,he m a f]
  ·cases h
 |.h8 m,_,_,h=>by
  simp only[cC.dE]at h
  split at h
  ·rename_i a f
   cases h;simp only[e1,he i j hi,he m a f]
  ·cases h
 |.lk,_,_,h=>by cases h;simp only[e1,he i j hi]
 |.cW y t g l c q d,_,_,h=>by
  simp only[cC.dE]at h
  split at h
  ·rename_i a f
   cases h;simp only[e1,he i j hi,he d a f]
  ·cases h
 |.lM,_,_,h=>by cases h;simp only[e1,he i j hi]
 |.hl t g l,_,_,h=>by cases h;simp only[e1,he i j hi]
 |.cf t n g l c none,_,_,h=>by cases h;simp only[e1,he i j hi,Ba]
 |.cf t n g l c (some (q,none)),_,_,h=>by
  cases h;simp only[e1,he i j hi,Ba];constructor<;>rintro⟨A,k,ys,cl,a6,e,U,I,⟨J,v,ar,_⟩,ag⟩<;>exact⟨A,k,ys,cl,a6,e,U,I,⟨J,v,ar,λ_ h=>by cases h⟩,ag⟩
 |.cf t n g l c (some (q,some d)),_,_,h=>by
  simp only[cC.dE]at h
  split at h
  ·rename_i a f
   cases h;simp only[e1,he i j hi,Ba];constructor
   ·rintro⟨A,k,ys,cl,a6,e,U,I,⟨J,v,ar,aF⟩,ag⟩
    exact⟨A,k,ys,cl,a6,e,U,I,⟨J,v,ar,λr az=>by cases az;rw[he d a f];exact aF d rfl⟩,ag⟩
   ·rintro⟨A,k,ys,cl,a6,e,U,I,⟨J,v,ar,aF⟩,ag⟩
    exact⟨A,k,ys,cl,a6,e,U,I,⟨J,v,ar,λr az=>by cases az;rw[<- he d a f];exact aF a rfl⟩,ag⟩
  ·cases h
theorem bG.dE(he:∀i j,bj aB i=some j->env' j=env i):∀ {h a:bC} {H:cI},sr aB h=some a->bG env B w h H->bG env' B w a H
 |[],_,_,h,g=>by cases h;exact g
 |(i,b)::r,_,_,h,⟨c,H',e,I,J⟩=>by
  simp only[sr]at h
  split at h
  ·rename_i j b' k ag f d
   cases h;exact⟨c,H',e,(e1.dE he ag f).1 I,bG.dE he d J⟩
  ·cases h
theorem fF.kill(he:∀j,cy.elem j=false->env' j=env j):∀ {ids:eB} {vs:bY},rp cy ids=false->fF env B w ids vs->fF env' B w ids vs
 |[],_,_,h=>h
 |.id i::ids,_,ba,⟨v,r,e,⟨b,ab,a⟩,h⟩=>by
  simp only[rp,Bool.or_eq_false_iff]at ba;exact⟨v,r,e,⟨b,by rw[he i ba.1];exact ab,a⟩,fF.kill he ba.2 h⟩
 |.fr g x::ids,_,ba,⟨v,r,e,I,h⟩=>⟨v,r,e,I,fF.kill he (by simpa [rp] using ba) h⟩
variable (he:∀j,cy.elem j=false->env' j=env j)
include he
theorem dN.kill:∀ {c:bs} {v:Value},dN env B w c v->dN env' B w (c.kill cy) v
 |.val _,_,U=>U
 |.str _,_,U=>U
 |.dead,_,U=>U
 |.ptr i o,v,U=>by
  simp only[bs.kill]
  split
  ·trivial
  ·rename_i h
   obtain⟨b,e,a⟩:=U;exact⟨b,by rw[he i h];exact e,a⟩
 |.fg i d j o,v,U=>by
  simp only[bs.kill]
  split
  ·trivial
  ·rename_i h
   obtain⟨b,c,n,e,a⟩:=U;exact⟨b,c,n,by rw[he i h];exact e,a⟩
 |.iV b i,v,U=>by
  simp only[bs.kill]
  split
  ·trivial
  ·rename_i h
   obtain⟨k,e,a⟩:=U;exact⟨k,λab=>by rw[he i h];exact e ab,a⟩
 |.j7 i,v,U=>by
  simp only[bs.kill]
  split
  ·trivial
  ·rename_i h
   obtain⟨b,c,n,e,a⟩:=U;exact⟨b,c,n,by rw[he i h];exact e,a⟩
 |.jS i s o,v,U=>by
  simp only[bs.kill]
  split
  ·trivial
  ·rename_i h
   obtain⟨b,c,n,e,a⟩:=U;exact⟨b,c,n,by rw[he i h];exact e,a⟩
 |.iF i o,v,U=>by
  simp only[bs.kill]
  split
  ·trivial
  ·rename_i h
   obtain⟨b,c,n,e,a⟩:=U;exact⟨b,c,n,by rw[he i h];exact e,a⟩
 |.gb _ _ _,_,U=>U
 |.par _ _,_,U=>U
 |.aI i,v,U=>by
  simp only[bs.kill]
  split
  ·trivial
  ·rename_i h
   obtain⟨A,c,n,e,a⟩:=U;exact⟨A,c,n,by rw[he i h];exact e,a⟩
 |.bJ _ _ _,_,U=>U
 |.fn f ids,v,U=>by
  simp only[bs.kill]
  split
  ·trivial
  ·rename_i h
   obtain⟨vs,a,ak⟩:=U;exact⟨vs,a,fF.kill he h ak⟩
 |.dI i,v,U=>by
  simp only[bs.kill]
  split
  ·trivial
  ·rename_i h
   obtain⟨b,e,a⟩:=U;exact⟨b,by rw[he i h];exact e,a⟩
 |.jR f i,v,U=>by
  simp only[bs.kill]
  split
  ·trivial
  ·rename_i h
   obtain⟨b,e,a⟩:=U;exact⟨b,by rw[he i h];exact e,a⟩
theorem cZ.kill:∀ {c:dT} {v:bY},cZ env B w c v->cZ env' B w (ss cy c) v
 |[],_,U=>U
 |_::_,_,⟨v,r,e,I,J⟩=>⟨v,r,e,dN.kill he I,cZ.kill J⟩
theorem eb.kill:∀ {c:bp} {v:Value},eb env B w c v->eb env' B w (c.kill cy) v
 |.c _,_,U=>dN.kill he U
 |.agg _,_,⟨vs,e,I⟩=>⟨vs,e,cZ.kill he I⟩
 |.arr _ _,_,h=>h
theorem dO.kill:∀ {c:ej} {v:bY},dO env B w c v->dO env' B w (wR cy c) v
 |[],_,U=>U
 |_::_,_,⟨v,r,e,I,J⟩=>⟨v,r,e,eb.kill he I,dO.kill J⟩
theorem e7.kill:∀ {c:b8} {v:Value},e7 env B w c v->e7 env' B w (c.kill cy) v
 |.a _,_,U=>eb.kill he U
 |.may _ _,_,U=>⟨λa=>eb.kill he (U.1 a),U.2⟩
 |.cY _,_,⟨vs,e,I⟩=>⟨vs,e,dO.kill he I⟩
theorem e1.kill{k:Nat}(aa:env' k=env k):∀ {b:cC} {c:bo},e1 env B w k b c->e1 env' B w k (b.kill cy) c
 |.cells _ _,_,⟨b,vs,e,U,I⟩=>⟨b,vs,by rw[aa];exact e,U,cZ.kill he I⟩
 |.row _ _ _ _,_,⟨A,c,xs,e,U,I⟩=>⟨A,c,xs,by rw[aa];exact e,U,I⟩
 |.lj _ _,_,⟨b,e,U⟩=>⟨b,by rw[aa];exact e,U⟩
 |.mp _ _ _ _,_,⟨b,y,q,e,U⟩=>⟨b,y,q,by rw[aa];exact e,U⟩
 |.it j _ _ _,_,⟨b,m,e,p,U⟩=>by
  simp only[cC.kill]
  split
  ·exact⟨b,_,by rw[aa];exact e,U⟩
  ·rename_i h
   exact⟨b,m,by rw[aa];exact e,by rw[he j h];exact p,U⟩
 |.h8 j,_,⟨b,m,q,e,p,U⟩=>by
  simp only[cC.kill]
  split
  ·exact⟨b,_,by rw[aa];exact e,U⟩
  ·rename_i h
   exact⟨b,m,q,by rw[aa];exact e,by rw[he j h];exact p,U⟩
 |.lk,_,⟨b,o,e,U⟩=>⟨b,o,by rw[aa];exact e,U⟩
 |.cW z t g l cap i d,_,⟨A,c,ys,u,c',m,e,U,I,hi,J,ag⟩=>by
  simp only[cC.kill]
  split
  ·exact⟨A,c,_,_,_,_,_,by rw[aa];exact e,U⟩
  ·rename_i h
   exact⟨A,c,ys,u,c',m,by rw[aa];exact e,U,I,hi,by rw[he d h];exact J,ag⟩
 |.lM,_,⟨A,c,n,t,s,m,xs,e,U⟩=>⟨A,c,n,t,s,m,xs,by rw[aa];exact e,U⟩
 |.hl _ _ _,_,⟨A,c,e,I⟩=>⟨A,c,by rw[aa];exact e,I⟩
 |.cf _ _ _ _ _ none,_,⟨A,q,ys,a,a6,e,U,I,J,ag⟩=>⟨A,q,ys,a,a6,by rw[aa];exact e,U,I,J,ag⟩
 |.cf _ _ _ _ _ (some (i,none)),_,⟨A,q,ys,a,a6,e,U,I,⟨J,v,f,_⟩,ag⟩=>⟨A,q,ys,a,a6,by rw[aa];exact e,U,I,⟨J,v,f,λ_ h=>by cases h⟩,ag⟩
 |.cf _ _ _ _ _ (some (i,some d)),_,⟨A,q,ys,a,a6,e,U,I,⟨J,v,f,r⟩,ag⟩=>by
  simp only[cC.kill]
  split
  ·exact⟨A,q,ys,a,a6,by rw[aa];exact e,U,I,⟨J,v,f,λ_ h=>by cases h⟩,ag⟩
  ·rename_i h
   exact⟨A,q,ys,a,a6,by rw[aa];exact e,U,I,⟨J,v,f,λC az=>by cases az;rw[he d h];exact r d rfl⟩,ag⟩
omit he in
theorem J4:∀ {l:c6} {s:Nat} {v:b8},bj (pG cy l) s=some v->∃u,bj l s=some u/\v=u.kill cy
 |[],_,_,h=>by cases h
 |(k,u)::l,s,v,h=>by
  unfold pG at h;rw[cX]at h ⊢
  split at h
  ·rename_i e
   cases h;rw[if_pos e];exact⟨u,rfl,rfl⟩
  ·rename_i e
   rw[if_neg e];exact J4 h
omit he in
theorem bG.append:∀ {h a:bC} {H H':cI},bG env B w h H->bG env B w a H'->bG env B w (h++a) (H++H')
 |[],_,_,_,I,J=>by rw[show _=[] from I];exact J
 |_::_,_,_,_,⟨c,H',e,I,J⟩,ag=>⟨c,_,by rw[e];rfl,I,bG.append J ag⟩
end
inductive iY(aB:ev):bC->bC->bC->Prop where
 |nil {H:bC}:iY aB [] H H
 |cons {i j:Nat} {b b':cC} {r H H':bC} (hi:bj aB i=some j) (ab:b.dE aB=some b') (ah:bj H j=some b') (ax:iY aB r (oe j H) H'):iY aB ((i,b)::r) H H'
section
variable {env env' env'':Nat->Loc} {B:Nat->Prop} {w:World} {aB:ev} {cy aq:bX}
theorem iY.split(he:∀i j,bj aB i=some j->env' j=env i){h H H':bC}(ak:iY aB h H H'):∀ {C:cI},bG env' B w H C->∃a b,C.Perm (a++b)/\bG env B w h a/\bG env' B w H' b:=by
 induction ak with
 |nil=>intro C cF;exact⟨[],C,List.Perm.refl _,rfl,cF⟩
 |cons hi ab ah _ g=>
  intro C cF;obtain⟨c,H2,I,J,ag⟩:=cF.erase ah;obtain⟨a,b,f,e,d⟩:=g ag;exact⟨c::a,b,J.trans (List.Perm.cons _ f),⟨c,a,rfl,(e1.dE he hi ab).2 I,e⟩,d⟩
def su(cy:bX):bC->Bool
 |[]=>true
 |(k,_)::r=>!cy.elem k&&su cy r
theorem Q1:∀l:bC,su [] l=true
 |[]=>rfl
 |(_,_)::r=>by
  unfold su;rw[Q1 r]
  rfl
theorem bG.frame(he:∀j,aq.elem j=false->env' j=env j)(aa:∀k,cy.elem k=false->env' k=env k):∀ {l:bC} {H:cI},bG env B w l H->∃H',H'.Sublist H/\bG env' B w (jj cy aq l) H'/\(su cy l=true->H'=H)
 |[],_,d=>⟨[],by rw[show _=[] from d];exact List.Sublist.refl _,rfl,λ_=>(show _=[] from d).symm⟩
 |(k,b)::l,_,⟨c,H',e,I,J⟩=>by
  obtain⟨H2,a,ag,f⟩:=bG.frame he aa J;subst e;unfold jj
  split
  ·rename_i h
   exact⟨H2,a.cons _,ag,λe=>by unfold su at e;rw[h]at e;cases e⟩
  ·rename_i h
   exact⟨c::H2,a.cons_cons _,⟨c,H2,rfl,e1.kill he (aa k h) I,ag⟩,λe=>by unfold su at e;rw[and_eq_true]at e;rw[f e.2]⟩
end
def oU(X:bz)(L:c6):eA->Option (Bool×ej)
 |[]=>some (true,[])
 |u::r=>match bx X L u,oU X L r with
  |some (g,x),some (c,l)=>some (g&&c,x::l)
  |_,_=>none
theorem u4{X:bz}{R:Nat->Prop}{W:World}{aD:fk}{n:Nat}{aq:bX}{env:Nat->Loc}{B:Nat->Prop}{ai:World}{H:cI}{st:aQ}{a:Act}{w:World}(h:bM X R W aD n aq env B ai H st a w) :
  ∀ {us:eA} {c:Bool} {xs:ej},oU X st.L us=some (c,xs)->c=true->∃vs,jO (full a) us=some vs/\dO env B ai xs vs
 |[],c,xs,hu,_=>by cases hu;exact⟨[],rfl,rfl⟩
 |u::us,c,xs,hu,U=>by
  simp only[oU]at hu
  split at hu
  ·rename_i g x c' l I J
   cases hu;simp only[and_eq_true]at U;obtain⟨v,ag,e⟩:=h.aJ I U.1;obtain⟨vs,d,b⟩:=u4 h J U.2;refine⟨v::vs,?_,v,vs,rfl,e,b⟩;unfold jO;rw[ag,d]
  ·cases hu
theorem bM.called{X:bz}{R:Nat->Prop}{W:World}{aD:fk}{n d:Nat}{aq:bX}{env:Nat->Loc}{B:Nat->Prop}{ai:World}{H:cI}{st:aQ}{a aU:Act}{w w':World}{aB:ev}{h H1:bC}{Q:b8->bC->Prop}{v:Value}(ad:bM X R W aD n aq env B ai H st a w)(al:wS n aB=true){z G:cI}(aW:H.Perm (z++G))(ap:bG (λi=>match bj aB i with|some j=>env j|none=>.no) B ai h z)(au:bG env B ai H1 G)(aZ:wQ X (λi=>match bj aB i with|some j=>env j|none=>.no) B z w Q v w')(P:dh n (j9 aq aD) ((d,v)::full a) aU) :
  ∃sv y,Q sv y/\∀ac Z,sv.dE aB=some ac->sr aB y=some Z->∃env' B' F H',bM X R W aD n aq env' B' F H' ⟨(d,ac)::pG (jZ h aB) st.L,Z++jj (jZ h aB) (jZ h aB) H1⟩ aU w'/\(∀k,B k->B' k)/\ds (λk=>R k\/B k) ai F/\(su (jZ h aB) H1=true->∀c∈G,c∈H'):=by
 obtain⟨env',B',F,H',sv,y,aL,Y,ak,g,ax,ay,m,J⟩:=aZ;refine⟨sv,y,aL,λac Z a0 aJ=>?_⟩;simp only[wS,and_eq_true]at al;obtain⟨⟨a2,aY⟩,av⟩:=al;have aC:=Bu a2;have aR:=Bu aY;have f:bT (λk=>R k\/B k) ai (z++(G++aq.map dB)) w:=by
  have:=ad.aT.perm (aW.append_right (aq.map dB))
  rw[append_assoc]at this;exact this
 have am:=List.pairwise_append.1 f.apart;have p:∀k,R k\/B k->hc w z k:=λk aa=>⟨f.base k aa,λc U e=>((f.ok c (mem_append_left _ U)).lt e).1 aa⟩
 have S:∀c∈G++aq.map dB,∀b,c.has b->hc w z b/\¬(R b\/B b):=λc U b ab=>by
  have I:=(f.ok c (mem_append_right _ U)).lt ab;exact⟨⟨I.2,λc' N e=>am.2.2 c' N c U b e ab⟩,I.1⟩
 have aX:∀k,hc w z k->w'.heap[k]?=w.heap[k]?:=λk aa=>(m.below.block k (.inl aa)).trans (g.block k aa)
 have V:gP B ai B' F:=⟨Y,λk aa=>(g.block k (p k (.inr aa))).trans (f.below.block k (.inr aa))⟩
 let T:Nat->Loc:=λj=>match inv aB j with|some i=>env' i|none=>env j
 have ao:∀i j,bj aB i=some j->T j=env' i:=λi j r=>by
  show(match inv aB j with|some i=>env' i|none=>env j)=_;rw[QZ aR (y4 r)]
 have aA:∀ {l:bC} {C:cI} {D:Nat->Loc} {M:Nat->Prop} {L:World} {i:Nat} {t:TypeId} {cs:dT},bG D M L l C->bj l i=some (.cells t cs)->∃b,D i=.blk b:=by
  intro l C D M L i t cs ah hi;obtain⟨c,K,⟨b,vs,I,_⟩,_⟩:=ah.gQ hi;exact⟨b,I⟩
 have aE:∀ {l:bC} {C:cI} {D:Nat->Loc} {M:Nat->Prop} {L:World} {i:Nat} {gk gv:aV} {q:List (gk.D×gv.D)} {o:Option (List MapEntry×Nat)},bG D M L l C->bj l i=some (.mp gk gv q o)->∃b,D i=.blk b:=by
  intro l C D M L i gk gv q o ah hi;obtain⟨c,K,⟨b,_,_,I,_⟩,_⟩:=ah.gQ hi;exact⟨b,I⟩
 have af:∀j,(jZ h aB).elem j=false->T j=env j:=λj aw=>by
  show(match inv aB j with|some i=>env' i|none=>env j)=_;cases hi:inv aB j with
  |none=>rfl
  |some i=>
   have O:=J2 hi;have ae:=J3 O aw;have r:=Bv aC O;unfold EX at ae
   split at ae
   ·rename_i ab
    show env' i=env j;exact J i (env j) (.inr (le_of_ble_eq_true ab)) (by simp only[r])
   ·rename_i t cs ab ah _
    obtain⟨b,A⟩:=aA ap ah;have I:=J i (.blk b) (.inl ⟨le_of_ble_eq_true ab,b,rfl⟩) A;rw[r]at A;show env' i=env j;rw[I];exact A.symm
   ·rename_i gk gv q o ab ah _
    obtain⟨b,A⟩:=aE ap ah;have I:=J i (.blk b) (.inl ⟨le_of_ble_eq_true ab,b,rfl⟩) A;rw[r]at A;show env' i=env j;rw[I];exact A.symm
   ·cases ae
 obtain⟨ar,a1,aG,aH⟩:=bG.frame af af (au.up V);have aP:ds (λk=>R k\/B k) ai F:=⟨g.os.trans f.below.os,g.tape.trans f.below.tape,g.output.trans f.below.output,le_trans f.below.size g.size,λk aa=>(g.block k (p k aa)).trans (f.below.block k aa)⟩
 refine⟨T,B',F,H'++ar,⟨P.size,P.defs,λs u hu=>?_,(bG.dE ao aJ ay).append aG,?_,λk aa=>Y k (ad.sub k aa),λk aa=>?_,λid b ab=>?_,?_,λi x an=>(ad.eu i x an).up V⟩,Y,aP,λe c U=>mem_append_right _ (by rw[aH e];exact U)⟩
 ·rw[cX]at hu
  split at hu
  ·rename_i e;subst e;cases hu;exact⟨v,P.this,e7.dE ao a0 ax⟩
  ·rename_i e
   obtain⟨aS,aT,rfl⟩:=J4 hu;obtain⟨aN,ag,aI⟩:=ad.has s aS aT;exact⟨aN,P.other e ag,e7.kill af (aI.up V)⟩
 ·have aj:(ar++aq.map dB).Sublist (G++aq.map dB):=a1.append_right _
  rw[append_assoc];refine⟨⟨m.below.os,m.below.tape,m.below.output,m.below.size,λk aa=>m.below.block k (aa.imp (λh=>p k (.inl h)) id)⟩,λk aa=>m.base k (aa.imp (λh=>p k (.inl h)) id),λc U=>?_,List.pairwise_append.2 ⟨m.apart,am.2.1.sublist aj,λc U d az b ab aK=>?_⟩⟩
  ·rcases List.mem_append.1 U with U|U
   ·exact(m.ok c U).base λb ab aa=>((m.ok c U).lt ab).1 (aa.imp (λh=>p b (.inl h)) id)
   ·have N:=aj.subset U
    have aO:=f.ok c (mem_append_right _ N);refine(aO.et (w':=w') λb ab=>aX b (S c N b ab).1).base λb ab aa=>?_
    obtain⟨aF,E⟩:=S c N b ab
    rcases aa with aa|aa
    ·exact E (.inl aa)
    ·rcases ak b aa with b1|b1
     ·exact E (.inr b1)
     ·exact b1.1 aF
  ·exact((m.ok c U).lt ab).1 (.inl (S d (aj.subset az) b aK).1)
 ·rcases ak k aa with aF|aF
  ·exact(ad.new k aF).imp_right λy=>⟨y.1,y.2.et ((g.block k (p k (.inr aF))).trans (f.below.block k (.inr aF)))⟩
  ·exact .inr ⟨λaM=>aF.1 (p k (.inl aM)),aF.2⟩
 ·obtain⟨aF,E,dn⟩:=ad.dP id b ab
  refine⟨aF,?_,dn⟩;show(match inv aB id with|some i=>env' i|none=>env id)=_;cases hi:inv aB id with
  |none=>exact E
  |some i=>
   have O:=J2 hi;have r:=Bv aC O
   rcases Q0 av O with b1|⟨b1,a3⟩|b1
   ·exact J i b (.inr b1) (by simp only[r];exact E)
   ·rcases dn with dn|dn
    ·exact J i b (.inl ⟨b1,dn⟩) (by simp only[r];exact E)
    ·omega
   ·omega
 ·exact ad.base.trans ⟨g.os.trans f.below.os,g.tape.trans f.below.tape,g.output.trans f.below.output,le_trans f.below.size g.size,λk aa=>(g.block k (p k (.inl aa))).trans (f.below.block k (.inl aa))⟩
section
variable {X:bz} {M:Bool} {n:Nat} {r:Option Nat} {st:aQ} {Q:Exit->aQ->Prop} {ops rest:List Oper} {o:Oper} {d:Nat}
theorem E0{f:FuncId}{fn:Func}{xs:eA}{fR:Array TypeId}{args oh:ej}{h H1:bC}{u7:b8->bC->Prop}{c:Bool}(aB:ev)(cF:AC X f args h u7)(aA:o.op=.call { callee:=.value (.func f),args:=xs.toArray,argTypes:=fR })(bh:o.guard=none/\o.dst=some d)(az:blt d n=true)(gO : X.P.funcs[f]? = some fn)(ba : (fn.name == "runtime.NumGoroutine") = false)(ab : fn.body.isNone = false)(mW : oU X st.L xs = some (c, oh))(U : c = true)(sx : tx aB args = some oh)(jV : wS n aB = true)(lT : iY aB h st.H H1)(dJ:∀sv aR,u7 sv aR->∃ih iZ,sv.dE aB=some ih/\sr aB aR=some iZ/\gx X M n r ops rest ⟨(d,ih)::pG (jZ h aB) st.L,iZ++jj (jZ h aB) (jZ h aB) H1⟩ Q):gx X M n r ops (o::rest) st Q:=by
 rintro R W aD a w ⟨aq,env,B,ai,H,bL,ad⟩;obtain⟨vs,I,J⟩:=u4 ad mW U;have he:∀i j,bj aB i=some j->env j=(λi=>match bj aB i with|some j=>env j|none=>Loc.no) i:=λi j kA=>by simp only[kA]
 obtain⟨e4,ln,ag,ar,aF⟩:=iY.split he lT ad.heap;have aj:bT B ai e4 w:=by
  have a7:=(ad.aT.perm (ag.append_right (aq.map dB))).fq (H':=e4) (by rw[append_assoc];exact sublist_append_left _ _);exact⟨⟨a7.below.os,a7.below.tape,a7.below.output,a7.below.size,λk aa=>a7.below.block k (.inr aa)⟩,λk aa=>a7.base k (.inr aa),λc U=>(a7.ok c U).base λb ab aa=>((a7.ok c U).lt ab).1 (.inr aa),a7.apart⟩
 refine nu (Jk ad.sym aA bh az gO ba ab I (cF B ai _ vs e4 w (λi x an=>ad.eu i x an) ((dO.dE he sx).2 J) ar aj) λv aU w' og aM=>?_);obtain⟨sv,aR,eU,ru⟩:=ad.called jV ag ar aF og aM;obtain⟨ih,iZ,aE,bb,J7⟩:=dJ sv aR eU;obtain⟨env',B',cG,H',bU,_,_,_⟩:=ru ih iZ aE bb;exact J7 R W aD aU w' ⟨aq,env',B',cG,H',bL,bU⟩
end
end
section
def qq:eB->ej
 |[]=>[]
 |.id i::r=>.c (.ptr i 0)::qq r
 |.fr g x::r=>.c (.gb g x 0)::qq r
section
variable {X:bz} {M:Bool} {n:Nat} {r:Option Nat} {st:aQ} {Q:Exit->aQ->Prop} {ops rest:List Oper} {o:Oper} {d:Nat}
theorem By{env:Nat->Loc}{B:Nat->Prop}{w:World}:∀ {ids:eB} {vs:bY},fF env B w ids vs->dO env B w (qq ids) vs
 |[],_,h=>h
 |.id _::ids,_,⟨v,r,e,I,h⟩=>⟨v,r,e,I,By h⟩
 |.fr _ _::ids,_,⟨v,r,e,⟨b,o,I,J⟩,h⟩=>⟨v,r,e,⟨b,o,by rw[I];rfl,J⟩,By h⟩
theorem dO.append{env:Nat->Loc}{B:Nat->Prop}{w:World}:∀ {xs ys:ej} {vs us:bY},dO env B w xs vs->dO env B w ys us->dO env B w (xs++ys) (vs++us)
 |[],_,_,_,h,a=>by rw[show _=[] from h];exact a
 |_::_,_,_,_,⟨v,r,e,I,J⟩,a=>⟨v,_,by rw[e];rfl,I,dO.append J a⟩
theorem Q2{f:FuncId}{fn:Func}{s:Nat}{ids:eB}{xs:eA}{fR:Array TypeId}{args oh:ej}{h H1:bC}{u7:b8->bC->Prop}{c:Bool}(aB:ev)(cF:AC X f args h u7)(aA:o.op=.call { callee:=.value (.tmp s),args:=xs.toArray,argTypes:=fR })(bh:o.guard=none/\o.dst=some d)(az:blt d n=true)(aj : bj st.L s = some (.c (.fn f ids)))(gO : X.P.funcs[f]? = some fn)(ba : (fn.name == "runtime.NumGoroutine") = false)(ab : fn.body.isNone = false)(mW : oU X st.L xs = some (c, oh))(U : c = true)(sx : tx aB args = some (oh ++ qq ids))(jV : wS n aB = true)(lT : iY aB h st.H H1)(dJ:∀sv aR,u7 sv aR->∃ih iZ,sv.dE aB=some ih/\sr aB aR=some iZ/\gx X M n r ops rest ⟨(d,ih)::pG (jZ h aB) st.L,iZ++jj (jZ h aB) (jZ h aB) H1⟩ Q):gx X M n r ops (o::rest) st Q:=by
 rintro R W aD a w ⟨aq,env,B,ai,H,bL,ad⟩;obtain⟨vs,I,J⟩:=u4 ad mW U;obtain⟨ft,pH,hE,rfl,gH⟩:=ad.has _ _ aj;have he:∀i j,bj aB i=some j->env j=(λi=>match bj aB i with|some j=>env j|none=>Loc.no) i:=λi j kA=>by simp only[kA]
 obtain⟨e4,ln,ag,ar,aF⟩:=iY.split he lT ad.heap;have ic:bT B ai e4 w:=by
  have a7:=(ad.aT.perm (ag.append_right (aq.map dB))).fq (H':=e4) (by rw[append_assoc];exact sublist_append_left _ _);exact⟨⟨a7.below.os,a7.below.tape,a7.below.output,a7.below.size,λk aa=>a7.below.block k (.inr aa)⟩,λk aa=>a7.base k (.inr aa),λc U=>(a7.ok c U).base λb ab aa=>((a7.ok c U).lt ab).1 (.inr aa),a7.apart⟩
 refine nu (P5 ad.sym aA bh az (hs pH) gO ba ab I (cF B ai _ (vs++hE) e4 w (λi x an=>ad.eu i x an) ((dO.dE he sx).2 (J.append (By gH))) ar ic) λv aU w' og aM=>?_);obtain⟨sv,aR,eU,ru⟩:=ad.called jV ag ar aF og aM;obtain⟨ih,iZ,aE,bb,J7⟩:=dJ sv aR eU;obtain⟨env',B',cG,H',bU,_,_,_⟩:=ru ih iZ aE bb;exact J7 R W aD aU w' ⟨aq,env',B',cG,H',bL,bU⟩
theorem Q3:∀L:c6,pG [] L=L:=by
 have I:∀c:bs,c.kill []=c:=by
  have e:∀ids:eB,rp [] ids=false:=by
   intro ids
   induction ids with
   |nil=>rfl
   |cons i r b=>cases i<;>simp[rp,b]
  intro c;cases c with
  |fn f ids=>simp only[bs.kill,e]
  |_=>rfl
 have J:∀cs:dT,ss [] cs=cs:=by
  intro cs
  induction cs with
  |nil=>rfl
  |cons c r b=>simp only[ss,I,b]
 have ag:∀x:bp,x.kill []=x:=by
  intro x;cases x with
  |c x=>simp only[bp.kill,I]
  |agg cs=>simp only[bp.kill,J]
  |arr g l=>rfl
 have h:∀xs:ej,wR [] xs=xs:=by
  intro xs
  induction xs with
  |nil=>rfl
  |cons c r b=>simp only[wR,ag,b]
 have d:∀x:b8,x.kill []=x:=by
  intro x;cases x with
  |a x=>simp only[b8.kill,ag]
  |may g x=>simp only[b8.kill,ag]
  |cY xs=>simp only[b8.kill,h]
 intro L
 induction L with
 |nil=>rfl
 |cons p r b=>obtain⟨k,v⟩:=p;simp only[pG,d,b]
theorem Q4:∀H:bC,jj [] [] H=H:=by
 have I:∀c:bs,c.kill []=c:=by
  have e:∀ids:eB,rp [] ids=false:=by
   intro ids
   induction ids with
   |nil=>rfl
   |cons i r a=>cases i<;>simp[rp,a]
  intro c;cases c with
  |fn f ids=>simp only[bs.kill,e]
  |_=>rfl
 have J:∀cs:dT,ss [] cs=cs:=by
  intro cs
  induction cs with
  |nil=>rfl
  |cons c r a=>simp only[ss,I,a]
 intro H
 induction H with
 |nil=>rfl
 |cons p r a=>
  obtain⟨k,b⟩:=p;cases b with
  |cells t cs=>simp[jj,cC.kill,J,a]
  |row t g l c=>simp[jj,cC.kill,a]
  |lj s p=>simp[jj,cC.kill,a]
  |mp gk gv l o=>simp[jj,cC.kill,a]
  |it j q k aB=>simp[jj,cC.kill,a]
  |h8 j=>simp[jj,cC.kill,a]
  |lk=>simp[jj,cC.kill,a]
  |cW n t g l c i d=>simp[jj,cC.kill,a]
  |lM=>simp[jj,cC.kill,a]
  |hl t g l=>simp[jj,cC.kill,a]
  |cf t m g l c h=>rcases h with _|⟨i,_|d⟩<;>simp[jj,cC.kill,a]
theorem nE{f:FuncId}{fn:Func}{xs:eA}{fR:Array TypeId}{args oh:ej}{V:b8}{c:Bool}(cF:AC X f args [] (λsv h=>sv=V/\h=[]))(aA:o.op=.call { callee:=.value (.func f),args:=xs.toArray,argTypes:=fR })(bh:o.guard=none/\o.dst=some d)(az:blt d n=true)(gO : X.P.funcs[f]? = some fn)(ba : (fn.name == "runtime.NumGoroutine") = false)(ab : fn.body.isNone = false)(mW : oU X st.L xs = some (c, oh))(U : c = true)(sx : tx [] args = some oh)(mm : V.dE [] = some V)(dJ:gx X M n r ops rest ⟨(d,V)::st.L,st.H⟩ Q):gx X M n r ops (o::rest) st Q:=
 E0 [] cF aA bh az gO ba ab mW U sx rfl iY.nil λsv aR ⟨I,J⟩=>by
  subst I;subst J;refine⟨sv,[],mm,rfl,?_⟩;show gx X M n r ops rest ⟨(d,sv)::pG [] st.L,[]++jj [] [] st.H⟩ Q;rw[Q3,Q4];exact dJ
theorem oW(f:bp){j s:Nat}{want b:Bool}(l:o.guard=some (j,want))(i:nth (eN ops) j=some (some s))(m:bj st.L s=some (.c (.val (.bool b))))(t:o.dst=some d)(az:blt d n=true)(I:b=want->gx X M n r ops ({ dst:=o.dst,op:=o.op,type:=o.type,pos:=o.pos,after:=o.after,guard:=none }::rest) st Q)(k:b=!want->gx X M n r ops rest ⟨(d,.may false f)::st.L,st.H⟩ Q):gx X M n r ops (o::rest) st Q:=by
 rintro R W aD a w ⟨aq,env,B,ai,H,e,ad⟩;obtain⟨A,u,z⟩:=y0 i;have y:(ops.toArray[j]?).bind (·.dst)=some s:=by simp[u,<- z]
 obtain⟨v,J,ag⟩:=ad.has _ _ m;rw[show v=_ from ag]at J;have hw:=oL ad.sym l y (hs J)
 by_cases ab:b=want
 ·have p:=I ab R W aD a w ⟨aq,env,B,ai,H,e,ad⟩
  show(if Region.wanted o (yielded ops.toArray a.tmps)then _ else _);rw[hw,if_pos (by simp[ab])];have c:(if Region.wanted { dst:=o.dst,op:=o.op,type:=o.type,pos:=o.pos,after:=o.after,guard:=none } (yielded ops.toArray a.tmps)then _ else _):=p;rw[show Region.wanted { dst:=o.dst,op:=o.op,type:=o.type,pos:=o.pos,after:=o.after,guard:=none } (yielded ops.toArray a.tmps)=true by simp[Region.wanted],if_pos rfl]at c;exact c
 ·have q:b=!want:=by cases b<;>cases want<;>simp_all
  have g:dh n (j9 aq aD) ((d,undef)::full a) (a.put o.dst undef):=by rw[t];exact ad.bW.put d undef (dS az)
  show(if Region.wanted o (yielded ops.toArray a.tmps)then _ else _);rw[hw,if_neg (by simp[ab])];exact⟨λ_ _=>trivial,k q R W aD _ w ⟨aq,env,B,ai,H,e,ad.set (sv:=.may false f) ⟨λh=>(by cases h),λ_=>rfl⟩ g⟩⟩
end
end
section
section
variable {P:Program} {ops:Array Oper} {Q:Exit->Act->World->Prop} {S:Nat->Array Bool->World->Prop}
def ho(P:Program)(ops:Array Oper)(Q:Exit->Act->World->Prop)(S:Nat->Array Bool->World->Prop):Nat->Array Bool->Act->World->Prop
 |0,listed,a,w=>Region.ready .any ops listed=[]/\Q .normal a w
 |fuel+1,listed,a,w=>(Region.ready .any ops listed=[]->Q .normal a w)/\∀i∈Region.ready .any ops listed,∃o,ops[i]?=some o/\fj P ops o (λaU w'=>S i listed w'/\ho P ops Q S fuel (listed.setIfInBounds i true) aU w') a w
theorem A0.mono{o:Oper}{a:Act}{w:World}{K b:Value->World->Prop}(h:A0 P o a w K)(aa:∀v w,K v w->b v w):A0 P o a w b:=by
 rcases h with⟨v,w',I,J⟩|⟨w',I,J⟩|⟨f,args,b6,I,J⟩
 ·exact .inl ⟨v,w',I,aa _ _ J⟩
 ·exact .inr (.inl ⟨w',I,aa _ _ J⟩)
 ·exact .inr (.inr ⟨f,args,b6,I,Calls.mono J λe w' ⟨v,he,c⟩=>⟨v,he,aa _ _ c⟩⟩)
theorem fj.mono{o:Oper}{a:Act}{w:World}{K b:Act->World->Prop}(h:fj P ops o K a w)(aa:∀a w,K a w->b a w):fj P ops o b a w:=by
 rcases h with⟨I,J⟩|⟨I,J⟩
 ·exact .inl ⟨I,J.mono λ_ _=>aa _ _⟩
 ·exact .inr ⟨I,aa _ _ J⟩
theorem ho.any(r:Option Nat):∀(fuel:Nat) (listed:Array Bool) (a:Act) (w:World),ho P ops Q S fuel listed a w->wpAnyIn (WF r) 0 P .any ops Q fuel listed a w
 |0,_,_,_,h=>h
 |fuel+1,_,_,_,h=>⟨h.1,λi hi=>by
  obtain⟨o,c,an⟩:=h.2 i hi;unfold wpOpIn;simp only[c];exact fj.fenced (an.mono λaU w' b=>ho.any r fuel _ aU w' b.2)⟩
theorem fj.Q5{T:World->Prop}{c d:Oper}{v:Value}(kR:c.apart ops d=true)(j:∀cs b,c.op≠.select cs b)(k:∀cs b,d.op≠.select cs b){K:Act->World->Prop}{a:Act}{w:World}(aG:YieldsIf P ops T c v a)(h:fj P ops d K (a.put c.dst v) w) :
  fj P ops d (λaU w'=>YieldsIf P ops T c v aU/\K (aU.put c.dst v) w') a w:=by
 obtain⟨I,J,ag⟩:=Oper.apart_spec kR;have et:∀u,YieldsIf P ops T c v (a.put d.dst u):=λu=>aG.of_same (execOp_put c j a d.dst u ag) (wanted_put c a d.dst u ag)
 have i:=wanted_put d a c.dst v I;have dQ:=execOp_put d k a c.dst v I;have g:∀u,(a.put d.dst u).put c.dst v=(a.put c.dst v).put d.dst u:=λu=>(Act.put_comm a v u J).symm
 rcases h with⟨hw,h⟩|⟨hw,h⟩
 ·refine .inl ⟨by rw[<- i];exact hw,?_⟩
  unfold A0 at h ⊢;rw[dQ]at h
  rcases h with⟨u,w',g1,g2⟩|⟨w',g1,g2⟩|⟨f,args,b6,g1,g2⟩
  ·exact .inl ⟨u,w',g1,et u,by rw[g];exact g2⟩
  ·exact .inr (.inl ⟨w',g1,et _,by rw[g];exact g2⟩)
  ·exact .inr (.inr ⟨f,args,b6,g1,Calls.mono g2 λe w' ⟨u,he,hu⟩=>⟨u,he,et u,by rw[g];exact hu⟩⟩)
 ·exact .inr ⟨by rw[<- i];exact hw,et _,by rw[g];exact h⟩
theorem E2{T:World->Prop}{o:Oper}{v:Value}{a:Act}(aG:YieldsIf P ops T o v a){K:Act->World->Prop}{w:World}(b:T w)(h:K (a.put o.dst v) w):fj P ops o K a w:=by
 rcases aG with⟨hw,aH⟩|⟨hw,rfl⟩
 ·exact .inl ⟨hw,.inl ⟨v,w,aH w b,h⟩⟩
 ·exact .inr ⟨hw,h⟩
def J8(ops:Array Oper)(i:Nat)(D:bX)(j:Nat):Prop:=∃a e,ops[j]?=some a/\e∈a.after/\Region.binds .any e=true/\(e.on=i\/e.on∈D)
theorem ho.first{i:Nat}{n:Oper}{v:Value}{T:World->Prop}(hi:ops[i]?=some n)(z:∀(j:Nat) (o:Oper) cs b,ops[j]?=some o->o.op≠.select cs b)(D:bX)(O:∀j∈D,J8 ops i D j)(A:∀j l w,S j (l.setIfInBounds i true) w->S j l w):∀(fuel:Nat) (listed:Array Bool) (a:Act) (w:World),
   (∀j∈D,listed.getD j true=false)->(∀j f,ops[j]?=some f->j≠i->listed.getD j true=false->(∀e∈f.after,Region.binds .any e=true->e.on≠i)->n.apart ops f=true/\(j∈D\/∀l w,(∀d∈D,l.getD d true=false)->S j l w->T w)) ->
   i∈Region.ready .any ops listed->YieldsIf P ops T n v a->T w ->
   ho P ops Q S fuel (listed.setIfInBounds i true) (a.put n.dst v) w->(∀l w',T w'->S i l w')->ho P ops Q S (fuel+1) listed a w:=by
 intro fuel
 induction fuel with
 |zero=>
  intro listed a w _ _ m aG p H s;refine⟨λh=>(by rw[h]at m;cases m),λj t=>?_⟩
  by_cases g:j=i
  ·subst g;exact⟨n,hi,E2 aG p ⟨s _ w p,H⟩⟩
  ·have:=ready_mono t g
   rw[H.1]at this;cases this
 |succ fuel V=>
  intro listed a w y K m aG p H s;refine⟨λh=>(by rw[h]at m;cases m),λj t=>?_⟩
  by_cases g:j=i
  ·subst g;exact⟨n,hi,E2 aG p ⟨s _ w p,H⟩⟩
  ·obtain⟨Z,L,G⟩:=H.2 j (ready_mono t g)
   obtain⟨J,f,q,I⟩:=mem_ready.1 t;have M:=Option.some.inj (L.symm.trans q);rw[M]at G;have E:∀e∈f.after,Region.binds .any e=true->e.on≠i:=λe he ab heq=>by
    have c:=I e he ab;have r:=(mem_ready.1 m).1;rw[heq]at c
    rcases Nat.lt_or_ge i listed.size with aR|aR
    ·simp[aR]at r c;rw[r]at c;cases c
    ·simp[Array.getElem?_eq_none aR]at c
   have F:j ∉ D:=λR=>by
    obtain⟨ok,e,aa,he,ab,BC⟩:=O j R
    have:ok=f:=Option.some.inj (aa.symm.trans q)
    subst this;have c:=I e he ab
    rcases BC with BC|BC
    ·exact E e he ab BC
    ·have r:=y _ BC
     rcases Nat.lt_or_ge e.on listed.size with aR|aR
     ·simp[aR]at r c;rw[r]at c;cases c
     ·simp[Array.getElem?_eq_none aR]at c
   obtain⟨kR,N⟩:=K j f q g J E;have X:=fj.Q5 kR (λcs b=>z i n cs b hi) (λcs b=>z j f cs b q) aG G;refine⟨f,q,X.mono λaU w' u=>⟨A j listed w' u.2.1,?_⟩⟩;have U:=(N.resolve_left F) listed w' y (A j listed w' u.2.1);refine V (listed.setIfInBounds j true) aU w' (λk aa=>?_) (λk ok aa Y B W=>?_) (ready_mono m (Ne.symm g)) u.1 U ?_ s
   ·rw[getD_set_ne true (λe=>F (by rw[e];exact aa))]
    exact y k aa
   ·refine K k ok aa Y ?_ W
    by_cases C:j=k
    ·subst C;exact J
    ·rw[getD_set_ne true C]at B;exact B
   ·rw[Array.setIfInBounds_comm _ _ g]
    exact u.2.2
end
def pK:Op->Bool
 |.move _=>true
 |.assign _=>true
 |.pick _ _ _=>true
 |.unOp _ _ _=>true
 |.binOp _ _ _ _ _=>true
 |.load _ _=>true
 |.fieldAddr _ _ _=>true
 |.indexAddr _ _ _=>true
 |.slice _ _ _ _ _=>true
 |.convert _ _ _=>true
 |.build _ _=>true
 |.makeFunc _ _ _=>true
 |.nilCheck _=>true
 |.extract _ _=>true
 |.call ⟨.builtin .len,_,_⟩=>true
 |.call ⟨.builtin .cap,_,_⟩=>true
 |.call ⟨.builtin .min,_,_⟩=>true
 |.call ⟨.builtin .max,_,_⟩=>true
 |_=>false
def y5(ops:Array Oper)(i:Nat)(D:bX)(j:Nat):Bool:=match ops[j]? with
 |some o=>o.after.any λe=>Region.binds .any e&&(e.on==i || D.elem e.on)
 |none=>false
def xG(ops:Array Oper)(i:Nat):bX:=(range ops.size).foldl (λD j=>match y5 ops i D j with
 |true=>j::D
 |false=>D) []
def nF:Nat:=1000000
def tA(E:bX)(listed:Array Bool):Bool:=E.any λe=>ble nF e&&listed.getD (e-nF) true
def fL(E:bX)(listed:Array Bool)(j:Nat):Bool:=E.elem j&&!tA E listed
def E5(E D:bX):Bool:=E.all λe=>!ble nF e || D.elem (e-nF)
def BF(E:bX)(i:Nat):Bool:=!E.elem (i+nF)
theorem Q8{E:bX}{l:Array Bool}{j:Nat}(h:fL E l j=true):E.elem j=true:=by
 unfold fL at h;rw[and_eq_true]at h;exact h.1
theorem Kc{E:bX}{l:Array Bool}{i j:Nat}(hi:BF E i=true)(h:fL E l j=true):fL E (l.setIfInBounds i true) j=true:=by
 unfold fL tA at h ⊢;rw[and_eq_true]at h ⊢;refine⟨h.1,?_⟩;have J:=h.2;rw[not_eq_true',List.any_eq_false]at J ⊢;intro e he;have ag:=J e he
 by_cases ab:ble nF e=true
 ·rw[ab,Bool.true_and]at ag ⊢
  have a:i≠e-nF:=λb=>by
   have hle:=le_of_ble_eq_true ab
   have:i+nF=e:=by omega
   unfold BF at hi;rw[this,List.elem_eq_true_of_mem he]at hi;cases hi
  rwa [getD_set_ne true a]
 ·rw[(by simpa only[Bool.not_eq_true] using ab:ble nF e=false),Bool.false_and]
  simp
theorem abN{E D:bX}{l:Array Bool}{j:Nat}(ab:E5 E D=true)(b:∀d∈D,l.getD d true=false)(a:E.elem j=true):fL E l j=true:=by
 unfold fL tA;rw[a,Bool.true_and,not_eq_true',List.any_eq_false];intro e he;unfold E5 at ab;rw[List.all_eq_true]at ab;have I:=ab e he;rw[or_eq_true,not_eq_true']at I
 rcases I with I|I
 ·rw[I];simp
 ·rw[b _ (by simpa using I)];simp
def y6(ops:Array Oper)(E D:bX)(listed:Array Bool)(i:Nat):Bool:=
 (D.all λj=>!listed.getD j true&&y5 ops i D j)&&(range ops.size).all (λj=>j==i || listed.getD j true || E.elem j || D.elem j)&&E5 E D
theorem Q9{ops:Array Oper}{i j:Nat}{D:bX}(h:y5 ops i D j=true):J8 ops i D j:=by
 unfold y5 at h
 split at h
 ·rename_i o a
  simp only[Array.any_eq_true]at h;obtain⟨k,aa,J⟩:=h;simp only[and_eq_true,or_eq_true,beq_iff_eq,elem_eq_mem,decide_eq_true_eq]at J;exact⟨o,_,a,Array.getElem_mem aa,J.1,J.2⟩
 ·cases h
def pL(ops:Array Oper)(E:bX)(listed:Array Bool)(i:Nat):Bool:=BF E i&&Region.noSelect ops&&Region.free .any ops listed i&&(Region.ready .any ops listed).contains i
def nG(f:Op->Bool)(ops:Array Oper)(i:Nat):Bool:=match ops[i]? with
 |some o=>f o.op
 |none=>false
def y7(ops:Array Oper)(E:bX)(listed:Array Bool)(pre:Bool)(i:Nat):Bool:=!E.elem i || (pre&&y6 ops E (xG ops i) listed i)
structure h2 where
 listed:Array Bool
 early:Bool
 pre:Bool
 lq:Bool
 all:Bool
def qs(ops:Array Oper)(E:bX):List (Nat×Nat)->h2->Option h2
 |[],s=>some s
 |(i,0)::b,⟨listed,early,pre,a,al⟩=>match pL ops E listed i&&y7 ops E listed pre i&&nG (λo=>pK o&&!n6 o) ops i with
  |true=>qs ops E b ⟨listed.setIfInBounds i true,early,pre,a,al⟩
  |false=>none
 |(i,1)::b,⟨listed,early,pre,a,al⟩=>match pL ops E listed i&&y7 ops E listed pre i&&nG pK ops i&&a with
  |true=>qs ops E b ⟨listed.setIfInBounds i true,early,pre,a,al⟩
  |false=>none
 |(i,3)::b,⟨listed,early,pre,a,al⟩=>match pL ops E listed i&&y6 ops E (xG ops i) listed i&&nG pK ops i&&early&&pre&&!al with
  |true=>qs ops E b ⟨listed.setIfInBounds i true,early,pre,a,al⟩
  |false=>none
 |(i,4)::b,⟨listed,_,pre,a,al⟩=>match (Region.ready .any ops listed==[i])&&pre&&nG Bk ops i&&!al with
  |true=>qs ops E b ⟨listed.setIfInBounds i true,false,pre,a,al⟩
  |false=>none
 |(i,_)::b,⟨listed,_,_,a,al⟩=>match (Region.ready .any ops listed==[i])&&!fL E listed i with
  |true=>qs ops E b ⟨listed.setIfInBounds i true,false,false,a,al⟩
  |false=>none
def nH:bC->bC
 |[]=>[]
 |(k,.cells t cs)::r=>(k,.cells t cs)::nH r
 |_::r=>nH r
def tB(X:bz)(n:Nat)(cP:List (Option Nat))(ops:List Oper):List (Nat×Nat)->Bool->aQ->Out
 |[],c,st=>.done c st
 |(i,m)::a,c,⟨L,H⟩=>match nth ops i with
  |some o=>match m with
   |1=>match kX X n cP ⟨L,[]⟩ o with
    |.ok c' ⟨ea,_⟩=>tB X n cP ops a (c&&c') ⟨ea,H⟩
    |.stop=>.stop c ⟨L,H⟩ []
   |3=>match kX X n cP ⟨L,nH H⟩ o with
    |.ok c' ⟨ea,_⟩=>tB X n cP ops a (c&&c') ⟨ea,H⟩
    |.stop=>.stop c ⟨L,H⟩ []
   |4=>match kX X n cP ⟨L,H⟩ o with
    |.ok c' st'=>match ri o H with
     |true=>tB X n cP ops a (c&&c') st'
     |false=>.stop c ⟨L,H⟩ []
    |.stop=>.stop c ⟨L,H⟩ []
   |_=>match kX X n cP ⟨L,H⟩ o with
    |.ok c' st'=>tB X n cP ops a (c&&c') st'
    |.stop=>.stop c ⟨L,H⟩ []
  |none=>.stop c ⟨L,H⟩ []
def sy(al:Bool)(c:bo):Bool:=al || jv c
structure lU(R:Nat->Prop)(aL:h2)(c5:Nat->Prop)(dx:World)(cN:cI)(F:World->Prop)(B:Nat->Prop)(ai:World)(H:cI):Prop where
 early:aL.early=true->c5=B/\dx=ai/\cN=H.filter (sy aL.all)
 pre:aL.pre=true->(∀c∈cN,c∈H/\sy aL.all c=true)/\cN.Pairwise bo.off/\(∀k,c5 k->B k)/\ds (λk=>R k\/c5 k) dx ai
 dV:aL.lq=true->F=λw=>ds (λk=>R k\/B k) ai w
 oi:∀w,ds (λk=>R k\/B k) ai w->F w
def jb(X:bz)(M:Bool)(n:Nat)(ops:List Oper)(E:bX)(fuel:Nat)(aL:h2)(st:aQ)(Q:Exit->aQ->Prop):Prop:=
 ∀(R:Nat->Prop) (W:World) (aD:fk) (b:Nat->Prop) (c:World) (cN:cI) (F:World->Prop) (aq:bX) (env:Nat->Loc) (B:Nat->Prop) (ai:World) (H:cI) (a:Act) (w:World),Ez M aq aD->bM X R W aD n aq env B ai H st a w->lU R aL b c cN F B ai H ->
  ho X.P ops.toArray (λe a w=>e=.normal/\∃st',Q e st'/\mO X R W aD M n st' a w) (λj l w=>(fL E l j=true->bT (λk=>R k\/b k) c cN w)/\F w) fuel aL.listed a w
def rv(X:bz)(M:Bool)(n:Nat)(ops:List Oper)(E:bX)(fuel:Nat)(aL:h2)(st:aQ)(Q:Exit->aQ->Prop)(i:Nat):Prop:=
 ∀(R:Nat->Prop) (W:World) (aD:fk) (b:Nat->Prop) (c:World) (cN:cI) (F:World->Prop) (aq:bX) (env:Nat->Loc) (B:Nat->Prop) (ai:World) (H:cI) (a:Act) (w:World),Ez M aq aD->bM X R W aD n aq env B ai H st a w->lU R aL b c cN F B ai H ->
  ∃o,ops.toArray[i]?=some o/\fj X.P ops.toArray o (λaU w'=>((fL E aL.listed i=true->bT (λk=>R k\/b k) c cN w')/\F w')/\ho X.P ops.toArray (λe a w=>e=.normal/\∃st',Q e st'/\mO X R W aD M n st' a w) (λj l w=>(fL E l j=true->bT (λk=>R k\/b k) c cN w)/\F w) fuel (aL.listed.setIfInBounds i true) aU w') a w
theorem lU.T{R:Nat->Prop}{aL:h2}{d:Nat->Prop}{e:World}{cN:cI}{F:World->Prop}{X:bz}{W:World}{aD:fk}{n:Nat}{aq:bX}{env:Nat->Loc}{B:Nat->Prop}{ai:World}{H:cI}{st:aQ}{a:Act}{w:World}(h:lU R aL d e cN F B ai H)(ak:aL.pre=true)(ad:bM X R W aD n aq env B ai H st a w):bT (λk=>R k\/d k) e cN w:=by
 obtain⟨I,J,ag,g⟩:=h.pre ak;have ab:=ad.aT.below;refine⟨g.trans ⟨ab.os,ab.tape,ab.output,ab.size,λk aa=>ab.block k (aa.imp id (ag k))⟩,λk aa=>ad.aT.base k (aa.imp id (ag k)),λc U=>?_,J⟩;have f:=ad.aT.ok c (mem_append_left _ (I c U).1);exact f.base λb ab aa=>(f.lt ab).1 (aa.imp id (ag b))
theorem lU.F{R:Nat->Prop}{aL:h2}{b:Nat->Prop}{d:World}{cN:cI}{F:World->Prop}{X:bz}{W:World}{aD:fk}{n:Nat}{aq:bX}{env:Nat->Loc}{B:Nat->Prop}{ai:World}{H:cI}{st:aQ}{a:Act}{w:World}(c:lU R aL b d cN F B ai H)(ad:bM X R W aD n aq env B ai H st a w):F w:=
 c.oi w ⟨ad.aT.below.os,ad.aT.below.tape,ad.aT.below.output,ad.aT.below.size,ad.aT.below.block⟩
theorem bG.hN{env:Nat->Loc}{B:Nat->Prop}{w:World}:∀ {l:bC} {H:cI},bG env B w l H->bG env B w (nH l) (H.filter jv)
 |[],_,h=>by rw[show _=[] from h];exact rfl
 |(k,.cells t cs)::r,_,⟨c,H',e,I,J⟩=>by
  subst e;have U:jv c=true:=by
   obtain⟨b,vs,_,e,_⟩:=I;rw[e];rfl
  rw[List.filter_cons_of_pos U];exact⟨c,_,rfl,I,bG.hN J⟩
 |(k,.row t g l cap)::r,_,⟨c,H',e,I,J⟩=>by
  subst e;have U:jv c=false:=I.pA (λ_ _ e=>by cases e);rw[filter_cons_of_neg (by rw[U];simp)];show bG env B w (nH r) _;exact bG.hN J
 |(k,.lj s p)::r,_,⟨c,H',e,I,J⟩=>by
  subst e;have U:jv c=false:=I.pA (λ_ _ e=>by cases e);rw[filter_cons_of_neg (by rw[U];simp)];show bG env B w (nH r) _;exact bG.hN J
 |(k,.mp gk gv l o)::r,_,⟨c,H',e,I,J⟩=>by
  subst e;have U:jv c=false:=I.pA (λ_ _ e=>by cases e);rw[filter_cons_of_neg (by rw[U];simp)];show bG env B w (nH r) _;exact bG.hN J
 |(k,.it a m q aB)::r,_,⟨c,H',e,I,J⟩=>by
  subst e;have U:jv c=false:=I.pA (λ_ _ e=>by cases e);rw[filter_cons_of_neg (by rw[U];simp)];show bG env B w (nH r) _;exact bG.hN J
 |(k,.h8 a)::r,_,⟨c,H',e,I,J⟩=>by
  subst e;have U:jv c=false:=I.pA (λ_ _ e=>by cases e);rw[filter_cons_of_neg (by rw[U];simp)];show bG env B w (nH r) _;exact bG.hN J
 |(k,.lk)::r,_,⟨c,H',e,I,J⟩=>by
  subst e;have U:jv c=false:=I.pA (λ_ _ e=>by cases e);rw[filter_cons_of_neg (by rw[U];simp)];show bG env B w (nH r) _;exact bG.hN J
 |(k,.cW j t g l cap i d)::r,_,⟨c,H',e,I,J⟩=>by
  subst e;have U:jv c=false:=I.pA (λ_ _ e=>by cases e);rw[filter_cons_of_neg (by rw[U];simp)];show bG env B w (nH r) _;exact bG.hN J
 |(k,.lM)::r,_,⟨c,H',e,I,J⟩=>by
  subst e;have U:jv c=false:=I.pA (λ_ _ e=>by cases e);rw[filter_cons_of_neg (by rw[U];simp)];show bG env B w (nH r) _;exact bG.hN J
 |(k,.hl t g l)::r,_,⟨c,H',e,I,J⟩=>by
  subst e;have U:jv c=false:=I.pA (λ_ _ e=>by cases e);rw[filter_cons_of_neg (by rw[U];simp)];show bG env B w (nH r) _;exact bG.hN J
 |(k,.cf t f g l cap q)::r,_,⟨c,H',e,I,J⟩=>by
  subst e;have U:jv c=false:=I.pA (λ_ _ e=>by cases e);rw[filter_cons_of_neg (by rw[U];simp)];show bG env B w (nH r) _;exact bG.hN J
section
variable {X:bz} {M:Bool} {n:Nat} {st st':aQ} {Q:Exit->aQ->Prop} {ops:List Oper} {E:bX} {aL ds':h2} {fuel:Nat}
theorem bM.drew{R:Nat->Prop}{W:World}{aD:fk}{aq:bX}{env:Nat->Loc}{B:Nat->Prop}{ai:World}{H:cI}{a:Act}{w:World}(h:bM X R W aD n aq env B ai H st a w):bM X R W aD n aq env B ai H st a w.drew:=
 ⟨h.size,h.defs,h.has,h.heap,h.aT.drew,h.sub,h.new,h.dP,h.base,h.eu⟩
theorem BG{id N:Nat}{r:Option Nat}{al:Bool}(E:bX)(f:X.P.follows .mixedOrders=true)(a1:ops.length=N)(h:jb X M n ops E N ⟨Array.replicate N false,true,true,true,al⟩ st Q):hd X M n r (.region id ops.toArray true) st Q:=by
 rintro R W aD a w ⟨aq,env,B,ai,H,d,ad⟩;have I:=ho.any r _ _ _ _ (h R W aD B ai (H.filter (sy al)) _ aq env B ai H a w.drew d ad.drew ⟨λ_=>⟨rfl,rfl,rfl⟩,λ_=>⟨λc U=>List.mem_filter.1 U,(List.pairwise_append.1 ad.aT.apart).1.sublist filter_sublist,λ_ h=>h,ds.refl _ _⟩,λ_=>rfl,λ_ h=>h⟩);have J:(Code.region id ops.toArray true).wpIn (WF r) 0 X.P (λe a w=>e=.normal/\∃st',Q e st'/\mO X R W aD M n st' a w) a w:=wpIn_region_any f (by simp only[List.size_toArray,a1];exact I);refine wpIn_mono J ?_;rintro e a w ⟨rfl,st',ag,b⟩;exact⟨st',ag,b⟩
theorem tC(b:Region.ready .any ops.toArray aL.listed=[])(h:Q .normal st):jb X M n ops E 0 aL st Q:=λR W aD d e cN F aq env B ai H a w c ad _=>⟨b,rfl,st,h,aq,env,B,ai,H,c,ad⟩
theorem lV{i:Nat}{o:Oper}(h:nth ops i=some o):ops.toArray[i]?=some o:=by simpa using JD h
theorem abO{op:Op}(h:pK op=true)(d:Option Nat):yZ X n st d op=none:=by
 unfold pK at h
 split at h<;>first|rfl|(cases h)
theorem Ra(u:X.aY.ok X.P){R:Nat->Prop}{W:World}{aD:fk}{aq:bX}{env:Nat->Loc}{B:Nat->Prop}{ai:World}{H:cI}{a:Act}{w:World}{o:Oper}{c:Bool}(ak:pK o.op=true)(e:kX X n (eN ops) st o=.ok c st')(U:c=true)(ad:bM X R W aD n aq env B ai H st a w) :
  ∃v,bM X R W aD n aq env B ai H st' (a.put o.dst v) w/\(∀T:World->Prop,(n6 o.op=true->T=λw=>bT (λk=>R k\/B k) ai (H++aq.map dB) w)->YieldsIf X.P ops.toArray T o v a):=by
 obtain⟨L,C⟩:=st;simp only[kX]at e;have t:∀ {sa:bp} {v:Value} {T:World->Prop},(∀w,(n6 o.op=true->bT (λk=>R k\/B k) ai (H++aq.map dB) w)->(execOp a.eval o).run X.P w=.ok (.value v) w)->(n6 o.op=true->T=λw=>bT (λk=>R k\/B k) ai (H++aq.map dB) w)->∀w,T w->(execOp a.eval o).run X.P w=.ok (.value v) w:=by
  intro sa v T I J w hw;exact I w λah=>by have:=J ah;rw[this]at hw;exact hw
 split at e
 ·rename_i f
  split at e
  ·rename_i c' sa r
   split at e
   ·rename_i d m
    split at e
    ·rename_i az
     cases e;obtain⟨v,I,J⟩:=yV u r U ad;refine⟨v,ad.set I (by rw[m];exact ad.bW.put d v (dS az)),λT q=>.inl ⟨by simp[Region.wanted,f],t (sa:=sa) J q⟩⟩
    ·cases e
   ·cases e
  ·split at e
   ·rename_i xs A
    split at e
    ·rename_i d m
     split at e
     ·rename_i az
      cases e;obtain⟨v,I,J⟩:=JW ad A;exact⟨v,ad.set I (by rw[m];exact ad.bW.put d v (dS az)),λT q=>.inl ⟨by simp[Region.wanted,f],λw _=>J w⟩⟩
     ·cases e
    ·cases e
   ·rw[abO ak]at e
    cases e
 ·rename_i j want f
  split at e
  ·rename_i s y
   obtain⟨E,z,D⟩:=y0 y;have p:(ops.toArray[j]?).bind (·.dst)=some s:=by simp[z,<- D]
   have key:∀g:Bool,u1 X n L C o g=.ok c st'->Region.wanted o (yielded ops.toArray a.tmps)=g->∃v,bM X R W aD n aq env B ai H st' (a.put o.dst v) w/\(∀T:World->Prop,(n6 o.op=true->T=λw=>bT (λk=>R k\/B k) ai (H++aq.map dB) w)->YieldsIf X.P ops.toArray T o v a):=by
    intro g l hw;unfold u1 at l
    split at l
    ·rename_i c' sa d r m
     split at l
     ·rename_i az
      cases l;cases g with
      |true=>
       obtain⟨v,I,J⟩:=yV u r (by simpa using U) ad;exact⟨v,ad.set (sv:=.may true sa) ⟨λ_=>I,λh=>by cases h⟩ (by rw[m];exact ad.bW.put d v (dS az)),λT q=>.inl ⟨hw,t (sa:=sa) J q⟩⟩
      |false=>exact⟨undef,ad.set (sv:=.may false sa) ⟨(λh=>by cases h),λ_=>rfl⟩ (by rw[m];exact ad.bW.put d undef (dS az)),λT q=>.inr ⟨hw,rfl⟩⟩
     ·cases l
    ·cases l
   split at e
   ·rename_i b i
    obtain⟨v,I,J⟩:=ad.has _ _ i;rw[show v=_ from J]at I;refine key _ e ?_;rw[oL ad.sym f p (hs I)];cases b<;>rfl
   ·rename_i b i
    obtain⟨v,I,J⟩:=ad.has _ _ i;rw[show v=_ from J]at I;refine key _ e ?_;rw[oL ad.sym f p (hs I)];cases b<;>rfl
   ·rename_i g b i
    obtain⟨v,I,J,ag⟩:=ad.has _ _ i;refine key _ e ?_;cases g with
    |true=>
     rw[show v=_ from J rfl]at I;rw[oL ad.sym f p (hs I)];cases b<;>rfl
    |false=>
     rw[ag rfl]at I;rw[yM ad.sym f p (hs I)]
     rfl
   ·rename_i g b i
    obtain⟨v,I,J,ag⟩:=ad.has _ _ i;refine key _ e ?_;cases g with
    |true=>
     rw[show v=_ from J rfl]at I;rw[oL ad.sym f p (hs I)];cases b<;>rfl
    |false=>
     rw[ag rfl]at I;rw[yM ad.sym f p (hs I)]
     rfl
   ·cases e
  ·cases e
theorem u9:∀ {a:List (Nat×Nat)} {c c':Bool} {st st':aQ} {cP:List (Option Nat)},tB X n cP ops a c st=.done c' st'->c'=true->c=true
 |[],c,c',st,st',cP,h,U=>by cases h;exact U
 |(i,m)::a,c,c',⟨L,H⟩,st',cP,h,U=>by
  simp only[tB]at h
  split at h
  ·split at h
   ·split at h
    ·have:=u9 h U
     simp only[and_eq_true]at this;exact this.1
    ·cases h
   ·split at h
    ·have:=u9 h U
     simp only[and_eq_true]at this;exact this.1
    ·cases h
   ·split at h
    ·split at h
     ·have:=u9 h U
      simp only[and_eq_true]at this;exact this.1
     ·cases h
    ·cases h
   ·split at h
    ·have:=u9 h U
     simp only[and_eq_true]at this;exact this.1
    ·cases h
  ·cases h
theorem y8{R:Nat->Prop}{f:Nat->Prop}{g:World}{cN:cI}{F:World->Prop}{r:Exit->Act->World->Prop}{listed:Array Bool}{fl i:Nat}{o:Oper}{a:Act}{w:World}(b:Bool)(v:Value)(B:ops.toArray[i]?=some o)(ab:pL ops.toArray E listed i=true)(O:E.elem i=true->b=true)(M:b=true->y6 ops.toArray E (xG ops.toArray i) listed i=true)(aG:YieldsIf X.P ops.toArray (λw=>(b=true->bT (λk=>R k\/f k) g cN w)/\F w) o v a)(N:b=true->bT (λk=>R k\/f k) g cN w)(P:F w)(H:ho X.P ops.toArray r (λj l w=>(fL E l j=true->bT (λk=>R k\/f k) g cN w)/\F w) fl (listed.setIfInBounds i true) (a.put o.dst v) w) :
  ho X.P ops.toArray r (λj l w=>(fL E l j=true->bT (λk=>R k\/f k) g cN w)/\F w) (fl+1) listed a w:=by
 simp only[pL,and_eq_true]at ab;obtain⟨⟨⟨C,U⟩,S⟩,K⟩:=ab;have G:∀ {l:Array Bool} {j:Nat},fL E l j=true->fL E (l.setIfInBounds i true) j=true:=Kc C;have A:∀D,(b=true->E5 E D=true)->(∀j∈D,J8 ops.toArray i D j)->(∀j∈D,listed.getD j true=false)->(∀j c,ops.toArray[j]?=some c->j≠i->listed.getD j true=false->(∀e∈c.after,Region.binds .any e=true->e.on≠i)->j∈D\/(b=true->E.elem j=true))->ho X.P ops.toArray r (λj l w=>(fL E l j=true->bT (λk=>R k\/f k) g cN w)/\F w) (fl+1) listed a w:=by
  intro D L I J ag;refine ho.first B (Region.noSelect_spec U) D I (λj l w t=>⟨λhe=>t.1 (G he),t.2⟩) _ _ _ _ J ?_ (by simpa using K) aG ⟨N,P⟩ H (λl w' hw=>⟨λhe=>hw.1 (O (Q8 he)),hw.2⟩)
  intro j c n m p y;refine⟨Region.free_spec B S j c n m p y,?_⟩
  rcases ag j c n m p y with ar|ar
  ·exact .inl ar
  ·exact .inr λl w T s=>⟨λu=>s.1 (abN (L u) T (ar u)),s.2⟩
 cases ba:b with
 |false=>exact A [] (λh=>by rw[ba]at h;cases h) (λ_ h=>by cases h) (λ_ h=>by cases h) (λ_ _ _ _ _ _=>.inr λh=>by rw[ba]at h;cases h)
 |true=>
  have d:=M ba;unfold y6 at d;rw[and_eq_true]at d;obtain⟨d,V⟩:=d;simp only[and_eq_true,List.all_eq_true,List.mem_range,not_eq_true']at d;obtain⟨z,Q⟩:=d;refine A (xG ops.toArray i) (λ_=>V) (λj q=>Q9 (z j q).2) (λj q=>(z j q).1) (λj c n m p _=>?_)
  have:=Q j (Array.getElem?_eq_some_iff.1 n).1
  simp only[or_eq_true,beq_iff_eq]at this
  rcases this with((I|I)|I)|I
  ·exact absurd I m
  ·rw[p]at I;cases I
  ·exact .inr λ_=>I
  ·exact .inl (by simpa using I)
theorem E7{listed:Array Bool}{pre:Bool}{i:Nat}(h:y7 ops.toArray E listed pre i=true):(E.elem i=true->y6 ops.toArray E (xG ops.toArray i) listed i=true)/\(E.elem i=true->pre=true):=by
 simp only[y7,or_eq_true,not_eq_true',and_eq_true]at h
 rcases h with h|h
 ·exact⟨λe=>(by rw[h]at e;cases e),λe=>(by rw[h]at e;cases e)⟩
 ·exact⟨λ_=>h.2,λ_=>h.1⟩
theorem Rd{P:Program}{ops:Array Oper}{T T':World->Prop}{o:Oper}{v:Value}{a:Act}(h:YieldsIf P ops T o v a)(hw:∀w,T' w->T w):YieldsIf P ops T' o v a:=by
 rcases h with⟨I,J⟩|I
 ·exact .inl ⟨I,λw b=>J w (hw w b)⟩
 ·exact .inr I
theorem Re(i:X.aY.ok X.P){R:Nat->Prop}{W:World}{aD:fk}{aq:bX}{env:Nat->Loc}{B:Nat->Prop}{ai:World}{H C:cI}{L ea:c6}{e h m:bC}{a:Act}{w:World}{o:Oper}{c:Bool}(ad:bM X R W aD n aq env B ai H ⟨L,e⟩ a w)(j:bG env B ai h C)(cF:C.Sublist H)(ak:pK o.op=true)(g:kX X n (eN ops) ⟨L,h⟩ o=.ok c ⟨ea,m⟩)(U:c=true) :
  ∃v,bM X R W aD n aq env B ai H ⟨ea,e⟩ (a.put o.dst v) w/\YieldsIf X.P ops.toArray (λw=>bT (λk=>R k\/B k) ai C w) o v a:=by
 have l:bM X R W aD n [] env B ai C ⟨L,h⟩ { tmps:=a.tmps,defers:=aD.d } w:=⟨ad.size,rfl,ad.has,j,ad.aT.fq (by simpa using cF.trans (sublist_append_left _ _)),ad.sub,ad.new,ad.dP,ad.base,ad.eu⟩
 obtain⟨v,b,aG⟩:=Ra i ak g U l;have d:(({ tmps:=a.tmps,defers:=aD.d }:Act).put o.dst v).tmps=(a.put o.dst v).tmps:=by cases o.dst<;>rfl
 have f:(a.put o.dst v).defers=a.defers:=by cases o.dst<;>rfl
 refine⟨v,⟨by rw[<- d];exact b.size,by rw[f];exact ad.defs,λs sv h=>by rw[<- d];exact b.has s sv h,ad.heap,ad.aT,ad.sub,ad.new,ad.dP,ad.base,ad.eu⟩,?_⟩;have I:=aG _ (λ_=>rfl);simp only[map_nil,append_nil]at I;exact I
theorem lU.kept{R:Nat->Prop}{b:Nat->Prop}{d:World}{cN:cI}{F:World->Prop}{B:Nat->Prop}{ai:World}{H H':cI}(a:lU R aL b d cN F B ai H)(aa:aL.pre=true->∀c∈H,sy aL.all c=true->c∈H'){l:Array Bool}:lU R ⟨l,false,aL.pre,aL.lq,aL.all⟩ b d cN F B ai H':=
 ⟨λh=>(by cases h),λh=>by
  obtain⟨I,J,ag,e⟩:=a.pre h;exact⟨λc U=>⟨aa h c (I c U).1 (I c U).2,(I c U).2⟩,J,ag,e⟩,a.dV,a.oi⟩
theorem lU.lost{R:Nat->Prop}{a:Nat->Prop}{c:World}{cN:cI}{F:World->Prop}{B:Nat->Prop}{ai:World}{H H':cI}(b:lU R aL a c cN F B ai H){l:Array Bool}:lU R ⟨l,false,false,aL.lq,aL.all⟩ a c cN F B ai H':=
 ⟨λh=>(by cases h),λh=>(by cases h),b.dV,b.oi⟩
theorem zc(g:X.aY.ok X.P):∀ {q:List (Nat×Nat)} {c c':Bool} {st st':aQ} {aL ds':h2},qs ops.toArray E q aL=some ds'->tB X n (eN ops) ops q c st=.done c' st'->c'=true ->
  jb X M n ops E fuel ds' st' Q->jb X M n ops E (q.length+fuel) aL st Q
 |[],c,c',st,st',aL,ds',bg,b,U,h=>by
  cases bg;cases b;simp only[List.length_nil,zero_add];exact h
 |(i,m)::q,c,c',⟨L,az⟩,st',⟨listed,early,pre,aE,al⟩,ds',bg,b,U,h=>by
  simp only[tB]at b
  split at b
  case h_2=>cases b
  rename_i o hi;have j:=lV hi;rw[length_cons,show q.length+1+fuel=(q.length+fuel)+1 by omega];intro R W aD z A cN F aq env B ai H a w y ad d;have V:F w:=d.F ad
  split at b
  ·-- a load of what is frozen
   split at b
   case h_2=>cases b
   rename_i cK ea aA p;have f:=u9 b U;simp only[and_eq_true]at f;simp only[qs]at bg
   split at bg
   case h_2=>cases bg
   rename_i e;simp only[nG,j,and_eq_true]at e;obtain⟨⟨⟨D,S⟩,G⟩,aC⟩:=e;obtain⟨pM,Y⟩:=E7 S;obtain⟨v,J,aG⟩:=Re g ad (h:=[]) (C:=[]) rfl (List.nil_sublist _) G p f.2;refine y8 (E.elem i) v j D id pM (Rd aG λw' T=>?_) (λhe=>d.T (Y he) ad) V (zc g bg b U h R W aD z A cN F aq env B ai H _ w y J ⟨d.early,d.pre,d.dV,d.oi⟩);have t:=T.2;rw[d.dV aC]at t;refine⟨t,λk aa=>?_,(λ_ h=>by cases h),List.Pairwise.nil⟩;have ag:=ad.aT.base k aa;have ar:=ad.aT.below.block k aa;have Z:=t.block k aa;rw[<- ar,Array.getElem?_eq_getElem ag]at Z;exact(Array.getElem?_eq_some_iff.1 Z).1
  ·-- a load of one's own cells
   split at b
   case h_2=>cases b
   rename_i cK ea aA p;have f:=u9 b U;simp only[and_eq_true]at f;simp only[qs]at bg
   split at bg
   case h_2=>cases bg
   rename_i e;simp only[nG,j,and_eq_true]at e;simp only[not_eq_true']at e;obtain⟨⟨⟨⟨⟨D,aB⟩,G⟩,aj⟩,P⟩,N⟩:=e;subst N;obtain⟨v,J,aG⟩:=Re g ad (h:=nH az) (C:=H.filter jv) ad.heap.hN filter_sublist G p f.2;refine y8 true v j D (λ_=>rfl) (λ_=>aB) (Rd aG λw' T=>?_) (λ_=>d.T P ad) V (zc g bg b U h R W aD z A cN F aq env B ai H _ w y J ⟨d.early,d.pre,d.dV,d.oi⟩);have t:=T.1 rfl;obtain⟨am,au,av⟩:=d.early aj;rw[am,au,av]at t;exact t
  ·-- one that keeps all cells
   split at b
   case h_2=>cases b
   rename_i cK ax p
   split at b
   case h_2=>cases b
   rename_i an;have f:=u9 b U;simp only[and_eq_true]at f;simp only[qs]at bg
   split at bg
   case h_2=>cases bg
   rename_i e;simp only[nG,j,and_eq_true,beq_iff_eq]at e;simp only[not_eq_true']at e;obtain⟨⟨⟨I,P⟩,ao⟩,N⟩:=e;subst N;refine⟨λu=>(by rw[I]at u;cases u),λk aa=>?_⟩;rw[I]at aa;have O:k=i:=by simpa using aa
   subst O;refine⟨o,j,sq g p f.2 ad λaU w' env' H' ae r=>?_⟩;have s:=d.kept (H':=H') (l:=listed.setIfInBounds k true) (λ_=>ae.et ao an);exact⟨⟨λ_=>s.T P r,s.F r⟩,zc g bg b U h R W aD z A cN F aq env' B ai H' aU w' y r s⟩
  ·rename_i ak af ap
   split at b
   case h_2=>cases b
   rename_i cK ax p;have f:=u9 b U;simp only[and_eq_true]at f
   by_cases ab:m=0
   ·subst ab
    simp only[qs]at bg
    split at bg
    case h_2=>cases bg
    rename_i e;simp only[nG,j,and_eq_true,not_eq_true']at e;obtain⟨⟨D,S⟩,G,ah⟩:=e;obtain⟨pM,Y⟩:=E7 S;obtain⟨v,ay,aG⟩:=Ra g G p f.2 ad;exact y8 (E.elem i) v j D id pM (aG _ (λh=>by rw[ah]at h;cases h)) (λhe=>d.T (Y he) ad) V (zc g bg b U h R W aD z A cN F aq env B ai H _ w y ay ⟨d.early,d.pre,d.dV,d.oi⟩)
   ·have K:(match (Region.ready .any ops.toArray listed==[i])&&!fL E listed i with|true=>qs ops.toArray E q ⟨listed.setIfInBounds i true,false,false,aE,al⟩|false=>none)=some ds':=by
     rw[<- bg]
     match m,ab,ak,af,ap with
     |0,h,_,_,_=>exact absurd rfl h
     |1,_,h,_,_=>exact absurd rfl h
     |2,_,_,_,_=>rfl
     |3,_,_,h,_=>exact absurd rfl h
     |4,_,_,_,h=>exact absurd rfl h
     |_+5,_,_,_,_=>rfl
    split at K
    case h_2=>cases K
    rename_i ac;simp only[and_eq_true,beq_iff_eq,not_eq_true']at ac;obtain⟨I,aw⟩:=ac;refine⟨λu=>(by rw[I]at u;cases u),λk aa=>?_⟩;rw[I]at aa;have O:k=i:=by simpa using aa
    subst O;refine⟨o,j,sq g p f.2 ad λaU w' env' H' ae r=>?_⟩;have s:=d.lost (H':=H') (l:=listed.setIfInBounds k true);exact⟨⟨λhe=>(by rw[aw]at he;cases he),s.F r⟩,zc g K b U h R W aD z A cN F aq env' B ai H' aU w' y r s⟩
theorem qu(b:X.aY.ok X.P)(a:List (Nat×Nat)){c:Bool}(bg:qs ops.toArray E a aL=some ds')(d:tB X n (eN ops) ops a true st=.done c st')(U:c=true)(h:jb X M n ops E fuel ds' st' Q):jb X M n ops E (a.length+fuel) aL st Q:=zc b bg d U h
theorem zd(f:X.aY.ok X.P){i:Nat}{o:Oper}{c:Bool}{l':Array Bool}(hi:nth ops i=some o)(p:fL E aL.listed i=false)(e:kX X n (eN ops) st o=.ok c st')(U:c=true)(ah:aL.listed.setIfInBounds i true=l')(h:jb X M n ops E fuel ⟨l',false,false,aL.lq,aL.all⟩ st' Q):rv X M n ops E fuel aL st Q i:=by
 intro R W aD j m cN F aq env B ai H a w g ad k;refine⟨o,lV hi,sq f e U ad λaU w' env' H' q b=>?_⟩;have d:=k.lost (H':=H') (l:=l');rw[ah];exact⟨⟨λhe=>(by rw[p]at he;cases he),d.F b⟩,h R W aD j m cN F aq env' B ai H' aU w' g b d⟩
theorem Rf(f:X.aY.ok X.P){i:Nat}{o:Oper}{c:Bool}{l':Array Bool}(hi:nth ops i=some o)(aa:(aL.pre&&Bk o.op&&ri o st.H&&!aL.all)=true)(e:kX X n (eN ops) st o=.ok c st')(U:c=true)(ah:aL.listed.setIfInBounds i true=l')(h:jb X M n ops E fuel ⟨l',false,true,aL.lq,aL.all⟩ st' Q):rv X M n ops E fuel aL st Q i:=by
 intro R W aD j m cN F aq env B ai H a w g ad k;simp only[and_eq_true]at aa;refine⟨o,lV hi,sq f e U ad λaU w' env' H' q d=>?_⟩;have p:aL.all=false:=by simpa using aa.2
 have b:=k.kept (H':=H') (l:=l') (λ_=>by rw[p];exact q.et aa.1.1.2 aa.1.2);rw[ah];refine⟨⟨λhe=>b.T aa.1.1.1 d,b.F d⟩,h R W aD j m cN F aq env' B ai H' aU w' g d ?_⟩;rw[aa.1.1.1]at b;exact b
theorem Rg(f:X.aY.ok X.P){i:Nat}{o:Oper}{c:Bool}{l':Array Bool}(hi:nth ops i=some o)(aa:(aL.pre&&yW o.op&&uV o st.H)=true)(e:kX X n (eN ops) st o=.ok c st')(U:c=true)(ah:aL.listed.setIfInBounds i true=l')(h:jb X M n ops E fuel ⟨l',false,true,aL.lq,aL.all⟩ st' Q):rv X M n ops E fuel aL st Q i:=by
 intro R W aD j m cN F aq env B ai H a w g ad k;simp only[and_eq_true]at aa;refine⟨o,lV hi,sq f e U ad λaU w' env' H' p d=>?_⟩;have b:=k.kept (H':=H') (l:=l') (λ_ c U _=>p.all aa.1.2 aa.2 c U);rw[ah];refine⟨⟨λhe=>b.T aa.1.1 d,b.F d⟩,h R W aD j m cN F aq env' B ai H' aU w' g d ?_⟩;rw[aa.1.1]at b;exact b
def E8(X:bz)(M:Bool)(n:Nat)(ops:List Oper)(E:bX)(fuel:Nat)(aL:h2)(st:aQ)(Q:Exit->aQ->Prop)(a:bX):Prop:=∀i∈a,rv X M n ops E fuel aL st Q i
theorem wY:E8 X M n ops E fuel aL st Q []:=λ_ h=>by cases h
theorem qv{i:Nat}{a:bX}(h:rv X M n ops E fuel aL st Q i)(b:E8 X M n ops E fuel aL st Q a):E8 X M n ops E fuel aL st Q (i::a):=λj aN=>by
 rcases List.mem_cons.1 aN with rfl|aN
 ·exact h
 ·exact b j aN
theorem wZ{i:Nat}{d:bX}(c:Region.ready .any ops.toArray aL.listed=i::d)(h:E8 X M n ops E fuel aL st Q (i::d)):jb X M n ops E (fuel+1) aL st Q:=by
 intro R W aD f j cN F aq env B ai H a w e ad g;refine⟨λb=>(by rw[c]at b;cases b),λk aa=>?_⟩;rw[c]at aa;exact h k aa R W aD f j cN F aq env B ai H a w e ad g
end
theorem ho.Ki{P:Program}{ops:Array Oper}{Q:Exit->Act->World->Prop}{S S':Nat->Array Bool->World->Prop}(b:∀j l w,S' j l w->S j l w):∀(fuel:Nat) (listed:Array Bool) (a:Act) (w:World),ho P ops Q S' fuel listed a w->ho P ops Q S fuel listed a w
 |0,_,_,_,h=>h
 |fuel+1,_,_,_,h=>⟨h.1,λi hi=>by
  obtain⟨o,d,an⟩:=h.2 i hi;exact⟨o,d,an.mono λaU w' c=>⟨b _ _ _ c.1,ho.Ki b fuel _ aU w' c.2⟩⟩⟩
theorem abT{X:bz}{M:Bool}{n:Nat}{st:aQ}{Q:Exit->aQ->Prop}{ops:List Oper}{E:bX}{aL:h2}{fuel:Nat}(q:(E.isEmpty || aL.pre)=true)(h:jb X M n ops E fuel ⟨aL.listed,true,true,true,aL.all⟩ st Q):jb X M n ops E fuel aL st Q:=by
 intro R W aD s t cN F aq env B ai H a w p ad g;refine ho.Ki ?_ _ _ _ _ (h R W aD B ai (H.filter (sy aL.all)) (λw=>ds (λk=>R k\/B k) ai w) aq env B ai H a w p ad ⟨λ_=>⟨rfl,rfl,rfl⟩,λ_=>⟨λc U=>List.mem_filter.1 U,(List.pairwise_append.1 ad.aT.apart).1.sublist filter_sublist,λ_ h=>h,ds.refl _ _⟩,λ_=>rfl,λ_ h=>h⟩);rintro j l w' ⟨I,J⟩;refine⟨λhe=>?_,g.oi w' J⟩;have ak:aL.pre=true:=by
  cases E with
  |nil=>cases (Q8 he)
  |cons e E=>simpa using q
 obtain⟨m,r,f,o⟩:=g.pre ak;have d:=I he;have ab:=d.below;refine⟨o.trans ⟨ab.os,ab.tape,ab.output,ab.size,λk aa=>ab.block k (aa.imp id (f k))⟩,λk aa=>d.base k (aa.imp id (f k)),λc U=>?_,r⟩;have i:=d.ok c (List.mem_filter.2 ⟨(m c U).1,(m c U).2⟩);exact i.base λb ab aa=>(i.lt ab).1 (aa.imp id (f b))
end
section
def va(id:Nat)(g:aV)(x:g.D):eB->eB
 |[]=>[]
 |.id i::r=>match beq i id with
  |true=>.fr g x::va id g x r
  |false=>.id i::va id g x r
 |.fr h y::r=>.fr h y::va id g x r
def bs.fe:bs->Nat->(g:aV)->g.D->bs
 |.ptr i o,id,g,x=>match beq i id with
  |true=>.gb g x o
  |false=>.ptr i o
 |.fn f ids,id,g,x=>.fn f (va id g x ids)
 |c,_,_,_=>c
def ze(id:Nat)(g:aV)(x:g.D):dT->dT
 |[]=>[]
 |c::r=>c.fe id g x::ze id g x r
def bp.fe:bp->Nat->(g:aV)->g.D->bp
 |.c y,id,g,x=>.c (y.fe id g x)
 |.agg cs,id,g,x=>.agg (ze id g x cs)
 |.arr g l,_,_,_=>.arr g l
def BL(id:Nat)(g:aV)(x:g.D):ej->ej
 |[]=>[]
 |c::r=>c.fe id g x::BL id g x r
def b8.fe:b8->Nat->(g:aV)->g.D->b8
 |.a y,id,g,x=>.a (y.fe id g x)
 |.may b y,id,g,x=>.may b (y.fe id g x)
 |.cY ys,id,g,x=>.cY (BL id g x ys)
def w0(id:Nat)(g:aV)(x:g.D):c6->c6
 |[]=>[]
 |(k,v)::r=>(k,v.fe id g x)::w0 id g x r
def cC.fe:cC->Nat->(g:aV)->g.D->cC
 |.cells t cs,id,g,x=>.cells t (ze id g x cs)
 |b,_,_,_=>b
def oZ(id:Nat)(g:aV)(x:g.D):bC->bC
 |[]=>[]
 |(k,b)::r=>match beq k id with
  |true=>oZ id g x r
  |false=>(k,b.fe id g x)::oZ id g x r
section
variable {env:Nat->Loc} {B:Nat->Prop} {w:World} {id b:Nat} {g:aV} {x:g.D} (he:env id=.blk b) (bm:At B w g x b 0)
include he bm
theorem fF.fe{cs:eB}:∀ {vs:bY},fF env B w cs vs->fF env B w (va id g x cs) vs:=by
 induction cs with
 |nil=>intro vs h;exact h
 |cons c cs a=>
  intro vs h;obtain⟨v,r,e,I,ag⟩:=h;cases c with
  |id i=>
   obtain⟨b',I,J⟩:=I;simp only[va]
   split
   ·rename_i hi
    have:=eq_of_beq_eq_true hi
    subst this;rw[he]at I;cases I;exact⟨v,r,e,⟨b,0,J,bm⟩,a ag⟩
   ·exact⟨v,r,e,⟨b',I,J⟩,a ag⟩
  |fr h y=>exact⟨v,r,e,I,a ag⟩
theorem dN.fe:∀ {c:bs} {v:Value},dN env B w c v->dN env B w (c.fe id g x) v
 |.val _,_,U=>U
 |.str _,_,U=>U
 |.dead,_,U=>U
 |.ptr i o,v,U=>by
  simp only[bs.fe]
  split
  ·rename_i hi
   have:=eq_of_beq_eq_true hi
   subst this;obtain⟨b',I,J⟩:=U;rw[he]at I;cases I;exact⟨b,0,by rw[zero_add];exact J,bm⟩
  ·exact U
 |.fg _ _ _ _,_,U=>U
 |.gb _ _ _,_,U=>U
 |.par _ _,_,U=>U
 |.aI _,_,U=>U
 |.bJ _ _ _,_,U=>U
 |.fn _ _,_,⟨vs,I,J⟩=>⟨vs,I,fF.fe he bm J⟩
 |.dI _,_,U=>U
 |.jR _ _,_,U=>U
 |.iF _ _,_,U=>U
 |.jS _ _ _,_,U=>U
 |.j7 _,_,U=>U
 |.iV _ _,_,U=>U
theorem cZ.fe:∀ {c:dT} {v:bY},cZ env B w c v->cZ env B w (ze id g x c) v
 |[],_,U=>U
 |_::_,_,⟨v,r,e,I,J⟩=>⟨v,r,e,dN.fe he bm I,cZ.fe J⟩
theorem eb.fe:∀ {c:bp} {v:Value},eb env B w c v->eb env B w (c.fe id g x) v
 |.c _,_,U=>dN.fe he bm U
 |.agg _,_,⟨vs,e,I⟩=>⟨vs,e,cZ.fe he bm I⟩
 |.arr _ _,_,h=>h
theorem dO.fe:∀ {c:ej} {v:bY},dO env B w c v->dO env B w (BL id g x c) v
 |[],_,U=>U
 |_::_,_,⟨v,r,e,I,J⟩=>⟨v,r,e,eb.fe he bm I,dO.fe J⟩
theorem e7.fe:∀ {c:b8} {v:Value},e7 env B w c v->e7 env B w (c.fe id g x) v
 |.a _,_,U=>eb.fe he bm U
 |.may _ _,_,U=>⟨λa=>eb.fe he bm (U.1 a),U.2⟩
 |.cY _,_,⟨vs,e,I⟩=>⟨vs,e,dO.fe he bm I⟩
theorem e1.fe{k:Nat}:∀ {a:cC} {c:bo},e1 env B w k a c->e1 env B w k (a.fe id g x) c
 |.cells _ _,_,⟨b',vs,e,U,I⟩=>⟨b',vs,e,U,cZ.fe he bm I⟩
 |.row _ _ _ _,_,h=>h
 |.lj _ _,_,h=>h
 |.mp _ _ _ _,_,h=>h
 |.it _ _ _ _,_,h=>h
 |.h8 _,_,h=>h
 |.lk,_,h=>h
 |.cW _ _ _ _ _ _ _,_,h=>h
 |.lM,_,h=>h
 |.hl _ _ _,_,h=>h
 |.cf _ _ _ _ _ _,_,h=>h
theorem bG.fe:∀ {l:bC} {H:cI},bG env B w l H->∃H',H'.Sublist H/\bG env B w (oZ id g x l) H'
 |[],_,b=>⟨[],by rw[show _=[] from b];exact List.Sublist.refl _,rfl⟩
 |(k,d)::l,_,⟨c,H',e,I,J⟩=>by
  obtain⟨H2,a,ag⟩:=bG.fe J;subst e;unfold oZ
  split
  ·exact⟨H2,a.cons _,ag⟩
  ·exact⟨c::H2,a.cons_cons _,c,H2,rfl,e1.fe he bm I,ag⟩
theorem bG.Ri:∀ {l:bC} {H:cI} {b:cC},bG env B w l H->bj l id=some b->∃c Y Z H',e1 env B w id b c/\H=Y++c::Z/\H'.Sublist (Y++Z)/\bG env B w (oZ id g x l) H'
 |[],_,_,_,h=>by cases h
 |(k,b')::l,H,b,⟨c,H',e,I,J⟩,h=>by
  rw[cX]at h;subst e
  split at h
  ·rename_i e
   subst e;cases h;obtain⟨H2,ag,a⟩:=bG.fe he bm J;refine⟨c,[],H',H2,I,rfl,ag,?_⟩;unfold oZ;rw[beq_refl];exact a
  ·rename_i e
   obtain⟨c',Y,Z,H2,ag,a,f,d⟩:=bG.Ri J h;have aa:beq k id=false:=by
    cases ab:beq k id with
    |false=>rfl
    |true=>exact absurd (eq_of_beq_eq_true ab).symm e
   refine⟨c',c::Y,Z,c::H2,ag,by rw[a];rfl,f.cons_cons _,?_⟩;unfold oZ;rw[aa];exact⟨c,H2,rfl,e1.fe he bm I,d⟩
omit he bm in
theorem Kj:∀ {l:c6} {s:Nat} {v:b8},bj (w0 id g x l) s=some v->∃u,bj l s=some u/\v=u.fe id g x
 |[],_,_,h=>by cases h
 |(k,u)::l,s,v,h=>by
  unfold w0 at h;rw[cX]at h ⊢
  split at h
  ·rename_i e
   cases h;rw[if_pos e];exact⟨u,rfl,rfl⟩
  ·rename_i e
   rw[if_neg e];exact Kj h
end
section
variable {X:bz} {R:Nat->Prop} {W:World} {aD:fk} {n:Nat} {aq:bX} {env:Nat->Loc} {B:Nat->Prop} {ai:World} {H:cI} {st st':aQ} {a:Act} {w:World}
theorem bM.cg(h:bM X R W aD n aq env B ai H st a w){id:Nat}{t:TypeId}{cs:dT}{g:aV}{x:g.D}{c:Bool}(v:bj st.H id=some (.cells t cs))(V:dec g cs=some (c,x,[]))(U:c=true):∃env' B' F H',bM X R W aD n aq env' B' F H' ⟨w0 id g x st.L,oZ id g x st.H⟩ a w:=by
 obtain⟨c0,_,⟨b,vs,he,rfl,O⟩,I⟩:=h.heap.gQ v;have f:gP B ai (λq=>B q\/q=b) w:=⟨λq ao=>.inl ao,λq ao=>h.aT.below.block q (.inr ao)⟩
 obtain⟨ac,aa,o,T,S⟩:=so (O.up f) V U;have E:aa=[]:=S;subst E;rw[append_nil]at o;subst o;have C:At (λq=>B q\/q=b) w g x b 0:=⟨.inr rfl,vs,T,λj u hu=>by rw[zero_add,Jj h.aT I.more];exact hu⟩
 obtain⟨c,Y,Z,H2,⟨b',m,y,rfl,_⟩,J,r,D⟩:=bG.Ri he C (h.heap.up f) v;rw[he]at y;cases y;have A:bo.hN b m t∈H++aq.map dB:=by rw[J];simp
 have z:=(h.aT.ok _ A).lt rfl;have l:=h.aT.apart;rw[J,append_assoc,cons_append]at l;refine⟨env,_,w,H2,h.size,h.defs,λs u hu=>?_,D,?_,λq ao=>.inl (h.sub q ao),λq ao=>?_,h.dP,h.base.trans ⟨h.aT.below.os,h.aT.below.tape,h.aT.below.output,h.aT.below.size,λq ao=>h.aT.below.block q (.inl ao)⟩,λi x an=>(h.eu i x an).up f⟩
 ·obtain⟨P,Q,rfl⟩:=Kj hu
  obtain⟨L,d,b1⟩:=h.has s P Q;exact⟨L,d,e7.fe he C (b1.up f)⟩
 ·have e:bT (λk=>R k\/B k) ai (H2++aq.map dB) w:=by
   have d:=h.aT;rw[J]at d;have ak:(Y++bo.hN b m t::Z++aq.map dB).Perm (bo.hN b m t::(Y++Z++aq.map dB)):=by
    simp only[append_assoc,cons_append];exact List.perm_middle
   exact(d.perm ak).fq (((r.append_right _)).cons _)
  refine⟨ds.refl _ _,λq ao=>?_,λc U=>(e.ok c U).base λq ab c2=>?_,e.apart⟩
  ·rcases ao with ao|ao|ao
   ·exact h.aT.base q (.inl ao)
   ·exact h.aT.base q (.inr ao)
   ·subst ao;exact z.2
  ·rcases c2 with c2|c2|c2
   ·exact((e.ok c U).lt ab).1 (.inl c2)
   ·exact((e.ok c U).lt ab).1 (.inr c2)
   ·subst c2
    have N:c∈Y++(Z++aq.map dB):=by
     rcases List.mem_append.1 U with U|U
     ·have:=r.subset U
      rcases List.mem_append.1 this with b1|b1
      ·exact mem_append_left _ b1
      ·exact mem_append_right _ (mem_append_left _ b1)
     ·exact mem_append_right _ (mem_append_right _ U)
    rw[List.pairwise_append,List.pairwise_cons]at l;obtain⟨_,⟨G,_⟩,M⟩:=l
    rcases List.mem_append.1 N with b1|b1
    ·exact M c b1 _ mem_cons_self q ab rfl
    ·exact G c b1 q rfl ab
 ·rcases ao with ao|ao
  ·exact(h.new q ao).imp_right λp=>⟨p.1,p.2.et (h.aT.below.block q (.inr ao))⟩
  ·subst ao;exact .inr ⟨λK=>z.1 (.inl K),(h.aT.ok _ A).cells rfl rfl⟩
theorem bP.cg(id:Nat)(g:aV){t:TypeId}{cs:dT}{x:g.D}{c:Bool}(b:bj st.H id=some (.cells t cs))(e:dec g cs=some (c,x,[]))(U:c=true):bP X n st ⟨w0 id g x st.L,oZ id g x st.H⟩:=λ_ _ _ _ _ _ ⟨aq,env,B,ai,H,a,ad⟩=>by
 obtain⟨env',B',d,H',h⟩:=ad.cg b e U;exact⟨aq,env',B',d,H',a,h⟩
end
section
variable {X:bz} {M:Bool} {n:Nat} {st:aQ} {Q:Exit->aQ->Prop} {ops:List Oper} {E:bX} {aL:h2} {listed':Array Bool} {fuel d i:Nat} {o:Oper}
theorem Rj{r:Option Nat}{c:Code}{b:aQ}(I:hd X M n r c st (λe s=>e=.normal/\bP X n s b))(J:Q .normal b):hd X M n r c st Q:=λR W aD a w ad=>wpIn_mono (I R W aD a w ad) λe a w ⟨s,⟨he,hw⟩,d⟩=>by
 subst he;exact⟨b,J,hw _ _ _ _ _ _ d⟩
def Rk(X:bz)(M:Bool)(n:Nat)(ops:List Oper)(E:bX)(fuel:Nat)(aL:h2)(st:aQ)(Q:Exit->aQ->Prop)(i:Nat)(o:Oper):Prop:=
 ∀(R:Nat->Prop) (W:World) (aD:fk) (b:Nat->Prop) (c:World) (cN:cI) (F:World->Prop) (aq:bX) (env:Nat->Loc) (B:Nat->Prop) (ai:World) (H:cI) (a:Act) (w:World),Ez M aq aD->bM X R W aD n aq env B ai H st a w->lU R aL b c cN F B ai H ->
  fj X.P ops.toArray o (λaU w'=>((fL E aL.listed i=true->bT (λk=>R k\/b k) c cN w')/\F w')/\ho X.P ops.toArray (λe a w=>e=.normal/\∃st',Q e st'/\mO X R W aD M n st' a w) (λj l w=>(fL E l j=true->bT (λk=>R k\/b k) c cN w)/\F w) fuel (aL.listed.setIfInBounds i true) aU w') a w
theorem abV{st':aQ}(z:Nat)(aC:dV z st=some st')(h:jb X M n ops E fuel ⟨aL.listed,false,aL.pre&&!aL.all,false,aL.all⟩ st' Q):jb X M n ops E fuel aL st Q:=by
 intro R W aD m p cN F aq env B ai H a w j ad e;obtain⟨env',B',o,H',l,g,b,r⟩:=ad.dV aC;refine h R W aD m p cN F aq env' B' o H' a w j l ⟨λh=>(by cases h),λak=>?_,λh=>(by cases h),λw hw=>e.oi w (b.trans ⟨hw.os,hw.tape,hw.output,hw.size,λk aa=>hw.block k (aa.imp id (g k))⟩)⟩;have i:aL.pre=true/\aL.all=false:=by
  have:(aL.pre&&!aL.all)=true:=ak
  simpa using this
 obtain⟨d,g2,f,q⟩:=e.pre i.1;exact⟨λc U=>⟨r c (d c U).1 (by have:=(d c U).2;rw[i.2]at this;exact this),(d c U).2⟩,g2,λk aa=>g k (f k aa),q.trans ⟨b.os,b.tape,b.output,b.size,λk aa=>b.block k (aa.imp id (f k))⟩⟩
theorem Rl(q:bp){j s:Nat}{want b:Bool}(hi:nth ops i=some o)(y:o.guard=some (j,want))(t:nth (eN ops) j=some (some s))(z:bj st.L s=some (.c (.val (.bool b))))(D:o.dst=some d)(az:blt d n=true)(p:(!fL E aL.listed i || aL.pre)=true)(ah:aL.listed.setIfInBounds i true=listed')(I:b=want->Rk X M n ops E fuel aL st Q i { dst:=o.dst,op:=o.op,type:=o.type,pos:=o.pos,after:=o.after,guard:=none })(u:b=!want->jb X M n ops E fuel ⟨listed',false,aL.pre,aL.lq,aL.all⟩ ⟨(d,.may false q)::st.L,st.H⟩ Q):rv X M n ops E fuel aL st Q i:=by
 intro R W aD k m cN F aq env B ai H a w g ad e;refine⟨o,lV hi,?_⟩;obtain⟨O,K,N⟩:=y0 t;have L:(ops.toArray[j]?).bind (·.dst)=some s:=by simp[K,<- N]
 obtain⟨v,J,ag⟩:=ad.has _ _ z;rw[show v=_ from ag]at J;have hw:=oL ad.sym y L (hs J)
 by_cases ab:b=want
 ·have f:=I ab R W aD k m cN F aq env B ai H a w g ad e
  rcases f with⟨_,f⟩|⟨aF,_⟩
  ·exact .inl ⟨by rw[hw];simp[ab],f⟩
  ·simp[Region.wanted]at aF
 ·have C:b=!want:=by cases b<;>cases want<;>simp_all
  have r:dh n (j9 aq aD) ((d,undef)::full a) (a.put o.dst undef):=by rw[D];exact ad.bW.put d undef (dS az)
  have A:=ad.set (sv:=.may false q) ⟨λh=>(by cases h),λ_=>rfl⟩ r;have G:=e.kept (H':=H) (l:=listed') (λ_ c U _=>U);refine .inr ⟨by rw[hw];simp[ab],⟨λhe=>?_,e.F ad⟩,?_⟩
  ·refine e.T ?_ ad
   rw[he]at p;exact p
  ·rw[ah]
   exact u C R W aD k m cN F aq env B ai H _ w g A G
theorem Rm{f:FuncId}{fn:Func}{xs:eA}{fR:Array TypeId}{args oh:ej}{h H1:bC}{u7:b8->bC->Prop}{c pre':Bool}(aB:ev)(cF:AC X f args h u7)(fZ:(!fL E aL.listed i || pre')=true)(Kl:(aL.pre&&aB.isEmpty)=pre')(ah:aL.listed.setIfInBounds i true=listed')(aA:o.op=.call { callee:=.value (.func f),args:=xs.toArray,argTypes:=fR })(bh:o.guard=none/\o.dst=some d)(az:blt d n=true)(gO : X.P.funcs[f]? = some fn)(ba : (fn.name == "runtime.NumGoroutine") = false)(ab : fn.body.isNone = false)(mW : oU X st.L xs = some (c, oh))(U : c = true)(sx : tx aB args = some oh)(jV : wS n aB = true)(lT : iY aB h st.H H1)(dJ:∀sv aR,u7 sv aR->∃ih iZ,sv.dE aB=some ih/\sr aB aR=some iZ/\jb X M n ops E fuel ⟨listed',false,pre',false,aL.all⟩ ⟨(d,ih)::pG (jZ h aB) st.L,iZ++jj (jZ h aB) (jZ h aB) H1⟩ Q):Rk X M n ops E fuel aL st Q i o:=by
 intro R W aD c5 dx cN F aq env B ai H a w bL ad cT;obtain⟨vs,I,J⟩:=u4 ad mW U;have he:∀i j,bj aB i=some j->env j=(λi=>match bj aB i with|some j=>env j|none=>Loc.no) i:=λi j kA=>by simp only[kA]
 obtain⟨e4,ln,ag,ar,aF⟩:=iY.split (env:=λi=>match bj aB i with|some j=>env j|none=>Loc.no) he lT ad.heap;have aj:bT B ai e4 w:=by
  have a7:=(ad.aT.perm (ag.append_right (aq.map dB))).fq (H':=e4) (by rw[append_assoc];exact sublist_append_left _ _);exact⟨⟨a7.below.os,a7.below.tape,a7.below.output,a7.below.size,λk aa=>a7.below.block k (.inr aa)⟩,λk aa=>a7.base k (.inr aa),λc U=>(a7.ok c U).base λb ab aa=>((a7.ok c U).lt ab).1 (.inr aa),a7.apart⟩
 have oV:aB=[]->e4=[]:=λe=>by
  subst e;cases lT with
  |nil=>exact ar
  |cons hi _ _ _=>cases hi
 refine Jk ad.sym aA bh az gO ba ab I (cF B ai _ vs e4 w (λi x an=>ad.eu i x an) ((dO.dE he sx).2 J) ar aj) λv aU w' og aM=>?_
 obtain⟨sv,aR,eU,ru⟩:=ad.called jV ag ar aF og aM;obtain⟨ih,iZ,aE,bb,abW⟩:=dJ sv aR eU;obtain⟨env',B',cG,H',bU,gh,ja,lh⟩:=ru ih iZ aE bb;have fN:lU R ⟨listed',false,pre',false,aL.all⟩ c5 dx cN F B' cG H':=⟨λh=>(by cases h),λh=>by
  have aR:pre'=true:=h;rw[<- Kl,and_eq_true]at aR;have Rn:aB=[]:=by simpa using aR.2
  obtain⟨g1,g2,g3,g4⟩:=cT.pre aR.1;refine⟨λc U=>⟨lh (by rw[Rn];exact Q1 _) c ?_,(g1 c U).2⟩,g2,λk aa=>gh k (g3 k aa),g4.trans ⟨ja.os,ja.tape,ja.output,ja.size,λk aa=>ja.block k (aa.imp id (g3 k))⟩⟩
  have:=ag.mem_iff.1 (g1 c U).1
  rw[oV Rn]at this
  simpa using this,λh=>(by cases h),λw hw=>cT.oi w (ja.trans ⟨hw.os,hw.tape,hw.output,hw.size,λk aa=>hw.block k (aa.imp id (gh k))⟩)⟩
 rw[ah];refine⟨⟨λcn=>fN.T ?_ bU,fN.F bU⟩,abW R W aD c5 dx cN F aq env' B' cG H' aU w' bL bU fN⟩;rw[cn]at fZ;exact fZ
end
end
section
abbrev iK:=Bool->Nat->Option Nat
def sA(bQ:iK):eB->Option eB
 |[]=>some []
 |.id i::r=>match bQ true i,sA bQ r with
  |some j,some l=>some (.id j::l)
  |_,_=>none
 |.fr g x::r=>match sA bQ r with
  |some l=>some (.fr g x::l)
  |none=>none
def bs.dp:bs->iK->bs
 |.ptr i o,bQ=>match bQ true i with
  |some j=>.ptr j o
  |none=>.dead
 |.fg i a k o,bQ=>match bQ false i with
  |some j=>.fg j a k o
  |none=>.dead
 |.aI i,bQ=>match bQ false i with
  |some j=>.aI j
  |none=>.dead
 |.fn f ids,bQ=>match sA bQ ids with
  |some l=>.fn f l
  |none=>.dead
 |.dI i,bQ=>match bQ true i with
  |some j=>.dI j
  |none=>.dead
 |.jR f i,bQ=>match bQ true i with
  |some j=>.jR f j
  |none=>.dead
 |.iF i o,bQ=>match bQ false i with
  |some j=>.iF j o
  |none=>.dead
 |.j7 i,bQ=>match bQ false i with
  |some j=>.j7 j
  |none=>.dead
 |.jS i s o,bQ=>match bQ false i with
  |some j=>.jS j s o
  |none=>.dead
 |.iV b i,bQ=>match bQ true i with
  |some j=>.iV b j
  |none=>.dead
 |c,_=>c
def vb(bQ:iK):dT->dT
 |[]=>[]
 |c::r=>c.dp bQ::vb bQ r
def bp.dp:bp->iK->bp
 |.c x,bQ=>.c (x.dp bQ)
 |.agg cs,bQ=>.agg (vb bQ cs)
 |.arr g l,_=>.arr g l
def w2(bQ:iK):ej->ej
 |[]=>[]
 |c::r=>c.dp bQ::w2 bQ r
def b8.dp:b8->iK->b8
 |.a x,bQ=>.a (x.dp bQ)
 |.may g x,bQ=>.may g (x.dp bQ)
 |.cY xs,bQ=>.cY (w2 bQ xs)
def gC(bQ:iK):c6->c6
 |[]=>[]
 |(k,v)::r=>(k,v.dp bQ)::gC bQ r
def cC.dp:cC->iK->cC
 |.cells t cs,bQ=>.cells t (vb bQ cs)
 |.it a h k aB,bQ=>match bQ true a with
  |some j=>.it j h k aB
  |none=>.lk
 |.h8 a,bQ=>match bQ true a with
  |some j=>.h8 j
  |none=>.lk
 |.cW f t g l c i d,bQ=>match bQ false d with
  |some j=>.cW f t g l c i j
  |none=>.lM
 |.cf t e g l c (some (i,some d)),bQ=>match bQ false d with
  |some j=>.cf t e g l c (some (i,some j))
  |none=>.cf t e g l c (some (i,none))
 |b,_=>b
def cC.qw:cC->Bool
 |.row _ _ _ _=>false
 |.cW _ _ _ _ _ _ _=>false
 |.lM=>false
 |.hl _ _ _=>false
 |.cf _ _ _ _ _ _=>false
 |_=>true
def pP(bQ:iK):bC->bC
 |[]=>[]
 |(k,b)::r=>match bQ b.qw k with
  |some j=>(j,b.dp bQ)::pP bQ r
  |none=>pP bQ r
structure Km(bQ:iK)(env env':Nat->Loc):Prop where
 blk:∀k j b,bQ true k=some j->env k=.blk b->env' j=.blk b
 row:∀k j A c n,bQ false k=some j->env k=.row A c n->env' j=.row A c n
section
variable {bQ:iK} {env env':Nat->Loc} {B:Nat->Prop} {w:World} (he:Km bQ env env')
include he
theorem fF.dp:∀ {ids l:eB} {vs:bY},sA bQ ids=some l->fF env B w ids vs->fF env' B w l vs
 |[],l,vs,h,c=>by cases h;exact c
 |.id i::ids,l,vs,h,⟨v,r,e,⟨b,J,d⟩,ag⟩=>by
  simp only[sA]at h
  split at h
  ·rename_i j r hi a
   cases h;exact⟨v,_,e,⟨b,he.blk i j b hi J,d⟩,fF.dp a ag⟩
  ·cases h
 |.fr g x::ids,l,vs,h,⟨v,r,e,J,ag⟩=>by
  simp only[sA]at h
  split at h
  ·rename_i r a
   cases h;exact⟨v,_,e,J,fF.dp a ag⟩
  ·cases h
theorem dN.dp:∀ {c:bs} {v:Value},dN env B w c v->dN env' B w (c.dp bQ) v
 |.val _,_,U=>U
 |.str _,_,U=>U
 |.dead,_,U=>U
 |.ptr i o,v,U=>by
  simp only[bs.dp]
  split
  ·rename_i j h
   obtain⟨b,e,a⟩:=U;exact⟨b,he.blk i j b h e,a⟩
  ·trivial
 |.fg i d j o,v,U=>by
  simp only[bs.dp]
  split
  ·rename_i j h
   obtain⟨b,c,n,e,a⟩:=U;exact⟨b,c,n,he.row i j _ _ _ h e,a⟩
  ·trivial
 |.iV b i,v,U=>by
  simp only[bs.dp]
  split
  ·rename_i j h
   obtain⟨k,e,a⟩:=U;exact⟨k,λab=>he.blk i j k h (e ab),a⟩
  ·trivial
 |.j7 i,v,U=>by
  simp only[bs.dp]
  split
  ·rename_i j h
   obtain⟨b,c,n,e,a⟩:=U;exact⟨b,c,n,he.row i j _ _ _ h e,a⟩
  ·trivial
 |.jS i s o,v,U=>by
  simp only[bs.dp]
  split
  ·rename_i j h
   obtain⟨b,c,n,e,a⟩:=U;exact⟨b,c,n,he.row i j _ _ _ h e,a⟩
  ·trivial
 |.iF i o,v,U=>by
  simp only[bs.dp]
  split
  ·rename_i j h
   obtain⟨b,c,n,e,a⟩:=U;exact⟨b,c,n,he.row i j _ _ _ h e,a⟩
  ·trivial
 |.gb _ _ _,_,U=>U
 |.par _ _,_,U=>U
 |.aI i,v,U=>by
  simp only[bs.dp]
  split
  ·rename_i j h
   obtain⟨A,c,n,e,a⟩:=U;exact⟨A,c,n,he.row i j _ _ _ h e,a⟩
  ·trivial
 |.bJ _ _ _,_,U=>U
 |.fn f ids,v,U=>by
  simp only[bs.dp]
  split
  ·rename_i l h
   obtain⟨vs,a,ak⟩:=U;exact⟨vs,a,fF.dp he h ak⟩
  ·trivial
 |.dI i,v,U=>by
  simp only[bs.dp]
  split
  ·rename_i j h
   obtain⟨b,e,a⟩:=U;exact⟨b,he.blk i j b h e,a⟩
  ·trivial
 |.jR f i,v,U=>by
  simp only[bs.dp]
  split
  ·rename_i j h
   obtain⟨b,e,a⟩:=U;exact⟨b,he.blk i j b h e,a⟩
  ·trivial
theorem cZ.dp:∀ {c:dT} {v:bY},cZ env B w c v->cZ env' B w (vb bQ c) v
 |[],_,U=>U
 |_::_,_,⟨v,r,e,I,J⟩=>⟨v,r,e,dN.dp he I,cZ.dp J⟩
theorem eb.dp:∀ {c:bp} {v:Value},eb env B w c v->eb env' B w (c.dp bQ) v
 |.c _,_,U=>dN.dp he U
 |.agg _,_,⟨vs,e,I⟩=>⟨vs,e,cZ.dp he I⟩
 |.arr _ _,_,h=>h
theorem dO.dp:∀ {c:ej} {v:bY},dO env B w c v->dO env' B w (w2 bQ c) v
 |[],_,U=>U
 |_::_,_,⟨v,r,e,I,J⟩=>⟨v,r,e,eb.dp he I,dO.dp J⟩
theorem e7.dp:∀ {c:b8} {v:Value},e7 env B w c v->e7 env' B w (c.dp bQ) v
 |.a _,_,U=>eb.dp he U
 |.may _ _,_,U=>⟨λa=>eb.dp he (U.1 a),U.2⟩
 |.cY _,_,⟨vs,e,I⟩=>⟨vs,e,dO.dp he I⟩
theorem e1.dp{k j:Nat}:∀ {b:cC} {c:bo},bQ b.qw k=some j->e1 env B w k b c->e1 env' B w j (b.dp bQ) c
 |.cells _ _,_,h,⟨b,vs,e,U,I⟩=>⟨b,vs,he.blk k j b h e,U,cZ.dp he I⟩
 |.row _ _ _ _,_,h,⟨A,c,xs,e,U,I⟩=>⟨A,c,xs,he.row k j _ _ _ h e,U,I⟩
 |.lj _ _,_,h,⟨b,e,U⟩=>⟨b,he.blk k j b h e,U⟩
 |.mp _ _ _ _,_,h,⟨b,F,q,e,U⟩=>⟨b,F,q,he.blk k j b h e,U⟩
 |.it y _ _ _,_,h,⟨b,m,e,z,U⟩=>by
  simp only[cC.dp]
  split
  ·rename_i f a
   exact⟨b,m,he.blk k j b h e,he.blk y f m a z,U⟩
  ·exact⟨b,_,he.blk k j b h e,U⟩
 |.h8 y,_,h,⟨b,m,q,e,z,U⟩=>by
  simp only[cC.dp]
  split
  ·rename_i f a
   exact⟨b,m,q,he.blk k j b h e,he.blk y f m a z,U⟩
  ·exact⟨b,_,he.blk k j b h e,U⟩
 |.lk,_,h,⟨b,o,e,U⟩=>⟨b,o,he.blk k j b h e,U⟩
 |.cW G t g l cap i d,_,h,⟨A,c,ys,u,c',m,e,U,I,hi,J,ag⟩=>by
  simp only[cC.dp]
  split
  ·rename_i f a
   exact⟨A,c,ys,u,c',m,he.row k j _ _ _ h e,U,I,hi,he.row d f _ _ _ a J,ag⟩
  ·exact⟨A,c,_,_,_,_,_,he.row k j _ _ _ h e,U⟩
 |.lM,_,h,⟨A,c,n,t,s,m,xs,e,U⟩=>⟨A,c,n,t,s,m,xs,he.row k j _ _ _ h e,U⟩
 |.hl _ _ _,_,h,⟨A,c,e,I⟩=>⟨A,c,he.row k j _ _ _ h e,I⟩
 |.cf _ _ _ _ _ none,_,h,⟨A,q,ys,p,a6,e,U,I,J,ag⟩=>⟨A,q,ys,p,a6,he.row k j _ _ _ h e,U,I,J,ag⟩
 |.cf _ _ _ _ _ (some (i,none)),_,h,⟨A,q,ys,p,a6,e,U,I,⟨J,v,r,_⟩,ag⟩=>⟨A,q,ys,p,a6,he.row k j _ _ _ h e,U,I,⟨J,v,r,λ_ h=>by cases h⟩,ag⟩
 |.cf _ _ _ _ _ (some (i,some d)),_,h,⟨A,q,ys,p,a6,e,U,I,⟨J,v,r,D⟩,ag⟩=>by
  simp only[cC.dp]
  split
  ·rename_i f a
   obtain⟨u,c',m,C,E⟩:=D d rfl;exact⟨A,q,ys,p,a6,he.row k j _ _ _ h e,U,I,⟨J,v,r,λH az=>by cases az;exact⟨u,c',m,he.row d f _ _ _ a C,E⟩⟩,ag⟩
  ·exact⟨A,q,ys,p,a6,he.row k j _ _ _ h e,U,I,⟨J,v,r,λ_ h=>by cases h⟩,ag⟩
theorem bG.dp:∀ {l:bC} {H:cI},bG env B w l H->∃H',H'.Sublist H/\bG env' B w (pP bQ l) H'
 |[],_,d=>⟨[],by rw[show _=[] from d];exact List.Sublist.refl _,rfl⟩
 |(k,b)::l,_,⟨c,H',e,I,J⟩=>by
  obtain⟨H2,a,ag⟩:=bG.dp J;subst e;unfold pP
  split
  ·rename_i j h
   exact⟨c::H2,a.cons_cons _,c,H2,rfl,e1.dp he h I,ag⟩
  ·exact⟨H2,a.cons _,ag⟩
omit he in
theorem w3:∀ {l:c6} {s:Nat} {v:b8},bj (gC bQ l) s=some v->∃u,bj l s=some u/\v=u.dp bQ
 |[],_,_,h=>by cases h
 |(k,u)::l,s,v,h=>by
  unfold gC at h;rw[cX]at h ⊢
  split at h
  ·rename_i e
   cases h;rw[if_pos e];exact⟨u,rfl,rfl⟩
  ·rename_i e
   rw[if_neg e];exact w3 h
end
def kC(i j:Nat):iK:=λ_ k=>match beq k i with
 |true=>some j
 |false=>match beq k j with
  |true=>none
  |false=>some k
theorem E9{i j:Nat}{env:Nat->Loc}:Km (kC i j) env (lP env j (env i)):=by
 have key:∀b k k',kC i j b k=some k'->lP env j (env i) k'=env k:=by
  intro b k k' h;unfold kC at h
  split at h
  ·rename_i ab
   cases h
   have:=eq_of_beq_eq_true ab
   subst this;exact fx
  ·split at h
   ·cases h
   ·rename_i ab
    cases h;exact ku _ (λe=>by subst e;rw[beq_refl]at ab;cases ab)
 exact⟨λk a b h e=>by rw[key _ _ _ h];exact e,λk a A c n h e=>by rw[key _ _ _ h];exact e⟩
end
section
def hH(n:Nat):iK:=λb k=>match b with
 |true=>match ble n k with
  |true=>some k
  |false=>none
 |false=>match ble iG k with
  |true=>some k
  |false=>none
theorem Ro{n:Nat}{env env':Nat->Loc}(h:∀id l,n<=id->env id=l->((∃b,l=.blk b)\/iG<=id)->env' id=l)(ba:n<=iG):Km (hH n) env env':=by
 refine⟨λk j b aa e=>?_,λk j A c m aa e=>?_⟩
 ·simp only[hH]at aa
  split at aa
  ·rename_i ab
   cases aa;exact h _ _ (le_of_ble_eq_true ab) e (.inl ⟨b,rfl⟩)
  ·cases aa
 ·simp only[hH]at aa
  split at aa
  ·rename_i ab
   cases aa
   have:=le_of_ble_eq_true ab
   exact h _ _ (le_trans ba this) e (.inr this)
  ·cases aa
def tG:eB->Bool
 |[]=>true
 |.id _::_=>false
 |.fr _ _::r=>tG r
section
variable {env env':Nat->Loc} {B:Nat->Prop} {w:World}
theorem fF.Kn:∀ {cs:eB} {vs:bY},tG cs=true->fF env B w cs vs->fF env' B w cs vs
 |[],_,_,h=>h
 |.id _::_,_,h,_=>by cases h
 |.fr _ _::_,_,h,⟨v,r,e,I,J⟩=>⟨v,r,e,I,fF.Kn (by simpa [tG] using h) J⟩
theorem fF.any:∀ {cs:eB} {vs:bY},fF (λ_=>.no) B w cs vs->fF env B w cs vs
 |[],_,h=>h
 |.id _::_,_,⟨v,r,e,⟨b,I,_⟩,J⟩=>by cases I
 |.fr _ _::_,_,⟨v,r,e,I,J⟩=>⟨v,r,e,I,fF.any J⟩
theorem dN.any:∀ {c:bs} {v:Value},dN (λ_=>.no) B w c v->dN env B w c v
 |.val _,_,U=>U
 |.str _,_,U=>U
 |.dead,_,U=>U
 |.ptr _ _,_,⟨b,h,_⟩=>by cases h
 |.fg _ _ _ _,_,⟨_,_,_,h,_⟩=>by cases h
 |.gb _ _ _,_,U=>U
 |.par _ _,_,U=>U
 |.aI _,_,⟨_,_,_,h,_⟩=>by cases h
 |.bJ _ _ _,_,U=>U
 |.fn _ _,_,⟨vs,I,J⟩=>⟨vs,I,fF.any J⟩
 |.dI _,_,⟨_,h,_⟩=>by cases h
 |.jR _ _,_,⟨_,h,_⟩=>by cases h
 |.iF _ _,_,⟨_,_,_,h,_⟩=>by cases h
 |.jS _ _ _,_,⟨_,_,_,h,_⟩=>by cases h
 |.j7 _,_,⟨_,_,_,h,_⟩=>by cases h
 |.iV true _,_,⟨_,h,_⟩=>by cases h rfl
 |.iV false _,_,⟨k,_,h⟩=>⟨k,λh=>(by cases h),h⟩
theorem cZ.any:∀ {c:dT} {v:bY},cZ (λ_=>.no) B w c v->cZ env B w c v
 |[],_,U=>U
 |_::_,_,⟨v,r,e,I,J⟩=>⟨v,r,e,I.any,J.any⟩
theorem eb.any:∀ {c:bp} {v:Value},eb (λ_=>.no) B w c v->eb env B w c v
 |.c _,_,U=>dN.any U
 |.agg _,_,⟨vs,e,I⟩=>⟨vs,e,I.any⟩
 |.arr _ _,_,h=>h
theorem dO.any:∀ {c:ej} {v:bY},dO (λ_=>.no) B w c v->dO env B w c v
 |[],_,U=>U
 |_::_,_,⟨v,r,e,I,J⟩=>⟨v,r,e,I.any,J.any⟩
end
structure Has(n:Nat)(env:Nat->Loc)(B:Nat->Prop)(w:World)(L:c6)(tmps:Array Value):Prop where
 size:tmps.size=n
 has:∀s sv,bj L s=some sv->∃v,tmps[s]?=some v/\e7 env B w sv v
def vc:bX->ej->c6->c6
 |p::aB,x::xs,L=>vc aB xs ((p,.a x)::L)
 |_,_,L=>L
def tH:List (Nat×Nat)->c6->c6
 |[],L=>L
 |(d,s)::r,L=>match bj L s with
  |some v=>tH r ((d,v)::L)
  |none=>tH r ((d,.a (.c .dead))::L)
def tI:List (Nat×Nat)->Array Value->Array Value
 |[],t=>t
 |(d,s)::r,t=>tI r (t.setIfInBounds d (t.getD s undef))
def nJ(n:Nat):bX->Bool
 |[]=>true
 |p::r=>blt p n&&nJ n r
section
variable {n:Nat} {env:Nat->Loc} {B:Nat->Prop} {w:World} {L:c6} {tmps:Array Value}
theorem Has.set(h:Has n env B w L tmps){d:Nat}(az:d<n){sv:b8}{v:Value}(a:e7 env B w sv v):Has n env B w ((d,sv)::L) (tmps.setIfInBounds d v):=by
 refine⟨by simpa using h.size,λs u hu=>?_⟩;rw[cX]at hu
 split at hu
 ·rename_i e
  subst e;cases hu;exact⟨v,by rw[Array.getElem?_setIfInBounds_self_of_lt (by rw[h.size];exact az)],a⟩
 ·rename_i e
  obtain⟨c,I,J⟩:=h.has s u hu;exact⟨c,by rw[Array.getElem?_setIfInBounds_ne (λb=>e b.symm)];exact I,J⟩
theorem Has.par:∀ {aB:bX} {xs:ej} {vs:bY} {L:c6} {tmps:Array Value},Has n env B w L tmps->nJ n aB=true->dO env B w xs vs->Has n env B w (vc aB xs L) ((aB.zip vs).foldl (λt (p,v)=>t.setIfInBounds p v) tmps)
 |[],_,_,_,_,h,_,_=>by cases ‹ej›<;>exact h
 |_::_,[],_,_,_,h,_,an=>by rw[show _=[] from an];exact h
 |p::aB,x::xs,_,L,tmps,h,ak,⟨v,r,e,I,J⟩=>by
  subst e;simp only[nJ,and_eq_true]at ak;exact Has.par (xs:=xs) (vs:=r) (L:=(p,.a x)::L) (tmps:=tmps.setIfInBounds p v) (h.set (dS ak.1) (sv:=.a x) I) ak.2 J
theorem Has.di:∀ {ms:List (Nat×Nat)} {L:c6} {tmps:Array Value},Has n env B w L tmps->nJ n (ms.map (·.1))=true->Has n env B w (tH ms L) (tI ms tmps)
 |[],_,_,h,_=>h
 |(d,s)::r,L,tmps,h,ak=>by
  simp only[map_cons,nJ,and_eq_true]at ak;unfold tH tI
  split
  ·rename_i v a
   obtain⟨u,I,J⟩:=h.has s v a;refine Has.di (h.set (dS ak.1) ?_) ak.2;rw[Array.getD_eq_getD_getElem?,I];exact J
  ·exact Has.di (h.set (dS ak.1) trivial) ak.2
end
def zf(n:Nat):List Oper->Option (List (Nat×Nat))
 |[]=>some []
 |o::r=>match o.guard,o.dst,o.op,zf n r with
  |none,some d,.assign (.tmp s),some l=>some ((d,s)::l)
  |none,some d,.move (.tmp s),some l=>some ((d,s)::l)
  |_,_,_,_=>none
inductive mX(n:Nat):Code->List (Nat×Nat)->Prop where
 |region {id:Nat} {ops:List Oper} {ms:List (Nat×Nat)} (h:zf n ops=some ms):mX n (.region id ops.toArray false) ms
 |skip:mX n .skip []
 |seq {a b:Code} {m1 m2:List (Nat×Nat)} (I:mX n a m1) (J:mX n b m2):mX n (.seq a b) (m1++m2)
theorem Rp:∀(a b:List (Nat×Nat)) (t:Array Value),tI (a++b) t=tI b (tI a t)
 |[],_,_=>rfl
 |(d,s)::a,b,t=>Rp a b (t.setIfInBounds d (t.getD s undef))
theorem Rq{P:Program}{n l:Nat}{ops:Array Oper}{Q:Exit->Act->World->Prop}{w:World}:∀ {os:List Oper} {ms:List (Nat×Nat)} {a:Act},zf n os=some ms->Q .normal { a with tmps:=tI ms a.tmps } w->tk (some l) P ops Q os a w
 |[],ms,a,h,c=>by cases h;exact Jc c
 |o::os,ms,a,h,c=>by
  have key:∀d s,o.guard=none->o.dst=some d->(o.op=.assign (.tmp s)\/o.op=.move (.tmp s))->∀l',zf n os=some l'->ms=(d,s)::l'->tk (some l) P ops Q (o::os) a w:=by
   intro d s b az aA l' ah e;subst e;refine nu (.inl ⟨by simp[Region.wanted,b],.inl ⟨a.eval (.tmp s),w,?_,Rq ah ?_⟩⟩)
   ·rcases aA with aA|aA<;>simp[execOp,aA]
   ·rw[az]
    exact c
  unfold zf at h
  split at h
  ·rename_i d s l' b az aA ah
   cases h;exact key d s b az (.inl aA) l' ah rfl
  ·rename_i d s l' b az aA ah
   cases h;exact key d s b az (.inr aA) l' ah rfl
  ·cases h
theorem mX.ok{P:Program}{n l:Nat}{c:Code}{ms:List (Nat×Nat)}{w:World}(h:mX n c ms):∀ {Q:Exit->Act->World->Prop} {a:Act},Q .normal { a with tmps:=tI ms a.tmps } w->mg (some l) P c Q a w:=by
 induction h with
 |region h=>exact λb=>Jl (Rq h b)
 |skip=>exact λb=>PS b
 |seq I J d e=>exact λb=>Z6 λK f=>d (f _ _ (e (by rw[Rp]at b;exact b)))
end
section
def Rr:Exit->Option Code
 |.ret=>some .ret
 |.exit id=>some (.exit id)
 |_=>none
def Fa:Exit->Bool
 |.normal=>true
 |.ret=>true
 |.exit _=>true
 |_=>false
section
variable {X:bz} {R:Nat->Prop} {W:World} {aD:fk} {n:Nat} {aq:bX} {env:Nat->Loc} {B:Nat->Prop} {ai:World} {H:cI} {st:aQ} {a:Act} {w:World}
def o0(n:Nat)(env:Nat->Loc):Nat->Loc->Prop:=λid l=>n<=id/\env id=l/\((∃b,l=.blk b)\/iG<=id)
theorem bM.Rs(h:bM X R W aD n aq env B ai H st a w):bM X (λk=>R k\/B k) w ⟨B,o0 n env,aD.d⟩ n aq env B w H st a w:=by
 have d:gP B ai B w:=⟨λ_ h=>h,λk aa=>h.aT.below.block k (.inr aa)⟩
 refine⟨h.size,h.defs,λs sv e=>?_,h.heap.up d,?_,λ_ h=>h,λ_ h=>.inl h,λ_ _ h=>h,ds.refl _ _,λi x an=>(h.eu i x an).up d⟩
 ·obtain⟨v,I,J⟩:=h.has s sv e
  exact⟨v,I,J.up d⟩
 ·exact⟨ds.refl _ _,λk aa=>h.aT.base k (aa.elim (λh=>h) .inr),λc U=>(h.aT.ok c U).base λb ab aa=>((h.aT.ok c U).lt ab).1 (aa.elim (λh=>h) .inr),h.aT.apart⟩
theorem bM.abX{env':Nat->Loc}{B':Nat->Prop}{e:World}{H':cI}{st':aQ}{aU:Act}{w':World}{f:bX}(h:bM X R W aD n aq env B ai H st a w)(d:bM X (λk=>R k\/B k) w ⟨B,o0 n env,aD.d⟩ n f env' B' e H' st' aU w'):bM X R W aD n f env' B' e H' st' aU w':=by
 refine⟨d.size,d.defs,d.has,d.heap,?_,λk aa=>d.sub k (h.sub k aa),λk aa=>?_,λid l ak=>?_,?_,d.eu⟩
 ·exact⟨⟨d.aT.below.os,d.aT.below.tape,d.aT.below.output,d.aT.below.size,λk aa=>d.aT.below.block k (aa.imp .inl id)⟩,λk aa=>d.aT.base k (aa.imp .inl id),λc U=>(d.aT.ok c U).base λb ab aa=>((d.aT.ok c U).lt ab).1 (aa.imp .inl id),d.aT.apart⟩
 ·have j:∀q,B q->e.heap[q]?=ai.heap[q]?:=λq g=>(d.base.block q (.inr g)).trans (h.aT.below.block q (.inr g))
  rcases d.new k aa with I|I
  ·exact(h.new k I).imp_right λJ=>⟨J.1,J.2.et (j k I)⟩
  ·exact .inr ⟨λi=>I.1 (.inl i),I.2⟩
 ·obtain⟨I,J,ag⟩:=h.dP id l ak
  exact⟨I,(d.dP id l ⟨I,J,ag⟩).2.1,ag⟩
 ·exact h.base.trans ⟨h.aT.below.os.symm ▸ d.base.os,h.aT.below.tape ▸ d.base.tape,h.aT.below.output ▸ d.base.output,le_trans h.aT.below.size d.base.size,λk aa=>(d.base.block k (.inl aa)).trans (h.aT.below.block k (.inl aa))⟩
theorem bM.round(h:bM X R W aD n aq env B ai H st a w){ea:c6}{t:Array Value}(dH:Has n env B w ea t):bM X (hc w H) w ⟨B,o0 n env,[]⟩ n [] env B w H ⟨ea,st.H⟩ { tmps:=t,defers:=[] } w:=by
 have e:gP B ai B w:=⟨λ_ h=>h,λk aa=>h.aT.below.block k (.inr aa)⟩
 have d:=h.aT.fq (sublist_append_left _ _);refine⟨dH.size,rfl,dH.has,h.heap.up e,?_,λ_ h=>h,λ_ h=>.inl h,λ_ _ h=>h,ds.refl _ _,λi x an=>(h.eu i x an).up e⟩;have I:=d.rest;simp only[map_nil,append_nil];exact⟨ds.refl _ _,λk aa=>aa.elim (λh=>h.1) (λh=>d.base k (.inr h)),λc U=>(I.ok c U).base λb ab aa=>aa.elim (λh=>((I.ok c U).lt ab).1 h) (λh=>((d.ok c U).lt ab).1 (.inr h)),I.apart⟩
theorem bM.abY{env':Nat->Loc}{B':Nat->Prop}{j:World}{H':cI}{st':aQ}{aU:Act}{w':World}(h:bM X R W aD n aq env B ai H st a w)(f:bM X (hc w H) w ⟨B,o0 n env,[]⟩ n [] env' B' j H' st' aU w'){L:c6}(dH:∀s sv,bj L s=some sv->∃v,a.tmps[s]?=some v/\e7 env' B' j sv v):bM X R W aD n aq env' B' j H' ⟨L,st'.H⟩ a w':=by
 have o:=h.aT.fq (sublist_append_left _ _);have g:∀k,R k\/B k->hc w H k:=λk aa=>⟨o.base k aa,λc U e=>((o.ok c U).lt e).1 aa⟩
 have p:gP B ai B' j:=⟨f.sub,λk aa=>(f.base.block k (g k (.inr aa))).trans (h.aT.below.block k (.inr aa))⟩
 have d:=f.aT;simp only[map_nil,append_nil]at d;have aC:bT (hc w H) w H' w':=⟨f.base.trans ⟨d.below.os,d.below.tape,d.below.output,d.below.size,λk aa=>d.below.block k (.inl aa)⟩,λk aa=>d.base k (.inl aa),λc U=>(d.ok c U).base λb ab aa=>((d.ok c U).lt ab).1 (.inl aa),d.apart⟩
 have m:=h.aT.frame aC;have t:=List.pairwise_append.1 h.aT.apart;refine⟨h.size,h.defs,dH,f.heap,⟨⟨d.below.os,d.below.tape,d.below.output,d.below.size,λk aa=>d.below.block k (aa.imp (λh=>g k (.inl h)) id)⟩,λk aa=>d.base k (aa.imp (λh=>g k (.inl h)) id),λc U=>(m.ok c U).base λb ab aa=>?_,m.apart⟩,λk aa=>f.sub k (h.sub k aa),λk aa=>?_,λid l ak=>?_,?_,λi x an=>(h.eu i x an).up p⟩
 ·rcases aa with aa|aa
  ·exact((m.ok c U).lt ab).1 (.inl aa)
  ·rcases List.mem_append.1 U with eh|eh
   ·exact((d.ok c eh).lt ab).1 (.inr aa)
   ·rcases f.new b aa with I|I
    ·exact((m.ok c U).lt ab).1 (.inr I)
    ·exact I.1 ⟨((h.aT.ok c (mem_append_right _ eh)).lt ab).2,λc' q e=>t.2.2 c' q c eh b e ab⟩
 ·rcases f.new k aa with I|I
  ·exact(h.new k I).imp_right λJ=>⟨J.1,J.2.et (p.2 k I)⟩
  ·exact .inr ⟨λr=>I.1 (g k (.inl r)),I.2⟩
 ·obtain⟨I,J,ag⟩:=h.dP id l ak
  exact⟨I,(f.dP id l ⟨I,J,ag⟩).2.1,ag⟩
 ·exact h.base.trans ⟨f.base.os.trans h.aT.below.os,f.base.tape.trans h.aT.below.tape,f.base.output.trans h.aT.below.output,le_trans h.aT.below.size f.base.size,λk aa=>(f.base.block k (g k (.inl aa))).trans (h.aT.below.block k (.inl aa))⟩
end
end
section
section
variable {X:bz} {R:Nat->Prop} {W:World} {aD:fk} {n:Nat} {aq:bX} {B:Nat->Prop} {ai:World} {r:Option Nat} {ops:List Oper} {Q:Exit->Act->World->Prop}
end
section
variable {X:bz} {B:Nat->Prop} {n:Nat} {L ea:c6} {b6:World} {a:Act} {w:World} {Q:Exit->Act->World->Prop}
theorem Ru{D:List Deferred}{M:List (Nat×Value)}(b:dh n D M a){us:eA}{vs:bY}(h:jO M us=some vs):us.toArray.map a.eval=vs.toArray:=by
 have:=b.jO h
 simp[this]
end
end
section
def zg(id:Nat):Nat->dT->dT
 |0,.val (.slice none 0 0)::r=>.aI id::r
 |p+1,c::r=>c::zg id p r
 |_,cs=>cs
def kD(k p id:Nat):bC->bC
 |[]=>[]
 |(j,.cells t cs)::r=>match beq j k with
  |true=>(j,.cells t (zg id p cs))::r
  |false=>(j,.cells t cs)::kD k p id r
 |b::r=>b::kD k p id r
section
variable {env:Nat->Loc} {B:Nat->Prop} {w:World} {id:Nat} (he:env id=.row none 0 0)
include he
theorem cZ.zg:∀ {p:Nat} {cs:dT} {vs:bY},cZ env B w cs vs->cZ env B w (zg id p cs) vs:=by
 intro p
 induction p with
 |zero=>
  intro cs vs h;unfold Go.Proofs.YtijeenjclhajhaaGreatDoor.zg
  split
  ·obtain⟨v,r,e,I,J⟩:=h
   exact⟨v,r,e,⟨none,0,0,he,I⟩,J⟩
  ·omega
  ·exact h
 |succ p a=>
  intro cs vs h;cases cs with
  |nil=>exact h
  |cons c r=>
   obtain⟨v,q,e,I,J⟩:=h;exact⟨v,q,e,I,a J⟩
theorem bG.kD{k p:Nat}:∀ {l:bC} {H:cI},bG env B w l H->bG env B w (kD k p id l) H
 |[],_,h=>h
 |(j,.cells t cs)::r,_,⟨c,H',e,I,J⟩=>by
  unfold Go.Proofs.YtijeenjclhajhaaGreatDoor.kD
  split
  ·obtain⟨b,vs,ag,d,a⟩:=I
   exact⟨c,H',e,⟨b,vs,ag,d,cZ.zg he a⟩,J⟩
  ·exact⟨c,H',e,I,bG.kD J⟩
 |(j,.row _ _ _ _)::r,_,⟨c,H',e,I,J⟩=>⟨c,H',e,I,bG.kD J⟩
 |(j,.lj _ _)::r,_,⟨c,H',e,I,J⟩=>⟨c,H',e,I,bG.kD J⟩
 |(j,.mp _ _ _ _)::r,_,⟨c,H',e,I,J⟩=>⟨c,H',e,I,bG.kD J⟩
 |(j,.it _ _ _ _)::r,_,⟨c,H',e,I,J⟩=>⟨c,H',e,I,bG.kD J⟩
 |(j,.h8 _)::r,_,⟨c,H',e,I,J⟩=>⟨c,H',e,I,bG.kD J⟩
 |(j,.lk)::r,_,⟨c,H',e,I,J⟩=>⟨c,H',e,I,bG.kD J⟩
 |(j,.cW _ _ _ _ _ _ _)::r,_,⟨c,H',e,I,J⟩=>⟨c,H',e,I,bG.kD J⟩
 |(j,.lM)::r,_,⟨c,H',e,I,J⟩=>⟨c,H',e,I,bG.kD J⟩
 |(j,.hl _ _ _)::r,_,⟨c,H',e,I,J⟩=>⟨c,H',e,I,bG.kD J⟩
 |(j,.cf _ _ _ _ _ _)::r,_,⟨c,H',e,I,J⟩=>⟨c,H',e,I,bG.kD J⟩
end
theorem bP.tJ{X:bz}{n:Nat}{st:aQ}(k p id:Nat)(t:TypeId)(g:aV)(hid:blt id n=true):bP X n st ⟨gu id .dead st.L,(id,.row t g [] none)::kD k p id (eE id .dead st.H)⟩:=λR W aD M a w ⟨aq,env,B,ai,H,e,h⟩=>by
 obtain⟨H2,I,J⟩:=h.heap.del (z:=.dead) (ku) (λ_ _=>trivial);refine⟨aq,lP env id (.row none 0 0),B,ai,.row none 0 t g.size 0 []::H2,e,h.size,h.defs,λq u hu=>?_,⟨_,H2,rfl,⟨none,0,[],fx,rfl,rfl,λ_ c=>by cases c⟩,bG.kD fx J⟩,(h.aT.uP t g.size).fq ((I.append_right _).cons_cons _),h.sub,h.new,wM h.dP (λq ak=>by have I:=(h.dP _ _ ak).1;have J:=dS hid;omega),h.base,h.eu⟩;obtain⟨i,j,rfl⟩:=rf hu;obtain⟨f,b,d⟩:=h.has q i j;exact⟨f,b,e7.sub (z:=.dead) ku (λ_ _=>trivial) d⟩
end
theorem AC.Rv{X:bz}{f:FuncId}{args:ej}{sv:b8}{v0:Value}(j:∀env B w,e7 env B w sv v0)(g:∀(env:Nat->Loc) (B:Nat->Prop) (ai:World) (vs:bY) (W:World),y2 X B W->dO env B W args vs->(∀k,B k->k<W.heap.size)->q8 X.P f vs.toArray W (λv w'=>v=v0/\Below W.heap.size W w')):AC X f args [] (λs h=>s=sv/\h=[]):=by
 intro B ai env vs H W c bm d a;have e:=d;have b:gP B ai B W:=⟨λ_ h=>h,a.below.block⟩
 refine(g env B ai vs W (λi x an=>(c i x an).up b) (bm.up b) a.base).mono ?_;rintro v w' ⟨rfl,ab⟩;refine⟨env,B,W,[],sv,[],⟨rfl,rfl⟩,λ_ h=>h,λ_ h=>.inl h,ds.refl _ _,j _ _ _,rfl,⟨⟨ab.os,ab.tape,ab.output,ab.size,λk aa=>ab.block k (aa.elim (λh=>h.1) (a.base k))⟩,λk aa=>Nat.lt_of_lt_of_le (aa.elim (λh=>h.1) (a.base k)) ab.size,(λ_ h=>by cases h),List.Pairwise.nil⟩,λ_ _ _ h=>h⟩
theorem Rw{env:Nat->Loc}{B:Nat->Prop}{w:World}{g:aV}{v:Value}(h:eb env B w (.c (.val (.slice none 0 0))) v):eb env B w (.c (.bJ g [] (some 0))) v:=by
 have e:=h;subst e;exact⟨none,0,[],rfl,le_refl _,Nat.zero_le _,λ_ h=>by cases h;rfl,rfl,Reads.nil _ _ _,λ_ _ h=>absurd h (Nat.lt_irrefl 0)⟩
theorem Rx{B:Nat->Prop}{w:World}{k:IntKind}:∀ {l:bZ} {vs:bY},Flat (bN B w (.int k)) l vs->vs=l.map λz=>Value.int k z
 |[],_,h=>h
 |x::l,_,⟨a,b,e,I,J⟩=>by rw[e,show a=_ from I,Rx J];rfl
theorem Ry{B:Nat->Prop}{w:World}:∀ {l:List dU} {vs:bY},Flat (bN B w .str) l vs->vs=l.map ga
 |[],_,h=>h
 |x::l,_,⟨a,b,e,I,J⟩=>by rw[e,show a=_ from I,Ry J];rfl
theorem uR.ab0{P:Program}{B:Nat->Prop}{w:World}{i:Nat}{k:IntKind}{zs:bZ}(h:uR B w i ⟨.int k,zs⟩){name:String}(ba:P.globalNamed name=some i):Lib.TabIs P w name k zs:=by
 obtain⟨⟨b,o,vs,e,ab,aC,U⟩,cs,t,g,I,J⟩:=h;cases e;have a:=Rx aC;unfold Lib.TabIs World.var?;rw[ba];simp only[Option.bind_some,I,Option.some.injEq];have ah:cs.size=vs.length:=by rw[J,a];simp[aV.size]
 rw[<- a]
 apply Array.ext (by simpa using ah)
 intro j f d;have c:j<vs.length:=by simpa using d
 have:=U j vs[j] (getElem?_eq_getElem c)
 simp only[zero_add,World.cell?,I]at this;rw[Array.getElem?_eq_getElem f]at this
 simpa using this
def ke(d:TypeDesc)(s b:Nat)(z:Value)(g:Option aV):cv:=⟨⟨d,s,b,z⟩,g⟩
def sB(k:IntKind)(b:Nat):cv:=ke (.int k) 1 b (.int k 0) (some (.int k))
def Kq(a r:Array TypeId)(v:Bool):cv:=ke (.func a r v) 1 8 .nilFunc none
def aoO(t:TypeId):cv:=ke (.pointer t) 1 8 (.pointer none) none
def pQ(t:TypeId)(g:Option aV):cv:=ke (.slice t) 1 24 (.slice none 0 0) g
def fT(n:String)(t:TypeId)(o b:Nat):Field:=⟨n,t,o,false,"","",b⟩
def om(f:Array Field)(s b:Nat)(g:aV):cv:=ke (.struct f) s b (.agg g.ff.toArray) (some g)
theorem sC{P:Program}{t:TypeId}{d:TypeDesc}{s b:Nat}{z:Value}(h:P.underlying t=some d)(J:(P.info? t).map (λx=>(x.size,x.bytes,x.zero))=some (s,b,some z)):cv.ok P t (ke d s b z none):=⟨⟨h,J⟩,λg a=>by cases a⟩
theorem fU{P:Program}{t:TypeId}{d:TypeDesc}{s b:Nat}{z:Value}{g:aV}(h:P.underlying t=some d)(J:(P.info? t).map (λx=>(x.size,x.bytes,x.zero))=some (s,b,some z))(ag:g.size=s)(e:z.cells.toList=g.ff)(a:blt 0 s=true):cv.ok P t (ke d s b z (some g)):=⟨⟨h,J⟩,λg' c=>by cases c;exact⟨ag,e,ag ▸ dS a⟩⟩
def ab1:cv:=sB .i64 8
def ab2:cv:=ke (.bool) 1 1 (.bool false) (some (.bool))
def ab3:cv:=sB .u8 1
def ab4:cv:=ke (.string) 1 16 (.string { data:=#[] }) (some (.str))
def ab5:cv:=pQ 5 (some (.aI (.int .u8)))
def ab6:cv:=om #[fT "Width" 5 0 0,fT "Rounds" 22 1 8] 2 32 (.pair (.int .u8) (.aI (.int .u8)))
def ab7:cv:=om #[fT "Width" 3 0 0,fT "Rounds" 22 1 8] 2 32 (.pair (.int .i64) (.aI (.int .u8)))
def ab8:cv:=pQ 76 (some (.aI (.pair (.int .u8) (.pair (.int .u8) (.pair (.pair (.int .u8) (.int .i64)) (.pair (.int .u8) (.int .i64)))))))
def ab9:cv:=sB .i64 8
def aca:cv:=pQ 3 (some (.aI (.int .i64)))
def acb:cv:=pQ 42 (some (.aI (.aI (.pair (.int .u8) (.int .i64)))))
def acd:cv:=om #[fT "Front" 35 0 0,fT "Back" 35 1 24] 2 48 (.pair (.aI (.aI (.pair (.int .u8) (.int .i64)))) (.aI (.aI (.pair (.int .u8) (.int .i64)))))
def ace:cv:=pQ 52 (some (.aI (.pair (.bool) (.pair (.int .i64) (.pair (.int .i64) (.pair (.bool) (.aI (.pair (.pair (.int .u8) (.int .i64)) (.pair (.bool) (.int .u8))))))))))
def acf:cv:=pQ 90 (some (.aI (.aI (.pair (.int .u8) (.pair (.bool) (.pair (.aI (.pair (.int .u8) (.int .i64))) (.aI (.pair (.pair (.int .u8) (.int .i64)) (.pair (.bool) (.int .u8))))))))))
def acg:cv:=pQ 104 (some (.aI (.pair (.pair (.int .u8) (.int .i64)) (.pair (.pair (.int .u8) (.int .i64)) (.int .i64)))))
def ach:cv:=pQ 58 (some (.aI (.pair (.int .u8) (.int .i64))))
def aci:cv:=om #[fT "Yarns" 40 0 0,fT "Crossings" 41 1 24,fT "Held" 42 2 48,fT "Fallen" 42 3 72] 4 96 (.pair (.aI (.aI (.pair (.int .u8) (.pair (.bool) (.pair (.aI (.pair (.int .u8) (.int .i64))) (.aI (.pair (.pair (.int .u8) (.int .i64)) (.pair (.bool) (.int .u8))))))))) (.pair (.aI (.pair (.pair (.int .u8) (.int .i64)) (.pair (.pair (.int .u8) (.int .i64)) (.int .i64)))) (.pair (.aI (.pair (.int .u8) (.int .i64))) (.aI (.pair (.int .u8) (.int .i64))))))
def acj:cv:=om #[fT "Rack" 3 0 0,fT "Beds" 37 1 8,fT "Yarns" 38 3 56,fT "Fabric" 44 4 80] 8 176 (.pair (.int .i64) (.pair (.pair (.aI (.aI (.pair (.int .u8) (.int .i64)))) (.aI (.aI (.pair (.int .u8) (.int .i64))))) (.pair (.aI (.pair (.bool) (.pair (.int .i64) (.pair (.int .i64) (.pair (.bool) (.aI (.pair (.pair (.int .u8) (.int .i64)) (.pair (.bool) (.int .u8))))))))) (.pair (.aI (.aI (.pair (.int .u8) (.pair (.bool) (.pair (.aI (.pair (.int .u8) (.int .i64))) (.aI (.pair (.pair (.int .u8) (.int .i64)) (.pair (.bool) (.int .u8))))))))) (.pair (.aI (.pair (.pair (.int .u8) (.int .i64)) (.pair (.pair (.int .u8) (.int .i64)) (.int .i64)))) (.pair (.aI (.pair (.int .u8) (.int .i64))) (.aI (.pair (.int .u8) (.int .i64)))))))))
def ack:cv:=pQ 97 (some (.aI (.pair (.pair (.int .u8) (.int .i64)) (.pair (.bool) (.int .u8)))))
def acm:cv:=om #[fT "In" 4 0 0,fT "Place" 3 1 8,fT "Count" 3 2 16,fT "New" 4 3 24,fT "Pending" 50 4 32] 5 56 (.pair (.bool) (.pair (.int .i64) (.pair (.int .i64) (.pair (.bool) (.aI (.pair (.pair (.int .u8) (.int .i64)) (.pair (.bool) (.int .u8))))))))
def acn:cv:=sB .u8 1
def aco:cv:=om #[fT "Bed" 54 0 0,fT "At" 3 1 8] 2 16 (.pair (.int .u8) (.int .i64))
def acp:cv:=om #[fT "Yarn" 5 0 0,fT "N" 3 1 8] 2 16 (.pair (.int .u8) (.int .i64))
def acq:cv:=ke (.map 73 125) 1 8 (.map none) none
def acr:cv:=sB .u8 1
def acs:cv:=sB .u8 1
def acu:cv:=om #[fT "Kind" 73 0 0,fT "Dir" 74 1 1,fT "Needle" 56 2 8,fT "Yarn" 5 4 24,fT "Rack" 3 5 32] 6 40 (.pair (.int .u8) (.pair (.int .u8) (.pair (.pair (.int .u8) (.int .i64)) (.pair (.int .u8) (.int .i64)))))
def acv:cv:=pQ 93 (some (.aI (.pair (.int .u8) (.pair (.bool) (.pair (.aI (.pair (.int .u8) (.int .i64))) (.aI (.pair (.pair (.int .u8) (.int .i64)) (.pair (.bool) (.int .u8)))))))))
def acw:cv:=om #[fT "Bed" 54 0 0,fT "New" 4 1 1,fT "Through" 42 2 8,fT "Past" 50 3 32] 4 56 (.pair (.int .u8) (.pair (.bool) (.pair (.aI (.pair (.int .u8) (.int .i64))) (.aI (.pair (.pair (.int .u8) (.int .i64)) (.pair (.bool) (.int .u8)))))))
def acx:cv:=om #[fT "Id" 58 0 0,fT "Front" 4 2 16,fT "Dir" 74 3 17] 4 24 (.pair (.pair (.int .u8) (.int .i64)) (.pair (.bool) (.int .u8)))
def acy:cv:=om #[fT "A" 58 0 0,fT "B" 58 2 16,fT "N" 3 4 32] 5 40 (.pair (.pair (.int .u8) (.int .i64)) (.pair (.pair (.int .u8) (.int .i64)) (.int .i64)))
def acz:cv:=ke (.map 5 4) 1 8 (.map none) none
def acA:cv:=ke (.map 124 3) 1 8 (.map none) none
def acB:cv:=ke (.struct #[{ name := "rack",type := 3,offset := 0,embedded := false,tag := "",pkgPath := "gansey/machines",byteOffset := 0 },{ name := "beds",type := 37,offset := 1,embedded := false,tag := "",pkgPath := "gansey/machines",byteOffset := 8 },{ name := "yarns",type := 38,offset := 3,embedded := false,tag := "",pkgPath := "gansey/machines",byteOffset := 56 },{ name := "table",type := 40,offset := 4,embedded := false,tag := "",pkgPath := "gansey/machines",byteOffset := 80 },{ name := "cross",type := 121,offset := 5,embedded := false,tag := "",pkgPath := "gansey/machines",byteOffset := 104 },{ name := "fallen",type := 42,offset := 6,embedded := false,tag := "",pkgPath := "gansey/machines",byteOffset := 112 }]) 7 136 (.agg #[.int .i64 0,.slice none 0 0,.slice none 0 0,.slice none 0 0,.slice none 0 0,.map none,.slice none 0 0]) none
def acC:cv:=ke (.array 2 58) 4 32 (.agg #[.int .u8 0,.int .i64 0,.int .u8 0,.int .i64 0]) (some (.pair (.pair (.int .u8) (.int .i64)) (.pair (.int .u8) (.int .i64))))
def acD:cv:=Kq #[69,76] #[29] false
def acE:cv:=Kq #[56,42] #[4] false
def acF:cv:=sB .u64 8
def acG:cv:=ke (.map 58 4) 1 8 (.map none) none
def acH:cv:=pQ 164 (some (.aI (.pair (.pair (.int .u8) (.int .i64)) (.pair (.pair (.int .u8) (.int .i64)) (.int .i64)))))
def acI:cv:=om #[fT "Id" 58 0 0,fT "Needle" 56 2 16,fT "Spot" 3 4 32] 5 40 (.pair (.pair (.int .u8) (.int .i64)) (.pair (.pair (.int .u8) (.int .i64)) (.int .i64)))
def acJ:cv:=ke (.array 9 9) 9 144 (.agg #[.string { data:=#[] },.string { data:=#[] },.string { data:=#[] },.string { data:=#[] },.string { data:=#[] },.string { data:=#[] },.string { data:=#[] },.string { data:=#[] },.string { data:=#[] }]) (some (.pair (.str) (.pair (.str) (.pair (.str) (.pair (.str) (.pair (.str) (.pair (.str) (.pair (.str) (.pair (.str) (.str))))))))))
def acK:cv:=pQ 9 (some (.aI (.str)))
def acL:cv:=ke (.array 2 9) 2 32 (.agg #[.string { data:=#[] },.string { data:=#[] }]) (some (.pair (.str) (.str)))
def acM:cv:=om #[fT "N" 3 0 0,fT "New" 4 1 8,fT "Past" 50 2 16] 3 40 (.pair (.int .i64) (.pair (.bool) (.aI (.pair (.pair (.int .u8) (.int .i64)) (.pair (.bool) (.int .u8))))))
def acN:cv:=ke (.struct #[{ name := "ops",type := 28,offset := 0,embedded := false,tag := "",pkgPath := "gansey/shifts",byteOffset := 0 },{ name := "rack",type := 3,offset := 1,embedded := false,tag := "",pkgPath := "gansey/shifts",byteOffset := 24 }]) 2 32 (.agg #[.slice none 0 0,.int .i64 0]) (some (.pair (.aI (.pair (.int .u8) (.pair (.int .u8) (.pair (.pair (.int .u8) (.int .i64)) (.pair (.int .u8) (.int .i64)))))) (.int .i64)))
def acO:cv:=Kq #[3] #[3] false
def acP:cv:=sB .i64 8
def acQ:cv:=sB .u32 4
def acR:cv:=sB .u64 8
def acS:cv:=ke (.array 2 42) 2 48 (.agg #[.slice none 0 0,.slice none 0 0]) (some (.pair (.aI (.pair (.int .u8) (.int .i64))) (.aI (.pair (.int .u8) (.int .i64)))))
def acT:cv:=ke (.map 58 3) 1 8 (.map none) none
def acU:cv:=pQ 238 (some (.aI (.pair (.pair (.int .u8) (.int .i64)) (.pair (.pair (.int .u8) (.int .i64)) (.int .i64)))))
def acV:cv:=om #[fT "A" 58 0 0,fT "B" 58 2 16,fT "Sign" 3 4 32] 5 40 (.pair (.pair (.int .u8) (.int .i64)) (.pair (.pair (.int .u8) (.int .i64)) (.int .i64)))
def acW:cv:=ke (.struct #[{ name := "dir",type := 4,offset := 0,embedded := false,tag := "",pkgPath := "gansey/operations",byteOffset := 0 },{ name := "needle",type := 4,offset := 1,embedded := false,tag := "",pkgPath := "gansey/operations",byteOffset := 1 },{ name := "yarn",type := 4,offset := 2,embedded := false,tag := "",pkgPath := "gansey/operations",byteOffset := 2 },{ name := "rack",type := 4,offset := 3,embedded := false,tag := "",pkgPath := "gansey/operations",byteOffset := 3 }]) 4 4 (.agg #[.bool false,.bool false,.bool false,.bool false]) (some (.pair (.bool) (.pair (.bool) (.pair (.bool) (.bool)))))
def acX:cv:=ke (.map 73 244) 1 8 (.map none) none
def acY:cv:=ke (.array 2 3) 2 16 (.agg #[.int .i64 0,.int .i64 0]) (some (.pair (.int .i64) (.int .i64)))
def aY:cb:=(.node (.node (.node (.node (.node (.node .leaf 3 ab1 .leaf) 4 ab2 (.node .leaf 5 ab3 .leaf)) 9 ab4 (.node (.node .leaf 22 ab5 .leaf) 24 ab6 (.node .leaf 26 ab7 .leaf))) 28 ab8 (.node (.node (.node .leaf 29 ab9 .leaf) 32 aca (.node .leaf 35 acb .leaf)) 37 acd (.node (.node .leaf 38 ace .leaf) 40 acf .leaf))) 41 acg (.node (.node (.node (.node .leaf 42 ach .leaf) 44 aci (.node .leaf 46 acj .leaf)) 50 ack (.node (.node .leaf 52 acm .leaf) 54 acn .leaf)) 56 aco (.node (.node (.node .leaf 58 acp .leaf) 71 acq (.node .leaf 73 acr .leaf)) 74 acs (.node (.node .leaf 76 acu .leaf) 90 acv .leaf)))) 93 acw (.node (.node (.node (.node (.node .leaf 97 acx .leaf) 104 acy (.node .leaf 108 acz .leaf)) 121 acA (.node (.node .leaf 123 acB .leaf) 124 acC (.node .leaf 125 acD .leaf))) 144 acE (.node (.node (.node .leaf 153 acF .leaf) 155 acG (.node .leaf 160 acH .leaf)) 164 acI (.node (.node .leaf 185 acJ .leaf) 186 acK .leaf))) 187 acL (.node (.node (.node (.node .leaf 195 acM .leaf) 201 acN (.node .leaf 203 acO .leaf)) 209 acP (.node (.node .leaf 218 acQ .leaf) 220 acR .leaf)) 224 acS (.node (.node (.node .leaf 225 acT .leaf) 234 acU (.node .leaf 238 acV .leaf)) 244 acW (.node (.node .leaf 246 acX .leaf) 283 acY .leaf)))))
theorem aZ:aY.ok prog:=⟨⟨⟨⟨⟨⟨trivial,fU underlying3 (by kernel_rfl) rfl rfl rfl,trivial⟩,fU underlying4 (by kernel_rfl) rfl rfl rfl,⟨trivial,fU underlying5 (by kernel_rfl) rfl rfl rfl,trivial⟩⟩,fU underlying9 (by kernel_rfl) rfl rfl rfl,⟨⟨trivial,fU underlying22 (by kernel_rfl) rfl rfl rfl,trivial⟩,fU underlying24 (by kernel_rfl) rfl rfl rfl,⟨trivial,fU underlying26 (by kernel_rfl) rfl rfl rfl,trivial⟩⟩⟩,fU underlying28 (by kernel_rfl) rfl rfl rfl,⟨⟨⟨trivial,fU underlying29 (by kernel_rfl) rfl rfl rfl,trivial⟩,fU underlying32 (by kernel_rfl) rfl rfl rfl,⟨trivial,fU underlying35 (by kernel_rfl) rfl rfl rfl,trivial⟩⟩,fU underlying37 (by kernel_rfl) rfl rfl rfl,⟨⟨trivial,fU underlying38 (by kernel_rfl) rfl rfl rfl,trivial⟩,fU underlying40 (by kernel_rfl) rfl rfl rfl,trivial⟩⟩⟩,fU underlying41 (by kernel_rfl) rfl rfl rfl,⟨⟨⟨⟨trivial,fU underlying42 (by kernel_rfl) rfl rfl rfl,trivial⟩,fU underlying44 (by kernel_rfl) rfl rfl rfl,⟨trivial,fU underlying46 (by kernel_rfl) rfl rfl rfl,trivial⟩⟩,fU underlying50 (by kernel_rfl) rfl rfl rfl,⟨⟨trivial,fU underlying52 (by kernel_rfl) rfl rfl rfl,trivial⟩,fU underlying54 (by kernel_rfl) rfl rfl rfl,trivial⟩⟩,fU underlying56 (by kernel_rfl) rfl rfl rfl,⟨⟨⟨trivial,fU underlying58 (by kernel_rfl) rfl rfl rfl,trivial⟩,sC underlying71 (by kernel_rfl),⟨trivial,fU underlying73 (by kernel_rfl) rfl rfl rfl,trivial⟩⟩,fU underlying74 (by kernel_rfl) rfl rfl rfl,⟨⟨trivial,fU underlying76 (by kernel_rfl) rfl rfl rfl,trivial⟩,fU underlying90 (by kernel_rfl) rfl rfl rfl,trivial⟩⟩⟩⟩,fU underlying93 (by kernel_rfl) rfl rfl rfl,⟨⟨⟨⟨⟨trivial,fU underlying97 (by kernel_rfl) rfl rfl rfl,trivial⟩,fU underlying104 (by kernel_rfl) rfl rfl rfl,⟨trivial,sC underlying108 (by kernel_rfl),trivial⟩⟩,sC underlying121 (by kernel_rfl),⟨⟨trivial,sC underlying123 (by kernel_rfl),trivial⟩,fU underlying124 (by kernel_rfl) rfl rfl rfl,⟨trivial,sC underlying125 (by kernel_rfl),trivial⟩⟩⟩,sC underlying144 (by kernel_rfl),⟨⟨⟨trivial,fU underlying153 (by kernel_rfl) rfl rfl rfl,trivial⟩,sC underlying155 (by kernel_rfl),⟨trivial,fU underlying160 (by kernel_rfl) rfl rfl rfl,trivial⟩⟩,fU underlying164 (by kernel_rfl) rfl rfl rfl,⟨⟨trivial,fU underlying185 (by kernel_rfl) rfl rfl rfl,trivial⟩,fU underlying186 (by kernel_rfl) rfl rfl rfl,trivial⟩⟩⟩,fU underlying187 (by kernel_rfl) rfl rfl rfl,⟨⟨⟨⟨trivial,fU underlying195 (by kernel_rfl) rfl rfl rfl,trivial⟩,fU underlying201 (by kernel_rfl) rfl rfl rfl,⟨trivial,sC underlying203 (by kernel_rfl),trivial⟩⟩,fU underlying209 (by kernel_rfl) rfl rfl rfl,⟨⟨trivial,fU underlying218 (by kernel_rfl) rfl rfl rfl,trivial⟩,fU underlying220 (by kernel_rfl) rfl rfl rfl,trivial⟩⟩,fU underlying224 (by kernel_rfl) rfl rfl rfl,⟨⟨⟨trivial,sC underlying225 (by kernel_rfl),trivial⟩,fU underlying234 (by kernel_rfl) rfl rfl rfl,⟨trivial,fU underlying238 (by kernel_rfl) rfl rfl rfl,trivial⟩⟩,fU underlying244 (by kernel_rfl) rfl rfl rfl,⟨⟨trivial,sC underlying246 (by kernel_rfl),trivial⟩,fU underlying283 (by kernel_rfl) rfl rfl rfl,trivial⟩⟩⟩⟩⟩
def o1:List dU:=[[],[105,110],[111,117,116],[114,97,99,107],[107,110,105,116],[116,117,99,107],[109,105,115,115],[120,102,101,114],[100,114,111,112]]
def vd:List dU:=[[108,101,102,116],[114,105,103,104,116]]
def lr:bZ:=[-1,1]
def acZ:Nat->Option Ex
 |0=>some ⟨.str,o1⟩
 |1=>some ⟨.str,vd⟩
 |2=>some ⟨.int .i64,lr⟩
 |3=>some ⟨.int .u64,Lib.pow10Tab⟩
 |_=>none
noncomputable def bR:bz:=⟨prog,aY,acZ⟩
section
open Go.ChangeShapes Go.WideShapes Go.ChangeAt Go.WideElems Go.RowKit
section
variable {H:Type} {enc:TypeId×Value->H} {P:Program} {W:World}
def zi(enc:TypeId×Value->H)(P:Program)(W:World)(t:TypeId)(g:aV)(R:g.D->Prop):Prop:=
 ∀k cs x,DataW.trod enc P W 0 (λ_=>true) true k t cs=some x->∃y:g.D,R y/\bN (λb=>b<W.heap.size) W g y cs
theorem ac0{t:TypeId}{k:IntKind}(bg:P.underlying t=some (.int k)):zi enc P W t (.int k) (λ(y:Int)=>k.min<=y/\y<=k.max):=λn cs x h=>by
 obtain⟨z,rfl,_,hw⟩:=DataW.trod_int bg h;exact⟨z,by simpa [Lit.wf] using hw,rfl⟩
theorem Rz{g:aV}{R:g.D->Prop}:∀l:List { p:g.D×bY // R p.1/\bN (λb=>b<W.heap.size) W g p.1 p.2 },Flat (bN (λb=>b<W.heap.size) W g) (l.map (·.1.1)) (l.flatMap (·.1.2))
 |[]=>rfl
 |x::l=>⟨x.1.2,l.flatMap (·.1.2),rfl,x.2.2,Rz l⟩
theorem ac1{b o:Nat}{v:Value}(h:W.cell? ⟨b,o,none⟩=some v):b<W.heap.size:=by
 by_cases ab:b<W.heap.size
 ·exact ab
 ·simp[World.cell?,Array.getElem?_eq_none (by omega:W.heap.size<=b)]at h
theorem RA{base:Nat}{sp:Nat->Bool}{held:Bool}{fuel:Nat}{t e:TypeId}{n:Nat}{cs:bY}{zs:List dU}{p:List MemPlace}(bg:P.underlying t=some (.array n e))(he:P.underlying e=some .string)(d:P.cellsOf e=1)(l:P.cellsOf t=n)(h:DataW.trod enc P W base sp held fuel t cs=some (.agg (zs.map λz=>.lit (.string z)),p)):cs=zs.map ga:=by
 obtain⟨xs,m,_,an,o,q,a⟩:=DataW.trod_array bg h;have b:xs.map (·.1)=zs.map λz=>(DataW.lit (.string z):DataW H):=by
  have:=congrArg Prod.fst an
  simpa using this.symm
 have k:zs.length=n:=by
  have:=congrArg List.length b
  simp at this
  omega
 rw[d]at a
 apply ext_getElem?
 intro i
 by_cases hi:i<n
 ·have I:=a i hi
  rw[getElem?_eq_getElem (by omega:i<xs.length)]at I;obtain⟨s,f,c,_⟩:=DataW.trod_string he I;have J:cs[i]?=some (.string s):=by
   have:=congrArg (·[0]?) f
   simpa [List.getElem?_take,List.getElem?_drop] using this
  have ag:(xs.map (·.1))[i]?=some (DataW.lit (.string s.data.toList):DataW H):=by
   rw[getElem?_map,getElem?_eq_getElem (by omega),c]
   rfl
  rw[b]at ag;simp only[getElem?_map,Option.map_eq_some_iff,DataW.lit.injEq,Lit.string.injEq]at ag;obtain⟨r,j,g⟩:=ag;rw[J,getElem?_map,j,Option.map_some,g]
  rfl
 ·rw[getElem?_eq_none (by omega),getElem?_eq_none (by simp;omega)]
theorem Kr{B:Nat->Prop}{k:IntKind}:∀l:bZ,Flat (bN B W (.int k)) l (l.map λz=>Value.int k z)
 |[]=>rfl
 |x::l=>⟨[.int k x],_,rfl,rfl,Kr l⟩
theorem Ks{B:Nat->Prop}:∀l:List dU,Flat (bN B W .str) l (l.map ga)
 |[]=>rfl
 |x::l=>⟨[ga x],_,rfl,rfl,Ks l⟩
theorem Fc{n:String}{i:Nat}{g:aV}{l:List g.D}{cs:Array Value}(d:P.globalNamed n=some i)(a:W.var? P n=some cs)(aC:Flat (bN (λb=>b<W.heap.size) W g) l cs.toList):uR (λb=>b<W.heap.size) W i ⟨g,l⟩:=by
 unfold World.var? at a;rw[d,Option.bind_some]at a
 split at a
 ·rename_i k e h c
  cases a;have f:=(Array.getElem?_eq_some_iff.1 c).1;refine⟨⟨i,0,cs.toList,rfl,f,aC,λj u hu=>?_⟩,cs,e,h,c,?_⟩
  ·simp only[zero_add,World.cell?,c]
   simpa using hu
  ·have:=bN.rb aC
   simpa using this
 ·cases a
theorem Fe{n:String}{g i:Nat}(h:P.globalNamed n=some g)(aa:P.globalNamed n=some i):g=i:=Option.some.inj (h.symm.trans aa)
theorem Ff{a:Option TypeId}{t u:TypeId}(h:a=some t)(aa:a=some u):t=u:=Option.some.inj (h.symm.trans aa)
end
theorem AC.law{X:bz}{f:FuncId}{args:ej}{vs:bY}{W:World}(h:AC X f args [] (λsv h=>sv=.c (.val (.bool true))/\h=[]))(e:y2 X (λb=>b<W.heap.size) W)(bm:dO (λ_=>.no) (λb=>b<W.heap.size) W args vs):q8 X.P f vs.toArray W (λv w'=>v=.bool true/\Below W.heap.size W w'):=by
 refine(h (λb=>b<W.heap.size) W (λ_=>.no) vs [] W e bm rfl (bT.start W)).mono ?_;rintro v w' ⟨env',B',m,H',sv,j,⟨rfl,rfl⟩,I,J,ag,g,i,a,l⟩;have d:∀k,k<W.heap.size->hc W [] k:=λk aa=>⟨aa,λc U=>by cases U⟩
 exact⟨g,a.below.os.trans ag.os,a.below.tape.trans ag.tape,a.below.output.trans ag.output,le_trans ag.size a.below.size,λk aa=>(a.below.block k (.inl (d k aa))).trans (ag.block k (d k aa))⟩
end
section
def ay{α:Type}(c:Bool)(k:Option α):Option α:=match c with
 |true=>k
 |false=>none
theorem e3{α:Type}{c:Bool}{k:Option α}{r:α}(h:ay c k=some r):c=true/\k=some r:=by
 cases c with
 |true=>exact⟨rfl,h⟩
 |false=>cases h
theorem RB{α:Type}{c:Bool}{k:Option α}(h:c=true):ay c k=k:=by rw[h];rfl
theorem ct{α β:Type}{x:Option α}{f:α->Option β}{r:β}(h:x.bind f=some r):∃a,x=some a/\f a=some r:=by
 cases x with
 |none=>cases h
 |some a=>exact⟨a,rfl,h⟩
theorem iL{α:Type}{b:Bool}{x y z:α}(ab:b=true)(h:cond b x y=z):x=z:=by rw[ab]at h;exact h
theorem kf{α:Type}{b:Bool}{x y z:α}(ab:b=false)(h:cond b x y=z):y=z:=by rw[ab]at h;exact h
def kZ(a b:Bool):Bool:=!a || b
def ve(f:Bool->Bool):Bool:=f true&&f false
theorem zj{f:Bool->Bool}(h:ve f=true)(b:Bool):f b=true:=by
 simp only[ve,and_eq_true]at h;cases b with
 |true=>exact h.1
 |false=>exact h.2
theorem rz{b:Bool}(h:b=false):(!b)=true:=by rw[h];rfl
theorem zk{a d:Bool}(h:kZ a d=true)(I:a=true):d=true:=by rw[I]at h;exact h
theorem ac3{a b d:Bool}(h:kZ a (kZ b d)=true)(I:a=true)(J:b=true):d=true:=zk (zk h I) J
theorem ac4{a b c d:Bool}(h:kZ a (kZ b (kZ c d))=true)(I:a=true)(J:b=true)(ag:c=true):d=true:=ac3 (zk h I) J ag
theorem ac5{a b c e d:Bool}(h:kZ a (kZ b (kZ c (kZ e d)))=true)(I:a=true)(J:b=true)(ag:c=true)(f:e=true):d=true:=ac4 (zk h I) J ag f
theorem qx{a b c e f d:Bool}(h:kZ a (kZ b (kZ c (kZ e (kZ f d))))=true)(I:a=true)(J:b=true)(ag:c=true)(i:e=true)(g:f=true):d=true:=ac5 (zk h I) J ag i g
theorem rA{a b c e f g d:Bool}(h:kZ a (kZ b (kZ c (kZ e (kZ f (kZ g d)))))=true)(I:a=true)(J:b=true)(ag:c=true)(k:e=true)(j:f=true)(i:g=true):d=true:=qx (zk h I) J ag k j i
theorem kE{f:Bool->Bool->Bool->Bool->Bool->Bool->Bool}(h:(ve λcL=>ve λcH=>ve λa=>ve λb=>ve λc=>ve λd=>f cL cH a b c d)=true)(cL cH a b c d:Bool):f cL cH a b c d=true:=zj (zj (zj (zj (zj (zj h cL) cH) a) b) c) d
abbrev sm{α β c:Type}(x:α⊕β)(f:α->Option c)(g:β->Option c):Option c:=match x with
 |.inl a=>f a
 |.inr b=>g b
def ia:Nat:=1000000000
def BM(id:Nat):bC->bC
 |[]=>[]
 |(j,.row t g l c)::r=>match beq j id with
  |true=>(j,.row t g l none)::r
  |false=>(j,.row t g l c)::BM id r
 |b::r=>b::BM id r
section
variable {X:bz} {M:Bool} {n:Nat} {r:Option Nat} {c:Code} {st:aQ} {Q:Exit->aQ->Prop}
def ac6(X:bz)(n:Nat){O:Type}(S:O->aQ)(P:O->Prop)(Q:Exit->aQ->Prop):Exit->aQ->Prop
 |.normal,s=>∃o,P o/\bP X n s (S o)
 |e,s=>Q e s
theorem o2{b:Type}(S:b->aQ)(P:b->Prop)(I:hd X M n r c st (ac6 X n S P Q))(J:∀o,P o->Q .normal (S o)):hd X M n r c st Q:=λR W aD a w ad=>wpIn_mono (I R W aD a w ad) λe a w ⟨s,d,f⟩=>by
 cases e with
 |normal=>
  obtain⟨o,ak,hw⟩:=d;exact⟨S o,J o ak,hw _ _ _ _ _ _ f⟩
 |_=>exact⟨s,d,f⟩
theorem bP.conv{s:Nat}{sv:b8}(b:b8)(c:bj st.L s=some sv)(f:∀env B w v,e7 env B w sv v->e7 env B w b v):bP X n st ⟨(s,b)::st.L,st.H⟩:=λR W aD M a w ⟨aq,env,B,ai,H,d,h⟩=>
 ⟨aq,env,B,ai,H,d,h.size,h.defs,λq u hu=>by
  rw[cX]at hu
  split at hu
  ·rename_i e
   subst e;cases hu;obtain⟨v,I,J⟩:=h.has _ _ c;exact⟨v,I,f _ _ _ _ J⟩
  ·exact h.has q u hu,h.heap,h.aT,h.sub,h.new,h.dP,h.base,h.eu⟩
theorem bP.zl(s:Nat)(g:aV)(a:bj st.L s=some (.c (.val (.slice none 0 0)))):bP X n st ⟨(s,.c (.bJ g [] (some 0)))::st.L,st.H⟩:=bP.conv _ a λenv B w _ h=>Rw (env:=env) (B:=B) (w:=w) h
theorem bG.oo{env:Nat->Loc}{B:Nat->Prop}{w:World}(id:Nat):∀ {l:bC} {H:cI},bG env B w l H->bG env B w (BM id l) H
 |[],_,h=>h
 |(j,.row t g l c)::r,_,⟨k,H',e,I,J⟩=>by
  unfold BM
  split
  ·obtain⟨A,q,xs,ag,b,a,d⟩:=I
   exact⟨k,H',e,⟨A,q,xs,ag,b,a,λ_ h=>by cases h⟩,J⟩
  ·exact⟨k,H',e,I,bG.oo id J⟩
 |(j,.cells _ _)::r,_,⟨k,H',e,I,J⟩=>⟨k,H',e,I,bG.oo id J⟩
 |(j,.lj _ _)::r,_,⟨k,H',e,I,J⟩=>⟨k,H',e,I,bG.oo id J⟩
 |(j,.mp _ _ _ _)::r,_,⟨k,H',e,I,J⟩=>⟨k,H',e,I,bG.oo id J⟩
 |(j,.it _ _ _ _)::r,_,⟨k,H',e,I,J⟩=>⟨k,H',e,I,bG.oo id J⟩
 |(j,.h8 _)::r,_,⟨k,H',e,I,J⟩=>⟨k,H',e,I,bG.oo id J⟩
 |(j,.lk)::r,_,⟨k,H',e,I,J⟩=>⟨k,H',e,I,bG.oo id J⟩
 |(j,.cW _ _ _ _ _ _ _)::r,_,⟨k,H',e,I,J⟩=>⟨k,H',e,I,bG.oo id J⟩
 |(j,.lM)::r,_,⟨k,H',e,I,J⟩=>⟨k,H',e,I,bG.oo id J⟩
 |(j,.hl _ _ _)::r,_,⟨k,H',e,I,J⟩=>⟨k,H',e,I,bG.oo id J⟩
 |(j,.cf _ _ _ _ _ _)::r,_,⟨k,H',e,I,J⟩=>⟨k,H',e,I,bG.oo id J⟩
theorem bP.ac7(id:Nat){st':aQ}(h:st'=⟨st.L,BM id st.H⟩):bP X n st st':=λR W aD M a w ⟨aq,env,B,ai,H,b,ad⟩=>by
 subst h;exact⟨aq,env,B,ai,H,b,ad.size,ad.defs,ad.has,bG.oo id ad.heap,ad.aT,ad.sub,ad.new,ad.dP,ad.base,ad.eu⟩
end
theorem c3:(∀b,(b&&true)=b)/\(∀b,(true&&b)=b)/\(∀b,(b || true)=true)/\(∀b,(true || b)=true)/\(!true)=false/\(!false)=true/\(∀b,(b || false)=b)/\(∀b,(false || b)=b)/\(∀b,(b&&b)=b)/\(∀b:Bool,(!b || b)=true)/\(∀b,(b || b)=b):=by decide
theorem cp:(∀b,(b&&true)=b)/\(∀b,(true&&b)=b)/\(∀b,(b||true)=true)/\(∀b,(true||b)=true)/\(!true)=false/\(!false)=true/\(∀b,(b||false)=b)/\(∀b,(false||b)=b)/\(∀b,(b&&b)=b)/\(∀b:Bool,(!b||b)=true)/\(∀b,(b||b)=b)/\(∀ [h:Decidable True],@decide True h=true)/\(∀ {α:Type}(a b:α),cond true a b=a)/\(∀ {α:Type}(a b:α),cond false a b=b):=⟨c3.1,c3.2.1,c3.2.2.1,c3.2.2.2.1,c3.2.2.2.2.1,c3.2.2.2.2.2.1,c3.2.2.2.2.2.2.1,c3.2.2.2.2.2.2.2.1,c3.2.2.2.2.2.2.2.2.1,c3.2.2.2.2.2.2.2.2.2.1,c3.2.2.2.2.2.2.2.2.2.2,λ{_}=>decide_true _,λ_ _=>rfl,λ_ _=>rfl⟩
theorem j1:(∀b,(b&&true)=b)/\(∀b,(true&&b)=b)/\(∀b,(b&&false)=false)/\(∀b,(false&&b)=false)/\(!true)=false/\(!false)=true/\((false=true)=False)/\((true=false)=False):=by
 refine⟨by decide,by decide,by decide,by decide,rfl,rfl,by simp,by simp⟩
theorem cZ.data{env:Nat->Loc}{B:Nat->Prop}{w:World}{g:aV}{cs b:dT}{x:g.D}{c:Bool}{vs:bY}(I:cZ env B w cs vs)(az:dec g cs=some (c,x,[]))(U:c=true)(e:pB g x 0 g.size=some b):cZ env B w b vs:=by
 obtain⟨i,k,a,aC,J⟩:=so I az U;have f:=J;subst f;rw[append_nil]at a;subst a;obtain⟨us,⟨ah,ak⟩,ag⟩:=bN.cells aC e;have h:=bN.length aC;have d:us=vs:=by
  apply ext_getElem?
  intro j;cases aN:us[j]? with
  |some u=>
   have:=ak j u aN
   rw[zero_add]at this;exact this.symm
  |none=>
   rw[List.getElem?_eq_none_iff]at aN;exact(List.getElem?_eq_none_iff.2 (by omega)).symm
 subst d;exact ag
end
section
open Go.ChangeShapes Go.WideShapes Go.ChangeAt Go.WideElems Go.RowKit
theorem Tryz.own:ownKnob prog.godebug=none:=by kernel_rfl
theorem Tryz.laidOut:laidOutB prog=true:=by kernel_rfl
theorem ac8{k:IntKind}{n:Int}(h:(Lit.int k n).wf=true):k.min<=n/\n<=k.max:=by simpa [Lit.wf] using h
end
section
def aV.beq:(g:aV)->g.D->g.D->Bool
 |.int _=>λ(x:Int) (y:Int)=>x==y
 |.bool=>λ(x:Bool) (y:Bool)=>x==y
 |.str=>λ(x:dU) (y:dU)=>x==y
 |.pair g h=>λx y=>g.beq x.1 y.1&&h.beq x.2 y.2
 |_=>λ_ _=>false
def de(gk gv:aV):List (gk.D×gv.D)->gk.D->Option gv.D
 |[],_=>none
 |x::l,k=>match gk.beq x.1 k with
  |true=>some x.2
  |false=>de gk gv l k
def eS(gk gv:aV):List (gk.D×gv.D)->gk.D->gv.D->List (gk.D×gv.D)
 |[],k,v=>[(k,v)]
 |x::l,k,v=>match gk.beq x.1 k with
  |true=>(x.1,v)::l
  |false=>x::eS gk gv l k v
def pR:(g:aV)->g.D->Option bp
 |.pair a b,x=>(pB (.pair a b) x 0 (a.size+b.size)).map .agg
 |g,x=>(mP g x 0).map .c
section
variable {B:Nat->Prop} {w:World} {k:IntKind} {gv:aV}
theorem gd.Fg{z:Int}:∀ {l:List (Int×gv.D)} {b:List MapEntry} (i:Nat),gd B w (.int k) gv l b ->
  (de (.int k) gv l z=none/\Instr.findNow (.int k) (.int k z) b i=some none)\/∃x j v,de (.int k) gv l z=some x/\Instr.findNow (.int k) (.int k z) b i=some (some (i+j,v))/\ez B w gv x v/\j<b.length
 |[],_,i,h=>by rw[show _=[] from h];exact .inl ⟨rfl,rfl⟩
 |x::l,_,i,⟨e,r,he,I,J,ag⟩=>by
  subst he;have aa:e.key=.int k x.1:=by
   have:=(show bN B w (.int k) x.1 [e.key] from I)
   have a:=this;exact(List.cons.inj a).1
  unfold Instr.findNow de;rw[aa];simp only[Instr.sameNow,if_true]
  by_cases bF:x.1=z
  ·have c:(aV.int k).beq x.1 z=true:=by simp[aV.beq,bF]
   have d:(z==x.1)=true:=by simp[bF]
   rw[c,d];exact .inr ⟨x.2,0,e.val,rfl,rfl,J,by simp⟩
  ·have c:(aV.int k).beq x.1 z=false:=by simp[aV.beq,bF]
   have d:(z==x.1)=false:=by simp[Ne.symm bF]
   rw[c,d]
   rcases gd.Fg (i+1) ag with⟨a,aF⟩|⟨y,j,v,a,aF,a7,b1⟩
   ·exact .inl ⟨a,aF⟩
   ·exact .inr ⟨y,j+1,v,a,by rw[aF,add_assoc,Nat.add_comm 1 j],a7,by simpa using b1⟩
theorem zm{a:List MapEntry}{f:MapEntry->MapEntry}(aC:∀e,(f e).born=e.born):∀(j:Nat),(a.modify j f).map (·.born)=a.map (·.born):=by
 induction a with
 |nil=>intro j;cases j<;>rfl
 |cons e a b=>
  intro j;cases j with
  |zero=>simp[aC]
  |succ j=>simp only[List.modify_succ_cons,map_cons,b j]
theorem gd.setInt{z:Int}{fO:gv.D}{vv:Value}(f:ez B w gv fO vv):∀ {l:List (Int×gv.D)} {b:List MapEntry} (i:Nat),gd B w (.int k) gv l b ->
  (Instr.findNow (.int k) (.int k z) b i=some none/\eS (.int k) gv l z fO=l++[(z,fO)]) \/
  ∃j v e,Instr.findNow (.int k) (.int k z) b i=some (some (i+j,v))/\b[j]?=some e/\e.key=.int k z/\gd B w (.int k) gv (eS (.int k) gv l z fO) (b.modify j λe=>{ e with key:=.int k z,val:=vv })
 |[],_,i,h=>by rw[show _=[] from h];exact .inl ⟨rfl,rfl⟩
 |x::l,_,i,⟨e,r,he,I,J,ag⟩=>by
  subst he;have aa:e.key=.int k x.1:=by
   have a:=I;exact(List.cons.inj a).1
  unfold Instr.findNow eS;rw[aa];simp only[Instr.sameNow,if_true]
  by_cases bF:x.1=z
  ·have c:(aV.int k).beq x.1 z=true:=by simp[aV.beq,bF]
   have d:(z==x.1)=true:=by simp[bF]
   rw[c,d];refine .inr ⟨0,e.val,e,rfl,rfl,by rw[aa,bF],{ e with key:=.int k z,val:=vv },r,rfl,?_,f,ag⟩;show [Value.int k z]=[Value.int k x.1]
   rw[bF]
  ·have c:(aV.int k).beq x.1 z=false:=by simp[aV.beq,bF]
   have d:(z==x.1)=false:=by simp[Ne.symm bF]
   rw[c,d]
   rcases gd.setInt f (i+1) ag with⟨a,aF⟩|⟨j,v,cm,a,aF,a7,b1⟩
   ·exact .inl ⟨a,by show x::eS (.int k) gv l z fO=_;rw[aF];rfl⟩
   ·exact .inr ⟨j+1,v,cm,by rw[a,add_assoc,Nat.add_comm 1 j],by simpa using aF,a7,e,_,rfl,I,J,b1⟩
theorem gd.snoc{gk gv:aV}{x:gk.D×gv.D}{e:MapEntry}(I:ez B w gk x.1 e.key)(J:ez B w gv x.2 e.val):∀ {l:List (gk.D×gv.D)} {a:List MapEntry},gd B w gk gv l a->gd B w gk gv (l++[x]) (a++[e])
 |[],_,h=>by rw[show _=[] from h];exact⟨e,[],rfl,I,J,rfl⟩
 |_::_,_,⟨d,r,he,ag,c,b⟩=>by subst he;exact⟨d,_,rfl,ag,c,gd.snoc I J b⟩
def mo:aV->bp->Bool
 |.pair _ _,.agg _=>true
 |.pair _ _,.c _=>false
 |_,.c _=>true
 |_,.agg _=>false
 |_,.arr _ _=>false
theorem ez.vf{env:Nat->Loc}{g:aV}{sa:bp}{c:Bool}{x:g.D}{v:Value}(az:dec g sa.cells=some (c,x,[]))(U:c=true)(d:mo g sa=true)(h:eb env B w sa v):ez B w g x v:=by
 cases sa with
 |c k=>
  obtain⟨m,i,e,I,J⟩:=so (cs:=[k]) ⟨v,[],rfl,h,rfl⟩ az U;have f:i=[]:=J;rw[f,append_nil]at e;rw[<- e]at I;cases g with
  |pair a b=>cases d
  |_=>exact I
 |arr g2 l=>
  cases g with
  |pair a b=>cases d
  |_=>cases d
 |agg cs=>
  obtain⟨vs,e,ag⟩:=h;obtain⟨m,i,j,I,J⟩:=so ag az U;have f:i=[]:=J;rw[f,append_nil]at j;cases g with
  |pair a b=>exact⟨vs,e,by rw[j];exact I⟩
  |_=>cases d
theorem ez.sa{env:Nat->Loc}{g:aV}{x:g.D}{v:Value}{sa:bp}(h:ez B w g x v)(d:pR g x=some sa):eb env B w sa v:=by
 have one:∀ {g:aV} {x:g.D} {v:Value} {sa:bp},bN B w g x [v]->(mP g x 0).map bp.c=some sa->eb env B w sa v:=by
  intro g x v sa h d;obtain⟨c,U,rfl⟩:=Option.map_eq_some_iff.1 d;obtain⟨u,I,J⟩:=bN.cell h U;simp only[List.getElem?_cons_zero,Option.some.injEq]at I;rw[I];exact J
 cases g with
 |pair a b=>
  obtain⟨vs,e,I⟩:=h;obtain⟨l,ah,rfl⟩:=Option.map_eq_some_iff.1 (show(pB (.pair a b) x 0 (a.size+b.size)).map bp.agg=some sa from d);obtain⟨us,⟨J,ag⟩,f⟩:=bN.cells I ah;have j:vs.length=a.size+b.size:=bN.length I
  have:us=vs:=by
   apply ext_getElem?
   intro i
   by_cases hi:i<us.length
   ·rw[getElem?_eq_getElem hi]
    have:=ag i us[i] (getElem?_eq_getElem hi)
    rw[zero_add]at this;exact this.symm
   ·rw[getElem?_eq_none (by omega),getElem?_eq_none (by omega)]
  subst this;exact⟨us,e,f⟩
 |_=>exact one h d
end
section
variable {X:bz} {M:Bool} {n:Nat} {r:Option Nat} {st:aQ} {Q:Exit->aQ->Prop} {ops rest:List Oper} {o:Oper} {d:Nat}
theorem ac9(gk gv:aV){t:TypeId}(c:o.op=.makeMap t none)(b:o.guard=none/\o.dst=some d)(az:blt d n=true)(g:gx X M n r ops rest ⟨(d,.c (.dI d))::gu d .dead st.L,(d,.mp gk gv [] none)::eE d .dead st.H⟩ Q):gx X M n r ops (o::rest) st Q:=by
 rintro R W aD a w ⟨aq,env,B,ai,H,f,ad⟩;refine nu (hM ad.bW b.1 b.2 (dS az) (v:=.map (some w.heap.size)) (w':=w.alloc (.map #[] 0)) (by simp[execOp,c,Instr.makeMap,newObj,Sem.run]) λaU e=>?_);obtain⟨H',_,ag⟩:=ad.oR (d:=d) az (l:=.blk w.heap.size) (blk:=.mp gk gv [] none) (sv:=.c (.dI d)) (ad.aT.alloc (.map #[] 0)) ⟨_,[],0,fx,rfl,rfl,⟨List.Pairwise.nil,λ_ h=>by cases h⟩,λ_ h=>by cases h⟩ ⟨_,fx,rfl⟩ e;exact g R W aD aU _ ⟨aq,_,B,ai,H',f,ag⟩
theorem ada(f:X.aY.ok X.P){t fi fV:TypeId}{bB p dQ:cv}{k:IntKind}{gv:aV}{u x:Operand}{id:Nat}{l:List (Int×gv.D)}{jl:Option (List MapEntry×Nat)}{z:Int}{g:Bool}{sa:bp}(q:o.op=.lookup t u x false)(i:o.guard=none/\o.dst=some d)(az:blt d n=true)(bg:X.aY.find t=some bB)(dm:bB.aK.desc=.map fi fV)(aa:X.aY.find fi=some p)(T:p.aK.desc=.int k)(he:X.aY.find fV=some dQ)(bF:∀B w,ez B w gv gv.zero dQ.aK.zero)(hu:bx X st.L u=some (true,.c (.dI id)))(an:bx X st.L x=some (g,.c (.val (.int k z))))(A:g=true)(D:bj st.H id=some (.mp (.int k) gv l jl))(mY:pR gv ((de (.int k) gv l z).getD gv.zero)=some sa)(E:gx X M n r ops rest ⟨(d,.a sa)::st.L,st.H⟩ Q):gx X M n r ops (o::rest) st Q:=by
 rintro R W aD a w ⟨aq,env,B,ai,H,C,ad⟩;obtain⟨V,I,b,ab,rfl⟩:=ad.aJ hu rfl;obtain⟨vx,J,ag⟩:=ad.aJ an A;rw[show vx=_ from ag]at J;obtain⟨c,K,⟨b',U,clock,m,rfl,O,c7,_⟩,G⟩:=ad.heap.gQ D;rw[ab]at m;cases m;have L:=(ad.aT.ok _ G.more.mem).2;have h:=(cb.get f bg).aK.1;rw[dm]at h;have e:=(cb.get f aa).aK.1;rw[T]at e;have N:=bK.se (cb.get f he).aK w;have P:∃v,(Instr.lookup t (.map (some b)) (.int k z) false).run X.P w=.ok v w/\ez B ai gv ((de (.int k) gv l z).getD gv.zero) v:=by
  unfold Instr.lookup;rw[show(10000:Nat)=9999+1 from rfl];simp only[Sem.run_bind,run_underlying h,Result.andThen_ok,MapKept.run_getObj_map L,A5 e,Sem.run_pure]
  rcases O.Fg (z:=z) 0 with⟨ar,aF⟩|⟨y,j,v,ar,aF,a7,_⟩
  ·refine⟨dQ.aK.zero,?_,by rw[ar];exact bF _ _⟩
   simp[MapKept.run_findKey e aF,N,Result.andThen]
  ·refine⟨v,?_,by rw[ar];exact a7⟩
   simp[MapKept.run_findKey e aF,Result.andThen]
 obtain⟨v,F,S⟩:=P;refine nu (hM ad.bW i.1 i.2 (dS az) (v:=v) (w':=w) ?_ λaU s=>?_)
 ·simp[execOp,q,ad.bW.aJ I,ad.bW.aJ J,F]
 ·exact E R W aD aU _ ⟨aq,env,B,ai,H,C,ad.set (sv:=.a sa) (S.sa mY) s⟩
theorem adb(E:X.aY.ok X.P){t fi fV:TypeId}{bB P:cv}{k:IntKind}{gv:aV}{u x y:Operand}{id:Nat}{l:List (Int×gv.D)}{jl:Option (List MapEntry×Nat)}{z:Int}{g g2 c:Bool}{ei:bp}{fO:gv.D}(T:o.op=.mapUpdate t u x y)(F:o.guard=none/\o.dst=none)(bg:X.aY.find t=some bB)(dm:bB.aK.desc=.map fi fV)(aa:X.aY.find fi=some P)(ay:P.aK.desc=.int k)(hu:bx X st.L u=some (true,.c (.dI id)))(an:bx X st.L x=some (g,.c (.val (.int k z))))(Z:g=true)(aG:bx X st.L y=some (g2,ei))(aj:g2=true)(af:bj st.H id=some (.mp (.int k) gv l jl))(ax:dec gv ei.cells=some (c,fO,[]))(U:c=true)(am:mo gv ei=true)(ah:gx X M n r ops rest ⟨st.L,e8 id (.mp (.int k) gv (eS (.int k) gv l z fO) none) st.H⟩ Q):gx X M n r ops (o::rest) st Q:=by
 rintro R W aD a w ⟨aq,env,B,ai,H,ae,ad⟩;obtain⟨aA,I,b,ab,rfl⟩:=ad.aJ hu rfl;obtain⟨vx,J,ag⟩:=ad.aJ an Z;rw[show vx=_ from ag]at J;obtain⟨vy,ac,V⟩:=ad.aJ aG aj;have O:ez B ai gv fO vy:=ez.vf ax U am V;obtain⟨eQ,K,⟨b',s,clock,G,rfl,N,c7,_⟩,L,ao⟩:=ad.oS (b':=.mp (.int k) gv (eS (.int k) gv l z fO) none) af;rw[ab]at G;cases G;have A:=(ad.aT.ok _ L.mem).2;have C:=(cb.get E bg).aK.1;rw[dm]at C;have m:=(cb.get E aa).aK.1;rw[ay]at m;have av:∃d i,(Instr.mapUpdate t (.map (some b)) (.int k z) vy).run X.P w=.ok () { w with heap:=w.heap.setIfInBounds b (.map d.toArray i) }/\gd B ai (.int k) gv (eS (.int k) gv l z fO) d/\n5 d i:=by
  unfold Instr.mapUpdate;rw[show(10000:Nat)=9999+1 from rfl];simp only[Sem.run_bind,run_underlying C,Result.andThen_ok,MapKept.run_getObj_map A,A5 m]
  rcases N.setInt O (z:=z) 0 with⟨a7,b1⟩|⟨j,v,e,a7,b1,dn,au⟩
  ·refine⟨s++[MapEntry.mk (.int k z) vy clock],clock+1,?_,?_,?_⟩
   ·simp only[MapKept.run_findKey m a7,Result.andThen_ok,MapKept.run_setObj_map _ A]
    simp
   ·rw[b1]
    have ar:ez B ai (.int k) z (.int k z):=show [Value.int k z]=[Value.int k z] from rfl
    exact gd.snoc (gk:=.int k) (x:=(z,fO)) (e:=MapEntry.mk (.int k z) vy clock) ar O N
   ·refine⟨?_,?_⟩
    ·rw[map_append,List.pairwise_append]
     exact⟨c7.1,by simp,λp ak q D=>by simp at D;subst D;exact c7.2 p ak⟩
    ·intro p ak
     rw[map_append,List.mem_append]at ak
     rcases ak with ak|ak
     ·exact Nat.lt_succ_of_lt (c7.2 p ak)
     ·simp at ak;omega
  ·refine⟨s.modify j λe=>{ e with key:=.int k z,val:=vy },clock,?_,au,?_⟩
   ·rw[zero_add]at a7
    have aw:(Instr.keyThatStays (((s.toArray[j]?).map (·.key)).getD (.int k z)) (.int k z)).run X.P w=.ok (.int k z) w:=by
     have:((s.toArray[j]?).map (·.key)).getD (.int k z)=.int k z:=by simp[b1,dn]
     rw[this]
     simp[Instr.keyThatStays,Instr.sameBits]
    simp only[MapKept.run_findKey m a7,Result.andThen_ok,Sem.run_bind,aw,MapKept.run_setObj_map _ A]
    simp
   ·rw[n5,zm (f:=λe=>{ e with key:=.int k z,val:=vy }) (λ_=>rfl)]
    exact c7
 obtain⟨d,i,al,S,az⟩:=av;refine nu (A1 ad.bW F.1 F.2 (w':={ w with heap:=w.heap.setIfInBounds b (.map d.toArray i) }) ?_ λaU Y=>?_)
 ·simp[execOp,T,ad.bW.aJ I,ad.bW.aJ J,ad.bW.aJ ac,al]
 ·obtain⟨H',ap⟩:=ao _ aU _ ⟨b,d,i,ab,rfl,S,az,λ_ h=>by cases h⟩ (ad.aT.wF L) Y
  exact ah R W aD aU _ ⟨aq,env,B,ai,H',ae,ap⟩
end
end
section
theorem gd.length{B:Nat->Prop}{w:World}{gk gv:aV}:∀ {l:List (gk.D×gv.D)} {a:List MapEntry},gd B w gk gv l a->a.length=l.length
 |[],_,h=>by rw[show _=[] from h];rfl
 |_::_,_,⟨_,_,e,_,_,h⟩=>by rw[e,length_cons,length_cons,gd.length h]
theorem gd.get{B:Nat->Prop}{w:World}{gk gv:aV}{x:gk.D×gv.D}:∀ {l:List (gk.D×gv.D)} {b:List MapEntry} {j:Nat},gd B w gk gv l b->l[j]?=some x->∃e,b[j]?=some e/\ez B w gk x.1 e.key/\ez B w gv x.2 e.val
 |[],_,_,_,a=>by simp at a
 |y::_,_,0,⟨e,r,h,I,J,_⟩,a=>by
  subst h
  simp at a
  subst a;exact⟨e,rfl,I,J⟩
 |_::_,_,j+1,⟨_,_,h,_,_,ag⟩,a=>by
  subst h;obtain⟨e,d,c⟩:=gd.get ag (by simpa using a);exact⟨e,by simpa using d,c⟩
theorem born_inj{c:List MapEntry}{clock:Nat}(m:n5 c clock){i j:Nat}{a b:MapEntry}(hi:c[i]?=some a)(l:c[j]?=some b)(e:a.born=b.born):i=j:=by
 have ak:=List.pairwise_iff_getElem.1 m.1;obtain⟨f,d⟩:=List.getElem?_eq_some_iff.1 hi;obtain⟨k,g⟩:=List.getElem?_eq_some_iff.1 l
 rcases Nat.lt_trichotomy i j with h|h|h
 ·have:=ak i j (by simpa using f) (by simpa using k) h
  simp only[List.getElem_map,d,g]at this;omega
 ·exact h
 ·have:=ak j i (by simpa using k) (by simpa using f) h
  simp only[List.getElem_map,d,g]at this;omega
theorem RD{a:List MapEntry}{aB:bX}{j:Nat}{e:MapEntry}(h:a[j]?=some e):lN a (aB++[j])=lN a aB++[e.born]:=by simp[lN,h]
theorem RE{a:List MapEntry}{clock:Nat}(d:n5 a clock){aB:bX}(ak:∀j∈aB,j<a.length){j:Nat}{e:MapEntry}(h:a[j]?=some e):e.born∈lN a aB↔j∈aB:=by
 constructor
 ·intro f
  obtain⟨i,hi,ab⟩:=List.mem_map.1 f;have b:=ak i hi;rw[getElem?_eq_getElem b]at ab
  have:=born_inj d (getElem?_eq_getElem b) h (by simpa using ab)
  exact this ▸ hi
 ·intro c
  exact List.mem_map.2 ⟨j,c,by simp[h]⟩
section
variable {X:bz} {M:Bool} {n:Nat} {r:Option Nat} {st:aQ} {Q:Exit->aQ->Prop} {ops rest:List Oper} {o:Oper} {d:Nat}
theorem ade{gk gv:aV}{l:List (gk.D×gv.D)}{jl:Option (List MapEntry×Nat)}(id:Nat)(m:bj st.H id=some (.mp gk gv l jl))(h:∀d clock,n5 d clock->d.length=l.length->gx X M n r ops rest ⟨st.L,e8 id (.mp gk gv l (some (d,clock))) st.H⟩ Q):gx X M n r ops rest st Q:=by
 rintro R W aD a w ⟨aq,env,B,ai,H,k,ad⟩;obtain⟨c,K,⟨b,d,clock,I,J,ag,e,s⟩,aC,p⟩:=ad.heap.put m;have j:K c=H:=by obtain⟨X,Y,g,o⟩:=aC;rw[o,g]
 have f:=p (.mp gk gv l (some (d,clock))) c ⟨b,d,clock,I,J,ag,e,λq i=>(Option.some.inj i).symm⟩;rw[j]at f;exact h d clock e ag.length R W aD a w ⟨aq,env,B,ai,H,k,ad.size,ad.defs,ad.has,f,ad.aT,ad.sub,ad.new,ad.dP,ad.base,ad.eu⟩
theorem adf(m:X.aY.ok X.P){t fi fV:TypeId}{bB:cv}{gk gv:aV}{u:Operand}{id:Nat}{l:List (gk.D×gv.D)}{e:List MapEntry}{clock:Nat}(i:o.op=.range t u)(g:o.guard=none/\o.dst=some d)(az:blt d n=true)(bg:X.aY.find t=some bB)(dm:bB.aK.desc=.map fi fV)(hu:bx X st.L u=some (true,.c (.dI id)))(q:bj st.H id=some (.mp gk gv l (some (e,clock))))(s:beq id d=false)(y:gx X M n r ops rest ⟨(d,.c (.ptr d 0))::gu d .dead st.L,(d,.it id e clock [])::eE d .dead st.H⟩ Q):gx X M n r ops (o::rest) st Q:=by
 rintro R W aD a w ⟨aq,env,B,ai,H,p,ad⟩;obtain⟨E,I,b,ab,rfl⟩:=ad.aJ hu rfl;obtain⟨c,K,⟨b',F,G,h,rfl,D,c7,k⟩,A⟩:=ad.heap.gQ q;rw[ab]at h;cases h;cases k _ rfl;have C:=(ad.aT.ok _ A.more.mem).2;have f:=(cb.get m bg).aK.1;rw[dm]at f;have z:(Instr.range t (.map (some b))).run X.P w=.ok (.pointer (some ⟨w.heap.size,0,none⟩)) (w.alloc (.mapIter (some b) clock #[] clock)):=by
  simp[Instr.range,run_underlying f,MapKept.run_getObj_map C,newObj,Sem.run,Result.andThen]
 refine nu (hM ad.bW g.1 g.2 (dS az) (v:=.pointer (some ⟨w.heap.size,0,none⟩)) (w':=w.alloc (.mapIter (some b) clock #[] clock)) (by simp[execOp,i,ad.bW.aJ I,z]) λaU j=>?_);obtain⟨H',_,ag⟩:=ad.oR (d:=d) az (l:=.blk w.heap.size) (blk:=.it id e clock []) (sv:=.c (.ptr d 0)) (ad.aT.alloc _) ⟨_,b,fx,by rw[ku id (Nat.ne_of_beq_eq_false s)];exact ab,rfl⟩ ⟨_,fx,rfl⟩ j;exact y R W aD aU _ ⟨aq,_,B,ai,H',p,ag⟩
theorem adg{gk gv:aV}{u:Operand}{i id:Nat}{l:List (gk.D×gv.D)}{f:List MapEntry}{clock:Nat}{aB:bX}(D:o.op=.next u false)(t:o.guard=none/\o.dst=some d)(az:blt d n=true)(hu:bx X st.L u=some (true,.c (.ptr id 0)))(A:bj st.H id=some (.it i f clock aB))(af:bj st.H i=some (.mp gk gv l (some (f,clock))))(c7:n5 f clock)(L:∀j∈aB,j<f.length)(ar:(∀j,j<f.length->j∈aB)->gx X M n r ops rest ⟨(d,.cY [.c (.val (.bool false))])::st.L,st.H⟩ Q)(av:∀j,j<f.length->j ∉ aB->gx X M n r ops rest ⟨(d,.cY [.c (.val (.bool true)),.c .dead,.c .dead])::st.L,e8 id (.it i f clock (aB++[j])) st.H⟩ Q):gx X M n r ops (o::rest) st Q:=by
 rintro R W aD a w ⟨aq,env,B,ai,H,E,ad⟩;obtain⟨aK,I,b,ab,rfl⟩:=ad.aJ hu rfl;obtain⟨cK,aw,⟨m,aL,aM,G,rfl,aJ,_,ac⟩,au⟩:=ad.heap.gQ af;cases ac _ rfl;have O:=(ad.aT.ok _ au.more.mem).2;obtain⟨c,K,T,aj,aI⟩:=ad.oS (b':=cC.it i f clock aB) A;obtain⟨b',aH,F,J,rfl⟩:=T;rw[ab]at F;cases F;rw[G]at J;cases J;have am:=(ad.aT.ok _ aj.mem).2;have hold:∀x∈f.toArray.toList,x.born<clock:=λx an=>c7.2 _ (List.mem_map_of_mem (by simpa using an))
 rcases run_next_at (P:=X.P) w o.type b m clock clock (lN f aB).toArray f.toArray clock am O hold (le_refl _)with⟨aO,dr⟩|⟨e,he,b6,k2,dr⟩
 ·refine nu (hM ad.bW t.1 t.2 (dS az) (v:=.tuple #[.bool false]) (w':=w) (by simp[execOp,D,ad.bW.aJ I,dr]) λaU g=>?_)
  refine ar (λj p=>?_) R W aD aU _ ⟨aq,env,B,ai,H,E,ad.set (sv:=.cY [.c (.val (.bool false))]) ⟨[.bool false],rfl,.bool false,[],rfl,rfl,rfl⟩ g⟩;have y:f[j]?=some f[j]:=getElem?_eq_getElem p;refine(RE c7 L y).1 ?_;have U:leftOf f.toArray (lN f aB).toArray=#[]:=Array.eq_empty_of_size_eq_zero aO
  by_cases cQ:f[j].born∈lN f aB
  ·exact cQ
  ·exfalso
   have:f[j]∈leftOf f.toArray (lN f aB).toArray:=by
    simp only[leftOf,Array.mem_filter];exact⟨by simp,by simpa using cQ⟩
   rw[U]at this
   simp at this
 ·have N:e∈f/\e.born ∉ lN f aB:=by
   have:e∈leftOf f.toArray (lN f aB).toArray:=by simpa using he
   simp only[leftOf,Array.mem_filter]at this;exact⟨by simpa using this.1,by simpa using this.2⟩
  obtain⟨j,p,S⟩:=List.mem_iff_getElem.1 N.1;have y:f[j]?=some e:=by rw[getElem?_eq_getElem p,S]
  have ap:j ∉ aB:=λh=>N.2 ((RE c7 L y).2 h)
  have ak:bT (λk=>R k\/B k) ai (H++aq.map dB) b6:=by
   rcases k2 with rfl|rfl
   ·exact ad.aT
   ·exact ad.aT.drew
  refine nu (hM ad.bW t.1 t.2 (dS az) (v:=.tuple #[.bool true,e.key,e.val]) (w':={ b6 with heap:=b6.heap.setIfInBounds b (.mapIter (some m) clock ((lN f (aB++[j])).toArray) clock) }) ?_ λaU g=>?_)
  ·have ag:(lN f aB).toArray.push e.born=(lN f (aB++[j])).toArray:=by rw[RD y];simp
   rw[ag]at dr
   simp[execOp,D,ad.bW.aJ I,dr,ChangeMaps.setBlock]
  ·obtain⟨ax,ay,_,aA,aC⟩:=ad.oS (b':=.it i f clock (aB++[j])) A
   have aE:dh n (j9 aq aD) ((d,.tuple #[.bool true,e.key,e.val])::full a) aU:=g;obtain⟨aF,aG,V,Y,ao⟩:=ad.heap.put A;obtain⟨aP,aN,C,_,rfl⟩:=V;rw[ab]at C;cases C;have Z:=ao (.it i f clock (aB++[j])) (.obj b (.mapIter (some m) clock (lN f (aB++[j])).toArray clock)) ⟨b,m,ab,G,rfl⟩;have aa:=ak.wF (x':=.mapIter (some m) clock (lN f (aB++[j])).toArray clock) Y.more;refine av j p ap R W aD aU _ ⟨aq,env,B,ai,_,E,g.size,g.defs,λs u q=>?_,Z,aa,ad.sub,ad.new,ad.dP,ad.base,ad.eu⟩;rw[cX]at q
   split at q
   ·rename_i z
    subst z;cases q;exact⟨_,g.this,[.bool true,e.key,e.val],rfl,_,_,rfl,rfl,_,_,rfl,trivial,_,_,rfl,trivial,rfl⟩
   ·rename_i z
    obtain⟨al,ae,ah⟩:=ad.has s u q;exact⟨al,g.other z ae,ah⟩
theorem adn{gk gv:aV}{u:Operand}{q id:Nat}{l:List (gk.D×gv.D)}{f:List MapEntry}{clock:Nat}{aB:bX}{j:Nat}{x:gk.D×gv.D}{g i:bp}(z:o.op=.entry u)(k:o.guard=none/\o.dst=some d)(az:blt d n=true)(hu:bx X st.L u=some (true,.c (.ptr id 0)))(O:bj st.H id=some (.it q f clock (aB++[j])))(G:bj st.H q=some (.mp gk gv l (some (f,clock))))(c7:n5 f clock)(D:l[j]?=some x)(aa:pR gk x.1=some g)(A:pR gv x.2=some i)(J:gx X M n r ops rest ⟨(d,.cY [g,i])::st.L,st.H⟩ Q):gx X M n r ops (o::rest) st Q:=by
 rintro R W aD a w ⟨aq,env,B,ai,H,F,ad⟩;obtain⟨ae,I,b,ab,rfl⟩:=ad.aJ hu rfl;obtain⟨cK,Z,⟨m,af,ag,S,rfl,T,_,E⟩,Y⟩:=ad.heap.gQ G;cases E _ rfl;have y:=(ad.aT.ok _ Y.more.mem).2;obtain⟨c,K,⟨b',ac,p,t,rfl⟩,N⟩:=ad.heap.gQ O;rw[ab]at p;cases p;rw[S]at t;cases t;have s:=(ad.aT.ok _ N.more.mem).2;obtain⟨e,he,U,V⟩:=T.get D;rw[RD he,show(lN f aB++[e.born]).toArray=(lN f aB).toArray.push e.born by simp]at s;have ba:(f.toArray.toList.map (·.born)).Nodup:=List.Pairwise.imp (λh=>Nat.ne_of_lt h) c7.1;have L:=run_entry_at (P:=X.P) w b m clock (lN f aB).toArray f.toArray clock e s y (by simpa using List.mem_of_getElem? he) ba;refine nu (hM ad.bW k.1 k.2 (dS az) (v:=.tuple #[e.key,e.val]) (w':=w) (by simp[execOp,z,ad.bW.aJ I,L]) λaU C=>?_);exact J R W aD aU _ ⟨aq,env,B,ai,H,F,ad.set (sv:=.cY [g,i]) ⟨[e.key,e.val],rfl,_,_,rfl,U.sa aa,_,_,rfl,V.sa A,rfl⟩ C⟩
end
end
section
section
variable {α β:Type}
def vh(x:α):List α->List (List α)
 |[]=>[[x]]
 |y::l=>(x::y::l)::(vh x l).map (y :: ·)
def perms:List α->List (List α)
 |[]=>[[]]
 |x::l=>(perms l).flatMap (vh x)
theorem RH(x:α)(b:List α):∀a:List α,(a++x::b)∈vh x (a++b)
 |[]=>by cases b<;>simp[vh]
 |y::a=>by
  simp only[cons_append,vh,List.mem_cons,List.mem_map];exact .inr ⟨_,RH x b a,rfl⟩
theorem RI(x:α):∀ {l a:List α},a∈vh x l->a.Perm (x::l)
 |[],a,h=>by simp only[vh,List.mem_singleton]at h;subst h;exact List.Perm.refl _
 |y::l,a,h=>by
  simp only[vh,List.mem_cons,List.mem_map]at h
  rcases h with rfl|⟨c,b,rfl⟩
  ·exact List.Perm.refl _
  ·exact((RI x b).cons y).trans (List.Perm.swap x y l)
theorem Kw:∀ {l c:List α},c.Perm l->c∈perms l
 |[],c,h=>by rw[List.Perm.eq_nil h];simp[perms]
 |x::l,c,h=>by
  obtain⟨a,b,rfl⟩:=List.append_of_mem (h.mem_iff.2 (mem_cons_self));have J:(a++b).Perm l:=(List.perm_middle.symm.trans h).cons_inv;exact List.mem_flatMap.2 ⟨_,Kw J,RH x b a⟩
theorem RJ:∀ {l a:List α},a∈perms l->a.Perm l
 |[],a,h=>by simp only[perms,List.mem_singleton]at h;subst h;exact List.Perm.refl _
 |x::l,a,h=>by
  obtain⟨b,I,J⟩:=List.mem_flatMap.1 h;exact(RI x J).trans ((RJ I).cons x)
def zo[DecidableEq β](l:List α)(f:List α->Option β):Option β:=match f l with
 |some b=>if (perms l).all (λa=>decide (f a=some b))then some b else none
 |none=>none
theorem adp[DecidableEq β]{l:List α}{f:List α->Option β}{b:β}(h:zo l f=some b):∀a,a.Perm l->f a=some b:=by
 intro a c;unfold zo at h
 split at h
 ·rename_i b' e
  split at h
  ·rename_i d
   cases h
   simpa using List.all_eq_true.1 d a (Kw c)
  ·cases h
 ·cases h
theorem adq[DecidableEq β]{l:List α}{f:List α->Option β}{b:β}(h:∀a,a.Perm l->f a=some b):zo l f=some b:=by
 unfold zo;rw[h l (List.Perm.refl _)];dsimp only;rw[if_pos];rw[List.all_eq_true];intro a c;exact decide_eq_true (h a (RJ c))
theorem adr{a:Type}[DecidableEq β]{l:List α}{g:List α->Option a}{f:a->Option β}{r:β}(h:zo l (λq=>(g q).bind f)=some r):∃P:a->Prop,(∀o,P o->f o=some r)/\∀q,q.Perm l->∃o,g q=some o/\P o:=
 ⟨λo=>f o=some r,λ_ h=>h,λq b=>by
  have J:(g q).bind f=some r:=adp h q b;cases aP:g q with
  |none=>rw[aP]at J;cases J
  |some o=>exact⟨o,rfl,by rw[aP]at J;exact J⟩⟩
def ot(n:Nat)(aB:bX):bX:=(range n).filter λj=>!aB.elem j
def sF(l:List α)(aB:bX):List α:=(ot l.length aB).filterMap λj=>l[j]?
theorem ads(l:List α):sF l []=l:=by
 unfold sF ot;have e:(range l.length).filter (λj=>!([]:bX).elem j)=range l.length:=by
  rw[List.filter_eq_self];intro a _
  rfl
 rw[e]
 apply ext_getElem?
 have key:∀(k:Nat),k<=l.length->((range k).filterMap λj=>l[j]?)=l.take k:=by
  intro k
  induction k with
  |zero=>intro _;simp
  |succ k b=>
   intro aa;rw[List.range_succ,List.filterMap_append,b (by omega),List.take_succ_eq_append_getElem (by omega)]
   simp[getElem?_eq_getElem (show k<l.length by omega)]
 intro i;rw[key l.length (le_refl _),List.take_length]
theorem adt{l:List α}{aB:bX}(h:∀j,j<l.length->j∈aB):sF l aB=[]:=by
 have:ot l.length aB=[]:=by
  unfold ot;rw[List.filter_eq_nil_iff];intro a bm;simp only[List.mem_range]at bm
  simpa using h a bm
 rw[sF,this]
 rfl
theorem RK{n j:Nat}{aB:bX}(d:j<n)(ba:j ∉ aB):(j::ot n (aB++[j])).Perm (ot n aB):=by
 have f:j∈ot n aB:=by simp[ot,d,ba]
 have c:(ot n aB).Nodup:=List.Pairwise.sublist filter_sublist List.nodup_range;have e:ot n (aB++[j])=(ot n aB).filter (λi=>!(i==j)):=by
  unfold ot;rw[List.filter_filter]
  apply List.filter_congr
  intro i _
  by_cases I:i=j<;>by_cases J:i∈aB<;>simp[I,J]
 rw[e];obtain⟨a,b,g⟩:=List.append_of_mem f;rw[g]at c ⊢;have az:=List.nodup_cons.1 ((List.perm_middle (a:=j) (l₁:=a) (l₂:=b)).nodup_iff.1 c);have aC:(a++j::b).filter (λi=>!(i==j))=a++b:=by
  rw[List.filter_append,List.filter_cons];simp only[beq_self_eq_true,Bool.not_true,Bool.false_eq_true,if_false];have bm:a.filter (λi=>!(i==j))=a:=List.filter_eq_self.2 λi hi=>by
   have:i≠j:=λe=>az.1 (e ▸ mem_append_left _ hi)
   simpa using this
  have ab:b.filter (λi=>!(i==j))=b:=List.filter_eq_self.2 λi hi=>by
   have:i≠j:=λe=>az.1 (e ▸ mem_append_right _ hi)
   simpa using this
  rw[bm,ab]
 rw[aC];exact List.perm_middle.symm
theorem adu{l:List α}{j:Nat}{aB:bX}{x:α}(an:l[j]?=some x)(ba:j ∉ aB):(x::sF l (aB++[j])).Perm (sF l aB):=by
 have a:j<l.length:=(List.getElem?_eq_some_iff.1 an).1
 have:=(RK a ba).filterMap (λj=>l[j]?)
 rw[List.filterMap_cons,an]at this;exact this
theorem adv{n j:Nat}{aB:bX}(a:j<n)(ba:j ∉ aB):(ot n (aB++[j])).length<(ot n aB).length:=by
 have:=(RK a ba).length_eq
 rw[length_cons]at this;omega
end
end
section
section
variable {X:bz} {M:Bool} {n:Nat} {r:Option Nat} {st:aQ} {Q:Exit->aQ->Prop} {ops rest:List Oper} {o:Oper} {d:Nat}
theorem RL(d:X.aY.ok X.P){c:Bool}{st':aQ}(b:kX X n (eN ops) st o=.ok c st')(U:c=true)(h:gx X M n r ops rest st' Q):gx X M n r ops (o::rest) st Q:=by
 rintro R W aD a w ⟨aq,env,B,ai,H,e,ad⟩;exact nu (sq d b U ad λaU w' env' H' _ f=>h _ _ _ _ _ ⟨aq,env',B,ai,H',e,f⟩)
end
end
section
def Fk(g:aV):Nat->dT->Option (Bool×List g.D×dT)
 |0,r=>some (true,[],r)
 |m+1,r=>match dec g r with
  |some (fD,x,a)=>match Fk g m a with
   |some (cK,l,b)=>some (fD&&cK,x::l,b)
   |none=>none
  |none=>none
section
variable {env:Nat->Loc} {B:Nat->Prop} {w:World}
theorem RM{g:aV}:∀ {m:Nat} {cs:dT} {c:Bool} {l:List g.D} {r:dT} {vs:bY},cZ env B w cs vs->Fk g m cs=some (c,l,r)->c=true->l.length=m/\∃a b,vs=a++b/\Flat (bN B w g) l a/\cZ env B w r b
 |0,cs,c,l,r,vs,h,az,_=>by
  cases az;exact⟨rfl,[],vs,rfl,rfl,h⟩
 |m+1,cs,c,l,r,vs,h,az,U=>by
  simp only[Fk]at az
  split at az
  ·rename_i fD x k I
   split at az
   ·rename_i cK n o J
    cases az;simp only[and_eq_true]at U;obtain⟨a,b,rfl,ag,i⟩:=so h I U.1;obtain⟨ah,d,j,rfl,f,e⟩:=RM i J U.2;exact⟨by rw[length_cons,ah],a++d,j,by rw[append_assoc],⟨a,d,rfl,ag,f⟩,e⟩
   ·cases az
  ·cases az
end
section
variable {X:bz} {R:Nat->Prop} {W:World} {aD:fk} {n:Nat} {aq:bX} {env:Nat->Loc} {B:Nat->Prop} {ai:World} {H:cI} {st st':aQ} {a:Act} {w:World}
end
def o4:Option Nat->Nat->Option Nat
 |some c,k=>cond (ble k c) (some c) none
 |none,_=>none
section
variable {X:bz} {M:Bool} {n:Nat} {r:Option Nat} {st:aQ} {Q:Exit->aQ->Prop} {ops rest:List Oper} {o:Oper} {d:Nat}
theorem BQ(k:Nat)(e:X.aY.ok X.P){c':Bool}{st':aQ}{l:List Oper}(h:nB X n (eN ops) (l.take k) true st=.done c' st')(U:c'=true)(b:gx X M n r ops (l.drop k) st' Q):gx X M n r ops l st Q:=by
 have:∀(k:Nat) (l:List Oper) (c:Bool) (st:aQ),nB X n (eN ops) (l.take k) c st=.done c' st'->gx X M n r ops (l.drop k) st' Q->gx X M n r ops l st Q:=by
  intro k
  induction k with
  |zero=>intro l c st h b;simp only[List.take_zero,nB]at h;cases h;exact b
  |succ k f=>
   intro l c st h b;cases l with
   |nil=>simp only[List.take_nil,nB]at h;cases h;exact b
   |cons o l=>
    simp only[List.take_succ_cons,nB]at h
    split at h
    ·rename_i cK j d
     have J:=JX h U;simp only[and_eq_true]at J;rintro R W aD a w ⟨aq,env,B,ai,H,g,ad⟩;exact nu (sq e d J.2 ad λaU w' env' H' _ i=>f l _ _ h b _ _ _ _ _ ⟨aq,env',B,ai,H',g,i⟩)
    ·cases h
 exact this k l true st h b
theorem RN(p:X.aY.ok X.P){t e:TypeId}{x y:Operand}{F g2:Bool}{ei:bp}{id k L:Nat}{u g:aV}{l f:List g.D}{cap:Option Nat}{bB:cv}{aL:TypeDesc}{v:Value}(S:o.op=.call ⟨.builtin .append,⟨[x,y]⟩,⟨[t,t]⟩⟩)(ad:o.guard=none/\o.dst=some d)(az:(blt d n&&blt id iG)=true)(bg:X.aY.find t=some bB)(dm:bB.aK.desc=.slice e)(he:X.aY.find e=some ⟨⟨aL,k,L,v⟩,some u⟩)(an:bx X st.L x=some (F,.c (.aI id)))(Y:F=true)(aG:bx X st.L y=some (g2,ei))(aj:g2=true)(ac:bj st.H id=some (.row e g l cap))(ag:beq g.size k=true)(aw:nz st g ei=some f)(U:dA L (l.length+f.length)=true)(af:gx X M n r ops rest ⟨(d,.c (.aI id))::gu id .dead st.L,(id,.row e g (l++f) (o4 cap (l.length+f.length)))::eE id .dead st.H⟩ Q):gx X M n r ops (o::rest) st Q:=by
 rintro R W aD a w ⟨aq,env,B,ai,H,Z,h⟩;obtain⟨vx,ao,av⟩:=h.aJ an Y;obtain⟨vy,am,au⟩:=h.aJ aG aj;obtain⟨s,D,ar⟩:=(cb.get p he).g u rfl;obtain⟨T,aa,I,C⟩:=n4 (cb.get p bg).aK (cb.get p he).aK;dsimp only at s D C;have ax:v.cells.size=k:=by
  have:v.cells.toList.length=k:=by rw[D,<- s];exact bN.length (bN.ff (B:=B) (w:=ai) u)
  simpa using this
 simp only[and_eq_true]at az;obtain⟨az,aA⟩:=az;have J:=eq_of_beq_eq_true ag;simp only[dA,and_eq_true,decide_eq_true_eq]at U;obtain⟨aC,cK,ap,rfl,N,G⟩:=tu h aw au;obtain⟨A,c,m,O,rfl⟩:=av;obtain⟨eQ,K,⟨j,k',xs,P,rfl,ae,al⟩,E,ay⟩:=h.EH (b':=.row e g (l++f) (o4 cap (l.length+f.length))) ac (λq ak=>by
  obtain⟨_,z,a7⟩:=h.dP _ _ ak;rw[O]at z
  rcases a7 with⟨b,a7⟩|a7
  ·rw[<- z]at a7;cases a7
  ·have:=dS aA;omega)
 rw[O]at P;cases P;rw[J]at E G;refine nu (PX h.sym S ad az aa I dm C (by rw[<- s];exact Nat.ble_eq_true_of_le ar) ax ao am E G (Flat.jH (λ_ _=>bN.jH) N) U.1 U.2 λj c' aU w' aB bE=>?_);obtain⟨H',aE,ah⟩:=ay (.row j c' (l.length+f.length)) _ aU w' (.c (.aI id)) _ ⟨j,c',xs++ap,by rw[fx,length_append],by rw[length_append],ae.append N,λq i=>by
  cases cap with
  |none=>cases i
  |some cc=>
   have V:=al cc rfl;subst V;cases ab:ble (l.length+f.length) c with
   |true=>
    simp only[o4,ab,cond_true,Option.some.injEq]at i;subst i;exact aB (le_of_ble_eq_true ab)
   |false=>simp only[o4,ab,cond_false]at i;cases i⟩ ⟨j,c',_,fx,rfl⟩ (by rw[J];exact bE.aT) bE.st
 exact af R W aD aU w' ⟨aq,_,B,ai,H',Z,ah⟩
end
end
section
def aV.key:aV->Bool
 |.int _=>true
 |.bool=>true
 |.str=>true
 |.pair g h=>g.key&&h.key
 |_=>false
def aV.c1:(g:aV)->g.D->bY
 |.int k,x=>[.int k x]
 |.bool,x=>[.bool x]
 |.str,x=>[ga x]
 |.pair g h,x=>g.c1 x.1++h.c1 x.2
 |_,_=>[]
theorem bN.c1{B:Nat->Prop}{w:World}:∀ {g:aV} {x:g.D} {vs:bY},g.key=true->bN B w g x vs->vs=g.c1 x
 |.int _,_,_,_,h=>h
 |.bool,_,_,_,h=>h
 |.str,_,_,_,h=>h
 |.aI _,_,_,h,_=>by cases h
 |.ie _,_,_,h,_=>by cases h
 |.unit,_,_,h,_=>by cases h
 |.fn,_,_,h,_=>by cases h
 |.pair g h,x,_,aa,⟨a,b,e,I,J⟩=>by
  simp only[aV.key,and_eq_true]at aa;rw[e,bN.c1 aa.1 I,bN.c1 aa.2 J]
  rfl
theorem beq_iff{g:aV}(x y:g.D)(aa:g.key=true):g.beq x y=true↔x=y:=by
 induction g with
 |int k=>show((x:Int)==y)=true↔_;simp
 |bool=>show((x:Bool)==y)=true↔_;simp
 |str=>show((x:dU)==y)=true↔_;simp
 |aI g _=>cases aa
 |ie g _=>cases aa
 |unit=>cases aa
 |fn=>cases aa
 |pair g h c d=>
  simp only[aV.key,and_eq_true]at aa;show(g.beq x.1 y.1&&h.beq x.2 y.2)=true↔_;rw[and_eq_true,c _ _ aa.1,d _ _ aa.2];exact⟨λ⟨a,b⟩=>Prod.ext a b,λe=>by rw[e];exact⟨rfl,rfl⟩⟩
structure vi(P:Program)(t:TypeId)(g:aV):Prop where
 key:g.key=true
 eq:∀(x y:g.D) (w:World),(Op.equalIn 10000 t (.agg (g.c1 x).toArray) (.agg (g.c1 y).toArray)).run P w=.ok (g.beq x y) w
 guard:P.eqGuardType P.depth t=false
def aV.zp:aV->Nat->Bool
 |.int _,0=>true
 |.bool,1=>true
 |.str,2=>true
 |_,_=>false
def k4(e:TypeId->aV->Bool):Nat->List Field->aV->Bool
 |_,[],_=>false
 | off, [f], g => decide (f.name ≠ "_") && (beq f.offset off && e f.type g)
 | off, f :: du, .pair g h => decide (f.name ≠ "_") && (beq f.offset off && (e f.type g && k4 e (off + g.size) du h))
 |_,_,_=>false
def mq(P:Program)(aY:cb):Nat->TypeId->aV->Bool
 |0,_,_=>false
 |d+1,t,g=>match aY.find t with
  |none=>false
  |some bB=>match bB.aK.desc with
   |.int _=>g.zp 0
   |.bool=>g.zp 1
   |.string=>g.zp 2
   |.struct du=>beq bB.aK.size g.size&&(!P.stoodInHeld t&&k4 (mq P aY d) 0 du.toList g)
   |_=>false
def rC(aY:cb)(t:TypeId)(vs:bY):Value:=match aY.find t with
 |some bB=>match mN bB.aK.desc with
  |true=>.agg vs.toArray
  |false=>vs.headD undef
 |none=>undef
theorem zq:∀ {g:aV} (x:g.D),g.key=true->(g.c1 x).length=g.size
 |.int _,_,_=>rfl
 |.bool,_,_=>rfl
 |.str,_,_=>rfl
 |.aI _,_,h=>by cases h
 |.ie _,_,h=>by cases h
 |.unit,_,h=>by cases h
 |.fn,_,h=>by cases h
 |.pair g h,x,aa=>by
  simp only[aV.key,and_eq_true]at aa;show(g.c1 x.1++h.c1 x.2).length=g.size+h.size;rw[length_append,zq x.1 aa.1,zq x.2 aa.2]
theorem zr{P:Program}{aY:cb}(f:aY.ok P){d:Nat}{t:TypeId}{g:aV}{x:g.D}{xs:Array Value}{off:Nat}{r:bY}(aa:g.key=true)(he:mq P aY d t g=true)(an:xs.toList.drop off=g.c1 x++r)(w:World):(part t xs off).run P w=.ok (rC aY t (g.c1 x)) w:=by
 cases d with
 |zero=>cases he
 |succ d=>
  unfold mq at he;cases aC:aY.find t with
  |none=>simp[aC]at he
  |some bB=>
   rw[aC]at he;dsimp only at he;have hn:=(cb.get f aC).aK;have I:∀v,g.c1 x=[v]->xs[off]?=some v:=λv a=>by
    have J:(xs.toList.drop off)[0]?=some v:=by rw[an,a];rfl
    simpa using J
   unfold part;simp only[Sem.run_bind,bK.A2 hn,Result.andThen_ok];unfold rC;rw[aC];dsimp only;have b:∀q,g.zp q=true->∃v,g.c1 x=[v]:=λq e=>by
    cases g with
    |int k=>exact⟨_,rfl⟩
    |bool=>exact⟨_,rfl⟩
    |str=>exact⟨_,rfl⟩
    |aI _=>cases aa
    |ie _=>cases aa
    |unit=>cases aa
    |fn=>cases aa
    |pair _ _=>cases q<;>cases e
   split at he
   ·rename_i az
    obtain⟨v,a⟩:=b _ he;rw[az,I v a,a]
    rfl
   ·rename_i az
    obtain⟨v,a⟩:=b _ he;rw[az,I v a,a]
    rfl
   ·rename_i az
    obtain⟨v,a⟩:=b _ he;rw[az,I v a,a]
    rfl
   ·rename_i du az
    simp only[and_eq_true]at he;rw[az];have c:=eq_of_beq_eq_true he.1;simp only[mN,if_true,Sem.run_bind,bK.run_sizeOf hn,Result.andThen_ok,Sem.run_pure,c];have ag:xs.extract off (off+g.size)=(g.c1 x).toArray:=by
     apply Array.toList_inj.1
     rw[Array.toList_extract,List.extract_eq_take_drop,an,Nat.add_sub_cancel_left,List.take_left' (zq x aa)]
    rw[ag]
   ·cases he
theorem adw{P:Program}{aY:cb}(av:aY.ok P){k d:Nat}(bD:∀t (g:aV) (x y:g.D) w,g.key=true->mq P aY k t g=true->(Op.equalIn d t (rC aY t (g.c1 x)) (rC aY t (g.c1 y))).run P w=.ok (g.beq x y) w) :
  ∀(du:List Field) (off:Nat) (g:aV) (x y:g.D) (xs ys:Array Value) (w:World),g.key=true->k4 (mq P aY k) off du g=true->xs.toList.drop off=g.c1 x->ys.toList.drop off=g.c1 y->(Op.eqFields d xs ys du).run P w=.ok (g.beq x y) w:=by
 intro du
 induction du with
 |nil=>intro off g x y xs ys w _ h;simp[k4]at h
 |cons f du BR=>
  intro off g x y xs ys w aa h an aG;cases du with
  |nil=>
   have aR : (decide (f.name ≠ "_") && (beq f.offset off && mq P aY k f.type g)) = true := by
    cases g<;>exact h
   simp only[and_eq_true,decide_eq_true_eq]at aR;obtain⟨ba,bh,he⟩:=aR;have bh:=eq_of_beq_eq_true bh;simp only[Op.eqFields,if_pos ba,Sem.run_bind,bh,zr av aa he (by rw[an,append_nil]),zr av aa he (by rw[aG,append_nil]),Result.andThen_ok,bD _ _ _ _ _ aa he];cases g.beq x y<;>simp
  |cons f2 du=>
   cases g with
   |pair g J=>
    have aR : (decide (f.name ≠ "_") && (beq f.offset off && (mq P aY k f.type g && k4 (mq P aY k) (off + g.size) (f2 :: du) J))) = true := h
    simp only[and_eq_true,decide_eq_true_eq]at aR;obtain⟨ba,bh,he,ax⟩:=aR;have bh:=eq_of_beq_eq_true bh;simp only[aV.key,and_eq_true]at aa;have o5:xs.toList.drop off=g.c1 x.1++J.c1 x.2:=an;have iu:ys.toList.drop off=g.c1 y.1++J.c1 y.2:=aG;have pN:=BR (off+g.size) J x.2 y.2 xs ys w aa.2 ax (by rw[<- drop_drop,o5,<- zq x.1 aa.1,List.drop_left]) (by rw[<- drop_drop,iu,<- zq y.1 aa.1,List.drop_left]);show _=Result.ok (g.beq x.1 y.1&&J.beq x.2 y.2) w;rw[Op.eqFields,if_pos ba];simp only[Sem.run_bind,bh,zr av aa.1 he o5,zr av aa.1 he iu,Result.andThen_ok,bD _ _ _ _ _ aa.1 he];cases ab:g.beq x.1 y.1 with
    |true=>simpa using pN
    |false=>simp
   |int _=>simp[k4]at h
   |bool=>simp[k4]at h
   |str=>simp[k4]at h
   |aI _=>simp[k4]at h
   |ie _=>simp[k4]at h
   |unit=>simp[k4]at h
   |fn=>simp[k4]at h
theorem adx{P:Program}{aY:cb}(b:aY.ok P)(m:Nat):∀(k:Nat) (t:TypeId) (g:aV) (x y:g.D) (w:World),g.key=true->mq P aY k t g=true->(Op.equalIn (m+k) t (rC aY t (g.c1 x)) (rC aY t (g.c1 y))).run P w=.ok (g.beq x y) w:=by
 intro k
 induction k with
 |zero=>intro t g x y w _ h;cases h
 |succ k d=>
  intro t g x y w aa h;unfold mq at h;cases aC:aY.find t with
  |none=>simp[aC]at h
  |some bB=>
   rw[aC]at h;dsimp only at h;have hn:=(cb.get b aC).aK;have a:=hn.1;unfold rC;rw[aC];dsimp only
   split at h
   ·rename_i e az
    rw[az]at a ⊢;cases g with
    |int k=>exact run_equalIn_int w _ t _ _ _ _ a
    |_=>cases h
   ·rename_i az
    rw[az]at a ⊢;cases g with
    |bool=>exact run_equalIn_bool w _ t _ _ a
    |_=>cases h
   ·rename_i az
    rw[az]at a ⊢;cases g with
    |str=>
     have:=run_equalIn_string w (m+k) t ⟨toArray x⟩ ⟨toArray y⟩ a
     simp only[A9]at this;exact this
    |_=>cases h
   ·rename_i du az
    rw[az]at a ⊢;simp only[and_eq_true,not_eq_true']at h;have c:P.underlying t=some (.struct du.toList.toArray):=by simpa using a
    show(Op.equalIn (m+k+1) t (.agg _) (.agg _)).run P w=_;rw[aaj w (m+k) t _ _ c h.2.1];exact adw b d du.toList 0 g x y _ _ w aa h.2.2 (by simp) (by simp)
   ·cases h
theorem vi.of{P:Program}{aY:cb}(b:aY.ok P){t:TypeId}{bB:cv}{g:aV}{du:Array Field}(aa:g.key=true)(aC:aY.find t=some bB)(az:bB.aK.desc=.struct du)(h:mq P aY 12 t g=true)(a:P.eqGuardType P.depth t=false):vi P t g:=by
 refine⟨aa,λx y w=>?_,a⟩
 have:=adx b 9988 12 t g x y w aa h
 unfold rC at this;rw[aC]at this;dsimp only at this;rw[az]at this;exact this
section
variable {X:bz} {M:Bool} {n:Nat} {r:Option Nat} {st:aQ} {Q:Exit->aQ->Prop} {ops rest:List Oper} {o:Oper} {d:Nat}
theorem cZ.c1{env:Nat->Loc}{B:Nat->Prop}{w:World}{g:aV}{cs:dT}{x:g.D}{c:Bool}{v:Value}(aa:g.key=true)(I:eb env B w (.agg cs) v)(az:dec g cs=some (c,x,[]))(U:c=true):v=.agg (g.c1 x).toArray:=by
 obtain⟨vs,rfl,I⟩:=I;obtain⟨d,e,a,aC,J⟩:=so I az U;have b:=J;subst b;rw[append_nil]at a;subst a;rw[bN.c1 aa aC]
end
end
section
open Go.ChangeShapes Go.WideShapes Go.ChangeAt Go.WideElems Go.RowKit
def tL:(g:aV)->g.D->Prop
 |.int k,(x:Int)=>k.min<=x/\x<=k.max
 |.aI g,(l:List g.D)=>∀y∈l,tL g y
 |.pair g h,x=>tL g x.1/\tL h x.2
 |_,_=>True
def w5(aY:cb)(t:TypeId)(n:Nat):Bool:=match aY.find t with
 |some bB=>beq bB.aK.size n
 |none=>false
def qy(aY:cb)(e:TypeId->aV->Bool):Nat->List Field->aV->Bool
 |_,[],_=>false
 |off,[f],g=>beq f.offset off&&(w5 aY f.type g.size&&e f.type g)
 |off,f::du,.pair g h=>beq f.offset off&&(w5 aY f.type g.size&&(e f.type g&&qy aY e (off+g.size) du h))
 |_,_,_=>false
def qz(aY:cb)(e:TypeId->aV->Bool)(t:TypeId)(s:Nat):Nat->aV->Bool
 |0,_=>false
 |1,g=>beq g.size s&&e t g
 |n+1,.pair g h=>beq g.size s&&(e t g&&qz aY e t s n h)
 |_,_=>false
def aV.adz:aV->IntKind->Bool
 |.int k,k'=>decide (k=k')
 |_,_=>false
def zt(aY:cb):Nat->TypeId->aV->Bool
 |0,_,_=>false
 |d+1,t,g=>match aY.find t with
  |none=>false
  |some bB=>match bB.aK.desc with
   |.int k=>g.adz k
   |.bool=>g.zp 1
   |.string=>g.zp 2
   |.slice e=>match g with
    |.aI h=>blt 0 h.size&&(w5 aY e h.size&&zt aY d e h)
    |_=>false
   |.struct du=>beq bB.aK.size g.size&&qy aY (zt aY d) 0 du.toList g
   |.array n e=>beq bB.aK.size g.size&&(match aY.find e with
    |some dQ=>qz aY (zt aY d) e dQ.aK.size n g
    |none=>false)
   |_=>false
section
variable {H:Type} {enc:TypeId×Value->H} {P:Program} {W:World} {aY:cb}
theorem Ky(a:aY.ok P){t:TypeId}{bB:cv}(h:aY.find t=some bB):P.cellsOf t=bB.aK.size:=by
 obtain⟨x,I,J,_⟩:=bK.info (cb.get a h).aK;unfold Program.cellsOf;rw[I];exact J
theorem Kz(a:aY.ok P){t:TypeId}{n:Nat}(h:w5 aY t n=true):P.cellsOf t=n:=by
 unfold w5 at h
 split at h
 ·rename_i bB aC
  rw[Ky a aC];exact eq_of_beq_eq_true h
 ·cases h
theorem adA{g:aV}{R:g.D->Prop}(d:0<g.size){t e:TypeId}(bg:P.underlying t=some (.slice e))(U:P.cellsOf e=g.size)(H:zi enc P W e g R):zi enc P W t (.aI g) (λ(l:List g.D)=>∀y∈l,R y):=λk cs x aC=>by
 let α:={ p:g.D×bY // R p.1/\bN (λb=>b<W.heap.size) W g p.1 p.2 }
 let f:α->bY:=λp=>p.1.2
 have c:∀x:α,(f x).length=g.size:=λx=>x.2.2.length
 rcases DataW.trod_slice bg aC with⟨h,_⟩|⟨a,len,cap,elems,rest,n,_,h,_,_,ah,s,hlen,sD,_,_⟩
 ·subst h
  exact⟨([]:List g.D),(λy aG=>by cases aG),none,0,[],rfl,le_refl _,Nat.zero_le _,rfl,Reads.nil _ _ _,λ_ _ h=>absurd h (Nat.lt_irrefl _)⟩
 ·subst h
  rw[U]at sD;obtain⟨l,m,z⟩:=P8 (Q:=λi (y:α)=>∀j,j<g.size->W.cell? ((a.add (i * g.size)).add j)=(f y)[j]?) len (λi hi=>by
   have I:=sD i hi;have J:elems[i]?=some (elems[i]'(by omega)):=getElem?_eq_getElem (by omega);rw[J,Option.bind_eq_some_iff]at I;obtain⟨cs,ag,A⟩:=I;obtain⟨y,K,F⟩:=H _ _ _ A;exact⟨⟨(y,cs),K,F⟩,(World.cells?_some ag).2.2⟩)
  have r:Reads W (some a) len g.size (l.flatMap f):=by
   refine⟨by rw[rb f g.size c,m],λN=>?_⟩;have bF:=z 0 (by omega) 0 d;have L:W.cell? a=some ((f l[0])[0]'(by rw[c];exact d)):=by
    have E:(a.add (0 * g.size)).add 0=a:=by simp[Addr.add]
    rw[E,getElem?_eq_getElem (by rw[c];exact d)]at bF;exact bF
   have C:=aaG L;refine⟨a.block,a.off,congrArg some C,λj u hu=>?_⟩;have D:j<len * g.size:=by have:=(List.getElem?_eq_some_iff.1 hu).1;rwa [rb f g.size c,m]at this
   have hdiv:j / g.size<len:=(Nat.div_lt_iff_lt_mul d).2 D;have o:=Nat.mod_lt j d;have q:=z (j / g.size) (by omega) (j % g.size) o;rw[C,Addr.add_lit,Addr.add_lit,getElem?_eq_getElem (by rw[c];exact o)]at q;have w:=aaF f g.size c l (j / g.size) (j % g.size) (by omega) _ (getElem?_eq_getElem (by rw[c];exact o));have v:j / g.size * g.size+j % g.size=j:=by rw[Nat.mul_comm];exact Nat.div_add_mod j g.size
   rw[v,hu]at w;rw[add_assoc,v]at q;rw[q,w]
  refine⟨l.map (·.1.1),λx an=>?_,some a,cap,l.flatMap f,by rw[length_map,m],by rw[length_map,m];exact ah,s,Rz l,by rw[length_map,m];exact r,λb p s e=>?_⟩
  ·obtain⟨p,_,rfl⟩:=List.mem_map.1 an
   exact p.2.1
  ·rw[length_map]at s
   obtain⟨b',M,B,G⟩:=r.2 (by omega);rw[e]at B;cases B;cases an:(l.flatMap f)[0]? with
   |some u=>exact ac1 (G 0 u an)
   |none=>
    exfalso
    have ag:=r.1;rw[List.getElem?_eq_none_iff]at an;have A:0<len * g.size:=Nat.mul_pos (by omega) d;omega
theorem adB(j:aY.ok P){e:TypeId->aV->Bool}(k:∀t g,e t g=true->zi enc P W t g (tL g)):∀(du:List Field) (off:Nat) (g:aV) (cs:bY),qy aY e off du g=true->cs.length=off+g.size ->
  (∀f∈du,∃m x,DataW.trod enc P W 0 (λ_=>true) true m f.type ((cs.drop f.offset).take (P.cellsOf f.type))=some x)->∃y:g.D,tL g y/\bN (λb=>b<W.heap.size) W g y (cs.drop off):=by
 intro du
 induction du with
 |nil=>intro off g cs h;simp[qy]at h
 |cons f du l=>
  intro off g cs h ah aC;cases du with
  |nil=>
   have c:(beq f.offset off&&(w5 aY f.type g.size&&e f.type g))=true:=by
    cases g<;>exact h
   simp only[and_eq_true]at c;obtain⟨a,d,he⟩:=c;have a:=eq_of_beq_eq_true a;obtain⟨m,x,an⟩:=aC f mem_cons_self;obtain⟨y,I,J⟩:=k _ _ he _ _ _ an;rw[a,Kz j d,List.take_of_length_le (by rw[length_drop];omega)]at J;exact⟨y,I,J⟩
  |cons s du=>
   cases g with
   |pair g J=>
    have c:(beq f.offset off&&(w5 aY f.type g.size&&(e f.type g&&qy aY e (off+g.size) (s::du) J)))=true:=h;simp only[and_eq_true]at c;obtain⟨a,d,he,r⟩:=c;have a:=eq_of_beq_eq_true a;have w:cs.length=off+(g.size+J.size):=ah;obtain⟨m,x,an⟩:=aC f mem_cons_self;obtain⟨v,ag,i⟩:=k _ _ he _ _ _ an;rw[a,Kz j d]at i;obtain⟨u,o,n⟩:=l (off+g.size) J cs r (by omega) (λq p=>aC q (mem_cons_of_mem _ p));refine⟨(v,u),⟨ag,o⟩,_,_,?_,i,n⟩;rw[<- drop_drop,List.take_append_drop]
   |int _=>simp[qy]at h
   |bool=>simp[qy]at h
   |str=>simp[qy]at h
   |aI _=>simp[qy]at h
   |ie _=>simp[qy]at h
   |unit=>simp[qy]at h
   |fn=>simp[qy]at h
theorem adC{e:TypeId->aV->Bool}{t:TypeId}{s:Nat}(f:∀g,e t g=true->zi enc P W t g (tL g)):∀(n:Nat) (a:Nat) (g:aV) (cs:bY),qz aY e t s n g=true->cs.length=a * s+g.size ->
  (∀i,i<n->∃m x,DataW.trod enc P W 0 (λ_=>true) true m t ((cs.drop ((a+i) * s)).take s)=some x)->∃y:g.D,tL g y/\bN (λb=>b<W.heap.size) W g y (cs.drop (a * s)):=by
 intro n
 induction n with
 |zero=>intro a g cs h;simp[qz]at h
 |succ n l=>
  intro a g cs h ah aC;cases n with
  |zero=>
   have c:(beq g.size s&&e t g)=true:=by
    cases g<;>exact h
   simp only[and_eq_true]at c;obtain⟨d,he⟩:=c;have d:=eq_of_beq_eq_true d;obtain⟨m,x,an⟩:=aC 0 (by omega);obtain⟨y,I,J⟩:=f _ he _ _ _ an;rw[Nat.add_zero,List.take_of_length_le (by rw[length_drop];omega)]at J;exact⟨y,I,J⟩
  |succ n=>
   cases g with
   |pair g J=>
    have c:(beq g.size s&&(e t g&&qz aY e t s (n+1) J))=true:=h;simp only[and_eq_true]at c;obtain⟨d,he,p⟩:=c;have d:=eq_of_beq_eq_true d;have u:cs.length=a * s+(g.size+J.size):=ah;obtain⟨m,x,an⟩:=aC 0 (by omega);obtain⟨r,ag,o⟩:=f _ he _ _ _ an;obtain⟨q,k,j⟩:=l (a+1) J cs p (by rw[add_mul];omega) (λi hi=>by
     have:=aC (i+1) (by omega)
     rw[show a+1+i=a+(i+1) by omega];exact this)
    refine⟨(r,q),⟨ag,k⟩,_,_,?_,o,j⟩;rw[Nat.add_zero,add_mul,Nat.one_mul,<- drop_drop,List.take_append_drop]
   |int _=>simp[qz]at h
   |bool=>simp[qz]at h
   |str=>simp[qz]at h
   |aI _=>simp[qz]at h
   |ie _=>simp[qz]at h
   |unit=>simp[qz]at h
   |fn=>simp[qz]at h
theorem adE(c:aY.ok P):∀(d:Nat) (t:TypeId) (g:aV),zt aY d t g=true->zi enc P W t g (tL g):=by
 intro d
 induction d with
 |zero=>intro t g h;cases h
 |succ d l=>
  intro t g h k cs x an;unfold zt at h;cases aC:aY.find t with
  |none=>simp[aC]at h
  |some bB=>
   rw[aC]at h;dsimp only at h;have hn:=(cb.get c aC).aK;have a:=hn.1;have B:=Ky c aC
   split at h
   ·rename_i w az
    rw[az]at a;cases g with
    |int u=>
     have:u=w:=of_decide_eq_true h
     subst this;exact ac0 a k cs x an
    |_=>cases h
   ·rename_i az
    rw[az]at a;cases g with
    |bool=>
     obtain⟨b,rfl,_⟩:=DataW.trod_bool a an;exact⟨b,trivial,rfl⟩
    |_=>cases h
   ·rename_i az
    rw[az]at a;cases g with
    |str=>
     obtain⟨s,rfl,_⟩:=DataW.trod_string a an;exact⟨s.data.toList,trivial,rfl⟩
    |_=>cases h
   ·rename_i e az
    rw[az]at a;cases g with
    |aI g=>
     simp only[and_eq_true]at h;exact adA (dS h.1) a (Kz c h.2.1) (l _ _ h.2.2) k cs x an
    |_=>cases h
   ·rename_i du az
    rw[az]at a;simp only[and_eq_true]at h;have r:=eq_of_beq_eq_true h.1;obtain⟨xs,n,_,_,v,z,j⟩:=DataW.trod_struct a an;obtain⟨y,I,J⟩:=adB c l du.toList 0 g cs h.2 (by omega) (λf p=>by
     obtain⟨i,hi,rfl⟩:=List.mem_iff_getElem.1 p;have A:i<du.size:=by simpa using hi
     have ag:=j i du[i] (Array.getElem?_eq_getElem A);rw[getElem?_eq_getElem (by omega)]at ag;exact⟨n,_,by simpa using ag⟩)
    exact⟨y,I,J⟩
   ·rename_i n e az
    rw[az]at a;simp only[and_eq_true]at h;have r:=eq_of_beq_eq_true h.1;obtain⟨xs,m,_,_,v,z,j⟩:=DataW.trod_array a an;have J:=h.2
    split at J
    ·rename_i dQ q
     rw[Ky c q]at j;obtain⟨y,I,ag⟩:=adC (λg o=>l e g o) n 0 g cs J (by omega) (λi hi=>by
      have ag:=j i hi;rw[getElem?_eq_getElem (by omega)]at ag;rw[zero_add];exact⟨m,_,ag⟩)
     rw[Nat.zero_mul]at ag;exact⟨y,I,ag⟩
    ·cases J
   ·cases h
theorem adH(f:aY.ok P){t:TypeId}{bB:cv}{g:aV}(aC:aY.find t=some bB)(bm:mN bB.aK.desc=true)(h:zt aY 12 t g=true){r:Reach}{cL:Nat}{v:Value}{d:DataW H}{aB:List MemPlace}(a:Value.okWide P W r cL t v)(az:DataW.Trod enc P W 0 (λ_=>true) true t v d aB) :
  ∃y:g.D,tL g y/\∀env aL,pB g y 0 g.size=some aL->eb env (λb=>b<W.heap.size) W (.agg aL) v:=by
 have hn:=(cb.get f aC).aK;obtain⟨cs,rfl⟩:∃cs,v=.agg cs:=by
  have k:=hn.1;unfold Value.okWide at a;rw[k]at a;cases BS:bB.aK.desc with
  |struct du=>rw[BS]at a;obtain⟨cs,e,_⟩:=a;exact⟨cs,e⟩
  |array n e=>rw[BS]at a;obtain⟨cs,e,_⟩:=a;exact⟨cs,e⟩
  |_=>rw[BS]at bm;cases bm
 obtain⟨n,ba⟩:=az;obtain⟨y,I,J⟩:=adE f 12 t g h n _ _ ba;refine⟨y,I,λenv aL i=>?_⟩;obtain⟨us,ak,U⟩:=bN.cells J i;have ah:cs.toList.length=g.size:=J.length;have hu:us=cs.toList:=by
  refine ext_getElem? λj=>?_
  by_cases c:j<us.length
  ·have:=ak.2 j _ (getElem?_eq_getElem c)
   rw[zero_add]at this;rw[getElem?_eq_getElem c];exact this.symm
  ·rw[getElem?_eq_none (by omega),getElem?_eq_none (by rw[ah];have:=ak.1;omega)]
 subst hu;exact⟨cs.toList,rfl,U⟩
end
abbrev aS:aV:=.pair (.int .u8) (.int .i64)
abbrev ae:Type:=Int×Int
abbrev b7:=List ae
abbrev bV:=List b7
abbrev Fl:aV:=.pair (.int .u8) (.aI (.int .u8))
abbrev Fm:Type:=Int×bZ
abbrev mZ:aV:=.pair (.int .i64) (.aI (.int .u8))
abbrev lX:Type:=Int×bZ
abbrev eV:aV:=.pair .bool (.pair .bool (.pair .bool .bool))
abbrev RP:Type:=Bool×(Bool×(Bool×Bool))
abbrev eF:aV:=.pair aS (.pair .bool (.int .u8))
abbrev cU:Type:=ae×(Bool×Int)
abbrev eg:=List cU
abbrev hK:aV:=.pair aS aS
abbrev e9:Type:=ae×ae
abbrev adJ:aV:=.pair (.aI aS) (.aI aS)
abbrev adK:Type:=b7×b7
abbrev cO:aV:=.pair aS (.pair aS (.int .i64))
abbrev b3:Type:=ae×(ae×Int)
abbrev ed:=List b3
abbrev fW:aV:=.pair (.aI (.aI aS)) (.aI (.aI aS))
abbrev h3:Type:=bV×bV
abbrev zu:aV:=.pair (.int .i64) (.pair .bool (.aI eF))
abbrev KB:Type:=Int×(Bool×eg)
abbrev df:aV:=.pair (.int .u8) (.pair (.int .u8) hK)
abbrev bH:Type:=Int×(Int×e9)
abbrev c9:=List bH
abbrev b5:aV:=.pair .bool (.pair (.int .i64) zu)
abbrev bq:Type:=Bool×(Int×KB)
abbrev dd:=List bq
abbrev cE:aV:=.pair (.int .u8) (.pair .bool (.pair (.aI aS) (.aI eF)))
abbrev bA:Type:=Int×(Bool×(b7×eg))
abbrev dv:=List bA
abbrev cj:=List dv
abbrev w7:aV:=.pair (.aI (.aI cE)) (.pair (.aI cO) adJ)
abbrev o7:Type:=cj×(ed×adK)
abbrev pT:aV:=.pair (.int .i64) (.pair fW (.pair (.aI b5) w7))
abbrev lY:Type:=Int×(h3×(dd×o7))
end
section
section
variable {env:Nat->Loc} {B:Nat->Prop} {w:World}
end
def aV.tN:aV->Bool
 |.pair _ _=>true
 |_=>false
theorem ez.adL{B:Nat->Prop}{w:World}{g:aV}{x:g.D}{vs:bY}(h:bN B w g x vs)(ak:g.tN=true):ez B w g x (.agg vs.toArray):=by
 cases g with
 |pair a b=>exact⟨vs,rfl,h⟩
 |_=>cases ak
theorem ez.adM{B:Nat->Prop}{w:World}{g:aV}{x:g.D}{v:Value}(h:bN B w g x [v])(ak:g.tN=false):ez B w g x v:=by
 cases g with
 |pair a b=>cases ak
 |_=>exact h
section
variable {X:bz} {M:Bool} {n:Nat} {r:Option Nat} {st:aQ} {Q:Exit->aQ->Prop} {ops rest:List Oper} {o:Oper} {d:Nat}
end
end
section
section
variable {P:Program} {b:Frame} {a:Act} {k:List Item} {cs:List Frame} {w:World} {Q:Exit->Act->World->Prop} {F:Fence} {n:Nat}
theorem BT{c:Code}:step P (lone (b.atR a (.code (.scope c)::k)) cs w)=.next (lone (b.atR a (.code c :: .inScope c::k)) cs w):=
 step_lone_go (by simp[stepG,stepG.exec,Frame.atR])
theorem adN{c:Code}:step P (lone (b.atR a (.inScope c::k)) cs w)=.next (lone (b.atR a k) cs w):=
 step_lone_go (by simp[stepG,stepG.exec,Frame.atR])
theorem adO{c:Code}(h:c.wpIn F n P (Exit.noGoto Q) a w):(Code.scope c).wpIn F n P Q a w:=by
 intro b k cs o ab j;have i:(lone (b.atR a (.code (.scope c)::k)) cs w).fenced P F:=fenced_calm ab j rfl;obtain⟨e,m,g,d,f⟩:=h b (.inScope c::k) cs o ab j;have an:∀id,exitTo id (.inScope c::k)=exitTo id k:=λid=>by simp[exitTo]
 cases e with
 |normal=>exact⟨.normal,m,g,d,.head i BT (StepsIn.trans f (.one (fenced_calm ab j rfl) adN))⟩
 |exit id=>exact⟨.exit id,m,g,d,.of_steps (.one i BT) ⟨λk' aa=>f.1 k' (by rw[an];exact aa),λj aa=>f.2 j (by rw[an];exact aa)⟩⟩
 |goto l=>exact d.elim
 |ret=>exact⟨_,m,g,d,.of_steps (.one i BT) f⟩
 |panic p=>exact⟨_,m,g,d,.of_steps (.one i BT) f⟩
 |outgrown=>exact⟨_,m,g,d,.of_steps (.one i BT) f⟩
end
section
variable {X:bz} {M:Bool} {n:Nat} {r:Option Nat} {st:aQ} {Q:Exit->aQ->Prop} {c:Code}
theorem adP{l:Nat}(h:Q .normal st):hd X M n r (.label l) st Q:=λR W aD a w ad=>wpIn_label ⟨st,h,ad⟩
end
end
section
section
variable {X:bz} {M:Bool} {n:Nat} {r:Option Nat} {st:aQ} {Q:Exit->aQ->Prop} {ops rest:List Oper} {o:Oper} {d:Nat}
end
end
section
theorem adQ{P:Program}{t e:TypeId}{m:Nat}{i':bK}{cs:bY}{k:IntKind}{j:Nat}{w:World}(bg:P.underlying t=some (.array m e))(he:bK.ok P e i')(c:j<m){v:Value}(a:(part e cs.toArray (j * i'.size)).run P w=.ok v w):(Instr.index t (.agg cs.toArray) (.int k (j:Int))).run P w=.ok v w:=by
 have b:0<=(j:Int):=Int.natCast_nonneg j;unfold Instr.index;simp only[asIntOf,Sem.run_bind,Sem.run_pure,Result.andThen_ok,run_underlying bg];rw[if_pos ⟨b,by omega⟩];simp only[Sem.run_bind,bK.run_sizeOf he,Result.andThen_ok,Int.toNat_natCast,a]
theorem adR{P:Program}{e:TypeId}{i':bK}{B:Nat->Prop}{ai w:World}{g:aV}{l:List g.D}{vs:bY}{j:Nat}(he:bK.ok P e i')(aC:Flat (bN B ai g) l vs)(k:j<l.length)(b:g.size=i'.size)(f:mN i'.desc=g.tN)(c:(g.tN || beq g.size 1)=true) :
  ∃v,(part e vs.toArray (j * i'.size)).run P w=.ok v w/\ez B ai g (l.getD j g.zero) v:=by
 have n:l[j]?=some (l.getD j g.zero):=by rw[List.getD_eq_getElem?_getD,getElem?_eq_getElem k];rfl
 have J:=Flat.get (λ_ _=>bN.length) aC n;have m:=bN.length J;cases ak:g.tN with
 |true=>
  refine⟨.agg (vs.toArray.extract (j * i'.size) (j * i'.size+i'.size)),?_,?_⟩
  ·unfold part
   simp[bK.A2 he,f,ak,bK.run_sizeOf he]
  ·have:=ez.adL J ak
   rw[<- b];have i:vs.toArray.extract (j * g.size) (j * g.size+g.size)=((vs.drop (j * g.size)).take g.size).toArray:=by
    apply Array.ext'
    simp[extract]
   rw[i];exact this
 |false=>
  rw[ak,Bool.false_or]at c;have a:=eq_of_beq_eq_true c;obtain⟨v,d⟩:∃v,(vs.drop (j * g.size)).take g.size=[v]:=by
   match hm:(vs.drop (j * g.size)).take g.size,m with
   |[v],_=>exact⟨v,rfl⟩
   |[],h=>simp[a]at h
   |_::_::_,h=>simp[a]at h
  have o:vs[j * i'.size]?=some v:=by
   have:=congrArg (·[0]?) d
   rw[<- b]
   simpa [List.getElem?_take,List.getElem?_drop,a] using this
  refine⟨v,?_,ez.adM (by rw[<- d];exact J) ak⟩;unfold part
  simp[bK.A2 he,f,ak,o]
def Fo(g:aV)(m:Nat):bp->Option (Bool×List g.D)
 |.agg cs=>match Fk g m cs with
  |some (c,l,[])=>some (c,l)
  |_=>none
 |.arr g' l=>match decEq g' g with
  |isTrue h=>some (true,h ▸ l)
  |isFalse _=>none
 |_=>none
theorem adS{env:Nat->Loc}{B:Nat->Prop}{w:World}{g:aV}{m:Nat}{x:bp}{c:Bool}{l:List g.D}{v:Value}(h:eb env B w x v)(bm:Fo g m x=some (c,l))(U:c=true):∃vs,v=.agg vs.toArray/\Flat (bN B w g) l vs:=by
 unfold Fo at bm
 split at bm
 ·split at bm
  ·rename_i c' l' az
   cases bm;obtain⟨vs,rfl,I⟩:=h;obtain⟨_,d,f,e,J,ag⟩:=RM I az U;have b:=ag;rw[b,append_nil]at e;subst e;exact⟨_,rfl,J⟩
  ·cases bm
 ·split at bm
  ·rename_i a _
   subst a;cases bm;exact h
  ·cases bm
 ·cases bm
section
variable {X:bz} {M:Bool} {n:Nat} {r:Option Nat} {st:aQ} {Q:Exit->aQ->Prop} {ops rest:List Oper} {o:Oper} {d:Nat}
end
end
section
theorem adT(s:dU)(a b:Nat):Value.string ((ByteArray.mk s.toArray).extract a b)=ga ((s.take b).drop a):=by
 unfold ga
 congr 1
 apply ByteArray.ext
 rw[ByteArray.data_extract]
 apply Array.ext'
 simp[extract,List.drop_take]
section
variable {X:bz} {M:Bool} {n:Nat} {r:Option Nat} {st:aQ} {Q:Exit->aQ->Prop} {ops rest:List Oper} {o:Oper} {d:Nat}
theorem KC{P:Program}{t:TypeId}{s:dU}{w:World}(bg:P.underlying t=some .string){lo hi:Option Value}{a b:Nat}(h:(Instr.sliceBounds false s.length s.length lo hi none).run P w=.ok (a,b,s.length) w):(Instr.sliceAt t (ga s) lo hi none).run P w=.ok (ga ((s.take b).drop a)) w:=by
 have c:(ByteArray.mk s.toArray).size=s.length:=by simp[ByteArray.size]
 unfold Instr.sliceAt Instr.slice;simp only[ga,Sem.run_bind,run_underlying bg,Result.andThen_ok,c,h,Option.isSome_none,Bool.false_eq_true,if_false,Sem.run_pure]
 have:=adT s a b
 simp only[ga]at this;rw[this]
end
end
section
section
variable {P:Program} {o:Oper} {n d:Nat} {D:List Deferred} {L:List (Nat×Value)} {a:Act} {w ai:World} {B:Nat->Prop} {H:cI} {T:List (TypeId×bK)} {ops:Array Oper} {KK:Act->World->Prop}
theorem RQ{s x:Operand}{t e:TypeId}{i i':bK}{A v:Option Addr}{k m cc:Nat}{xs g:bY}(c:Sym n D L B ai H a w)(y:o.op=.call { callee:=.builtin .append,args:=#[s,x],argTypes:=#[t,t] })(F:o.guard=none/\o.dst=some d)(az:blt d n=true)(E:iq P T)(I:T.lookup t=some i)(J:i.desc=.slice e)(ag:T.lookup e=some i')(V:blt 0 i'.size=true)(K:i'.zero.cells.size=i'.size)(C:aJ L s=some (.slice A k k))(an:aJ L x=some (.slice v m cc))(f:Reads w A k i'.size xs)(l:Reads w v m i'.size g)(Z:∀u∈g,u.oneCell'=true)(R:(k+m) * i'.bytes<=140737488355328)(ah:k+m<=140737488355328)(bF:m=0->∀aU w',Sym n D ((d,.slice A k k)::L) B ai H aU w'->KK aU w')(h:∀M c' aU w',Sym n D ((d,.slice M (k+m) c')::L) B ai (.row M c' e i'.size (k+m) (xs++g)::H) aU w'->KK aU w'):fj P ops o KK a w:=by
 have z:=(E _ _ I).1;rw[J]at z;have O:=E _ _ ag
 by_cases X:m=0
 ·subst X
  have G:(execOp a.eval o).run P w=.ok (.value (.slice A k k)) w:=by
   have am:(Builtin.append_ #[t,t] o.type #[.slice A k k,.slice v 0 cc]).run P w=.ok (.slice A k k) w:=by
    have ac:=bK.run_sizeOf O w;have ar:(Builtin.firstCells i'.size 0 (.slice v 0 cc)).run P w=.ok #[] w:=by
     cases v<;>simp[Builtin.firstCells,loadCells,loadCellsFrom]
    simp only[Builtin.append_]
    simp[run_underlying z,Builtin.lenOf]
    cases A<;>simp[storeCells,ac,ar]
   simp[execOp,y,resolve,invoke,builtin,c.aJ C,c.aJ an,am]
  exact tl c F az G c.aT (bF rfl)
 ·have al:0<m:=by omega
  cases A with
  |none=>
   have aa:k=0:=by
    by_cases aa:k=0
    ·exact aa
    ·obtain⟨b,p,e,_⟩:=f.2 (by omega)
     cases e
   subst aa;have ao:=List.eq_nil_of_length_eq_zero (by rw[f.1];simp);subst ao;have au:Sym n D L B ai (.row none 0 e i'.size 0 []::H) a w:=⟨c.st,c.aT.uP e i'.size⟩
   exact Et au y F az E I J ag V K C an yK l Z R ah h
  |some U=>
   obtain⟨inf,ap,Q,af,aj⟩:=bK.info O;obtain⟨W,ab,r,Y⟩:=l.2 al;subst r;have holds:∀j u,xs[j]?=some u->w.cell? (U.add j)=some u:=λj u hu=>by
    have N:=(List.getElem?_eq_some_iff.1 hu).1;rw[f.1]at N;have aa:0<k:=by
     rcases Nat.eq_zero_or_pos k with aa|aa
     ·rw[aa,Nat.zero_mul]at N;omega
     ·exact aa
    obtain⟨b,p,r,ae⟩:=f.2 aa;cases r;rw[Addr.add_lit];exact ae j u hu
   have S:(xs++g).length=(k+m) * i'.size:=by rw[length_append,f.1,l.1,add_mul]
   have G:=run_append_grow w t o.type e inf i'.zero z ap aj U k k xs (by rw[f.1,Q]) holds ⟨W,ab,none⟩ m cc g (by rw[l.1,Q]) (λj u hu=>by rw[Addr.add_lit];exact Y j u hu) (by omega) (by omega) (growslice_fits (by omega) (by rw[af];exact R));have aq:=grownCap_ge w (k+m) k e;have ad:=grownCap_le_maxLen w (k+m) k e (by simp only[maxLen];omega);refine tl c F az (w':=w.drew.alloc (.cells (xs.toArray++g.toArray++Builtin.zeroCells i'.zero.cells (grownCap w (k+m) k e-(k+m))) e)) (by simp[execOp,y,resolve,invoke,builtin,c.aJ C,c.aJ an,G]) ?_ (h (some ⟨w.heap.size,0,none⟩) (grownCap w (k+m) k e));have nw:=c.aT.drew;have bm:=nw.alloc (.cells (xs.toArray++g.toArray++Builtin.zeroCells i'.zero.cells (grownCap w (k+m) k e-(k+m))) e);have ak:=List.pairwise_cons.1 bm.apart;refine⟨bm.below,bm.base,λeQ iE=>?_,List.Pairwise.cons (λeQ iE q r=>ak.1 eQ iE q (by simpa [bo.has] using r)) ak.2⟩
   rcases List.mem_cons.1 iE with rfl|iE
   ·refine⟨S,.inr ⟨w.heap.size,_,(0,0),rfl,c.aT.fresh,heap_alloc_new w.drew _,.inl rfl,aq,ad,?_,?_⟩⟩
    ·simp only[Array.size_append,List.size_toArray,size_zeroCells,K,f.1,l.1,<- add_mul]
     congr 1
     omega
    ·simp only[Array.toList_append,append_assoc]
     rw[<- append_assoc,<- S];exact List.take_left
   ·exact bm.ok eQ (mem_cons_of_mem _ iE)
end
section
variable {X:bz} {M:Bool} {n:Nat} {r:Option Nat} {st:aQ} {Q:Exit->aQ->Prop} {ops rest:List Oper} {o:Oper} {d:Nat}
def hA(X:bz)(n:Nat)(o:Oper)(st st':aQ):Prop:=∀(R:Nat->Prop) (W:World) (aD:fk) (aq:bX) (env:Nat->Loc) (B:Nat->Prop) (ai:World) (H:cI) (a:Act) (w:World),bM X R W aD n aq env B ai H st a w->∀(KK:Act->World->Prop) (l:List Oper),(∀aU w' env' H',bM X R W aD n aq env' B ai H' st' aU w'->KK aU w')->fj X.P l.toArray o KK a w
theorem Fp{st':aQ}{E:bX}{aL:h2}{fuel i:Nat}{l':Array Bool}(hi:nth ops i=some o)(ak:hA X n o st st')(j:fL E aL.listed i=false)(ah:aL.listed.setIfInBounds i true=l')(h:jb X M n ops E fuel ⟨l',false,false,aL.lq,aL.all⟩ st' Q):rv X M n ops E fuel aL st Q i:=by
 intro R W aD e g cN F aq env B ai H a w d ad f;refine⟨o,lV hi,ak R W aD aq env B ai H a w ad _ _ λaU w' env' H' b=>?_⟩;have c:=f.lost (H':=H') (l:=l');rw[ah];exact⟨⟨λhe=>(by rw[j]at he;cases he),c.F b⟩,h R W aD e g cN F aq env' B ai H' aU w' d b c⟩
theorem adU(D:X.aY.ok X.P){t e:TypeId}{x y:Operand}{aa g2:Bool}{ei:bp}{id j ad:Nat}{G g:aV}{l i:List g.D}{bB:cv}{aL:TypeDesc}{L:Value}(O:o.op=.call ⟨.builtin .append,⟨[x,y]⟩,⟨[t,t]⟩⟩)(S:o.guard=none/\o.dst=some d)(az:(blt d n&&blt id iG)=true)(bg:X.aY.find t=some bB)(dm:bB.aK.desc=.slice e)(he:X.aY.find e=some ⟨⟨aL,j,ad,L⟩,some G⟩)(an:bx X st.L x=some (aa,.c (.aI id)))(al:aa=true)(aG:bx X st.L y=some (g2,ei))(ap:g2=true)(am:bj st.H id=some (.hl e g l))(ao:beq g.size j=true)(ay:nz st g ei=some i)(U:dA ad (l.length+i.length)=true):hA X n o st ⟨(d,.c (.aI id))::gu id .dead st.L,(id,.hl e g (l++i))::eE id .dead st.H⟩:=by
 intro R W aD aq env B ai H a w h KK lo E;obtain⟨vx,ac,ax⟩:=h.aJ an al;obtain⟨vy,ab,aw⟩:=h.aJ aG ap;obtain⟨F,V,av⟩:=(cb.get D he).g G rfl;obtain⟨T,Q,I,C⟩:=n4 (cb.get D bg).aK (cb.get D he).aK;dsimp only at F V C;have ah:L.cells.size=j:=by
  have:L.cells.toList.length=j:=by rw[V,<- F];exact bN.length (bN.ff (B:=B) (w:=ai) G)
  simpa using this
 simp only[and_eq_true]at az;obtain⟨az,aB⟩:=az;have s:=eq_of_beq_eq_true ao;simp only[dA,and_eq_true,decide_eq_true_eq]at U;obtain⟨aE,cK,u,rfl,v,r⟩:=tu h ay aw;obtain⟨A,c,m,af,rfl⟩:=ax;obtain⟨eQ,K,⟨f,k',ag,aC⟩,p,M⟩:=h.EH (b':=.hl e g (l++i)) am (λq ak=>by
  obtain⟨_,P,a7⟩:=h.dP _ _ ak;rw[af]at P
  rcases a7 with⟨b,a7⟩|a7
  ·rw[<- P]at a7;cases a7
  ·have:=dS aB;omega)
 rw[af]at ag;cases ag;have N:blt 0 j=true:=by rw[<- F];exact Nat.ble_eq_true_of_le av
 rcases aC with⟨xs,rfl,dC⟩|⟨rfl,rfl,fc,xs,dC,iH⟩
 ·rw[s]at p r
  refine Et h.sym O S az Q I dm C N ah ac ab p r (Flat.jH (λ_ _=>bN.jH) v) U.1 U.2 λf c' aU w' bE=>?_
  obtain⟨H',_,k⟩:=M (.row f c' (l++i).length) (.row f c' e g.size (l++i).length (xs++u)) aU w' (.c (.aI id)) _ ⟨f,c',fx,.inl ⟨_,rfl,dC.append v⟩⟩ ⟨f,c',_,fx,by rw[length_append]⟩ (by rw[s,length_append];exact bE.aT) bE.st;exact E aU w' _ H' k
 ·have aj:=iH.lf h.aT
  rw[s]at aj r;refine RQ h.sym O S az Q I dm C N ah ac ab aj r (Flat.jH (λ_ _=>bN.jH) v) U.1 U.2 (λau aU w' bE=>?_) λf c' aU w' bE=>?_
  ·have aA:i=[]:=List.eq_nil_of_length_eq_zero au
   subst aA;obtain⟨Y,Z,J,z⟩:=p;obtain⟨H',_,k⟩:=M (.row A l.length (l++[]).length) (.row none 0 e g.size 0 []) aU w' (.c (.aI id)) (.slice A l.length l.length) ⟨A,l.length,fx,.inr ⟨rfl,by simp,fc,xs,by rw[append_nil];exact dC,by rw[append_nil];exact iH⟩⟩ ⟨A,l.length,_,fx,by simp⟩ (by rw[z];dsimp only;rw[<- J];exact bE.aT) bE.st;exact E aU w' _ H' k
  ·obtain⟨Y,Z,J,z⟩:=p
   obtain⟨H',_,k⟩:=M (.row f c' (l++i).length) (.row f c' e g.size (l++i).length (xs++u)) aU w' (.c (.aI id)) (.slice f (l.length+i.length) c') ⟨f,c',fx,.inl ⟨_,rfl,dC.append v⟩⟩ ⟨f,c',_,fx,by rw[length_append]⟩ (by
    have ae:=bE.aT;rw[J]at ae;rw[z];have ak:(bo.row f c' e j (l.length+i.length) (xs++u)::(Y++bo.row none 0 e g.size 0 []::Z)).Perm (bo.row none 0 e g.size 0 []::(Y++bo.row f c' e j (l.length+i.length) (xs++u)::Z)):=by
     refine(List.Perm.cons _ List.perm_middle).trans ?_;refine(List.Perm.swap _ _ _).trans (List.Perm.cons _ List.perm_middle.symm)
    have ar:=(ae.perm ak).fq (List.sublist_cons_self _ _);rw[s,length_append];exact ar) bE.st
   exact E aU w' _ H' k
end
section
variable {X:bz} {n:Nat} {st:aQ}
def tO(id:Nat)(st:aQ):Option aQ:=
 match bj st.H id with
 |some (.hl _ g l)=>some ⟨gu id (.bJ g l none) st.L,eE id (.bJ g l none) st.H⟩
 |_=>none
theorem RR{b a:cC}{id:Nat}:∀ {l:bC},bj l id=some b->bj (e8 id a l) id=some a
 |[],h=>by cases h
 |(k,b')::r,h=>by
  rw[cX]at h;unfold e8
  split
  ·rename_i aa
   rw[cX,if_pos (eq_of_beq_eq_true aa).symm]
  ·rename_i aa
   have c:¬id=k:=λe=>by rw[e,beq_refl]at aa;cases aa
   rw[if_neg c]at h;rw[cX,if_neg c];exact RR h
theorem RS{b:cC}{id:Nat}{z:bs}:∀ {l:bC} {a:cC},bj l id=some a->eE id z (e8 id b l)=eE id z l
 |[],_,h=>by cases h
 |(k,b')::r,a,h=>by
  rw[cX]at h;unfold e8;cases aa:beq k id with
  |true=>simp only[eE,aa]
  |false=>
   have c:¬id=k:=λe=>by rw[e,beq_refl]at aa;cases aa
   rw[if_neg c]at h;simp only[eE,aa,RS h]
theorem bP.tO{id:Nat}{st':aQ}(aC:tO id st=some st'):bP X n st st':=λR W aD M a w ⟨aq,env,B,ai,H,e,h⟩=>by
 unfold Go.Proofs.YtijeenjclhajhaaGreatDoor.tO at aC
 split at aC
 ·rename_i t g l d
  cases aC;obtain⟨eQ,K,⟨A,k,he,D⟩,⟨Y,Z,o,s⟩,p⟩:=h.oS (b':=.row t g l none) d
  rcases D with⟨xs,rfl,dC⟩|⟨rfl,rfl,fc,xs,dC,iH⟩
  ·obtain⟨H',b⟩:=p _ a w ⟨A,k,xs,he,rfl,dC,λ_ c=>by cases c⟩ (by rw[s];dsimp only;rw[<- o];exact h.aT) h.bW
   have j:Go.Proofs.YtijeenjclhajhaaGreatDoor.dV id ⟨st.L,e8 id (.row t g l none) st.H⟩=some ⟨gu id (.bJ g l none) st.L,eE id (.bJ g l none) st.H⟩:=by
    unfold Go.Proofs.YtijeenjclhajhaaGreatDoor.dV;dsimp only;rw[RR d];dsimp only;rw[RS d]
   exact bP.dV j R W aD M a w ⟨aq,env,B,ai,H',e,b⟩
  ·have i:∀v,dN env B ai (.aI id) v->dN env B ai (.bJ g l none) v:=by
    rintro v ⟨E,c',m,f,rfl⟩;rw[he]at f;cases f;exact⟨A,l.length,xs,rfl,le_refl _,fc,(λ_ c=>by cases c),dC,iH⟩
   obtain⟨H2,I,J⟩:=h.heap.del (env':=env) (λ_ _=>rfl) i;refine⟨aq,env,B,ai,H2,e,h.size,h.defs,λq u hu=>?_,J,h.aT.fq (I.append_right _),h.sub,h.new,h.dP,h.base,h.eu⟩;obtain⟨z,C,rfl⟩:=rf hu;obtain⟨y,b,r⟩:=h.has q z C;exact⟨y,b,e7.sub (λ_ _=>rfl) i r⟩
 ·cases aC
end
end
section
section
variable {X:bz} {M:Bool} {n:Nat} {r:Option Nat} {st:aQ} {Q:Exit->aQ->Prop} {ops rest:List Oper} {o:Oper} {d:Nat} {sa:bp}
theorem adV(r:X.aY.ok X.P){t T:TypeId}{bB:cv}{x:Operand}{id d2 i:Nat}{y:Bool}{g:aV}{l:List (List g.D)}{cap:Option Nat}{j:Bool}(f:o.op=.load t x)(bg:X.aY.find t=some bB)(E:mN bB.aK.desc=false)(an:bx X st.L x=some (j,.c (.fg id 1 i 0)))(v:j=true)(s:bj st.H id=some (.cW y T g l cap i d2)):jG X st o (.c (.aI d2)):=by
 intro R W aD n aq env B ai H a b6 ad;obtain⟨vx,I,b,c,m,he,rfl⟩:=ad.aJ an v;obtain⟨eQ,K,⟨A,k,ys,d,c',e,h,rfl,u,hi,C,_⟩,aC⟩:=ad.heap.gQ s;rw[he]at h;cases h;have p:ys.length=l.length:=ql.rb u;refine⟨.slice d e c',⟨d,c',e,C,rfl⟩,λw q=>?_⟩;have z:gq w (λk=>R k\/B k) T 1 (some ⟨b,0,none⟩) c l.length (ys.set i (.slice d e c')):=(q (by rw[f];rfl)).ok _ aC.more.mem;have D:w.cell? ⟨b,i * 1+0,none⟩=some (.slice d e c'):=by
  rw[z.cells rfl _ (by omega)]
  simp[p,hi]
 exact yR ad.bW f (cb.get r bg).aK E I D
theorem adX{t h:TypeId}{u v:Operand}{c g2 fD cK:Bool}{cs aL:dT}{g:aV}{x y:g.D}(b:vi X.P t g)(d:o.op=.binOp .eql t u v h)(hu:bx X st.L u=some (c,.agg cs))(j:c=true)(e:bx X st.L v=some (g2,.agg aL))(i:g2=true)(an:dec g cs=some (fD,x,[]))(l:fD=true)(aG:dec g aL=some (cK,y,[]))(k:cK=true):jG X st o (.c (.val (.bool (g.beq x y)))):=by
 intro R W aD n aq env B ai H a b6 ad;obtain⟨m,I,J⟩:=ad.aJ hu j;obtain⟨vv,ag,f⟩:=ad.aJ e i;rw[cZ.c1 b.key J an l]at I;rw[cZ.c1 b.key f aG k]at ag;exact⟨_,rfl,λw _=>aah ad.bW d I ag b.guard (b.eq x y) w⟩
theorem adY{t h:TypeId}{u v:Operand}{c g2 fD cK:Bool}{cs aL:dT}{g:aV}{x y:g.D}(b:vi X.P t g)(d:o.op=.binOp .neq t u v h)(hu:bx X st.L u=some (c,.agg cs))(j:c=true)(e:bx X st.L v=some (g2,.agg aL))(i:g2=true)(an:dec g cs=some (fD,x,[]))(l:fD=true)(aG:dec g aL=some (cK,y,[]))(k:cK=true):jG X st o (.c (.val (.bool (!(g.beq x y))))):=by
 intro R W aD n aq env B ai H a b6 ad;obtain⟨m,I,J⟩:=ad.aJ hu j;obtain⟨vv,ag,f⟩:=ad.aJ e i;rw[cZ.c1 b.key J an l]at I;rw[cZ.c1 b.key f aG k]at ag;exact⟨_,rfl,λw _=>aai ad.bW d I ag b.guard (b.eq x y) w⟩
end
end
section
section
variable {env:Nat->Loc} {B B':Nat->Prop} {w w':World}
end
end
section
section
variable {env:Nat->Loc} {B:Nat->Prop} {w:World}
end
end
section
section
variable {P:Program} {ops:Array Oper} {o:Oper} {KK:Act->World->Prop} {n:Nat} {D:List Deferred} {L:List (Nat×Value)} {B:Nat->Prop} {ai:World} {H:cI} {a:Act} {w:World} {d:Nat}
theorem adZ{f:FuncId}{fn:Func}{s:Nat}{p:Value}{xs:eA}{fR:Array TypeId}{vs:bY}(av:Sym n D L B ai H a w)(aA:o.op=.call { callee:=.value (.tmp s),args:=xs.toArray,argTypes:=fR })(aj:L.lookup s=some (.func (.func f) #[p] #[]))(gO:P.funcs[f]?=some fn)(ba : (fn.name == "runtime.NumGoroutine") = false)(ab : fn.body.isNone = false)(aH : jO L xs = some vs) : (execOp a.eval o).run P w = .ok (.enter f (p :: vs).toArray) w := by
 have e:a.eval (.tmp s)=.func (.func f) #[p] #[]:=av.aJ aj
 have ir : fn.name ≠ "runtime.NumGoroutine" := by simpa using ba
 have dw:fn.body≠none:=by intro h;rw[h]at ab;cases ab
 simp[execOp,aA,resolve,e,Deferred.ofValue,invoke,callFunc,program,Sem.run,gO,ir,dw,av.st.jO aH]
theorem ad0{f:FuncId}{fn:Func}{s:Nat}{p:Value}{xs:eA}{fR:Array TypeId}{vs:bY}{R:Value->World->Prop}(av:Sym n D L B ai H a w)(aA:o.op=.call { callee:=.value (.tmp s),args:=xs.toArray,argTypes:=fR })(bh:o.guard=none/\o.dst=some d)(az:blt d n=true)(aj:L.lookup s=some (.func (.func f) #[p] #[]))(gO : P.funcs[f]? = some fn)(ba : (fn.name == "runtime.NumGoroutine") = false)(ab : fn.body.isNone = false)(aH : jO L xs = some vs)(cF : q8 P f (p :: vs).toArray w R)(h:∀v aU w',R v w'->dh n D ((d,v)::L) aU->KK aU w'):fj P ops o KK a w:=by
 refine .inl ⟨by simp[Region.wanted,bh.1],.inr (.inr ⟨f,(p::vs).toArray,w,adZ av aA aj gO ba ab aH,?_⟩)⟩;refine Calls.mono cF ?_;rintro e w' ⟨v,rfl,eo⟩;exact⟨v,rfl,h v _ w' eo (by rw[bh.2];exact av.st.put d v (dS az))⟩
end
section
variable {X:bz} {M:Bool} {n:Nat} {r:Option Nat} {st:aQ} {Q:Exit->aQ->Prop} {ops rest:List Oper} {o:Oper} {d:Nat}
end
section
variable {X:bz} {M:Bool} {n:Nat} {st:aQ} {Q:Exit->aQ->Prop} {ops:List Oper} {E:bX} {aL:h2} {listed':Array Bool} {fuel d i:Nat} {o:Oper}
end
end
section
section
variable {X:bz} {M:Bool} {n:Nat} {r:Option Nat} {st:aQ} {Q:Exit->aQ->Prop} {ops rest:List Oper} {o:Oper} {d:Nat}
theorem ad1(f:X.aY.ok X.P){t fi fV:TypeId}{bB p dQ:cv}{k:IntKind}{gv:aV}{u x:Operand}{id:Nat}{l:List (Int×gv.D)}{jl:Option (List MapEntry×Nat)}{z:Int}{g:Bool}{sa:bp}(q:o.op=.lookup t u x true)(i:o.guard=none/\o.dst=some d)(az:blt d n=true)(bg:X.aY.find t=some bB)(dm:bB.aK.desc=.map fi fV)(aa:X.aY.find fi=some p)(O:p.aK.desc=.int k)(he:X.aY.find fV=some dQ)(bF:∀B w,ez B w gv gv.zero dQ.aK.zero)(hu:bx X st.L u=some (true,.c (.dI id)))(an:bx X st.L x=some (g,.c (.val (.int k z))))(s:g=true)(A:bj st.H id=some (.mp (.int k) gv l jl))(mY:pR gv ((de (.int k) gv l z).getD gv.zero)=some sa):hA X n o st ⟨(d,.cY [sa,.c (.val (.bool (de (.int k) gv l z).isSome))])::st.L,st.H⟩:=by
 intro R W aD aq env B ai H a w ad KK lo C;obtain⟨Q,I,b,ab,rfl⟩:=ad.aJ hu rfl;obtain⟨vx,J,ag⟩:=ad.aJ an s;rw[show vx=_ from ag]at J;obtain⟨c,K,⟨b',P,clock,m,rfl,L,c7,_⟩,E⟩:=ad.heap.gQ A;rw[ab]at m;cases m;have F:=(ad.aT.ok _ E.more.mem).2;have h:=(cb.get f bg).aK.1;rw[dm]at h;have e:=(cb.get f aa).aK.1;rw[O]at e;have G:=bK.se (cb.get f he).aK w;have M:∃v,(Instr.lookup t (.map (some b)) (.int k z) true).run X.P w=.ok (.tuple #[v,.bool (de (.int k) gv l z).isSome]) w/\ez B ai gv ((de (.int k) gv l z).getD gv.zero) v:=by
  unfold Instr.lookup;simp only[Sem.run_bind,run_underlying h,Result.andThen_ok,MapKept.run_getObj_map F,A5 e,Sem.run_pure]
  rcases L.Fg 0 with⟨ar,aF⟩|⟨y,j,v,ar,aF,a7,_⟩
  ·refine⟨dQ.aK.zero,?_,by rw[ar];exact bF _ _⟩
   simp[MapKept.run_findKey e aF,G,Result.andThen,ar]
  ·refine⟨v,?_,by rw[ar];exact a7⟩
   simp[MapKept.run_findKey e aF,Result.andThen,ar]
 obtain⟨v,D,N⟩:=M;refine hM ad.bW i.1 i.2 (dS az) (v:=.tuple #[v,.bool (de (.int k) gv l z).isSome]) (w':=w) ?_ λaU r=>?_
 ·simp[execOp,q,ad.bW.aJ I,ad.bW.aJ J,D]
 ·exact C aU _ env H (ad.set ⟨[v,.bool (de (.int k) gv l z).isSome],rfl,v,_,rfl,N.sa mY,_,_,rfl,rfl,rfl⟩ r)
end
end
section
section
variable {X:bz} {M:Bool} {n:Nat} {r:Option Nat} {ops:List Oper} {rest:List Oper} {o:Oper} {d:Nat} {st:aQ} {Q:Exit->aQ->Prop}
theorem ad2(j:X.aY.ok X.P){t e:TypeId}{x y:Operand}{q g2:Bool}{ei:bp}{id k Y:Nat}{Q g:aV}{l b:List g.D}{cap:Option Nat}{bB:cv}{aL:TypeDesc}{aa:Value}(D:o.op=.call ⟨.builtin .copy,⟨[x,y]⟩,⟨[t,t]⟩⟩)(L:o.guard=none/\o.dst=some d)(az:blt d n=true)(bg:X.aY.find t=some bB)(dm:bB.aK.desc=.slice e)(he:X.aY.find e=some ⟨⟨aL,k,Y,aa⟩,some Q⟩)(an:bx X st.L x=some (q,.c (.aI id)))(E:q=true)(aG:bx X st.L y=some (g2,ei))(P:g2=true)(J:bj st.H id=some (.row e g l cap))(N:beq g.size k=true)(ac:nz st g ei=some b)(U:beq b.length l.length=true):hA X n o st ⟨(d,.c (.val (.int .i64 (l.length:Int))))::st.L,e8 id (.row e g b cap) st.H⟩:=by
 intro R W aD aq env B ai H a w h KK lo M;obtain⟨vx,V,ab⟩:=h.aJ an E;obtain⟨vy,r,Z⟩:=h.aJ aG P;obtain⟨T,G,I,F⟩:=n4 (cb.get j bg).aK (cb.get j he).aK;have s:=eq_of_beq_eq_true N;have i:=eq_of_beq_eq_true U;obtain⟨ag,cK,u,rfl,v,f⟩:=tu h ac Z;obtain⟨A,c,m,z,rfl⟩:=ab;obtain⟨eQ,K,⟨ae,k',xs,C,rfl,af,S⟩,p,ad⟩:=h.oS (b':=.row e g b cap) J;rw[z]at C;cases C;rw[s]at p f;rw[i]at r f;refine aaq h.sym D L az G I dm F V r p f (Flat.jH (λ_ _=>bN.jH) v) λaU w' bE=>?_
 obtain⟨H',O⟩:=ad (.row A c e g.size l.length u) a w' ⟨A,c,u,by rw[i];exact z,by rw[i],v,S⟩ (by rw[s];exact bE.aT) h.bW;exact M aU w' _ H' (O.set rfl bE.st)
end
end
section
section
variable {X:bz} {M:Bool} {n:Nat} {r:Option Nat} {ops rest:List Oper} {o:Oper} {d:Nat} {st:aQ} {Q:Exit->aQ->Prop}
end
end
section
def PR{α β:Type}(x:α)(k:α->Option β):Option β:=k x
section
variable {X:bz} {n:Nat} {st:aQ}
end
section
variable {X:bz} {R:Nat->Prop} {W:World} {aD:fk} {n:Nat} {aq:bX} {env:Nat->Loc} {B:Nat->Prop} {ai:World} {H:cI} {st st':aQ} {a:Act} {w:World}
end
end
abbrev dy:List Type->Type
 |[]=>Unit
 |A::r=>A×dy r
abbrev BW:List Type->Type
 |[]=>Unit
 |[A]=>A
 |A::B::r=>A×BW (B::r)
def rD:(l:List Type)->dy l->BW l
 |[],_=>()
 |[_],u=>u.1
 |_::B::r,u=>(u.1,rD (B::r) u.2)
def ou:(l:List Type)->BW l->dy l
 |[],_=>()
 |[_],u=>(u,())
 |_::B::r,u=>(u.1,ou (B::r) u.2)
theorem w9:∀(l:List Type) (u:dy l),ou l (rD l u)=u
 |[],_=>rfl
 |[_],_=>rfl
 |_::B::r,u=>by
  show(u.1,ou (B::r) (rD (B::r) u.2))=u;rw[w9 (B::r)]
inductive vk where
 |id (i:Nat)
 |fr (g:aV)
abbrev sI:List vk->List Type->List Type
 |[],T=>T
 |.id _::r,T=>sI r T
 |.fr g::r,T=>g.D::sI r T
def nK:(l:List vk)->{T:List Type}->dy (sI l T)->eB×dy T
 |[],_,t=>([],t)
 |.id i::r,_,u=>(.id i::(nK r u).1,(nK r u).2)
 |.fr g::r,_,u=>(.fr g u.1::(nK r u.2).1,(nK r u.2).2)
def RU{g g':aV}(h:g'=g)(x:g'.D):g.D:=h ▸ x
def qA{g g':aV}(h:g'=g)(l:List g'.D):List g.D:=h ▸ l
def vl:(l:List vk)->eB->{T:List Type}->dy T->Option (dy (sI l T))
 |[],[],_,t=>some t
 |.id i::r,.id j::s,_,t=>match beq i j with
  |true=>vl r s t
  |false=>none
 |.fr g::r,.fr g' x::s,_,t=>match decEq g' g with
  |isTrue h=>match vl r s t with
   |some u=>some (RU h x,u)
   |none=>none
  |isFalse _=>none
 |_,_,_,_=>none
theorem Fs:∀ {l:List vk} {s:eB} {T:List Type} {t:dy T} {u:dy (sI l T)},vl l s t=some u->nK l u=(s,t)
 |[],[],_,_,_,h=>by cases h;rfl
 |.id i::r,.id j::s,_,t,u,h=>by
  unfold vl at h
  split at h
  ·rename_i e
   have:=eq_of_beq_eq_true e
   subst this
   have:=Fs h
   unfold nK;rw[this]
  ·cases h
 |.fr g::r,.fr g' x::s,_,t,u,h=>by
  unfold vl at h
  split at h
  ·rename_i e _
   subst e
   split at h
   ·rename_i a e
    cases h
    have:=Fs e
    unfold nK;rw[this]
    rfl
   ·cases h
  ·cases h
 |[],_::_,_,_,_,h=>by cases h
 |.id _::_,[],_,_,_,h=>by cases h
 |.fr _::_,[],_,_,_,h=>by cases h
 |.id _::_,.fr _ _::_,_,_,_,h=>by cases h
 |.fr _::_,.id _::_,_,_,_,h=>by cases h
inductive cN where
 |raw (c:bs)
 |int (k:IntKind)
 |bool
 |str
 |bJ (g:aV)
 |Ft (g:aV)
 |jK (g:aV)
 |Fu (g:aV)
 |gb (g:aV) (off:Nat)
 |par (g:aV)
 |fn (f:FuncId) (cs:List vk)
 |fg (id cV off:Nat)
 |iF (id:Nat)
 |iV (id:Nat)
abbrev cN.LT:cN->List Type->List Type
 |.raw _,T=>T
 |.int _,T=>Int::T
 |.bool,T=>Bool::T
 |.str,T=>dU::T
 |.bJ g,T=>List g.D::T
 |.Ft g,T=>List g.D::T
 |.jK g,T=>List g.D::Nat::T
 |.Fu g,T=>List g.D::Option Nat::T
 |.gb g _,T=>g.D::T
 |.par g,T=>List g.D::T
 |.fn _ cs,T=>sI cs T
 |.fg _ _ _,T=>Nat::T
 |.iF _,T=>Nat::T
 |.iV _,T=>Bool::T
def cN.S:(s:cN)->{T:List Type}->dy (s.LT T)->bs×dy T
 |.raw c,_,t=>(c,t)
 |.int k,_,u=>(.val (.int k u.1),u.2)
 |.bool,_,u=>(.val (.bool u.1),u.2)
 |.str,_,u=>(.str u.1,u.2)
 |.bJ g,_,u=>(.bJ g u.1 none,u.2)
 |.Ft g,_,u=>(.bJ g u.1 (some u.1.length),u.2)
 |.jK g,_,u=>(.bJ g u.1 (some u.2.1),u.2.2)
 |.Fu g,_,u=>(.bJ g u.1 u.2.1,u.2.2)
 |.gb g off,_,u=>(.gb g u.1 off,u.2)
 |.par g,_,u=>(.par g u.1,u.2)
 |.fn f cs,_,u=>(.fn f (nK cs u).1,(nK cs u).2)
 |.fg id a off,_,u=>(.fg id a u.1 off,u.2)
 |.iF id,_,u=>(.iF id u.1,u.2)
 |.iV id,_,u=>(.iV u.1 id,u.2)
def KD:Value->Value->Bool
 |.slice none 0 0,.slice none 0 0=>true
 |.pointer none,.pointer none=>true
 |.map none,.map none=>true
 |.nilIface,.nilIface=>true
 |.nilFunc,.nilFunc=>true
 |_,_=>false
def bs.eqv:bs->bs->Bool
 |.dead,_=>true
 |.ptr i o,.ptr j p=>beq i j&&beq o p
 |.aI i,.aI j=>beq i j
 |.dI i,.dI j=>beq i j
 |.iF i o,.iF j p=>beq i j&&beq o p
 |.jR f i,.jR g j=>beq f g&&beq i j
 |.val v,.val u=>KD v u
 |_,_=>false
def sJ(x y:bs):Prop:=∀env B w v,dN env B w x v->dN env B w y v
theorem ad3:∀ {v u:Value},KD v u=true->v=u:=by
 intro v u h;unfold KD at h
 split at h<;>first|rfl|cases h
theorem bs.ad4{c x:bs}(h:c.eqv x=true):sJ x c:=by
 unfold bs.eqv at h
 split at h
 ·intro _ _ _ _ _;trivial
 ·simp only[and_eq_true]at h
  rw[eq_of_beq_eq_true h.1,eq_of_beq_eq_true h.2];exact λ_ _ _ _ h=>h
 ·rw[eq_of_beq_eq_true h];exact λ_ _ _ _ h=>h
 ·rw[eq_of_beq_eq_true h];exact λ_ _ _ _ h=>h
 ·simp only[and_eq_true]at h
  rw[eq_of_beq_eq_true h.1,eq_of_beq_eq_true h.2];exact λ_ _ _ _ h=>h
 ·simp only[and_eq_true]at h
  rw[eq_of_beq_eq_true h.1,eq_of_beq_eq_true h.2];exact λ_ _ _ _ h=>h
 ·rw[ad3 h];exact λ_ _ _ _ h=>h
 ·cases h
def isNil:Value->Bool
 |.slice none 0 0=>true
 |_=>false
theorem RV{v:Value}(h:isNil v=true):v=.slice none 0 0:=by
 unfold isNil at h
 split at h
 ·rfl
 ·cases h
def cN.get:(s:cN)->bs->{T:List Type}->dy T->Option (dy (s.LT T))
 |.raw c,x,_,t=>match c.eqv x with
  |true=>some t
  |false=>none
 |.int k,.val (.int k' z),_,t=>match decEq k' k with
  |isTrue _=>some (z,t)
  |isFalse _=>none
 |.bool,.val (.bool b),_,t=>some (b,t)
 |.str,.str s,_,t=>some (s,t)
 |.bJ g,.bJ g' l _,_,t=>match decEq g' g with
  |isTrue h=>some (qA h l,t)
  |isFalse _=>none
 |.bJ g,.val v,_,t=>match isNil v with
  |true=>some (([]:List g.D),t)
  |false=>none
 |.Ft g,.bJ g' l (some c),_,t=>match decEq g' g,beq c l.length with
  |isTrue h,true=>some (qA h l,t)
  |_,_=>none
 |.Ft g,.val v,_,t=>match isNil v with
  |true=>some (([]:List g.D),t)
  |false=>none
 |.jK g,.bJ g' l (some c),_,t=>match decEq g' g with
  |isTrue h=>some (qA h l,c,t)
  |isFalse _=>none
 |.jK g,.val v,_,t=>match isNil v with
  |true=>some (([]:List g.D),0,t)
  |false=>none
 |.Fu g,.bJ g' l c,_,t=>match decEq g' g with
  |isTrue h=>some (qA h l,c,t)
  |isFalse _=>none
 |.Fu g,.val v,_,t=>match isNil v with
  |true=>some (([]:List g.D),some 0,t)
  |false=>none
 |.gb g off,.gb g' x o,_,t=>match decEq g' g,beq off o with
  |isTrue h,true=>some (RU h x,t)
  |_,_=>none
 |.par g,.par g' l,_,t=>match decEq g' g with
  |isTrue h=>some (qA h l,t)
  |isFalse _=>none
 |.fn f cs,.fn f' ids,_,t=>match beq f f' with
  |true=>vl cs ids t
  |false=>none
 |.fg id j off,.fg a d i e,_,t=>match beq id a,beq j d,beq off e with
  |true,true,true=>some (i,t)
  |_,_,_=>none
 |.iF id,.iF a i,_,t=>match beq id a with
  |true=>some (i,t)
  |false=>none
 |.iV id,.iV b a,_,t=>match beq id a with
  |true=>some (b,t)
  |false=>none
 |.iV id,.ptr a 0,_,t=>match beq id a with
  |true=>some (true,t)
  |false=>none
 |.iV _,.val (.pointer none),_,t=>some (false,t)
 |_,_,_,_=>none
theorem sJ.nil{g:aV}{v:Value}(h:isNil v=true)(k:Option Nat)(aa:∀q,k=some q->q=0):sJ (.val v) (.bJ g [] k):=λenv B w u hu=>by
 rw[RV h]at hu;obtain⟨A,c,xs,I,J,ag,d,a⟩:=Rw (env:=env) hu;exact⟨A,c,xs,I,J,ag,λq b=>by rw[aa q b];exact d 0 rfl,a⟩
theorem ad7{f:FuncId}{cs:List vk}{ids:eB}{T:List Type}{t:dy T}{u:dy (sI cs T)}(h:vl cs ids t=some u):((cN.fn f cs).S (T:=T) u).2=t/\sJ (.fn f ids) ((cN.fn f cs).S (T:=T) u).1:=by
 show(nK cs u).2=t/\sJ _ (.fn f (nK cs u).1);rw[Fs h];exact⟨rfl,λ_ _ _ _ h=>h⟩
theorem cN.jL{s:cN}{x:bs}{T:List Type}{t:dy T}{u:dy (s.LT T)}(h:s.get x t=some u):(s.S u).2=t/\sJ x (s.S u).1:=by
 unfold cN.get at h
 split at h
 ·split at h
  ·rename_i e;cases h;exact⟨rfl,bs.ad4 e⟩
  ·cases h
 ·split at h
  ·rename_i e _;subst e;cases h;exact⟨rfl,λ_ _ _ _ h=>h⟩
  ·cases h
 ·cases h;exact⟨rfl,λ_ _ _ _ h=>h⟩
 ·cases h;exact⟨rfl,λ_ _ _ _ h=>h⟩
 ·split at h
  ·rename_i e _;subst e;cases h
   exact⟨rfl,λ_ _ _ _ ⟨A,c,xs,I,J,ag,_,d⟩=>⟨A,c,xs,I,J,ag,(λ_ e=>by cases e),d⟩⟩
  ·cases h
 ·split at h
  ·rename_i e;cases h;exact⟨rfl,sJ.nil e _ λ_ e=>by cases e⟩
  ·cases h
 ·split at h
  ·rename_i e _ U;subst e;cases h
   have:=eq_of_beq_eq_true U
   subst this;exact⟨rfl,λ_ _ _ _ h=>h⟩
  ·cases h
 ·split at h
  ·rename_i e;cases h;exact⟨rfl,sJ.nil e _ λ_ e=>by cases e;rfl⟩
  ·cases h
 ·split at h
  ·rename_i e _;subst e;cases h;exact⟨rfl,λ_ _ _ _ h=>h⟩
  ·cases h
 ·split at h
  ·rename_i e;cases h;exact⟨rfl,sJ.nil e _ λ_ e=>by cases e;rfl⟩
  ·cases h
 ·split at h
  ·rename_i e _;subst e;cases h;exact⟨rfl,λ_ _ _ _ h=>h⟩
  ·cases h
 ·split at h
  ·rename_i e;cases h;exact⟨rfl,sJ.nil e _ λ_ e=>by cases e;rfl⟩
  ·cases h
 ·split at h
  ·rename_i e _ U;subst e;cases h
   have:=eq_of_beq_eq_true U
   subst this;exact⟨rfl,λ_ _ _ _ h=>h⟩
  ·cases h
 ·split at h
  ·rename_i e _;subst e;cases h;exact⟨rfl,λ_ _ _ _ h=>h⟩
  ·cases h
 ·split at h
  ·rename_i e
   have:=eq_of_beq_eq_true e
   subst this;exact ad7 h
  ·cases h
 ·split at h
  ·rename_i a f g
   cases h;rw[<- eq_of_beq_eq_true a,<- eq_of_beq_eq_true f,<- eq_of_beq_eq_true g];exact⟨rfl,λ_ _ _ _ h=>h⟩
  ·cases h
 ·split at h
  ·rename_i a
   cases h;rw[<- eq_of_beq_eq_true a];exact⟨rfl,λ_ _ _ _ h=>h⟩
  ·cases h
 ·split at h
  ·rename_i a
   cases h;rw[<- eq_of_beq_eq_true a];exact⟨rfl,λ_ _ _ _ h=>h⟩
  ·cases h
 ·split at h
  ·rename_i a
   cases h;rw[<- eq_of_beq_eq_true a];exact⟨rfl,λ_ _ _ _ ⟨b,I,J⟩=>⟨b,λ_=>I,J⟩⟩
  ·cases h
 ·cases h
  exact⟨rfl,λ_ _ _ _ h=>⟨0,λh=>(by cases h),h⟩⟩
 ·cases h
abbrev zx:List cN->List Type->List Type
 |[],T=>T
 |c::r,T=>c.LT (zx r T)
def tP:(l:List cN)->{T:List Type}->dy (zx l T)->dT×dy T
 |[],_,t=>([],t)
 |c::r,_,u=>((c.S u).1::(tP r (c.S u).2).1,(tP r (c.S u).2).2)
def BX:(l:List cN)->dT->{T:List Type}->dy T->Option (dy (zx l T))
 |[],[],_,t=>some t
 |c::r,x::s,_,t=>match BX r s t with
  |some u=>c.get x u
  |none=>none
 |_,_,_,_=>none
theorem KE:∀ {l:List cN} {s:dT} {T:List Type} {t:dy T} {u:dy (zx l T)},BX l s t=some u->(tP l u).2=t/\∀env B w vs,cZ env B w s vs->cZ env B w (tP l u).1 vs
 |[],[],_,_,_,h=>by cases h;exact⟨rfl,λ_ _ _ _ h=>h⟩
 |c::r,x::s,_,t,u,h=>by
  unfold BX at h
  split at h
  ·rename_i b e
   obtain⟨I,J⟩:=KE e;obtain⟨ag,a⟩:=cN.jL h;unfold tP;rw[ag];refine⟨I,λenv B w vs ⟨v,q,e,bm,ab⟩=>⟨v,q,e,a _ _ _ _ bm,J _ _ _ _ ab⟩⟩
  ·cases h
 |[],_::_,_,_,_,h=>by cases h
 |_::_,[],_,_,_,h=>by cases h
inductive gU where
 |c (x:cN)
 |agg (l:List cN)
 |arr (g:aV)
 |dc (g:aV)
abbrev eH:=List gU
abbrev gU.LT:gU->List Type->List Type
 |.c x,T=>x.LT T
 |.agg l,T=>zx l T
 |.arr g,T=>List g.D::T
 |.dc g,T=>g.D::T
def KF(g:aV)(x:g.D):bp:=match pB g x 0 g.size with
 |some cs=>.agg cs
 |none=>.agg []
def gU.S:(s:gU)->{T:List Type}->dy (s.LT T)->bp×dy T
 |.c x,_,u=>(.c (x.S u).1,(x.S u).2)
 |.agg l,_,u=>(.agg (tP l u).1,(tP l u).2)
 |.arr g,_,u=>(.arr g u.1,u.2)
 |.dc g,_,u=>(KF g u.1,u.2)
def gU.get:(s:gU)->bp->{T:List Type}->dy T->Option (dy (s.LT T))
 |.c x,.c y,_,t=>x.get y t
 |.agg l,.agg cs,_,t=>BX l cs t
 |.arr g,.arr g' l,_,t=>match decEq g' g with
  |isTrue h=>some (qA h l,t)
  |isFalse _=>none
 |.dc g,.agg cs,_,t=>match dec g cs with
  |some (true,x,[])=>match pB g x 0 g.size with
   |some _=>some (x,t)
   |none=>none
  |_=>none
 |_,_,_,_=>none
theorem gU.jL{s:gU}{x:bp}{T:List Type}{t:dy T}{u:dy (s.LT T)}(h:s.get x t=some u):(s.S u).2=t/\∀env B w v,eb env B w x v->eb env B w (s.S u).1 v:=by
 unfold gU.get at h
 split at h
 ·exact cN.jL h
 ·obtain⟨I,J⟩:=KE h
  exact⟨I,λenv B w v ⟨vs,e,U⟩=>⟨vs,e,J _ _ _ _ U⟩⟩
 ·split at h
  ·rename_i e _;subst e;cases h;exact⟨rfl,λ_ _ _ _ h=>h⟩
  ·cases h
 ·split at h
  ·rename_i b
   split at h
   ·rename_i c a
    cases h;refine⟨rfl,λenv B w v ⟨vs,e,U⟩=>?_⟩;show eb env B w (KF _ _) v;unfold KF;rw[a];exact⟨vs,e,U.data b rfl a⟩
   ·cases h
  ·cases h
 ·cases h
abbrev ki:eH->List Type->List Type
 |[],T=>T
 |c::r,T=>c.LT (ki r T)
def jA:(l:eH)->{T:List Type}->dy (ki l T)->ej×dy T
 |[],_,t=>([],t)
 |c::r,_,u=>((c.S u).1::(jA r (c.S u).2).1,(jA r (c.S u).2).2)
def zy:(l:eH)->ej->{T:List Type}->dy T->Option (dy (ki l T))
 |[],[],_,t=>some t
 |c::r,x::s,_,t=>match zy r s t with
  |some u=>c.get x u
  |none=>none
 |_,_,_,_=>none
theorem BY:∀ {l:eH} {s:ej} {T:List Type} {t:dy T} {u:dy (ki l T)},zy l s t=some u->(jA l u).2=t/\∀env B w vs,dO env B w s vs->dO env B w (jA l u).1 vs
 |[],[],_,_,_,h=>by cases h;exact⟨rfl,λ_ _ _ _ h=>h⟩
 |c::r,x::s,_,t,u,h=>by
  unfold zy at h
  split at h
  ·rename_i b e
   obtain⟨I,J⟩:=BY e;obtain⟨ag,a⟩:=gU.jL h;unfold jA;rw[ag];refine⟨I,λenv B w vs ⟨v,q,e,bm,ab⟩=>⟨v,q,e,a _ _ _ _ bm,J _ _ _ _ ab⟩⟩
  ·cases h
 |[],_::_,_,_,_,h=>by cases h
 |_::_,[],_,_,_,h=>by cases h
inductive mu where
 |a (x:gU)
 |cY (l:eH)
abbrev mu.LT:mu->List Type->List Type
 |.a x,T=>x.LT T
 |.cY l,T=>ki l T
def mu.S:(s:mu)->{T:List Type}->dy (s.LT T)->b8×dy T
 |.a x,_,u=>(.a (x.S u).1,(x.S u).2)
 |.cY l,_,u=>(.cY (jA l u).1,(jA l u).2)
def mu.get:(s:mu)->b8->{T:List Type}->dy T->Option (dy (s.LT T))
 |.a x,.a y,_,t=>x.get y t
 |.cY l,.cY cs,_,t=>zy l cs t
 |_,_,_,_=>none
def xa(x y:b8):Prop:=∀env B w v,e7 env B w x v->e7 env B w y v
theorem mu.jL{s:mu}{x:b8}{T:List Type}{t:dy T}{u:dy (s.LT T)}(h:s.get x t=some u):(s.S u).2=t/\xa x (s.S u).1:=by
 unfold mu.get at h
 split at h
 ·exact gU.jL h
 ·obtain⟨I,J⟩:=BY h
  exact⟨I,λenv B w v ⟨vs,e,U⟩=>⟨vs,e,J _ _ _ _ U⟩⟩
 ·cases h
abbrev zz:List (Nat×mu)->List Type->List Type
 |[],T=>T
 |c::r,T=>c.2.LT (zz r T)
def o8:(l:List (Nat×mu))->{T:List Type}->dy (zz l T)->c6×dy T
 |[],_,t=>([],t)
 |c::r,_,u=>((c.1,(c.2.S u).1)::(o8 r (c.2.S u).2).1,(o8 r (c.2.S u).2).2)
def Fv:(l:List (Nat×mu))->c6->{T:List Type}->dy T->Option (dy (zz l T))
 |[],_,_,t=>some t
 |c::r,L,_,t=>match bj L c.1,Fv r L t with
  |some x,some u=>c.2.get x u
  |_,_=>none
theorem Fw:∀ {l:List (Nat×mu)} {L:c6} {T:List Type} {t:dy T} {u:dy (zz l T)},Fv l L t=some u->(o8 l u).2=t/\∀s sv,bj (o8 l u).1 s=some sv->∃x,bj L s=some x/\xa x sv
 |[],_,_,_,_,h=>by cases h;exact⟨rfl,λ_ _ h=>by cases h⟩
 |c::r,L,_,t,u,h=>by
  unfold Fv at h
  split at h
  ·rename_i x f b e
   obtain⟨I,J⟩:=Fw e;obtain⟨ag,d⟩:=mu.jL h;unfold o8;rw[ag];refine⟨I,λs sv a=>?_⟩;rw[cX]at a
   split at a
   ·rename_i e;subst e;cases a;exact⟨x,b,d⟩
   ·exact J s sv a
  ·cases h
inductive gX where
 |cells (t:TypeId) (l:List cN)
 |row (t:TypeId) (g:aV)
 |KG (t:TypeId) (g:aV)
 |hl (t:TypeId) (g:aV)
 |mp (gk gv:aV)
 |cW (el:Bool) (t:TypeId) (g:aV) (d:Nat)
 |KH (el:Bool) (t:TypeId) (g:aV) (d:Nat)
 |lj
 |h8 (eR:Nat)
 |cf (t bS:TypeId) (g:aV)
 |KI (t bS:TypeId) (g:aV) (d:Option Nat)
abbrev gX.LT:gX->List Type->List Type
 |.cells _ l,T=>zx l T
 |.row _ g,T=>List g.D::T
 |.KG _ g,T=>List g.D::Nat::T
 |.hl _ g,T=>List g.D::T
 |.mp gk gv,T=>List (gk.D×gv.D)::T
 |.cW _ _ g _,T=>List (List g.D)::Nat::T
 |.KH _ _ g _,T=>List (List g.D)::Nat::Nat::T
 |.lj,T=>ByteArray::Nat::T
 |.h8 _,T=>T
 |.cf _ _ g,T=>List (Bool×List g.D)::T
 |.KI _ _ g _,T=>List (Bool×List g.D)::Nat::T
def gX.S:(s:gX)->{T:List Type}->dy (s.LT T)->cC×dy T
 |.cells t l,_,u=>(.cells t (tP l u).1,(tP l u).2)
 |.row t g,_,u=>(.row t g u.1 none,u.2)
 |.KG t g,_,u=>(.row t g u.1 (some u.2.1),u.2.2)
 |.hl t g,_,u=>(.hl t g u.1,u.2)
 |.mp gk gv,_,u=>(.mp gk gv u.1 none,u.2)
 |.cW b t g d,_,u=>(.cW b t g u.1 none u.2.1 d,u.2.2)
 |.KH b t g d,_,u=>(.cW b t g u.1 (some u.2.2.1) u.2.1 d,u.2.2.2)
 |.lj,_,u=>(.lj u.1 u.2.1,u.2.2)
 |.h8 m,_,u=>(.h8 m,u)
 |.cf t a g,_,u=>(.cf t a g u.1 none none,u.2)
 |.KI t a g d,_,u=>(.cf t a g u.1 none (some (u.2.1,d)),u.2.2)
def RW{g g':aV}(h:g'=g)(l:List (Bool×List g'.D)):List (Bool×List g.D):=h ▸ l
def RX{g g':aV}(h:g'=g)(l:List (List g'.D)):List (List g.D):=h ▸ l
def ad8{gk a gv b:aV}(h:a=gk)(J:b=gv)(l:List (a.D×b.D)):List (gk.D×gv.D):=h ▸ J ▸ l
def gX.get:(s:gX)->cC->{T:List Type}->dy T->Option (dy (s.LT T))
 |.cells t l,.cells a cs,_,u=>match beq a t with
  |true=>BX l cs u
  |false=>none
 |.row t g,.row a g' l _,_,u=>match beq a t,decEq g' g with
  |true,isTrue h=>some (qA h l,u)
  |_,_=>none
 |.KG t g,.row a g' l (some c),_,u=>match beq a t,decEq g' g with
  |true,isTrue h=>some (qA h l,c,u)
  |_,_=>none
 |.hl t g,.hl a g' l,_,u=>match beq a t,decEq g' g with
  |true,isTrue h=>some (qA h l,u)
  |_,_=>none
 |.hl t g,.row a g' l _,_,u=>match beq a t,decEq g' g with
  |true,isTrue h=>some (qA h l,u)
  |_,_=>none
 |.mp gk gv,.mp n o l _,_,u=>match decEq n gk,decEq o gv with
  |isTrue h,isTrue J=>some (ad8 h J l,u)
  |_,_=>none
 |.cW j t g d,.cW e a g' l _ i b,_,u=>match decEq e j,beq a t,beq b d,decEq g' g with
  |isTrue _,true,true,isTrue h=>some (RX h l,i,u)
  |_,_,_,_=>none
 |.KH j t g d,.cW e a g' l (some c) i b,_,u=>match decEq e j,beq a t,beq b d,decEq g' g with
  |isTrue _,true,true,isTrue h=>some (RX h l,i,c,u)
  |_,_,_,_=>none
 |.lj,.lj s p,_,u=>some (s,p,u)
 |.h8 m,.h8 q,_,u=>match beq q m with
  |true=>some u
  |false=>none
 |.cf t k g,.cf a f g' l _ none,_,u=>match beq a t,beq f k,decEq g' g with
  |true,true,isTrue h=>some (RW h l,u)
  |_,_,_=>none
 |.KI t k g d,.cf a f g' l _ (some (i,b)),_,u=>match beq a t,beq f k,decEq b d,decEq g' g with
  |true,true,isTrue _,isTrue h=>some (RW h l,i,u)
  |_,_,_,_=>none
 |_,_,_,_=>none
def ad9(id:Nat)(x y:cC):Prop:=∀env B w c,e1 env B w id x c->e1 env B w id y c
theorem gX.jL{s:gX}{x:cC}{T:List Type}{t:dy T}{u:dy (s.LT T)}(id:Nat)(h:s.get x t=some u):(s.S u).2=t/\ad9 id x (s.S u).1:=by
 unfold gX.get at h
 split at h
 ·split at h
  ·rename_i e
   rw[eq_of_beq_eq_true e];obtain⟨I,J⟩:=KE h;exact⟨I,λenv B w c ⟨b,vs,e,U,ag⟩=>⟨b,vs,e,U,J _ _ _ _ ag⟩⟩
  ·cases h
 ·split at h
  ·rename_i J e _
   subst J;rw[eq_of_beq_eq_true e];cases h;exact⟨rfl,λenv B w c ⟨A,k,xs,e,U,ag,_⟩=>⟨A,k,xs,e,U,ag,λ_ e=>by cases e⟩⟩
  ·cases h
 ·split at h
  ·rename_i J e _
   subst J;rw[eq_of_beq_eq_true e];cases h;exact⟨rfl,λenv B w c h=>h⟩
  ·cases h
 ·split at h
  ·rename_i J e _
   subst J;rw[eq_of_beq_eq_true e];cases h;exact⟨rfl,λenv B w c h=>h⟩
  ·cases h
 ·split at h
  ·rename_i J e _
   subst J;rw[eq_of_beq_eq_true e];cases h;exact⟨rfl,λenv B w c ⟨A,k,xs,e,U,ag,_⟩=>⟨A,k,e,.inl ⟨xs,U,ag⟩⟩⟩
  ·cases h
 ·split at h
  ·rename_i I J _ _
   subst I;subst J;cases h;exact⟨rfl,λenv B w c ⟨b,i,k,e,U,ag,a,_⟩=>⟨b,i,k,e,U,ag,a,λ_ e=>by cases e⟩⟩
  ·cases h
 ·split at h
  ·rename_i he ag _ I J _
   subst he;subst ag;rw[eq_of_beq_eq_true I,eq_of_beq_eq_true J];cases h;exact⟨rfl,λenv B w c ⟨A,k,ys,g,c',m,e,U,I,hi,J,_,a⟩=>⟨A,k,ys,g,c',m,e,U,I,hi,J,(λ_ e=>by cases e),a⟩⟩
  ·cases h
 ·split at h
  ·rename_i he ag _ I J _
   subst he;subst ag;rw[eq_of_beq_eq_true I,eq_of_beq_eq_true J];cases h;exact⟨rfl,λenv B w c h=>h⟩
  ·cases h
 ·cases h
  exact⟨rfl,λenv B w c h=>h⟩
 ·split at h
  ·rename_i e
   rw[eq_of_beq_eq_true e];cases h;exact⟨rfl,λenv B w c h=>h⟩
  ·cases h
 ·split at h
  ·rename_i ag I J _
   subst ag;rw[eq_of_beq_eq_true I,eq_of_beq_eq_true J];cases h;exact⟨rfl,λenv B w c ⟨A,k,ys,f,a6,e,U,a,d,_⟩=>⟨A,k,ys,f,a6,e,U,a,d,λ_ e=>by cases e⟩⟩
  ·cases h
 ·split at h
  ·rename_i he ag I J _ _
   subst he;subst ag;rw[eq_of_beq_eq_true I,eq_of_beq_eq_true J];cases h;exact⟨rfl,λenv B w c ⟨A,k,ys,f,a6,e,U,a,d,_⟩=>⟨A,k,ys,f,a6,e,U,a,d,λ_ e=>by cases e⟩⟩
  ·cases h
 ·cases h
abbrev ov:List (Nat×gX)->List Type->List Type
 |[],T=>T
 |c::r,T=>c.2.LT (ov r T)
def kH:(l:List (Nat×gX))->{T:List Type}->dy (ov l T)->bC×dy T
 |[],_,t=>([],t)
 |c::r,_,u=>((c.1,(c.2.S u).1)::(kH r (c.2.S u).2).1,(kH r (c.2.S u).2).2)
def xb:(l:List (Nat×gX))->bC->{T:List Type}->dy T->Option (dy (ov l T))
 |[],[],_,t=>some t
 |c::r,x::s,_,t=>match beq c.1 x.1,xb r s t with
  |true,some u=>c.2.get x.2 u
  |_,_=>none
 |_,_,_,_=>none
theorem xc:∀ {l:List (Nat×gX)} {h:bC} {T:List Type} {t:dy T} {u:dy (ov l T)},xb l h t=some u->(kH l u).2=t/\∀env B w H,bG env B w h H->bG env B w (kH l u).1 H
 |[],[],_,_,_,h=>by cases h;exact⟨rfl,λ_ _ _ _ h=>h⟩
 |c::r,x::s,_,t,u,h=>by
  unfold xb at h
  split at h
  ·rename_i d a e
   obtain⟨I,J⟩:=xc e;obtain⟨ag,b⟩:=gX.jL x.1 h;unfold kH;rw[ag];refine⟨I,λenv B w H ⟨q,H',e,bm,ab⟩=>⟨q,H',e,?_,J _ _ _ _ ab⟩⟩;rw[eq_of_beq_eq_true a];exact b _ _ _ _ bm
  ·cases h
 |[],_::_,_,_,_,h=>by cases h
 |_::_,[],_,_,_,h=>by cases h
structure eG where
 L:List (Nat×mu)
 H:List (Nat×gX)
 tQ:bX:=[]
 nL:bX:=[]
abbrev eG.T(s:eG):List Type:=zz s.L (ov s.H [])
abbrev eG.D(s:eG):Type:=BW s.T
section
structure bI(X:bz) where
 f:FuncId
 fn:Func
 A:eH
 eO:List (Nat×gX)
 aX:Type
 mv:aX
 m:dy (ki A (ov eO []))->Option aX
 out:dy (ki A (ov eO []))->aX->b8×bC
 aC:X.P.funcs[f]?=some fn
 ba : (fn.name == "runtime.NumGoroutine") = false
 ab:fn.body.isNone=false
 ok:∀d r,m d=some r->AC X f (jA A d).1 (kH eO (jA A d).2).1 (λsv h=>sv=(out d r).1/\h=(out d r).2)
def sK:ev->ev
 |[]=>[]
 |(i,j)::r=>(j,i)::sK r
theorem KM:∀ {aB:ev} {i j:Nat},(j,i)∈sK aB↔(i,j)∈aB
 |[],_,_=>by simp[sK]
 |(a,b)::r,i,j=>by
  unfold sK;rw[List.mem_cons,List.mem_cons,KM];simp only[Prod.mk.injEq];constructor<;>rintro(⟨I,J⟩|h)
  ·exact .inl ⟨J,I⟩
  ·exact .inr h
  ·exact .inl ⟨J,I⟩
  ·exact .inr h
theorem RY:∀aB:ev,u3 (sK aB)=ml aB
 |[]=>rfl
 |(a,b)::r=>by
  unfold sK u3 ml;rw[RY r]
theorem KN{aB:ev}(I:(u3 aB).Nodup)(J:(ml aB).Nodup){i j:Nat}:bj (sK aB) j=some i↔bj aB i=some j:=by
 constructor
 ·intro h
  exact Bv I (KM.1 (y4 h))
 ·intro h
  exact Bv (by rw[RY];exact J) (KM.2 (y4 h))
def o9(aB a:ev):bX->bC->Option (bC×bC)
 |[],H=>some ([],H)
 |i::is,H=>match bj aB i with
  |some j=>match bj H j with
   |some b'=>match b'.dE a,o9 aB a is (oe j H)with
    |some b,some (h,H')=>some ((i,b)::h,H')
    |_,_=>none
   |none=>none
  |none=>none
section
variable {X:bz} {R:Nat->Prop} {W:World} {aD:fk} {n:Nat} {aq:bX} {env RZ:Nat->Loc} {B:Nat->Prop} {ai:World} {H:cI} {st st':aQ} {a aU:Act} {w w':World} {o:Oper} {d:Nat} {aB:ev}
theorem R0(I:(u3 aB).Nodup)(J:(ml aB).Nodup)(he:∀i j,bj aB i=some j->RZ i=env j):∀ {is:bX} {l h l':bC} {C:cI},o9 aB (sK aB) is l=some (h,l')->bG env B ai l C->∃a d,C.Perm (a++d)/\bG RZ B ai h a/\bG env B ai l' d
 |[],l,h,l',C,ak,cF=>by cases ak;exact⟨[],C,List.Perm.refl _,rfl,cF⟩
 |i::is,l,h,l',C,ak,cF=>by
  unfold o9 at ak
  split at ak
  ·rename_i j g
   split at ak
   ·rename_i b' ah
    split at ak
    ·rename_i b s r ab m
     cases ak;obtain⟨c,H2,f,n,o⟩:=cF.erase ah;obtain⟨a,d,q,p,e⟩:=R0 I J he m o;have k:=(KN I J).2 g;exact⟨c::a,d,n.trans (List.Perm.cons _ q),⟨c,a,rfl,(e1.dE (λj i h=>he i j ((KN I J).1 h)) k ab).1 f,p⟩,e⟩
    ·cases ak
   ·cases ak
  ·cases ak
structure zA(X:bz)(e:bI X) where
 d:dy (ki e.A (ov e.eO []))
 H1:bC
def vm(X:bz)(n:Nat)(e:bI X)(aB:ev)(H:bC)(args:ej):Option (zA X e):=
 match wS n aB,tx (sK aB) args,o9 aB (sK aB) (e.eO.map (·.1)) H with
 |true,some a,some (I,H1)=>match xb (T:=[]) e.eO I ()with
  |some u=>match zy e.A a u with
   |some d=>some ⟨d,H1⟩
   |none=>none
  |none=>none
 |_,_,_=>none
def after(X:bz)(e:bI X)(aB:ev)(st:aQ)(d:Nat)(p:zA X e)(r:e.aX):Option aQ:=
 match ((e.out p.d r).1).dE aB,sr aB (e.out p.d r).2 with
 |some b,some a=>match aB with
  |[]=>some ⟨(d,b)::st.L,a++st.H⟩
  |_=>some ⟨(d,b)::pG (jZ (kH e.eO (jA e.A p.d).2).1 aB) st.L,a++jj (jZ (kH e.eO (jA e.A p.d).2).1 aB) (jZ (kH e.eO (jA e.A p.d).2).1 aB) p.H1⟩
 |_,_=>none
def vn(X:bz)(n:Nat)(o:Oper)(et:bo->Bool)(st st':aQ):Prop:=∀(R:Nat->Prop) (W:World) (aD:fk) (aq:bX) (env:Nat->Loc) (B:Nat->Prop) (ai:World) (H:cI) (a:Act) (w:World),bM X R W aD n aq env B ai H st a w->∀(KK:Act->World->Prop) (l:List Oper),
 (∀aU w' env' B' b H',bM X R W aD n aq env' B' b H' st' aU w'->(∀k,B k->B' k)->ds (λk=>R k\/B k) ai b->(∀c∈H,et c=true->c∈H')->KK aU w')->fj X.P l.toArray o KK a w
theorem hA.c(h:hA X n o st st'):vn X n o (λ_=>false) st st':=λR W aD aq env B ai H a w ad KK l b=>h R W aD aq env B ai H a w ad KK l λaU w' env' H' c=>b aU w' env' B ai H' c (λ_ h=>h) (ds.refl _ _) (λ_ _ h=>by cases h)
def Callee(X:bz)(st:aQ)(o:Oper)(f:FuncId)(xs:eA)(pre post:ej):Prop:=
 ∃a,(o.op=.call { callee:=.value (.func f),args:=xs.toArray,argTypes:=a }/\pre=[]/\post=[]) \/
  (∃s ids,o.op=.call { callee:=.value (.tmp s),args:=xs.toArray,argTypes:=a }/\bj st.L s=some (.c (.fn f ids))/\pre=[]/\post=qq ids) \/
  ∃s id,o.op=.call { callee:=.value (.tmp s),args:=xs.toArray,argTypes:=a }/\bj st.L s=some (.c (.jR f id))/\pre=[.c (.ptr id 0)]/\post=[]
def Fz(X:bz)(n:Nat)(st:aQ)(xs:eA)(args:ej):Prop:=∀(R:Nat->Prop) (W:World) (aD:fk) (aq:bX) (env:Nat->Loc) (B:Nat->Prop) (ai:World) (H:cI) (a:Act) (w:World),bM X R W aD n aq env B ai H st a w->∃vs,jO (full a) xs=some vs/\dO env B ai args vs
theorem Fz.of{xs:eA}{args:ej}{c:Bool}(h:oU X st.L xs=some (c,args))(U:c=true):Fz X n st xs args:=λ_ _ _ _ _ _ _ _ _ _ ad=>u4 ad h U
def xd:cC->Bool
 |.cells _ _=>false
 |_=>true
def tR(j:Nat):bC->Bool
 |[]=>true
 |(k,_)::r=>!beq k j&&tR j r
def xe(H:bC):ev->Bool
 |[]=>true
 |(i,j)::r=>(ble iG i || tR j H)&&xe H r
def rE(H:bC):ev->Bool
 |[]=>true
 |(_,j)::r=>tR j H&&rE H r
def tS(cy:bX):bC->Bool
 |[]=>true
 |(j,b)::r=>(!cy.elem j || xd b)&&tS cy r
def zB(H:bC)(aB:ev):Bool:=xe H aB&&tS (ml aB) H
def xf(H:bC)(aB:ev)(c:bo):Bool:=rE H aB || (jv c&&zB H aB)
theorem R1{j:Nat}:∀ {H:bC},tR j H=true->∀p∈H,p.1≠j
 |(k,b)::r,h,p,ak=>by
  unfold tR at h;rw[and_eq_true]at h
  rcases List.mem_cons.1 ak with rfl|ak
  ·intro e
   have I:=h.1;rw[show k=j from e,beq_refl]at I;cases I
  ·exact R1 h.2 p ak
theorem R2{j:Nat}:∀ {H:bC},tR j H=true->bj H j=none
 |[],_=>rfl
 |(k,b)::r,h=>by
  unfold tR at h;rw[and_eq_true]at h;rw[cX,if_neg (λe=>by have I:=h.1;rw[e,beq_refl]at I;cases I)];exact R2 h.2
theorem R3{cy:bX}:∀ {l:bC},(∀p∈l,p.1 ∉ cy)->su cy l=true
 |[],_=>rfl
 |(k,b)::r,h=>by
  unfold su;have I:=h (k,b) mem_cons_self;rw[and_eq_true];exact⟨by simpa using I,R3 λp ak=>h p (mem_cons_of_mem _ ak)⟩
theorem KQ{h H:bC}:∀ {aB:ev},xe H aB=true->∀j∈jZ h aB,tR j H=true
 |[],_,j,aN=>by cases aN
 |(i,k)::r,aC,j,aN=>by
  unfold xe at aC;rw[and_eq_true,or_eq_true]at aC;unfold jZ at aN
  split at aN
  ·exact KQ aC.2 j aN
  ·rename_i aa
   rcases List.mem_cons.1 aN with rfl|aN
   ·rcases aC.1 with I|I
    ·unfold EX at aa
     rw[I]at aa;cases aa
    ·exact I
   ·exact KQ aC.2 j aN
theorem R4{H:bC}:∀ {aB:ev},rE H aB=true->xe H aB=true
 |[],_=>rfl
 |(i,j)::r,h=>by
  unfold rE at h;rw[and_eq_true]at h;unfold xe;rw[h.1,R4 h.2,Bool.or_true]
  rfl
theorem R5{H:bC}:∀ {aB:ev},rE H aB=true->∀i j,(i,j)∈aB->tR j H=true
 |(_,_)::r,h,i,j,hm=>by
  unfold rE at h;rw[and_eq_true]at h
  rcases List.mem_cons.1 hm with hm|hm
  ·cases hm;exact h.1
  ·exact R5 h.2 i j hm
theorem R6{j:Nat}:∀ {l:bC} {p:Nat×cC},p∈oe j l->p∈l
 |(k,b)::r,p,h=>by
  unfold oe at h
  split at h
  ·exact mem_cons_of_mem _ h
  ·rcases List.mem_cons.1 h with rfl|h
   ·exact mem_cons_self
   ·exact mem_cons_of_mem _ (R6 h)
theorem KR{aB d:ev}:∀ {is:bX} {l h l':bC},o9 aB d is l=some (h,l')->∀p∈l',p∈l
 |[],_,_,_,ak,p,a=>by cases ak;exact a
 |i::is,l,h,l',ak,p,a=>by
  unfold o9 at ak
  split at ak
  ·split at ak
   ·split at ak
    ·rename_i b f e ab c
     cases ak;exact R6 (KR c p a)
    ·cases ak
   ·cases ak
  ·cases ak
theorem aea{aB b:ev}:∀ {is:bX} {l h l':bC},rE l aB=true->o9 aB b is l=some (h,l')->h=[]/\l'=l
 |[],_,_,_,_,ak=>by cases ak;exact⟨rfl,rfl⟩
 |i::is,l,h,l',ba,ak=>by
  unfold o9 at ak
  split at ak
  ·rename_i j a
   split at ak
   ·rename_i b' ah
    rw[R2 (R5 ba i j (y4 a))]at ah;cases ah
   ·cases ak
  ·cases ak
theorem R7{h H H1:bC}{aB:ev}(aC:xe H aB=true)(a:∀p∈H1,p∈H):su (jZ h aB) H1=true:=R3 λp ak b=>R1 (KQ aC p.1 b) p (a p ak) rfl
theorem aeb{aB:ev}{b b':cC}(h:b.dE aB=some b')(ab:xd b=true):xd b'=true:=by
 unfold cC.dE at h
 split at h
 all_goals first
  |(cases h;rfl)
  |(exfalso;simp[xd]at ab;done)
  |(split at h<;>first|(cases h;rfl)|cases h)
theorem R8{cy:bX}:∀ {l:bC} {j:Nat} {b:cC},tS cy l=true->j∈cy->bj l j=some b->xd b=true
 |[],_,_,_,_,h=>by cases h
 |(k,cL)::r,j,b,ba,a,h=>by
  simp only[tS,and_eq_true]at ba;rw[cX]at h
  split at h
  ·rename_i e;subst e;cases h
   have I:=ba.1;rw[show cy.elem _=true from List.elem_eq_true_of_mem a]at I
   simpa using I
  ·exact R8 ba.2 a h
theorem R9{cy:bX}{j:Nat}:∀ {l:bC},tS cy l=true->tS cy (oe j l)=true
 |[],_=>rfl
 |(k,cL)::r,ba=>by
  have a:=ba;simp only[tS,and_eq_true]at ba;unfold oe
  split
  ·exact ba.2
  ·simp only[tS,and_eq_true]
   exact⟨ba.1,R9 ba.2⟩
theorem Sa{aB d:ev}:∀ {is:bX} {l h l':bC},tS (ml aB) l=true->o9 aB d is l=some (h,l')->∀p∈h,xd p.2=true
 |[],_,_,_,_,ak=>by cases ak;intro p ak;cases ak
 |i::is,l,h,l',ba,ak=>by
  unfold o9 at ak
  split at ak
  ·rename_i j a
   split at ak
   ·rename_i b' ah
    split at ak
    ·rename_i b f e ab c
     cases ak;intro p ak
     rcases List.mem_cons.1 ak with rfl|ak
     ·exact aeb ab (R8 ba (J1 (y4 a)) ah)
     ·exact Sa (R9 ba) c p ak
    ·cases ak
   ·cases ak
  ·cases ak
theorem bG.sn{env:Nat->Loc}{B:Nat->Prop}{w:World}:∀ {l:bC} {H:cI},bG env B w l H->(∀p∈l,xd p.2=true)->∀c∈H,jv c=false
 |[],_,h,_,c,U=>by rw[show _=[] from h]at U;cases U
 |(k,b)::r,_,⟨c0,H',e,I,J⟩,ba,c,U=>by
  subst e
  rcases List.mem_cons.1 U with rfl|U
  ·exact I.pA λt cs e=>by
    have:=ba _ mem_cons_self
    rw[e]at this;cases this
  ·exact bG.sn J (λp ak=>ba p (mem_cons_of_mem _ ak)) c U
theorem Sb(e:bI X){xs:eA}{pre post K:ej}(aB:ev)(M:Callee X st o e.f xs pre post)(D:o.guard=none/\o.dst=some d)(az:blt d n=true)(aJ:Fz X n st xs K){p:zA X e}(ak:vm X n e aB st.H (pre++(K++post))=some p){r:e.aX}(ar:e.m p.d=some r)(bm:after X e aB st d p r=some st'):vn X n o (xf st.H aB) st st':=by
 intro R W aD aq env B ai H a w ad KK l P;unfold vm at ak
 split at ak
 ·rename_i aR I H1 Z aM g
  split at ak
  ·rename_i u hu
   split at ak
   ·rename_i z aj
    cases ak;have O:=Z;simp only[wS,and_eq_true]at O;obtain⟨⟨pM,aN⟩,aV⟩:=O;have af:=Bu pM;have ag:=Bu aN;obtain⟨vs,G,g2⟩:=aJ _ _ _ _ _ _ _ _ _ _ ad;obtain⟨aS,aQ⟩:=xc hu;obtain⟨am,ao⟩:=BY aj;have he:∀i j,bj aB i=some j->(λi=>match bj aB i with|some j=>env j|none=>Loc.no) i=env j:=λi j aH=>by simp only[aH]
    obtain⟨t,aY,F,A,aG⟩:=R0 af ag he g ad.heap;have ap:bT B ai t w:=by
     have f:=(ad.aT.perm (F.append_right (aq.map dB))).fq (H':=t) (by rw[append_assoc];exact sublist_append_left _ _);exact⟨⟨f.below.os,f.below.tape,f.below.output,f.below.size,λk aa=>f.below.block k (.inr aa)⟩,λk aa=>f.base k (.inr aa),λc U=>(f.ok c U).base λb ab aa=>((f.ok c U).lt ab).1 (.inr aa),f.apart⟩
    have cF:bG (λi=>match bj aB i with|some j=>env j|none=>Loc.no) B ai (kH e.eO (jA e.A z).2).1 t:=by rw[am];exact aQ _ _ _ _ A
    have key:∀C,dO env B ai (pre++(K++post)) C->q8 X.P e.f C.toArray w (wQ X (λi=>match bj aB i with|some j=>env j|none=>Loc.no) B t w (λsv h=>sv=(e.out z r).1/\h=(e.out z r).2)):=λC h=>by
     have J:=(dO.dE (env':=λi=>match bj aB i with|some j=>env j|none=>Loc.no) (λj i aE=>he i j ((KN af ag).1 aE)) aM).1 h;exact e.ok z r ar B ai _ C t w (λi x an=>ad.eu i x an) (ao _ _ _ _ J) cF ap
    have fin:∀v aU w',wQ X (λi=>match bj aB i with|some j=>env j|none=>Loc.no) B t w (λsv h=>sv=(e.out z r).1/\h=(e.out z r).2) v w'->dh n (j9 aq aD) ((d,v)::full a) aU->KK aU w':=λv aU w' y m=>by
     obtain⟨sv,aT,⟨rfl,rfl⟩,aL⟩:=ad.called Z F cF aG y m;unfold after at bm
     split at bm
     ·rename_i Y V aw ax
      obtain⟨env',B',E,H',Q,ac,S,ae⟩:=aL Y V aw ax;have N:∀c∈H,xf st.H aB c=true->c∈H':=λc U aO=>by
       unfold xf at aO;rw[or_eq_true]at aO;have b1:=F.mem_iff.1 U
       rcases aO with aO|aO
       ·obtain⟨au,aX⟩:=aea aO g
        have aK:t=[]:=by rw[au]at A;exact A
        rw[aK]at b1;exact ae (R7 (R4 aO) (KR g)) c (by simpa using b1)
       ·simp only[and_eq_true,zB]at aO
        obtain⟨aI,aP,ay⟩:=aO
        rcases List.mem_append.1 b1 with b1|b1
        ·have:=A.sn (Sa ay g) c b1
         rw[aI]at this;cases this
        ·exact ae (R7 aP (KR g)) c b1
      split at bm
      ·cases bm
       have av:H1=st.H:=by
        cases iW:e.eO with
        |nil=>rw[iW]at g;cases g;rfl
        |cons q _=>rw[iW]at g;cases g
       have T:bM X R W aD n aq env' B' E H' ⟨(d,Y)::pG [] st.L,V++jj [] [] H1⟩ aU w':=Q;rw[Q3,Q4,av]at T;exact P aU w' env' B' E H' T ac S N
      ·cases bm
       exact P aU w' env' B' E H' Q ac S N
     ·cases bm
    obtain⟨aW,M⟩:=M
    rcases M with⟨aA,rfl,rfl⟩|⟨s,ids,aA,ah,rfl,rfl⟩|⟨s,id,aA,ah,rfl,rfl⟩
    ·exact Jk ad.sym aA D az e.aC e.ba e.ab G (key vs (by simpa using g2)) λv aU w' y m=>fin v aU w' y m
    ·obtain⟨ft,L,aF,rfl,aC⟩:=ad.has _ _ ah
     exact P5 ad.sym aA D az (hs L) e.aC e.ba e.ab G (key (vs++aF) (by simpa using g2.append (By aC))) λv aU w' y m=>fin v aU w' y m
    ·obtain⟨ft,L,b,al,rfl⟩:=ad.has _ _ ah
     exact ad0 ad.sym aA D az (hs L) e.aC e.ba e.ab G (key (.pointer (some ⟨b,0,none⟩)::vs) (by rw[append_nil];exact⟨_,_,rfl,⟨b,al,rfl⟩,g2⟩)) λv aU w' y m=>fin v aU w' y m
   ·cases ak
  ·cases ak
 ·cases ak
end
end
section
set_option linter.unusedSectionVars false
section
variable {X:bz} {M:Bool} {n:Nat} {r:Option Nat} {st:aQ} {Q:Exit->aQ->Prop} {ops rest:List Oper} {o:Oper} {d:Nat}
theorem aee(gk gv:aV){t:TypeId}(c:o.op=.makeMap t none)(b:o.guard=none/\o.dst=some d)(az:blt d n=true)
  : hA X n o st ⟨(d,.c (.dI d))::gu d .dead st.L,(d,.mp gk gv [] none)::eE d .dead st.H⟩:=by
 intro R W aD aq env B ai H a w ad KK g f;refine(hM ad.bW b.1 b.2 (dS az) (v:=.map (some w.heap.size)) (w':=w.alloc (.map #[] 0)) (by simp[execOp,c,Instr.makeMap,newObj,Sem.run]) λaU e=>?_);obtain⟨H',_,ag⟩:=ad.oR az (blk:=.mp gk gv [] none) (sv:=.c (.dI d)) (ad.aT.alloc (.map #[] 0)) ⟨_,[],0,fx,rfl,rfl,⟨List.Pairwise.nil,λ_ h=>by cases h⟩,λ_ h=>by cases h⟩ ⟨_,fx,rfl⟩ e;exact f aU _ _ H' (ag)
theorem aef(f:X.aY.ok X.P){t fi fV:TypeId}{bB p dQ:cv}{k:IntKind}{gv:aV}{u x:Operand}{id:Nat}{l:List (Int×gv.D)}{jl:Option (List MapEntry×Nat)}{z:Int}{g:Bool}{sa:bp}(q:o.op=.lookup t u x false)(i:o.guard=none/\o.dst=some d)(az:blt d n=true)(bg:X.aY.find t=some bB)(dm:bB.aK.desc=.map fi fV)(aa:X.aY.find fi=some p)(O:p.aK.desc=.int k)(he:X.aY.find fV=some dQ)(bF:∀B w,ez B w gv gv.zero dQ.aK.zero)(hu:bx X st.L u=some (true,.c (.dI id)))(an:bx X st.L x=some (g,.c (.val (.int k z))))(s:g=true)(A:bj st.H id=some (.mp (.int k) gv l jl))(mY:pR gv ((de (.int k) gv l z).getD gv.zero)=some sa)
  : hA X n o st ⟨(d,.a sa)::st.L,st.H⟩:=by
 intro R W aD aq env B ai H a w ad KK S C;obtain⟨Q,I,b,ab,rfl⟩:=ad.aJ hu rfl;obtain⟨vx,J,ag⟩:=ad.aJ an s;rw[show vx=_ from ag]at J;obtain⟨c,K,⟨b',P,clock,m,rfl,L,c7,_⟩,E⟩:=ad.heap.gQ A;rw[ab]at m;cases m;have F:=(ad.aT.ok _ E.more.mem).2;have h:=(cb.get f bg).aK.1;rw[dm]at h;have e:=(cb.get f aa).aK.1;rw[O]at e;have G:=bK.se (cb.get f he).aK w;have M:∃v,(Instr.lookup t (.map (some b)) (.int k z) false).run X.P w=.ok v w/\ez B ai gv ((de (.int k) gv l z).getD gv.zero) v:=by
  unfold Instr.lookup;simp only[Sem.run_bind,run_underlying h,Result.andThen_ok,MapKept.run_getObj_map F,A5 e,Sem.run_pure]
  rcases L.Fg 0 with⟨ar,aF⟩|⟨y,j,v,ar,aF,a7,_⟩
  ·refine⟨dQ.aK.zero,?_,by rw[ar];exact bF _ _⟩
   simp[MapKept.run_findKey e aF,G,Result.andThen]
  ·refine⟨v,?_,by rw[ar];exact a7⟩
   simp[MapKept.run_findKey e aF,Result.andThen]
 obtain⟨v,D,N⟩:=M;refine(hM ad.bW i.1 i.2 (dS az) (v:=v) (w':=w) ?_ λaU r=>?_)
 ·simp[execOp,q,ad.bW.aJ I,ad.bW.aJ J,D]
 ·exact C aU _ env H (ad.set (N.sa mY) r)
theorem aeg(r:X.aY.ok X.P){t:TypeId}{bB:cv}{u x:Operand}{s:dU}{k:IntKind}{z:Int}{g g2:Bool}(i:o.op=.index t u x)(e:o.guard=none/\o.dst=some d)(az:blt d n=true)(bg:X.aY.find t=some bB)(dm:bB.aK.desc=.string)(hu:bx X st.L u=some (g,.c (.str s)))(p:g=true)(an:bx X st.L x=some (g2,.c (.val (.int k z))))(A:g2=true)(ab:aW z s.length=true)
  : hA X n o st ⟨(d,.c (.val (.int .u8 ((s.getD z.toNat 0).toNat:Int))))::st.L,st.H⟩:=by
 intro R W aD aq env B ai H a w ad KK F h;obtain⟨D,I,J⟩:=ad.aJ hu p;rw[show D=ga s from J]at I;obtain⟨vx,ag,q⟩:=ad.aJ an A;rw[show vx=_ from q]at ag;obtain⟨j,rfl,c,G⟩:=n7 ab;have b:=(cb.get r bg).aK.1;rw[dm]at b;have E:(ByteArray.mk s.toArray)[j]?=some (s.getD j 0):=by
  have f:j<(ByteArray.mk s.toArray).size:=by simpa [ByteArray.size] using c
  have y:(ByteArray.mk s.toArray)[j]?=some ((ByteArray.mk s.toArray)[j]'f):=by
   exact getElem?_pos (ByteArray.mk s.toArray) j f
  rw[y,List.getD_eq_getElem?_getD,getElem?_eq_getElem c]
  rfl
 refine(hM ad.bW e.1 e.2 (dS az) (v:=.int .u8 ((s.getD j 0).toNat:Int)) (w':=w) ?_ λaU l=>?_)
 ·have m:0<=(j:Int):=Int.natCast_nonneg j
  have C:(Instr.index t (ga s) (.int k (j:Int))).run X.P w=.ok (.int .u8 ((s.getD j 0).toNat:Int)) w:=by
   simp only[Instr.index,ga,asIntOf,Sem.run_bind,Sem.run_pure,Result.andThen_ok,run_underlying b,m,if_true,Int.toNat_natCast,E]
  simp[execOp,i,ad.bW.aJ I,ad.bW.aJ ag,C]
 ·simp only[Int.toNat_natCast]at h
  exact h aU _ env H (ad.set rfl l)
theorem aeh(D:X.aY.ok X.P){t fi fV:TypeId}{bB N:cv}{k:IntKind}{gv:aV}{u x y:Operand}{id:Nat}{l:List (Int×gv.D)}{jl:Option (List MapEntry×Nat)}{z:Int}{g g2 c:Bool}{ei:bp}{fO:gv.D}(P:o.op=.insert t u x y)(E:o.guard=none/\o.dst=none)(bg:X.aY.find t=some bB)(dm:bB.aK.desc=.map fi fV)(aa:X.aY.find fi=some N)(au:N.aK.desc=.int k)(hu:bx X st.L u=some (true,.c (.dI id)))(an:bx X st.L x=some (g,.c (.val (.int k z))))(T:g=true)(aG:bx X st.L y=some (g2,ei))(ac:g2=true)(Y:bj st.H id=some (.mp (.int k) gv l jl))(ar:dec gv ei.cells=some (c,fO,[]))(U:c=true)(af:mo gv ei=true)
  : hA X n o st ⟨st.L,e8 id (.mp (.int k) gv (eS (.int k) gv l z fO) none) st.H⟩:=by
 intro R W aD aq env B ai H a w ad KK ax Z;obtain⟨aw,I,b,ab,rfl⟩:=ad.aJ hu rfl;obtain⟨vx,J,ag⟩:=ad.aJ an T;rw[show vx=_ from ag]at J;obtain⟨vy,V,Q⟩:=ad.aJ aG ac;have M:=ez.vf ar U af Q;obtain⟨eQ,K,⟨b',r,clock,F,rfl,L,c7,_⟩,G,ah⟩:=ad.oS (b':=.mp (.int k) gv (eS (.int k) gv l z fO) none) Y;rw[ab]at F;cases F;have s:=(ad.aT.ok _ G.mem).2;have A:=(cb.get D bg).aK.1;rw[dm]at A;have m:=(cb.get D aa).aK.1;rw[au]at m;have ao:∃d i,(Instr.mapUpdate t (.map (some b)) (.int k z) vy).run X.P w=.ok () { w with heap:=w.heap.setIfInBounds b (.map d.toArray i) }/\gd B ai (.int k) gv (eS (.int k) gv l z fO) d/\n5 d i:=by
  unfold Instr.mapUpdate;simp only[Sem.run_bind,run_underlying A,Result.andThen_ok,MapKept.run_getObj_map s,A5 m]
  rcases L.setInt M (z:=z) 0 with⟨a7,b1⟩|⟨j,v,e,a7,b1,dn,am⟩
  ·refine⟨r++[MapEntry.mk (.int k z) vy clock],clock+1,?_,?_,?_⟩
   ·simp only[MapKept.run_findKey m a7,Result.andThen_ok,MapKept.run_setObj_map _ s]
    simp
   ·rw[b1]
    have al:ez B ai (.int k) z (.int k z):=show [Value.int k z]=[Value.int k z] from rfl
    exact gd.snoc al M L
   ·refine⟨?_,?_⟩
    ·rw[map_append,List.pairwise_append]
     exact⟨c7.1,by simp,λp ak q C=>by simp at C;subst C;exact c7.2 p ak⟩
    ·intro p ak
     rw[map_append,List.mem_append]at ak
     rcases ak with ak|ak
     ·exact Nat.lt_succ_of_lt (c7.2 p ak)
     ·simp at ak;omega
  ·refine⟨r.modify j λe=>{ e with key:=.int k z,val:=vy },clock,?_,am,?_⟩
   ·rw[zero_add]at a7
    have ap:(Instr.keyThatStays (((r.toArray[j]?).map (·.key)).getD (.int k z)) (.int k z)).run X.P w=.ok (.int k z) w:=by
     have:((r.toArray[j]?).map (·.key)).getD (.int k z)=.int k z:=by simp[b1,dn]
     rw[this]
     simp[Instr.keyThatStays,Instr.sameBits]
    simp only[MapKept.run_findKey m a7,Result.andThen_ok,Sem.run_bind,ap,MapKept.run_setObj_map _ s]
    simp
   ·rw[n5,zm (f:=λe=>{ e with key:=.int k z,val:=vy }) (λ_=>rfl)]
    exact c7
 obtain⟨d,i,ae,O,av⟩:=ao;refine(A1 ad.bW E.1 E.2 (w':={ w with heap:=w.heap.setIfInBounds b (.map d.toArray i) }) ?_ λaU S=>?_)
 ·simp[execOp,P,ad.bW.aJ I,ad.bW.aJ J,ad.bW.aJ V,ae]
 ·obtain⟨H',aj⟩:=ah _ aU _ ⟨b,d,i,ab,rfl,O,av,λ_ h=>by cases h⟩ (ad.aT.wF G) S
  exact Z aU _ env H' (aj)
theorem aei(z:X.aY.ok X.P){t T s:TypeId}{bB:cv}{x y:Operand}{id d i:Nat}{g g':aV}{l:List (List g.D)}{C:List g'.D}{cap xi:Option Nat}{r g2:Bool}(v:o.op=.store t x y)(E:o.guard=none/\o.dst=none)(bg:X.aY.find t=some bB)(L:beq bB.aK.size 1=true)(an:bx X st.L x=some (r,.c (.fg id 1 i 0)))(M:r=true)(aG:bx X st.L y=some (g2,.c (.aI d)))(J:g2=true)(D:bj st.H id=some (.row T (.aI g) l cap))(Y:bj st.H d=some (.row s g' C xi))(hi:decide (i<l.length)=true)
  : hA X n o st ⟨st.L,e8 id (.cW false T g l cap i d) st.H⟩:=by
 intro R W aD aq env B ai H a w ad KK aa G;obtain⟨vx,I,b,c,m,he,rfl⟩:=ad.aJ an M;obtain⟨vy,Q,f,cK,j,U,rfl⟩:=ad.aJ aG J;obtain⟨eQ,K,⟨A,k,xs,p,rfl,q,O⟩,aC,P⟩:=ad.oS (b':=.cW false T g l cap i d) D;rw[he]at p;cases p;have F:=of_decide_eq_true hi;have S:=bN.rb q;have Z:xs.length=l.length:=by rw[S];show l.length * 1=_;omega
 have V:=(cb.get z bg).aK;have N:=eq_of_beq_eq_true L;refine(EG ad.sym v E V I Q (by rw[N];rfl) (by intro u hu;simp[Value.cells]at hu;subst hu;rfl) aC (by show i * 1+0+1<=l.length * 1;omega) λaU w' bE=>?_);obtain⟨H',ag⟩:=P _ aU w' ⟨some ⟨b,0,none⟩,c,xs,f,cK,j,he,rfl,q,F,U,O,λh=>by cases h⟩ (by
  have e:xs.take (i * 1+0)++(Value.slice f j cK).cells.toList++xs.drop (i * 1+0+(Value.slice f j cK).cells.toList.length)=xs.set i (.slice f j cK):=by
   rw[List.set_eq_take_append_cons_drop,if_pos (by omega)]
   simp[Value.cells]
  have:=bE.aT
  rw[e]at this;exact this) bE.st
 exact G aU _ env H' (ag)
theorem aek(G:X.aY.ok X.P){t T C:TypeId}{bB:cv}{x y:Operand}{id d i:Nat}{g g':aV}{l:List (List g.D)}{p:List g'.D}{cap:Option Nat}{q:Nat}{v g2:Bool}(E:o.op=.store t x y)(L:o.guard=none/\o.dst=none)(bg:X.aY.find t=some bB)(P:beq bB.aK.size 1=true)(an:bx X st.L x=some (v,.c (.fg id 1 i 0)))(Q:v=true)(aG:bx X st.L y=some (g2,.c (.aI d)))(O:g2=true)(J:bj st.H id=some (.row T (.ie g) l cap))(D:bj st.H d=some (.row C g' p (some q)))(hi:decide (i<l.length)=true)(F:beq q p.length=true)
  : hA X n o st ⟨st.L,e8 id (.cW true T g l cap i d) st.H⟩:=by
 intro R W aD aq env B ai H a w ad KK al N;obtain⟨vx,I,b,c,m,he,rfl⟩:=ad.aJ an Q;obtain⟨vy,Y,h,cK,f,z,rfl⟩:=ad.aJ aG O;obtain⟨eQ,K,⟨A,k,xs,r,rfl,s,U⟩,aC,V⟩:=ad.oS (b':=.cW true T g l cap i d) J;rw[he]at r;cases r;have M:=of_decide_eq_true hi;have Z:cK=f:=by
  obtain⟨ah,ae,⟨aj,am,ak,j,_,_,ac⟩,_⟩:=ad.heap.gQ D;rw[z]at j;cases j;rw[ac q rfl];exact eq_of_beq_eq_true F
 have aa:=bN.rb s;have af:xs.length=l.length:=by rw[aa];show l.length * 1=_;omega
 have ab:=(cb.get G bg).aK;have S:=eq_of_beq_eq_true P;refine(EG ad.sym E L ab I Y (by rw[S];rfl) (by intro u hu;simp[Value.cells]at hu;subst hu;rfl) aC (by show i * 1+0+1<=l.length * 1;omega) λaU w' bE=>?_);obtain⟨H',ag⟩:=V _ aU w' ⟨some ⟨b,0,none⟩,c,xs,h,cK,f,he,rfl,s,M,z,U,λ_=>Z⟩ (by
  have e:xs.take (i * 1+0)++(Value.slice h f cK).cells.toList++xs.drop (i * 1+0+(Value.slice h f cK).cells.toList.length)=xs.set i (.slice h f cK):=by
   rw[List.set_eq_take_append_cons_drop,if_pos (by omega)]
   simp[Value.cells]
  have:=bE.aT
  rw[e]at this;exact this) bE.st
 exact N aU _ env H' (ag)
theorem aen(g:aV)(m:Nat)(z:Int)(b:X.aY.ok X.P){t e:TypeId}{bB dQ:cv}{u x:Operand}{f:bp}{k:IntKind}{l:List g.D}{p g2 c:Bool}{sa:bp}(r:o.op=.index t u x)(i:o.guard=none/\o.dst=some d)(az:blt d n=true)(bg:X.aY.find t=some bB)(dm:bB.aK.desc=.array m e)(he:X.aY.find e=some dQ)(G:beq g.size dQ.aK.size=true)(O:mN dQ.aK.desc=g.tN)(M:(g.tN || beq g.size 1)=true)(hu:bx X st.L u=some (p,f))(L:p=true)(an:bx X st.L x=some (g2,.c (.val (.int k z))))(F:g2=true)(bm:Fo g m f=some (c,l))(U:c=true)(bF:aW z m=true)(jU:aW z l.length=true)(mY:pR g (l.getD z.toNat g.zero)=some sa)
  : hA X n o st ⟨(d,.a sa)::st.L,st.H⟩:=by
 intro R W aD aq env B ai H a w ad KK V E;obtain⟨Q,I,J⟩:=ad.aJ hu L;obtain⟨vs,rfl,D⟩:=adS J bm U;obtain⟨vx,ag,C⟩:=ad.aJ an F;rw[show vx=_ from C]at ag;obtain⟨j,rfl,A,_⟩:=n7 bF;obtain⟨T,P,S,_⟩:=n7 jU;have q:j<l.length:=by omega
 have h:=(cb.get b bg).aK.1;rw[dm]at h;obtain⟨v,s,N⟩:=adR (w:=w) (cb.get b he).aK D q (eq_of_beq_eq_true G) O M;have K:=adQ (k:=k) h (cb.get b he).aK A s;refine(hM ad.bW i.1 i.2 (dS az) (v:=v) (w':=w) (by simp[execOp,r,ad.bW.aJ I,ad.bW.aJ ag,K]) λaU y=>?_);exact E aU _ env H (ad.set (N.sa mY) y)
theorem aeo(p:X.aY.ok X.P){t:TypeId}{bB:cv}{u x:Operand}{s:dU}{k:IntKind}{z:Int}{g g2:Bool}(i:o.op=.slice t u (some x) none none)(e:o.guard=none/\o.dst=some d)(az:blt d n=true)(bg:X.aY.find t=some bB)(dm:bB.aK.desc=.string)(hu:bx X st.L u=some (g,.c (.str s)))(m:g=true)(an:bx X st.L x=some (g2,.c (.val (.int k z))))(r:g2=true)(l:decide (0<=z)=true)(I:decide (z<=(s.length:Int))=true)
  : hA X n o st ⟨(d,.c (.str (s.drop z.toNat)))::st.L,st.H⟩:=by
 intro R W aD aq env B ai H a w ad KK G q;obtain⟨C,f,A⟩:=ad.aJ hu m;rw[show C=ga s from A]at f;obtain⟨vx,h,D⟩:=ad.aJ an r;rw[show vx=_ from D]at h;have c:=(cb.get p bg).aK.1;rw[dm]at c;have E:=of_decide_eq_true l;have F:=of_decide_eq_true I;have y:=KC (w:=w) (s:=s) (lo:=some (.int k z)) (hi:=none) (a:=z.toNat) (b:=s.length) c (by simp[Instr.sliceBounds,Instr.sliceBound,asIntOf,E,F]);refine(hM ad.bW e.1 e.2 (dS az) (v:=ga (s.drop z.toNat)) (w':=w) (by simp[execOp,i,ad.bW.aJ f,ad.bW.aJ h,y]) λaU j=>?_);exact q aU _ env H (ad.set rfl j)
theorem aep(p:X.aY.ok X.P){t:TypeId}{bB:cv}{u x:Operand}{s:dU}{k:IntKind}{z:Int}{g g2:Bool}(i:o.op=.slice t u none (some x) none)(e:o.guard=none/\o.dst=some d)(az:blt d n=true)(bg:X.aY.find t=some bB)(dm:bB.aK.desc=.string)(hu:bx X st.L u=some (g,.c (.str s)))(m:g=true)(an:bx X st.L x=some (g2,.c (.val (.int k z))))(r:g2=true)(l:decide (0<=z)=true)(I:decide (z<=(s.length:Int))=true)
  : hA X n o st ⟨(d,.c (.str (s.take z.toNat)))::st.L,st.H⟩:=by
 intro R W aD aq env B ai H a w ad KK G q;obtain⟨C,f,A⟩:=ad.aJ hu m;rw[show C=ga s from A]at f;obtain⟨vx,h,D⟩:=ad.aJ an r;rw[show vx=_ from D]at h;have c:=(cb.get p bg).aK.1;rw[dm]at c;have E:=of_decide_eq_true l;have F:=of_decide_eq_true I;have y:=KC (w:=w) (s:=s) (lo:=none) (hi:=some (.int k z)) (a:=0) (b:=z.toNat) c (by simp[Instr.sliceBounds,Instr.sliceBound,asIntOf,E,F]);refine(hM ad.bW e.1 e.2 (dS az) (v:=ga (s.take z.toNat)) (w':=w) (by simp[execOp,i,ad.bW.aJ f,ad.bW.aJ h,y]) λaU j=>?_);exact q aU _ env H (ad.set rfl j)
theorem aeq(E:X.aY.ok X.P){t:TypeId}{bB:cv}{u x y:Operand}{s:dU}{k i:IntKind}{z c:Int}{g g2 j:Bool}(r:o.op=.slice t u (some x) (some y) none)(f:o.guard=none/\o.dst=some d)(az:blt d n=true)(bg:X.aY.find t=some bB)(dm:bB.aK.desc=.string)(hu:bx X st.L u=some (g,.c (.str s)))(D:g=true)(an:bx X st.L x=some (g2,.c (.val (.int k z))))(G:g2=true)(aG:bx X st.L y=some (j,.c (.val (.int i c))))(O:j=true)(C:decide (0<=z)=true)(I:decide (z<=c)=true)(J:decide (c<=(s.length:Int))=true)
  : hA X n o st ⟨(d,.c (.str ((s.take c.toNat).drop z.toNat)))::st.L,st.H⟩:=by
 intro R W aD aq env B ai H a w ad KK T F;obtain⟨M,h,L⟩:=ad.aJ hu D;rw[show M=ga s from L]at h;obtain⟨vx,l,N⟩:=ad.aJ an G;rw[show vx=_ from N]at l;obtain⟨vy,m,p⟩:=ad.aJ aG O;rw[show vy=_ from p]at m;have e:=(cb.get E bg).aK.1;rw[dm]at e;have P:=of_decide_eq_true C;have U:=of_decide_eq_true I;have Q:=of_decide_eq_true J;have q:0<=c:=by omega
 have K:=KC (w:=w) (s:=s) (lo:=some (.int k z)) (hi:=some (.int i c)) (a:=z.toNat) (b:=c.toNat) e (by
  have S:z<=max c 0:=by omega
  simp[Instr.sliceBounds,Instr.sliceBound,asIntOf,P,Q,q,S])
 refine(hM ad.bW f.1 f.2 (dS az) (v:=ga ((s.take c.toNat).drop z.toNat)) (w':=w) (by simp[execOp,r,ad.bW.aJ h,ad.bW.aJ l,ad.bW.aJ m,K]) λaU A=>?_);exact F aU _ env H (ad.set rfl A)
theorem aer(i:X.aY.ok X.P){t e:TypeId}{x y:Operand}{C g2:Bool}{ei:bp}{f G c:Nat}{m g:aV}{l b:List g.D}{bB:cv}{aL:TypeDesc}{p:Value}(M:o.op=.call ⟨.builtin .append,⟨[x,y]⟩,⟨[t,t]⟩⟩)(S:o.guard=none/\o.dst=some d)(az:blt d n=true)(bg:X.aY.find t=some bB)(dm:bB.aK.desc=.slice e)(he:X.aY.find e=some ⟨⟨aL,f,G,p⟩,some m⟩)(an:bx X st.L x=some (C,.c (.bJ g l (some c))))(O:C=true)(aG:bx X st.L y=some (g2,ei))(Z:g2=true)(Y:beq g.size f=true)(ag:nz st g ei=some b)(U:dA G (l.length+b.length)=true)(ad:decide (c=l.length)=true)
  : hA X n o st ⟨(d,.c (.aI d))::gu d .dead st.L,(d,.hl e g (l++b))::eE d .dead st.H⟩:=by
 intro R W aD aq env B ai H a w h KK ao u;obtain⟨vx,E,A,c',xs,rfl,ak,z,aa,s,J⟩:=h.aJ an O;obtain⟨vy,ab,af⟩:=h.aJ aG Z;have N:=aa c rfl;have Q:=of_decide_eq_true ad;have V:=N.trans Q;rw[V]at E z;obtain⟨k,v,ae⟩:=(cb.get i he).g m rfl;obtain⟨T,P,I,q⟩:=n4 (cb.get i bg).aK (cb.get i he).aK;dsimp only at k v q;have aj:p.cells.size=f:=by
  have:p.cells.toList.length=f:=by rw[v,<- k];exact bN.length (bN.ff (B:=B) (w:=ai) m)
  simpa using this
 have F:=eq_of_beq_eq_true Y;simp only[dA,and_eq_true,decide_eq_true_eq]at U;obtain⟨al,cK,am,rfl,K,D⟩:=tu h ag af;have L:=J.lf h.aT;rw[F]at L D;refine(RQ h.sym M S az P I dm q (by rw[<- k];exact Nat.ble_eq_true_of_le ae) aj E ab L D (Flat.jH (λ_ _=>bN.jH) K) U.1 U.2 (λac aU w' bE=>?_) λr c' aU w' bE=>?_)
 ·have ah:b=[]:=List.eq_nil_of_length_eq_zero ac
  subst ah;obtain⟨H',_,j⟩:=h.oR az (blk:=.hl e g (l++[])) (sv:=.c (.aI d)) (bE.aT.uP e g.size) ⟨A,l.length,fx,.inr ⟨rfl,by simp,z,xs,by rw[append_nil];exact s,by rw[append_nil];exact J⟩⟩ ⟨A,l.length,_,fx,by simp⟩ bE.st;exact u aU w' _ H' (j)
 ·obtain⟨H',_,j⟩:=h.oR az (blk:=.hl e g (l++b)) (sv:=.c (.aI d)) (by have:=bE.aT;rw[<- F]at this;rw[length_append];exact this) ⟨r,c',fx,.inl ⟨_,rfl,s.append K⟩⟩ ⟨r,c',_,fx,by rw[length_append]⟩ bE.st
  exact u aU w' _ H' (j)
end
end
section
section
variable {X:bz} {n:Nat} {st st':aQ} {o:Oper} {d:Nat}
end
end
section
set_option linter.unusedSectionVars false
section
variable {X:bz} {M:Bool} {n:Nat} {st:aQ} {Q:Exit->aQ->Prop} {ops rest:List Oper} {o:Oper} {d:Nat}
theorem aes(b:X.aY.ok X.P){t e:TypeId}{bB dQ:cv}{u x:Operand}{id:Nat}{T:TypeId}{g:aV}{l:List g.D}{cap:Option Nat}{k:IntKind}{z:Int}{f g2:Bool}(i:o.op=.slice t u (some x) none none)(bg:X.aY.find t=some bB)(dm:bB.aK.desc=.slice e)(he:X.aY.find e=some dQ)(hu:bx X st.L u=some (f,.c (.aI id)))(v:f=true)(an:bx X st.L x=some (g2,.c (.val (.int k z))))(r:g2=true)(p:bj st.H id=some (.row T g l cap))(s:beq g.size dQ.aK.size=true)(bF:(decide (0<=z)&&decide (z<=(l.length:Int)))=true):jG X st o (.c (.jS id g.size z.toNat)):=by
 intro R W aD n aq env B ai H a b6 ad;simp only[and_eq_true,decide_eq_true_eq]at bF;obtain⟨E,I,A,c,m,h,rfl⟩:=ad.aJ hu v;obtain⟨vx,J,ag⟩:=ad.aJ an r;rw[show vx=_ from ag]at J;obtain⟨eQ,K,⟨D,k',xs,d,rfl,_⟩,aC⟩:=ad.heap.gQ p;rw[h]at d;cases d;obtain⟨C,j,q,y⟩:=n4 (cb.get b bg).aK (cb.get b he).aK;refine⟨_,⟨A,c,l.length,h,by omega,rfl⟩,λw _=>?_⟩
 have:=PY (l:=z.toNat) ad.bW i j q dm y I J (by omega) (by omega) w
 rw[<- eq_of_beq_eq_true s]at this;exact this
theorem Flat.part{α:Type}{R:α->bY->Prop}{k:Nat}(h:∀x vs,R x vs->vs.length=k){l a:List α}{xs b:bY}{i:Nat}(I:Flat R l xs)(J:Flat R a b):Flat R (l.take i++a++l.drop (i+a.length)) (xs.take (i * k)++b++xs.drop (i * k+b.length)):=by
 have e:=Flat.length h J;rw[e,<- add_mul];exact((Flat.split h i I).1.append J).append (Flat.split h (i+a.length) I).2
theorem aet(q:X.aY.ok X.P){t e:TypeId}{x y:Operand}{u g2:Bool}{ei:bp}{id f ae s p:Nat}{ab g:aV}{l b:List g.D}{cap:Option Nat}{bB:cv}{aL:TypeDesc}{aj:Value}(J:o.op=.call ⟨.builtin .copy,⟨[x,y]⟩,⟨[t,t]⟩⟩)(Q:o.guard=none/\o.dst=some d)(az:blt d n=true)(bg:X.aY.find t=some bB)(dm:bB.aK.desc=.slice e)(he:X.aY.find e=some ⟨⟨aL,f,ae,aj⟩,some ab⟩)(an:bx X st.L x=some (u,.c (.jS id s p)))(L:u=true)(aG:bx X st.L y=some (g2,ei))(aa:g2=true)(P:bj st.H id=some (.row e g l cap))(Y:beq g.size f=true)(M:beq s f=true)(al:nz st g ei=some b)(ao:blt 0 f=true)(U:decide (p+b.length<=l.length)=true):hA X n o st ⟨(d,.c (.val (.int .i64 (b.length:Int))))::st.L,e8 id (.row e g (l.take p++b++l.drop (p+b.length)) cap) st.H⟩:=by
 intro R W aD aq env B ai H a w h KK lo V;obtain⟨vx,z,ak⟩:=h.aJ an L;obtain⟨vy,ad,ah⟩:=h.aJ aG aa;obtain⟨T,O,I,N⟩:=n4 (cb.get q bg).aK (cb.get q he).aK;have j:=eq_of_beq_eq_true Y;have af:=eq_of_beq_eq_true M;have ag:=of_decide_eq_true U;obtain⟨ar,cK,D,rfl,E,v⟩:=tu h al ah;obtain⟨A,c,m,F,au,rfl⟩:=ak;obtain⟨eQ,K,⟨ap,k',xs,G,rfl,S,ac⟩,r,am⟩:=h.oS (b':=.row e g (l.take p++b++l.drop (p+b.length)) cap) P;rw[F]at G;cases G;rw[j]at r v;rw[af]at z;have C:(l.take p++b++l.drop (p+b.length)).length=l.length:=by
  simp only[length_append,length_take,length_drop];omega
 refine P0 h.sym J Q az O I dm N z ad r v (Flat.jH (λ_ _=>bN.jH) E) (dS ao) ag λaU w' bE=>?_
 have k:=Flat.part (i:=p) (λ_ _=>bN.length) S E;rw[j]at k;obtain⟨H',Z⟩:=am (.row A c e g.size l.length (xs.take (p * f)++D++xs.drop (p * f+D.length))) a w' ⟨A,c,_,by rw[C];exact F,by rw[C],k,ac⟩ (by rw[j];exact bE.aT) h.bW;exact V aU w' _ H' (Z.set rfl bE.st)
theorem aeu(f:X.aY.ok X.P){t e:TypeId}{bB:cv}{u:Operand}{id:Nat}{b:Bool}(d:o.op=.call ⟨.builtin .cap,⟨[u]⟩,⟨[t]⟩⟩)(bg:X.aY.find t=some bB)(dm:bB.aK.desc=.slice e)(hu:bx X st.L u=some (b,.c (.aI id)))(i:b=true):jG X st o (.c (.j7 id)):=by
 intro R W aD n aq env B ai H a b6 ad;obtain⟨l,I,A,c,m,j,rfl⟩:=ad.aJ hu i;obtain⟨k,g,h⟩:=Ew (cb.get f bg).aK;exact⟨_,⟨A,c,m,j,rfl⟩,λw _=>Jg ad.bW d g h dm I w⟩
theorem gq.less{w:World}{B:Nat->Prop}{e:TypeId}{size c n m:Nat}{A:Option Addr}{xs:bY}(h:gq w B e size A c n xs)(b:m<=n):gq w B e size A c m (xs.take (m * size)):=by
 have a:m * size<=n * size:=Nat.mul_le_mul_right _ b;refine⟨by rw[length_take,h.1,Nat.min_eq_left a],?_⟩
 rcases h.2 with⟨I,J,ag⟩|⟨g,cur,dY,I,J,ag,ar,aF,a7,b1,dn⟩
 ·exact .inl ⟨I,by omega,ag⟩
 ·exact .inr ⟨g,cur,dY,I,J,ag,ar,by omega,a7,b1,by rw[<- dn,List.take_take,Nat.min_eq_left a]⟩
theorem aev(r:X.aY.ok X.P){t e:TypeId}{bB dQ:cv}{u y v:Operand}{id:Nat}{T:TypeId}{g:aV}{l:List g.D}{cap:Option Nat}{k:IntKind}{z:Int}{D g2 E:Bool}(G:o.op=.slice t u none (some y) (some v))(s:o.guard=none/\o.dst=some d)(az:(blt d n&&blt id iG)=true)(bg:X.aY.find t=some bB)(dm:bB.aK.desc=.slice e)(he:X.aY.find e=some dQ)(hu:bx X st.L u=some (D,.c (.aI id)))(ac:D=true)(aG:bx X st.L y=some (g2,.c (.val (.int k z))))(Y:g2=true)(L:bx X st.L v=some (E,.c (.j7 id)))(ah:E=true)(Q:bj st.H id=some (.row T g l cap))(bF:(decide (0<=z)&&decide (z<=(l.length:Int)))=true):hA X n o st ⟨(d,.c (.aI id))::gu id .dead st.L,(id,.row T g (l.take z.toNat) cap)::eE id .dead st.H⟩:=by
 intro R W aD aq env B ai H a w ad KK au V;simp only[and_eq_true,decide_eq_true_eq]at bF az;obtain⟨az,al⟩:=az;obtain⟨ar,I,A,c,m,f,rfl⟩:=ad.aJ hu ac;obtain⟨vy,J,ag⟩:=ad.aJ aG Y;rw[show vy=_ from ag]at J;obtain⟨vv,O,ao,an,av,i,rfl⟩:=ad.aJ L ah;rw[f]at i;cases i;obtain⟨eQ,K,⟨ap,k',xs,C,rfl,U,ae⟩,aC,aj⟩:=ad.EH (b':=.row T g (l.take z.toNat) cap) Q (λq ak=>by
  obtain⟨_,p,a7⟩:=ad.dP _ _ ak;rw[f]at p
  rcases a7 with⟨b,a7⟩|a7
  ·rw[<- p]at a7;cases a7
  ·have:=dS al;omega)
 rw[f]at C;cases C;obtain⟨am,P,S,af⟩:=n4 (cb.get r bg).aK (cb.get r he).aK;have F:=ad.aT.ok _ aC.mem;have aa:=P9 (h:=z.toNat) ad.bW G P S dm af I J O (by omega) rfl (by have:=F.le.1;omega) (le_refl _) w;refine hM ad.bW s.1 s.2 (dS az) (w':=w) aa λaU M=>?_
 have j:(l.take z.toNat).length=z.toNat:=by rw[length_take];omega
 have N:bT (λk=>R k\/B k) ai (K (.row A c T g.size z.toNat (xs.take (z.toNat * g.size)))) w:=ad.aT.wC aC (ds.refl _ _) (F.less (by omega)) (λb ab=>.inl ab) λb _ _=>rfl
 obtain⟨H',_,Z⟩:=aj (.row A c z.toNat) _ aU w (.c (.aI id)) _ ⟨A,c,_,by rw[j];exact fx,by rw[j],(Flat.split (λ_ _=>bN.length) z.toNat U).1,ae⟩ ⟨A,c,_,fx,rfl⟩ N M;exact V aU w _ H' Z
end
end
end Go.Proofs.YtijeenjclhajhaaGreatDoor
