/- Part 2 of 6 of the proof. -/
import Derived.Test.YtcheedjfedcbpaaGreatDoorEb01
import Derived.Lib.LaidTab
import Derived.Test.YtcheedjfedcbpaaGreatDoorProg
import Derived.KernelRfl
import Derived.Lib.ItoaNum
import Derived.Test.YtcheedjfedcbpaaGreatDoorRows
import Derived.LaidMore
import Derived.OpenShut
import Derived.Stop.Joined
import Derived.Test.YtcheedjfedcbpaaGreatDoorCards
import Derived.Test.YtcheedjfedcbpaaGreatDoorTie
import Derived.SevenTiedAt
import Derived.Maps.RangeRun
import Derived.Scope
import Derived.Lib.OthersKept
set_option linter.all false
set_option maxRecDepth 100000
namespace Go.Proofs.YtcheedjfedcbpaaGreatDoor
open Go.Proofs.Tryz
open _root_.Bool (and_eq_true not_eq_true' or_eq_true)
open _root_.Nat (add_assoc add_mul beq beq_refl ble blt eq_of_beq_eq_true le_of_ble_eq_true le_refl le_trans zero_add)
open _root_.List (append_assoc append_nil drop_drop elem_eq_mem ext_getElem? extract filter_cons_of_neg getElem?_eq_getElem getElem?_eq_none getElem?_map length_append length_drop length_map length_take map_cons map_nil mem_append_left mem_append_right mem_cons_of_mem mem_cons_self range sublist_append_left toArray)
open Go.RowKit
section
abbrev dZ:=List (Nat×Nat)
def x7(aH:dZ):ep->Option ep
 |[]=>some []
 |.id i::r=>match bm aH i,x7 aH r with
  |some j,some l=>some (.id j::l)
  |_,_=>none
 |.eF g x::r=>match x7 aH r with
  |some l=>some (.eF g x::l)
  |none=>none
def bs.dv(aH:dZ):bs->Option bs
 |.ptr i o=>match bm aH i with
  |some j=>some (.ptr j o)
  |none=>none
 |.e4 i a k o=>match bm aH i with
  |some j=>some (.e4 j a k o)
  |none=>none
 |.ax i=>match bm aH i with
  |some j=>some (.ax j)
  |none=>none
 |.fn f ids=>match x7 aH ids with
  |some l=>some (.fn f l)
  |none=>none
 |.dY i=>match bm aH i with
  |some j=>some (.dY j)
  |none=>none
 |.jD f i=>match bm aH i with
  |some j=>some (.jD f j)
  |none=>none
 |.il i o=>match bm aH i with
  |some j=>some (.il j o)
  |none=>none
 |.jR i=>match bm aH i with
  |some j=>some (.jR j)
  |none=>none
 |.jE i s o=>match bm aH i with
  |some j=>some (.jE j s o)
  |none=>none
 |.iF b i=>match bm aH i with
  |some j=>some (.iF b j)
  |none=>none
 |.val v=>some (.val v)
 |.str s=>some (.str s)
 |.dead=>some .dead
 |.gn g x o=>some (.gn g x o)
 |.par g l=>some (.par g l)
 |.bo g l c=>some (.bo g l c)
def Az(aH:dZ):dI->Option dI
 |[]=>some []
 |c::r=>match c.dv aH,Az aH r with
  |some c',some a=>some (c'::a)
  |_,_=>none
def bq.dv(aH:dZ):bq->Option bq
 |.c x=>match x.dv aH with
  |some y=>some (.c y)
  |none=>none
 |.agg cs=>match Az aH cs with
  |some l=>some (.agg l)
  |none=>none
 |.arr g l=>some (.arr g l)
def tT(aH:dZ):dO->Option dO
 |[]=>some []
 |c::r=>match c.dv aH,tT aH r with
  |some c',some a=>some (c'::a)
  |_,_=>none
def cd.dv(aH:dZ):cd->Option cd
 |.a x=>match x.dv aH with
  |some y=>some (.a y)
  |none=>none
 |.da xs=>match tT aH xs with
  |some l=>some (.da l)
  |none=>none
 |.may _ _=>none
def cD.dv(aH:dZ):cD->Option cD
 |.cells t cs=>match Az aH cs with
  |some l=>some (.cells t l)
  |none=>none
 |.row t g l c=>some (.row t g l c)
 |.lg s p=>some (.lg s p)
 |.mp br bj l o=>some (.mp br bj l o)
 |.it b h k e=>match bm aH b with
  |some j=>some (.it j h k e)
  |none=>none
 |.lh=>some .lh
 |.hY b=>match bm aH b with
  |some j=>some (.hY j)
  |none=>none
 |.cP f t g l c i d=>match bm aH d with
  |some j=>some (.cP f t g l c i j)
  |none=>none
 |.lN=>some .lN
 |.gT t g l=>some (.gT t g l)
 |.b0 t a g l c none=>some (.b0 t a g l c none)
 |.b0 t a g l c (some (i,none))=>some (.b0 t a g l c (some (i,none)))
 |.b0 t a g l c (some (i,some d))=>match bm aH d with
  |some j=>some (.b0 t a g l c (some (i,some j)))
  |none=>none
def sA(aH:dZ):bC->Option bC
 |[]=>some []
 |(i,b)::r=>match bm aH i,b.dv aH,sA aH r with
  |some j,some b',some a=>some ((j,b')::a)
  |_,_,_=>none
def qn(ct:b6):ep->Bool
 |[]=>false
 |.id i::r=>ct.elem i || qn ct r
 |.eF _ _::r=>qn ct r
def bs.kill:bs->b6->bs
 |.ptr i o,ct=>match ct.elem i with
  |true=>.dead
  |false=>.ptr i o
 |.e4 i a j o,ct=>match ct.elem i with
  |true=>.dead
  |false=>.e4 i a j o
 |.ax i,ct=>match ct.elem i with
  |true=>.dead
  |false=>.ax i
 |.fn f ids,ct=>match qn ct ids with
  |true=>.dead
  |false=>.fn f ids
 |.dY i,ct=>match ct.elem i with
  |true=>.dead
  |false=>.dY i
 |.jD f i,ct=>match ct.elem i with
  |true=>.dead
  |false=>.jD f i
 |.il i o,ct=>match ct.elem i with
  |true=>.dead
  |false=>.il i o
 |.jR i,ct=>match ct.elem i with
  |true=>.dead
  |false=>.jR i
 |.jE i s o,ct=>match ct.elem i with
  |true=>.dead
  |false=>.jE i s o
 |.iF b i,ct=>match ct.elem i with
  |true=>.dead
  |false=>.iF b i
 |c,_=>c
def rm(ct:b6):dI->dI
 |[]=>[]
 |c::r=>c.kill ct::rm ct r
def bq.kill:bq->b6->bq
 |.c x,ct=>.c (x.kill ct)
 |.agg cs,ct=>.agg (rm ct cs)
 |.arr g l,_=>.arr g l
def vG(ct:b6):dO->dO
 |[]=>[]
 |c::r=>c.kill ct::vG ct r
def cd.kill:cd->b6->cd
 |.a x,ct=>.a (x.kill ct)
 |.may g x,ct=>.may g (x.kill ct)
 |.da xs,ct=>.da (vG ct xs)
def oV(ct:b6):cU->cU
 |[]=>[]
 |(k,v)::r=>(k,v.kill ct)::oV ct r
def cD.kill:cD->b6->cD
 |.cells t cs,ct=>.cells t (rm ct cs)
 |.it a h k aH,ct=>match ct.elem a with
  |true=>.lh
  |false=>.it a h k aH
 |.hY a,ct=>match ct.elem a with
  |true=>.lh
  |false=>.hY a
 |.cP f t g l c i d,ct=>match ct.elem d with
  |true=>.lN
  |false=>.cP f t g l c i d
 |.b0 t e g l c (some (i,some d)),ct=>match ct.elem d with
  |true=>.b0 t e g l c (some (i,none))
  |false=>.b0 t e g l c (some (i,some d))
 |b,_=>b
def iW(ct aq:b6):bC->bC
 |[]=>[]
 |(k,b)::r=>match ct.elem k with
  |true=>iW ct aq r
  |false=>(k,b.kill aq)::iW ct aq r
def lP:dZ->b6
 |[]=>[]
 |(_,j)::r=>j::lP r
def Ec(h:bC)(i:Nat):Bool:=match ble hZ i,ble iT i,bm h i with
 |true,_,_=>true
 |_,true,some (.cells _ _)=>true
 |_,true,some (.mp _ _ _ _)=>true
 |_,_,_=>false
def kD(h:bC):dZ->b6
 |[]=>[]
 |(i,j)::r=>match Ec h i with
  |true=>kD h r
  |false=>j::kD h r
def qo:b6->Bool
 |[]=>true
 |x::r=>!(r.elem x)&&qo r
def tU:dZ->b6
 |[]=>[]
 |(i,_)::r=>i::tU r
def Ed(n:Nat):dZ->Bool
 |[]=>true
 |(i,j)::r=>(ble hZ i || (ble iT i&&blt j hZ) || blt j n)&&Ed n r
def vH(n:Nat)(aH:dZ):Bool:=qo (tU aH)&&qo (lP aH)&&Ed n aH
def inv:dZ->Nat->Option Nat
 |[],_=>none
 |(i,j)::r,k=>if k=j then some i else inv r k
theorem vI:∀ {l:b6},qo l=true->l.Nodup
 |[],_=>List.nodup_nil
 |x::r,h=>by
  simp only[qo,and_eq_true,not_eq_true',elem_eq_mem,decide_eq_false_iff_not]at h;exact List.nodup_cons.2 ⟨h.1,vI h.2⟩
theorem x8{α:Type}:∀ {l:List (Nat×α)} {i:Nat} {x:α},bm l i=some x->(i,x)∈l
 |[],_,_,h=>by cases h
 |(k,v)::r,i,x,h=>by
  rw[cI]at h
  split at h
  ·rename_i e;subst e;cases h;exact mem_cons_self
  ·exact mem_cons_of_mem _ (x8 h)
theorem Qg:∀ {aH:dZ} {i j:Nat},(i,j)∈aH->i∈tU aH
 |[],_,_,h=>by cases h
 |(k,l)::r,i,j,h=>by
  rcases List.mem_cons.1 h with h|h
  ·cases h;exact mem_cons_self
  ·exact mem_cons_of_mem _ (Qg h)
theorem Jr:∀ {aH:dZ} {i j:Nat},(i,j)∈aH->j∈lP aH
 |[],_,_,h=>by cases h
 |(k,l)::r,i,j,h=>by
  rcases List.mem_cons.1 h with h|h
  ·cases h;exact mem_cons_self
  ·exact mem_cons_of_mem _ (Jr h)
theorem AA:∀ {aH:dZ} {i j:Nat},(tU aH).Nodup->(i,j)∈aH->bm aH i=some j
 |[],_,_,_,h=>by cases h
 |(k,l)::r,i,j,bc,h=>by
  have a:=List.nodup_cons.1 bc;rw[cI]
  rcases List.mem_cons.1 h with hm|hm
  ·cases hm;rw[if_pos rfl]
  ·rw[if_neg (λe=>a.1 (by subst e;exact Qg hm)),AA a.2 hm]
theorem Qh:∀ {aH:dZ} {i j:Nat},(lP aH).Nodup->(i,j)∈aH->inv aH j=some i
 |[],_,_,_,h=>by cases h
 |(k,l)::r,i,j,bc,h=>by
  have a:=List.nodup_cons.1 bc;unfold inv
  rcases List.mem_cons.1 h with hm|hm
  ·cases hm;rw[if_pos rfl]
  ·rw[if_neg (λe=>a.1 (by subst e;exact Jr hm)),Qh a.2 hm]
theorem Js:∀ {aH:dZ} {i j:Nat},inv aH j=some i->(i,j)∈aH
 |[],_,_,h=>by cases h
 |(k,l)::r,i,j,h=>by
  unfold inv at h
  split at h
  ·rename_i e;subst e;cases h;exact mem_cons_self
  ·exact mem_cons_of_mem _ (Js h)
theorem Qi{n:Nat}:∀ {aH:dZ} {i j:Nat},Ed n aH=true->(i,j)∈aH->hZ<=i\/(iT<=i/\j<hZ)\/j<n
 |[],_,_,_,h=>by cases h
 |(k,l)::r,i,j,al,h=>by
  simp only[Ed,and_eq_true,or_eq_true]at al
  rcases List.mem_cons.1 h with h|h
  ·cases h
   rcases al.1 with(I|I)|I
   ·exact .inl (le_of_ble_eq_true I)
   ·exact .inr (.inl ⟨le_of_ble_eq_true I.1,ef I.2⟩)
   ·exact .inr (.inr (ef I))
  ·exact Qi al.2 h
theorem Jt{h:bC}:∀ {aH:dZ} {i j:Nat},(i,j)∈aH->(kD h aH).elem j=false->Ec h i=true
 |[],_,_,h,_=>by cases h
 |(k,l)::r,i,j,hm,aa=>by
  unfold kD at aa
  rcases List.mem_cons.1 hm with hm|hm
  ·cases hm
   split at aa
   ·assumption
   ·simp at aa
  ·split at aa
   ·exact Jt hm aa
   ·simp only[elem_eq_mem,List.mem_cons,decide_eq_false_iff_not,not_or]at aa
    exact Jt hm (by simpa using aa.2)
section
variable {env env' env'':Nat->Loc} {B:Nat->Prop} {w:World} {aH:dZ} {ct:b6}
theorem fb.dv(he:∀i j,bm aH i=some j->env' j=env i):∀ {ids l:ep} {vs:cl},x7 aH ids=some l->(fb env B w ids vs↔fb env' B w l vs)
 |[],l,vs,h=>by cases h;exact Iff.rfl
 |.id i::ids,l,vs,h=>by
  simp only[x7]at h
  split at h
  ·rename_i j r hi a
   cases h;constructor
   ·rintro⟨v,cF,I,⟨b,J,au⟩,ag⟩
    exact⟨v,cF,I,⟨b,by rw[he i j hi];exact J,au⟩,(fb.dv he a).1 ag⟩
   ·rintro⟨v,cF,I,⟨b,J,au⟩,ag⟩
    exact⟨v,cF,I,⟨b,by rw[<- he i j hi];exact J,au⟩,(fb.dv he a).2 ag⟩
  ·cases h
 |.eF g x::ids,l,vs,h=>by
  simp only[x7]at h
  split at h
  ·rename_i r a
   cases h;constructor
   ·rintro⟨v,cF,I,J,ag⟩;exact⟨v,cF,I,J,(fb.dv he a).1 ag⟩
   ·rintro⟨v,cF,I,J,ag⟩;exact⟨v,cF,I,J,(fb.dv he a).2 ag⟩
  ·cases h
theorem dR.dv(he:∀i j,bm aH i=some j->env' j=env i):∀ {c c':bs} {v:Value},c.dv aH=some c'->(dR env B w c v↔dR env' B w c' v)
 |.val _,_,_,h=>by cases h;exact Iff.rfl
 |.str _,_,_,h=>by cases h;exact Iff.rfl
 |.dead,_,_,h=>by cases h;exact Iff.rfl
 |.ptr i o,_,_,h=>by
  simp only[bs.dv]at h
  split at h
  ·rename_i j hi
   cases h;simp only[dR,he i j hi]
  ·cases h
 |.e4 i a k o,_,_,h=>by
  simp only[bs.dv]at h
  split at h
  ·rename_i j hi
   cases h;simp only[dR,he i j hi]
  ·cases h
 |.iF b i,_,_,h=>by
  simp only[bs.dv]at h
  split at h
  ·rename_i j hi
   cases h;simp only[dR,he i j hi]
  ·cases h
 |.jR i,_,_,h=>by
  simp only[bs.dv]at h
  split at h
  ·rename_i j hi
   cases h;simp only[dR,he i j hi]
  ·cases h
 |.jE i s o,_,_,h=>by
  simp only[bs.dv]at h
  split at h
  ·rename_i j hi
   cases h;simp only[dR,he i j hi]
  ·cases h
 |.il i o,_,_,h=>by
  simp only[bs.dv]at h
  split at h
  ·rename_i j hi
   cases h;simp only[dR,he i j hi]
  ·cases h
 |.gn _ _ _,_,_,h=>by cases h;exact Iff.rfl
 |.par _ _,_,_,h=>by cases h;exact Iff.rfl
 |.ax i,_,_,h=>by
  simp only[bs.dv]at h
  split at h
  ·rename_i j hi
   cases h;simp only[dR,he i j hi]
  ·cases h
 |.bo _ _ _,_,_,h=>by cases h;exact Iff.rfl
 |.fn f ids,_,_,h=>by
  simp only[bs.dv]at h
  split at h
  ·rename_i l ae
   cases h;constructor
   ·rintro⟨vs,I,J⟩;exact⟨vs,I,(fb.dv he ae).1 J⟩
   ·rintro⟨vs,I,J⟩;exact⟨vs,I,(fb.dv he ae).2 J⟩
  ·cases h
 |.dY i,_,_,h=>by
  simp only[bs.dv]at h
  split at h
  ·rename_i j hi
   cases h;simp only[dR,he i j hi]
  ·cases h
 |.jD f i,_,_,h=>by
  simp only[bs.dv]at h
  split at h
  ·rename_i j hi
   cases h;simp only[dR,he i j hi]
  ·cases h
theorem cO.dv(he:∀i j,bm aH i=some j->env' j=env i):∀ {c c':dI} {v:cl},Az aH c=some c'->(cO env B w c v↔cO env' B w c' v)
 |[],_,_,h=>by cases h;exact Iff.rfl
 |c::r,_,_,h=>by
  simp only[Az]at h
  split at h
  ·rename_i c' a I J
   cases h;constructor
   ·rintro⟨v,q,e,ag,au⟩;exact⟨v,q,e,(dR.dv he I).1 ag,(cO.dv he J).1 au⟩
   ·rintro⟨v,q,e,ag,au⟩;exact⟨v,q,e,(dR.dv he I).2 ag,(cO.dv he J).2 au⟩
  ·cases h
theorem dU.dv(he:∀i j,bm aH i=some j->env' j=env i):∀ {c c':bq} {v:Value},c.dv aH=some c'->(dU env B w c v↔dU env' B w c' v)
 |.c x,_,_,h=>by
  simp only[bq.dv]at h
  split at h
  ·rename_i y aG;cases h;exact dR.dv he aG
  ·cases h
 |.agg cs,_,_,h=>by
  simp only[bq.dv]at h
  split at h
  ·rename_i l ae
   cases h;constructor
   ·rintro⟨vs,e,ag⟩;exact⟨vs,e,(cO.dv he ae).1 ag⟩
   ·rintro⟨vs,e,ag⟩;exact⟨vs,e,(cO.dv he ae).2 ag⟩
  ·cases h
 |.arr g l,_,_,h=>by cases h;exact Iff.rfl
theorem dw.dv(he:∀i j,bm aH i=some j->env' j=env i):∀ {c c':dO} {v:cl},tT aH c=some c'->(dw env B w c v↔dw env' B w c' v)
 |[],_,_,h=>by cases h;exact Iff.rfl
 |c::r,_,_,h=>by
  simp only[tT]at h
  split at h
  ·rename_i c' a I J
   cases h;constructor
   ·rintro⟨v,q,e,ag,au⟩;exact⟨v,q,e,(dU.dv he I).1 ag,(dw.dv he J).1 au⟩
   ·rintro⟨v,q,e,ag,au⟩;exact⟨v,q,e,(dU.dv he I).2 ag,(dw.dv he J).2 au⟩
  ·cases h
theorem eK.dv(he:∀i j,bm aH i=some j->env' j=env i):∀ {c c':cd} {v:Value},c.dv aH=some c'->eK env B w c v->eK env' B w c' v
 |.a x,_,_,h,a=>by
  simp only[cd.dv]at h
  split at h
  ·rename_i y aG;cases h;exact(dU.dv he aG).1 a
  ·cases h
 |.da xs,_,_,h,⟨vs,e,a⟩=>by
  simp only[cd.dv]at h
  split at h
  ·rename_i l ae;cases h;exact⟨vs,e,(dw.dv he ae).1 a⟩
  ·cases h
 |.may _ _,_,_,h,_=>by cases h
theorem eM.dv(he:∀i j,bm aH i=some j->env' j=env i){i j:Nat}(hi:bm aH i=some j):∀ {b b':cD} {c:bp},b.dv aH=some b'->(eM env B w i b c↔eM env' B w j b' c)
 |.cells t cs,_,_,h=>by
  simp only[cD.dv]at h
  split at h
  ·rename_i l ae
   cases h;simp only[eM,he i j hi];constructor
   ·rintro⟨b,vs,I,J,ag⟩;exact⟨b,vs,I,J,(cO.dv he ae).1 ag⟩
   ·rintro⟨b,vs,I,J,ag⟩;exact⟨b,vs,I,J,(cO.dv he ae).2 ag⟩
  ·cases h
 |.row t g l c,_,_,h=>by cases h;simp only[eM,he i j hi]
 |.lg s p,_,_,h=>by cases h;simp only[eM,he i j hi]
 |.mp br bj l o,_,_,h=>by cases h;simp only[eM,he i j hi]
 |.it m z k u,_,_,h=>by
  simp only[cD.dv]at h
  split at h
  ·rename_i a f
   cases h;simp only[eM,he i j hi,he m a f]
  ·cases h
 |.hY m,_,_,h=>by
  simp only[cD.dv]at h
  split at h
  ·rename_i a f
   cases h;simp only[eM,he i j hi,he m a f]
  ·cases h
 |.lh,_,_,h=>by cases h;simp only[eM,he i j hi]
 |.cP y t g l c q d,_,_,h=>by
  simp only[cD.dv]at h
  split at h
  ·rename_i a f
   cases h;simp only[eM,he i j hi,he d a f]
  ·cases h
 |.lN,_,_,h=>by cases h;simp only[eM,he i j hi]
 |.gT t g l,_,_,h=>by cases h;simp only[eM,he i j hi]
 |.b0 t n g l c none,_,_,h=>by cases h;simp only[eM,he i j hi,Ad]
 |.b0 t n g l c (some (q,none)),_,_,h=>by
  cases h;simp only[eM,he i j hi,Ad];constructor<;>rintro⟨A,k,ys,cy,bb,e,U,I,⟨J,v,au,_⟩,ag⟩<;>exact⟨A,k,ys,cy,bb,e,U,I,⟨J,v,au,λ_ h=>by cases h⟩,ag⟩
 |.b0 t n g l c (some (q,some d)),_,_,h=>by
  simp only[cD.dv]at h
  split at h
  ·rename_i a f
   cases h;simp only[eM,he i j hi,Ad];constructor
   ·rintro⟨A,k,ys,cy,bb,e,U,I,⟨J,v,au,aD⟩,ag⟩
    exact⟨A,k,ys,cy,bb,e,U,I,⟨J,v,au,λr ay=>by cases ay;rw[he d a f];exact aD d rfl⟩,ag⟩
   ·rintro⟨A,k,ys,cy,bb,e,U,I,⟨J,v,au,aD⟩,ag⟩
    exact⟨A,k,ys,cy,bb,e,U,I,⟨J,v,au,λr ay=>by cases ay;rw[<- he d a f];exact aD a rfl⟩,ag⟩
  ·cases h
theorem bJ.dv(he:∀i j,bm aH i=some j->env' j=env i):∀ {h a:bC} {H:c2},sA aH h=some a->bJ env B w h H->bJ env' B w a H
 |[],_,_,h,g=>by cases h;exact g
 |(i,b)::r,_,_,h,⟨c,H',e,I,J⟩=>by
  simp only[sA]at h
  split at h
  ·rename_i j b' k ag f d
   cases h;exact⟨c,H',e,(eM.dv he ag f).1 I,bJ.dv he d J⟩
  ·cases h
theorem fb.kill(he:∀j,ct.elem j=false->env' j=env j):∀ {ids:ep} {vs:cl},qn ct ids=false->fb env B w ids vs->fb env' B w ids vs
 |[],_,_,h=>h
 |.id i::ids,_,bc,⟨v,r,e,⟨b,ad,a⟩,h⟩=>by
  simp only[qn,Bool.or_eq_false_iff]at bc;exact⟨v,r,e,⟨b,by rw[he i bc.1];exact ad,a⟩,fb.kill he bc.2 h⟩
 |.eF g x::ids,_,bc,⟨v,r,e,I,h⟩=>⟨v,r,e,I,fb.kill he (by simpa [qn] using bc) h⟩
variable (he:∀j,ct.elem j=false->env' j=env j)
include he
theorem dR.kill:∀ {c:bs} {v:Value},dR env B w c v->dR env' B w (c.kill ct) v
 |.val _,_,U=>U
 |.str _,_,U=>U
 |.dead,_,U=>U
 |.ptr i o,v,U=>by
  simp only[bs.kill]
  split
  ·trivial
  ·rename_i h
   obtain⟨b,e,a⟩:=U;exact⟨b,by rw[he i h];exact e,a⟩
 |.e4 i d j o,v,U=>by
  simp only[bs.kill]
  split
  ·trivial
  ·rename_i h
   obtain⟨b,c,n,e,a⟩:=U;exact⟨b,c,n,by rw[he i h];exact e,a⟩
 |.iF b i,v,U=>by
  simp only[bs.kill]
  split
  ·trivial
  ·rename_i h
   obtain⟨k,e,a⟩:=U;exact⟨k,λad=>by rw[he i h];exact e ad,a⟩
 |.jR i,v,U=>by
  simp only[bs.kill]
  split
  ·trivial
  ·rename_i h
   obtain⟨b,c,n,e,a⟩:=U;exact⟨b,c,n,by rw[he i h];exact e,a⟩
 |.jE i s o,v,U=>by
  simp only[bs.kill]
  split
  ·trivial
  ·rename_i h
   obtain⟨b,c,n,e,a⟩:=U;exact⟨b,c,n,by rw[he i h];exact e,a⟩
 |.il i o,v,U=>by
  simp only[bs.kill]
  split
  ·trivial
  ·rename_i h
   obtain⟨b,c,n,e,a⟩:=U;exact⟨b,c,n,by rw[he i h];exact e,a⟩
 |.gn _ _ _,_,U=>U
 |.par _ _,_,U=>U
 |.ax i,v,U=>by
  simp only[bs.kill]
  split
  ·trivial
  ·rename_i h
   obtain⟨A,c,n,e,a⟩:=U;exact⟨A,c,n,by rw[he i h];exact e,a⟩
 |.bo _ _ _,_,U=>U
 |.fn f ids,v,U=>by
  simp only[bs.kill]
  split
  ·trivial
  ·rename_i h
   obtain⟨vs,a,al⟩:=U;exact⟨vs,a,fb.kill he h al⟩
 |.dY i,v,U=>by
  simp only[bs.kill]
  split
  ·trivial
  ·rename_i h
   obtain⟨b,e,a⟩:=U;exact⟨b,by rw[he i h];exact e,a⟩
 |.jD f i,v,U=>by
  simp only[bs.kill]
  split
  ·trivial
  ·rename_i h
   obtain⟨b,e,a⟩:=U;exact⟨b,by rw[he i h];exact e,a⟩
theorem cO.kill:∀ {c:dI} {v:cl},cO env B w c v->cO env' B w (rm ct c) v
 |[],_,U=>U
 |_::_,_,⟨v,r,e,I,J⟩=>⟨v,r,e,dR.kill he I,cO.kill J⟩
theorem dU.kill:∀ {c:bq} {v:Value},dU env B w c v->dU env' B w (c.kill ct) v
 |.c _,_,U=>dR.kill he U
 |.agg _,_,⟨vs,e,I⟩=>⟨vs,e,cO.kill he I⟩
 |.arr _ _,_,h=>h
theorem dw.kill:∀ {c:dO} {v:cl},dw env B w c v->dw env' B w (vG ct c) v
 |[],_,U=>U
 |_::_,_,⟨v,r,e,I,J⟩=>⟨v,r,e,dU.kill he I,dw.kill J⟩
theorem eK.kill:∀ {c:cd} {v:Value},eK env B w c v->eK env' B w (c.kill ct) v
 |.a _,_,U=>dU.kill he U
 |.may _ _,_,U=>⟨λa=>dU.kill he (U.1 a),U.2⟩
 |.da _,_,⟨vs,e,I⟩=>⟨vs,e,dw.kill he I⟩
theorem eM.kill{k:Nat}(aa:env' k=env k):∀ {b:cD} {c:bp},eM env B w k b c->eM env' B w k (b.kill ct) c
 |.cells _ _,_,⟨b,vs,e,U,I⟩=>⟨b,vs,by rw[aa];exact e,U,cO.kill he I⟩
 |.row _ _ _ _,_,⟨A,c,xs,e,U,I⟩=>⟨A,c,xs,by rw[aa];exact e,U,I⟩
 |.lg _ _,_,⟨b,e,U⟩=>⟨b,by rw[aa];exact e,U⟩
 |.mp _ _ _ _,_,⟨b,y,q,e,U⟩=>⟨b,y,q,by rw[aa];exact e,U⟩
 |.it j _ _ _,_,⟨b,m,e,p,U⟩=>by
  simp only[cD.kill]
  split
  ·exact⟨b,_,by rw[aa];exact e,U⟩
  ·rename_i h
   exact⟨b,m,by rw[aa];exact e,by rw[he j h];exact p,U⟩
 |.hY j,_,⟨b,m,q,e,p,U⟩=>by
  simp only[cD.kill]
  split
  ·exact⟨b,_,by rw[aa];exact e,U⟩
  ·rename_i h
   exact⟨b,m,q,by rw[aa];exact e,by rw[he j h];exact p,U⟩
 |.lh,_,⟨b,o,e,U⟩=>⟨b,o,by rw[aa];exact e,U⟩
 |.cP C t g l cap i d,_,⟨A,c,ys,u,c',m,e,U,I,hi,J,ag⟩=>by
  simp only[cD.kill]
  split
  ·exact⟨A,c,_,_,_,_,_,by rw[aa];exact e,U⟩
  ·rename_i h
   exact⟨A,c,ys,u,c',m,by rw[aa];exact e,U,I,hi,by rw[he d h];exact J,ag⟩
 |.lN,_,⟨A,c,n,t,s,m,xs,e,U⟩=>⟨A,c,n,t,s,m,xs,by rw[aa];exact e,U⟩
 |.gT _ _ _,_,⟨A,c,e,I⟩=>⟨A,c,by rw[aa];exact e,I⟩
 |.b0 _ _ _ _ _ none,_,⟨A,q,ys,a,bb,e,U,I,J,ag⟩=>⟨A,q,ys,a,bb,by rw[aa];exact e,U,I,J,ag⟩
 |.b0 _ _ _ _ _ (some (i,none)),_,⟨A,q,ys,a,bb,e,U,I,⟨J,v,f,_⟩,ag⟩=>⟨A,q,ys,a,bb,by rw[aa];exact e,U,I,⟨J,v,f,λ_ h=>by cases h⟩,ag⟩
 |.b0 _ _ _ _ _ (some (i,some d)),_,⟨A,q,ys,a,bb,e,U,I,⟨J,v,f,r⟩,ag⟩=>by
  simp only[cD.kill]
  split
  ·exact⟨A,q,ys,a,bb,by rw[aa];exact e,U,I,⟨J,v,f,λ_ h=>by cases h⟩,ag⟩
  ·rename_i h
   exact⟨A,q,ys,a,bb,by rw[aa];exact e,U,I,⟨J,v,f,λz ay=>by cases ay;rw[he d h];exact r d rfl⟩,ag⟩
omit he in
theorem Ju:∀ {l:cU} {s:Nat} {v:cd},bm (oV ct l) s=some v->∃u,bm l s=some u/\v=u.kill ct
 |[],_,_,h=>by cases h
 |(k,u)::l,s,v,h=>by
  unfold oV at h;rw[cI]at h ⊢
  split at h
  ·rename_i e
   cases h;rw[if_pos e];exact⟨u,rfl,rfl⟩
  ·rename_i e
   rw[if_neg e];exact Ju h
omit he in
theorem bJ.append:∀ {h a:bC} {H H':c2},bJ env B w h H->bJ env B w a H'->bJ env B w (h++a) (H++H')
 |[],_,_,_,I,J=>by rw[show _=[] from I];exact J
 |_::_,_,_,_,⟨c,H',e,I,J⟩,ag=>⟨c,_,by rw[e];rfl,I,bJ.append J ag⟩
end
inductive pJ(aH:dZ):bC->bC->bC->Prop where
 |nil {H:bC}:pJ aH [] H H
 |cons {i j:Nat} {b b':cD} {r H H':bC} (hi:bm aH i=some j) (ad:b.dv aH=some b') (ae:bm H j=some b') (aw:pJ aH r (nJ j H) H'):pJ aH ((i,b)::r) H H'
section
variable {env env' env'':Nat->Loc} {B:Nat->Prop} {w:World} {aH:dZ} {ct aq:b6}
theorem pJ.split(he:∀i j,bm aH i=some j->env' j=env i){h H H':bC}(al:pJ aH h H H'):∀ {C:c2},bJ env' B w H C->∃a b,C.Perm (a++b)/\bJ env B w h a/\bJ env' B w H' b:=by
 induction al with
 |nil=>intro C cJ;exact⟨[],C,List.Perm.refl _,rfl,cJ⟩
 |cons hi ad ae _ g=>
  intro C cJ;obtain⟨c,H2,I,J,ag⟩:=cJ.erase ae;obtain⟨a,b,f,e,d⟩:=g ag;exact⟨c::a,b,J.trans (List.Perm.cons _ f),⟨c,a,rfl,(eM.dv he hi ad).2 I,e⟩,d⟩
def tV(ct:b6):bC->Bool
 |[]=>true
 |(k,_)::r=>!ct.elem k&&tV ct r
theorem bJ.frame(he:∀j,aq.elem j=false->env' j=env j)(aa:∀k,ct.elem k=false->env' k=env k):∀ {l:bC} {H:c2},bJ env B w l H->∃H',H'.Sublist H/\bJ env' B w (iW ct aq l) H'/\(tV ct l=true->H'=H)
 |[],_,d=>⟨[],by rw[show _=[] from d];exact List.Sublist.refl _,rfl,λ_=>(show _=[] from d).symm⟩
 |(k,b)::l,_,⟨c,H',e,I,J⟩=>by
  obtain⟨H2,a,ag,f⟩:=bJ.frame he aa J;subst e;unfold iW
  split
  ·rename_i h
   exact⟨H2,a.cons _,ag,λe=>by unfold tV at e;rw[h]at e;cases e⟩
  ·rename_i h
   exact⟨c::H2,a.cons_cons _,⟨c,H2,rfl,eM.kill he (aa k h) I,ag⟩,λe=>by unfold tV at e;rw[and_eq_true]at e;rw[f e.2]⟩
end
def oW(X:bu)(L:cU):eE->Option (Bool×dO)
 |[]=>some (true,[])
 |u::r=>match bz X L u,oW X L r with
  |some (g,x),some (c,l)=>some (g&&c,x::l)
  |_,_=>none
theorem vJ{X:bu}{R:Nat->Prop}{W:World}{aE:fj}{n:Nat}{aq:b6}{env:Nat->Loc}{B:Nat->Prop}{ak:World}{H:c2}{st:aO}{a:Act}{w:World}(h:bK X R W aE n aq env B ak H st a w) :
  ∀ {us:eE} {c:Bool} {xs:dO},oW X st.L us=some (c,xs)->c=true->∃vs,jB (full a) us=some vs/\dw env B ak xs vs
 |[],c,xs,hu,_=>by cases hu;exact⟨[],rfl,rfl⟩
 |u::us,c,xs,hu,U=>by
  simp only[oW]at hu
  split at hu
  ·rename_i g x c' l I J
   cases hu;simp only[and_eq_true]at U;obtain⟨v,ag,e⟩:=h.aI I U.1;obtain⟨vs,d,b⟩:=vJ h J U.2;refine⟨v::vs,?_,v,vs,rfl,e,b⟩;unfold jB;rw[ag,d]
  ·cases hu
theorem bK.called{X:bu}{R:Nat->Prop}{W:World}{aE:fj}{n d:Nat}{aq:b6}{env:Nat->Loc}{B:Nat->Prop}{ak:World}{H:c2}{st:aO}{a aX:Act}{w w':World}{aH:dZ}{h H1:bC}{Q:cd->bC->Prop}{v:Value}(ah:bK X R W aE n aq env B ak H st a w)(am:vH n aH=true){z G:c2}(aW:H.Perm (z++G))(ap:bJ (λi=>match bm aH i with|some j=>env j|none=>.no) B ak h z)(au:bJ env B ak H1 G)(aY:pI X (λi=>match bm aH i with|some j=>env j|none=>.no) B z w Q v w')(P:df n (kW aq aE) ((d,v)::full a) aX) :
  ∃sv y,Q sv y/\∀Z ab,sv.dv aH=some Z->sA aH y=some ab->∃env' B' F H',bK X R W aE n aq env' B' F H' ⟨(d,Z)::oV (kD h aH) st.L,ab++iW (kD h aH) (kD h aH) H1⟩ aX w'/\(∀k,B k->B' k)/\c9 (λk=>R k\/B k) ak F/\(tV (kD h aH) H1=true->∀c∈G,c∈H'):=by
 obtain⟨env',B',F,H',sv,y,aN,Y,al,g,ax,aA,m,O⟩:=aY;refine⟨sv,y,aN,λZ ab a0 aK=>?_⟩;simp only[vH,and_eq_true]at am;obtain⟨⟨av,a1⟩,aB⟩:=am;have az:=vI av;have aR:=vI a1;have f:bZ (λk=>R k\/B k) ak (z++(G++aq.map dE)) w:=by
  have:=ah.aU.perm (aW.append_right (aq.map dE))
  rw[append_assoc]at this;exact this
 have an:=List.pairwise_append.1 f.apart;have p:∀k,R k\/B k->gB w z k:=λk aa=>⟨f.base k aa,λc U e=>((f.ok c (mem_append_left _ U)).lt e).1 aa⟩
 have S:∀c∈G++aq.map dE,∀b,c.has b->gB w z b/\¬(R b\/B b):=λc U b ad=>by
  have I:=(f.ok c (mem_append_right _ U)).lt ad;exact⟨⟨I.2,λc' M e=>an.2.2 c' M c U b e ad⟩,I.1⟩
 have aZ:∀k,gB w z k->w'.heap[k]?=w.heap[k]?:=λk aa=>(m.below.block k (.inl aa)).trans (g.block k aa)
 have V:gm B ak B' F:=⟨Y,λk aa=>(g.block k (p k (.inr aa))).trans (f.below.block k (.inr aa))⟩
 let T:Nat->Loc:=λj=>match inv aH j with|some i=>env' i|none=>env j
 have ao:∀i j,bm aH i=some j->T j=env' i:=λi j r=>by
  show(match inv aH j with|some i=>env' i|none=>env j)=_;rw[Qh aR (x8 r)]
 have aC:∀ {l:bC} {C:c2} {D:Nat->Loc} {L:Nat->Prop} {J:World} {i:Nat} {t:TypeId} {cs:dI},bJ D L J l C->bm l i=some (.cells t cs)->∃b,D i=.blk b:=by
  intro l C D L J i t cs ae hi;obtain⟨c,K,⟨b,vs,I,_⟩,_⟩:=ae.gU hi;exact⟨b,I⟩
 have aF:∀ {l:bC} {C:c2} {D:Nat->Loc} {L:Nat->Prop} {J:World} {i:Nat} {br bj:a7} {q:List (br.D×bj.D)} {o:Option (List MapEntry×Nat)},bJ D L J l C->bm l i=some (.mp br bj q o)->∃b,D i=.blk b:=by
  intro l C D L J i br bj q o ae hi;obtain⟨c,K,⟨b,_,_,I,_⟩,_⟩:=ae.gU hi;exact⟨b,I⟩
 have af:∀j,(kD h aH).elem j=false->T j=env j:=λj aw=>by
  show(match inv aH j with|some i=>env' i|none=>env j)=_;cases hi:inv aH j with
  |none=>rfl
  |some i=>
   have N:=Js hi;have ac:=Jt N aw;have r:=AA az N;unfold Ec at ac
   split at ac
   ·rename_i ad
    show env' i=env j;exact O i (env j) (.inr (le_of_ble_eq_true ad)) (by simp only[r])
   ·rename_i t cs ad ae _
    obtain⟨b,A⟩:=aC ap ae;have I:=O i (.blk b) (.inl ⟨le_of_ble_eq_true ad,b,rfl⟩) A;rw[r]at A;show env' i=env j;rw[I];exact A.symm
   ·rename_i br bj q o ad ae _
    obtain⟨b,A⟩:=aF ap ae;have I:=O i (.blk b) (.inl ⟨le_of_ble_eq_true ad,b,rfl⟩) A;rw[r]at A;show env' i=env j;rw[I];exact A.symm
   ·cases ac
 obtain⟨ar,aS,aG,aI⟩:=bJ.frame af af (au.up V);have aV:c9 (λk=>R k\/B k) ak F:=⟨g.os.trans f.below.os,g.tape.trans f.below.tape,g.output.trans f.below.output,le_trans f.below.size g.size,λk aa=>(g.block k (p k aa)).trans (f.below.block k aa)⟩
 refine⟨T,B',F,H'++ar,⟨P.size,P.defs,λs u hu=>?_,(bJ.dv ao aK aA).append aG,?_,λk aa=>Y k (ah.sub k aa),λk aa=>?_,λid b ad=>?_,?_,λi x ai=>(ah.eg i x ai).up V⟩,Y,aV,λe c U=>mem_append_right _ (by rw[aI e];exact U)⟩
 ·rw[cI]at hu
  split at hu
  ·rename_i e;subst e;cases hu;exact⟨v,P.this,eK.dv ao a0 ax⟩
  ·rename_i e
   obtain⟨aT,aU,rfl⟩:=Ju hu;obtain⟨aP,ag,aJ⟩:=ah.has s aT aU;exact⟨aP,P.other e ag,eK.kill af (aJ.up V)⟩
 ·have aj:(ar++aq.map dE).Sublist (G++aq.map dE):=aS.append_right _
  rw[append_assoc];refine⟨⟨m.below.os,m.below.tape,m.below.output,m.below.size,λk aa=>m.below.block k (aa.imp (λh=>p k (.inl h)) id)⟩,λk aa=>m.base k (aa.imp (λh=>p k (.inl h)) id),λc U=>?_,List.pairwise_append.2 ⟨m.apart,an.2.1.sublist aj,λc U d ay b ad aM=>?_⟩⟩
  ·rcases List.mem_append.1 U with U|U
   ·exact(m.ok c U).base λb ad aa=>((m.ok c U).lt ad).1 (aa.imp (λh=>p b (.inl h)) id)
   ·have M:=aj.subset U
    have aQ:=f.ok c (mem_append_right _ M);refine(aQ.ee (w':=w') λb ad=>aZ b (S c M b ad).1).base λb ad aa=>?_
    obtain⟨aD,E⟩:=S c M b ad
    rcases aa with aa|aa
    ·exact E (.inl aa)
    ·rcases al b aa with ca|ca
     ·exact E (.inr ca)
     ·exact ca.1 aD
  ·exact((m.ok c U).lt ad).1 (.inl (S d (aj.subset ay) b aM).1)
 ·rcases al k aa with aD|aD
  ·exact(ah.new k aD).imp_right λy=>⟨y.1,y.2.ee ((g.block k (p k (.inr aD))).trans (f.below.block k (.inr aD)))⟩
  ·exact .inr ⟨λaL=>aD.1 (p k (.inl aL)),aD.2⟩
 ·obtain⟨aD,E,di⟩:=ah.dr id b ad
  refine⟨aD,?_,di⟩;show(match inv aH id with|some i=>env' i|none=>env id)=_;cases hi:inv aH id with
  |none=>exact E
  |some i=>
   have N:=Js hi;have r:=AA az N
   rcases Qi aB N with ca|⟨ca,a2⟩|ca
   ·exact O i b (.inr ca) (by simp only[r];exact E)
   ·rcases di with di|di
    ·exact O i b (.inl ⟨ca,di⟩) (by simp only[r];exact E)
    ·omega
   ·omega
 ·exact ah.base.trans ⟨g.os.trans f.below.os,g.tape.trans f.below.tape,g.output.trans f.below.output,le_trans f.below.size g.size,λk aa=>(g.block k (p k (.inl aa))).trans (f.below.block k (.inl aa))⟩
section
variable {X:bu} {M:Bool} {n:Nat} {r:Option Nat} {st:aO} {Q:Exit->aO->Prop} {ops rest:List Oper} {o:Oper} {d:Nat}
theorem aai{f:FuncId}{fn:Func}{xs:eE}{fA:Array TypeId}{args pL:dO}{h H1:bC}{AD:cd->bC->Prop}{c:Bool}(aH:dZ)(cJ:AC X f args h AD)(aA:o.op=.call { callee:=.value (.func f),args:=xs.toArray,argTypes:=fA })(bn:o.guard=none/\o.dst=some d)(ay:blt d n=true)(gC : X.P.funcs[f]? = some fn)(bc : (fn.name == "runtime.NumGoroutine") = false)(ad : fn.body.isNone = false)(nL : oW X st.L xs = some (c, pL))(U : c = true)(rn : tT aH args = some pL)(kh : vH n aH = true)(jf : pJ aH h st.H H1)(ec:∀sv aP,AD sv aP->∃hS jc,sv.dv aH=some hS/\sA aH aP=some jc/\kC X M n r ops rest ⟨(d,hS)::oV (kD h aH) st.L,jc++iW (kD h aH) (kD h aH) H1⟩ Q):kC X M n r ops (o::rest) st Q:=by
 rintro R W aE a w ⟨aq,env,B,ak,H,cb,ah⟩;obtain⟨vs,I,J⟩:=vJ ah nL U;have he:∀i j,bm aH i=some j->env j=(λi=>match bm aH i with|some j=>env j|none=>Loc.no) i:=λi j kj=>by simp only[kj]
 obtain⟨eQ,kZ,ag,au,aD⟩:=pJ.split he jf ah.heap;have aj:bZ B ak eQ w:=by
  have a1:=(ah.aU.perm (ag.append_right (aq.map dE))).e2 (H':=eQ) (by rw[append_assoc];exact sublist_append_left _ _);exact⟨⟨a1.below.os,a1.below.tape,a1.below.output,a1.below.size,λk aa=>a1.below.block k (.inr aa)⟩,λk aa=>a1.base k (.inr aa),λc U=>(a1.ok c U).base λb ad aa=>((a1.ok c U).lt ad).1 (.inr aa),a1.apart⟩
 refine sn (O4 ah.sym aA bn ay gC bc ad I (cJ B ak _ vs eQ w (λi x ai=>ah.eg i x ai) ((dw.dv he rn).2 J) au aj) λv aX w' mi aQ=>?_);obtain⟨sv,aP,fv,qp⟩:=ah.called kh ag au aD mi aQ;obtain⟨hS,jc,aC,ba,Jw⟩:=ec sv aP fv;obtain⟨env',B',cw,H',bW,_,_,_⟩:=qp hS jc aC ba;exact Jw R W aE aX w' ⟨aq,env',B',cw,H',cb,bW⟩
end
end
section
def oX:ep->dO
 |[]=>[]
 |.id i::r=>.c (.ptr i 0)::oX r
 |.eF g x::r=>.c (.gn g x 0)::oX r
section
variable {X:bu} {M:Bool} {n:Nat} {r:Option Nat} {st:aO} {Q:Exit->aO->Prop} {ops rest:List Oper} {o:Oper} {d:Nat}
theorem ya{env:Nat->Loc}{B:Nat->Prop}{w:World}:∀ {ids:ep} {vs:cl},fb env B w ids vs->dw env B w (oX ids) vs
 |[],_,h=>h
 |.id _::ids,_,⟨v,r,e,I,h⟩=>⟨v,r,e,I,ya h⟩
 |.eF _ _::ids,_,⟨v,r,e,⟨b,o,I,J⟩,h⟩=>⟨v,r,e,⟨b,o,by rw[I];rfl,J⟩,ya h⟩
theorem dw.append{env:Nat->Loc}{B:Nat->Prop}{w:World}:∀ {xs ys:dO} {vs us:cl},dw env B w xs vs->dw env B w ys us->dw env B w (xs++ys) (vs++us)
 |[],_,_,_,h,a=>by rw[show _=[] from h];exact a
 |_::_,_,_,_,⟨v,r,e,I,J⟩,a=>⟨v,_,by rw[e];rfl,I,dw.append J a⟩
theorem Qk{f:FuncId}{fn:Func}{s:Nat}{ids:ep}{xs:eE}{fA:Array TypeId}{args pL:dO}{h H1:bC}{AD:cd->bC->Prop}{c:Bool}(aH:dZ)(cJ:AC X f args h AD)(aA:o.op=.call { callee:=.value (.tmp s),args:=xs.toArray,argTypes:=fA })(bn:o.guard=none/\o.dst=some d)(ay:blt d n=true)(aj : bm st.L s = some (.c (.fn f ids)))(gC : X.P.funcs[f]? = some fn)(bc : (fn.name == "runtime.NumGoroutine") = false)(ad : fn.body.isNone = false)(nL : oW X st.L xs = some (c, pL))(U : c = true)(rn : tT aH args = some (pL ++ oX ids))(kh : vH n aH = true)(jf : pJ aH h st.H H1)(ec:∀sv aP,AD sv aP->∃hS jc,sv.dv aH=some hS/\sA aH aP=some jc/\kC X M n r ops rest ⟨(d,hS)::oV (kD h aH) st.L,jc++iW (kD h aH) (kD h aH) H1⟩ Q):kC X M n r ops (o::rest) st Q:=by
 rintro R W aE a w ⟨aq,env,B,ak,H,cb,ah⟩;obtain⟨vs,I,J⟩:=vJ ah nL U;obtain⟨gb,lu,gG,rfl,hb⟩:=ah.has _ _ aj;have he:∀i j,bm aH i=some j->env j=(λi=>match bm aH i with|some j=>env j|none=>Loc.no) i:=λi j kj=>by simp only[kj]
 obtain⟨eQ,kZ,ag,au,aD⟩:=pJ.split he jf ah.heap;have hG:bZ B ak eQ w:=by
  have a1:=(ah.aU.perm (ag.append_right (aq.map dE))).e2 (H':=eQ) (by rw[append_assoc];exact sublist_append_left _ _);exact⟨⟨a1.below.os,a1.below.tape,a1.below.output,a1.below.size,λk aa=>a1.below.block k (.inr aa)⟩,λk aa=>a1.base k (.inr aa),λc U=>(a1.ok c U).base λb ad aa=>((a1.ok c U).lt ad).1 (.inr aa),a1.apart⟩
 refine sn (Pk ah.sym aA bn ay (im lu) gC bc ad I (cJ B ak _ (vs++gG) eQ w (λi x ai=>ah.eg i x ai) ((dw.dv he rn).2 (J.append (ya hb))) au hG) λv aX w' mi aQ=>?_);obtain⟨sv,aP,fv,qp⟩:=ah.called kh ag au aD mi aQ;obtain⟨hS,jc,aC,ba,Jw⟩:=ec sv aP fv;obtain⟨env',B',cw,H',bW,_,_,_⟩:=qp hS jc aC ba;exact Jw R W aE aX w' ⟨aq,env',B',cw,H',cb,bW⟩
theorem Jx:∀L:cU,oV [] L=L:=by
 have I:∀c:bs,c.kill []=c:=by
  have e:∀ids:ep,qn [] ids=false:=by
   intro ids
   induction ids with
   |nil=>rfl
   |cons i r b=>cases i<;>simp[qn,b]
  intro c;cases c with
  |fn f ids=>simp only[bs.kill,e]
  |_=>rfl
 have J:∀cs:dI,rm [] cs=cs:=by
  intro cs
  induction cs with
  |nil=>rfl
  |cons c r b=>simp only[rm,I,b]
 have ag:∀x:bq,x.kill []=x:=by
  intro x;cases x with
  |c x=>simp only[bq.kill,I]
  |agg cs=>simp only[bq.kill,J]
  |arr g l=>rfl
 have h:∀xs:dO,vG [] xs=xs:=by
  intro xs
  induction xs with
  |nil=>rfl
  |cons c r b=>simp only[vG,ag,b]
 have d:∀x:cd,x.kill []=x:=by
  intro x;cases x with
  |a x=>simp only[cd.kill,ag]
  |may g x=>simp only[cd.kill,ag]
  |da xs=>simp only[cd.kill,h]
 intro L
 induction L with
 |nil=>rfl
 |cons p r b=>obtain⟨k,v⟩:=p;simp only[oV,d,b]
theorem Jy:∀H:bC,iW [] [] H=H:=by
 have I:∀c:bs,c.kill []=c:=by
  have e:∀ids:ep,qn [] ids=false:=by
   intro ids
   induction ids with
   |nil=>rfl
   |cons i r a=>cases i<;>simp[qn,a]
  intro c;cases c with
  |fn f ids=>simp only[bs.kill,e]
  |_=>rfl
 have J:∀cs:dI,rm [] cs=cs:=by
  intro cs
  induction cs with
  |nil=>rfl
  |cons c r a=>simp only[rm,I,a]
 intro H
 induction H with
 |nil=>rfl
 |cons p r a=>
  obtain⟨k,b⟩:=p;cases b with
  |cells t cs=>simp[iW,cD.kill,J,a]
  |row t g l c=>simp[iW,cD.kill,a]
  |lg s p=>simp[iW,cD.kill,a]
  |mp br bj l o=>simp[iW,cD.kill,a]
  |it j q k aH=>simp[iW,cD.kill,a]
  |hY j=>simp[iW,cD.kill,a]
  |lh=>simp[iW,cD.kill,a]
  |cP n t g l c i d=>simp[iW,cD.kill,a]
  |lN=>simp[iW,cD.kill,a]
  |gT t g l=>simp[iW,cD.kill,a]
  |b0 t m g l c h=>rcases h with _|⟨i,_|d⟩<;>simp[iW,cD.kill,a]
theorem aaj{f:FuncId}{fn:Func}{xs:eE}{fA:Array TypeId}{args pL:dO}{V:cd}{c:Bool}(cJ:AC X f args [] (λsv h=>sv=V/\h=[]))(aA:o.op=.call { callee:=.value (.func f),args:=xs.toArray,argTypes:=fA })(bn:o.guard=none/\o.dst=some d)(ay:blt d n=true)(gC : X.P.funcs[f]? = some fn)(bc : (fn.name == "runtime.NumGoroutine") = false)(ad : fn.body.isNone = false)(nL : oW X st.L xs = some (c, pL))(U : c = true)(rn : tT [] args = some pL)(lQ : V.dv [] = some V)(ec:kC X M n r ops rest ⟨(d,V)::st.L,st.H⟩ Q):kC X M n r ops (o::rest) st Q:=
 aai [] cJ aA bn ay gC bc ad nL U rn rfl pJ.nil λsv aP ⟨I,J⟩=>by
  subst I;subst J;refine⟨sv,[],lQ,rfl,?_⟩;show kC X M n r ops rest ⟨(d,sv)::oV [] st.L,[]++iW [] [] st.H⟩ Q;rw[Jx,Jy];exact ec
end
end
section
section
variable {P:Program} {ops:Array Oper} {Q:Exit->Act->World->Prop} {S:Nat->Array Bool->World->Prop}
def hc(P:Program)(ops:Array Oper)(Q:Exit->Act->World->Prop)(S:Nat->Array Bool->World->Prop):Nat->Array Bool->Act->World->Prop
 |0,listed,a,w=>Region.ready .any ops listed=[]/\Q .normal a w
 |fuel+1,listed,a,w=>(Region.ready .any ops listed=[]->Q .normal a w)/\∀i∈Region.ready .any ops listed,∃o,ops[i]?=some o/\fh P ops o (λaX w'=>S i listed w'/\hc P ops Q S fuel (listed.setIfInBounds i true) aX w') a w
theorem zY.mono{o:Oper}{a:Act}{w:World}{K b:Value->World->Prop}(h:zY P o a w K)(aa:∀v w,K v w->b v w):zY P o a w b:=by
 rcases h with⟨v,w',I,J⟩|⟨w',I,J⟩|⟨f,args,b5,I,J⟩
 ·exact .inl ⟨v,w',I,aa _ _ J⟩
 ·exact .inr (.inl ⟨w',I,aa _ _ J⟩)
 ·exact .inr (.inr ⟨f,args,b5,I,Calls.mono J λe w' ⟨v,he,c⟩=>⟨v,he,aa _ _ c⟩⟩)
theorem fh.mono{o:Oper}{a:Act}{w:World}{K b:Act->World->Prop}(h:fh P ops o K a w)(aa:∀a w,K a w->b a w):fh P ops o b a w:=by
 rcases h with⟨I,J⟩|⟨I,J⟩
 ·exact .inl ⟨I,J.mono λ_ _=>aa _ _⟩
 ·exact .inr ⟨I,aa _ _ J⟩
theorem hc.any(r:Option Nat):∀(fuel:Nat) (listed:Array Bool) (a:Act) (w:World),hc P ops Q S fuel listed a w->wpAnyIn (WF r) 0 P .any ops Q fuel listed a w
 |0,_,_,_,h=>h
 |fuel+1,_,_,_,h=>⟨h.1,λi hi=>by
  obtain⟨o,c,ai⟩:=h.2 i hi;unfold wpOpIn;simp only[c];exact fh.fenced (ai.mono λaX w' b=>hc.any r fuel _ aX w' b.2)⟩
theorem fh.Ql{T:World->Prop}{c d:Oper}{v:Value}(lf:c.apart ops d=true)(j:∀cs b,c.op≠.select cs b)(k:∀cs b,d.op≠.select cs b){K:Act->World->Prop}{a:Act}{w:World}(aG:YieldsIf P ops T c v a)(h:fh P ops d K (a.put c.dst v) w) :
  fh P ops d (λaX w'=>YieldsIf P ops T c v aX/\K (aX.put c.dst v) w') a w:=by
 obtain⟨I,J,ag⟩:=Oper.apart_spec lf;have ee:∀u,YieldsIf P ops T c v (a.put d.dst u):=λu=>aG.of_same (execOp_put c j a d.dst u ag) (wanted_put c a d.dst u ag)
 have i:=wanted_put d a c.dst v I;have dS:=execOp_put d k a c.dst v I;have g:∀u,(a.put d.dst u).put c.dst v=(a.put c.dst v).put d.dst u:=λu=>(Act.put_comm a v u J).symm
 rcases h with⟨hw,h⟩|⟨hw,h⟩
 ·refine .inl ⟨by rw[<- i];exact hw,?_⟩
  unfold zY at h ⊢;rw[dS]at h
  rcases h with⟨u,w',g1,g2⟩|⟨w',g1,g2⟩|⟨f,args,b5,g1,g2⟩
  ·exact .inl ⟨u,w',g1,ee u,by rw[g];exact g2⟩
  ·exact .inr (.inl ⟨w',g1,ee _,by rw[g];exact g2⟩)
  ·exact .inr (.inr ⟨f,args,b5,g1,Calls.mono g2 λe w' ⟨u,he,hu⟩=>⟨u,he,ee u,by rw[g];exact hu⟩⟩)
 ·exact .inr ⟨by rw[<- i];exact hw,ee _,by rw[g];exact h⟩
theorem Eg{T:World->Prop}{o:Oper}{v:Value}{a:Act}(aG:YieldsIf P ops T o v a){K:Act->World->Prop}{w:World}(b:T w)(h:K (a.put o.dst v) w):fh P ops o K a w:=by
 rcases aG with⟨hw,aB⟩|⟨hw,rfl⟩
 ·exact .inl ⟨hw,.inl ⟨v,w,aB w b,h⟩⟩
 ·exact .inr ⟨hw,h⟩
def Jz(ops:Array Oper)(i:Nat)(D:b6)(j:Nat):Prop:=∃a e,ops[j]?=some a/\e∈a.after/\Region.binds .any e=true/\(e.on=i\/e.on∈D)
theorem hc.first{i:Nat}{n:Oper}{v:Value}{T:World->Prop}(hi:ops[i]?=some n)(z:∀(j:Nat) (o:Oper) cs b,ops[j]?=some o->o.op≠.select cs b)(D:b6)(R:∀j∈D,Jz ops i D j)(A:∀j l w,S j (l.setIfInBounds i true) w->S j l w):∀(fuel:Nat) (listed:Array Bool) (a:Act) (w:World),
   (∀j∈D,listed.getD j true=false)->(∀j f,ops[j]?=some f->j≠i->listed.getD j true=false->(∀e∈f.after,Region.binds .any e=true->e.on≠i)->n.apart ops f=true/\(j∈D\/∀l w,(∀d∈D,l.getD d true=false)->S j l w->T w)) ->
   i∈Region.ready .any ops listed->YieldsIf P ops T n v a->T w ->
   hc P ops Q S fuel (listed.setIfInBounds i true) (a.put n.dst v) w->(∀l w',T w'->S i l w')->hc P ops Q S (fuel+1) listed a w:=by
 intro fuel
 induction fuel with
 |zero=>
  intro listed a w _ _ m aG p H s;refine⟨λh=>(by rw[h]at m;cases m),λj t=>?_⟩
  by_cases g:j=i
  ·subst g;exact⟨n,hi,Eg aG p ⟨s _ w p,H⟩⟩
  ·have:=ready_mono t g
   rw[H.1]at this;cases this
 |succ fuel V=>
  intro listed a w y K m aG p H s;refine⟨λh=>(by rw[h]at m;cases m),λj t=>?_⟩
  by_cases g:j=i
  ·subst g;exact⟨n,hi,Eg aG p ⟨s _ w p,H⟩⟩
  ·obtain⟨Z,L,G⟩:=H.2 j (ready_mono t g)
   obtain⟨J,f,q,I⟩:=mem_ready.1 t;have M:=Option.some.inj (L.symm.trans q);rw[M]at G;have E:∀e∈f.after,Region.binds .any e=true->e.on≠i:=λe he ad heq=>by
    have c:=I e he ad;have r:=(mem_ready.1 m).1;rw[heq]at c
    rcases Nat.lt_or_ge i listed.size with aP|aP
    ·simp[aP]at r c;rw[r]at c;cases c
    ·simp[Array.getElem?_eq_none aP]at c
   have F:j ∉ D:=λU=>by
    obtain⟨ok,e,aa,he,ad,AH⟩:=R j U
    have:ok=f:=Option.some.inj (aa.symm.trans q)
    subst this;have c:=I e he ad
    rcases AH with AH|AH
    ·exact E e he ad AH
    ·have r:=y _ AH
     rcases Nat.lt_or_ge e.on listed.size with aP|aP
     ·simp[aP]at r c;rw[r]at c;cases c
     ·simp[Array.getElem?_eq_none aP]at c
   obtain⟨lf,N⟩:=K j f q g J E;have X:=fh.Ql lf (λcs b=>z i n cs b hi) (λcs b=>z j f cs b q) aG G;refine⟨f,q,X.mono λaX w' u=>⟨A j listed w' u.2.1,?_⟩⟩;have O:=(N.resolve_left F) listed w' y (A j listed w' u.2.1);refine V (listed.setIfInBounds j true) aX w' (λk aa=>?_) (λk ok aa Y B W=>?_) (ready_mono m (Ne.symm g)) u.1 O ?_ s
   ·rw[getD_set_ne true (λe=>F (by rw[e];exact aa))]
    exact y k aa
   ·refine K k ok aa Y ?_ W
    by_cases C:j=k
    ·subst C;exact J
    ·rw[getD_set_ne true C]at B;exact B
   ·rw[Array.setIfInBounds_comm _ _ g]
    exact u.2.2
end
def yb:Op->Bool
 |.move _=>true
 |.assign _=>true
 |.pick _ _ _=>true
 |.unOp _ _ _=>true
 |.binOp _ _ _ _ _=>true
 |.load _ _=>true
 |.fieldAddr _ _ _=>true
 |.indexAddr _ _ _=>true
 |.slice _ _ _ _ _=>true
 |.convert _ _ _=>true
 |.build _ _=>true
 |.makeFunc _ _ _=>true
 |.nilCheck _=>true
 |.extract _ _=>true
 |.call ⟨.builtin .len,_,_⟩=>true
 |.call ⟨.builtin .cap,_,_⟩=>true
 |.call ⟨.builtin .min,_,_⟩=>true
 |.call ⟨.builtin .max,_,_⟩=>true
 |_=>false
def yc(ops:Array Oper)(i:Nat)(D:b6)(j:Nat):Bool:=match ops[j]? with
 |some o=>o.after.any λe=>Region.binds .any e&&(e.on==i || D.elem e.on)
 |none=>false
def xQ(ops:Array Oper)(i:Nat):b6:=(range ops.size).foldl (λD j=>match yc ops i D j with
 |true=>j::D
 |false=>D) []
def mX:Nat:=1000000
def sC(E:b6)(listed:Array Bool):Bool:=E.any λe=>ble mX e&&listed.getD (e-mX) true
def gp(E:b6)(listed:Array Bool)(j:Nat):Bool:=E.elem j&&!sC E listed
def Ej(E D:b6):Bool:=E.all λe=>!ble mX e || D.elem (e-mX)
def AK(E:b6)(i:Nat):Bool:=!E.elem (i+mX)
theorem Qo{E:b6}{l:Array Bool}{j:Nat}(h:gp E l j=true):E.elem j=true:=by
 unfold gp at h;rw[and_eq_true]at h;exact h.1
theorem JE{E:b6}{l:Array Bool}{i j:Nat}(hi:AK E i=true)(h:gp E l j=true):gp E (l.setIfInBounds i true) j=true:=by
 unfold gp sC at h ⊢;rw[and_eq_true]at h ⊢;refine⟨h.1,?_⟩;have J:=h.2;rw[not_eq_true',List.any_eq_false]at J ⊢;intro e he;have ag:=J e he
 by_cases ad:ble mX e=true
 ·rw[ad,Bool.true_and]at ag ⊢
  have a:i≠e-mX:=λb=>by
   have hle:=le_of_ble_eq_true ad
   have:i+mX=e:=by omega
   unfold AK at hi;rw[this,List.elem_eq_true_of_mem he]at hi;cases hi
  rwa [getD_set_ne true a]
 ·rw[(by simpa only[Bool.not_eq_true] using ad:ble mX e=false),Bool.false_and]
  simp
theorem aao{E D:b6}{l:Array Bool}{j:Nat}(ad:Ej E D=true)(b:∀d∈D,l.getD d true=false)(a:E.elem j=true):gp E l j=true:=by
 unfold gp sC;rw[a,Bool.true_and,not_eq_true',List.any_eq_false];intro e he;unfold Ej at ad;rw[List.all_eq_true]at ad;have I:=ad e he;rw[or_eq_true,not_eq_true']at I
 rcases I with I|I
 ·rw[I];simp
 ·rw[b _ (by simpa using I)];simp
def AL(ops:Array Oper)(E D:b6)(listed:Array Bool)(i:Nat):Bool:=
 (D.all λj=>!listed.getD j true&&yc ops i D j)&&(range ops.size).all (λj=>j==i || listed.getD j true || E.elem j || D.elem j)&&Ej E D
theorem Qp{ops:Array Oper}{i j:Nat}{D:b6}(h:yc ops i D j=true):Jz ops i D j:=by
 unfold yc at h
 split at h
 ·rename_i o a
  simp only[Array.any_eq_true]at h;obtain⟨k,aa,J⟩:=h;simp only[and_eq_true,or_eq_true,beq_iff_eq,elem_eq_mem,decide_eq_true_eq]at J;exact⟨o,_,a,Array.getElem_mem aa,J.1,J.2⟩
 ·cases h
def rp(ops:Array Oper)(E:b6)(listed:Array Bool)(i:Nat):Bool:=AK E i&&Region.noSelect ops&&Region.free .any ops listed i&&(Region.ready .any ops listed).contains i
def tX(f:Op->Bool)(ops:Array Oper)(i:Nat):Bool:=match ops[i]? with
 |some o=>f o.op
 |none=>false
def Ek(ops:Array Oper)(E:b6)(listed:Array Bool)(pre:Bool)(i:Nat):Bool:=!E.elem i || (pre&&AL ops E (xQ ops i) listed i)
structure iv where
 listed:Array Bool
 early:Bool
 pre:Bool
 lx:Bool
 all:Bool
def og:bC->bC
 |[]=>[]
 |(k,.cells t cs)::r=>(k,.cells t cs)::og r
 |_::r=>og r
def rq(a:Bool)(c:bp):Bool:=a || jm c
structure mn(R:Nat->Prop)(aK:iv)(dy:Nat->Prop)(ed:World)(c7:c2)(F:World->Prop)(B:Nat->Prop)(ak:World)(H:c2):Prop where
 early:aK.early=true->dy=B/\ed=ak/\c7=H.filter (rq aK.all)
 pre:aK.pre=true->(∀c∈c7,c∈H/\rq aK.all c=true)/\c7.Pairwise bp.off/\(∀k,dy k->B k)/\c9 (λk=>R k\/dy k) ed ak
 cT:aK.lx=true->F=λw=>c9 (λk=>R k\/B k) ak w
 qs:∀w,c9 (λk=>R k\/B k) ak w->F w
def kk(X:bu)(M:Bool)(n:Nat)(ops:List Oper)(E:b6)(fuel:Nat)(aK:iv)(st:aO)(Q:Exit->aO->Prop):Prop:=
 ∀(R:Nat->Prop) (W:World) (aE:fj) (b:Nat->Prop) (c:World) (c7:c2) (F:World->Prop) (aq:b6) (env:Nat->Loc) (B:Nat->Prop) (ak:World) (H:c2) (a:Act) (w:World),IS M aq aE->bK X R W aE n aq env B ak H st a w->mn R aK b c c7 F B ak H ->
  hc X.P ops.toArray (λe a w=>e=.normal/\∃st',Q e st'/\mQ X R W aE M n st' a w) (λj l w=>(gp E l j=true->bZ (λk=>R k\/b k) c c7 w)/\F w) fuel aK.listed a w
def ru(X:bu)(M:Bool)(n:Nat)(ops:List Oper)(E:b6)(fuel:Nat)(aK:iv)(st:aO)(Q:Exit->aO->Prop)(i:Nat):Prop:=
 ∀(R:Nat->Prop) (W:World) (aE:fj) (b:Nat->Prop) (c:World) (c7:c2) (F:World->Prop) (aq:b6) (env:Nat->Loc) (B:Nat->Prop) (ak:World) (H:c2) (a:Act) (w:World),IS M aq aE->bK X R W aE n aq env B ak H st a w->mn R aK b c c7 F B ak H ->
  ∃o,ops.toArray[i]?=some o/\fh X.P ops.toArray o (λaX w'=>((gp E aK.listed i=true->bZ (λk=>R k\/b k) c c7 w')/\F w')/\hc X.P ops.toArray (λe a w=>e=.normal/\∃st',Q e st'/\mQ X R W aE M n st' a w) (λj l w=>(gp E l j=true->bZ (λk=>R k\/b k) c c7 w)/\F w) fuel (aK.listed.setIfInBounds i true) aX w') a w
theorem mn.T{R:Nat->Prop}{aK:iv}{d:Nat->Prop}{e:World}{c7:c2}{F:World->Prop}{X:bu}{W:World}{aE:fj}{n:Nat}{aq:b6}{env:Nat->Loc}{B:Nat->Prop}{ak:World}{H:c2}{st:aO}{a:Act}{w:World}(h:mn R aK d e c7 F B ak H)(al:aK.pre=true)(ah:bK X R W aE n aq env B ak H st a w):bZ (λk=>R k\/d k) e c7 w:=by
 obtain⟨I,J,ag,g⟩:=h.pre al;have ad:=ah.aU.below;refine⟨g.trans ⟨ad.os,ad.tape,ad.output,ad.size,λk aa=>ad.block k (aa.imp id (ag k))⟩,λk aa=>ah.aU.base k (aa.imp id (ag k)),λc U=>?_,J⟩;have f:=ah.aU.ok c (mem_append_left _ (I c U).1);exact f.base λb ad aa=>(f.lt ad).1 (aa.imp id (ag b))
theorem mn.F{R:Nat->Prop}{aK:iv}{c:Nat->Prop}{d:World}{c7:c2}{F:World->Prop}{X:bu}{W:World}{aE:fj}{n:Nat}{aq:b6}{env:Nat->Loc}{B:Nat->Prop}{ak:World}{H:c2}{st:aO}{a:Act}{w:World}(b:mn R aK c d c7 F B ak H)(ah:bK X R W aE n aq env B ak H st a w):F w:=
 b.qs w ⟨ah.aU.below.os,ah.aU.below.tape,ah.aU.below.output,ah.aU.below.size,ah.aU.below.block⟩
theorem bJ.hF{env:Nat->Loc}{B:Nat->Prop}{w:World}:∀ {l:bC} {H:c2},bJ env B w l H->bJ env B w (og l) (H.filter jm)
 |[],_,h=>by rw[show _=[] from h];exact rfl
 |(k,.cells t cs)::r,_,⟨c,H',e,I,J⟩=>by
  subst e;have U:jm c=true:=by
   obtain⟨b,vs,_,e,_⟩:=I;rw[e];rfl
  rw[List.filter_cons_of_pos U];exact⟨c,_,rfl,I,bJ.hF J⟩
 |(k,.row t g l cap)::r,_,⟨c,H',e,I,J⟩=>by
  subst e;have U:jm c=false:=I.oP (λ_ _ e=>by cases e);rw[filter_cons_of_neg (by rw[U];simp)];show bJ env B w (og r) _;exact bJ.hF J
 |(k,.lg s p)::r,_,⟨c,H',e,I,J⟩=>by
  subst e;have U:jm c=false:=I.oP (λ_ _ e=>by cases e);rw[filter_cons_of_neg (by rw[U];simp)];show bJ env B w (og r) _;exact bJ.hF J
 |(k,.mp br bj l o)::r,_,⟨c,H',e,I,J⟩=>by
  subst e;have U:jm c=false:=I.oP (λ_ _ e=>by cases e);rw[filter_cons_of_neg (by rw[U];simp)];show bJ env B w (og r) _;exact bJ.hF J
 |(k,.it a m q aH)::r,_,⟨c,H',e,I,J⟩=>by
  subst e;have U:jm c=false:=I.oP (λ_ _ e=>by cases e);rw[filter_cons_of_neg (by rw[U];simp)];show bJ env B w (og r) _;exact bJ.hF J
 |(k,.hY a)::r,_,⟨c,H',e,I,J⟩=>by
  subst e;have U:jm c=false:=I.oP (λ_ _ e=>by cases e);rw[filter_cons_of_neg (by rw[U];simp)];show bJ env B w (og r) _;exact bJ.hF J
 |(k,.lh)::r,_,⟨c,H',e,I,J⟩=>by
  subst e;have U:jm c=false:=I.oP (λ_ _ e=>by cases e);rw[filter_cons_of_neg (by rw[U];simp)];show bJ env B w (og r) _;exact bJ.hF J
 |(k,.cP j t g l cap i d)::r,_,⟨c,H',e,I,J⟩=>by
  subst e;have U:jm c=false:=I.oP (λ_ _ e=>by cases e);rw[filter_cons_of_neg (by rw[U];simp)];show bJ env B w (og r) _;exact bJ.hF J
 |(k,.lN)::r,_,⟨c,H',e,I,J⟩=>by
  subst e;have U:jm c=false:=I.oP (λ_ _ e=>by cases e);rw[filter_cons_of_neg (by rw[U];simp)];show bJ env B w (og r) _;exact bJ.hF J
 |(k,.gT t g l)::r,_,⟨c,H',e,I,J⟩=>by
  subst e;have U:jm c=false:=I.oP (λ_ _ e=>by cases e);rw[filter_cons_of_neg (by rw[U];simp)];show bJ env B w (og r) _;exact bJ.hF J
 |(k,.b0 t f g l cap q)::r,_,⟨c,H',e,I,J⟩=>by
  subst e;have U:jm c=false:=I.oP (λ_ _ e=>by cases e);rw[filter_cons_of_neg (by rw[U];simp)];show bJ env B w (og r) _;exact bJ.hF J
section
variable {X:bu} {M:Bool} {n:Nat} {st st':aO} {Q:Exit->aO->Prop} {ops:List Oper} {E:b6} {aK yd:iv} {fuel:Nat}
theorem bK.drew{R:Nat->Prop}{W:World}{aE:fj}{aq:b6}{env:Nat->Loc}{B:Nat->Prop}{ak:World}{H:c2}{a:Act}{w:World}(h:bK X R W aE n aq env B ak H st a w):bK X R W aE n aq env B ak H st a w.drew:=
 ⟨h.size,h.defs,h.has,h.heap,h.aU.drew,h.sub,h.new,h.dr,h.base,h.eg⟩
theorem aap{id N:Nat}{r:Option Nat}{b:Bool}(E:b6)(g:X.P.follows .mixedOrders=true)(aM:ops.length=N)(h:kk X M n ops E N ⟨Array.replicate N false,true,true,true,b⟩ st Q):gQ X M n r (.region id ops.toArray true) st Q:=by
 rintro R W aE a w ⟨aq,env,B,ak,H,f,ah⟩;have I:=hc.any r _ _ _ _ (h R W aE B ak (H.filter (rq b)) _ aq env B ak H a w.drew f ah.drew ⟨λ_=>⟨rfl,rfl,rfl⟩,λ_=>⟨λc U=>List.mem_filter.1 U,(List.pairwise_append.1 ah.aU.apart).1.sublist List.filter_sublist,λ_ h=>h,c9.refl _ _⟩,λ_=>rfl,λ_ h=>h⟩);have J:(Code.region id ops.toArray true).wpIn (WF r) 0 X.P (λe a w=>e=.normal/\∃st',Q e st'/\mQ X R W aE M n st' a w) a w:=wpIn_region_any g (by simp only[List.size_toArray,aM];exact I);refine wpIn_mono J ?_;rintro e a w ⟨rfl,st',ag,d⟩;exact⟨st',ag,d⟩
theorem aaq(b:Region.ready .any ops.toArray aK.listed=[])(h:Q .normal st):kk X M n ops E 0 aK st Q:=λR W aE d e c7 F aq env B ak H a w c ah _=>⟨b,rfl,st,h,aq,env,B,ak,H,c,ah⟩
theorem mo{i:Nat}{o:Oper}(h:nth ops i=some o):ops.toArray[i]?=some o:=by simpa using I3 h
theorem JF{R:Nat->Prop}{f:Nat->Prop}{g:World}{c7:c2}{F:World->Prop}{r:Exit->Act->World->Prop}{listed:Array Bool}{fl i:Nat}{o:Oper}{a:Act}{w:World}(b:Bool)(v:Value)(C:ops.toArray[i]?=some o)(ad:rp ops.toArray E listed i=true)(Q:E.elem i=true->b=true)(N:b=true->AL ops.toArray E (xQ ops.toArray i) listed i=true)(aG:YieldsIf X.P ops.toArray (λw=>(b=true->bZ (λk=>R k\/f k) g c7 w)/\F w) o v a)(O:b=true->bZ (λk=>R k\/f k) g c7 w)(P:F w)(K:hc X.P ops.toArray r (λj l w=>(gp E l j=true->bZ (λk=>R k\/f k) g c7 w)/\F w) fl (listed.setIfInBounds i true) (a.put o.dst v) w) :
  hc X.P ops.toArray r (λj l w=>(gp E l j=true->bZ (λk=>R k\/f k) g c7 w)/\F w) (fl+1) listed a w:=by
 simp only[rp,and_eq_true]at ad;obtain⟨⟨⟨G,V⟩,T⟩,L⟩:=ad;have H:∀ {l:Array Bool} {j:Nat},gp E l j=true->gp E (l.setIfInBounds i true) j=true:=JE G;have B:∀D,(b=true->Ej E D=true)->(∀j∈D,Jz ops.toArray i D j)->(∀j∈D,listed.getD j true=false)->(∀j c,ops.toArray[j]?=some c->j≠i->listed.getD j true=false->(∀e∈c.after,Region.binds .any e=true->e.on≠i)->j∈D\/(b=true->E.elem j=true))->hc X.P ops.toArray r (λj l w=>(gp E l j=true->bZ (λk=>R k\/f k) g c7 w)/\F w) (fl+1) listed a w:=by
  intro D M I J ag;refine hc.first C (Region.noSelect_spec V) D I (λj l w t=>⟨λhe=>t.1 (H he),t.2⟩) _ _ _ _ J ?_ (by simpa using L) aG ⟨O,P⟩ K (λl w' z=>⟨λhe=>z.1 (Q (Qo he)),z.2⟩)
  intro j c n m p y;refine⟨Region.free_spec C T j c n m p y,?_⟩
  rcases ag j c n m p y with au|au
  ·exact .inl au
  ·exact .inr λl w U s=>⟨λu=>s.1 (aao (M u) U (au u)),s.2⟩
 cases bc:b with
 |false=>exact B [] (λh=>by rw[bc]at h;cases h) (λ_ h=>by cases h) (λ_ h=>by cases h) (λ_ _ _ _ _ _=>.inr λh=>by rw[bc]at h;cases h)
 |true=>
  have d:=N bc;unfold AL at d;rw[and_eq_true]at d;obtain⟨d,W⟩:=d;simp only[and_eq_true,List.all_eq_true,List.mem_range,not_eq_true']at d;obtain⟨A,S⟩:=d;refine B (xQ ops.toArray i) (λ_=>W) (λj q=>Qp (A j q).2) (λj q=>(A j q).1) (λj c n m p _=>?_)
  have:=S j (Array.getElem?_eq_some_iff.1 n).1
  simp only[or_eq_true,beq_iff_eq]at this
  rcases this with((I|I)|I)|I
  ·exact absurd I m
  ·rw[p]at I;cases I
  ·exact .inr λ_=>I
  ·exact .inl (by simpa using I)
theorem Qr{listed:Array Bool}{pre:Bool}{i:Nat}(h:Ek ops.toArray E listed pre i=true):(E.elem i=true->AL ops.toArray E (xQ ops.toArray i) listed i=true)/\(E.elem i=true->pre=true):=by
 simp only[Ek,or_eq_true,not_eq_true',and_eq_true]at h
 rcases h with h|h
 ·exact⟨λe=>(by rw[h]at e;cases e),λe=>(by rw[h]at e;cases e)⟩
 ·exact⟨λ_=>h.2,λ_=>h.1⟩
theorem mn.kept{R:Nat->Prop}{b:Nat->Prop}{d:World}{c7:c2}{F:World->Prop}{B:Nat->Prop}{ak:World}{H H':c2}(a:mn R aK b d c7 F B ak H)(aa:aK.pre=true->∀c∈H,rq aK.all c=true->c∈H'){l:Array Bool}:mn R ⟨l,false,aK.pre,aK.lx,aK.all⟩ b d c7 F B ak H':=
 ⟨λh=>(by cases h),λh=>by
  obtain⟨I,J,ag,e⟩:=a.pre h;exact⟨λc U=>⟨aa h c (I c U).1 (I c U).2,(I c U).2⟩,J,ag,e⟩,a.cT,a.qs⟩
theorem mn.lost{R:Nat->Prop}{b:Nat->Prop}{c:World}{c7:c2}{F:World->Prop}{B:Nat->Prop}{ak:World}{H H':c2}(a:mn R aK b c c7 F B ak H){l:Array Bool}:mn R ⟨l,false,false,aK.lx,aK.all⟩ b c c7 F B ak H':=
 ⟨λh=>(by cases h),λh=>(by cases h),a.cT,a.qs⟩
theorem Qs(f:X.a6.ok X.P){i:Nat}{o:Oper}{c:Bool}{l':Array Bool}(hi:nth ops i=some o)(p:gp E aK.listed i=false)(e:oU X n (eU ops) st o=.ok c st')(U:c=true)(ae:aK.listed.setIfInBounds i true=l')(h:kk X M n ops E fuel ⟨l',false,false,aK.lx,aK.all⟩ st' Q):ru X M n ops E fuel aK st Q i:=by
 intro R W aE k m c7 F aq env B ak H a w g ah j;refine⟨o,mo hi,vD f e U ah λaX w' env' H' q b=>?_⟩;have d:=j.lost (H':=H') (l:=l');rw[ae];exact⟨⟨λhe=>(by rw[p]at he;cases he),d.F b⟩,h R W aE k m c7 F aq env' B ak H' aX w' g b d⟩
theorem Qt(g:X.a6.ok X.P){i:Nat}{o:Oper}{c:Bool}{l':Array Bool}(hi:nth ops i=some o)(aa:(aK.pre&&DS o.op&&ri o st.H&&!aK.all)=true)(f:oU X n (eU ops) st o=.ok c st')(U:c=true)(ae:aK.listed.setIfInBounds i true=l')(h:kk X M n ops E fuel ⟨l',false,true,aK.lx,aK.all⟩ st' Q):ru X M n ops E fuel aK st Q i:=by
 intro R W aE m p c7 F aq env B ak H a w j ah k;simp only[and_eq_true]at aa;refine⟨o,mo hi,vD g f U ah λaX w' env' H' e d=>?_⟩;have q:aK.all=false:=by simpa using aa.2
 have b:=k.kept (H':=H') (l:=l') (λ_=>by rw[q];exact e.ee aa.1.1.2 aa.1.2);rw[ae];refine⟨⟨λhe=>b.T aa.1.1.1 d,b.F d⟩,h R W aE m p c7 F aq env' B ak H' aX w' j d ?_⟩;rw[aa.1.1.1]at b;exact b
theorem Qu(g:X.a6.ok X.P){i:Nat}{o:Oper}{c:Bool}{l':Array Bool}(hi:nth ops i=some o)(aa:(aK.pre&&x1 o.op&&tI o st.H)=true)(f:oU X n (eU ops) st o=.ok c st')(U:c=true)(ae:aK.listed.setIfInBounds i true=l')(h:kk X M n ops E fuel ⟨l',false,true,aK.lx,aK.all⟩ st' Q):ru X M n ops E fuel aK st Q i:=by
 intro R W aE m p c7 F aq env B ak H a w j ah k;simp only[and_eq_true]at aa;refine⟨o,mo hi,vD g f U ah λaX w' env' H' e d=>?_⟩;have b:=k.kept (H':=H') (l:=l') (λ_ c U _=>e.all aa.1.2 aa.2 c U);rw[ae];refine⟨⟨λhe=>b.T aa.1.1 d,b.F d⟩,h R W aE m p c7 F aq env' B ak H' aX w' j d ?_⟩;rw[aa.1.1]at b;exact b
def En(X:bu)(M:Bool)(n:Nat)(ops:List Oper)(E:b6)(fuel:Nat)(aK:iv)(st:aO)(Q:Exit->aO->Prop)(a:b6):Prop:=∀i∈a,ru X M n ops E fuel aK st Q i
theorem JI:En X M n ops E fuel aK st Q []:=λ_ h=>by cases h
theorem yh{i:Nat}{a:b6}(h:ru X M n ops E fuel aK st Q i)(b:En X M n ops E fuel aK st Q a):En X M n ops E fuel aK st Q (i::a):=λj aL=>by
 rcases List.mem_cons.1 aL with rfl|aL
 ·exact h
 ·exact b j aL
theorem JJ{i:Nat}{d:b6}(c:Region.ready .any ops.toArray aK.listed=i::d)(h:En X M n ops E fuel aK st Q (i::d)):kk X M n ops E (fuel+1) aK st Q:=by
 intro R W aE g j c7 F aq env B ak H a w e ah f;refine⟨λb=>(by rw[c]at b;cases b),λk aa=>?_⟩;rw[c]at aa;exact h k aa R W aE g j c7 F aq env B ak H a w e ah f
end
theorem hc.JK{P:Program}{ops:Array Oper}{Q:Exit->Act->World->Prop}{S S':Nat->Array Bool->World->Prop}(c:∀j l w,S' j l w->S j l w):∀(fuel:Nat) (listed:Array Bool) (a:Act) (w:World),hc P ops Q S' fuel listed a w->hc P ops Q S fuel listed a w
 |0,_,_,_,h=>h
 |fuel+1,_,_,_,h=>⟨h.1,λi hi=>by
  obtain⟨o,d,ai⟩:=h.2 i hi;exact⟨o,d,ai.mono λaX w' b=>⟨c _ _ _ b.1,hc.JK c fuel _ aX w' b.2⟩⟩⟩
theorem aar{X:bu}{M:Bool}{n:Nat}{st:aO}{Q:Exit->aO->Prop}{ops:List Oper}{E:b6}{aK:iv}{fuel:Nat}(r:(E.isEmpty || aK.pre)=true)(h:kk X M n ops E fuel ⟨aK.listed,true,true,true,aK.all⟩ st Q):kk X M n ops E fuel aK st Q:=by
 intro R W aE s t c7 F aq env B ak H a w p ah g;refine hc.JK ?_ _ _ _ _ (h R W aE B ak (H.filter (rq aK.all)) (λw=>c9 (λk=>R k\/B k) ak w) aq env B ak H a w p ah ⟨λ_=>⟨rfl,rfl,rfl⟩,λ_=>⟨λc U=>List.mem_filter.1 U,(List.pairwise_append.1 ah.aU.apart).1.sublist List.filter_sublist,λ_ h=>h,c9.refl _ _⟩,λ_=>rfl,λ_ h=>h⟩);rintro j l w' ⟨I,J⟩;refine⟨λhe=>?_,g.qs w' J⟩;have al:aK.pre=true:=by
  cases E with
  |nil=>cases (Qo he)
  |cons e E=>simpa using r
 obtain⟨m,q,f,o⟩:=g.pre al;have d:=I he;have ad:=d.below;refine⟨o.trans ⟨ad.os,ad.tape,ad.output,ad.size,λk aa=>ad.block k (aa.imp id (f k))⟩,λk aa=>d.base k (aa.imp id (f k)),λc U=>?_,q⟩;have i:=d.ok c (List.mem_filter.2 ⟨(m c U).1,(m c U).2⟩);exact i.base λb ad aa=>(i.lt ad).1 (aa.imp id (f b))
end
section
def tY(id:Nat)(g:a7)(x:g.D):ep->ep
 |[]=>[]
 |.id i::r=>match beq i id with
  |true=>.eF g x::tY id g x r
  |false=>.id i::tY id g x r
 |.eF h y::r=>.eF h y::tY id g x r
def bs.e1:bs->Nat->(g:a7)->g.D->bs
 |.ptr i o,id,g,x=>match beq i id with
  |true=>.gn g x o
  |false=>.ptr i o
 |.fn f ids,id,g,x=>.fn f (tY id g x ids)
 |c,_,_,_=>c
def yi(id:Nat)(g:a7)(x:g.D):dI->dI
 |[]=>[]
 |c::r=>c.e1 id g x::yi id g x r
def bq.e1:bq->Nat->(g:a7)->g.D->bq
 |.c y,id,g,x=>.c (y.e1 id g x)
 |.agg cs,id,g,x=>.agg (yi id g x cs)
 |.arr g l,_,_,_=>.arr g l
def AN(id:Nat)(g:a7)(x:g.D):dO->dO
 |[]=>[]
 |c::r=>c.e1 id g x::AN id g x r
def cd.e1:cd->Nat->(g:a7)->g.D->cd
 |.a y,id,g,x=>.a (y.e1 id g x)
 |.may b y,id,g,x=>.may b (y.e1 id g x)
 |.da ys,id,g,x=>.da (AN id g x ys)
def vO(id:Nat)(g:a7)(x:g.D):cU->cU
 |[]=>[]
 |(k,v)::r=>(k,v.e1 id g x)::vO id g x r
def cD.e1:cD->Nat->(g:a7)->g.D->cD
 |.cells t cs,id,g,x=>.cells t (yi id g x cs)
 |b,_,_,_=>b
def oh(id:Nat)(g:a7)(x:g.D):bC->bC
 |[]=>[]
 |(k,b)::r=>match beq k id with
  |true=>oh id g x r
  |false=>(k,b.e1 id g x)::oh id g x r
section
variable {env:Nat->Loc} {B:Nat->Prop} {w:World} {id b:Nat} {g:a7} {x:g.D} (he:env id=.blk b) (bh:At B w g x b 0)
include he bh
theorem fb.e1{cs:ep}:∀ {vs:cl},fb env B w cs vs->fb env B w (tY id g x cs) vs:=by
 induction cs with
 |nil=>intro vs h;exact h
 |cons c cs a=>
  intro vs h;obtain⟨v,r,e,I,ag⟩:=h;cases c with
  |id i=>
   obtain⟨b',I,J⟩:=I;simp only[tY]
   split
   ·rename_i hi
    have:=eq_of_beq_eq_true hi
    subst this;rw[he]at I;cases I;exact⟨v,r,e,⟨b,0,J,bh⟩,a ag⟩
   ·exact⟨v,r,e,⟨b',I,J⟩,a ag⟩
  |eF h y=>exact⟨v,r,e,I,a ag⟩
theorem dR.e1:∀ {c:bs} {v:Value},dR env B w c v->dR env B w (c.e1 id g x) v
 |.val _,_,U=>U
 |.str _,_,U=>U
 |.dead,_,U=>U
 |.ptr i o,v,U=>by
  simp only[bs.e1]
  split
  ·rename_i hi
   have:=eq_of_beq_eq_true hi
   subst this;obtain⟨b',I,J⟩:=U;rw[he]at I;cases I;exact⟨b,0,by rw[zero_add];exact J,bh⟩
  ·exact U
 |.e4 _ _ _ _,_,U=>U
 |.gn _ _ _,_,U=>U
 |.par _ _,_,U=>U
 |.ax _,_,U=>U
 |.bo _ _ _,_,U=>U
 |.fn _ _,_,⟨vs,I,J⟩=>⟨vs,I,fb.e1 he bh J⟩
 |.dY _,_,U=>U
 |.jD _ _,_,U=>U
 |.il _ _,_,U=>U
 |.jE _ _ _,_,U=>U
 |.jR _,_,U=>U
 |.iF _ _,_,U=>U
theorem cO.e1:∀ {c:dI} {v:cl},cO env B w c v->cO env B w (yi id g x c) v
 |[],_,U=>U
 |_::_,_,⟨v,r,e,I,J⟩=>⟨v,r,e,dR.e1 he bh I,cO.e1 J⟩
theorem dU.e1:∀ {c:bq} {v:Value},dU env B w c v->dU env B w (c.e1 id g x) v
 |.c _,_,U=>dR.e1 he bh U
 |.agg _,_,⟨vs,e,I⟩=>⟨vs,e,cO.e1 he bh I⟩
 |.arr _ _,_,h=>h
theorem dw.e1:∀ {c:dO} {v:cl},dw env B w c v->dw env B w (AN id g x c) v
 |[],_,U=>U
 |_::_,_,⟨v,r,e,I,J⟩=>⟨v,r,e,dU.e1 he bh I,dw.e1 J⟩
theorem eK.e1:∀ {c:cd} {v:Value},eK env B w c v->eK env B w (c.e1 id g x) v
 |.a _,_,U=>dU.e1 he bh U
 |.may _ _,_,U=>⟨λa=>dU.e1 he bh (U.1 a),U.2⟩
 |.da _,_,⟨vs,e,I⟩=>⟨vs,e,dw.e1 he bh I⟩
theorem eM.e1{k:Nat}:∀ {a:cD} {c:bp},eM env B w k a c->eM env B w k (a.e1 id g x) c
 |.cells _ _,_,⟨b',vs,e,U,I⟩=>⟨b',vs,e,U,cO.e1 he bh I⟩
 |.row _ _ _ _,_,h=>h
 |.lg _ _,_,h=>h
 |.mp _ _ _ _,_,h=>h
 |.it _ _ _ _,_,h=>h
 |.hY _,_,h=>h
 |.lh,_,h=>h
 |.cP _ _ _ _ _ _ _,_,h=>h
 |.lN,_,h=>h
 |.gT _ _ _,_,h=>h
 |.b0 _ _ _ _ _ _,_,h=>h
theorem bJ.e1:∀ {l:bC} {H:c2},bJ env B w l H->∃H',H'.Sublist H/\bJ env B w (oh id g x l) H'
 |[],_,b=>⟨[],by rw[show _=[] from b];exact List.Sublist.refl _,rfl⟩
 |(k,d)::l,_,⟨c,H',e,I,J⟩=>by
  obtain⟨H2,a,ag⟩:=bJ.e1 J;subst e;unfold oh
  split
  ·exact⟨H2,a.cons _,ag⟩
  ·exact⟨c::H2,a.cons_cons _,c,H2,rfl,eM.e1 he bh I,ag⟩
theorem bJ.Qw:∀ {l:bC} {H:c2} {b:cD},bJ env B w l H->bm l id=some b->∃c Y Z H',eM env B w id b c/\H=Y++c::Z/\H'.Sublist (Y++Z)/\bJ env B w (oh id g x l) H'
 |[],_,_,_,h=>by cases h
 |(k,b')::l,H,b,⟨c,H',e,I,J⟩,h=>by
  rw[cI]at h;subst e
  split at h
  ·rename_i e
   subst e;cases h;obtain⟨H2,ag,a⟩:=bJ.e1 he bh J;refine⟨c,[],H',H2,I,rfl,ag,?_⟩;unfold oh;rw[beq_refl];exact a
  ·rename_i e
   obtain⟨c',Y,Z,H2,ag,a,f,d⟩:=bJ.Qw J h;have aa:beq k id=false:=by
    cases ad:beq k id with
    |false=>rfl
    |true=>exact absurd (eq_of_beq_eq_true ad).symm e
   refine⟨c',c::Y,Z,c::H2,ag,by rw[a];rfl,f.cons_cons _,?_⟩;unfold oh;rw[aa];exact⟨c,H2,rfl,eM.e1 he bh I,d⟩
omit he bh in
theorem JL:∀ {l:cU} {s:Nat} {v:cd},bm (vO id g x l) s=some v->∃u,bm l s=some u/\v=u.e1 id g x
 |[],_,_,h=>by cases h
 |(k,u)::l,s,v,h=>by
  unfold vO at h;rw[cI]at h ⊢
  split at h
  ·rename_i e
   cases h;rw[if_pos e];exact⟨u,rfl,rfl⟩
  ·rename_i e
   rw[if_neg e];exact JL h
end
section
variable {X:bu} {R:Nat->Prop} {W:World} {aE:fj} {n:Nat} {aq:b6} {env:Nat->Loc} {B:Nat->Prop} {ak:World} {H:c2} {st st':aO} {a:Act} {w:World}
theorem bK.bX(h:bK X R W aE n aq env B ak H st a w){id:Nat}{t:TypeId}{cs:dI}{g:a7}{x:g.D}{c:Bool}(y:bm st.H id=some (.cells t cs))(V:dec g cs=some (c,x,[]))(U:c=true):∃env' B' F H',bK X R W aE n aq env' B' F H' ⟨vO id g x st.L,oh id g x st.H⟩ a w:=by
 obtain⟨c0,_,⟨b,vs,he,rfl,N⟩,K⟩:=h.heap.gU y;have f:gm B ak (λq=>B q\/q=b) w:=⟨λq ar=>.inl ar,λq ar=>h.aU.below.block q (.inr ar)⟩
 obtain⟨ab,aa,o,T,P⟩:=rj (N.up f) V U;have E:aa=[]:=P;subst E;rw[append_nil]at o;subst o;have C:At (λq=>B q\/q=b) w g x b 0:=⟨.inr rfl,vs,T,λj u hu=>by rw[zero_add,IH h.aU K.more];exact hu⟩
 obtain⟨c,Y,Z,H2,⟨b',m,v,rfl,_⟩,J,r,D⟩:=bJ.Qw he C (h.heap.up f) y;rw[he]at v;cases v;have A:bp.hF b m t∈H++aq.map dE:=by rw[J];simp
 have z:=(h.aU.ok _ A).lt rfl;have l:=h.aU.apart;rw[J,append_assoc,List.cons_append]at l;refine⟨env,_,w,H2,h.size,h.defs,λs u hu=>?_,D,?_,λq ar=>.inl (h.sub q ar),λq ar=>?_,h.dr,h.base.trans ⟨h.aU.below.os,h.aU.below.tape,h.aU.below.output,h.aU.below.size,λq ar=>h.aU.below.block q (.inl ar)⟩,λi x ai=>(h.eg i x ai).up f⟩
 ·obtain⟨Q,S,rfl⟩:=JL hu
  obtain⟨L,d,ca⟩:=h.has s Q S;exact⟨L,d,eK.e1 he C (ca.up f)⟩
 ·have e:bZ (λk=>R k\/B k) ak (H2++aq.map dE) w:=by
   have d:=h.aU;rw[J]at d;have al:(Y++bp.hF b m t::Z++aq.map dE).Perm (bp.hF b m t::(Y++Z++aq.map dE)):=by
    simp only[append_assoc,List.cons_append];exact List.perm_middle
   exact(d.perm al).e2 (((r.append_right _)).cons _)
  refine⟨c9.refl _ _,λq ar=>?_,λc U=>(e.ok c U).base λq ad cB=>?_,e.apart⟩
  ·rcases ar with ar|ar|ar
   ·exact h.aU.base q (.inl ar)
   ·exact h.aU.base q (.inr ar)
   ·subst ar;exact z.2
  ·rcases cB with cB|cB|cB
   ·exact((e.ok c U).lt ad).1 (.inl cB)
   ·exact((e.ok c U).lt ad).1 (.inr cB)
   ·subst cB
    have O:c∈Y++(Z++aq.map dE):=by
     rcases List.mem_append.1 U with U|U
     ·have:=r.subset U
      rcases List.mem_append.1 this with ca|ca
      ·exact mem_append_left _ ca
      ·exact mem_append_right _ (mem_append_left _ ca)
     ·exact mem_append_right _ (mem_append_right _ U)
    rw[List.pairwise_append,List.pairwise_cons]at l;obtain⟨_,⟨G,_⟩,M⟩:=l
    rcases List.mem_append.1 O with ca|ca
    ·exact M c ca _ mem_cons_self q ad rfl
    ·exact G c ca q rfl ad
 ·rcases ar with ar|ar
  ·exact(h.new q ar).imp_right λp=>⟨p.1,p.2.ee (h.aU.below.block q (.inr ar))⟩
  ·subst ar;exact .inr ⟨λI=>z.1 (.inl I),(h.aU.ok _ A).cells rfl rfl⟩
theorem ds.bX(id:Nat)(g:a7){t:TypeId}{cs:dI}{x:g.D}{c:Bool}(b:bm st.H id=some (.cells t cs))(e:dec g cs=some (c,x,[]))(U:c=true):ds X n st ⟨vO id g x st.L,oh id g x st.H⟩:=λ_ _ _ _ _ _ ⟨aq,env,B,ak,H,a,ah⟩=>by
 obtain⟨env',B',d,H',h⟩:=ah.bX b e U;exact⟨aq,env',B',d,H',a,h⟩
end
section
variable {X:bu} {M:Bool} {n:Nat} {st:aO} {Q:Exit->aO->Prop} {ops:List Oper} {E:b6} {aK:iv} {O9:Array Bool} {fuel d i:Nat} {o:Oper}
theorem aat{st':aO}(z:Nat)(az:cT z st=some st')(h:kk X M n ops E fuel ⟨aK.listed,false,aK.pre&&!aK.all,false,aK.all⟩ st' Q):kk X M n ops E fuel aK st Q:=by
 intro R W aE o p c7 F aq env B ak H a w l ah f;obtain⟨env',B',m,H',j,g,b,r⟩:=ah.cT az;refine h R W aE o p c7 F aq env' B' m H' a w l j ⟨λh=>(by cases h),λal=>?_,λh=>(by cases h),λw d=>f.qs w (b.trans ⟨d.os,d.tape,d.output,d.size,λk aa=>d.block k (aa.imp id (g k))⟩)⟩;have i:aK.pre=true/\aK.all=false:=by
  have:(aK.pre&&!aK.all)=true:=al
  simpa using this
 obtain⟨e,g2,g3,q⟩:=f.pre i.1;exact⟨λc U=>⟨r c (e c U).1 (by have:=(e c U).2;rw[i.2]at this;exact this),(e c U).2⟩,g2,λk aa=>g k (g3 k aa),q.trans ⟨b.os,b.tape,b.output,b.size,λk aa=>b.block k (aa.imp id (g3 k))⟩⟩
end
end
section
abbrev iw:=Bool->Nat->Option Nat
def rz(bU:iw):ep->Option ep
 |[]=>some []
 |.id i::r=>match bU true i,rz bU r with
  |some j,some l=>some (.id j::l)
  |_,_=>none
 |.eF g x::r=>match rz bU r with
  |some l=>some (.eF g x::l)
  |none=>none
def bs.c8:bs->iw->bs
 |.ptr i o,bU=>match bU true i with
  |some j=>.ptr j o
  |none=>.dead
 |.e4 i a k o,bU=>match bU false i with
  |some j=>.e4 j a k o
  |none=>.dead
 |.ax i,bU=>match bU false i with
  |some j=>.ax j
  |none=>.dead
 |.fn f ids,bU=>match rz bU ids with
  |some l=>.fn f l
  |none=>.dead
 |.dY i,bU=>match bU true i with
  |some j=>.dY j
  |none=>.dead
 |.jD f i,bU=>match bU true i with
  |some j=>.jD f j
  |none=>.dead
 |.il i o,bU=>match bU false i with
  |some j=>.il j o
  |none=>.dead
 |.jR i,bU=>match bU false i with
  |some j=>.jR j
  |none=>.dead
 |.jE i s o,bU=>match bU false i with
  |some j=>.jE j s o
  |none=>.dead
 |.iF b i,bU=>match bU true i with
  |some j=>.iF b j
  |none=>.dead
 |c,_=>c
def tZ(bU:iw):dI->dI
 |[]=>[]
 |c::r=>c.c8 bU::tZ bU r
def bq.c8:bq->iw->bq
 |.c x,bU=>.c (x.c8 bU)
 |.agg cs,bU=>.agg (tZ bU cs)
 |.arr g l,_=>.arr g l
def vQ(bU:iw):dO->dO
 |[]=>[]
 |c::r=>c.c8 bU::vQ bU r
def cd.c8:cd->iw->cd
 |.a x,bU=>.a (x.c8 bU)
 |.may g x,bU=>.may g (x.c8 bU)
 |.da xs,bU=>.da (vQ bU xs)
def gd(bU:iw):cU->cU
 |[]=>[]
 |(k,v)::r=>(k,v.c8 bU)::gd bU r
def cD.c8:cD->iw->cD
 |.cells t cs,bU=>.cells t (tZ bU cs)
 |.it a h k aH,bU=>match bU true a with
  |some j=>.it j h k aH
  |none=>.lh
 |.hY a,bU=>match bU true a with
  |some j=>.hY j
  |none=>.lh
 |.cP f t g l c i d,bU=>match bU false d with
  |some j=>.cP f t g l c i j
  |none=>.lN
 |.b0 t e g l c (some (i,some d)),bU=>match bU false d with
  |some j=>.b0 t e g l c (some (i,some j))
  |none=>.b0 t e g l c (some (i,none))
 |b,_=>b
def cD.pN:cD->Bool
 |.row _ _ _ _=>false
 |.cP _ _ _ _ _ _ _=>false
 |.lN=>false
 |.gT _ _ _=>false
 |.b0 _ _ _ _ _ _=>false
 |_=>true
def oi(bU:iw):bC->bC
 |[]=>[]
 |(k,b)::r=>match bU b.pN k with
  |some j=>(j,b.c8 bU)::oi bU r
  |none=>oi bU r
structure JM(bU:iw)(env env':Nat->Loc):Prop where
 blk:∀k j b,bU true k=some j->env k=.blk b->env' j=.blk b
 row:∀k j A c n,bU false k=some j->env k=.row A c n->env' j=.row A c n
section
variable {bU:iw} {env env':Nat->Loc} {B:Nat->Prop} {w:World} (he:JM bU env env')
include he
theorem fb.c8:∀ {ids l:ep} {vs:cl},rz bU ids=some l->fb env B w ids vs->fb env' B w l vs
 |[],l,vs,h,c=>by cases h;exact c
 |.id i::ids,l,vs,h,⟨v,r,e,⟨b,J,d⟩,ag⟩=>by
  simp only[rz]at h
  split at h
  ·rename_i j r hi a
   cases h;exact⟨v,_,e,⟨b,he.blk i j b hi J,d⟩,fb.c8 a ag⟩
  ·cases h
 |.eF g x::ids,l,vs,h,⟨v,r,e,J,ag⟩=>by
  simp only[rz]at h
  split at h
  ·rename_i r a
   cases h;exact⟨v,_,e,J,fb.c8 a ag⟩
  ·cases h
theorem dR.c8:∀ {c:bs} {v:Value},dR env B w c v->dR env' B w (c.c8 bU) v
 |.val _,_,U=>U
 |.str _,_,U=>U
 |.dead,_,U=>U
 |.ptr i o,v,U=>by
  simp only[bs.c8]
  split
  ·rename_i j h
   obtain⟨b,e,a⟩:=U;exact⟨b,he.blk i j b h e,a⟩
  ·trivial
 |.e4 i d j o,v,U=>by
  simp only[bs.c8]
  split
  ·rename_i j h
   obtain⟨b,c,n,e,a⟩:=U;exact⟨b,c,n,he.row i j _ _ _ h e,a⟩
  ·trivial
 |.iF b i,v,U=>by
  simp only[bs.c8]
  split
  ·rename_i j h
   obtain⟨k,e,a⟩:=U;exact⟨k,λad=>he.blk i j k h (e ad),a⟩
  ·trivial
 |.jR i,v,U=>by
  simp only[bs.c8]
  split
  ·rename_i j h
   obtain⟨b,c,n,e,a⟩:=U;exact⟨b,c,n,he.row i j _ _ _ h e,a⟩
  ·trivial
 |.jE i s o,v,U=>by
  simp only[bs.c8]
  split
  ·rename_i j h
   obtain⟨b,c,n,e,a⟩:=U;exact⟨b,c,n,he.row i j _ _ _ h e,a⟩
  ·trivial
 |.il i o,v,U=>by
  simp only[bs.c8]
  split
  ·rename_i j h
   obtain⟨b,c,n,e,a⟩:=U;exact⟨b,c,n,he.row i j _ _ _ h e,a⟩
  ·trivial
 |.gn _ _ _,_,U=>U
 |.par _ _,_,U=>U
 |.ax i,v,U=>by
  simp only[bs.c8]
  split
  ·rename_i j h
   obtain⟨A,c,n,e,a⟩:=U;exact⟨A,c,n,he.row i j _ _ _ h e,a⟩
  ·trivial
 |.bo _ _ _,_,U=>U
 |.fn f ids,v,U=>by
  simp only[bs.c8]
  split
  ·rename_i l h
   obtain⟨vs,a,al⟩:=U;exact⟨vs,a,fb.c8 he h al⟩
  ·trivial
 |.dY i,v,U=>by
  simp only[bs.c8]
  split
  ·rename_i j h
   obtain⟨b,e,a⟩:=U;exact⟨b,he.blk i j b h e,a⟩
  ·trivial
 |.jD f i,v,U=>by
  simp only[bs.c8]
  split
  ·rename_i j h
   obtain⟨b,e,a⟩:=U;exact⟨b,he.blk i j b h e,a⟩
  ·trivial
theorem cO.c8:∀ {c:dI} {v:cl},cO env B w c v->cO env' B w (tZ bU c) v
 |[],_,U=>U
 |_::_,_,⟨v,r,e,I,J⟩=>⟨v,r,e,dR.c8 he I,cO.c8 J⟩
theorem dU.c8:∀ {c:bq} {v:Value},dU env B w c v->dU env' B w (c.c8 bU) v
 |.c _,_,U=>dR.c8 he U
 |.agg _,_,⟨vs,e,I⟩=>⟨vs,e,cO.c8 he I⟩
 |.arr _ _,_,h=>h
theorem dw.c8:∀ {c:dO} {v:cl},dw env B w c v->dw env' B w (vQ bU c) v
 |[],_,U=>U
 |_::_,_,⟨v,r,e,I,J⟩=>⟨v,r,e,dU.c8 he I,dw.c8 J⟩
theorem eK.c8:∀ {c:cd} {v:Value},eK env B w c v->eK env' B w (c.c8 bU) v
 |.a _,_,U=>dU.c8 he U
 |.may _ _,_,U=>⟨λa=>dU.c8 he (U.1 a),U.2⟩
 |.da _,_,⟨vs,e,I⟩=>⟨vs,e,dw.c8 he I⟩
theorem eM.c8{k j:Nat}:∀ {b:cD} {c:bp},bU b.pN k=some j->eM env B w k b c->eM env' B w j (b.c8 bU) c
 |.cells _ _,_,h,⟨b,vs,e,U,I⟩=>⟨b,vs,he.blk k j b h e,U,cO.c8 he I⟩
 |.row _ _ _ _,_,h,⟨A,c,xs,e,U,I⟩=>⟨A,c,xs,he.row k j _ _ _ h e,U,I⟩
 |.lg _ _,_,h,⟨b,e,U⟩=>⟨b,he.blk k j b h e,U⟩
 |.mp _ _ _ _,_,h,⟨b,F,q,e,U⟩=>⟨b,F,q,he.blk k j b h e,U⟩
 |.it y _ _ _,_,h,⟨b,m,e,z,U⟩=>by
  simp only[cD.c8]
  split
  ·rename_i f a
   exact⟨b,m,he.blk k j b h e,he.blk y f m a z,U⟩
  ·exact⟨b,_,he.blk k j b h e,U⟩
 |.hY y,_,h,⟨b,m,q,e,z,U⟩=>by
  simp only[cD.c8]
  split
  ·rename_i f a
   exact⟨b,m,q,he.blk k j b h e,he.blk y f m a z,U⟩
  ·exact⟨b,_,he.blk k j b h e,U⟩
 |.lh,_,h,⟨b,o,e,U⟩=>⟨b,o,he.blk k j b h e,U⟩
 |.cP H t g l cap i d,_,h,⟨A,c,ys,u,c',m,e,U,I,hi,J,ag⟩=>by
  simp only[cD.c8]
  split
  ·rename_i f a
   exact⟨A,c,ys,u,c',m,he.row k j _ _ _ h e,U,I,hi,he.row d f _ _ _ a J,ag⟩
  ·exact⟨A,c,_,_,_,_,_,he.row k j _ _ _ h e,U⟩
 |.lN,_,h,⟨A,c,n,t,s,m,xs,e,U⟩=>⟨A,c,n,t,s,m,xs,he.row k j _ _ _ h e,U⟩
 |.gT _ _ _,_,h,⟨A,c,e,I⟩=>⟨A,c,he.row k j _ _ _ h e,I⟩
 |.b0 _ _ _ _ _ none,_,h,⟨A,q,ys,p,bb,e,U,I,J,ag⟩=>⟨A,q,ys,p,bb,he.row k j _ _ _ h e,U,I,J,ag⟩
 |.b0 _ _ _ _ _ (some (i,none)),_,h,⟨A,q,ys,p,bb,e,U,I,⟨J,v,r,_⟩,ag⟩=>⟨A,q,ys,p,bb,he.row k j _ _ _ h e,U,I,⟨J,v,r,λ_ h=>by cases h⟩,ag⟩
 |.b0 _ _ _ _ _ (some (i,some d)),_,h,⟨A,q,ys,p,bb,e,U,I,⟨J,v,r,D⟩,ag⟩=>by
  simp only[cD.c8]
  split
  ·rename_i f a
   obtain⟨u,c',m,C,E⟩:=D d rfl;exact⟨A,q,ys,p,bb,he.row k j _ _ _ h e,U,I,⟨J,v,r,λG ay=>by cases ay;exact⟨u,c',m,he.row d f _ _ _ a C,E⟩⟩,ag⟩
  ·exact⟨A,q,ys,p,bb,he.row k j _ _ _ h e,U,I,⟨J,v,r,λ_ h=>by cases h⟩,ag⟩
theorem bJ.c8:∀ {l:bC} {H:c2},bJ env B w l H->∃H',H'.Sublist H/\bJ env' B w (oi bU l) H'
 |[],_,d=>⟨[],by rw[show _=[] from d];exact List.Sublist.refl _,rfl⟩
 |(k,b)::l,_,⟨c,H',e,I,J⟩=>by
  obtain⟨H2,a,ag⟩:=bJ.c8 J;subst e;unfold oi
  split
  ·rename_i j h
   exact⟨c::H2,a.cons_cons _,c,H2,rfl,eM.c8 he h I,ag⟩
  ·exact⟨H2,a.cons _,ag⟩
omit he in
theorem ua:∀ {l:cU} {s:Nat} {v:cd},bm (gd bU l) s=some v->∃u,bm l s=some u/\v=u.c8 bU
 |[],_,_,h=>by cases h
 |(k,u)::l,s,v,h=>by
  unfold gd at h;rw[cI]at h ⊢
  split at h
  ·rename_i e
   cases h;rw[if_pos e];exact⟨u,rfl,rfl⟩
  ·rename_i e
   rw[if_neg e];exact ua h
end
def jF(i j:Nat):iw:=λ_ k=>match beq k i with
 |true=>some j
 |false=>match beq k j with
  |true=>none
  |false=>some k
theorem yj{i j:Nat}{env:Nat->Loc}:JM (jF i j) env (kX env j (env i)):=by
 have key:∀b k k',jF i j b k=some k'->kX env j (env i) k'=env k:=by
  intro b k k' h;unfold jF at h
  split at h
  ·rename_i ad
   cases h
   have:=eq_of_beq_eq_true ad
   subst this;exact fK
  ·split at h
   ·cases h
   ·rename_i ad
    cases h;exact kz _ (λe=>by subst e;rw[beq_refl]at ad;cases ad)
 exact⟨λk a b h e=>by rw[key _ _ _ h];exact e,λk a A c n h e=>by rw[key _ _ _ h];exact e⟩
end
section
def hs(n:Nat):iw:=λb k=>match b with
 |true=>match ble n k with
  |true=>some k
  |false=>none
 |false=>match ble hZ k with
  |true=>some k
  |false=>none
theorem Qx{n:Nat}{env env':Nat->Loc}(h:∀id l,n<=id->env id=l->((∃b,l=.blk b)\/hZ<=id)->env' id=l)(bc:n<=hZ):JM (hs n) env env':=by
 refine⟨λk j b aa e=>?_,λk j A c m aa e=>?_⟩
 ·simp only[hs]at aa
  split at aa
  ·rename_i ad
   cases aa;exact h _ _ (le_of_ble_eq_true ad) e (.inl ⟨b,rfl⟩)
  ·cases aa
 ·simp only[hs]at aa
  split at aa
  ·rename_i ad
   cases aa
   have:=le_of_ble_eq_true ad
   exact h _ _ (le_trans bc this) e (.inr this)
  ·cases aa
def sE:ep->Bool
 |[]=>true
 |.id _::_=>false
 |.eF _ _::r=>sE r
section
variable {env env':Nat->Loc} {B:Nat->Prop} {w:World}
theorem fb.JN:∀ {cs:ep} {vs:cl},sE cs=true->fb env B w cs vs->fb env' B w cs vs
 |[],_,_,h=>h
 |.id _::_,_,h,_=>by cases h
 |.eF _ _::_,_,h,⟨v,r,e,I,J⟩=>⟨v,r,e,I,fb.JN (by simpa [sE] using h) J⟩
theorem fb.any:∀ {cs:ep} {vs:cl},fb (λ_=>.no) B w cs vs->fb env B w cs vs
 |[],_,h=>h
 |.id _::_,_,⟨v,r,e,⟨b,I,_⟩,J⟩=>by cases I
 |.eF _ _::_,_,⟨v,r,e,I,J⟩=>⟨v,r,e,I,fb.any J⟩
theorem dR.any:∀ {c:bs} {v:Value},dR (λ_=>.no) B w c v->dR env B w c v
 |.val _,_,U=>U
 |.str _,_,U=>U
 |.dead,_,U=>U
 |.ptr _ _,_,⟨b,h,_⟩=>by cases h
 |.e4 _ _ _ _,_,⟨_,_,_,h,_⟩=>by cases h
 |.gn _ _ _,_,U=>U
 |.par _ _,_,U=>U
 |.ax _,_,⟨_,_,_,h,_⟩=>by cases h
 |.bo _ _ _,_,U=>U
 |.fn _ _,_,⟨vs,I,J⟩=>⟨vs,I,fb.any J⟩
 |.dY _,_,⟨_,h,_⟩=>by cases h
 |.jD _ _,_,⟨_,h,_⟩=>by cases h
 |.il _ _,_,⟨_,_,_,h,_⟩=>by cases h
 |.jE _ _ _,_,⟨_,_,_,h,_⟩=>by cases h
 |.jR _,_,⟨_,_,_,h,_⟩=>by cases h
 |.iF true _,_,⟨_,h,_⟩=>by cases h rfl
 |.iF false _,_,⟨k,_,h⟩=>⟨k,λh=>(by cases h),h⟩
theorem cO.any:∀ {c:dI} {v:cl},cO (λ_=>.no) B w c v->cO env B w c v
 |[],_,U=>U
 |_::_,_,⟨v,r,e,I,J⟩=>⟨v,r,e,I.any,J.any⟩
theorem dU.any:∀ {c:bq} {v:Value},dU (λ_=>.no) B w c v->dU env B w c v
 |.c _,_,U=>dR.any U
 |.agg _,_,⟨vs,e,I⟩=>⟨vs,e,I.any⟩
 |.arr _ _,_,h=>h
theorem dw.any:∀ {c:dO} {v:cl},dw (λ_=>.no) B w c v->dw env B w c v
 |[],_,U=>U
 |_::_,_,⟨v,r,e,I,J⟩=>⟨v,r,e,I.any,J.any⟩
end
structure Has(n:Nat)(env:Nat->Loc)(B:Nat->Prop)(w:World)(L:cU)(tmps:Array Value):Prop where
 size:tmps.size=n
 has:∀s sv,bm L s=some sv->∃v,tmps[s]?=some v/\eK env B w sv v
def ub:b6->dO->cU->cU
 |p::aH,x::xs,L=>ub aH xs ((p,.a x)::L)
 |_,_,L=>L
def sF:List (Nat×Nat)->cU->cU
 |[],L=>L
 |(d,s)::r,L=>match bm L s with
  |some v=>sF r ((d,v)::L)
  |none=>sF r ((d,.a (.c .dead))::L)
def sG:List (Nat×Nat)->Array Value->Array Value
 |[],t=>t
 |(d,s)::r,t=>sG r (t.setIfInBounds d (t.getD s undef))
def mY(n:Nat):b6->Bool
 |[]=>true
 |p::r=>blt p n&&mY n r
section
variable {n:Nat} {env:Nat->Loc} {B:Nat->Prop} {w:World} {L:cU} {tmps:Array Value}
theorem Has.set(h:Has n env B w L tmps){d:Nat}(ay:d<n){sv:cd}{v:Value}(a:eK env B w sv v):Has n env B w ((d,sv)::L) (tmps.setIfInBounds d v):=by
 refine⟨by simpa using h.size,λs u hu=>?_⟩;rw[cI]at hu
 split at hu
 ·rename_i e
  subst e;cases hu;exact⟨v,by rw[Array.getElem?_setIfInBounds_self_of_lt (by rw[h.size];exact ay)],a⟩
 ·rename_i e
  obtain⟨c,I,J⟩:=h.has s u hu;exact⟨c,by rw[Array.getElem?_setIfInBounds_ne (λb=>e b.symm)];exact I,J⟩
theorem Has.par:∀ {aH:b6} {xs:dO} {vs:cl} {L:cU} {tmps:Array Value},Has n env B w L tmps->mY n aH=true->dw env B w xs vs->Has n env B w (ub aH xs L) ((aH.zip vs).foldl (λt (p,v)=>t.setIfInBounds p v) tmps)
 |[],_,_,_,_,h,_,_=>by cases ‹dO›<;>exact h
 |_::_,[],_,_,_,h,_,ai=>by rw[show _=[] from ai];exact h
 |p::aH,x::xs,_,L,tmps,h,al,⟨v,r,e,I,J⟩=>by
  subst e;simp only[mY,and_eq_true]at al;exact Has.par (xs:=xs) (vs:=r) (L:=(p,.a x)::L) (tmps:=tmps.setIfInBounds p v) (h.set (ef al.1) (sv:=.a x) I) al.2 J
theorem Has.dc:∀ {ms:List (Nat×Nat)} {L:cU} {tmps:Array Value},Has n env B w L tmps->mY n (ms.map (·.1))=true->Has n env B w (sF ms L) (sG ms tmps)
 |[],_,_,h,_=>h
 |(d,s)::r,L,tmps,h,al=>by
  simp only[map_cons,mY,and_eq_true]at al;unfold sF sG
  split
  ·rename_i v a
   obtain⟨u,I,J⟩:=h.has s v a;refine Has.dc (h.set (ef al.1) ?_) al.2;rw[Array.getD_eq_getD_getElem?,I];exact J
  ·exact Has.dc (h.set (ef al.1) trivial) al.2
end
def yk(n:Nat):List Oper->Option (List (Nat×Nat))
 |[]=>some []
 |o::r=>match o.guard,o.dst,o.op,yk n r with
  |none,some d,.assign (.tmp s),some l=>some ((d,s)::l)
  |none,some d,.move (.tmp s),some l=>some ((d,s)::l)
  |_,_,_,_=>none
inductive mq(n:Nat):Code->List (Nat×Nat)->Prop where
 |region {id:Nat} {ops:List Oper} {ms:List (Nat×Nat)} (h:yk n ops=some ms):mq n (.region id ops.toArray false) ms
 |skip:mq n .skip []
 |seq {a b:Code} {m1 m2:List (Nat×Nat)} (I:mq n a m1) (J:mq n b m2):mq n (.seq a b) (m1++m2)
theorem Qy:∀(a b:List (Nat×Nat)) (t:Array Value),sG (a++b) t=sG b (sG a t)
 |[],_,_=>rfl
 |(d,s)::a,b,t=>Qy a b (t.setIfInBounds d (t.getD s undef))
theorem Qz{P:Program}{n l:Nat}{ops:Array Oper}{Q:Exit->Act->World->Prop}{w:World}:∀ {os:List Oper} {ms:List (Nat×Nat)} {a:Act},yk n os=some ms->Q .normal { a with tmps:=sG ms a.tmps } w->q4 (some l) P ops Q os a w
 |[],ms,a,h,c=>by cases h;exact IA c
 |o::os,ms,a,h,c=>by
  have key:∀d s,o.guard=none->o.dst=some d->(o.op=.assign (.tmp s)\/o.op=.move (.tmp s))->∀l',yk n os=some l'->ms=(d,s)::l'->q4 (some l) P ops Q (o::os) a w:=by
   intro d s b ay aA l' ae e;subst e;refine sn (.inl ⟨by simp[Region.wanted,b],.inl ⟨a.eval (.tmp s),w,?_,Qz ae ?_⟩⟩)
   ·rcases aA with aA|aA<;>simp[execOp,aA]
   ·rw[ay]
    exact c
  unfold yk at h
  split at h
  ·rename_i d s l' b ay aA ae
   cases h;exact key d s b ay (.inl aA) l' ae rfl
  ·rename_i d s l' b ay aA ae
   cases h;exact key d s b ay (.inr aA) l' ae rfl
  ·cases h
theorem mq.ok{P:Program}{n l:Nat}{c:Code}{ms:List (Nat×Nat)}{w:World}(h:mq n c ms):∀ {Q:Exit->Act->World->Prop} {a:Act},Q .normal { a with tmps:=sG ms a.tmps } w->kS (some l) P c Q a w:=by
 induction h with
 |region h=>exact λb=>DD (Qz h b)
 |skip=>exact λb=>O5 b
 |seq I J d e=>exact λb=>YF λK f=>d (f _ _ (e (by rw[Qy]at b;exact b)))
end
section
def QA:Exit->Option Code
 |.ret=>some .ret
 |.exit id=>some (.exit id)
 |_=>none
def Eo:Exit->Bool
 |.normal=>true
 |.ret=>true
 |.exit _=>true
 |_=>false
section
variable {X:bu} {R:Nat->Prop} {W:World} {aE:fj} {n:Nat} {aq:b6} {env:Nat->Loc} {B:Nat->Prop} {ak:World} {H:c2} {st:aO} {a:Act} {w:World}
def oj(n:Nat)(env:Nat->Loc):Nat->Loc->Prop:=λid l=>n<=id/\env id=l/\((∃b,l=.blk b)\/hZ<=id)
theorem bK.QB(h:bK X R W aE n aq env B ak H st a w):bK X (λk=>R k\/B k) w ⟨B,oj n env,aE.d⟩ n aq env B w H st a w:=by
 have d:gm B ak B w:=⟨λ_ h=>h,λk aa=>h.aU.below.block k (.inr aa)⟩
 refine⟨h.size,h.defs,λs sv e=>?_,h.heap.up d,?_,λ_ h=>h,λ_ h=>.inl h,λ_ _ h=>h,c9.refl _ _,λi x ai=>(h.eg i x ai).up d⟩
 ·obtain⟨v,I,J⟩:=h.has s sv e
  exact⟨v,I,J.up d⟩
 ·exact⟨c9.refl _ _,λk aa=>h.aU.base k (aa.elim (λh=>h) .inr),λc U=>(h.aU.ok c U).base λb ad aa=>((h.aU.ok c U).lt ad).1 (aa.elim (λh=>h) .inr),h.aU.apart⟩
theorem bK.aau{env':Nat->Loc}{B':Nat->Prop}{e:World}{H':c2}{st':aO}{aX:Act}{w':World}{f:b6}(h:bK X R W aE n aq env B ak H st a w)(d:bK X (λk=>R k\/B k) w ⟨B,oj n env,aE.d⟩ n f env' B' e H' st' aX w'):bK X R W aE n f env' B' e H' st' aX w':=by
 refine⟨d.size,d.defs,d.has,d.heap,?_,λk aa=>d.sub k (h.sub k aa),λk aa=>?_,λid l al=>?_,?_,d.eg⟩
 ·exact⟨⟨d.aU.below.os,d.aU.below.tape,d.aU.below.output,d.aU.below.size,λk aa=>d.aU.below.block k (aa.imp .inl id)⟩,λk aa=>d.aU.base k (aa.imp .inl id),λc U=>(d.aU.ok c U).base λb ad aa=>((d.aU.ok c U).lt ad).1 (aa.imp .inl id),d.aU.apart⟩
 ·have j:∀q,B q->e.heap[q]?=ak.heap[q]?:=λq g=>(d.base.block q (.inr g)).trans (h.aU.below.block q (.inr g))
  rcases d.new k aa with I|I
  ·exact(h.new k I).imp_right λJ=>⟨J.1,J.2.ee (j k I)⟩
  ·exact .inr ⟨λi=>I.1 (.inl i),I.2⟩
 ·obtain⟨I,J,ag⟩:=h.dr id l al
  exact⟨I,(d.dr id l ⟨I,J,ag⟩).2.1,ag⟩
 ·exact h.base.trans ⟨h.aU.below.os.symm ▸ d.base.os,h.aU.below.tape ▸ d.base.tape,h.aU.below.output ▸ d.base.output,le_trans h.aU.below.size d.base.size,λk aa=>(d.base.block k (.inl aa)).trans (h.aU.below.block k (.inl aa))⟩
theorem bK.round(h:bK X R W aE n aq env B ak H st a w){eu:cU}{t:Array Value}(cY:Has n env B w eu t):bK X (gB w H) w ⟨B,oj n env,[]⟩ n [] env B w H ⟨eu,st.H⟩ { tmps:=t,defers:=[] } w:=by
 have e:gm B ak B w:=⟨λ_ h=>h,λk aa=>h.aU.below.block k (.inr aa)⟩
 have d:=h.aU.e2 (sublist_append_left _ _);refine⟨cY.size,rfl,cY.has,h.heap.up e,?_,λ_ h=>h,λ_ h=>.inl h,λ_ _ h=>h,c9.refl _ _,λi x ai=>(h.eg i x ai).up e⟩;have I:=d.rest;simp only[map_nil,append_nil];exact⟨c9.refl _ _,λk aa=>aa.elim (λh=>h.1) (λh=>d.base k (.inr h)),λc U=>(I.ok c U).base λb ad aa=>aa.elim (λh=>((I.ok c U).lt ad).1 h) (λh=>((d.ok c U).lt ad).1 (.inr h)),I.apart⟩
theorem bK.aav{env':Nat->Loc}{B':Nat->Prop}{j:World}{H':c2}{st':aO}{aX:Act}{w':World}(h:bK X R W aE n aq env B ak H st a w)(f:bK X (gB w H) w ⟨B,oj n env,[]⟩ n [] env' B' j H' st' aX w'){L:cU}(cY:∀s sv,bm L s=some sv->∃v,a.tmps[s]?=some v/\eK env' B' j sv v):bK X R W aE n aq env' B' j H' ⟨L,st'.H⟩ a w':=by
 have o:=h.aU.e2 (sublist_append_left _ _);have g:∀k,R k\/B k->gB w H k:=λk aa=>⟨o.base k aa,λc U e=>((o.ok c U).lt e).1 aa⟩
 have p:gm B ak B' j:=⟨f.sub,λk aa=>(f.base.block k (g k (.inr aa))).trans (h.aU.below.block k (.inr aa))⟩
 have d:=f.aU;simp only[map_nil,append_nil]at d;have az:bZ (gB w H) w H' w':=⟨f.base.trans ⟨d.below.os,d.below.tape,d.below.output,d.below.size,λk aa=>d.below.block k (.inl aa)⟩,λk aa=>d.base k (.inl aa),λc U=>(d.ok c U).base λb ad aa=>((d.ok c U).lt ad).1 (.inl aa),d.apart⟩
 have m:=h.aU.frame az;have t:=List.pairwise_append.1 h.aU.apart;refine⟨h.size,h.defs,cY,f.heap,⟨⟨d.below.os,d.below.tape,d.below.output,d.below.size,λk aa=>d.below.block k (aa.imp (λh=>g k (.inl h)) id)⟩,λk aa=>d.base k (aa.imp (λh=>g k (.inl h)) id),λc U=>(m.ok c U).base λb ad aa=>?_,m.apart⟩,λk aa=>f.sub k (h.sub k aa),λk aa=>?_,λid l al=>?_,?_,λi x ai=>(h.eg i x ai).up p⟩
 ·rcases aa with aa|aa
  ·exact((m.ok c U).lt ad).1 (.inl aa)
  ·rcases List.mem_append.1 U with dJ|dJ
   ·exact((d.ok c dJ).lt ad).1 (.inr aa)
   ·rcases f.new b aa with I|I
    ·exact((m.ok c U).lt ad).1 (.inr I)
    ·exact I.1 ⟨((h.aU.ok c (mem_append_right _ dJ)).lt ad).2,λc' q e=>t.2.2 c' q c dJ b e ad⟩
 ·rcases f.new k aa with I|I
  ·exact(h.new k I).imp_right λJ=>⟨J.1,J.2.ee (p.2 k I)⟩
  ·exact .inr ⟨λr=>I.1 (g k (.inl r)),I.2⟩
 ·obtain⟨I,J,ag⟩:=h.dr id l al
  exact⟨I,(f.dr id l ⟨I,J,ag⟩).2.1,ag⟩
 ·exact h.base.trans ⟨f.base.os.trans h.aU.below.os,f.base.tape.trans h.aU.below.tape,f.base.output.trans h.aU.below.output,le_trans h.aU.below.size f.base.size,λk aa=>(f.base.block k (g k (.inl aa))).trans (h.aU.below.block k (.inl aa))⟩
end
end
section
section
variable {X:bu} {R:Nat->Prop} {W:World} {aE:fj} {n:Nat} {aq:b6} {B:Nat->Prop} {ak:World} {r:Option Nat} {ops:List Oper} {Q:Exit->Act->World->Prop}
end
section
variable {X:bu} {B:Nat->Prop} {n:Nat} {L eu:cU} {b5:World} {a:Act} {w:World} {Q:Exit->Act->World->Prop}
theorem QD{D:List Deferred}{M:List (Nat×Value)}(b:df n D M a){us:eE}{vs:cl}(h:jB M us=some vs):us.toArray.map a.eval=vs.toArray:=by
 have:=b.jB h
 simp[this]
end
end
section
def yl(id:Nat):Nat->dI->dI
 |0,.val (.slice none 0 0)::r=>.ax id::r
 |p+1,c::r=>c::yl id p r
 |_,cs=>cs
def kl(k p id:Nat):bC->bC
 |[]=>[]
 |(j,.cells t cs)::r=>match beq j k with
  |true=>(j,.cells t (yl id p cs))::r
  |false=>(j,.cells t cs)::kl k p id r
 |b::r=>b::kl k p id r
section
variable {env:Nat->Loc} {B:Nat->Prop} {w:World} {id:Nat} (he:env id=.row none 0 0)
include he
theorem cO.yl:∀ {p:Nat} {cs:dI} {vs:cl},cO env B w cs vs->cO env B w (yl id p cs) vs:=by
 intro p
 induction p with
 |zero=>
  intro cs vs h;unfold Go.Proofs.YtcheedjfedcbpaaGreatDoor.yl
  split
  ·obtain⟨v,r,e,I,J⟩:=h
   exact⟨v,r,e,⟨none,0,0,he,I⟩,J⟩
  ·omega
  ·exact h
 |succ p a=>
  intro cs vs h;cases cs with
  |nil=>exact h
  |cons c r=>
   obtain⟨v,q,e,I,J⟩:=h;exact⟨v,q,e,I,a J⟩
theorem bJ.kl{k p:Nat}:∀ {l:bC} {H:c2},bJ env B w l H->bJ env B w (kl k p id l) H
 |[],_,h=>h
 |(j,.cells t cs)::r,_,⟨c,H',e,I,J⟩=>by
  unfold Go.Proofs.YtcheedjfedcbpaaGreatDoor.kl
  split
  ·obtain⟨b,vs,ag,d,a⟩:=I
   exact⟨c,H',e,⟨b,vs,ag,d,cO.yl he a⟩,J⟩
  ·exact⟨c,H',e,I,bJ.kl J⟩
 |(j,.row _ _ _ _)::r,_,⟨c,H',e,I,J⟩=>⟨c,H',e,I,bJ.kl J⟩
 |(j,.lg _ _)::r,_,⟨c,H',e,I,J⟩=>⟨c,H',e,I,bJ.kl J⟩
 |(j,.mp _ _ _ _)::r,_,⟨c,H',e,I,J⟩=>⟨c,H',e,I,bJ.kl J⟩
 |(j,.it _ _ _ _)::r,_,⟨c,H',e,I,J⟩=>⟨c,H',e,I,bJ.kl J⟩
 |(j,.hY _)::r,_,⟨c,H',e,I,J⟩=>⟨c,H',e,I,bJ.kl J⟩
 |(j,.lh)::r,_,⟨c,H',e,I,J⟩=>⟨c,H',e,I,bJ.kl J⟩
 |(j,.cP _ _ _ _ _ _ _)::r,_,⟨c,H',e,I,J⟩=>⟨c,H',e,I,bJ.kl J⟩
 |(j,.lN)::r,_,⟨c,H',e,I,J⟩=>⟨c,H',e,I,bJ.kl J⟩
 |(j,.gT _ _ _)::r,_,⟨c,H',e,I,J⟩=>⟨c,H',e,I,bJ.kl J⟩
 |(j,.b0 _ _ _ _ _ _)::r,_,⟨c,H',e,I,J⟩=>⟨c,H',e,I,bJ.kl J⟩
end
theorem ds.qt{X:bu}{n:Nat}{st:aO}(k p id:Nat)(t:TypeId)(g:a7)(hid:blt id n=true):ds X n st ⟨gu id .dead st.L,(id,.row t g [] none)::kl k p id (ew id .dead st.H)⟩:=λR W aE M a w ⟨aq,env,B,ak,H,e,h⟩=>by
 obtain⟨H2,I,J⟩:=h.heap.del (z:=.dead) (kz) (λ_ _=>trivial);refine⟨aq,kX env id (.row none 0 0),B,ak,.row none 0 t g.size 0 []::H2,e,h.size,h.defs,λq u hu=>?_,⟨_,H2,rfl,⟨none,0,[],fK,rfl,rfl,λ_ c=>by cases c⟩,bJ.kl fK J⟩,(h.aU.tx t g.size).e2 ((I.append_right _).cons_cons _),h.sub,h.new,tJ h.dr (λq al=>by have I:=(h.dr _ _ al).1;have J:=ef hid;omega),h.base,h.eg⟩;obtain⟨i,j,rfl⟩:=qj hu;obtain⟨f,b,d⟩:=h.has q i j;exact⟨f,b,eK.sub (z:=.dead) kz (λ_ _=>trivial) d⟩
end
theorem AC.QE{X:bu}{f:FuncId}{args:dO}{sv:cd}{c:Value}(l:∀env B w,eK env B w sv c)(j:∀(env:Nat->Loc) (B:Nat->Prop) (ak:World) (vs:cl) (W:World),vF X B W->dw env B W args vs->(∀k,B k->k<W.heap.size)->qc X.P f vs.toArray W (λv w'=>v=c/\Below W.heap.size W w')):AC X f args [] (λs h=>s=sv/\h=[]):=by
 intro B ak env vs H W d bh g a;have e:=g;have b:gm B ak B W:=⟨λ_ h=>h,a.below.block⟩
 refine(j env B ak vs W (λi x ai=>(d i x ai).up b) (bh.up b) a.base).mono ?_;rintro v w' ⟨rfl,ad⟩;refine⟨env,B,W,[],sv,[],⟨rfl,rfl⟩,λ_ h=>h,λ_ h=>.inl h,c9.refl _ _,l _ _ _,rfl,⟨⟨ad.os,ad.tape,ad.output,ad.size,λk aa=>ad.block k (aa.elim (λh=>h.1) (a.base k))⟩,λk aa=>Nat.lt_of_lt_of_le (aa.elim (λh=>h.1) (a.base k)) ad.size,(λ_ h=>by cases h),List.Pairwise.nil⟩,λ_ _ _ h=>h⟩
theorem QF{env:Nat->Loc}{B:Nat->Prop}{w:World}{g:a7}{v:Value}(h:dU env B w (.c (.val (.slice none 0 0))) v):dU env B w (.c (.bo g [] (some 0))) v:=by
 have e:=h;subst e;exact⟨none,0,[],rfl,le_refl _,Nat.zero_le _,λ_ h=>by cases h;rfl,rfl,Reads.nil _ _ _,λ_ _ h=>absurd h (Nat.lt_irrefl 0)⟩
theorem QG{B:Nat->Prop}{w:World}{k:IntKind}:∀ {l:cZ} {vs:cl},Flat (bR B w (.int k)) l vs->vs=l.map λz=>Value.int k z
 |[],_,h=>h
 |x::l,_,⟨a,b,e,I,J⟩=>by rw[e,show a=_ from I,QG J];rfl
theorem QH{B:Nat->Prop}{w:World}:∀ {l:List dV} {vs:cl},Flat (bR B w .str) l vs->vs=l.map gl
 |[],_,h=>h
 |x::l,_,⟨a,b,e,I,J⟩=>by rw[e,show a=_ from I,QH J];rfl
theorem tE.aax{P:Program}{B:Nat->Prop}{w:World}{i:Nat}{k:IntKind}{zs:cZ}(h:tE B w i ⟨.int k,zs⟩){name:String}(bc:P.globalNamed name=some i):Lib.TabIs P w name k zs:=by
 obtain⟨⟨b,o,vs,e,ad,az,U⟩,cs,t,g,I,J⟩:=h;cases e;have a:=QG az;unfold Lib.TabIs World.var?;rw[bc];simp only[Option.bind_some,I,Option.some.injEq];have ae:cs.size=vs.length:=by rw[J,a];simp[a7.size]
 rw[<- a]
 apply Array.ext (by simpa using ae)
 intro j c d;have f:j<vs.length:=by simpa using d
 have:=U j vs[j] (getElem?_eq_getElem f)
 simp only[zero_add,World.cell?,I]at this;rw[Array.getElem?_eq_getElem c]at this
 simpa using this
def jt(d:TypeDesc)(s b:Nat)(z:Value)(g:Option a7):cr:=⟨⟨d,s,b,z⟩,g⟩
def qu(k:IntKind)(b:Nat):cr:=jt (.int k) 1 b (.int k 0) (some (.int k))
def Ep(a r:Array TypeId)(v:Bool):cr:=jt (.func a r v) 1 8 .nilFunc none
def anu(t:TypeId):cr:=jt (.pointer t) 1 8 (.pointer none) none
def mr(t:TypeId)(g:Option a7):cr:=jt (.slice t) 1 24 (.slice none 0 0) g
def e5(n:String)(t:TypeId)(o b:Nat):Field:=⟨n,t,o,false,"","",b⟩
def mZ(f:Array Field)(s b:Nat)(g:a7):cr:=jt (.struct f) s b (.agg g.e3.toArray) (some g)
theorem rA{P:Program}{t:TypeId}{d:TypeDesc}{s b:Nat}{z:Value}(h:P.underlying t=some d)(J:(P.info? t).map (λx=>(x.size,x.bytes,x.zero))=some (s,b,some z)):cr.ok P t (jt d s b z none):=⟨⟨h,J⟩,λg a=>by cases a⟩
theorem eV{P:Program}{t:TypeId}{d:TypeDesc}{s b:Nat}{z:Value}{g:a7}(h:P.underlying t=some d)(J:(P.info? t).map (λx=>(x.size,x.bytes,x.zero))=some (s,b,some z))(ag:g.size=s)(e:z.cells.toList=g.e3)(a:blt 0 s=true):cr.ok P t (jt d s b z (some g)):=⟨⟨h,J⟩,λg' c=>by cases c;exact⟨ag,e,ag ▸ ef a⟩⟩
def aay:cr:=qu .i64 8
def aaz:cr:=jt (.bool) 1 1 (.bool false) (some (.bool))
def aaA:cr:=qu .u8 1
def aaB:cr:=jt (.string) 1 16 (.string { data:=#[] }) (some (.str))
def aaC:cr:=mr 84 (some (.ax (.pair (.int .u8) (.pair (.int .u8) (.int .u8)))))
def aaD:cr:=mr 3 (some (.ax (.int .i64)))
def aaE:cr:=mr 34 (some (.ax (.ax (.pair (.int .u8) (.int .i64)))))
def aaF:cr:=mZ #[e5 "Front" 27 0 0,e5 "Back" 27 1 24] 2 48 (.pair (.ax (.ax (.pair (.int .u8) (.int .i64)))) (.ax (.ax (.pair (.int .u8) (.int .i64)))))
def aaG:cr:=mr 73 (some (.ax (.pair (.bool) (.pair (.int .i64) (.pair (.int .i64) (.pair (.bool) (.ax (.pair (.pair (.int .u8) (.int .i64)) (.pair (.bool) (.int .u8))))))))))
def aaH:cr:=mr 118 (some (.ax (.ax (.pair (.int .u8) (.pair (.bool) (.pair (.ax (.pair (.int .u8) (.int .i64))) (.ax (.pair (.pair (.int .u8) (.int .i64)) (.pair (.bool) (.int .u8))))))))))
def aaI:cr:=mr 124 (some (.ax (.pair (.pair (.int .u8) (.int .i64)) (.pair (.pair (.int .u8) (.int .i64)) (.int .i64)))))
def aaJ:cr:=mr 102 (some (.ax (.pair (.int .u8) (.int .i64))))
def aaK:cr:=mZ #[e5 "Yarns" 32 0 0,e5 "Crossings" 33 1 24,e5 "Held" 34 2 48,e5 "Fallen" 34 3 72] 4 96 (.pair (.ax (.ax (.pair (.int .u8) (.pair (.bool) (.pair (.ax (.pair (.int .u8) (.int .i64))) (.ax (.pair (.pair (.int .u8) (.int .i64)) (.pair (.bool) (.int .u8))))))))) (.pair (.ax (.pair (.pair (.int .u8) (.int .i64)) (.pair (.pair (.int .u8) (.int .i64)) (.int .i64)))) (.pair (.ax (.pair (.int .u8) (.int .i64))) (.ax (.pair (.int .u8) (.int .i64))))))
def aaL:cr:=mZ #[e5 "Rack" 3 0 0,e5 "Beds" 29 1 8,e5 "Yarns" 30 3 56,e5 "Fabric" 36 4 80] 8 176 (.pair (.int .i64) (.pair (.pair (.ax (.ax (.pair (.int .u8) (.int .i64)))) (.ax (.ax (.pair (.int .u8) (.int .i64))))) (.pair (.ax (.pair (.bool) (.pair (.int .i64) (.pair (.int .i64) (.pair (.bool) (.ax (.pair (.pair (.int .u8) (.int .i64)) (.pair (.bool) (.int .u8))))))))) (.pair (.ax (.ax (.pair (.int .u8) (.pair (.bool) (.pair (.ax (.pair (.int .u8) (.int .i64))) (.ax (.pair (.pair (.int .u8) (.int .i64)) (.pair (.bool) (.int .u8))))))))) (.pair (.ax (.pair (.pair (.int .u8) (.int .i64)) (.pair (.pair (.int .u8) (.int .i64)) (.int .i64)))) (.pair (.ax (.pair (.int .u8) (.int .i64))) (.ax (.pair (.int .u8) (.int .i64)))))))))
def aaM:cr:=mr 57 (some (.ax (.pair (.int .u8) (.pair (.int .u8) (.pair (.pair (.int .u8) (.int .i64)) (.pair (.int .u8) (.int .i64)))))))
def aaN:cr:=qu .i64 8
def aaO:cr:=qu .u8 1
def aaP:cr:=mZ #[e5 "Bed" 48 0 0,e5 "At" 3 1 8] 2 16 (.pair (.int .u8) (.int .i64))
def aaQ:cr:=qu .u8 1
def aaR:cr:=qu .u8 1
def aaS:cr:=mZ #[e5 "Kind" 54 0 0,e5 "Dir" 55 1 1,e5 "Needle" 50 2 8,e5 "Yarn" 5 4 24,e5 "Rack" 3 5 32] 6 40 (.pair (.int .u8) (.pair (.int .u8) (.pair (.pair (.int .u8) (.int .i64)) (.pair (.int .u8) (.int .i64)))))
def aaT:cr:=mr 137 (some (.ax (.pair (.int .u8) (.ax (.pair (.int .u8) (.int .i64))))))
def aaU:cr:=mZ #[e5 "Slots" 65 0 0,e5 "Yarns" 30 1 24,e5 "Fabric" 36 2 48,e5 "Dir" 55 6 144] 7 152 (.pair (.ax (.pair (.int .u8) (.ax (.pair (.int .u8) (.int .i64))))) (.pair (.ax (.pair (.bool) (.pair (.int .i64) (.pair (.int .i64) (.pair (.bool) (.ax (.pair (.pair (.int .u8) (.int .i64)) (.pair (.bool) (.int .u8))))))))) (.pair (.pair (.ax (.ax (.pair (.int .u8) (.pair (.bool) (.pair (.ax (.pair (.int .u8) (.int .i64))) (.ax (.pair (.pair (.int .u8) (.int .i64)) (.pair (.bool) (.int .u8))))))))) (.pair (.ax (.pair (.pair (.int .u8) (.int .i64)) (.pair (.pair (.int .u8) (.int .i64)) (.int .i64)))) (.pair (.ax (.pair (.int .u8) (.int .i64))) (.ax (.pair (.int .u8) (.int .i64)))))) (.int .u8))))
def aaV:cr:=mr 116 (some (.ax (.pair (.pair (.int .u8) (.int .i64)) (.pair (.bool) (.int .u8)))))
def aaW:cr:=mZ #[e5 "In" 4 0 0,e5 "Place" 3 1 8,e5 "Count" 3 2 16,e5 "New" 4 3 24,e5 "Pending" 71 4 32] 5 56 (.pair (.bool) (.pair (.int .i64) (.pair (.int .i64) (.pair (.bool) (.ax (.pair (.pair (.int .u8) (.int .i64)) (.pair (.bool) (.int .u8))))))))
def aaX:cr:=jt (.array 2 5) 2 2 (.agg #[.int .u8 0,.int .u8 0]) (some (.pair (.int .u8) (.int .u8)))
def aaY:cr:=jt (.array 3 5) 3 3 (.agg #[.int .u8 0,.int .u8 0,.int .u8 0]) (some (.pair (.int .u8) (.pair (.int .u8) (.int .u8))))
def aaZ:cr:=jt (.struct #[{ name := "ops",type := 40,offset := 0,embedded := false,tag := "",pkgPath := "gansey/shifts",byteOffset := 0 },{ name := "rack",type := 3,offset := 1,embedded := false,tag := "",pkgPath := "gansey/shifts",byteOffset := 24 }]) 2 32 (.agg #[.slice none 0 0,.int .i64 0]) (some (.pair (.ax (.pair (.int .u8) (.pair (.int .u8) (.pair (.pair (.int .u8) (.int .i64)) (.pair (.int .u8) (.int .i64)))))) (.int .i64)))
def aa0:cr:=Ep #[3] #[3] false
def aa1:cr:=jt (.map 54 174) 1 8 (.map none) none
def aa2:cr:=mZ #[e5 "Yarn" 5 0 0,e5 "N" 3 1 8] 2 16 (.pair (.int .u8) (.int .i64))
def aa3:cr:=mr 9 (some (.ax (.str)))
def aa4:cr:=mZ #[e5 "Bed" 48 0 0,e5 "New" 4 1 1,e5 "Through" 34 2 8,e5 "Past" 71 3 32] 4 56 (.pair (.int .u8) (.pair (.bool) (.pair (.ax (.pair (.int .u8) (.int .i64))) (.ax (.pair (.pair (.int .u8) (.int .i64)) (.pair (.bool) (.int .u8)))))))
def aa5:cr:=mZ #[e5 "Id" 102 0 0,e5 "Front" 4 2 16,e5 "Dir" 55 3 17] 4 24 (.pair (.pair (.int .u8) (.int .i64)) (.pair (.bool) (.int .u8)))
def aa6:cr:=Ep #[113,113] #[4] false
def aa7:cr:=mr 113 (some (.ax (.pair (.int .u8) (.pair (.bool) (.pair (.ax (.pair (.int .u8) (.int .i64))) (.ax (.pair (.pair (.int .u8) (.int .i64)) (.pair (.bool) (.int .u8)))))))))
def aa8:cr:=mZ #[e5 "A" 102 0 0,e5 "B" 102 2 16,e5 "N" 3 4 32] 5 40 (.pair (.pair (.int .u8) (.int .i64)) (.pair (.pair (.int .u8) (.int .i64)) (.int .i64)))
def aa9:cr:=mr 335 (some (.ax (.pair (.int .u8) (.pair (.int .u8) (.pair (.int .i64) (.pair (.int .i64) (.bool)))))))
def aba:cr:=mr 65 (some (.ax (.ax (.pair (.int .u8) (.ax (.pair (.int .u8) (.int .i64)))))))
def abb:cr:=jt (.struct #[{ name := "row",type := 129,offset := 0,embedded := false,tag := "",pkgPath := "gansey/rows",byteOffset := 0 },{ name := "slots",type := 130,offset := 1,embedded := false,tag := "",pkgPath := "gansey/rows",byteOffset := 24 },{ name := "yarns",type := 30,offset := 2,embedded := false,tag := "",pkgPath := "gansey/rows",byteOffset := 48 },{ name := "table",type := 32,offset := 3,embedded := false,tag := "",pkgPath := "gansey/rows",byteOffset := 72 },{ name := "dir",type := 55,offset := 4,embedded := false,tag := "",pkgPath := "gansey/rows",byteOffset := 96 }]) 5 104 (.agg #[.slice none 0 0,.slice none 0 0,.slice none 0 0,.slice none 0 0,.int .u8 0]) (some (.pair (.ax (.pair (.int .u8) (.pair (.int .u8) (.pair (.int .i64) (.pair (.int .i64) (.bool)))))) (.pair (.ax (.ax (.pair (.int .u8) (.ax (.pair (.int .u8) (.int .i64)))))) (.pair (.ax (.pair (.bool) (.pair (.int .i64) (.pair (.int .i64) (.pair (.bool) (.ax (.pair (.pair (.int .u8) (.int .i64)) (.pair (.bool) (.int .u8))))))))) (.pair (.ax (.ax (.pair (.int .u8) (.pair (.bool) (.pair (.ax (.pair (.int .u8) (.int .i64))) (.ax (.pair (.pair (.int .u8) (.int .i64)) (.pair (.bool) (.int .u8))))))))) (.int .u8))))))
def abc:cr:=mZ #[e5 "Bed" 48 0 0,e5 "Loops" 34 1 8] 2 32 (.pair (.int .u8) (.ax (.pair (.int .u8) (.int .i64))))
def abd:cr:=mr 5 (some (.ax (.int .u8)))
def abe:cr:=mZ #[e5 "N" 3 0 0,e5 "New" 4 1 8,e5 "Past" 71 2 16] 3 40 (.pair (.int .i64) (.pair (.bool) (.ax (.pair (.pair (.int .u8) (.int .i64)) (.pair (.bool) (.int .u8))))))
def abf:cr:=jt (.map 173 3) 1 8 (.map none) none
def abg:cr:=jt (.struct #[{ name := "rack",type := 3,offset := 0,embedded := false,tag := "",pkgPath := "gansey/machines",byteOffset := 0 },{ name := "beds",type := 29,offset := 1,embedded := false,tag := "",pkgPath := "gansey/machines",byteOffset := 8 },{ name := "yarns",type := 30,offset := 3,embedded := false,tag := "",pkgPath := "gansey/machines",byteOffset := 56 },{ name := "table",type := 32,offset := 4,embedded := false,tag := "",pkgPath := "gansey/machines",byteOffset := 80 },{ name := "cross",type := 170,offset := 5,embedded := false,tag := "",pkgPath := "gansey/machines",byteOffset := 104 },{ name := "fallen",type := 34,offset := 6,embedded := false,tag := "",pkgPath := "gansey/machines",byteOffset := 112 }]) 7 136 (.agg #[.int .i64 0,.slice none 0 0,.slice none 0 0,.slice none 0 0,.slice none 0 0,.map none,.slice none 0 0]) none
def abh:cr:=jt (.array 2 102) 4 32 (.agg #[.int .u8 0,.int .i64 0,.int .u8 0,.int .i64 0]) (some (.pair (.pair (.int .u8) (.int .i64)) (.pair (.int .u8) (.int .i64))))
def abi:cr:=Ep #[96,57] #[41] false
def abj:cr:=jt (.map 102 4) 1 8 (.map none) none
def abk:cr:=mr 200 (some (.ax (.pair (.pair (.int .u8) (.int .i64)) (.pair (.pair (.int .u8) (.int .i64)) (.int .i64)))))
def abl:cr:=mZ #[e5 "Id" 102 0 0,e5 "Needle" 50 2 16,e5 "Spot" 3 4 32] 5 40 (.pair (.pair (.int .u8) (.int .i64)) (.pair (.pair (.int .u8) (.int .i64)) (.int .i64)))
def abm:cr:=qu .u64 8
def abn:cr:=jt (.array 9 9) 9 144 (.agg #[.string { data:=#[] },.string { data:=#[] },.string { data:=#[] },.string { data:=#[] },.string { data:=#[] },.string { data:=#[] },.string { data:=#[] },.string { data:=#[] },.string { data:=#[] }]) (some (.pair (.str) (.pair (.str) (.pair (.str) (.pair (.str) (.pair (.str) (.pair (.str) (.pair (.str) (.pair (.str) (.str))))))))))
def abo:cr:=jt (.array 2 9) 2 32 (.agg #[.string { data:=#[] },.string { data:=#[] }]) (some (.pair (.str) (.str)))
def abp:cr:=jt (.array 2 34) 2 48 (.agg #[.slice none 0 0,.slice none 0 0]) (some (.pair (.ax (.pair (.int .u8) (.int .i64))) (.ax (.pair (.int .u8) (.int .i64)))))
def abq:cr:=jt (.map 102 3) 1 8 (.map none) none
def abr:cr:=mr 246 (some (.ax (.pair (.pair (.int .u8) (.int .i64)) (.pair (.pair (.int .u8) (.int .i64)) (.int .i64)))))
def abt:cr:=mZ #[e5 "A" 102 0 0,e5 "B" 102 2 16,e5 "Sign" 3 4 32] 5 40 (.pair (.pair (.int .u8) (.int .i64)) (.pair (.pair (.int .u8) (.int .i64)) (.int .i64)))
def abu:cr:=jt (.struct #[{ name := "dir",type := 4,offset := 0,embedded := false,tag := "",pkgPath := "gansey/operations",byteOffset := 0 },{ name := "needle",type := 4,offset := 1,embedded := false,tag := "",pkgPath := "gansey/operations",byteOffset := 1 },{ name := "yarn",type := 4,offset := 2,embedded := false,tag := "",pkgPath := "gansey/operations",byteOffset := 2 },{ name := "rack",type := 4,offset := 3,embedded := false,tag := "",pkgPath := "gansey/operations",byteOffset := 3 }]) 4 4 (.agg #[.bool false,.bool false,.bool false,.bool false]) (some (.pair (.bool) (.pair (.bool) (.pair (.bool) (.bool)))))
def abv:cr:=jt (.map 54 251) 1 8 (.map none) none
def abw:cr:=qu .i64 8
def abx:cr:=qu .u32 4
def aby:cr:=qu .u64 8
def abz:cr:=Ep #[50,34] #[4] false
def abA:cr:=jt (.array 2 3) 2 16 (.agg #[.int .i64 0,.int .i64 0]) (some (.pair (.int .i64) (.int .i64)))
def abB:cr:=qu .u8 1
def abC:cr:=mZ #[e5 "Kind" 333 0 0,e5 "Yarn" 5 1 1,e5 "A" 3 2 8,e5 "B" 3 3 16,e5 "Front" 4 4 24] 5 32 (.pair (.int .u8) (.pair (.int .u8) (.pair (.int .i64) (.pair (.int .i64) (.bool)))))
def a6:cm:=(.node (.node (.node (.node (.node (.node (.node .leaf 3 aay .leaf) 4 aaz .leaf) 5 aaA (.node .leaf 9 aaB .leaf)) 23 aaC (.node (.node .leaf 24 aaD .leaf) 27 aaE (.node .leaf 29 aaF .leaf))) 30 aaG (.node (.node (.node .leaf 32 aaH .leaf) 33 aaI (.node .leaf 34 aaJ .leaf)) 36 aaK (.node (.node .leaf 38 aaL .leaf) 40 aaM (.node .leaf 41 aaN .leaf)))) 48 aaO (.node (.node (.node (.node (.node .leaf 50 aaP .leaf) 54 aaQ .leaf) 55 aaR (.node .leaf 57 aaS .leaf)) 65 aaT (.node (.node .leaf 67 aaU .leaf) 71 aaV (.node .leaf 73 aaW .leaf))) 75 aaX (.node (.node (.node .leaf 84 aaY .leaf) 87 aaZ (.node .leaf 89 aa0 .leaf)) 98 aa1 (.node (.node .leaf 102 aa2 .leaf) 106 aa3 (.node .leaf 113 aa4 .leaf))))) 116 aa5 (.node (.node (.node (.node (.node (.node .leaf 117 aa6 .leaf) 118 aa7 .leaf) 124 aa8 (.node .leaf 129 aa9 .leaf)) 130 aba (.node (.node .leaf 132 abb .leaf) 137 abc (.node .leaf 142 abd .leaf))) 157 abe (.node (.node (.node .leaf 170 abf .leaf) 172 abg (.node .leaf 173 abh .leaf)) 174 abi (.node (.node .leaf 193 abj .leaf) 196 abk (.node .leaf 200 abl .leaf)))) 215 abm (.node (.node (.node (.node .leaf 221 abn .leaf) 222 abo (.node .leaf 232 abp .leaf)) 233 abq (.node (.node .leaf 242 abr .leaf) 246 abt (.node .leaf 251 abu .leaf))) 253 abv (.node (.node (.node .leaf 256 abw .leaf) 264 abx (.node .leaf 266 aby .leaf)) 281 abz (.node (.node .leaf 285 abA .leaf) 333 abB (.node .leaf 335 abC .leaf))))))
theorem bF:a6.ok prog:=⟨⟨⟨⟨⟨⟨⟨trivial,eV underlying3 (by kernel_rfl) rfl rfl rfl,trivial⟩,eV underlying4 (by kernel_rfl) rfl rfl rfl,trivial⟩,eV underlying5 (by kernel_rfl) rfl rfl rfl,⟨trivial,eV underlying9 (by kernel_rfl) rfl rfl rfl,trivial⟩⟩,eV underlying23 (by kernel_rfl) rfl rfl rfl,⟨⟨trivial,eV underlying24 (by kernel_rfl) rfl rfl rfl,trivial⟩,eV underlying27 (by kernel_rfl) rfl rfl rfl,⟨trivial,eV underlying29 (by kernel_rfl) rfl rfl rfl,trivial⟩⟩⟩,eV underlying30 (by kernel_rfl) rfl rfl rfl,⟨⟨⟨trivial,eV underlying32 (by kernel_rfl) rfl rfl rfl,trivial⟩,eV underlying33 (by kernel_rfl) rfl rfl rfl,⟨trivial,eV underlying34 (by kernel_rfl) rfl rfl rfl,trivial⟩⟩,eV underlying36 (by kernel_rfl) rfl rfl rfl,⟨⟨trivial,eV underlying38 (by kernel_rfl) rfl rfl rfl,trivial⟩,eV underlying40 (by kernel_rfl) rfl rfl rfl,⟨trivial,eV underlying41 (by kernel_rfl) rfl rfl rfl,trivial⟩⟩⟩⟩,eV underlying48 (by kernel_rfl) rfl rfl rfl,⟨⟨⟨⟨⟨trivial,eV underlying50 (by kernel_rfl) rfl rfl rfl,trivial⟩,eV underlying54 (by kernel_rfl) rfl rfl rfl,trivial⟩,eV underlying55 (by kernel_rfl) rfl rfl rfl,⟨trivial,eV underlying57 (by kernel_rfl) rfl rfl rfl,trivial⟩⟩,eV underlying65 (by kernel_rfl) rfl rfl rfl,⟨⟨trivial,eV underlying67 (by kernel_rfl) rfl rfl rfl,trivial⟩,eV underlying71 (by kernel_rfl) rfl rfl rfl,⟨trivial,eV underlying73 (by kernel_rfl) rfl rfl rfl,trivial⟩⟩⟩,eV underlying75 (by kernel_rfl) rfl rfl rfl,⟨⟨⟨trivial,eV underlying84 (by kernel_rfl) rfl rfl rfl,trivial⟩,eV underlying87 (by kernel_rfl) rfl rfl rfl,⟨trivial,rA underlying89 (by kernel_rfl),trivial⟩⟩,rA underlying98 (by kernel_rfl),⟨⟨trivial,eV underlying102 (by kernel_rfl) rfl rfl rfl,trivial⟩,eV underlying106 (by kernel_rfl) rfl rfl rfl,⟨trivial,eV underlying113 (by kernel_rfl) rfl rfl rfl,trivial⟩⟩⟩⟩⟩,eV underlying116 (by kernel_rfl) rfl rfl rfl,⟨⟨⟨⟨⟨⟨trivial,rA underlying117 (by kernel_rfl),trivial⟩,eV underlying118 (by kernel_rfl) rfl rfl rfl,trivial⟩,eV underlying124 (by kernel_rfl) rfl rfl rfl,⟨trivial,eV underlying129 (by kernel_rfl) rfl rfl rfl,trivial⟩⟩,eV underlying130 (by kernel_rfl) rfl rfl rfl,⟨⟨trivial,eV underlying132 (by kernel_rfl) rfl rfl rfl,trivial⟩,eV underlying137 (by kernel_rfl) rfl rfl rfl,⟨trivial,eV underlying142 (by kernel_rfl) rfl rfl rfl,trivial⟩⟩⟩,eV underlying157 (by kernel_rfl) rfl rfl rfl,⟨⟨⟨trivial,rA underlying170 (by kernel_rfl),trivial⟩,rA underlying172 (by kernel_rfl),⟨trivial,eV underlying173 (by kernel_rfl) rfl rfl rfl,trivial⟩⟩,rA underlying174 (by kernel_rfl),⟨⟨trivial,rA underlying193 (by kernel_rfl),trivial⟩,eV underlying196 (by kernel_rfl) rfl rfl rfl,⟨trivial,eV underlying200 (by kernel_rfl) rfl rfl rfl,trivial⟩⟩⟩⟩,eV underlying215 (by kernel_rfl) rfl rfl rfl,⟨⟨⟨⟨trivial,eV underlying221 (by kernel_rfl) rfl rfl rfl,trivial⟩,eV underlying222 (by kernel_rfl) rfl rfl rfl,⟨trivial,eV underlying232 (by kernel_rfl) rfl rfl rfl,trivial⟩⟩,rA underlying233 (by kernel_rfl),⟨⟨trivial,eV underlying242 (by kernel_rfl) rfl rfl rfl,trivial⟩,eV underlying246 (by kernel_rfl) rfl rfl rfl,⟨trivial,eV underlying251 (by kernel_rfl) rfl rfl rfl,trivial⟩⟩⟩,rA underlying253 (by kernel_rfl),⟨⟨⟨trivial,eV underlying256 (by kernel_rfl) rfl rfl rfl,trivial⟩,eV underlying264 (by kernel_rfl) rfl rfl rfl,⟨trivial,eV underlying266 (by kernel_rfl) rfl rfl rfl,trivial⟩⟩,rA underlying281 (by kernel_rfl),⟨⟨trivial,eV underlying285 (by kernel_rfl) rfl rfl rfl,trivial⟩,eV underlying333 (by kernel_rfl) rfl rfl rfl,⟨trivial,eV underlying335 (by kernel_rfl) rfl rfl rfl,trivial⟩⟩⟩⟩⟩⟩
def om:List dV:=[[],[105,110],[111,117,116],[114,97,99,107],[107,110,105,116],[116,117,99,107],[109,105,115,115],[120,102,101,114],[100,114,111,112]]
def ud:List dV:=[[108,101,102,116],[114,105,103,104,116]]
def k1:cZ:=[-1,1]
def abD:Nat->Option DJ
 |0=>some ⟨.str,om⟩
 |1=>some ⟨.str,ud⟩
 |2=>some ⟨.int .i64,k1⟩
 |3=>some ⟨.int .u64,Lib.pow10Tab⟩
 |_=>none
noncomputable def bL:bu:=⟨prog,a6,abD⟩
section
open Go.ChangeShapes Go.WideShapes Go.ChangeAt Go.WideElems Go.RowKit
section
variable {H:Type} {enc:TypeId×Value->H} {P:Program} {W:World}
def vR(enc:TypeId×Value->H)(P:Program)(W:World)(t:TypeId)(g:a7)(R:g.D->Prop):Prop:=
 ∀k cs x,DataW.trod enc P W 0 (λ_=>true) true k t cs=some x->∃y:g.D,R y/\bR (λb=>b<W.heap.size) W g y cs
theorem abE{t:TypeId}{k:IntKind}(bk:P.underlying t=some (.int k)):vR enc P W t (.int k) (λ(y:Int)=>k.min<=y/\y<=k.max):=λn cs x h=>by
 obtain⟨z,rfl,_,a⟩:=DataW.trod_int bk h;exact⟨z,by simpa [Lit.wf] using a,rfl⟩
theorem JS{g:a7}{R:g.D->Prop}:∀l:List { p:g.D×cl // R p.1/\bR (λb=>b<W.heap.size) W g p.1 p.2 },Flat (bR (λb=>b<W.heap.size) W g) (l.map (·.1.1)) (l.flatMap (·.1.2))
 |[]=>rfl
 |x::l=>⟨x.1.2,l.flatMap (·.1.2),rfl,x.2.2,JS l⟩
theorem QI{b o:Nat}{v:Value}(h:W.cell? ⟨b,o,none⟩=some v):b<W.heap.size:=by
 by_cases ad:b<W.heap.size
 ·exact ad
 ·simp[World.cell?,Array.getElem?_eq_none (by omega:W.heap.size<=b)]at h
theorem abF{g:a7}{R:g.D->Prop}(c:0<g.size){t e:TypeId}{r:Reach}{oM:Nat}{v:Value}{d:DataW H}{aH:List MemPlace}(bk:P.underlying t=some (.slice e))(U:P.cellsOf e=g.size)(m:vR enc P W e g R)(n:Value.okWide P W r oM t v)(ay:DataW.Trod enc P W 0 (λ_=>true) true t v d aH) :
  ∃l:List g.D,(∀x∈l,R x)/\∀env,dU env (λb=>b<W.heap.size) W (.c (.bo g l none)) v:=by
 obtain⟨A,len,cap,l,rfl,ae,I,J,a⟩:=Ze (α:={ p:g.D×cl // R p.1/\bR (λb=>b<W.heap.size) W g p.1 p.2 }) (λx=>x.2.2.length) c bk U (λk cs x h=>by
  obtain⟨y,aG,az⟩:=m k cs x h;exact⟨⟨(y,cs),aG,az⟩,rfl⟩) n ay
 refine⟨l.map (·.1.1),λx ai=>?_,λenv=>?_⟩
 ·obtain⟨p,_,rfl⟩:=List.mem_map.1 ai
  exact p.2.1
 ·refine⟨A,cap,l.flatMap (·.1.2),by rw[length_map,ae],by rw[length_map,ae];exact I,J,(λ_ h=>by cases h),JS l,by rw[length_map,ae];exact a,λb p i e=>?_⟩
  rw[length_map]at i;obtain⟨b',p',f,j⟩:=a.2 (by omega);rw[e]at f;cases f;cases ai:(l.flatMap (·.1.2))[0]? with
  |some u=>exact QI (j 0 u ai)
  |none=>
   exfalso
   have ag:=a.1;rw[List.getElem?_eq_none_iff]at ai;have o:0<len * g.size:=Nat.mul_pos (by omega) c;omega
theorem QJ{base:Nat}{sp:Nat->Bool}{held:Bool}{fuel:Nat}{t e:TypeId}{n:Nat}{cs:cl}{zs:List dV}{p:List MemPlace}(bk:P.underlying t=some (.array n e))(he:P.underlying e=some .string)(c:P.cellsOf e=1)(l:P.cellsOf t=n)(h:DataW.trod enc P W base sp held fuel t cs=some (.agg (zs.map λz=>.lit (.string z)),p)):cs=zs.map gl:=by
 obtain⟨xs,m,_,ai,o,q,a⟩:=DataW.trod_array bk h;have b:xs.map (·.1)=zs.map λz=>(DataW.lit (.string z):DataW H):=by
  have:=congrArg Prod.fst ai
  simpa using this.symm
 have k:zs.length=n:=by
  have:=congrArg List.length b
  simp at this
  omega
 rw[c]at a
 apply ext_getElem?
 intro i
 by_cases hi:i<n
 ·have I:=a i hi
  rw[getElem?_eq_getElem (by omega:i<xs.length)]at I;obtain⟨s,d,j,_⟩:=DataW.trod_string he I;have J:cs[i]?=some (.string s):=by
   have:=congrArg (·[0]?) d
   simpa [List.getElem?_take,List.getElem?_drop] using this
  have ag:(xs.map (·.1))[i]?=some (DataW.lit (.string s.data.toList):DataW H):=by
   rw[getElem?_map,getElem?_eq_getElem (by omega),j]
   rfl
  rw[b]at ag;simp only[getElem?_map,Option.map_eq_some_iff,DataW.lit.injEq,Lit.string.injEq]at ag;obtain⟨r,g,f⟩:=ag;rw[J,getElem?_map,g,Option.map_some,f]
  rfl
 ·rw[getElem?_eq_none (by omega),getElem?_eq_none (by simp;omega)]
theorem JT{B:Nat->Prop}{k:IntKind}:∀l:cZ,Flat (bR B W (.int k)) l (l.map λz=>Value.int k z)
 |[]=>rfl
 |x::l=>⟨[.int k x],_,rfl,rfl,JT l⟩
theorem JU{B:Nat->Prop}:∀l:List dV,Flat (bR B W .str) l (l.map gl)
 |[]=>rfl
 |x::l=>⟨[gl x],_,rfl,rfl,JU l⟩
theorem Er{n:String}{i:Nat}{g:a7}{l:List g.D}{cs:Array Value}(d:P.globalNamed n=some i)(a:W.var? P n=some cs)(az:Flat (bR (λb=>b<W.heap.size) W g) l cs.toList):tE (λb=>b<W.heap.size) W i ⟨g,l⟩:=by
 unfold World.var? at a;rw[d,Option.bind_some]at a
 split at a
 ·rename_i k e h c
  cases a;have f:=(Array.getElem?_eq_some_iff.1 c).1;refine⟨⟨i,0,cs.toList,rfl,f,az,λj u hu=>?_⟩,cs,e,h,c,?_⟩
  ·simp only[zero_add,World.cell?,c]
   simpa using hu
  ·have:=bR.oL az
   simpa using this
 ·cases a
theorem Es{n:String}{g i:Nat}(h:P.globalNamed n=some g)(aa:P.globalNamed n=some i):g=i:=Option.some.inj (h.symm.trans aa)
theorem Et{a:Option TypeId}{t u:TypeId}(h:a=some t)(aa:a=some u):t=u:=Option.some.inj (h.symm.trans aa)
end
theorem AC.law{X:bu}{f:FuncId}{args:dO}{vs:cl}{W:World}(h:AC X f args [] (λsv h=>sv=.c (.val (.bool true))/\h=[]))(e:vF X (λb=>b<W.heap.size) W)(bh:dw (λ_=>.no) (λb=>b<W.heap.size) W args vs):qc X.P f vs.toArray W (λv w'=>v=.bool true/\Below W.heap.size W w'):=by
 refine(h (λb=>b<W.heap.size) W (λ_=>.no) vs [] W e bh rfl (bZ.start W)).mono ?_;rintro v w' ⟨env',B',m,H',sv,j,⟨rfl,rfl⟩,I,J,ag,g,i,a,l⟩;have d:∀k,k<W.heap.size->gB W [] k:=λk aa=>⟨aa,λc U=>by cases U⟩
 exact⟨g,a.below.os.trans ag.os,a.below.tape.trans ag.tape,a.below.output.trans ag.output,le_trans ag.size a.below.size,λk aa=>(a.below.block k (.inl (d k aa))).trans (ag.block k (d k aa))⟩
end
section
def ao{α:Type}(c:Bool)(k:Option α):Option α:=match c with
 |true=>k
 |false=>none
theorem hf{α:Type}{c:Bool}{k:Option α}{r:α}(h:ao c k=some r):c=true/\k=some r:=by
 cases c with
 |true=>exact⟨rfl,h⟩
 |false=>cases h
theorem ek{α β:Type}{x:Option α}{f:α->Option β}{r:β}(h:x.bind f=some r):∃a,x=some a/\f a=some r:=by
 cases x with
 |none=>cases h
 |some a=>exact⟨a,rfl,h⟩
theorem Eu{α:Type}{b:Bool}{x y z:α}(ad:b=true)(h:cond b x y=z):x=z:=by rw[ad]at h;exact h
theorem Ev{α:Type}{b:Bool}{x y z:α}(ad:b=false)(h:cond b x y=z):y=z:=by rw[ad]at h;exact h
abbrev sm{α β c:Type}(x:α⊕β)(f:α->Option c)(g:β->Option c):Option c:=match x with
 |.inl a=>f a
 |.inr b=>g b
def AO:Nat:=1000000000
section
variable {X:bu} {M:Bool} {n:Nat} {r:Option Nat} {c:Code} {st:aO} {Q:Exit->aO->Prop}
def abH(X:bu)(n:Nat){O:Type}(S:O->aO)(P:O->Prop)(Q:Exit->aO->Prop):Exit->aO->Prop
 |.normal,s=>∃o,P o/\ds X n s (S o)
 |e,s=>Q e s
theorem abI{b:Type}(S:b->aO)(P:b->Prop)(I:gQ X M n r c st (abH X n S P Q))(J:∀o,P o->Q .normal (S o)):gQ X M n r c st Q:=λR W aE a w ah=>wpIn_mono (I R W aE a w ah) λe a w ⟨s,d,f⟩=>by
 cases e with
 |normal=>
  obtain⟨o,al,g⟩:=d;exact⟨S o,J o al,g _ _ _ _ _ _ f⟩
 |_=>exact⟨s,d,f⟩
theorem ds.conv{s:Nat}{sv:cd}(b:cd)(c:bm st.L s=some sv)(f:∀env B w v,eK env B w sv v->eK env B w b v):ds X n st ⟨(s,b)::st.L,st.H⟩:=λR W aE M a w ⟨aq,env,B,ak,H,d,h⟩=>
 ⟨aq,env,B,ak,H,d,h.size,h.defs,λq u hu=>by
  rw[cI]at hu
  split at hu
  ·rename_i e
   subst e;cases hu;obtain⟨v,I,J⟩:=h.has _ _ c;exact⟨v,I,f _ _ _ _ J⟩
  ·exact h.has q u hu,h.heap,h.aU,h.sub,h.new,h.dr,h.base,h.eg⟩
theorem ds.QK(s:Nat)(g:a7)(a:bm st.L s=some (.c (.val (.slice none 0 0)))):ds X n st ⟨(s,.c (.bo g [] (some 0)))::st.L,st.H⟩:=ds.conv _ a λenv B w _ h=>QF (env:=env) (B:=B) (w:=w) h
theorem ds.abJ(s:Nat){g:a7}{l:List g.D}{k:Option Nat}(d:bm st.L s=some (.c (.bo g l k))):ds X n st ⟨(s,.c (.bo g l none))::st.L,st.H⟩:=ds.conv _ d λ_ _ _ _ h=>by
 obtain⟨A,c,xs,I,J,ag,_,b,a⟩:=h;exact⟨A,c,xs,I,J,ag,λ_ h=>(by cases h),b,a⟩
end
theorem AC.abK{X:bu}{f:FuncId}{args:dO}{a:bC}{V:cd}(h:AC X f args a (λsv _=>sv=V)):AC X f args a (λsv h=>sv=V/\h=[]):=by
 intro B ak env vs H W c bh g d;refine(h B ak env vs H W c bh g d).mono ?_;rintro v w' ⟨env',B',j,H',s,m,k,I,J,ag,e,l,b,i⟩;exact⟨env',B',j,[],s,[],⟨k,rfl⟩,I,J,ag,e,rfl,b.e2 (List.nil_sublist _),i⟩
theorem fw:(∀b,(b&&true)=b)/\(∀b,(true&&b)=b)/\(∀b,(b || true)=true)/\(∀b,(true || b)=true)/\(!true)=false/\(!false)=true/\(∀b,(b || false)=b)/\(∀b,(false || b)=b)/\(∀b,(b&&b)=b)/\(∀b:Bool,(!b || b)=true)/\(∀b,(b || b)=b):=by decide
theorem anw:(∀b,(b&&true)=b)/\(∀b,(true&&b)=b)/\(∀b,(b||true)=true)/\(∀b,(true||b)=true)/\(!true)=false/\(!false)=true/\(∀b,(b||false)=b)/\(∀b,(false||b)=b)/\(∀b,(b&&b)=b)/\(∀b:Bool,(!b||b)=true)/\(∀b,(b||b)=b)/\(∀ [h:Decidable True],@decide True h=true)/\(∀ {α:Type}(a b:α),cond true a b=a)/\(∀ {α:Type}(a b:α),cond false a b=b):=⟨fw.1,fw.2.1,fw.2.2.1,fw.2.2.2.1,fw.2.2.2.2.1,fw.2.2.2.2.2.1,fw.2.2.2.2.2.2.1,fw.2.2.2.2.2.2.2.1,fw.2.2.2.2.2.2.2.2.1,fw.2.2.2.2.2.2.2.2.2.1,fw.2.2.2.2.2.2.2.2.2.2,λ{_}=>decide_true _,λ_ _=>rfl,λ_ _=>rfl⟩
theorem cO.data{env:Nat->Loc}{B:Nat->Prop}{w:World}{g:a7}{cs b:dI}{x:g.D}{c:Bool}{vs:cl}(I:cO env B w cs vs)(ay:dec g cs=some (c,x,[]))(U:c=true)(e:oQ g x 0 g.size=some b):cO env B w b vs:=by
 obtain⟨i,k,a,az,J⟩:=rj I ay U;have f:=J;subst f;rw[append_nil]at a;subst a;obtain⟨us,⟨ae,al⟩,ag⟩:=bR.cells az e;have h:=bR.length az;have d:us=vs:=by
  apply ext_getElem?
  intro j;cases aL:us[j]? with
  |some u=>
   have:=al j u aL
   rw[zero_add]at this;exact this.symm
  |none=>
   rw[List.getElem?_eq_none_iff]at aL;exact(List.getElem?_eq_none_iff.2 (by omega)).symm
 subst d;exact ag
end
section
open Go.ChangeShapes Go.WideShapes Go.ChangeAt Go.WideElems Go.RowKit
theorem Tryz.own:ownKnob prog.godebug=none:=by kernel_rfl
theorem Tryz.laidOut:laidOutB prog=true:=by kernel_rfl
theorem abL{k:IntKind}{n:Int}(h:(Lit.int k n).wf=true):k.min<=n/\n<=k.max:=by simpa [Lit.wf] using h
end
section
def a7.beq:(g:a7)->g.D->g.D->Bool
 |.int _=>λ(x:Int) (y:Int)=>x==y
 |.bool=>λ(x:Bool) (y:Bool)=>x==y
 |.str=>λ(x:dV) (y:dV)=>x==y
 |.pair g h=>λx y=>g.beq x.1 y.1&&h.beq x.2 y.2
 |_=>λ_ _=>false
def dk(br bj:a7):List (br.D×bj.D)->br.D->Option bj.D
 |[],_=>none
 |x::l,k=>match br.beq x.1 k with
  |true=>some x.2
  |false=>dk br bj l k
def e6(br bj:a7):List (br.D×bj.D)->br.D->bj.D->List (br.D×bj.D)
 |[],k,v=>[(k,v)]
 |x::l,k,v=>match br.beq x.1 k with
  |true=>(x.1,v)::l
  |false=>x::e6 br bj l k v
def rC:(g:a7)->g.D->Option bq
 |.pair a b,x=>(oQ (.pair a b) x 0 (a.size+b.size)).map .agg
 |g,x=>(l9 g x 0).map .c
section
variable {B:Nat->Prop} {w:World} {k:IntKind} {bj:a7}
theorem gP.JV{z:Int}:∀ {l:List (Int×bj.D)} {b:List MapEntry} (i:Nat),gP B w (.int k) bj l b ->
  (dk (.int k) bj l z=none/\Instr.findNow (.int k) (.int k z) b i=some none)\/∃x j v,dk (.int k) bj l z=some x/\Instr.findNow (.int k) (.int k z) b i=some (some (i+j,v))/\eL B w bj x v/\j<b.length
 |[],_,i,h=>by rw[show _=[] from h];exact .inl ⟨rfl,rfl⟩
 |x::l,_,i,⟨e,r,he,I,J,ag⟩=>by
  subst he;have aa:e.key=.int k x.1:=by
   have:=(show bR B w (.int k) x.1 [e.key] from I)
   have a:=this;exact(List.cons.inj a).1
  unfold Instr.findNow dk;rw[aa];simp only[Instr.sameNow,if_true]
  by_cases bO:x.1=z
  ·have c:(a7.int k).beq x.1 z=true:=by simp[a7.beq,bO]
   have d:(z==x.1)=true:=by simp[bO]
   rw[c,d];exact .inr ⟨x.2,0,e.val,rfl,rfl,J,by simp⟩
  ·have c:(a7.int k).beq x.1 z=false:=by simp[a7.beq,bO]
   have d:(z==x.1)=false:=by simp[Ne.symm bO]
   rw[c,d]
   rcases gP.JV (i+1) ag with⟨a,aD⟩|⟨y,j,v,a,aD,a1,ca⟩
   ·exact .inl ⟨a,aD⟩
   ·exact .inr ⟨y,j+1,v,a,by rw[aD,add_assoc,Nat.add_comm 1 j],a1,by simpa using ca⟩
theorem AQ{a:List MapEntry}{f:MapEntry->MapEntry}(az:∀e,(f e).born=e.born):∀(j:Nat),(a.modify j f).map (·.born)=a.map (·.born):=by
 induction a with
 |nil=>intro j;cases j<;>rfl
 |cons e a b=>
  intro j;cases j with
  |zero=>simp[az]
  |succ j=>simp only[List.modify_succ_cons,map_cons,b j]
theorem gP.setInt{z:Int}{gx:bj.D}{vv:Value}(f:eL B w bj gx vv):∀ {l:List (Int×bj.D)} {b:List MapEntry} (i:Nat),gP B w (.int k) bj l b ->
  (Instr.findNow (.int k) (.int k z) b i=some none/\e6 (.int k) bj l z gx=l++[(z,gx)]) \/
  ∃j v e,Instr.findNow (.int k) (.int k z) b i=some (some (i+j,v))/\b[j]?=some e/\e.key=.int k z/\gP B w (.int k) bj (e6 (.int k) bj l z gx) (b.modify j λe=>{ e with key:=.int k z,val:=vv })
 |[],_,i,h=>by rw[show _=[] from h];exact .inl ⟨rfl,rfl⟩
 |x::l,_,i,⟨e,r,he,I,J,ag⟩=>by
  subst he;have aa:e.key=.int k x.1:=by
   have a:=I;exact(List.cons.inj a).1
  unfold Instr.findNow e6;rw[aa];simp only[Instr.sameNow,if_true]
  by_cases bO:x.1=z
  ·have c:(a7.int k).beq x.1 z=true:=by simp[a7.beq,bO]
   have d:(z==x.1)=true:=by simp[bO]
   rw[c,d];refine .inr ⟨0,e.val,e,rfl,rfl,by rw[aa,bO],{ e with key:=.int k z,val:=vv },r,rfl,?_,f,ag⟩;show [Value.int k z]=[Value.int k x.1]
   rw[bO]
  ·have c:(a7.int k).beq x.1 z=false:=by simp[a7.beq,bO]
   have d:(z==x.1)=false:=by simp[Ne.symm bO]
   rw[c,d]
   rcases gP.setInt f (i+1) ag with⟨a,aD⟩|⟨j,v,ck,a,aD,a1,ca⟩
   ·exact .inl ⟨a,by show x::e6 (.int k) bj l z gx=_;rw[aD];rfl⟩
   ·exact .inr ⟨j+1,v,ck,by rw[a,add_assoc,Nat.add_comm 1 j],by simpa using aD,a1,e,_,rfl,I,J,ca⟩
theorem gP.snoc{br bj:a7}{x:br.D×bj.D}{e:MapEntry}(I:eL B w br x.1 e.key)(J:eL B w bj x.2 e.val):∀ {l:List (br.D×bj.D)} {a:List MapEntry},gP B w br bj l a->gP B w br bj (l++[x]) (a++[e])
 |[],_,h=>by rw[show _=[] from h];exact⟨e,[],rfl,I,J,rfl⟩
 |_::_,_,⟨d,r,he,ag,c,b⟩=>by subst he;exact⟨d,_,rfl,ag,c,gP.snoc I J b⟩
def mu:a7->bq->Bool
 |.pair _ _,.agg _=>true
 |.pair _ _,.c _=>false
 |_,.c _=>true
 |_,.agg _=>false
 |_,.arr _ _=>false
theorem eL.vS{env:Nat->Loc}{g:a7}{bN:bq}{c:Bool}{x:g.D}{v:Value}(ay:dec g bN.cells=some (c,x,[]))(U:c=true)(d:mu g bN=true)(h:dU env B w bN v):eL B w g x v:=by
 cases bN with
 |c k=>
  obtain⟨m,i,e,I,J⟩:=rj (cs:=[k]) ⟨v,[],rfl,h,rfl⟩ ay U;have f:i=[]:=J;rw[f,append_nil]at e;rw[<- e]at I;cases g with
  |pair a b=>cases d
  |_=>exact I
 |arr g2 l=>
  cases g with
  |pair a b=>cases d
  |_=>cases d
 |agg cs=>
  obtain⟨vs,e,ag⟩:=h;obtain⟨m,i,j,I,J⟩:=rj ag ay U;have f:i=[]:=J;rw[f,append_nil]at j;cases g with
  |pair a b=>exact⟨vs,e,by rw[j];exact I⟩
  |_=>cases d
theorem eL.bN{env:Nat->Loc}{g:a7}{x:g.D}{v:Value}{bN:bq}(h:eL B w g x v)(d:rC g x=some bN):dU env B w bN v:=by
 have one:∀ {g:a7} {x:g.D} {v:Value} {bN:bq},bR B w g x [v]->(l9 g x 0).map bq.c=some bN->dU env B w bN v:=by
  intro g x v bN h d;obtain⟨c,U,rfl⟩:=Option.map_eq_some_iff.1 d;obtain⟨u,I,J⟩:=bR.cell h U;simp only[List.getElem?_cons_zero,Option.some.injEq]at I;rw[I];exact J
 cases g with
 |pair a b=>
  obtain⟨vs,e,I⟩:=h;obtain⟨l,ae,rfl⟩:=Option.map_eq_some_iff.1 (show(oQ (.pair a b) x 0 (a.size+b.size)).map bq.agg=some bN from d);obtain⟨us,⟨J,ag⟩,f⟩:=bR.cells I ae;have j:vs.length=a.size+b.size:=bR.length I
  have:us=vs:=by
   apply ext_getElem?
   intro i
   by_cases hi:i<us.length
   ·rw[getElem?_eq_getElem hi]
    have:=ag i us[i] (getElem?_eq_getElem hi)
    rw[zero_add]at this;exact this.symm
   ·rw[getElem?_eq_none (by omega),getElem?_eq_none (by omega)]
  subst this;exact⟨us,e,f⟩
 |_=>exact one h d
end
section
variable {X:bu} {M:Bool} {n:Nat} {r:Option Nat} {st:aO} {Q:Exit->aO->Prop} {ops rest:List Oper} {o:Oper} {d:Nat}
end
end
section
section
variable {X:bu} {M:Bool} {n:Nat} {r:Option Nat} {st:aO} {Q:Exit->aO->Prop} {ops rest:List Oper} {o:Oper} {d:Nat}
end
end
section
section
variable {α β:Type}
end
end
section
section
variable {X:bu} {M:Bool} {n:Nat} {r:Option Nat} {st:aO} {Q:Exit->aO->Prop} {ops rest:List Oper} {o:Oper} {d:Nat}
end
end
section
def Ew(g:a7):Nat->dI->Option (Bool×List g.D×dI)
 |0,r=>some (true,[],r)
 |m+1,r=>match dec g r with
  |some (fu,x,a)=>match Ew g m a with
   |some (cG,l,b)=>some (fu&&cG,x::l,b)
   |none=>none
  |none=>none
section
variable {env:Nat->Loc} {B:Nat->Prop} {w:World}
theorem QL{g:a7}:∀ {m:Nat} {cs:dI} {c:Bool} {l:List g.D} {r:dI} {vs:cl},cO env B w cs vs->Ew g m cs=some (c,l,r)->c=true->l.length=m/\∃a b,vs=a++b/\Flat (bR B w g) l a/\cO env B w r b
 |0,cs,c,l,r,vs,h,ay,_=>by
  cases ay;exact⟨rfl,[],vs,rfl,rfl,h⟩
 |m+1,cs,c,l,r,vs,h,ay,U=>by
  simp only[Ew]at ay
  split at ay
  ·rename_i fu x k I
   split at ay
   ·rename_i cG n o J
    cases ay;simp only[and_eq_true]at U;obtain⟨a,b,rfl,ag,i⟩:=rj h I U.1;obtain⟨ae,d,j,rfl,f,e⟩:=QL i J U.2;exact⟨by rw[List.length_cons,ae],a++d,j,by rw[append_assoc],⟨a,d,rfl,ag,f⟩,e⟩
   ·cases ay
  ·cases ay
end
section
variable {X:bu} {R:Nat->Prop} {W:World} {aE:fj} {n:Nat} {aq:b6} {env:Nat->Loc} {B:Nat->Prop} {ak:World} {H:c2} {st st':aO} {a:Act} {w:World}
end
def sH:Option Nat->Nat->Option Nat
 |some c,k=>cond (ble k c) (some c) none
 |none,_=>none
section
variable {X:bu} {M:Bool} {n:Nat} {r:Option Nat} {st:aO} {Q:Exit->aO->Prop} {ops rest:List Oper} {o:Oper} {d:Nat}
theorem JW(k:Nat)(e:X.a6.ok X.P){c':Bool}{st':aO}{l:List Oper}(h:mV X n (eU ops) (l.take k) true st=.done c' st')(U:c'=true)(b:kC X M n r ops (l.drop k) st' Q):kC X M n r ops l st Q:=by
 have:∀(k:Nat) (l:List Oper) (c:Bool) (st:aO),mV X n (eU ops) (l.take k) c st=.done c' st'->kC X M n r ops (l.drop k) st' Q->kC X M n r ops l st Q:=by
  intro k
  induction k with
  |zero=>intro l c st h b;simp only[List.take_zero,mV]at h;cases h;exact b
  |succ k f=>
   intro l c st h b;cases l with
   |nil=>simp only[List.take_nil,mV]at h;cases h;exact b
   |cons o l=>
    simp only[List.take_succ_cons,mV]at h
    split at h
    ·rename_i cG j d
     have J:=Jl h U;simp only[and_eq_true]at J;rintro R W aE a w ⟨aq,env,B,ak,H,i,ah⟩;exact sn (vD e d J.2 ah λaX w' env' H' _ g=>f l _ _ h b _ _ _ _ _ ⟨aq,env',B,ak,H',i,g⟩)
    ·cases h
 exact this k l true st h b
theorem JX(p:X.a6.ok X.P){t e:TypeId}{x y:Operand}{F g2:Bool}{ej:bq}{id j L:Nat}{u g:a7}{l f:List g.D}{cap:Option Nat}{bE:cr}{aK:TypeDesc}{v:Value}(S:o.op=.call ⟨.builtin .append,⟨[x,y]⟩,⟨[t,t]⟩⟩)(aa:o.guard=none/\o.dst=some d)(ay:(blt d n&&blt id hZ)=true)(bk:X.a6.find t=some bE)(dq:bE.ti.desc=.slice e)(he:X.a6.find e=some ⟨⟨aK,j,L,v⟩,some u⟩)(ai:bz X st.L x=some (F,.c (.ax id)))(Y:F=true)(aG:bz X st.L y=some (g2,ej))(ah:g2=true)(ae:bm st.H id=some (.row e g l cap))(af:beq g.size j=true)(aw:mT st g ej=some f)(U:dx L (l.length+f.length)=true)(aj:kC X M n r ops rest ⟨(d,.c (.ax id))::gu id .dead st.L,(id,.row e g (l++f) (sH cap (l.length+f.length)))::ew id .dead st.H⟩ Q):kC X M n r ops (o::rest) st Q:=by
 rintro R W aE a w ⟨aq,env,B,ak,H,ac,h⟩;obtain⟨vx,ap,au⟩:=h.aI ai Y;obtain⟨vy,an,av⟩:=h.aI aG ah;obtain⟨s,D,ar⟩:=(cm.get p he).g u rfl;obtain⟨T,Z,I,C⟩:=nD (cm.get p bk).ti (cm.get p he).ti;dsimp only at s D C;have ax:v.cells.size=j:=by
  have:v.cells.toList.length=j:=by rw[D,<- s];exact bR.length (bR.e3 (B:=B) (w:=ak) u)
  simpa using this
 simp only[and_eq_true]at ay;obtain⟨ay,aA⟩:=ay;have J:=eq_of_beq_eq_true af;simp only[dx,and_eq_true,decide_eq_true_eq]at U;obtain⟨aC,cG,ao,rfl,O,G⟩:=sy h aw av;obtain⟨A,c,m,N,rfl⟩:=au;obtain⟨eA,K,⟨k,k',xs,P,rfl,ab,am⟩,E,az⟩:=h.DV (b':=.row e g (l++f) (sH cap (l.length+f.length))) ae (λq al=>by
  obtain⟨_,z,a1⟩:=h.dr _ _ al;rw[N]at z
  rcases a1 with⟨b,a1⟩|a1
  ·rw[<- z]at a1;cases a1
  ·have:=ef aA;omega)
 rw[N]at P;cases P;rw[J]at E G;refine sn (Pb h.sym S aa ay Z I dq C (by rw[<- s];exact Nat.ble_eq_true_of_le ar) ax ap an E G (Flat.jo (λ_ _=>bR.jo) O) U.1 U.2 λk c' aX w' aB bP=>?_);obtain⟨H',aD,ag⟩:=az (.row k c' (l.length+f.length)) _ aX w' (.c (.ax id)) _ ⟨k,c',xs++ao,by rw[fK,length_append],by rw[length_append],ab.append O,λq i=>by
  cases cap with
  |none=>cases i
  |some cc=>
   have V:=am cc rfl;subst V;cases ad:ble (l.length+f.length) c with
   |true=>
    simp only[sH,ad,cond_true,Option.some.injEq]at i;subst i;exact aB (le_of_ble_eq_true ad)
   |false=>simp only[sH,ad,cond_false]at i;cases i⟩ ⟨k,c',_,fK,rfl⟩ (by rw[J];exact bP.aU) bP.st
 exact aj R W aE aX w' ⟨aq,_,B,ak,H',ac,ag⟩
end
end
section
def a7.key:a7->Bool
 |.int _=>true
 |.bool=>true
 |.str=>true
 |.pair g h=>g.key&&h.key
 |_=>false
def a7.cQ:(g:a7)->g.D->cl
 |.int k,x=>[.int k x]
 |.bool,x=>[.bool x]
 |.str,x=>[gl x]
 |.pair g h,x=>g.cQ x.1++h.cQ x.2
 |_,_=>[]
theorem bR.cQ{B:Nat->Prop}{w:World}:∀ {g:a7} {x:g.D} {vs:cl},g.key=true->bR B w g x vs->vs=g.cQ x
 |.int _,_,_,_,h=>h
 |.bool,_,_,_,h=>h
 |.str,_,_,_,h=>h
 |.ax _,_,_,h,_=>by cases h
 |.hX _,_,_,h,_=>by cases h
 |.unit,_,_,h,_=>by cases h
 |.fn,_,_,h,_=>by cases h
 |.pair g h,x,_,aa,⟨a,b,e,I,J⟩=>by
  simp only[a7.key,and_eq_true]at aa;rw[e,bR.cQ aa.1 I,bR.cQ aa.2 J]
  rfl
theorem beq_iff{g:a7}(x y:g.D)(aa:g.key=true):g.beq x y=true↔x=y:=by
 induction g with
 |int k=>show((x:Int)==y)=true↔_;simp
 |bool=>show((x:Bool)==y)=true↔_;simp
 |str=>show((x:dV)==y)=true↔_;simp
 |ax g _=>cases aa
 |hX g _=>cases aa
 |unit=>cases aa
 |fn=>cases aa
 |pair g h c d=>
  simp only[a7.key,and_eq_true]at aa;show(g.beq x.1 y.1&&h.beq x.2 y.2)=true↔_;rw[and_eq_true,c _ _ aa.1,d _ _ aa.2];exact⟨λ⟨a,b⟩=>Prod.ext a b,λe=>by rw[e];exact⟨rfl,rfl⟩⟩
structure ue(P:Program)(t:TypeId)(g:a7):Prop where
 key:g.key=true
 eq:∀(x y:g.D) (w:World),(Op.equalIn 10000 t (.agg (g.cQ x).toArray) (.agg (g.cQ y).toArray)).run P w=.ok (g.beq x y) w
 guard:P.eqGuardType P.depth t=false
def a7.yn:a7->Nat->Bool
 |.int _,0=>true
 |.bool,1=>true
 |.str,2=>true
 |_,_=>false
def kF(e:TypeId->a7->Bool):Nat->List Field->a7->Bool
 |_,[],_=>false
 | off, [f], g => decide (f.name ≠ "_") && (beq f.offset off && e f.type g)
 | off, f :: dn, .pair g h => decide (f.name ≠ "_") && (beq f.offset off && (e f.type g && kF e (off + g.size) dn h))
 |_,_,_=>false
def lS(P:Program)(a6:cm):Nat->TypeId->a7->Bool
 |0,_,_=>false
 |d+1,t,g=>match a6.find t with
  |none=>false
  |some bE=>match bE.ti.desc with
   |.int _=>g.yn 0
   |.bool=>g.yn 1
   |.string=>g.yn 2
   |.struct dn=>beq bE.ti.size g.size&&(!P.stoodInHeld t&&kF (lS P a6 d) 0 dn.toList g)
   |_=>false
def qv(a6:cm)(t:TypeId)(vs:cl):Value:=match a6.find t with
 |some bE=>match l7 bE.ti.desc with
  |true=>.agg vs.toArray
  |false=>vs.headD undef
 |none=>undef
theorem yo:∀ {g:a7} (x:g.D),g.key=true->(g.cQ x).length=g.size
 |.int _,_,_=>rfl
 |.bool,_,_=>rfl
 |.str,_,_=>rfl
 |.ax _,_,h=>by cases h
 |.hX _,_,h=>by cases h
 |.unit,_,h=>by cases h
 |.fn,_,h=>by cases h
 |.pair g h,x,aa=>by
  simp only[a7.key,and_eq_true]at aa;show(g.cQ x.1++h.cQ x.2).length=g.size+h.size;rw[length_append,yo x.1 aa.1,yo x.2 aa.2]
theorem yp{P:Program}{a6:cm}(f:a6.ok P){d:Nat}{t:TypeId}{g:a7}{x:g.D}{xs:Array Value}{off:Nat}{r:cl}(aa:g.key=true)(he:lS P a6 d t g=true)(ai:xs.toList.drop off=g.cQ x++r)(w:World):(part t xs off).run P w=.ok (qv a6 t (g.cQ x)) w:=by
 cases d with
 |zero=>cases he
 |succ d=>
  unfold lS at he;cases az:a6.find t with
  |none=>simp[az]at he
  |some bE=>
   rw[az]at he;dsimp only at he;have eP:=(cm.get f az).ti;have I:∀v,g.cQ x=[v]->xs[off]?=some v:=λv a=>by
    have J:(xs.toList.drop off)[0]?=some v:=by rw[ai,a];rfl
    simpa using J
   unfold part;simp only[Sem.run_bind,bI.zZ eP,Result.andThen_ok];unfold qv;rw[az];dsimp only;have b:∀q,g.yn q=true->∃v,g.cQ x=[v]:=λq e=>by
    cases g with
    |int k=>exact⟨_,rfl⟩
    |bool=>exact⟨_,rfl⟩
    |str=>exact⟨_,rfl⟩
    |ax _=>cases aa
    |hX _=>cases aa
    |unit=>cases aa
    |fn=>cases aa
    |pair _ _=>cases q<;>cases e
   split at he
   ·rename_i ay
    obtain⟨v,a⟩:=b _ he;rw[ay,I v a,a]
    rfl
   ·rename_i ay
    obtain⟨v,a⟩:=b _ he;rw[ay,I v a,a]
    rfl
   ·rename_i ay
    obtain⟨v,a⟩:=b _ he;rw[ay,I v a,a]
    rfl
   ·rename_i dn ay
    simp only[and_eq_true]at he;rw[ay];have c:=eq_of_beq_eq_true he.1;simp only[l7,if_true,Sem.run_bind,bI.run_sizeOf eP,Result.andThen_ok,Sem.run_pure,c];have ag:xs.extract off (off+g.size)=(g.cQ x).toArray:=by
     apply Array.toList_inj.1
     rw[Array.toList_extract,List.extract_eq_take_drop,ai,Nat.add_sub_cancel_left,List.take_left' (yo x aa)]
    rw[ag]
   ·cases he
theorem abM{P:Program}{a6:cm}(av:a6.ok P){k d:Nat}(bD:∀t (g:a7) (x y:g.D) w,g.key=true->lS P a6 k t g=true->(Op.equalIn d t (qv a6 t (g.cQ x)) (qv a6 t (g.cQ y))).run P w=.ok (g.beq x y) w) :
  ∀(dn:List Field) (off:Nat) (g:a7) (x y:g.D) (xs ys:Array Value) (w:World),g.key=true->kF (lS P a6 k) off dn g=true->xs.toList.drop off=g.cQ x->ys.toList.drop off=g.cQ y->(Op.eqFields d xs ys dn).run P w=.ok (g.beq x y) w:=by
 intro dn
 induction dn with
 |nil=>intro off g x y xs ys w _ h;simp[kF]at h
 |cons f dn AR=>
  intro off g x y xs ys w aa h ai aG;cases dn with
  |nil=>
   have aP : (decide (f.name ≠ "_") && (beq f.offset off && lS P a6 k f.type g)) = true := by
    cases g<;>exact h
   simp only[and_eq_true,decide_eq_true_eq]at aP;obtain⟨bc,bn,he⟩:=aP;have bn:=eq_of_beq_eq_true bn;simp only[Op.eqFields,if_pos bc,Sem.run_bind,bn,yp av aa he (by rw[ai,append_nil]),yp av aa he (by rw[aG,append_nil]),Result.andThen_ok,bD _ _ _ _ _ aa he];cases g.beq x y<;>simp
  |cons f2 dn=>
   cases g with
   |pair g J=>
    have aP : (decide (f.name ≠ "_") && (beq f.offset off && (lS P a6 k f.type g && kF (lS P a6 k) (off + g.size) (f2 :: dn) J))) = true := h
    simp only[and_eq_true,decide_eq_true_eq]at aP;obtain⟨bc,bn,he,aw⟩:=aP;have bn:=eq_of_beq_eq_true bn;simp only[a7.key,and_eq_true]at aa;have km:xs.toList.drop off=g.cQ x.1++J.cQ x.2:=ai;have jT:ys.toList.drop off=g.cQ y.1++J.cQ y.2:=aG;have qw:=AR (off+g.size) J x.2 y.2 xs ys w aa.2 aw (by rw[<- drop_drop,km,<- yo x.1 aa.1,List.drop_left]) (by rw[<- drop_drop,jT,<- yo y.1 aa.1,List.drop_left]);show _=Result.ok (g.beq x.1 y.1&&J.beq x.2 y.2) w;rw[Op.eqFields,if_pos bc];simp only[Sem.run_bind,bn,yp av aa.1 he km,yp av aa.1 he jT,Result.andThen_ok,bD _ _ _ _ _ aa.1 he];cases ad:g.beq x.1 y.1 with
    |true=>simpa using qw
    |false=>simp
   |int _=>simp[kF]at h
   |bool=>simp[kF]at h
   |str=>simp[kF]at h
   |ax _=>simp[kF]at h
   |hX _=>simp[kF]at h
   |unit=>simp[kF]at h
   |fn=>simp[kF]at h
theorem abN{P:Program}{a6:cm}(b:a6.ok P)(m:Nat):∀(k:Nat) (t:TypeId) (g:a7) (x y:g.D) (w:World),g.key=true->lS P a6 k t g=true->(Op.equalIn (m+k) t (qv a6 t (g.cQ x)) (qv a6 t (g.cQ y))).run P w=.ok (g.beq x y) w:=by
 intro k
 induction k with
 |zero=>intro t g x y w _ h;cases h
 |succ k d=>
  intro t g x y w aa h;unfold lS at h;cases az:a6.find t with
  |none=>simp[az]at h
  |some bE=>
   rw[az]at h;dsimp only at h;have eP:=(cm.get b az).ti;have a:=eP.1;unfold qv;rw[az];dsimp only
   split at h
   ·rename_i e ay
    rw[ay]at a ⊢;cases g with
    |int k=>exact run_equalIn_int w _ t _ _ _ _ a
    |_=>cases h
   ·rename_i ay
    rw[ay]at a ⊢;cases g with
    |bool=>exact run_equalIn_bool w _ t _ _ a
    |_=>cases h
   ·rename_i ay
    rw[ay]at a ⊢;cases g with
    |str=>
     have:=run_equalIn_string w (m+k) t ⟨toArray x⟩ ⟨toArray y⟩ a
     simp only[Ab]at this;exact this
    |_=>cases h
   ·rename_i dn ay
    rw[ay]at a ⊢;simp only[and_eq_true,not_eq_true']at h;have c:P.underlying t=some (.struct dn.toList.toArray):=by simpa using a
    show(Op.equalIn (m+k+1) t (.agg _) (.agg _)).run P w=_;rw[YS w (m+k) t _ _ c h.2.1];exact abM b d dn.toList 0 g x y _ _ w aa h.2.2 (by simp) (by simp)
   ·cases h
theorem ue.of{P:Program}{a6:cm}(b:a6.ok P){t:TypeId}{bE:cr}{g:a7}{dn:Array Field}(aa:g.key=true)(az:a6.find t=some bE)(ay:bE.ti.desc=.struct dn)(h:lS P a6 12 t g=true)(a:P.eqGuardType P.depth t=false):ue P t g:=by
 refine⟨aa,λx y w=>?_,a⟩
 have:=abN b 9988 12 t g x y w aa h
 unfold qv at this;rw[az]at this;dsimp only at this;rw[ay]at this;exact this
section
variable {X:bu} {M:Bool} {n:Nat} {r:Option Nat} {st:aO} {Q:Exit->aO->Prop} {ops rest:List Oper} {o:Oper} {d:Nat}
theorem cO.cQ{env:Nat->Loc}{B:Nat->Prop}{w:World}{g:a7}{cs:dI}{x:g.D}{c:Bool}{v:Value}(aa:g.key=true)(I:dU env B w (.agg cs) v)(ay:dec g cs=some (c,x,[]))(U:c=true):v=.agg (g.cQ x).toArray:=by
 obtain⟨vs,rfl,I⟩:=I;obtain⟨d,e,a,az,J⟩:=rj I ay U;have b:=J;subst b;rw[append_nil]at a;subst a;rw[bR.cQ aa az]
end
end
section
open Go.ChangeShapes Go.WideShapes Go.ChangeAt Go.WideElems Go.RowKit
def qx:(g:a7)->g.D->Prop
 |.int k,(x:Int)=>k.min<=x/\x<=k.max
 |.ax g,(l:List g.D)=>∀y∈l,qx g y
 |.pair g h,x=>qx g x.1/\qx h x.2
 |_,_=>True
def vT(a6:cm)(t:TypeId)(n:Nat):Bool:=match a6.find t with
 |some bE=>beq bE.ti.size n
 |none=>false
def pO(a6:cm)(e:TypeId->a7->Bool):Nat->List Field->a7->Bool
 |_,[],_=>false
 |off,[f],g=>beq f.offset off&&(vT a6 f.type g.size&&e f.type g)
 |off,f::dn,.pair g h=>beq f.offset off&&(vT a6 f.type g.size&&(e f.type g&&pO a6 e (off+g.size) dn h))
 |_,_,_=>false
def pP(a6:cm)(e:TypeId->a7->Bool)(t:TypeId)(s:Nat):Nat->a7->Bool
 |0,_=>false
 |1,g=>beq g.size s&&e t g
 |n+1,.pair g h=>beq g.size s&&(e t g&&pP a6 e t s n h)
 |_,_=>false
def a7.abP:a7->IntKind->Bool
 |.int k,k'=>decide (k=k')
 |_,_=>false
def yq(a6:cm):Nat->TypeId->a7->Bool
 |0,_,_=>false
 |d+1,t,g=>match a6.find t with
  |none=>false
  |some bE=>match bE.ti.desc with
   |.int k=>g.abP k
   |.bool=>g.yn 1
   |.string=>g.yn 2
   |.slice e=>match g with
    |.ax h=>blt 0 h.size&&(vT a6 e h.size&&yq a6 d e h)
    |_=>false
   |.struct dn=>beq bE.ti.size g.size&&pO a6 (yq a6 d) 0 dn.toList g
   |.array n e=>beq bE.ti.size g.size&&(match a6.find e with
    |some dS=>pP a6 (yq a6 d) e dS.ti.size n g
    |none=>false)
   |_=>false
section
variable {H:Type} {enc:TypeId×Value->H} {P:Program} {W:World} {a6:cm}
theorem JY(a:a6.ok P){t:TypeId}{bE:cr}(h:a6.find t=some bE):P.cellsOf t=bE.ti.size:=by
 obtain⟨x,I,J,_⟩:=bI.info (cm.get a h).ti;unfold Program.cellsOf;rw[I];exact J
theorem JZ(a:a6.ok P){t:TypeId}{n:Nat}(h:vT a6 t n=true):P.cellsOf t=n:=by
 unfold vT at h
 split at h
 ·rename_i bE az
  rw[JY a az];exact eq_of_beq_eq_true h
 ·cases h
theorem abQ{g:a7}{R:g.D->Prop}(d:0<g.size){t e:TypeId}(bk:P.underlying t=some (.slice e))(U:P.cellsOf e=g.size)(H:vR enc P W e g R):vR enc P W t (.ax g) (λ(l:List g.D)=>∀y∈l,R y):=λk cs x az=>by
 let α:={ p:g.D×cl // R p.1/\bR (λb=>b<W.heap.size) W g p.1 p.2 }
 let f:α->cl:=λp=>p.1.2
 have c:∀x:α,(f x).length=g.size:=λx=>x.2.2.length
 rcases DataW.trod_slice bk az with⟨h,_⟩|⟨a,len,cap,elems,rest,n,_,h,_,_,ae,r,hlen,oN,_,_⟩
 ·subst h
  exact⟨([]:List g.D),(λy aG=>by cases aG),none,0,[],rfl,le_refl _,Nat.zero_le _,rfl,Reads.nil _ _ _,λ_ _ h=>absurd h (Nat.lt_irrefl _)⟩
 ·subst h
  rw[U]at oN;obtain⟨l,m,z⟩:=IN (Q:=λi (y:α)=>∀j,j<g.size->W.cell? ((a.add (i * g.size)).add j)=(f y)[j]?) len (λi hi=>by
   have I:=oN i hi;have J:elems[i]?=some (elems[i]'(by omega)):=getElem?_eq_getElem (by omega);rw[J,Option.bind_eq_some_iff]at I;obtain⟨cs,ag,A⟩:=I;obtain⟨y,K,F⟩:=H _ _ _ A;exact⟨⟨(y,cs),K,F⟩,(World.cells?_some ag).2.2⟩)
  have q:Reads W (some a) len g.size (l.flatMap f):=by
   refine⟨by rw[oL f g.size c,m],λM=>?_⟩;have bO:=z 0 (by omega) 0 d;have L:W.cell? a=some ((f l[0])[0]'(by rw[c];exact d)):=by
    have E:(a.add (0 * g.size)).add 0=a:=by simp[Addr.add]
    rw[E,getElem?_eq_getElem (by rw[c];exact d)]at bO;exact bO
   have C:=Po L;refine⟨a.block,a.off,congrArg some C,λj u hu=>?_⟩;have D:j<len * g.size:=by have:=(List.getElem?_eq_some_iff.1 hu).1;rwa [oL f g.size c,m]at this
   have hdiv:j / g.size<len:=(Nat.div_lt_iff_lt_mul d).2 D;have s:=Nat.mod_lt j d;have o:=z (j / g.size) (by omega) (j % g.size) s;rw[C,Addr.add_lit,Addr.add_lit,getElem?_eq_getElem (by rw[c];exact s)]at o;have w:=Pm f g.size c l (j / g.size) (j % g.size) (by omega) _ (getElem?_eq_getElem (by rw[c];exact s));have v:j / g.size * g.size+j % g.size=j:=by rw[Nat.mul_comm];exact Nat.div_add_mod j g.size
   rw[v,hu]at w;rw[add_assoc,v]at o;rw[o,w]
  refine⟨l.map (·.1.1),λx ai=>?_,some a,cap,l.flatMap f,by rw[length_map,m],by rw[length_map,m];exact ae,r,JS l,by rw[length_map,m];exact q,λb p r e=>?_⟩
  ·obtain⟨p,_,rfl⟩:=List.mem_map.1 ai
   exact p.2.1
  ·rw[length_map]at r
   obtain⟨b',p',B,G⟩:=q.2 (by omega);rw[e]at B;cases B;cases ai:(l.flatMap f)[0]? with
   |some u=>exact QI (G 0 u ai)
   |none=>
    exfalso
    have ag:=q.1;rw[List.getElem?_eq_none_iff]at ai;have A:0<len * g.size:=Nat.mul_pos (by omega) d;omega
theorem abR(j:a6.ok P){e:TypeId->a7->Bool}(k:∀t g,e t g=true->vR enc P W t g (qx g)):∀(dn:List Field) (off:Nat) (g:a7) (cs:cl),pO a6 e off dn g=true->cs.length=off+g.size ->
  (∀f∈dn,∃m x,DataW.trod enc P W 0 (λ_=>true) true m f.type ((cs.drop f.offset).take (P.cellsOf f.type))=some x)->∃y:g.D,qx g y/\bR (λb=>b<W.heap.size) W g y (cs.drop off):=by
 intro dn
 induction dn with
 |nil=>intro off g cs h;simp[pO]at h
 |cons f dn l=>
  intro off g cs h ae az;cases dn with
  |nil=>
   have c:(beq f.offset off&&(vT a6 f.type g.size&&e f.type g))=true:=by
    cases g<;>exact h
   simp only[and_eq_true]at c;obtain⟨a,d,he⟩:=c;have a:=eq_of_beq_eq_true a;obtain⟨m,x,ai⟩:=az f mem_cons_self;obtain⟨y,I,J⟩:=k _ _ he _ _ _ ai;rw[a,JZ j d,List.take_of_length_le (by rw[length_drop];omega)]at J;exact⟨y,I,J⟩
  |cons s dn=>
   cases g with
   |pair g J=>
    have c:(beq f.offset off&&(vT a6 f.type g.size&&(e f.type g&&pO a6 e (off+g.size) (s::dn) J)))=true:=h;simp only[and_eq_true]at c;obtain⟨a,d,he,r⟩:=c;have a:=eq_of_beq_eq_true a;have w:cs.length=off+(g.size+J.size):=ae;obtain⟨m,x,ai⟩:=az f mem_cons_self;obtain⟨v,ag,i⟩:=k _ _ he _ _ _ ai;rw[a,JZ j d]at i;obtain⟨u,o,n⟩:=l (off+g.size) J cs r (by omega) (λq p=>az q (mem_cons_of_mem _ p));refine⟨(v,u),⟨ag,o⟩,_,_,?_,i,n⟩;rw[<- drop_drop,List.take_append_drop]
   |int _=>simp[pO]at h
   |bool=>simp[pO]at h
   |str=>simp[pO]at h
   |ax _=>simp[pO]at h
   |hX _=>simp[pO]at h
   |unit=>simp[pO]at h
   |fn=>simp[pO]at h
theorem abS{e:TypeId->a7->Bool}{t:TypeId}{s:Nat}(f:∀g,e t g=true->vR enc P W t g (qx g)):∀(n:Nat) (a:Nat) (g:a7) (cs:cl),pP a6 e t s n g=true->cs.length=a * s+g.size ->
  (∀i,i<n->∃m x,DataW.trod enc P W 0 (λ_=>true) true m t ((cs.drop ((a+i) * s)).take s)=some x)->∃y:g.D,qx g y/\bR (λb=>b<W.heap.size) W g y (cs.drop (a * s)):=by
 intro n
 induction n with
 |zero=>intro a g cs h;simp[pP]at h
 |succ n l=>
  intro a g cs h ae az;cases n with
  |zero=>
   have c:(beq g.size s&&e t g)=true:=by
    cases g<;>exact h
   simp only[and_eq_true]at c;obtain⟨d,he⟩:=c;have d:=eq_of_beq_eq_true d;obtain⟨m,x,ai⟩:=az 0 (by omega);obtain⟨y,I,J⟩:=f _ he _ _ _ ai;rw[Nat.add_zero,List.take_of_length_le (by rw[length_drop];omega)]at J;exact⟨y,I,J⟩
  |succ n=>
   cases g with
   |pair g J=>
    have c:(beq g.size s&&(e t g&&pP a6 e t s (n+1) J))=true:=h;simp only[and_eq_true]at c;obtain⟨d,he,p⟩:=c;have d:=eq_of_beq_eq_true d;have u:cs.length=a * s+(g.size+J.size):=ae;obtain⟨m,x,ai⟩:=az 0 (by omega);obtain⟨r,ag,o⟩:=f _ he _ _ _ ai;obtain⟨q,k,j⟩:=l (a+1) J cs p (by rw[add_mul];omega) (λi hi=>by
     have:=az (i+1) (by omega)
     rw[show a+1+i=a+(i+1) by omega];exact this)
    refine⟨(r,q),⟨ag,k⟩,_,_,?_,o,j⟩;rw[Nat.add_zero,add_mul,Nat.one_mul,<- drop_drop,List.take_append_drop]
   |int _=>simp[pP]at h
   |bool=>simp[pP]at h
   |str=>simp[pP]at h
   |ax _=>simp[pP]at h
   |hX _=>simp[pP]at h
   |unit=>simp[pP]at h
   |fn=>simp[pP]at h
theorem QM(c:a6.ok P):∀(d:Nat) (t:TypeId) (g:a7),yq a6 d t g=true->vR enc P W t g (qx g):=by
 intro d
 induction d with
 |zero=>intro t g h;cases h
 |succ d l=>
  intro t g h k cs x ai;unfold yq at h;cases az:a6.find t with
  |none=>simp[az]at h
  |some bE=>
   rw[az]at h;dsimp only at h;have eP:=(cm.get c az).ti;have a:=eP.1;have B:=JY c az
   split at h
   ·rename_i z ay
    rw[ay]at a;cases g with
    |int u=>
     have:u=z:=of_decide_eq_true h
     subst this;exact abE a k cs x ai
    |_=>cases h
   ·rename_i ay
    rw[ay]at a;cases g with
    |bool=>
     obtain⟨b,rfl,_⟩:=DataW.trod_bool a ai;exact⟨b,trivial,rfl⟩
    |_=>cases h
   ·rename_i ay
    rw[ay]at a;cases g with
    |str=>
     obtain⟨s,rfl,_⟩:=DataW.trod_string a ai;exact⟨s.data.toList,trivial,rfl⟩
    |_=>cases h
   ·rename_i e ay
    rw[ay]at a;cases g with
    |ax g=>
     simp only[and_eq_true]at h;exact abQ (ef h.1) a (JZ c h.2.1) (l _ _ h.2.2) k cs x ai
    |_=>cases h
   ·rename_i dn ay
    rw[ay]at a;simp only[and_eq_true]at h;have r:=eq_of_beq_eq_true h.1;obtain⟨xs,n,_,_,v,w,j⟩:=DataW.trod_struct a ai;obtain⟨y,I,J⟩:=abR c l dn.toList 0 g cs h.2 (by omega) (λf p=>by
     obtain⟨i,hi,rfl⟩:=List.mem_iff_getElem.1 p;have A:i<dn.size:=by simpa using hi
     have ag:=j i dn[i] (Array.getElem?_eq_getElem A);rw[getElem?_eq_getElem (by omega)]at ag;exact⟨n,_,by simpa using ag⟩)
    exact⟨y,I,J⟩
   ·rename_i n e ay
    rw[ay]at a;simp only[and_eq_true]at h;have r:=eq_of_beq_eq_true h.1;obtain⟨xs,m,_,_,v,w,j⟩:=DataW.trod_array a ai;have J:=h.2
    split at J
    ·rename_i dS q
     rw[JY c q]at j;obtain⟨y,I,ag⟩:=abS (λg o=>l e g o) n 0 g cs J (by omega) (λi hi=>by
      have ag:=j i hi;rw[getElem?_eq_getElem (by omega)]at ag;rw[zero_add];exact⟨m,_,ag⟩)
     rw[Nat.zero_mul]at ag;exact⟨y,I,ag⟩
    ·cases J
   ·cases h
theorem abW(f:a6.ok P){t:TypeId}{bE:cr}{g:a7}(az:a6.find t=some bE)(bh:l7 bE.ti.desc=true)(h:yq a6 12 t g=true){r:Reach}{oM:Nat}{v:Value}{d:DataW H}{aH:List MemPlace}(a:Value.okWide P W r oM t v)(ay:DataW.Trod enc P W 0 (λ_=>true) true t v d aH) :
  ∃y:g.D,qx g y/\∀env aK,oQ g y 0 g.size=some aK->dU env (λb=>b<W.heap.size) W (.agg aK) v:=by
 have eP:=(cm.get f az).ti;obtain⟨cs,rfl⟩:∃cs,v=.agg cs:=by
  have k:=eP.1;unfold Value.okWide at a;rw[k]at a;cases vU:bE.ti.desc with
  |struct dn=>rw[vU]at a;obtain⟨cs,e,_⟩:=a;exact⟨cs,e⟩
  |array n e=>rw[vU]at a;obtain⟨cs,e,_⟩:=a;exact⟨cs,e⟩
  |_=>rw[vU]at bh;cases bh
 obtain⟨n,bc⟩:=ay;obtain⟨y,I,J⟩:=QM f 12 t g h n _ _ bc;refine⟨y,I,λenv aK i=>?_⟩;obtain⟨us,al,U⟩:=bR.cells J i;have ae:cs.toList.length=g.size:=J.length;have hu:us=cs.toList:=by
  refine ext_getElem? λj=>?_
  by_cases c:j<us.length
  ·have:=al.2 j _ (getElem?_eq_getElem c)
   rw[zero_add]at this;rw[getElem?_eq_getElem c];exact this.symm
  ·rw[getElem?_eq_none (by omega),getElem?_eq_none (by rw[ae];have:=al.1;omega)]
 subst hu;exact⟨cs.toList,rfl,U⟩
end
end
section
section
variable {env:Nat->Loc} {B:Nat->Prop} {w:World}
end
def a7.sJ:a7->Bool
 |.pair _ _=>true
 |_=>false
theorem eL.abY{B:Nat->Prop}{w:World}{g:a7}{x:g.D}{vs:cl}(h:bR B w g x vs)(al:g.sJ=true):eL B w g x (.agg vs.toArray):=by
 cases g with
 |pair a b=>exact⟨vs,rfl,h⟩
 |_=>cases al
theorem eL.abZ{B:Nat->Prop}{w:World}{g:a7}{x:g.D}{v:Value}(h:bR B w g x [v])(al:g.sJ=false):eL B w g x v:=by
 cases g with
 |pair a b=>cases al
 |_=>exact h
section
variable {X:bu} {M:Bool} {n:Nat} {r:Option Nat} {st:aO} {Q:Exit->aO->Prop} {ops rest:List Oper} {o:Oper} {d:Nat}
end
end
section
section
variable {P:Program} {b:Frame} {a:Act} {k:List Item} {cs:List Frame} {w:World} {Q:Exit->Act->World->Prop} {F:Fence} {n:Nat}
theorem AS{c:Code}:step P (lone (b.atR a (.code (.scope c)::k)) cs w)=.next (lone (b.atR a (.code c :: .inScope c::k)) cs w):=
 step_lone_go (by simp[stepG,stepG.exec,Frame.atR])
theorem ab0{c:Code}:step P (lone (b.atR a (.inScope c::k)) cs w)=.next (lone (b.atR a k) cs w):=
 step_lone_go (by simp[stepG,stepG.exec,Frame.atR])
theorem ab1{c:Code}(h:c.wpIn F n P (Exit.noGoto Q) a w):(Code.scope c).wpIn F n P Q a w:=by
 intro b k cs o ad j;have i:(lone (b.atR a (.code (.scope c)::k)) cs w).fenced P F:=fenced_calm ad j rfl;obtain⟨e,m,g,d,f⟩:=h b (.inScope c::k) cs o ad j;have ai:∀id,exitTo id (.inScope c::k)=exitTo id k:=λid=>by simp[exitTo]
 cases e with
 |normal=>exact⟨.normal,m,g,d,.head i AS (StepsIn.trans f (.one (fenced_calm ad j rfl) ab0))⟩
 |exit id=>exact⟨.exit id,m,g,d,.of_steps (.one i AS) ⟨λk' aa=>f.1 k' (by rw[ai];exact aa),λj aa=>f.2 j (by rw[ai];exact aa)⟩⟩
 |goto l=>exact d.elim
 |ret=>exact⟨_,m,g,d,.of_steps (.one i AS) f⟩
 |panic p=>exact⟨_,m,g,d,.of_steps (.one i AS) f⟩
 |outgrown=>exact⟨_,m,g,d,.of_steps (.one i AS) f⟩
end
section
variable {X:bu} {M:Bool} {n:Nat} {r:Option Nat} {st:aO} {Q:Exit->aO->Prop} {c:Code}
theorem ab2{l:Nat}(h:Q .normal st):gQ X M n r (.label l) st Q:=λR W aE a w ah=>wpIn_label ⟨st,h,ah⟩
end
end
section
section
variable {X:bu} {M:Bool} {n:Nat} {r:Option Nat} {st:aO} {Q:Exit->aO->Prop} {ops rest:List Oper} {o:Oper} {d:Nat}
end
end
section
theorem ab3{P:Program}{t e:TypeId}{m:Nat}{i':bI}{cs:cl}{k:IntKind}{j:Nat}{w:World}(bk:P.underlying t=some (.array m e))(he:bI.ok P e i')(c:j<m){v:Value}(a:(part e cs.toArray (j * i'.size)).run P w=.ok v w):(Instr.index t (.agg cs.toArray) (.int k (j:Int))).run P w=.ok v w:=by
 have b:0<=(j:Int):=Int.natCast_nonneg j;unfold Instr.index;simp only[asIntOf,Sem.run_bind,Sem.run_pure,Result.andThen_ok,run_underlying bk];rw[if_pos ⟨b,by omega⟩];simp only[Sem.run_bind,bI.run_sizeOf he,Result.andThen_ok,Int.toNat_natCast,a]
theorem ab4{P:Program}{e:TypeId}{i':bI}{B:Nat->Prop}{ak w:World}{g:a7}{l:List g.D}{vs:cl}{j:Nat}(he:bI.ok P e i')(az:Flat (bR B ak g) l vs)(k:j<l.length)(b:g.size=i'.size)(f:l7 i'.desc=g.sJ)(c:(g.sJ || beq g.size 1)=true) :
  ∃v,(part e vs.toArray (j * i'.size)).run P w=.ok v w/\eL B ak g (l.getD j g.zero) v:=by
 have n:l[j]?=some (l.getD j g.zero):=by rw[List.getD_eq_getElem?_getD,getElem?_eq_getElem k];rfl
 have J:=Flat.get (λ_ _=>bR.length) az n;have m:=bR.length J;cases al:g.sJ with
 |true=>
  refine⟨.agg (vs.toArray.extract (j * i'.size) (j * i'.size+i'.size)),?_,?_⟩
  ·unfold part
   simp[bI.zZ he,f,al,bI.run_sizeOf he]
  ·have:=eL.abY J al
   rw[<- b];have i:vs.toArray.extract (j * g.size) (j * g.size+g.size)=((vs.drop (j * g.size)).take g.size).toArray:=by
    apply Array.ext'
    simp[extract]
   rw[i];exact this
 |false=>
  rw[al,Bool.false_or]at c;have a:=eq_of_beq_eq_true c;obtain⟨v,d⟩:∃v,(vs.drop (j * g.size)).take g.size=[v]:=by
   match hm:(vs.drop (j * g.size)).take g.size,m with
   |[v],_=>exact⟨v,rfl⟩
   |[],h=>simp[a]at h
   |_::_::_,h=>simp[a]at h
  have o:vs[j * i'.size]?=some v:=by
   have:=congrArg (·[0]?) d
   rw[<- b]
   simpa [List.getElem?_take,List.getElem?_drop,a] using this
  refine⟨v,?_,eL.abZ (by rw[<- d];exact J) al⟩;unfold part
  simp[bI.zZ he,f,al,o]
def Ex(g:a7)(m:Nat):bq->Option (Bool×List g.D)
 |.agg cs=>match Ew g m cs with
  |some (c,l,[])=>some (c,l)
  |_=>none
 |.arr g' l=>match decEq g' g with
  |isTrue h=>some (true,h ▸ l)
  |isFalse _=>none
 |_=>none
theorem ab5{env:Nat->Loc}{B:Nat->Prop}{w:World}{g:a7}{m:Nat}{x:bq}{c:Bool}{l:List g.D}{v:Value}(h:dU env B w x v)(bh:Ex g m x=some (c,l))(U:c=true):∃vs,v=.agg vs.toArray/\Flat (bR B w g) l vs:=by
 unfold Ex at bh
 split at bh
 ·split at bh
  ·rename_i c' l' ay
   cases bh;obtain⟨vs,rfl,I⟩:=h;obtain⟨_,d,f,e,J,ag⟩:=QL I ay U;have b:=ag;rw[b,append_nil]at e;subst e;exact⟨_,rfl,J⟩
  ·cases bh
 ·split at bh
  ·rename_i a _
   subst a;cases bh;exact h
  ·cases bh
 ·cases bh
section
variable {X:bu} {M:Bool} {n:Nat} {r:Option Nat} {st:aO} {Q:Exit->aO->Prop} {ops rest:List Oper} {o:Oper} {d:Nat}
end
end
section
theorem ab6(s:dV)(a b:Nat):Value.string ((ByteArray.mk s.toArray).extract a b)=gl ((s.take b).drop a):=by
 unfold gl
 congr 1
 apply ByteArray.ext
 rw[ByteArray.data_extract]
 apply Array.ext'
 simp[extract,List.drop_take]
section
variable {X:bu} {M:Bool} {n:Nat} {r:Option Nat} {st:aO} {Q:Exit->aO->Prop} {ops rest:List Oper} {o:Oper} {d:Nat}
theorem J0{P:Program}{t:TypeId}{s:dV}{w:World}(bk:P.underlying t=some .string){lo hi:Option Value}{a b:Nat}(h:(Instr.sliceBounds false s.length s.length lo hi none).run P w=.ok (a,b,s.length) w):(Instr.sliceAt t (gl s) lo hi none).run P w=.ok (gl ((s.take b).drop a)) w:=by
 have c:(ByteArray.mk s.toArray).size=s.length:=by simp[ByteArray.size]
 unfold Instr.sliceAt Instr.slice;simp only[gl,Sem.run_bind,run_underlying bk,Result.andThen_ok,c,h,Option.isSome_none,Bool.false_eq_true,if_false,Sem.run_pure]
 have:=ab6 s a b
 simp only[gl]at this;rw[this]
end
end
section
section
variable {P:Program} {o:Oper} {n d:Nat} {D:List Deferred} {L:List (Nat×Value)} {a:Act} {w ak:World} {B:Nat->Prop} {H:c2} {T:List (TypeId×bI)} {ops:Array Oper} {KK:Act->World->Prop}
theorem QN{s x:Operand}{t e:TypeId}{i i':bI}{A v:Option Addr}{k m cc:Nat}{xs g:cl}(c:Sym n D L B ak H a w)(y:o.op=.call { callee:=.builtin .append,args:=#[s,x],argTypes:=#[t,t] })(F:o.guard=none/\o.dst=some d)(ay:blt d n=true)(E:h9 P T)(I:T.lookup t=some i)(J:i.desc=.slice e)(ag:T.lookup e=some i')(V:blt 0 i'.size=true)(K:i'.zero.cells.size=i'.size)(C:aI L s=some (.slice A k k))(ai:aI L x=some (.slice v m cc))(f:Reads w A k i'.size xs)(l:Reads w v m i'.size g)(ah:∀u∈g,u.oneCell'=true)(S:(k+m) * i'.bytes<=140737488355328)(ab:k+m<=140737488355328)(bO:m=0->∀aX w',Sym n D ((d,.slice A k k)::L) B ak H aX w'->KK aX w')(h:∀O c' aX w',Sym n D ((d,.slice O (k+m) c')::L) B ak (.row O c' e i'.size (k+m) (xs++g)::H) aX w'->KK aX w'):fh P ops o KK a w:=by
 have z:=(E _ _ I).1;rw[J]at z;have N:=E _ _ ag
 by_cases Y:m=0
 ·subst Y
  have G:(execOp a.eval o).run P w=.ok (.value (.slice A k k)) w:=by
   have ap:(Builtin.append_ #[t,t] o.type #[.slice A k k,.slice v 0 cc]).run P w=.ok (.slice A k k) w:=by
    have W:=bI.run_sizeOf N w;have aq:(Builtin.firstCells i'.size 0 (.slice v 0 cc)).run P w=.ok #[] w:=by
     cases v<;>simp[Builtin.firstCells,loadCells,loadCellsFrom]
    simp only[Builtin.append_]
    simp[run_underlying z,Builtin.lenOf]
    cases A<;>simp[storeCells,W,aq]
   simp[execOp,y,resolve,invoke,builtin,c.aI C,c.aI ai,ap]
  exact sq c F ay G c.aU (bO rfl)
 ·have ao:0<m:=by omega
  cases A with
  |none=>
   have aa:k=0:=by
    by_cases aa:k=0
    ·exact aa
    ·obtain⟨b,p,e,_⟩:=f.2 (by omega)
     cases e
   subst aa;have ar:=List.eq_nil_of_length_eq_zero (by rw[f.1];simp);subst ar;have au:Sym n D L B ak (.row none 0 e i'.size 0 []::H) a w:=⟨c.st,c.aU.tx e i'.size⟩
   exact DE au y F ay E I J ag V K C ai xP l ah S ab h
  |some U=>
   obtain⟨inf,am,Q,Z,aj⟩:=bI.info N;obtain⟨ae,X,r,af⟩:=l.2 ao;subst r;have holds:∀j u,xs[j]?=some u->w.cell? (U.add j)=some u:=λj u hu=>by
    have M:=(List.getElem?_eq_some_iff.1 hu).1;rw[f.1]at M;have aa:0<k:=by
     rcases Nat.eq_zero_or_pos k with aa|aa
     ·rw[aa,Nat.zero_mul]at M;omega
     ·exact aa
    obtain⟨b,p,r,ac⟩:=f.2 aa;cases r;rw[Addr.add_lit];exact ac j u hu
   have R:(xs++g).length=(k+m) * i'.size:=by rw[length_append,f.1,l.1,add_mul]
   have G:=run_append_grow w t o.type e inf i'.zero z am aj U k k xs (by rw[f.1,Q]) holds ⟨ae,X,none⟩ m cc g (by rw[l.1,Q]) (λj u hu=>by rw[Addr.add_lit];exact af j u hu) (by omega) (by omega) (growslice_fits (by omega) (by rw[Z];exact S));have an:=grownCap_ge w (k+m) k e;have ad:=grownCap_le_maxLen w (k+m) k e (by simp only[maxLen];omega);refine sq c F ay (w':=w.drew.alloc (.cells (xs.toArray++g.toArray++Builtin.zeroCells i'.zero.cells (grownCap w (k+m) k e-(k+m))) e)) (by simp[execOp,y,resolve,invoke,builtin,c.aI C,c.aI ai,G]) ?_ (h (some ⟨w.heap.size,0,none⟩) (grownCap w (k+m) k e));have mP:=c.aU.drew;have bh:=mP.alloc (.cells (xs.toArray++g.toArray++Builtin.zeroCells i'.zero.cells (grownCap w (k+m) k e-(k+m))) e);have al:=List.pairwise_cons.1 bh.apart;refine⟨bh.below,bh.base,λeA ik=>?_,List.Pairwise.cons (λeA ik q r=>al.1 eA ik q (by simpa [bp.has] using r)) al.2⟩
   rcases List.mem_cons.1 ik with rfl|ik
   ·refine⟨R,.inr ⟨w.heap.size,_,(0,0),rfl,c.aU.fresh,heap_alloc_new w.drew _,.inl rfl,an,ad,?_,?_⟩⟩
    ·simp only[Array.size_append,List.size_toArray,size_zeroCells,K,f.1,l.1,<- add_mul]
     congr 1
     omega
    ·simp only[Array.toList_append,append_assoc]
     rw[<- append_assoc,<- R];exact List.take_left
   ·exact bh.ok eA (mem_cons_of_mem _ ik)
end
section
variable {X:bu} {M:Bool} {n:Nat} {r:Option Nat} {st:aO} {Q:Exit->aO->Prop} {ops rest:List Oper} {o:Oper} {d:Nat}
def hg(X:bu)(n:Nat)(o:Oper)(st st':aO):Prop:=∀(R:Nat->Prop) (W:World) (aE:fj) (aq:b6) (env:Nat->Loc) (B:Nat->Prop) (ak:World) (H:c2) (a:Act) (w:World),bK X R W aE n aq env B ak H st a w->∀(KK:Act->World->Prop) (l:List Oper),(∀aX w' env' H',bK X R W aE n aq env' B ak H' st' aX w'->KK aX w')->fh X.P l.toArray o KK a w
theorem Ey{st':aO}{E:b6}{aK:iv}{fuel i:Nat}{l':Array Bool}(hi:nth ops i=some o)(al:hg X n o st st')(j:gp E aK.listed i=false)(ae:aK.listed.setIfInBounds i true=l')(h:kk X M n ops E fuel ⟨l',false,false,aK.lx,aK.all⟩ st' Q):ru X M n ops E fuel aK st Q i:=by
 intro R W aE f g c7 F aq env B ak H a w d ah e;refine⟨o,mo hi,al R W aE aq env B ak H a w ah _ _ λaX w' env' H' b=>?_⟩;have c:=e.lost (H':=H') (l:=l');rw[ae];exact⟨⟨λhe=>(by rw[j]at he;cases he),c.F b⟩,h R W aE f g c7 F aq env' B ak H' aX w' d b c⟩
theorem ab7(C:X.a6.ok X.P){t e:TypeId}{x y:Operand}{aa g2:Bool}{ej:bq}{id j ab:Nat}{F g:a7}{l i:List g.D}{bE:cr}{aK:TypeDesc}{J:Value}(N:o.op=.call ⟨.builtin .append,⟨[x,y]⟩,⟨[t,t]⟩⟩)(Q:o.guard=none/\o.dst=some d)(ay:(blt d n&&blt id hZ)=true)(bk:X.a6.find t=some bE)(dq:bE.ti.desc=.slice e)(he:X.a6.find e=some ⟨⟨aK,j,ab,J⟩,some F⟩)(ai:bz X st.L x=some (aa,.c (.ax id)))(am:aa=true)(aG:bz X st.L y=some (g2,ej))(ap:g2=true)(an:bm st.H id=some (.gT e g l))(ao:beq g.size j=true)(aA:mT st g ej=some i)(U:dx ab (l.length+i.length)=true):hg X n o st ⟨(d,.c (.ax id))::gu id .dead st.L,(id,.gT e g (l++i))::ew id .dead st.H⟩:=by
 intro R W aE aq env B ak H a w h KK lo E;obtain⟨vx,ad,aw⟩:=h.aI ai am;obtain⟨vy,V,ax⟩:=h.aI aG ap;obtain⟨D,S,av⟩:=(cm.get C he).g F rfl;obtain⟨T,P,I,z⟩:=nD (cm.get C bk).ti (cm.get C he).ti;dsimp only at D S z;have ag:J.cells.size=j:=by
  have:J.cells.toList.length=j:=by rw[S,<- D];exact bR.length (bR.e3 (B:=B) (w:=ak) F)
  simpa using this
 simp only[and_eq_true]at ay;obtain⟨ay,aB⟩:=ay;have s:=eq_of_beq_eq_true ao;simp only[dx,and_eq_true,decide_eq_true_eq]at U;obtain⟨aD,cG,u,rfl,v,r⟩:=sy h aA ax;obtain⟨A,c,m,ae,rfl⟩:=aw;obtain⟨eA,K,⟨f,k',af,aC⟩,p,L⟩:=h.DV (b':=.gT e g (l++i)) an (λq al=>by
  obtain⟨_,O,a1⟩:=h.dr _ _ al;rw[ae]at O
  rcases a1 with⟨b,a1⟩|a1
  ·rw[<- O]at a1;cases a1
  ·have:=ef aB;omega)
 rw[ae]at af;cases af;have aj:blt 0 j=true:=by rw[<- D];exact Nat.ble_eq_true_of_le av
 rcases aC with⟨xs,rfl,cX⟩|⟨rfl,rfl,eo,xs,cX,iq⟩
 ·rw[s]at p r
  refine DE h.sym N Q ay P I dq z aj ag ad V p r (Flat.jo (λ_ _=>bR.jo) v) U.1 U.2 λf c' aX w' bP=>?_
  obtain⟨H',_,k⟩:=L (.row f c' (l++i).length) (.row f c' e g.size (l++i).length (xs++u)) aX w' (.c (.ax id)) _ ⟨f,c',fK,.inl ⟨_,rfl,cX.append v⟩⟩ ⟨f,c',_,fK,by rw[length_append]⟩ (by rw[s,length_append];exact bP.aU) bP.st;exact E aX w' _ H' k
 ·have ah:=iq.kU h.aU
  rw[s]at ah r;refine QN h.sym N Q ay P I dq z aj ag ad V ah r (Flat.jo (λ_ _=>bR.jo) v) U.1 U.2 (λau aX w' bP=>?_) λf c' aX w' bP=>?_
  ·have az:i=[]:=List.eq_nil_of_length_eq_zero au
   subst az;obtain⟨Y,Z,G,M⟩:=p;obtain⟨H',_,k⟩:=L (.row A l.length (l++[]).length) (.row none 0 e g.size 0 []) aX w' (.c (.ax id)) (.slice A l.length l.length) ⟨A,l.length,fK,.inr ⟨rfl,by simp,eo,xs,by rw[append_nil];exact cX,by rw[append_nil];exact iq⟩⟩ ⟨A,l.length,_,fK,by simp⟩ (by rw[M];dsimp only;rw[<- G];exact bP.aU) bP.st;exact E aX w' _ H' k
  ·obtain⟨Y,Z,G,M⟩:=p
   obtain⟨H',_,k⟩:=L (.row f c' (l++i).length) (.row f c' e g.size (l++i).length (xs++u)) aX w' (.c (.ax id)) (.slice f (l.length+i.length) c') ⟨f,c',fK,.inl ⟨_,rfl,cX.append v⟩⟩ ⟨f,c',_,fK,by rw[length_append]⟩ (by
    have ac:=bP.aU;rw[G]at ac;rw[M];have al:(bp.row f c' e j (l.length+i.length) (xs++u)::(Y++bp.row none 0 e g.size 0 []::Z)).Perm (bp.row none 0 e g.size 0 []::(Y++bp.row f c' e j (l.length+i.length) (xs++u)::Z)):=by
     refine(List.Perm.cons _ List.perm_middle).trans ?_;refine(List.Perm.swap _ _ _).trans (List.Perm.cons _ List.perm_middle.symm)
    have ar:=(ac.perm al).e2 (List.sublist_cons_self _ _);rw[s,length_append];exact ar) bP.st
   exact E aX w' _ H' k
end
section
variable {X:bu} {n:Nat} {st:aO}
def sK(id:Nat)(st:aO):Option aO:=
 match bm st.H id with
 |some (.gT _ g l)=>some ⟨gu id (.bo g l none) st.L,ew id (.bo g l none) st.H⟩
 |_=>none
theorem QO{b c:cD}{id:Nat}:∀ {l:bC},bm l id=some b->bm (fc id c l) id=some c
 |[],h=>by cases h
 |(k,b')::r,h=>by
  rw[cI]at h;unfold fc
  split
  ·rename_i aa
   rw[cI,if_pos (eq_of_beq_eq_true aa).symm]
  ·rename_i aa
   have a:¬id=k:=λe=>by rw[e,beq_refl]at aa;cases aa
   rw[if_neg a]at h;rw[cI,if_neg a];exact QO h
theorem QP{b:cD}{id:Nat}{z:bs}:∀ {l:bC} {a:cD},bm l id=some a->ew id z (fc id b l)=ew id z l
 |[],_,h=>by cases h
 |(k,b')::r,a,h=>by
  rw[cI]at h;unfold fc;cases aa:beq k id with
  |true=>simp only[ew,aa]
  |false=>
   have c:¬id=k:=λe=>by rw[e,beq_refl]at aa;cases aa
   rw[if_neg c]at h;simp only[ew,aa,QP h]
theorem ds.sK{id:Nat}{st':aO}(az:sK id st=some st'):ds X n st st':=λR W aE M a w ⟨aq,env,B,ak,H,f,h⟩=>by
 unfold Go.Proofs.YtcheedjfedcbpaaGreatDoor.sK at az
 split at az
 ·rename_i t g l d
  cases az;obtain⟨eA,K,⟨A,k,he,D⟩,⟨Y,Z,o,r⟩,p⟩:=h.ql (b':=.row t g l none) d
  rcases D with⟨xs,rfl,cX⟩|⟨rfl,rfl,eo,xs,cX,iq⟩
  ·obtain⟨H',b⟩:=p _ a w ⟨A,k,xs,he,rfl,cX,λ_ c=>by cases c⟩ (by rw[r];dsimp only;rw[<- o];exact h.aU) h.cf
   have j:Go.Proofs.YtcheedjfedcbpaaGreatDoor.cT id ⟨st.L,fc id (.row t g l none) st.H⟩=some ⟨gu id (.bo g l none) st.L,ew id (.bo g l none) st.H⟩:=by
    unfold Go.Proofs.YtcheedjfedcbpaaGreatDoor.cT;dsimp only;rw[QO d];dsimp only;rw[QP d]
   exact ds.cT j R W aE M a w ⟨aq,env,B,ak,H',f,b⟩
  ·have i:∀v,dR env B ak (.ax id) v->dR env B ak (.bo g l none) v:=by
    rintro v ⟨E,c',m,e,rfl⟩;rw[he]at e;cases e;exact⟨A,l.length,xs,rfl,le_refl _,eo,(λ_ c=>by cases c),cX,iq⟩
   obtain⟨H2,I,J⟩:=h.heap.del (env':=env) (λ_ _=>rfl) i;refine⟨aq,env,B,ak,H2,f,h.size,h.defs,λq u hu=>?_,J,h.aU.e2 (I.append_right _),h.sub,h.new,h.dr,h.base,h.eg⟩;obtain⟨z,C,rfl⟩:=qj hu;obtain⟨y,b,s⟩:=h.has q z C;exact⟨y,b,eK.sub (λ_ _=>rfl) i s⟩
 ·cases az
end
end
section
section
variable {X:bu} {M:Bool} {n:Nat} {r:Option Nat} {st:aO} {Q:Exit->aO->Prop} {ops rest:List Oper} {o:Oper} {d:Nat} {bN:bq}
theorem ab8(r:X.a6.ok X.P){t T:TypeId}{bE:cr}{x:Operand}{id d2 i:Nat}{y:Bool}{g:a7}{l:List (List g.D)}{cap:Option Nat}{j:Bool}(f:o.op=.load t x)(bk:X.a6.find t=some bE)(E:l7 bE.ti.desc=false)(ai:bz X st.L x=some (j,.c (.e4 id 1 i 0)))(v:j=true)(u:bm st.H id=some (.cP y T g l cap i d2)):jn X st o (.c (.ax d2)):=by
 intro R W aE n aq env B ak H a b5 ah;obtain⟨vx,I,b,c,m,he,rfl⟩:=ah.aI ai v;obtain⟨eA,K,⟨A,k,ys,d,c',e,h,rfl,s,hi,D,_⟩,az⟩:=ah.heap.gU u;rw[he]at h;cases h;have p:ys.length=l.length:=pB.oL s;refine⟨.slice d e c',⟨d,c',e,D,rfl⟩,λw q=>?_⟩;have z:fX w (λk=>R k\/B k) T 1 (some ⟨b,0,none⟩) c l.length (ys.set i (.slice d e c')):=(q (by rw[f];rfl)).ok _ az.more.mem;have C:w.cell? ⟨b,i * 1+0,none⟩=some (.slice d e c'):=by
  rw[z.cells rfl _ (by omega)]
  simp[p,hi]
 exact xX ah.cf f (cm.get r bk).ti E I C
theorem aca{t h:TypeId}{u v:Operand}{c g2 fu cG:Bool}{cs aK:dI}{g:a7}{x y:g.D}(b:ue X.P t g)(d:o.op=.binOp .eql t u v h)(hu:bz X st.L u=some (c,.agg cs))(j:c=true)(e:bz X st.L v=some (g2,.agg aK))(i:g2=true)(ai:dec g cs=some (fu,x,[]))(k:fu=true)(aG:dec g aK=some (cG,y,[]))(l:cG=true):jn X st o (.c (.val (.bool (g.beq x y)))):=by
 intro R W aE n aq env B ak H a b5 ah;obtain⟨m,I,J⟩:=ah.aI hu j;obtain⟨vv,ag,f⟩:=ah.aI e i;rw[cO.cQ b.key J ai k]at I;rw[cO.cQ b.key f aG l]at ag;exact⟨_,rfl,λw _=>YQ ah.cf d I ag b.guard (b.eq x y) w⟩
theorem acb{t h:TypeId}{u v:Operand}{c g2 fu cG:Bool}{cs aK:dI}{g:a7}{x y:g.D}(b:ue X.P t g)(d:o.op=.binOp .neq t u v h)(hu:bz X st.L u=some (c,.agg cs))(j:c=true)(e:bz X st.L v=some (g2,.agg aK))(i:g2=true)(ai:dec g cs=some (fu,x,[]))(k:fu=true)(aG:dec g aK=some (cG,y,[]))(l:cG=true):jn X st o (.c (.val (.bool (!(g.beq x y))))):=by
 intro R W aE n aq env B ak H a b5 ah;obtain⟨m,I,J⟩:=ah.aI hu j;obtain⟨vv,ag,f⟩:=ah.aI e i;rw[cO.cQ b.key J ai k]at I;rw[cO.cQ b.key f aG l]at ag;exact⟨_,rfl,λw _=>YR ah.cf d I ag b.guard (b.eq x y) w⟩
end
end
section
section
variable {env:Nat->Loc} {B B':Nat->Prop} {w w':World}
end
end
section
section
variable {env:Nat->Loc} {B:Nat->Prop} {w:World}
end
end
section
section
variable {P:Program} {ops:Array Oper} {o:Oper} {KK:Act->World->Prop} {n:Nat} {D:List Deferred} {L:List (Nat×Value)} {B:Nat->Prop} {ak:World} {H:c2} {a:Act} {w:World} {d:Nat}
theorem acd{f:FuncId}{fn:Func}{s:Nat}{p:Value}{xs:eE}{fA:Array TypeId}{vs:cl}(av:Sym n D L B ak H a w)(aA:o.op=.call { callee:=.value (.tmp s),args:=xs.toArray,argTypes:=fA })(aj:L.lookup s=some (.func (.func f) #[p] #[]))(gC:P.funcs[f]?=some fn)(bc : (fn.name == "runtime.NumGoroutine") = false)(ad : fn.body.isNone = false)(aB : jB L xs = some vs) : (execOp a.eval o).run P w = .ok (.enter f (p :: vs).toArray) w := by
 have e:a.eval (.tmp s)=.func (.func f) #[p] #[]:=av.aI aj
 have hQ : fn.name ≠ "runtime.NumGoroutine" := by simpa using bc
 have er:fn.body≠none:=by intro h;rw[h]at ad;cases ad
 simp[execOp,aA,resolve,e,Deferred.ofValue,invoke,callFunc,program,Sem.run,gC,hQ,er,av.st.jB aB]
theorem ace{f:FuncId}{fn:Func}{s:Nat}{p:Value}{xs:eE}{fA:Array TypeId}{vs:cl}{R:Value->World->Prop}(av:Sym n D L B ak H a w)(aA:o.op=.call { callee:=.value (.tmp s),args:=xs.toArray,argTypes:=fA })(bn:o.guard=none/\o.dst=some d)(ay:blt d n=true)(aj:L.lookup s=some (.func (.func f) #[p] #[]))(gC : P.funcs[f]? = some fn)(bc : (fn.name == "runtime.NumGoroutine") = false)(ad : fn.body.isNone = false)(aB : jB L xs = some vs)(cJ : qc P f (p :: vs).toArray w R)(h:∀v aX w',R v w'->df n D ((d,v)::L) aX->KK aX w'):fh P ops o KK a w:=by
 refine .inl ⟨by simp[Region.wanted,bn.1],.inr (.inr ⟨f,(p::vs).toArray,w,acd av aA aj gC bc ad aB,?_⟩)⟩;refine Calls.mono cJ ?_;rintro e w' ⟨v,rfl,eB⟩;exact⟨v,rfl,h v _ w' eB (by rw[bn.2];exact av.st.put d v (ef ay))⟩
end
section
variable {X:bu} {M:Bool} {n:Nat} {r:Option Nat} {st:aO} {Q:Exit->aO->Prop} {ops rest:List Oper} {o:Oper} {d:Nat}
end
section
variable {X:bu} {M:Bool} {n:Nat} {st:aO} {Q:Exit->aO->Prop} {ops:List Oper} {E:b6} {aK:iv} {O9:Array Bool} {fuel d i:Nat} {o:Oper}
end
end
section
section
variable {X:bu} {M:Bool} {n:Nat} {r:Option Nat} {st:aO} {Q:Exit->aO->Prop} {ops rest:List Oper} {o:Oper} {d:Nat}
theorem acf(f:X.a6.ok X.P){t fQ gE:TypeId}{bE p dS:cr}{k:IntKind}{bj:a7}{u x:Operand}{id:Nat}{l:List (Int×bj.D)}{kH:Option (List MapEntry×Nat)}{z:Int}{g:Bool}{bN:bq}(r:o.op=.lookup t u x true)(i:o.guard=none/\o.dst=some d)(ay:blt d n=true)(bk:X.a6.find t=some bE)(dq:bE.ti.desc=.map fQ gE)(aa:X.a6.find fQ=some p)(q:p.ti.desc=.int k)(he:X.a6.find gE=some dS)(bO:∀B w,eL B w bj bj.zero dS.ti.zero)(hu:bz X st.L u=some (true,.c (.dY id)))(ai:bz X st.L x=some (g,.c (.val (.int k z))))(A:g=true)(C:bm st.H id=some (.mp (.int k) bj l kH))(nM:rC bj ((dk (.int k) bj l z).getD bj.zero)=some bN):hg X n o st ⟨(d,.da [bN,.c (.val (.bool (dk (.int k) bj l z).isSome))])::st.L,st.H⟩:=by
 intro R W aE aq env B ak H a w ah KK lo F;obtain⟨Q,I,b,ad,rfl⟩:=ah.aI hu rfl;obtain⟨vx,J,ag⟩:=ah.aI ai A;rw[show vx=_ from ag]at J;obtain⟨c,K,⟨b',P,clock,m,rfl,G,dG,_⟩,E⟩:=ah.heap.gU C;rw[ad]at m;cases m;have M:=(ah.aU.ok _ E.more.mem).2;have h:=(cm.get f bk).ti.1;rw[dq]at h;have e:=(cm.get f aa).ti.1;rw[q]at e;have L:=bI.so (cm.get f he).ti w;have O:∃v,(Instr.lookup t (.map (some b)) (.int k z) true).run X.P w=.ok (.tuple #[v,.bool (dk (.int k) bj l z).isSome]) w/\eL B ak bj ((dk (.int k) bj l z).getD bj.zero) v:=by
  unfold Instr.lookup;simp only[Sem.run_bind,run_underlying h,Result.andThen_ok,MapKept.run_getObj_map M,IJ e,Sem.run_pure]
  rcases G.JV 0 with⟨au,aD⟩|⟨y,j,v,au,aD,a1,_⟩
  ·refine⟨dS.ti.zero,?_,by rw[au];exact bO _ _⟩
   simp[MapKept.run_findKey e aD,L,Result.andThen,au]
  ·refine⟨v,?_,by rw[au];exact a1⟩
   simp[MapKept.run_findKey e aD,Result.andThen,au]
 obtain⟨v,D,N⟩:=O;refine iD ah.cf i.1 i.2 (ef ay) (v:=.tuple #[v,.bool (dk (.int k) bj l z).isSome]) (w':=w) ?_ λaX s=>?_
 ·simp[execOp,r,ah.cf.aI I,ah.cf.aI J,D]
 ·exact F aX _ env H (ah.set ⟨[v,.bool (dk (.int k) bj l z).isSome],rfl,v,_,rfl,N.bN nM,_,_,rfl,rfl,rfl⟩ s)
end
end
section
section
variable {X:bu} {M:Bool} {n:Nat} {r:Option Nat} {ops:List Oper} {rest:List Oper} {o:Oper} {d:Nat} {st:aO} {Q:Exit->aO->Prop}
theorem acg(j:X.a6.ok X.P){t e:TypeId}{x y:Operand}{r g2:Bool}{ej:bq}{id k S:Nat}{V g:a7}{l b:List g.D}{cap:Option Nat}{bE:cr}{aK:TypeDesc}{ab:Value}(D:o.op=.call ⟨.builtin .copy,⟨[x,y]⟩,⟨[t,t]⟩⟩)(J:o.guard=none/\o.dst=some d)(ay:blt d n=true)(bk:X.a6.find t=some bE)(dq:bE.ti.desc=.slice e)(he:X.a6.find e=some ⟨⟨aK,k,S,ab⟩,some V⟩)(ai:bz X st.L x=some (r,.c (.ax id)))(E:r=true)(aG:bz X st.L y=some (g2,ej))(O:g2=true)(L:bm st.H id=some (.row e g l cap))(M:beq g.size k=true)(ac:mT st g ej=some b)(U:beq b.length l.length=true):hg X n o st ⟨(d,.c (.val (.int .i64 (l.length:Int))))::st.L,fc id (.row e g b cap) st.H⟩:=by
 intro R W aE aq env B ak H a w h KK lo P;obtain⟨vx,Y,Z⟩:=h.aI ai E;obtain⟨vy,q,aa⟩:=h.aI aG O;obtain⟨T,G,I,F⟩:=nD (cm.get j bk).ti (cm.get j he).ti;have s:=eq_of_beq_eq_true M;have i:=eq_of_beq_eq_true U;obtain⟨ag,cG,u,rfl,z,f⟩:=sy h ac aa;obtain⟨A,c,m,v,rfl⟩:=Z;obtain⟨eA,K,⟨af,k',xs,C,rfl,ae,Q⟩,p,ad⟩:=h.ql (b':=.row e g b cap) L;rw[v]at C;cases C;rw[s]at p f;rw[i]at q f;refine YZ h.sym D J ay G I dq F Y q p f (Flat.jo (λ_ _=>bR.jo) z) λaX w' bP=>?_
 obtain⟨H',N⟩:=ad (.row A c e g.size l.length u) a w' ⟨A,c,u,by rw[i];exact v,by rw[i],z,Q⟩ (by rw[s];exact bP.aU) h.cf;exact P aX w' _ H' (N.set rfl bP.st)
end
end
section
section
variable {X:bu} {M:Bool} {n:Nat} {r:Option Nat} {ops rest:List Oper} {o:Oper} {d:Nat} {st:aO} {Q:Exit->aO->Prop}
end
end
section
def O3{α β:Type}(x:α)(k:α->Option β):Option β:=k x
section
variable {X:bu} {n:Nat} {st:aO}
end
section
variable {X:bu} {R:Nat->Prop} {W:World} {aE:fj} {n:Nat} {aq:b6} {env:Nat->Loc} {B:Nat->Prop} {ak:World} {H:c2} {st st':aO} {a:Act} {w:World}
end
end
abbrev dm:List Type->Type
 |[]=>Unit
 |A::r=>A×dm r
abbrev AV:List Type->Type
 |[]=>Unit
 |[A]=>A
 |A::B::r=>A×AV (B::r)
def qy:(l:List Type)->dm l->AV l
 |[],_=>()
 |[_],u=>u.1
 |_::B::r,u=>(u.1,qy (B::r) u.2)
def nN:(l:List Type)->AV l->dm l
 |[],_=>()
 |[_],u=>(u,())
 |_::B::r,u=>(u.1,nN (B::r) u.2)
theorem vY:∀(l:List Type) (u:dm l),nN l (qy l u)=u
 |[],_=>rfl
 |[_],_=>rfl
 |_::B::r,u=>by
  show(u.1,nN (B::r) (qy (B::r) u.2))=u;rw[vY (B::r)]
inductive uh where
 |id (i:Nat)
 |eF (g:a7)
abbrev rE:List uh->List Type->List Type
 |[],T=>T
 |.id _::r,T=>rE r T
 |.eF g::r,T=>g.D::rE r T
def nb:(l:List uh)->{T:List Type}->dm (rE l T)->ep×dm T
 |[],_,t=>([],t)
 |.id i::r,_,u=>(.id i::(nb r u).1,(nb r u).2)
 |.eF g::r,_,u=>(.eF g u.1::(nb r u.2).1,(nb r u.2).2)
def QR{g g':a7}(h:g'=g)(x:g'.D):g.D:=h ▸ x
def pQ{g g':a7}(h:g'=g)(l:List g'.D):List g.D:=h ▸ l
def ui:(l:List uh)->ep->{T:List Type}->dm T->Option (dm (rE l T))
 |[],[],_,t=>some t
 |.id i::r,.id j::s,_,t=>match beq i j with
  |true=>ui r s t
  |false=>none
 |.eF g::r,.eF g' x::s,_,t=>match decEq g' g with
  |isTrue h=>match ui r s t with
   |some u=>some (QR h x,u)
   |none=>none
  |isFalse _=>none
 |_,_,_,_=>none
theorem Ez:∀ {l:List uh} {s:ep} {T:List Type} {t:dm T} {u:dm (rE l T)},ui l s t=some u->nb l u=(s,t)
 |[],[],_,_,_,h=>by cases h;rfl
 |.id i::r,.id j::s,_,t,u,h=>by
  unfold ui at h
  split at h
  ·rename_i e
   have:=eq_of_beq_eq_true e
   subst this
   have:=Ez h
   unfold nb;rw[this]
  ·cases h
 |.eF g::r,.eF g' x::s,_,t,u,h=>by
  unfold ui at h
  split at h
  ·rename_i e _
   subst e
   split at h
   ·rename_i a e
    cases h
    have:=Ez e
    unfold nb;rw[this]
    rfl
   ·cases h
  ·cases h
 |[],_::_,_,_,_,h=>by cases h
 |.id _::_,[],_,_,_,h=>by cases h
 |.eF _::_,[],_,_,_,h=>by cases h
 |.id _::_,.eF _ _::_,_,_,_,h=>by cases h
 |.eF _::_,.id _::_,_,_,_,h=>by cases h
inductive c7 where
 |raw (c:bs)
 |int (k:IntKind)
 |bool
 |str
 |bo (g:a7)
 |EA (g:a7)
 |ie (g:a7)
 |EB (g:a7)
 |gn (g:a7) (off:Nat)
 |par (g:a7)
 |fn (f:FuncId) (cs:List uh)
 |e4 (id cM off:Nat)
 |il (id:Nat)
 |iF (id:Nat)
abbrev c7.LT:c7->List Type->List Type
 |.raw _,T=>T
 |.int _,T=>Int::T
 |.bool,T=>Bool::T
 |.str,T=>dV::T
 |.bo g,T=>List g.D::T
 |.EA g,T=>List g.D::T
 |.ie g,T=>List g.D::Nat::T
 |.EB g,T=>List g.D::Option Nat::T
 |.gn g _,T=>g.D::T
 |.par g,T=>List g.D::T
 |.fn _ cs,T=>rE cs T
 |.e4 _ _ _,T=>Nat::T
 |.il _,T=>Nat::T
 |.iF _,T=>Bool::T
def c7.S:(s:c7)->{T:List Type}->dm (s.LT T)->bs×dm T
 |.raw c,_,t=>(c,t)
 |.int k,_,u=>(.val (.int k u.1),u.2)
 |.bool,_,u=>(.val (.bool u.1),u.2)
 |.str,_,u=>(.str u.1,u.2)
 |.bo g,_,u=>(.bo g u.1 none,u.2)
 |.EA g,_,u=>(.bo g u.1 (some u.1.length),u.2)
 |.ie g,_,u=>(.bo g u.1 (some u.2.1),u.2.2)
 |.EB g,_,u=>(.bo g u.1 u.2.1,u.2.2)
 |.gn g off,_,u=>(.gn g u.1 off,u.2)
 |.par g,_,u=>(.par g u.1,u.2)
 |.fn f cs,_,u=>(.fn f (nb cs u).1,(nb cs u).2)
 |.e4 id a off,_,u=>(.e4 id a u.1 off,u.2)
 |.il id,_,u=>(.il id u.1,u.2)
 |.iF id,_,u=>(.iF u.1 id,u.2)
def J1:Value->Value->Bool
 |.slice none 0 0,.slice none 0 0=>true
 |.pointer none,.pointer none=>true
 |.map none,.map none=>true
 |.nilIface,.nilIface=>true
 |.nilFunc,.nilFunc=>true
 |_,_=>false
def bs.eqv:bs->bs->Bool
 |.dead,_=>true
 |.ptr i o,.ptr j p=>beq i j&&beq o p
 |.ax i,.ax j=>beq i j
 |.dY i,.dY j=>beq i j
 |.il i o,.il j p=>beq i j&&beq o p
 |.jD f i,.jD g j=>beq f g&&beq i j
 |.val v,.val u=>J1 v u
 |_,_=>false
def rF(x y:bs):Prop:=∀env B w v,dR env B w x v->dR env B w y v
theorem ach:∀ {v u:Value},J1 v u=true->v=u:=by
 intro v u h;unfold J1 at h
 split at h<;>first|rfl|cases h
theorem bs.aci{c x:bs}(h:c.eqv x=true):rF x c:=by
 unfold bs.eqv at h
 split at h
 ·intro _ _ _ _ _;trivial
 ·simp only[and_eq_true]at h
  rw[eq_of_beq_eq_true h.1,eq_of_beq_eq_true h.2];exact λ_ _ _ _ h=>h
 ·rw[eq_of_beq_eq_true h];exact λ_ _ _ _ h=>h
 ·rw[eq_of_beq_eq_true h];exact λ_ _ _ _ h=>h
 ·simp only[and_eq_true]at h
  rw[eq_of_beq_eq_true h.1,eq_of_beq_eq_true h.2];exact λ_ _ _ _ h=>h
 ·simp only[and_eq_true]at h
  rw[eq_of_beq_eq_true h.1,eq_of_beq_eq_true h.2];exact λ_ _ _ _ h=>h
 ·rw[ach h];exact λ_ _ _ _ h=>h
 ·cases h
def isNil:Value->Bool
 |.slice none 0 0=>true
 |_=>false
theorem QS{v:Value}(h:isNil v=true):v=.slice none 0 0:=by
 unfold isNil at h
 split at h
 ·rfl
 ·cases h
def c7.get:(s:c7)->bs->{T:List Type}->dm T->Option (dm (s.LT T))
 |.raw c,x,_,t=>match c.eqv x with
  |true=>some t
  |false=>none
 |.int k,.val (.int k' z),_,t=>match decEq k' k with
  |isTrue _=>some (z,t)
  |isFalse _=>none
 |.bool,.val (.bool b),_,t=>some (b,t)
 |.str,.str s,_,t=>some (s,t)
 |.bo g,.bo g' l _,_,t=>match decEq g' g with
  |isTrue h=>some (pQ h l,t)
  |isFalse _=>none
 |.bo g,.val v,_,t=>match isNil v with
  |true=>some (([]:List g.D),t)
  |false=>none
 |.EA g,.bo g' l (some c),_,t=>match decEq g' g,beq c l.length with
  |isTrue h,true=>some (pQ h l,t)
  |_,_=>none
 |.EA g,.val v,_,t=>match isNil v with
  |true=>some (([]:List g.D),t)
  |false=>none
 |.ie g,.bo g' l (some c),_,t=>match decEq g' g with
  |isTrue h=>some (pQ h l,c,t)
  |isFalse _=>none
 |.ie g,.val v,_,t=>match isNil v with
  |true=>some (([]:List g.D),0,t)
  |false=>none
 |.EB g,.bo g' l c,_,t=>match decEq g' g with
  |isTrue h=>some (pQ h l,c,t)
  |isFalse _=>none
 |.EB g,.val v,_,t=>match isNil v with
  |true=>some (([]:List g.D),some 0,t)
  |false=>none
 |.gn g off,.gn g' x o,_,t=>match decEq g' g,beq off o with
  |isTrue h,true=>some (QR h x,t)
  |_,_=>none
 |.par g,.par g' l,_,t=>match decEq g' g with
  |isTrue h=>some (pQ h l,t)
  |isFalse _=>none
 |.fn f cs,.fn f' ids,_,t=>match beq f f' with
  |true=>ui cs ids t
  |false=>none
 |.e4 id j off,.e4 a d i e,_,t=>match beq id a,beq j d,beq off e with
  |true,true,true=>some (i,t)
  |_,_,_=>none
 |.il id,.il a i,_,t=>match beq id a with
  |true=>some (i,t)
  |false=>none
 |.iF id,.iF b a,_,t=>match beq id a with
  |true=>some (b,t)
  |false=>none
 |.iF id,.ptr a 0,_,t=>match beq id a with
  |true=>some (true,t)
  |false=>none
 |.iF _,.val (.pointer none),_,t=>some (false,t)
 |_,_,_,_=>none
theorem rF.nil{g:a7}{v:Value}(h:isNil v=true)(k:Option Nat)(aa:∀q,k=some q->q=0):rF (.val v) (.bo g [] k):=λenv B w u hu=>by
 rw[QS h]at hu;obtain⟨A,c,xs,I,J,ag,d,a⟩:=QF (env:=env) hu;exact⟨A,c,xs,I,J,ag,λq b=>by rw[aa q b];exact d 0 rfl,a⟩
theorem acm{f:FuncId}{cs:List uh}{ids:ep}{T:List Type}{t:dm T}{u:dm (rE cs T)}(h:ui cs ids t=some u):((c7.fn f cs).S (T:=T) u).2=t/\rF (.fn f ids) ((c7.fn f cs).S (T:=T) u).1:=by
 show(nb cs u).2=t/\rF _ (.fn f (nb cs u).1);rw[Ez h];exact⟨rfl,λ_ _ _ _ h=>h⟩
theorem c7.iK{s:c7}{x:bs}{T:List Type}{t:dm T}{u:dm (s.LT T)}(h:s.get x t=some u):(s.S u).2=t/\rF x (s.S u).1:=by
 unfold c7.get at h
 split at h
 ·split at h
  ·rename_i e;cases h;exact⟨rfl,bs.aci e⟩
  ·cases h
 ·split at h
  ·rename_i e _;subst e;cases h;exact⟨rfl,λ_ _ _ _ h=>h⟩
  ·cases h
 ·cases h;exact⟨rfl,λ_ _ _ _ h=>h⟩
 ·cases h;exact⟨rfl,λ_ _ _ _ h=>h⟩
 ·split at h
  ·rename_i e _;subst e;cases h
   exact⟨rfl,λ_ _ _ _ ⟨A,c,xs,I,J,ag,_,d⟩=>⟨A,c,xs,I,J,ag,(λ_ e=>by cases e),d⟩⟩
  ·cases h
 ·split at h
  ·rename_i e;cases h;exact⟨rfl,rF.nil e _ λ_ e=>by cases e⟩
  ·cases h
 ·split at h
  ·rename_i e _ U;subst e;cases h
   have:=eq_of_beq_eq_true U
   subst this;exact⟨rfl,λ_ _ _ _ h=>h⟩
  ·cases h
 ·split at h
  ·rename_i e;cases h;exact⟨rfl,rF.nil e _ λ_ e=>by cases e;rfl⟩
  ·cases h
 ·split at h
  ·rename_i e _;subst e;cases h;exact⟨rfl,λ_ _ _ _ h=>h⟩
  ·cases h
 ·split at h
  ·rename_i e;cases h;exact⟨rfl,rF.nil e _ λ_ e=>by cases e;rfl⟩
  ·cases h
 ·split at h
  ·rename_i e _;subst e;cases h;exact⟨rfl,λ_ _ _ _ h=>h⟩
  ·cases h
 ·split at h
  ·rename_i e;cases h;exact⟨rfl,rF.nil e _ λ_ e=>by cases e;rfl⟩
  ·cases h
 ·split at h
  ·rename_i e _ U;subst e;cases h
   have:=eq_of_beq_eq_true U
   subst this;exact⟨rfl,λ_ _ _ _ h=>h⟩
  ·cases h
 ·split at h
  ·rename_i e _;subst e;cases h;exact⟨rfl,λ_ _ _ _ h=>h⟩
  ·cases h
 ·split at h
  ·rename_i e
   have:=eq_of_beq_eq_true e
   subst this;exact acm h
  ·cases h
 ·split at h
  ·rename_i a f g
   cases h;rw[<- eq_of_beq_eq_true a,<- eq_of_beq_eq_true f,<- eq_of_beq_eq_true g];exact⟨rfl,λ_ _ _ _ h=>h⟩
  ·cases h
 ·split at h
  ·rename_i a
   cases h;rw[<- eq_of_beq_eq_true a];exact⟨rfl,λ_ _ _ _ h=>h⟩
  ·cases h
 ·split at h
  ·rename_i a
   cases h;rw[<- eq_of_beq_eq_true a];exact⟨rfl,λ_ _ _ _ h=>h⟩
  ·cases h
 ·split at h
  ·rename_i a
   cases h;rw[<- eq_of_beq_eq_true a];exact⟨rfl,λ_ _ _ _ ⟨b,I,J⟩=>⟨b,λ_=>I,J⟩⟩
  ·cases h
 ·cases h
  exact⟨rfl,λ_ _ _ _ h=>⟨0,λh=>(by cases h),h⟩⟩
 ·cases h
abbrev yu:List c7->List Type->List Type
 |[],T=>T
 |c::r,T=>c.LT (yu r T)
def sL:(l:List c7)->{T:List Type}->dm (yu l T)->dI×dm T
 |[],_,t=>([],t)
 |c::r,_,u=>((c.S u).1::(sL r (c.S u).2).1,(sL r (c.S u).2).2)
def AW:(l:List c7)->dI->{T:List Type}->dm T->Option (dm (yu l T))
 |[],[],_,t=>some t
 |c::r,x::s,_,t=>match AW r s t with
  |some u=>c.get x u
  |none=>none
 |_,_,_,_=>none
theorem J2:∀ {l:List c7} {s:dI} {T:List Type} {t:dm T} {u:dm (yu l T)},AW l s t=some u->(sL l u).2=t/\∀env B w vs,cO env B w s vs->cO env B w (sL l u).1 vs
 |[],[],_,_,_,h=>by cases h;exact⟨rfl,λ_ _ _ _ h=>h⟩
 |c::r,x::s,_,t,u,h=>by
  unfold AW at h
  split at h
  ·rename_i b e
   obtain⟨I,J⟩:=J2 e;obtain⟨ag,a⟩:=c7.iK h;unfold sL;rw[ag];refine⟨I,λenv B w vs ⟨v,q,e,bh,ad⟩=>⟨v,q,e,a _ _ _ _ bh,J _ _ _ _ ad⟩⟩
  ·cases h
 |[],_::_,_,_,_,h=>by cases h
 |_::_,[],_,_,_,h=>by cases h
inductive gf where
 |c (x:c7)
 |agg (l:List c7)
 |arr (g:a7)
 |cR (g:a7)
abbrev eH:=List gf
abbrev gf.LT:gf->List Type->List Type
 |.c x,T=>x.LT T
 |.agg l,T=>yu l T
 |.arr g,T=>List g.D::T
 |.cR g,T=>g.D::T
def J3(g:a7)(x:g.D):bq:=match oQ g x 0 g.size with
 |some cs=>.agg cs
 |none=>.agg []
def gf.S:(s:gf)->{T:List Type}->dm (s.LT T)->bq×dm T
 |.c x,_,u=>(.c (x.S u).1,(x.S u).2)
 |.agg l,_,u=>(.agg (sL l u).1,(sL l u).2)
 |.arr g,_,u=>(.arr g u.1,u.2)
 |.cR g,_,u=>(J3 g u.1,u.2)
def gf.get:(s:gf)->bq->{T:List Type}->dm T->Option (dm (s.LT T))
 |.c x,.c y,_,t=>x.get y t
 |.agg l,.agg cs,_,t=>AW l cs t
 |.arr g,.arr g' l,_,t=>match decEq g' g with
  |isTrue h=>some (pQ h l,t)
  |isFalse _=>none
 |.cR g,.agg cs,_,t=>match dec g cs with
  |some (true,x,[])=>match oQ g x 0 g.size with
   |some _=>some (x,t)
   |none=>none
  |_=>none
 |_,_,_,_=>none
theorem gf.iK{s:gf}{x:bq}{T:List Type}{t:dm T}{u:dm (s.LT T)}(h:s.get x t=some u):(s.S u).2=t/\∀env B w v,dU env B w x v->dU env B w (s.S u).1 v:=by
 unfold gf.get at h
 split at h
 ·exact c7.iK h
 ·obtain⟨I,J⟩:=J2 h
  exact⟨I,λenv B w v ⟨vs,e,U⟩=>⟨vs,e,J _ _ _ _ U⟩⟩
 ·split at h
  ·rename_i e _;subst e;cases h;exact⟨rfl,λ_ _ _ _ h=>h⟩
  ·cases h
 ·split at h
  ·rename_i b
   split at h
   ·rename_i c a
    cases h;refine⟨rfl,λenv B w v ⟨vs,e,U⟩=>?_⟩;show dU env B w (J3 _ _) v;unfold J3;rw[a];exact⟨vs,e,U.data b rfl a⟩
   ·cases h
  ·cases h
 ·cases h
abbrev jY:eH->List Type->List Type
 |[],T=>T
 |c::r,T=>c.LT (jY r T)
def ix:(l:eH)->{T:List Type}->dm (jY l T)->dO×dm T
 |[],_,t=>([],t)
 |c::r,_,u=>((c.S u).1::(ix r (c.S u).2).1,(ix r (c.S u).2).2)
def yv:(l:eH)->dO->{T:List Type}->dm T->Option (dm (jY l T))
 |[],[],_,t=>some t
 |c::r,x::s,_,t=>match yv r s t with
  |some u=>c.get x u
  |none=>none
 |_,_,_,_=>none
theorem yw:∀ {l:eH} {s:dO} {T:List Type} {t:dm T} {u:dm (jY l T)},yv l s t=some u->(ix l u).2=t/\∀env B w vs,dw env B w s vs->dw env B w (ix l u).1 vs
 |[],[],_,_,_,h=>by cases h;exact⟨rfl,λ_ _ _ _ h=>h⟩
 |c::r,x::s,_,t,u,h=>by
  unfold yv at h
  split at h
  ·rename_i b e
   obtain⟨I,J⟩:=yw e;obtain⟨ag,a⟩:=gf.iK h;unfold ix;rw[ag];refine⟨I,λenv B w vs ⟨v,q,e,bh,ad⟩=>⟨v,q,e,a _ _ _ _ bh,J _ _ _ _ ad⟩⟩
  ·cases h
 |[],_::_,_,_,_,h=>by cases h
 |_::_,[],_,_,_,h=>by cases h
inductive lT where
 |a (x:gf)
 |da (l:eH)
abbrev lT.LT:lT->List Type->List Type
 |.a x,T=>x.LT T
 |.da l,T=>jY l T
def lT.S:(s:lT)->{T:List Type}->dm (s.LT T)->cd×dm T
 |.a x,_,u=>(.a (x.S u).1,(x.S u).2)
 |.da l,_,u=>(.da (ix l u).1,(ix l u).2)
def lT.get:(s:lT)->cd->{T:List Type}->dm T->Option (dm (s.LT T))
 |.a x,.a y,_,t=>x.get y t
 |.da l,.da cs,_,t=>yv l cs t
 |_,_,_,_=>none
def qz(x y:cd):Prop:=∀env B w v,eK env B w x v->eK env B w y v
theorem lT.iK{s:lT}{x:cd}{T:List Type}{t:dm T}{u:dm (s.LT T)}(h:s.get x t=some u):(s.S u).2=t/\qz x (s.S u).1:=by
 unfold lT.get at h
 split at h
 ·exact gf.iK h
 ·obtain⟨I,J⟩:=yw h
  exact⟨I,λenv B w v ⟨vs,e,U⟩=>⟨vs,e,J _ _ _ _ U⟩⟩
 ·cases h
abbrev yx:List (Nat×lT)->List Type->List Type
 |[],T=>T
 |c::r,T=>c.2.LT (yx r T)
def oq:(l:List (Nat×lT))->{T:List Type}->dm (yx l T)->cU×dm T
 |[],_,t=>([],t)
 |c::r,_,u=>((c.1,(c.2.S u).1)::(oq r (c.2.S u).2).1,(oq r (c.2.S u).2).2)
def EC:(l:List (Nat×lT))->cU->{T:List Type}->dm T->Option (dm (yx l T))
 |[],_,_,t=>some t
 |c::r,L,_,t=>match bm L c.1,EC r L t with
  |some x,some u=>c.2.get x u
  |_,_=>none
theorem ED:∀ {l:List (Nat×lT)} {L:cU} {T:List Type} {t:dm T} {u:dm (yx l T)},EC l L t=some u->(oq l u).2=t/\∀s sv,bm (oq l u).1 s=some sv->∃x,bm L s=some x/\qz x sv
 |[],_,_,_,_,h=>by cases h;exact⟨rfl,λ_ _ h=>by cases h⟩
 |c::r,L,_,t,u,h=>by
  unfold EC at h
  split at h
  ·rename_i x f b e
   obtain⟨I,J⟩:=ED e;obtain⟨ag,d⟩:=lT.iK h;unfold oq;rw[ag];refine⟨I,λs sv a=>?_⟩;rw[cI]at a
   split at a
   ·rename_i e;subst e;cases a;exact⟨x,b,d⟩
   ·exact J s sv a
  ·cases h
inductive fx where
 |cells (t:TypeId) (l:List c7)
 |row (t:TypeId) (g:a7)
 |J4 (t:TypeId) (g:a7)
 |gT (t:TypeId) (g:a7)
 |mp (br bj:a7)
 |cP (el:Bool) (t:TypeId) (g:a7) (d:Nat)
 |J5 (el:Bool) (t:TypeId) (g:a7) (d:Nat)
 |lg
 |hY (fi:Nat)
 |b0 (t bM:TypeId) (g:a7)
 |J6 (t bM:TypeId) (g:a7) (d:Option Nat)
abbrev fx.LT:fx->List Type->List Type
 |.cells _ l,T=>yu l T
 |.row _ g,T=>List g.D::T
 |.J4 _ g,T=>List g.D::Nat::T
 |.gT _ g,T=>List g.D::T
 |.mp br bj,T=>List (br.D×bj.D)::T
 |.cP _ _ g _,T=>List (List g.D)::Nat::T
 |.J5 _ _ g _,T=>List (List g.D)::Nat::Nat::T
 |.lg,T=>ByteArray::Nat::T
 |.hY _,T=>T
 |.b0 _ _ g,T=>List (Bool×List g.D)::T
 |.J6 _ _ g _,T=>List (Bool×List g.D)::Nat::T
def fx.S:(s:fx)->{T:List Type}->dm (s.LT T)->cD×dm T
 |.cells t l,_,u=>(.cells t (sL l u).1,(sL l u).2)
 |.row t g,_,u=>(.row t g u.1 none,u.2)
 |.J4 t g,_,u=>(.row t g u.1 (some u.2.1),u.2.2)
 |.gT t g,_,u=>(.gT t g u.1,u.2)
 |.mp br bj,_,u=>(.mp br bj u.1 none,u.2)
 |.cP b t g d,_,u=>(.cP b t g u.1 none u.2.1 d,u.2.2)
 |.J5 b t g d,_,u=>(.cP b t g u.1 (some u.2.2.1) u.2.1 d,u.2.2.2)
 |.lg,_,u=>(.lg u.1 u.2.1,u.2.2)
 |.hY m,_,u=>(.hY m,u)
 |.b0 t a g,_,u=>(.b0 t a g u.1 none none,u.2)
 |.J6 t a g d,_,u=>(.b0 t a g u.1 none (some (u.2.1,d)),u.2.2)
def QT{g g':a7}(h:g'=g)(l:List (Bool×List g'.D)):List (Bool×List g.D):=h ▸ l
def QU{g g':a7}(h:g'=g)(l:List (List g'.D)):List (List g.D):=h ▸ l
def acn{br a bj b:a7}(h:a=br)(J:b=bj)(l:List (a.D×b.D)):List (br.D×bj.D):=h ▸ J ▸ l
def fx.get:(s:fx)->cD->{T:List Type}->dm T->Option (dm (s.LT T))
 |.cells t l,.cells a cs,_,u=>match beq a t with
  |true=>AW l cs u
  |false=>none
 |.row t g,.row a g' l _,_,u=>match beq a t,decEq g' g with
  |true,isTrue h=>some (pQ h l,u)
  |_,_=>none
 |.J4 t g,.row a g' l (some c),_,u=>match beq a t,decEq g' g with
  |true,isTrue h=>some (pQ h l,c,u)
  |_,_=>none
 |.gT t g,.gT a g' l,_,u=>match beq a t,decEq g' g with
  |true,isTrue h=>some (pQ h l,u)
  |_,_=>none
 |.gT t g,.row a g' l _,_,u=>match beq a t,decEq g' g with
  |true,isTrue h=>some (pQ h l,u)
  |_,_=>none
 |.mp br bj,.mp n o l _,_,u=>match decEq n br,decEq o bj with
  |isTrue h,isTrue J=>some (acn h J l,u)
  |_,_=>none
 |.cP j t g d,.cP e a g' l _ i b,_,u=>match decEq e j,beq a t,beq b d,decEq g' g with
  |isTrue _,true,true,isTrue h=>some (QU h l,i,u)
  |_,_,_,_=>none
 |.J5 j t g d,.cP e a g' l (some c) i b,_,u=>match decEq e j,beq a t,beq b d,decEq g' g with
  |isTrue _,true,true,isTrue h=>some (QU h l,i,c,u)
  |_,_,_,_=>none
 |.lg,.lg s p,_,u=>some (s,p,u)
 |.hY m,.hY q,_,u=>match beq q m with
  |true=>some u
  |false=>none
 |.b0 t k g,.b0 a f g' l _ none,_,u=>match beq a t,beq f k,decEq g' g with
  |true,true,isTrue h=>some (QT h l,u)
  |_,_,_=>none
 |.J6 t k g d,.b0 a f g' l _ (some (i,b)),_,u=>match beq a t,beq f k,decEq b d,decEq g' g with
  |true,true,isTrue _,isTrue h=>some (QT h l,i,u)
  |_,_,_,_=>none
 |_,_,_,_=>none
def aco(id:Nat)(x y:cD):Prop:=∀env B w c,eM env B w id x c->eM env B w id y c
theorem fx.iK{s:fx}{x:cD}{T:List Type}{t:dm T}{u:dm (s.LT T)}(id:Nat)(h:s.get x t=some u):(s.S u).2=t/\aco id x (s.S u).1:=by
 unfold fx.get at h
 split at h
 ·split at h
  ·rename_i e
   rw[eq_of_beq_eq_true e];obtain⟨I,J⟩:=J2 h;exact⟨I,λenv B w c ⟨b,vs,e,U,ag⟩=>⟨b,vs,e,U,J _ _ _ _ ag⟩⟩
  ·cases h
 ·split at h
  ·rename_i J e _
   subst J;rw[eq_of_beq_eq_true e];cases h;exact⟨rfl,λenv B w c ⟨A,k,xs,e,U,ag,_⟩=>⟨A,k,xs,e,U,ag,λ_ e=>by cases e⟩⟩
  ·cases h
 ·split at h
  ·rename_i J e _
   subst J;rw[eq_of_beq_eq_true e];cases h;exact⟨rfl,λenv B w c h=>h⟩
  ·cases h
 ·split at h
  ·rename_i J e _
   subst J;rw[eq_of_beq_eq_true e];cases h;exact⟨rfl,λenv B w c h=>h⟩
  ·cases h
 ·split at h
  ·rename_i J e _
   subst J;rw[eq_of_beq_eq_true e];cases h;exact⟨rfl,λenv B w c ⟨A,k,xs,e,U,ag,_⟩=>⟨A,k,e,.inl ⟨xs,U,ag⟩⟩⟩
  ·cases h
 ·split at h
  ·rename_i I J _ _
   subst I;subst J;cases h;exact⟨rfl,λenv B w c ⟨b,i,k,e,U,ag,a,_⟩=>⟨b,i,k,e,U,ag,a,λ_ e=>by cases e⟩⟩
  ·cases h
 ·split at h
  ·rename_i he ag _ I J _
   subst he;subst ag;rw[eq_of_beq_eq_true I,eq_of_beq_eq_true J];cases h;exact⟨rfl,λenv B w c ⟨A,k,ys,g,c',m,e,U,I,hi,J,_,a⟩=>⟨A,k,ys,g,c',m,e,U,I,hi,J,(λ_ e=>by cases e),a⟩⟩
  ·cases h
 ·split at h
  ·rename_i he ag _ I J _
   subst he;subst ag;rw[eq_of_beq_eq_true I,eq_of_beq_eq_true J];cases h;exact⟨rfl,λenv B w c h=>h⟩
  ·cases h
 ·cases h
  exact⟨rfl,λenv B w c h=>h⟩
 ·split at h
  ·rename_i e
   rw[eq_of_beq_eq_true e];cases h;exact⟨rfl,λenv B w c h=>h⟩
  ·cases h
 ·split at h
  ·rename_i ag I J _
   subst ag;rw[eq_of_beq_eq_true I,eq_of_beq_eq_true J];cases h;exact⟨rfl,λenv B w c ⟨A,k,ys,f,bb,e,U,a,d,_⟩=>⟨A,k,ys,f,bb,e,U,a,d,λ_ e=>by cases e⟩⟩
  ·cases h
 ·split at h
  ·rename_i he ag I J _ _
   subst he;subst ag;rw[eq_of_beq_eq_true I,eq_of_beq_eq_true J];cases h;exact⟨rfl,λenv B w c ⟨A,k,ys,f,bb,e,U,a,d,_⟩=>⟨A,k,ys,f,bb,e,U,a,d,λ_ e=>by cases e⟩⟩
  ·cases h
 ·cases h
abbrev nO:List (Nat×fx)->List Type->List Type
 |[],T=>T
 |c::r,T=>c.2.LT (nO r T)
def jZ:(l:List (Nat×fx))->{T:List Type}->dm (nO l T)->bC×dm T
 |[],_,t=>([],t)
 |c::r,_,u=>((c.1,(c.2.S u).1)::(jZ r (c.2.S u).2).1,(jZ r (c.2.S u).2).2)
def vZ:(l:List (Nat×fx))->bC->{T:List Type}->dm T->Option (dm (nO l T))
 |[],[],_,t=>some t
 |c::r,x::s,_,t=>match beq c.1 x.1,vZ r s t with
  |true,some u=>c.2.get x.2 u
  |_,_=>none
 |_,_,_,_=>none
theorem uj:∀ {l:List (Nat×fx)} {h:bC} {T:List Type} {t:dm T} {u:dm (nO l T)},vZ l h t=some u->(jZ l u).2=t/\∀env B w H,bJ env B w h H->bJ env B w (jZ l u).1 H
 |[],[],_,_,_,h=>by cases h;exact⟨rfl,λ_ _ _ _ h=>h⟩
 |c::r,x::s,_,t,u,h=>by
  unfold vZ at h
  split at h
  ·rename_i d a e
   obtain⟨I,J⟩:=uj e;obtain⟨ag,b⟩:=fx.iK x.1 h;unfold jZ;rw[ag];refine⟨I,λenv B w H ⟨q,H',e,bh,ad⟩=>⟨q,H',e,?_,J _ _ _ _ ad⟩⟩;rw[eq_of_beq_eq_true a];exact b _ _ _ _ bh
  ·cases h
 |[],_::_,_,_,_,h=>by cases h
 |_::_,[],_,_,_,h=>by cases h
structure et where
 L:List (Nat×lT)
 H:List (Nat×fx)
 sM:b6:=[]
 nc:b6:=[]
abbrev et.T(s:et):List Type:=yx s.L (nO s.H [])
abbrev et.D(s:et):Type:=AV s.T
section
structure bw(X:bu) where
 f:FuncId
 fn:Func
 A:eH
 c3:List (Nat×fx)
 aY:Type
 kn:aY
 m:dm (jY A (nO c3 []))->Option aY
 out:dm (jY A (nO c3 []))->aY->cd×bC
 az:X.P.funcs[f]?=some fn
 bc : (fn.name == "runtime.NumGoroutine") = false
 ad:fn.body.isNone=false
 ok:∀d r,m d=some r->AC X f (ix A d).1 (jZ c3 (ix A d).2).1 (λsv h=>sv=(out d r).1/\h=(out d r).2)
def rG:dZ->dZ
 |[]=>[]
 |(i,j)::r=>(j,i)::rG r
theorem J9:∀ {aH:dZ} {i j:Nat},(j,i)∈rG aH↔(i,j)∈aH
 |[],_,_=>by simp[rG]
 |(a,b)::r,i,j=>by
  unfold rG;rw[List.mem_cons,List.mem_cons,J9];simp only[Prod.mk.injEq];constructor<;>rintro(⟨I,J⟩|h)
  ·exact .inl ⟨J,I⟩
  ·exact .inr h
  ·exact .inl ⟨J,I⟩
  ·exact .inr h
theorem QV:∀aH:dZ,tU (rG aH)=lP aH
 |[]=>rfl
 |(a,b)::r=>by
  unfold rG tU lP;rw[QV r]
theorem EG{aH:dZ}(I:(tU aH).Nodup)(J:(lP aH).Nodup){i j:Nat}:bm (rG aH) j=some i↔bm aH i=some j:=by
 constructor
 ·intro h
  exact AA I (J9.1 (x8 h))
 ·intro h
  exact AA (by rw[QV];exact J) (J9.2 (x8 h))
def pR(aH a:dZ):b6->bC->Option (bC×bC)
 |[],H=>some ([],H)
 |i::is,H=>match bm aH i with
  |some j=>match bm H j with
   |some b'=>match b'.dv a,pR aH a is (nJ j H)with
    |some b,some (h,H')=>some ((i,b)::h,H')
    |_,_=>none
   |none=>none
  |none=>none
section
variable {X:bu} {R:Nat->Prop} {W:World} {aE:fj} {n:Nat} {aq:b6} {env QW:Nat->Loc} {B:Nat->Prop} {ak:World} {H:c2} {st st':aO} {a aX:Act} {w w':World} {o:Oper} {d:Nat} {aH:dZ}
theorem Ka(I:(tU aH).Nodup)(J:(lP aH).Nodup)(he:∀i j,bm aH i=some j->QW i=env j):∀ {is:b6} {l h l':bC} {C:c2},pR aH (rG aH) is l=some (h,l')->bJ env B ak l C->∃a d,C.Perm (a++d)/\bJ QW B ak h a/\bJ env B ak l' d
 |[],l,h,l',C,al,cJ=>by cases al;exact⟨[],C,List.Perm.refl _,rfl,cJ⟩
 |i::is,l,h,l',C,al,cJ=>by
  unfold pR at al
  split at al
  ·rename_i j f
   split at al
   ·rename_i b' ae
    split at al
    ·rename_i b s r ad k
     cases al;obtain⟨c,H2,e,m,n⟩:=cJ.erase ae;obtain⟨a,d,o,p,q⟩:=Ka I J he k n;have g:=(EG I J).2 f;exact⟨c::a,d,m.trans (List.Perm.cons _ o),⟨c,a,rfl,(eM.dv (λj i h=>he i j ((EG I J).1 h)) g ad).1 e,p⟩,q⟩
    ·cases al
   ·cases al
  ·cases al
structure yy(X:bu)(e:bw X) where
 d:dm (jY e.A (nO e.c3 []))
 H1:bC
def rH(X:bu)(n:Nat)(e:bw X)(aH:dZ)(H:bC)(args:dO):Option (yy X e):=
 match vH n aH,tT (rG aH) args,pR aH (rG aH) (e.c3.map (·.1)) H with
 |true,some a,some (I,H1)=>match vZ (T:=[]) e.c3 I ()with
  |some u=>match yv e.A a u with
   |some d=>some ⟨d,H1⟩
   |none=>none
  |none=>none
 |_,_,_=>none
def after(X:bu)(e:bw X)(aH:dZ)(st:aO)(d:Nat)(p:yy X e)(r:e.aY):Option aO:=
 match ((e.out p.d r).1).dv aH,sA aH (e.out p.d r).2 with
 |some a,some b=>match aH with
  |[]=>some ⟨(d,a)::st.L,b++st.H⟩
  |_=>some ⟨(d,a)::oV (kD (jZ e.c3 (ix e.A p.d).2).1 aH) st.L,b++iW (kD (jZ e.c3 (ix e.A p.d).2).1 aH) (kD (jZ e.c3 (ix e.A p.d).2).1 aH) p.H1⟩
 |_,_=>none
def uk(X:bu)(n:Nat)(o:Oper)(ee:bp->Bool)(st st':aO):Prop:=∀(R:Nat->Prop) (W:World) (aE:fj) (aq:b6) (env:Nat->Loc) (B:Nat->Prop) (ak:World) (H:c2) (a:Act) (w:World),bK X R W aE n aq env B ak H st a w->∀(KK:Act->World->Prop) (l:List Oper),
 (∀aX w' env' B' b H',bK X R W aE n aq env' B' b H' st' aX w'->(∀k,B k->B' k)->c9 (λk=>R k\/B k) ak b->(∀c∈H,ee c=true->c∈H')->KK aX w')->fh X.P l.toArray o KK a w
theorem hg.c(h:hg X n o st st'):uk X n o (λ_=>false) st st':=λR W aE aq env B ak H a w ah KK l b=>h R W aE aq env B ak H a w ah KK l λaX w' env' H' c=>b aX w' env' B ak H' c (λ_ h=>h) (c9.refl _ _) (λ_ _ h=>by cases h)
def Callee(X:bu)(st:aO)(o:Oper)(f:FuncId)(xs:eE)(pre post:dO):Prop:=
 ∃a,(o.op=.call { callee:=.value (.func f),args:=xs.toArray,argTypes:=a }/\pre=[]/\post=[]) \/
  (∃s ids,o.op=.call { callee:=.value (.tmp s),args:=xs.toArray,argTypes:=a }/\bm st.L s=some (.c (.fn f ids))/\pre=[]/\post=oX ids) \/
  ∃s id,o.op=.call { callee:=.value (.tmp s),args:=xs.toArray,argTypes:=a }/\bm st.L s=some (.c (.jD f id))/\pre=[.c (.ptr id 0)]/\post=[]
def EI(X:bu)(n:Nat)(st:aO)(xs:eE)(args:dO):Prop:=∀(R:Nat->Prop) (W:World) (aE:fj) (aq:b6) (env:Nat->Loc) (B:Nat->Prop) (ak:World) (H:c2) (a:Act) (w:World),bK X R W aE n aq env B ak H st a w->∃vs,jB (full a) xs=some vs/\dw env B ak args vs
theorem EI.of{xs:eE}{args:dO}{c:Bool}(h:oW X st.L xs=some (c,args))(U:c=true):EI X n st xs args:=λ_ _ _ _ _ _ _ _ _ _ ah=>vJ ah h U
def v7:cD->Bool
 |.cells _ _=>false
 |_=>true
def sN(j:Nat):bC->Bool
 |[]=>true
 |(k,_)::r=>!beq k j&&sN j r
def v8(H:bC):dZ->Bool
 |[]=>true
 |(i,j)::r=>(ble hZ i || sN j H)&&v8 H r
def qA(H:bC):dZ->Bool
 |[]=>true
 |(_,j)::r=>sN j H&&qA H r
def sO(ct:b6):bC->Bool
 |[]=>true
 |(j,b)::r=>(!ct.elem j || v7 b)&&sO ct r
def yz(H:bC)(aH:dZ):Bool:=v8 H aH&&sO (lP aH) H
def wa(H:bC)(aH:dZ)(c:bp):Bool:=qA H aH || (jm c&&yz H aH)
theorem QX{j:Nat}:∀ {H:bC},sN j H=true->∀p∈H,p.1≠j
 |(k,b)::r,h,p,al=>by
  unfold sN at h;rw[and_eq_true]at h
  rcases List.mem_cons.1 al with rfl|al
  ·intro e
   have I:=h.1;rw[show k=j from e,beq_refl]at I;cases I
  ·exact QX h.2 p al
theorem QY{j:Nat}:∀ {H:bC},sN j H=true->bm H j=none
 |[],_=>rfl
 |(k,b)::r,h=>by
  unfold sN at h;rw[and_eq_true]at h;rw[cI,if_neg (λe=>by have I:=h.1;rw[e,beq_refl]at I;cases I)];exact QY h.2
theorem QZ{ct:b6}:∀ {l:bC},(∀p∈l,p.1 ∉ ct)->tV ct l=true
 |[],_=>rfl
 |(k,b)::r,h=>by
  unfold tV;have I:=h (k,b) mem_cons_self;rw[and_eq_true];exact⟨by simpa using I,QZ λp al=>h p (mem_cons_of_mem _ al)⟩
theorem Kc{h H:bC}:∀ {aH:dZ},v8 H aH=true->∀j∈kD h aH,sN j H=true
 |[],_,j,aL=>by cases aL
 |(i,k)::r,az,j,aL=>by
  unfold v8 at az;rw[and_eq_true,or_eq_true]at az;unfold kD at aL
  split at aL
  ·exact Kc az.2 j aL
  ·rename_i aa
   rcases List.mem_cons.1 aL with rfl|aL
   ·rcases az.1 with I|I
    ·unfold Ec at aa
     rw[I]at aa;cases aa
    ·exact I
   ·exact Kc az.2 j aL
theorem Q0{H:bC}:∀ {aH:dZ},qA H aH=true->v8 H aH=true
 |[],_=>rfl
 |(i,j)::r,h=>by
  unfold qA at h;rw[and_eq_true]at h;unfold v8;rw[h.1,Q0 h.2,Bool.or_true]
  rfl
theorem Q1{H:bC}:∀ {aH:dZ},qA H aH=true->∀i j,(i,j)∈aH->sN j H=true
 |(_,_)::r,h,i,j,hm=>by
  unfold qA at h;rw[and_eq_true]at h
  rcases List.mem_cons.1 hm with hm|hm
  ·cases hm;exact h.1
  ·exact Q1 h.2 i j hm
theorem Q2{j:Nat}:∀ {l:bC} {p:Nat×cD},p∈nJ j l->p∈l
 |(k,b)::r,p,h=>by
  unfold nJ at h
  split at h
  ·exact mem_cons_of_mem _ h
  ·rcases List.mem_cons.1 h with rfl|h
   ·exact mem_cons_self
   ·exact mem_cons_of_mem _ (Q2 h)
theorem Kd{aH d:dZ}:∀ {is:b6} {l h l':bC},pR aH d is l=some (h,l')->∀p∈l',p∈l
 |[],_,_,_,al,p,a=>by cases al;exact a
 |i::is,l,h,l',al,p,a=>by
  unfold pR at al
  split at al
  ·split at al
   ·split at al
    ·rename_i b f e ad c
     cases al;exact Q2 (Kd c p a)
    ·cases al
   ·cases al
  ·cases al
theorem acp{aH b:dZ}:∀ {is:b6} {l h l':bC},qA l aH=true->pR aH b is l=some (h,l')->h=[]/\l'=l
 |[],_,_,_,_,al=>by cases al;exact⟨rfl,rfl⟩
 |i::is,l,h,l',bc,al=>by
  unfold pR at al
  split at al
  ·rename_i j a
   split at al
   ·rename_i b' ae
    rw[QY (Q1 bc i j (x8 a))]at ae;cases ae
   ·cases al
  ·cases al
theorem Q3{h H H1:bC}{aH:dZ}(az:v8 H aH=true)(a:∀p∈H1,p∈H):tV (kD h aH) H1=true:=QZ λp al b=>QX (Kc az p.1 b) p (a p al) rfl
theorem acq{aH:dZ}{b b':cD}(h:b.dv aH=some b')(ad:v7 b=true):v7 b'=true:=by
 unfold cD.dv at h
 split at h
 all_goals first
  |(cases h;rfl)
  |(exfalso;simp[v7]at ad;done)
  |(split at h<;>first|(cases h;rfl)|cases h)
theorem Q4{ct:b6}:∀ {l:bC} {j:Nat} {b:cD},sO ct l=true->j∈ct->bm l j=some b->v7 b=true
 |[],_,_,_,_,h=>by cases h
 |(k,oM)::r,j,b,bc,a,h=>by
  simp only[sO,and_eq_true]at bc;rw[cI]at h
  split at h
  ·rename_i e;subst e;cases h
   have I:=bc.1;rw[show ct.elem _=true from List.elem_eq_true_of_mem a]at I
   simpa using I
  ·exact Q4 bc.2 a h
theorem Q5{ct:b6}{j:Nat}:∀ {l:bC},sO ct l=true->sO ct (nJ j l)=true
 |[],_=>rfl
 |(k,oM)::r,bc=>by
  have a:=bc;simp only[sO,and_eq_true]at bc;unfold nJ
  split
  ·exact bc.2
  ·simp only[sO,and_eq_true]
   exact⟨bc.1,Q5 bc.2⟩
theorem Q6{aH d:dZ}:∀ {is:b6} {l h l':bC},sO (lP aH) l=true->pR aH d is l=some (h,l')->∀p∈h,v7 p.2=true
 |[],_,_,_,_,al=>by cases al;intro p al;cases al
 |i::is,l,h,l',bc,al=>by
  unfold pR at al
  split at al
  ·rename_i j a
   split at al
   ·rename_i b' ae
    split at al
    ·rename_i b f e ad c
     cases al;intro p al
     rcases List.mem_cons.1 al with rfl|al
     ·exact acq ad (Q4 bc (Jr (x8 a)) ae)
     ·exact Q6 (Q5 bc) c p al
    ·cases al
   ·cases al
  ·cases al
theorem bJ.rh{env:Nat->Loc}{B:Nat->Prop}{w:World}:∀ {l:bC} {H:c2},bJ env B w l H->(∀p∈l,v7 p.2=true)->∀c∈H,jm c=false
 |[],_,h,_,c,U=>by rw[show _=[] from h]at U;cases U
 |(k,b)::r,_,⟨c0,H',e,I,J⟩,bc,c,U=>by
  subst e
  rcases List.mem_cons.1 U with rfl|U
  ·exact I.oP λt cs e=>by
    have:=bc _ mem_cons_self
    rw[e]at this;cases this
  ·exact bJ.rh J (λp al=>bc p (mem_cons_of_mem _ al)) c U
theorem Q7(e:bw X){xs:eE}{pre post L:dO}(aH:dZ)(M:Callee X st o e.f xs pre post)(D:o.guard=none/\o.dst=some d)(ay:blt d n=true)(aG:EI X n st xs L){p:yy X e}(al:rH X n e aH st.H (pre++(L++post))=some p){r:e.aY}(ao:e.m p.d=some r)(bh:after X e aH st d p r=some st'):uk X n o (wa st.H aH) st st':=by
 intro R W aE aq env B ak H a w ah KK l P;unfold rH at al
 split at al
 ·rename_i aQ I H1 ac aK g
  split at al
  ·rename_i u hu
   split at al
   ·rename_i z aN
    cases al;have N:=ac;simp only[vH,and_eq_true]at N;obtain⟨⟨ot,aO⟩,aU⟩:=N;have af:=vI ot;have ag:=vI aO;obtain⟨vs,G,g2⟩:=aG _ _ _ _ _ _ _ _ _ _ ah;obtain⟨aR,aL⟩:=uj hu;obtain⟨aP,am⟩:=yw aN;have he:∀i j,bm aH i=some j->(λi=>match bm aH i with|some j=>env j|none=>Loc.no) i=env j:=λi j aD=>by simp only[aD]
    obtain⟨t,aY,E,A,aB⟩:=Ka af ag he g ah.heap;have an:bZ B ak t w:=by
     have f:=(ah.aU.perm (E.append_right (aq.map dE))).e2 (H':=t) (by rw[append_assoc];exact sublist_append_left _ _);exact⟨⟨f.below.os,f.below.tape,f.below.output,f.below.size,λk aa=>f.below.block k (.inr aa)⟩,λk aa=>f.base k (.inr aa),λc U=>(f.ok c U).base λb ad aa=>((f.ok c U).lt ad).1 (.inr aa),f.apart⟩
    have cJ:bJ (λi=>match bm aH i with|some j=>env j|none=>Loc.no) B ak (jZ e.c3 (ix e.A z).2).1 t:=by rw[aP];exact aL _ _ _ _ A
    have key:∀C,dw env B ak (pre++(L++post)) C->qc X.P e.f C.toArray w (pI X (λi=>match bm aH i with|some j=>env j|none=>Loc.no) B t w (λsv h=>sv=(e.out z r).1/\h=(e.out z r).2)):=λC h=>by
     have J:=(dw.dv (env':=λi=>match bm aH i with|some j=>env j|none=>Loc.no) (λj i aC=>he i j ((EG af ag).1 aC)) aK).1 h;exact e.ok z r ao B ak _ C t w (λi x ai=>ah.eg i x ai) (am _ _ _ _ J) cJ an
    have fin:∀v aX w',pI X (λi=>match bm aH i with|some j=>env j|none=>Loc.no) B t w (λsv h=>sv=(e.out z r).1/\h=(e.out z r).2) v w'->df n (kW aq aE) ((d,v)::full a) aX->KK aX w':=λv aX w' y m=>by
     obtain⟨sv,aT,⟨rfl,rfl⟩,aJ⟩:=ah.called ac E cJ aB y m;unfold after at bh
     split at bh
     ·rename_i V Y au av
      obtain⟨env',B',F,H',Q,Z,S,ab⟩:=aJ V Y au av;have O:∀c∈H,wa st.H aH c=true->c∈H':=λc U aS=>by
       unfold wa at aS;rw[or_eq_true]at aS;have ca:=E.mem_iff.1 U
       rcases aS with aS|aS
       ·obtain⟨ap,aV⟩:=acp aS g
        have aI:t=[]:=by rw[ap]at A;exact A
        rw[aI]at ca;exact ab (Q3 (Q0 aS) (Kd g)) c (by simpa using ca)
       ·simp only[and_eq_true,yz]at aS
        obtain⟨aF,aM,aw⟩:=aS
        rcases List.mem_append.1 ca with ca|ca
        ·have:=A.rh (Q6 aw g) c ca
         rw[aF]at this;cases this
        ·exact ab (Q3 aM (Kd g)) c ca
      split at bh
      ·cases bh
       have ar:H1=st.H:=by
        cases h1:e.c3 with
        |nil=>rw[h1]at g;cases g;rfl
        |cons q _=>rw[h1]at g;cases g
       have T:bK X R W aE n aq env' B' F H' ⟨(d,V)::oV [] st.L,Y++iW [] [] H1⟩ aX w':=Q;rw[Jx,Jy,ar]at T;exact P aX w' env' B' F H' T Z S O
      ·cases bh
       exact P aX w' env' B' F H' Q Z S O
     ·cases bh
    obtain⟨aW,M⟩:=M
    rcases M with⟨aA,rfl,rfl⟩|⟨s,ids,aA,ae,rfl,rfl⟩|⟨s,id,aA,ae,rfl,rfl⟩
    ·exact O4 ah.sym aA D ay e.az e.bc e.ad G (key vs (by simpa using g2)) λv aX w' y m=>fin v aX w' y m
    ·obtain⟨gb,K,ax,rfl,az⟩:=ah.has _ _ ae
     exact Pk ah.sym aA D ay (im K) e.az e.bc e.ad G (key (vs++ax) (by simpa using g2.append (ya az))) λv aX w' y m=>fin v aX w' y m
    ·obtain⟨gb,K,b,aj,rfl⟩:=ah.has _ _ ae
     exact ace ah.sym aA D ay (im K) e.az e.bc e.ad G (key (.pointer (some ⟨b,0,none⟩)::vs) (by rw[append_nil];exact⟨_,_,rfl,⟨b,aj,rfl⟩,g2⟩)) λv aX w' y m=>fin v aX w' y m
   ·cases al
  ·cases al
 ·cases al
end
end
section
set_option linter.unusedSectionVars false
section
variable {X:bu} {M:Bool} {n:Nat} {r:Option Nat} {st:aO} {Q:Exit->aO->Prop} {ops rest:List Oper} {o:Oper} {d:Nat}
theorem acs(br bj:a7){t:TypeId}(c:o.op=.makeMap t none)(b:o.guard=none/\o.dst=some d)(ay:blt d n=true)
  : hg X n o st ⟨(d,.c (.dY d))::gu d .dead st.L,(d,.mp br bj [] none)::ew d .dead st.H⟩:=by
 intro R W aE aq env B ak H a w ah KK g f;refine(iD ah.cf b.1 b.2 (ef ay) (v:=.map (some w.heap.size)) (w':=w.alloc (.map #[] 0)) (by simp[execOp,c,Instr.makeMap,newObj,Sem.run]) λaX e=>?_);obtain⟨H',_,ag⟩:=ah.pF ay (blk:=.mp br bj [] none) (sv:=.c (.dY d)) (ah.aU.alloc (.map #[] 0)) ⟨_,[],0,fK,rfl,rfl,⟨List.Pairwise.nil,λ_ h=>by cases h⟩,λ_ h=>by cases h⟩ ⟨_,fK,rfl⟩ e;exact f aX _ _ H' (ag)
theorem acu(f:X.a6.ok X.P){t fQ gE:TypeId}{bE p dS:cr}{k:IntKind}{bj:a7}{u x:Operand}{id:Nat}{l:List (Int×bj.D)}{kH:Option (List MapEntry×Nat)}{z:Int}{g:Bool}{bN:bq}(r:o.op=.lookup t u x false)(i:o.guard=none/\o.dst=some d)(ay:blt d n=true)(bk:X.a6.find t=some bE)(dq:bE.ti.desc=.map fQ gE)(aa:X.a6.find fQ=some p)(q:p.ti.desc=.int k)(he:X.a6.find gE=some dS)(bO:∀B w,eL B w bj bj.zero dS.ti.zero)(hu:bz X st.L u=some (true,.c (.dY id)))(ai:bz X st.L x=some (g,.c (.val (.int k z))))(A:g=true)(C:bm st.H id=some (.mp (.int k) bj l kH))(nM:rC bj ((dk (.int k) bj l z).getD bj.zero)=some bN)
  : hg X n o st ⟨(d,.a bN)::st.L,st.H⟩:=by
 intro R W aE aq env B ak H a w ah KK Q F;obtain⟨S,I,b,ad,rfl⟩:=ah.aI hu rfl;obtain⟨vx,J,ag⟩:=ah.aI ai A;rw[show vx=_ from ag]at J;obtain⟨c,K,⟨b',P,clock,m,rfl,G,dG,_⟩,E⟩:=ah.heap.gU C;rw[ad]at m;cases m;have M:=(ah.aU.ok _ E.more.mem).2;have h:=(cm.get f bk).ti.1;rw[dq]at h;have e:=(cm.get f aa).ti.1;rw[q]at e;have L:=bI.so (cm.get f he).ti w;have O:∃v,(Instr.lookup t (.map (some b)) (.int k z) false).run X.P w=.ok v w/\eL B ak bj ((dk (.int k) bj l z).getD bj.zero) v:=by
  unfold Instr.lookup;simp only[Sem.run_bind,run_underlying h,Result.andThen_ok,MapKept.run_getObj_map M,IJ e,Sem.run_pure]
  rcases G.JV 0 with⟨au,aD⟩|⟨y,j,v,au,aD,a1,_⟩
  ·refine⟨dS.ti.zero,?_,by rw[au];exact bO _ _⟩
   simp[MapKept.run_findKey e aD,L,Result.andThen]
  ·refine⟨v,?_,by rw[au];exact a1⟩
   simp[MapKept.run_findKey e aD,Result.andThen]
 obtain⟨v,D,N⟩:=O;refine(iD ah.cf i.1 i.2 (ef ay) (v:=v) (w':=w) ?_ λaX s=>?_)
 ·simp[execOp,r,ah.cf.aI I,ah.cf.aI J,D]
 ·exact F aX _ env H (ah.set (N.bN nM) s)
theorem acv(r:X.a6.ok X.P){t:TypeId}{bE:cr}{u x:Operand}{s:dV}{k:IntKind}{z:Int}{g g2:Bool}(i:o.op=.index t u x)(f:o.guard=none/\o.dst=some d)(ay:blt d n=true)(bk:X.a6.find t=some bE)(dq:bE.ti.desc=.string)(hu:bz X st.L u=some (g,.c (.str s)))(m:g=true)(ai:bz X st.L x=some (g2,.c (.val (.int k z))))(C:g2=true)(ad:a8 z s.length=true)
  : hg X n o st ⟨(d,.c (.val (.int .u8 ((s.getD z.toNat 0).toNat:Int))))::st.L,st.H⟩:=by
 intro R W aE aq env B ak H a w ah KK F h;obtain⟨D,I,J⟩:=ah.aI hu m;rw[show D=gl s from J]at I;obtain⟨vx,ag,q⟩:=ah.aI ai C;rw[show vx=_ from q]at ag;obtain⟨j,rfl,c,G⟩:=nE ad;have b:=(cm.get r bk).ti.1;rw[dq]at b;have E:(ByteArray.mk s.toArray)[j]?=some (s.getD j 0):=by
  have e:j<(ByteArray.mk s.toArray).size:=by simpa [ByteArray.size] using c
  have y:(ByteArray.mk s.toArray)[j]?=some ((ByteArray.mk s.toArray)[j]'e):=by
   exact getElem?_pos (ByteArray.mk s.toArray) j e
  rw[y,List.getD_eq_getElem?_getD,getElem?_eq_getElem c]
  rfl
 refine(iD ah.cf f.1 f.2 (ef ay) (v:=.int .u8 ((s.getD j 0).toNat:Int)) (w':=w) ?_ λaX l=>?_)
 ·have p:0<=(j:Int):=Int.natCast_nonneg j
  have A:(Instr.index t (gl s) (.int k (j:Int))).run X.P w=.ok (.int .u8 ((s.getD j 0).toNat:Int)) w:=by
   simp only[Instr.index,gl,asIntOf,Sem.run_bind,Sem.run_pure,Result.andThen_ok,run_underlying b,p,if_true,Int.toNat_natCast,E]
  simp[execOp,i,ah.cf.aI I,ah.cf.aI ag,A]
 ·simp only[Int.toNat_natCast]at h
  exact h aX _ env H (ah.set rfl l)
theorem acw(D:X.a6.ok X.P){t fQ gE:TypeId}{bE N:cr}{k:IntKind}{bj:a7}{u x y:Operand}{id:Nat}{l:List (Int×bj.D)}{kH:Option (List MapEntry×Nat)}{z:Int}{g g2 c:Bool}{ej:bq}{gx:bj.D}(Q:o.op=.insert t u x y)(E:o.guard=none/\o.dst=none)(bk:X.a6.find t=some bE)(dq:bE.ti.desc=.map fQ gE)(aa:X.a6.find fQ=some N)(O:N.ti.desc=.int k)(hu:bz X st.L u=some (true,.c (.dY id)))(ai:bz X st.L x=some (g,.c (.val (.int k z))))(V:g=true)(aG:bz X st.L y=some (g2,ej))(ac:g2=true)(Z:bm st.H id=some (.mp (.int k) bj l kH))(ar:dec bj ej.cells=some (c,gx,[]))(U:c=true)(ae:mu bj ej=true)
  : hg X n o st ⟨st.L,fc id (.mp (.int k) bj (e6 (.int k) bj l z gx) none) st.H⟩:=by
 intro R W aE aq env B ak H a w ah KK aw af;obtain⟨ax,I,b,ad,rfl⟩:=ah.aI hu rfl;obtain⟨vx,J,ag⟩:=ah.aI ai V;rw[show vx=_ from ag]at J;obtain⟨vy,Y,S⟩:=ah.aI aG ac;have M:=eL.vS ar U ae S;obtain⟨eA,K,⟨b',r,clock,G,rfl,L,dG,_⟩,F,aj⟩:=ah.ql (b':=.mp (.int k) bj (e6 (.int k) bj l z gx) none) Z;rw[ad]at G;cases G;have s:=(ah.aU.ok _ F.mem).2;have A:=(cm.get D bk).ti.1;rw[dq]at A;have m:=(cm.get D aa).ti.1;rw[O]at m;have au:∃d i,(Instr.mapUpdate t (.map (some b)) (.int k z) vy).run X.P w=.ok () { w with heap:=w.heap.setIfInBounds b (.map d.toArray i) }/\gP B ak (.int k) bj (e6 (.int k) bj l z gx) d/\Stamped d i:=by
  unfold Instr.mapUpdate;simp only[Sem.run_bind,run_underlying A,Result.andThen_ok,MapKept.run_getObj_map s,IJ m]
  rcases L.setInt M (z:=z) 0 with⟨a1,ca⟩|⟨j,v,e,a1,ca,di,am⟩
  ·refine⟨r++[MapEntry.mk (.int k z) vy clock],clock+1,?_,?_,?_⟩
   ·simp only[MapKept.run_findKey m a1,Result.andThen_ok,MapKept.run_setObj_map _ s]
    simp
   ·rw[ca]
    have ao:eL B ak (.int k) z (.int k z):=show [Value.int k z]=[Value.int k z] from rfl
    exact gP.snoc ao M L
   ·refine⟨?_,?_⟩
    ·rw[List.map_append,List.pairwise_append]
     exact⟨dG.1,by simp,λp al q C=>by simp at C;subst C;exact dG.2 p al⟩
    ·intro p al
     rw[List.map_append,List.mem_append]at al
     rcases al with al|al
     ·exact Nat.lt_succ_of_lt (dG.2 p al)
     ·simp at al;omega
  ·refine⟨r.modify j λe=>{ e with key:=.int k z,val:=vy },clock,?_,am,?_⟩
   ·rw[zero_add]at a1
    have ap:(Instr.keyThatStays (((r.toArray[j]?).map (·.key)).getD (.int k z)) (.int k z)).run X.P w=.ok (.int k z) w:=by
     have:((r.toArray[j]?).map (·.key)).getD (.int k z)=.int k z:=by simp[ca,di]
     rw[this]
     simp[Instr.keyThatStays,Instr.sameBits]
    simp only[MapKept.run_findKey m a1,Result.andThen_ok,Sem.run_bind,ap,MapKept.run_setObj_map _ s]
    simp
   ·rw[Stamped,AQ (f:=λe=>{ e with key:=.int k z,val:=vy }) (λ_=>rfl)]
    exact dG
 obtain⟨d,i,ab,P,av⟩:=au;refine(Dz ah.cf E.1 E.2 (w':={ w with heap:=w.heap.setIfInBounds b (.map d.toArray i) }) ?_ λaX T=>?_)
 ·simp[execOp,Q,ah.cf.aI I,ah.cf.aI J,ah.cf.aI Y,ab]
 ·obtain⟨H',an⟩:=aj _ aX _ ⟨b,d,i,ad,rfl,P,av,λ_ h=>by cases h⟩ (ah.aU.z7 F) T
  exact af aX _ env H' (an)
theorem acx(D:X.a6.ok X.P){t T s:TypeId}{bE:cr}{x y:Operand}{id d i:Nat}{g g':a7}{l:List (List g.D)}{E:List g'.D}{cap v:Option Nat}{r g2:Bool}(z:o.op=.store t x y)(F:o.guard=none/\o.dst=none)(bk:X.a6.find t=some bE)(L:beq bE.ti.size 1=true)(ai:bz X st.L x=some (r,.c (.e4 id 1 i 0)))(M:r=true)(aG:bz X st.L y=some (g2,.c (.ax d)))(J:g2=true)(G:bm st.H id=some (.row T (.ax g) l cap))(Z:bm st.H d=some (.row s g' E v))(hi:decide (i<l.length)=true)
  : hg X n o st ⟨st.L,fc id (.cP false T g l cap i d) st.H⟩:=by
 intro R W aE aq env B ak H a w ah KK ab N;obtain⟨vx,I,b,c,m,he,rfl⟩:=ah.aI ai M;obtain⟨vy,Q,f,cG,j,V,rfl⟩:=ah.aI aG J;obtain⟨eA,K,⟨A,k,xs,q,rfl,p,P⟩,az,S⟩:=ah.ql (b':=.cP false T g l cap i d) G;rw[he]at q;cases q;have C:=of_decide_eq_true hi;have U:=bR.oL p;have aa:xs.length=l.length:=by rw[U];show l.length * 1=_;omega
 have Y:=(cm.get D bk).ti;have O:=eq_of_beq_eq_true L;refine(DU ah.sym z F Y I Q (by rw[O];rfl) (by intro u hu;simp[Value.cells]at hu;subst hu;rfl) az (by show i * 1+0+1<=l.length * 1;omega) λaX w' bP=>?_);obtain⟨H',ag⟩:=S _ aX w' ⟨some ⟨b,0,none⟩,c,xs,f,cG,j,he,rfl,p,C,V,P,λh=>by cases h⟩ (by
  have e:xs.take (i * 1+0)++(Value.slice f j cG).cells.toList++xs.drop (i * 1+0+(Value.slice f j cG).cells.toList.length)=xs.set i (.slice f j cG):=by
   rw[List.set_eq_take_append_cons_drop,if_pos (by omega)]
   simp[Value.cells]
  have:=bP.aU
  rw[e]at this;exact this) bP.st
 exact N aX _ env H' (ag)
theorem acz(J:X.a6.ok X.P){t T C:TypeId}{bE:cr}{x y:Operand}{id d i:Nat}{g g':a7}{l:List (List g.D)}{p:List g'.D}{cap:Option Nat}{q:Nat}{v g2:Bool}(E:o.op=.store t x y)(L:o.guard=none/\o.dst=none)(bk:X.a6.find t=some bE)(O:beq bE.ti.size 1=true)(ai:bz X st.L x=some (v,.c (.e4 id 1 i 0)))(P:v=true)(aG:bz X st.L y=some (g2,.c (.ax d)))(N:g2=true)(M:bm st.H id=some (.row T (.hX g) l cap))(D:bm st.H d=some (.row C g' p (some q)))(hi:decide (i<l.length)=true)(G:beq q p.length=true)
  : hg X n o st ⟨st.L,fc id (.cP true T g l cap i d) st.H⟩:=by
 intro R W aE aq env B ak H a w ah KK am Q;obtain⟨vx,I,b,c,m,he,rfl⟩:=ah.aI ai P;obtain⟨vy,V,h,cG,f,z,rfl⟩:=ah.aI aG N;obtain⟨eA,K,⟨A,k,xs,s,rfl,r,U⟩,az,Y⟩:=ah.ql (b':=.cP true T g l cap i d) M;rw[he]at s;cases s;have F:=of_decide_eq_true hi;have Z:cG=f:=by
  obtain⟨ae,ad,⟨af,an,al,j,_,_,ac⟩,_⟩:=ah.heap.gU D;rw[z]at j;cases j;rw[ac q rfl];exact eq_of_beq_eq_true G
 have aa:=bR.oL r;have aj:xs.length=l.length:=by rw[aa];show l.length * 1=_;omega
 have ab:=(cm.get J bk).ti;have S:=eq_of_beq_eq_true O;refine(DU ah.sym E L ab I V (by rw[S];rfl) (by intro u hu;simp[Value.cells]at hu;subst hu;rfl) az (by show i * 1+0+1<=l.length * 1;omega) λaX w' bP=>?_);obtain⟨H',ag⟩:=Y _ aX w' ⟨some ⟨b,0,none⟩,c,xs,h,cG,f,he,rfl,r,F,z,U,λ_=>Z⟩ (by
  have e:xs.take (i * 1+0)++(Value.slice h f cG).cells.toList++xs.drop (i * 1+0+(Value.slice h f cG).cells.toList.length)=xs.set i (.slice h f cG):=by
   rw[List.set_eq_take_append_cons_drop,if_pos (by omega)]
   simp[Value.cells]
  have:=bP.aU
  rw[e]at this;exact this) bP.st
 exact Q aX _ env H' (ag)
theorem acC(g:a7)(m:Nat)(z:Int)(b:X.a6.ok X.P){t e:TypeId}{bE dS:cr}{u x:Operand}{f:bq}{k:IntKind}{l:List g.D}{p g2 c:Bool}{bN:bq}(q:o.op=.index t u x)(i:o.guard=none/\o.dst=some d)(ay:blt d n=true)(bk:X.a6.find t=some bE)(dq:bE.ti.desc=.array m e)(he:X.a6.find e=some dS)(F:beq g.size dS.ti.size=true)(N:l7 dS.ti.desc=g.sJ)(L:(g.sJ || beq g.size 1)=true)(hu:bz X st.L u=some (p,f))(G:p=true)(ai:bz X st.L x=some (g2,.c (.val (.int k z))))(E:g2=true)(bh:Ex g m f=some (c,l))(U:c=true)(bO:a8 z m=true)(ir:a8 z l.length=true)(nM:rC g (l.getD z.toNat g.zero)=some bN)
  : hg X n o st ⟨(d,.a bN)::st.L,st.H⟩:=by
 intro R W aE aq env B ak H a w ah KK Q K;obtain⟨S,I,J⟩:=ah.aI hu G;obtain⟨vs,rfl,C⟩:=ab5 J bh U;obtain⟨vx,ag,A⟩:=ah.aI ai E;rw[show vx=_ from A]at ag;obtain⟨j,rfl,s,_⟩:=nE bO;obtain⟨T,P,V,_⟩:=nE ir;have O:j<l.length:=by omega
 have h:=(cm.get b bk).ti.1;rw[dq]at h;obtain⟨v,r,M⟩:=ab4 (w:=w) (cm.get b he).ti C O (eq_of_beq_eq_true F) N L;have D:=ab3 (k:=k) h (cm.get b he).ti s r;refine(iD ah.cf i.1 i.2 (ef ay) (v:=v) (w':=w) (by simp[execOp,q,ah.cf.aI I,ah.cf.aI ag,D]) λaX y=>?_);exact K aX _ env H (ah.set (M.bN nM) y)
theorem acD(p:X.a6.ok X.P){t:TypeId}{bE:cr}{u x:Operand}{s:dV}{k:IntKind}{z:Int}{g g2:Bool}(i:o.op=.slice t u (some x) none none)(e:o.guard=none/\o.dst=some d)(ay:blt d n=true)(bk:X.a6.find t=some bE)(dq:bE.ti.desc=.string)(hu:bz X st.L u=some (g,.c (.str s)))(l:g=true)(ai:bz X st.L x=some (g2,.c (.val (.int k z))))(r:g2=true)(m:decide (0<=z)=true)(I:decide (z<=(s.length:Int))=true)
  : hg X n o st ⟨(d,.c (.str (s.drop z.toNat)))::st.L,st.H⟩:=by
 intro R W aE aq env B ak H a w ah KK G y;obtain⟨D,f,A⟩:=ah.aI hu l;rw[show D=gl s from A]at f;obtain⟨vx,h,C⟩:=ah.aI ai r;rw[show vx=_ from C]at h;have c:=(cm.get p bk).ti.1;rw[dq]at c;have E:=of_decide_eq_true m;have F:=of_decide_eq_true I;have q:=J0 (w:=w) (s:=s) (lo:=some (.int k z)) (hi:=none) (a:=z.toNat) (b:=s.length) c (by simp[Instr.sliceBounds,Instr.sliceBound,asIntOf,E,F]);refine(iD ah.cf e.1 e.2 (ef ay) (v:=gl (s.drop z.toNat)) (w':=w) (by simp[execOp,i,ah.cf.aI f,ah.cf.aI h,q]) λaX j=>?_);exact y aX _ env H (ah.set rfl j)
theorem acE(p:X.a6.ok X.P){t:TypeId}{bE:cr}{u x:Operand}{s:dV}{k:IntKind}{z:Int}{g g2:Bool}(i:o.op=.slice t u none (some x) none)(e:o.guard=none/\o.dst=some d)(ay:blt d n=true)(bk:X.a6.find t=some bE)(dq:bE.ti.desc=.string)(hu:bz X st.L u=some (g,.c (.str s)))(l:g=true)(ai:bz X st.L x=some (g2,.c (.val (.int k z))))(r:g2=true)(m:decide (0<=z)=true)(I:decide (z<=(s.length:Int))=true)
  : hg X n o st ⟨(d,.c (.str (s.take z.toNat)))::st.L,st.H⟩:=by
 intro R W aE aq env B ak H a w ah KK G y;obtain⟨D,f,A⟩:=ah.aI hu l;rw[show D=gl s from A]at f;obtain⟨vx,h,C⟩:=ah.aI ai r;rw[show vx=_ from C]at h;have c:=(cm.get p bk).ti.1;rw[dq]at c;have E:=of_decide_eq_true m;have F:=of_decide_eq_true I;have q:=J0 (w:=w) (s:=s) (lo:=none) (hi:=some (.int k z)) (a:=0) (b:=z.toNat) c (by simp[Instr.sliceBounds,Instr.sliceBound,asIntOf,E,F]);refine(iD ah.cf e.1 e.2 (ef ay) (v:=gl (s.take z.toNat)) (w':=w) (by simp[execOp,i,ah.cf.aI f,ah.cf.aI h,q]) λaX j=>?_);exact y aX _ env H (ah.set rfl j)
theorem acF(D:X.a6.ok X.P){t:TypeId}{bE:cr}{u x y:Operand}{s:dV}{k i:IntKind}{z c:Int}{g g2 g3:Bool}(q:o.op=.slice t u (some x) (some y) none)(f:o.guard=none/\o.dst=some d)(ay:blt d n=true)(bk:X.a6.find t=some bE)(dq:bE.ti.desc=.string)(hu:bz X st.L u=some (g,.c (.str s)))(A:g=true)(ai:bz X st.L x=some (g2,.c (.val (.int k z))))(F:g2=true)(aG:bz X st.L y=some (g3,.c (.val (.int i c))))(M:g3=true)(C:decide (0<=z)=true)(I:decide (z<=c)=true)(J:decide (c<=(s.length:Int))=true)
  : hg X n o st ⟨(d,.c (.str ((s.take c.toNat).drop z.toNat)))::st.L,st.H⟩:=by
 intro R W aE aq env B ak H a w ah KK S G;obtain⟨N,h,K⟩:=ah.aI hu A;rw[show N=gl s from K]at h;obtain⟨vx,j,L⟩:=ah.aI ai F;rw[show vx=_ from L]at j;obtain⟨vy,l,m⟩:=ah.aI aG M;rw[show vy=_ from m]at l;have e:=(cm.get D bk).ti.1;rw[dq]at e;have O:=of_decide_eq_true C;have T:=of_decide_eq_true I;have P:=of_decide_eq_true J;have p:0<=c:=by omega
 have E:=J0 (w:=w) (s:=s) (lo:=some (.int k z)) (hi:=some (.int i c)) (a:=z.toNat) (b:=c.toNat) e (by
  have Q:z<=max c 0:=by omega
  simp[Instr.sliceBounds,Instr.sliceBound,asIntOf,O,P,p,Q])
 refine(iD ah.cf f.1 f.2 (ef ay) (v:=gl ((s.take c.toNat).drop z.toNat)) (w':=w) (by simp[execOp,q,ah.cf.aI h,ah.cf.aI j,ah.cf.aI l,E]) λaX r=>?_);exact G aX _ env H (ah.set rfl r)
theorem acG(i:X.a6.ok X.P){t e:TypeId}{x y:Operand}{C g2:Bool}{ej:bq}{f F c:Nat}{m g:a7}{l b:List g.D}{bE:cr}{aK:TypeDesc}{p:Value}(M:o.op=.call ⟨.builtin .append,⟨[x,y]⟩,⟨[t,t]⟩⟩)(S:o.guard=none/\o.dst=some d)(ay:blt d n=true)(bk:X.a6.find t=some bE)(dq:bE.ti.desc=.slice e)(he:X.a6.find e=some ⟨⟨aK,f,F,p⟩,some m⟩)(ai:bz X st.L x=some (C,.c (.bo g l (some c))))(O:C=true)(aG:bz X st.L y=some (g2,ej))(Z:g2=true)(Y:beq g.size f=true)(ah:mT st g ej=some b)(U:dx F (l.length+b.length)=true)(ae:decide (c=l.length)=true)
  : hg X n o st ⟨(d,.c (.ax d))::gu d .dead st.L,(d,.gT e g (l++b))::ew d .dead st.H⟩:=by
 intro R W aE aq env B ak H a w h KK ao v;obtain⟨vx,G,A,c',xs,rfl,al,z,aa,r,K⟩:=h.aI ai O;obtain⟨vy,ab,af⟩:=h.aI aG Z;have N:=aa c rfl;have Q:=of_decide_eq_true ae;have V:=N.trans Q;rw[V]at G z;obtain⟨j,u,ad⟩:=(cm.get i he).g m rfl;obtain⟨T,P,I,q⟩:=nD (cm.get i bk).ti (cm.get i he).ti;dsimp only at j u q;have aj:p.cells.size=f:=by
  have:p.cells.toList.length=f:=by rw[u,<- j];exact bR.length (bR.e3 (B:=B) (w:=ak) m)
  simpa using this
 have E:=eq_of_beq_eq_true Y;simp only[dx,and_eq_true,decide_eq_true_eq]at U;obtain⟨am,cG,an,rfl,J,D⟩:=sy h ah af;have L:=K.kU h.aU;rw[E]at L D;refine(QN h.sym M S ay P I dq q (by rw[<- j];exact Nat.ble_eq_true_of_le ad) aj G ab L D (Flat.jo (λ_ _=>bR.jo) J) U.1 U.2 (λac aX w' bP=>?_) λs c' aX w' bP=>?_)
 ·have ag:b=[]:=List.eq_nil_of_length_eq_zero ac
  subst ag;obtain⟨H',_,k⟩:=h.pF ay (blk:=.gT e g (l++[])) (sv:=.c (.ax d)) (bP.aU.tx e g.size) ⟨A,l.length,fK,.inr ⟨rfl,by simp,z,xs,by rw[append_nil];exact r,by rw[append_nil];exact K⟩⟩ ⟨A,l.length,_,fK,by simp⟩ bP.st;exact v aX w' _ H' (k)
 ·obtain⟨H',_,k⟩:=h.pF ay (blk:=.gT e g (l++b)) (sv:=.c (.ax d)) (by have:=bP.aU;rw[<- E]at this;rw[length_append];exact this) ⟨s,c',fK,.inl ⟨_,rfl,r.append J⟩⟩ ⟨s,c',_,fK,by rw[length_append]⟩ bP.st
  exact v aX w' _ H' (k)
end
end
section
section
variable {X:bu} {n:Nat} {st st':aO} {o:Oper} {d:Nat}
end
end
section
set_option linter.unusedSectionVars false
section
variable {X:bu} {M:Bool} {n:Nat} {st:aO} {Q:Exit->aO->Prop} {ops rest:List Oper} {o:Oper} {d:Nat}
theorem acH(b:X.a6.ok X.P){t e:TypeId}{bE dS:cr}{u x:Operand}{id:Nat}{T:TypeId}{g:a7}{l:List g.D}{cap:Option Nat}{k:IntKind}{z:Int}{f g2:Bool}(i:o.op=.slice t u (some x) none none)(bk:X.a6.find t=some bE)(dq:bE.ti.desc=.slice e)(he:X.a6.find e=some dS)(hu:bz X st.L u=some (f,.c (.ax id)))(v:f=true)(ai:bz X st.L x=some (g2,.c (.val (.int k z))))(r:g2=true)(q:bm st.H id=some (.row T g l cap))(s:beq g.size dS.ti.size=true)(bO:(decide (0<=z)&&decide (z<=(l.length:Int)))=true):jn X st o (.c (.jE id g.size z.toNat)):=by
 intro R W aE n aq env B ak H a b5 ah;simp only[and_eq_true,decide_eq_true_eq]at bO;obtain⟨E,I,A,c,m,h,rfl⟩:=ah.aI hu v;obtain⟨vx,J,ag⟩:=ah.aI ai r;rw[show vx=_ from ag]at J;obtain⟨eA,K,⟨D,k',xs,d,rfl,_⟩,az⟩:=ah.heap.gU q;rw[h]at d;cases d;obtain⟨C,j,p,y⟩:=nD (cm.get b bk).ti (cm.get b he).ti;refine⟨_,⟨A,c,l.length,h,by omega,rfl⟩,λw _=>?_⟩
 have:=Pc (l:=z.toNat) ah.cf i j p dq y I J (by omega) (by omega) w
 rw[<- eq_of_beq_eq_true s]at this;exact this
theorem Flat.part{α:Type}{R:α->cl->Prop}{k:Nat}(h:∀x vs,R x vs->vs.length=k){l a:List α}{xs b:cl}{i:Nat}(I:Flat R l xs)(J:Flat R a b):Flat R (l.take i++a++l.drop (i+a.length)) (xs.take (i * k)++b++xs.drop (i * k+b.length)):=by
 have e:=Flat.length h J;rw[e,<- add_mul];exact((Flat.split h i I).1.append J).append (Flat.split h (i+a.length) I).2
theorem acI(q:X.a6.ok X.P){t e:TypeId}{x y:Operand}{u g2:Bool}{ej:bq}{id f ad s p:Nat}{ae g:a7}{l b:List g.D}{cap:Option Nat}{bE:cr}{aK:TypeDesc}{al:Value}(J:o.op=.call ⟨.builtin .copy,⟨[x,y]⟩,⟨[t,t]⟩⟩)(P:o.guard=none/\o.dst=some d)(ay:blt d n=true)(bk:X.a6.find t=some bE)(dq:bE.ti.desc=.slice e)(he:X.a6.find e=some ⟨⟨aK,f,ad,al⟩,some ae⟩)(ai:bz X st.L x=some (u,.c (.jE id s p)))(L:u=true)(aG:bz X st.L y=some (g2,ej))(Z:g2=true)(S:bm st.H id=some (.row e g l cap))(V:beq g.size f=true)(M:beq s f=true)(an:mT st g ej=some b)(am:blt 0 f=true)(U:decide (p+b.length<=l.length)=true):hg X n o st ⟨(d,.c (.val (.int .i64 (b.length:Int))))::st.L,fc id (.row e g (l.take p++b++l.drop (p+b.length)) cap) st.H⟩:=by
 intro R W aE aq env B ak H a w h KK lo aa;obtain⟨vx,C,ah⟩:=h.aI ai L;obtain⟨vy,ac,aj⟩:=h.aI aG Z;obtain⟨T,O,I,N⟩:=nD (cm.get q bk).ti (cm.get q he).ti;have j:=eq_of_beq_eq_true V;have af:=eq_of_beq_eq_true M;have ag:=of_decide_eq_true U;obtain⟨ar,cG,z,rfl,F,v⟩:=sy h an aj;obtain⟨A,c,m,E,au,rfl⟩:=ah;obtain⟨eA,K,⟨ap,k',xs,G,rfl,Q,ab⟩,r,ao⟩:=h.ql (b':=.row e g (l.take p++b++l.drop (p+b.length)) cap) S;rw[E]at G;cases G;rw[j]at r v;rw[af]at C;have D:(l.take p++b++l.drop (p+b.length)).length=l.length:=by
  simp only[length_append,length_take,length_drop];omega
 refine Pe h.sym J P ay O I dq N C ac r v (Flat.jo (λ_ _=>bR.jo) F) (ef am) ag λaX w' bP=>?_
 have k:=Flat.part (i:=p) (λ_ _=>bR.length) Q F;rw[j]at k;obtain⟨H',Y⟩:=ao (.row A c e g.size l.length (xs.take (p * f)++z++xs.drop (p * f+z.length))) a w' ⟨A,c,_,by rw[D];exact E,by rw[D],k,ab⟩ (by rw[j];exact bP.aU) h.cf;exact aa aX w' _ H' (Y.set rfl bP.st)
theorem acJ(f:X.a6.ok X.P){t e:TypeId}{bE:cr}{u:Operand}{id:Nat}{b:Bool}(d:o.op=.call ⟨.builtin .cap,⟨[u]⟩,⟨[t]⟩⟩)(bk:X.a6.find t=some bE)(dq:bE.ti.desc=.slice e)(hu:bz X st.L u=some (b,.c (.ax id)))(i:b=true):jn X st o (.c (.jR id)):=by
 intro R W aE n aq env B ak H a b5 ah;obtain⟨l,I,A,c,m,j,rfl⟩:=ah.aI hu i;obtain⟨k,g,h⟩:=DI (cm.get f bk).ti;exact⟨_,⟨A,c,m,j,rfl⟩,λw _=>IE ah.cf d g h dq I w⟩
theorem fX.less{w:World}{B:Nat->Prop}{e:TypeId}{size c n m:Nat}{A:Option Addr}{xs:cl}(h:fX w B e size A c n xs)(b:m<=n):fX w B e size A c m (xs.take (m * size)):=by
 have a:m * size<=n * size:=Nat.mul_le_mul_right _ b;refine⟨by rw[length_take,h.1,Nat.min_eq_left a],?_⟩
 rcases h.2 with⟨I,J,ag⟩|⟨g,cur,dN,I,J,ag,au,aD,a1,ca,di⟩
 ·exact .inl ⟨I,by omega,ag⟩
 ·exact .inr ⟨g,cur,dN,I,J,ag,au,by omega,a1,ca,by rw[<- di,List.take_take,Nat.min_eq_left a]⟩
theorem acK(r:X.a6.ok X.P){t e:TypeId}{bE dS:cr}{u y v:Operand}{id:Nat}{T:TypeId}{g:a7}{l:List g.D}{cap:Option Nat}{k:IntKind}{z:Int}{E g2 g3:Bool}(F:o.op=.slice t u none (some y) (some v))(s:o.guard=none/\o.dst=some d)(ay:(blt d n&&blt id hZ)=true)(bk:X.a6.find t=some bE)(dq:bE.ti.desc=.slice e)(he:X.a6.find e=some dS)(hu:bz X st.L u=some (E,.c (.ax id)))(Y:E=true)(aG:bz X st.L y=some (g2,.c (.val (.int k z))))(V:g2=true)(G:bz X st.L v=some (g3,.c (.jR id)))(ae:g3=true)(S:bm st.H id=some (.row T g l cap))(bO:(decide (0<=z)&&decide (z<=(l.length:Int)))=true):hg X n o st ⟨(d,.c (.ax id))::gu id .dead st.L,(id,.row T g (l.take z.toNat) cap)::ew id .dead st.H⟩:=by
 intro R W aE aq env B ak H a w ah KK ap aa;simp only[and_eq_true,decide_eq_true_eq]at bO ay;obtain⟨ay,ai⟩:=ay;obtain⟨ar,I,A,c,m,f,rfl⟩:=ah.aI hu Y;obtain⟨vy,J,ag⟩:=ah.aI aG V;rw[show vy=_ from ag]at J;obtain⟨vv,N,an,am,au,i,rfl⟩:=ah.aI G ae;rw[f]at i;cases i;obtain⟨eA,K,⟨ao,k',xs,C,rfl,Q,ab⟩,az,af⟩:=ah.DV (b':=.row T g (l.take z.toNat) cap) S (λq al=>by
  obtain⟨_,p,a1⟩:=ah.dr _ _ al;rw[f]at p
  rcases a1 with⟨b,a1⟩|a1
  ·rw[<- p]at a1;cases a1
  ·have:=ef ai;omega)
 rw[f]at C;cases C;obtain⟨aj,O,P,ac⟩:=nD (cm.get r bk).ti (cm.get r he).ti;have D:=ah.aU.ok _ az.mem;have U:=Pp (h:=z.toNat) ah.cf F O P dq ac I J N (by omega) rfl (by have:=D.le.1;omega) (le_refl _) w;refine iD ah.cf s.1 s.2 (ef ay) (w':=w) U λaX L=>?_
 have j:(l.take z.toNat).length=z.toNat:=by rw[length_take];omega
 have M:bZ (λk=>R k\/B k) ak (K (.row A c T g.size z.toNat (xs.take (z.toNat * g.size)))) w:=ah.aU.vo az (c9.refl _ _) (D.less (by omega)) (λb ad=>.inl ad) λb _ _=>rfl
 obtain⟨H',_,Z⟩:=af (.row A c z.toNat) _ aX w (.c (.ax id)) _ ⟨A,c,_,by rw[j];exact fK,by rw[j],(Flat.split (λ_ _=>bR.length) z.toNat Q).1,ab⟩ ⟨A,c,_,fK,rfl⟩ M L;exact aa aX w _ H' Z
end
end
def bs.free:bs->Bool
 |.val _=>true
 |.str _=>true
 |.gn _ _ _=>true
 |.par _ _=>true
 |.bo _ _ _=>true
 |.fn _ cs=>sE cs
 |_=>false
def sQ:dI->Bool
 |[]=>true
 |c::r=>match c.free with
  |true=>sQ r
  |false=>false
def bq.free:bq->Bool
 |.c x=>x.free
 |.agg cs=>sQ cs
 |.arr _ _=>true
def mw:dO->Bool
 |[]=>true
 |c::r=>match c.free with
  |true=>mw r
  |false=>false
def cd.free:cd->Bool
 |.a x=>x.free
 |.may _ x=>x.free
 |.da xs=>mw xs
def cD.free:cD->Bool
 |.cells _ cs=>sQ cs
 |.row _ _ _ _=>true
 |.mp _ _ _ _=>true
 |.gT _ _ _=>true
 |.b0 _ _ _ _ _ none=>true
 |_=>false
theorem Rd{id:Nat}:∀ {cs:ep},sE cs=true->vw id cs=false
 |[],_=>rfl
 |.id _::_,h=>by cases h
 |.eF _ _::cs,h=>Rd (cs:=cs) h
theorem Re{ct:b6}:∀ {cs:ep},sE cs=true->qn ct cs=false
 |[],_=>rfl
 |.id _::_,h=>by cases h
 |.eF _ _::cs,h=>Re (cs:=cs) h
theorem Rf{id:Nat}{g:a7}{x:g.D}:∀ {cs:ep},sE cs=true->tY id g x cs=cs
 |[],_=>rfl
 |.id _::_,h=>by cases h
 |.eF _ _::cs,h=>by
  show fa.eF _ _::tY id g x cs=_;rw[Rf (cs:=cs) h]
structure Fix(f:bs->bs):Prop where
 fix:∀c,c.free=true->f c=c
theorem Kg(id:Nat)(z:bs):Fix λc=>c.sub id z:=⟨λc h=>by
 cases c with
 |fn f cs=>simp only[bs.sub];rw[Rd h]
 |_=>first|rfl|cases h⟩
theorem Kh(ct:b6):Fix λc=>c.kill ct:=⟨λc h=>by
 cases c with
 |fn f cs=>simp only[bs.kill];rw[Re h]
 |_=>first|rfl|cases h⟩
theorem Ki(id:Nat)(g:a7)(x:g.D):Fix λc=>c.e1 id g x:=⟨λc h=>by
 cases c with
 |fn f cs=>simp only[bs.e1];rw[Rf h]
 |_=>first|rfl|cases h⟩
def wi(f:bs->bs):dI->dI
 |[]=>[]
 |c::r=>f c::wi f r
theorem sR{f:bs->bs}(az:Fix f):∀ {cs:dI},sQ cs=true->wi f cs=cs
 |[],_=>rfl
 |c::r,h=>by
  unfold sQ at h
  split at h
  ·rename_i e
   show f c::wi f r=_;rw[az.fix c e,sR az h]
  ·cases h
theorem Kj(id:Nat)(z:bs):∀cs:dI,su id z cs=wi (λc=>c.sub id z) cs
 |[]=>rfl
 |c::r=>by
  show c.sub id z::su id z r=_;rw[Kj id z r];rfl
theorem Kk(ct:b6):∀cs:dI,rm ct cs=wi (λc=>c.kill ct) cs
 |[]=>rfl
 |c::r=>by
  show c.kill ct::rm ct r=_;rw[Kk ct r];rfl
theorem Kl(id:Nat)(g:a7)(x:g.D):∀cs:dI,yi id g x cs=wi (λc=>c.e1 id g x) cs
 |[]=>rfl
 |c::r=>by
  show c.e1 id g x::yi id g x r=_;rw[Kl id g x r];rfl
theorem Km{id:Nat}{z:bs}{x:bq}(h:x.free=true):x.sub id z=x:=by
 cases x with
 |c x=>simp only[bq.sub];rw[(Kg id z).fix x h]
 |agg cs=>simp only[bq.sub];rw[Kj,sR (Kg id z) h]
 |arr g l=>rfl
theorem Kn{ct:b6}{x:bq}(h:x.free=true):x.kill ct=x:=by
 cases x with
 |c x=>simp only[bq.kill];rw[(Kh ct).fix x h]
 |agg cs=>simp only[bq.kill];rw[Kk,sR (Kh ct) h]
 |arr g l=>rfl
theorem Ko{id:Nat}{g:a7}{y:g.D}{x:bq}(h:x.free=true):x.e1 id g y=x:=by
 cases x with
 |c x=>simp only[bq.e1];rw[(Ki id g y).fix x h]
 |agg cs=>simp only[bq.e1];rw[Kl,sR (Ki id g y) h]
 |arr g l=>rfl
theorem Rg{id:Nat}{z:bs}:∀ {xs:dO},mw xs=true->Ae id z xs=xs
 |[],_=>rfl
 |c::r,h=>by
  unfold mw at h
  split at h
  ·rename_i e
   show c.sub id z::Ae id z r=_;rw[Km e,Rg h]
  ·cases h
theorem Rh{ct:b6}:∀ {xs:dO},mw xs=true->vG ct xs=xs
 |[],_=>rfl
 |c::r,h=>by
  unfold mw at h
  split at h
  ·rename_i e
   show c.kill ct::vG ct r=_;rw[Kn e,Rh h]
  ·cases h
theorem Ri{id:Nat}{g:a7}{y:g.D}:∀ {xs:dO},mw xs=true->AN id g y xs=xs
 |[],_=>rfl
 |c::r,h=>by
  unfold mw at h
  split at h
  ·rename_i e
   show c.e1 id g y::AN id g y r=_;rw[Ko e,Ri h]
  ·cases h
theorem acL{id:Nat}{z:bs}{v:cd}(h:v.free=true):v.sub id z=v:=by
 cases v with
 |a x=>simp only[cd.sub];rw[Km h]
 |may g x=>simp only[cd.sub];rw[Km h]
 |da xs=>simp only[cd.sub];rw[Rg h]
theorem acM{ct:b6}{v:cd}(h:v.free=true):v.kill ct=v:=by
 cases v with
 |a x=>simp only[cd.kill];rw[Kn h]
 |may g x=>simp only[cd.kill];rw[Kn h]
 |da xs=>simp only[cd.kill];rw[Rh h]
theorem acN{id:Nat}{g:a7}{y:g.D}{v:cd}(h:v.free=true):v.e1 id g y=v:=by
 cases v with
 |a x=>simp only[cd.e1];rw[Ko h]
 |may g x=>simp only[cd.e1];rw[Ko h]
 |da xs=>simp only[cd.e1];rw[Ri h]
theorem acO{id:Nat}{z:bs}{b:cD}(h:b.free=true):b.sub id z=b:=by
 cases b with
 |cells t cs=>simp only[cD.sub];rw[Kj,sR (Kg id z) h]
 |b0 T T' g l c q=>rcases q with _|⟨i,_|d⟩<;>first|rfl|cases h
 |_=>first|rfl|cases h
theorem acP{ct:b6}{b:cD}(h:b.free=true):b.kill ct=b:=by
 cases b with
 |cells t cs=>simp only[cD.kill];rw[Kk,sR (Kh ct) h]
 |b0 T T' g l c q=>rcases q with _|⟨i,_|d⟩<;>first|rfl|cases h
 |_=>first|rfl|cases h
theorem acQ{id:Nat}{g:a7}{y:g.D}{b:cD}(h:b.free=true):b.e1 id g y=b:=by
 cases b with
 |cells t cs=>simp only[cD.e1];rw[Kl,sR (Ki id g y) h]
 |_=>first|rfl|cases h
def fC(q:Nat):b6->Bool
 |[]=>false
 |k::r=>match beq k q with
  |true=>true
  |false=>fC q r
theorem qC{q:Nat}:∀ {l r:b6},fC q (l++r)=false↔fC q l=false/\fC q r=false
 |[],r=>by simp[fC]
 |k::l,r=>by
  show(match beq k q with|true=>true|false=>fC q (l++r))=false↔(match beq k q with|true=>true|false=>fC q l)=false/\_;cases beq k q with
  |true=>simp
  |false=>exact qC
theorem gN{q k:Nat}{r:b6}(h:fC q (k::r)=false):q≠k/\fC q r=false:=by
 unfold fC at h
 split at h
 ·cases h
 ·rename_i e
  exact⟨(λa=>by rw[a,beq_refl]at e;cases e),h⟩
def cz{α:Type}(a:α->Bool)(V:b6)(L eu:List (Nat×α)):Prop:=∀q v,fC q V=false->bm eu q=some v->∃u,bm L q=some u/\(a u=true->v=u)
theorem cz.refl{α:Type}{a:α->Bool}{V:b6}(L:List (Nat×α)):cz a V L L:=λ_ v _ h=>⟨v,h,λ_=>rfl⟩
theorem cz.trans{α:Type}{a:α->Bool}{V V2:b6}{L b c:List (Nat×α)}(h:cz a V L b)(k:cz a V2 b c):cz a (V2++V) L c:=λq v f ae=>by
 obtain⟨I,J⟩:=qC.1 f;obtain⟨u,ag,g⟩:=k q v I ae;obtain⟨i,e,d⟩:=h q u J ag;exact⟨i,e,λaz=>by have:=d az;subst this;exact g az⟩
theorem cz.more{α:Type}{b:α->Bool}{V V2:b6}{L a:List (Nat×α)}(h:cz b V L a)(c:∀q,fC q V2=false->fC q V=false):cz b V2 L a:=λq v d ae=>h q v (c q d) ae
theorem cz.cons{α:Type}{a:α->Bool}{V:b6}{L eu:List (Nat×α)}{d:Nat}{v:α}(h:cz a V L eu):cz a (d::V) L ((d,v)::eu):=λq u b ae=>by
 obtain⟨I,J⟩:=gN b;rw[cI,if_neg I]at ae;exact h q u J ae
theorem cz.append{α:Type}{a:α->Bool}{V:b6}{L eu:List (Nat×α)}(h:cz a V L eu):∀ {J:List (Nat×α)} {aq:b6},J.map (·.1)=aq->cz a (aq++V) L (J++eu)
 |[],_,rfl=>h
 |(k,v)::r,_,rfl=>cz.cons (cz.append h rfl)
theorem cz.map{α:Type}{a:α->Bool}{V:b6}{L eu:List (Nat×α)}{f:α->α}(az:∀v,a v=true->f v=v)(h:∀q v,bm eu q=some v->∃u,bm L q=some u/\v=f u):cz a V L eu:=λq v _ ae=>by
 obtain⟨u,I,J⟩:=h q v ae;exact⟨u,I,λhu=>by rw[J,az u hu]⟩
abbrev yD:=cz cd.free
abbrev nf:=cz cD.free
theorem lA(id:Nat)(z:bs)(L:cU){V:b6}:yD V L (gu id z L):=cz.map (f:=λv=>v.sub id z) (λ_ h=>acL h) λ_ _ h=>qj h
theorem acR(ct:b6)(L:cU){V:b6}:yD V L (oV ct L):=cz.map (f:=λv=>v.kill ct) (λ_ h=>acM h) λ_ _ h=>Ju h
theorem acS(id:Nat)(g:a7)(x:g.D)(L:cU){V:b6}:yD V L (vO id g x L):=cz.map (f:=λv=>v.e1 id g x) (λ_ h=>acN h) λ_ _ h=>JL h
theorem kI(id:Nat)(z:bs){V:b6}:∀H:bC,nf V H (ew id z H)
 |[]=>cz.refl []
 |(k,b)::r=>λq v c ae=>by
  unfold ew at ae
  split at ae
  ·rename_i e
   have aa:=eq_of_beq_eq_true e;obtain⟨u,I,J⟩:=kI id z r q v c ae;have d:q≠k:=λa=>by
    subst a;rw[aa]at ae;exact Kp ae
   exact⟨u,by rw[cI,if_neg d];exact I,J⟩
  ·rw[cI]at ae ⊢
   split at ae
   ·rename_i e
    cases ae;rw[if_pos e];exact⟨b,rfl,λaz=>acO az⟩
   ·rename_i e
    rw[if_neg e];exact kI id z r q v c ae
where Kp {id:Nat} {z:bs} {v:cD}:∀ {H:bC},bm (ew id z H) id=some v->False
 |[],h=>by cases h
 |(k,b)::r,h=>by
  unfold ew at h
  split at h
  ·exact Kp h
  ·rename_i e
   rw[cI,if_neg (λa=>by rw[a,beq_refl]at e;cases e)]at h;exact Kp h
theorem k3{id:Nat}{b:cD}{V:b6}(d:fC id V=true):∀ {H:bC},nf V H (fc id b H)
 |[]=>cz.refl []
 |(k,b')::r=>λq v a ae=>by
  have c:q≠id:=λe=>by rw[e,d]at a;cases a
  unfold fc at ae
  split at ae
  ·rename_i e
   have aa:=eq_of_beq_eq_true e;rw[cI,if_neg (by rw[aa];exact c)]at ae;exact⟨v,by rw[cI,if_neg (by rw[aa];exact c)];exact ae,λ_=>rfl⟩
  ·rw[cI]at ae ⊢
   split at ae
   ·rename_i e
    rw[if_pos e];exact⟨b',rfl,λ_=>by cases ae;rfl⟩
   ·rename_i e
    rw[if_neg e];exact k3 d q v a ae
end Go.Proofs.YtcheedjfedcbpaaGreatDoor
