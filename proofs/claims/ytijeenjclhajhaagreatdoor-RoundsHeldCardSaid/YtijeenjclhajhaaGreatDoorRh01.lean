/- Part 1 of 6 of the proof. -/
import Derived.WalkKit
import Derived.OwnWalkIn
import Derived.TacticsInMore
import Derived.OrdersIn
import Derived.RangeFuncCalls
import Derived.Below
import Derived.Laws.AppendOwn
import Derived.Laws.OwnMore
import Derived.Laws.CopyRow
import Derived.Laws.BitsAllLaws
import Derived.OrdersHeld
import Derived.MapKept
import Derived.Laws.StructEq
import Derived.Laws.IdiomCopy
import Derived.Laws.MakeOwn
import Derived.RangeFuncNested
import Derived.RangeFuncLeaves
import Derived.RangeFuncBound
import Derived.Laws.IdiomStrings
import Derived.ProofKit
import Derived.Deep.Slices
set_option linter.all false
set_option maxRecDepth 100000
namespace Go.Proofs.YtijeenjclhajhaaGreatDoor
open _root_.Array (ext length_toList range)
open _root_.Bool (and_eq_true)
open _root_.Nat (add_assoc add_comm add_mul add_zero beq beq_refl ble ble_eq blt eq_of_beq_eq_true le_of_ble_eq_true le_refl le_trans lt_irrefl min_eq_left mul_le_mul_right ne_of_beq_eq_false one_mul zero_add zero_le)
open _root_.List (append_assoc append_nil cons_append drop_take eq_nil_of_length_eq_zero flatMap_cons getElem?_cons_succ getElem?_drop getElem?_eq_getElem getElem?_take length length_append length_cons length_drop length_set length_take lookup_cons map_cons map_nil map_toArray mem_append_left mem_append_right mem_cons_of_mem mem_cons_self nil_append perm_middle replicate size_toArray take_append take_left take_of_length_le take_take take_zero zipIdx_cons)
open Go.RowKit
abbrev eD:=List Bool
abbrev eA:=List Operand
abbrev dU:=List UInt8
abbrev bZ:=List Int
abbrev bY:=List Value
abbrev bX:=List Nat
section
section
def WF(r:Option Nat):Fence:={ Fence.wide with round:=r }
structure dh(n:Nat)(D:List Deferred)(L:List (Nat×Value))(a:Act):Prop where
 size:a.tmps.size=n
 defs:a.defers=D
 has:∀s v,L.lookup s=some v->a.tmps[s]?=some v
def aJ(L:List (Nat×Value)):Operand->Option Value
 |.tmp s=>L.lookup s
 |.const v=>some v
 |.global g=>some (.pointer (some ⟨g,0,none⟩))
 |.func f=>some (.func (.func f) #[] #[])
def jO(L:List (Nat×Value)):eA->Option bY
 |[]=>some []
 |x::xs=>match aJ L x,jO L xs with
  |some v,some l=>some (v::l)
  |_,_=>none
section
variable {n:Nat} {D:List Deferred} {L:List (Nat×Value)} {a:Act}
theorem dh.aJ(h:dh n D L a){x:Operand}{v:Value}(an:aJ L x=some v):a.eval x=v:=by
 cases x with
 |tmp s=>
  have I:=h.has s v an;show a.tmps.getD s undef=v;rw[Array.getD_eq_getD_getElem?,I];rfl
 |const u=>exact Option.some.inj an
 |global g=>exact Option.some.inj an
 |func f=>exact Option.some.inj an
theorem dh.jO(h:dh n D L a):∀ {xs:eA} {vs:bY},jO L xs=some vs->xs.map a.eval=vs
 |[],vs,an=>by cases an;rfl
 |x::xs,vs,an=>by
  unfold YtijeenjclhajhaaGreatDoor.jO at an;cases I:YtijeenjclhajhaaGreatDoor.aJ L x with
  |none=>rw[I]at an;cases an
  |some v=>
   cases J:YtijeenjclhajhaaGreatDoor.jO L xs with
   |none=>rw[I,J]at an;cases an
   |some l=>
    rw[I,J]at an;cases an;rw[map_cons,h.aJ I,h.jO J]
theorem dh.put(h:dh n D L a)(d:Nat)(v:Value)(az:d<n):dh n D ((d,v)::L) (a.put (some d) v):=by
 refine⟨?_,h.defs,λs u b=>?_⟩
 ·simpa [Act.put] using h.size
 ·by_cases e:s=d
  ·subst e
   simp at b
   subst b
   simp[Act.put,h.size,az]
  ·have:(s==d)=false:=by simpa using e
   rw[lookup_cons,this]at b;simp only[Act.put];rw[Array.getElem?_setIfInBounds_ne (λc=>e c.symm)];exact h.has s u b
end
section
variable {r:Option Nat} {P:Program} {ops:Array Oper} {Q:Exit->Act->World->Prop} {o:Oper} {KK:Act->World->Prop}
variable {n:Nat} {D:List Deferred} {L:List (Nat×Value)} {a:Act} {w:World}
abbrev tk(r:Option Nat)(P:Program)(ops:Array Oper)(Q:Exit->Act->World->Prop)(l:List Oper)(a:Act)(w:World):Prop:=wpListIn (WF r) 0 P ops Q l a w
def A0(P:Program)(o:Oper)(a:Act)(w:World)(b:Value->World->Prop):Prop:=
 (∃v w',(execOp a.eval o).run P w=.ok (.value v) w'/\b v w')\/(∃w',(execOp a.eval o).run P w=.ok .skip w'/\b undef w') \/
 (∃f args b6,(execOp a.eval o).run P w=.ok (.enter f args) b6/\Calls P f args b6 λe w'=>∃v,e=.returned v/\b v w')
def fj(P:Program)(ops:Array Oper)(o:Oper)(KK:Act->World->Prop)(a:Act)(w:World):Prop:=
 (Region.wanted o (yielded ops a.tmps)=true/\A0 P o a w λv w'=>KK (a.put o.dst v) w')\/(Region.wanted o (yielded ops a.tmps)=false/\KK (a.put o.dst undef) w)
theorem Ja{x:Next}{w':World}(h:(execOp a.eval o).run P w=.ok x w')(an:∀d,x≠.defer d)(c:Call):o.op≠.defer c:=by
 intro b;simp only[execOp,b,Sem.run_bind]at h;cases ax:(resolve a.eval c o.type).run P w with
 |ok d b6=>
  rw[ax]at h
  simp at h
  exact an d h.1.symm
 |halt y b6=>rw[ax]at h;simp[Result.andThen]at h
theorem Jb(h:∀c,o.op≠.defer c):o.semAt r a.eval=execOp a.eval o:=by
 cases r with
 |none=>rfl
 |some l=>exact Oper.semAt_some l _ _ h
theorem fj.fenced(h:fj P ops o KK a w) :
  if Region.wanted o (yielded ops a.tmps)=true then Oper.wpIn (WF r) 0 P o a w KK Q else(∀f,o.about P w a.eval=some f->(WF r).fn f)/\KK (a.put o.dst undef) w:=by
 rcases h with⟨hw,h⟩|⟨hw,h⟩
 ·rw[if_pos hw]
  refine⟨λ_ _=>trivial,?_⟩
  rcases h with⟨v,w',ax,aa⟩|⟨w',ax,aa⟩|⟨f,args,b6,ax,U⟩
  ·rw[Jb (Ja ax (λ_ h=>by cases h)),ax];exact aa
  ·rw[Jb (Ja ax (λ_ h=>by cases h)),ax];exact aa
  ·rw[Jb (Ja ax (λ_ h=>by cases h)),ax]
   refine⟨(λh=>by cases h),?_⟩;have b:=(callsIn_wide (n:=0)).2 U;refine CallsIn.mono b ?_;rintro e w' ⟨v,rfl,c⟩;exact c
 ·rw[if_neg (by rw[hw];simp)]
  exact⟨λ_ _=>trivial,h⟩
theorem nu{rest:List Oper}(h:fj P ops o (tk r P ops Q rest) a w):tk r P ops Q (o::rest) a w:=fj.fenced h
theorem hM{v:Value}{w':World}{d:Nat}(b:dh n D L a)(c:o.guard=none)(f:o.dst=some d)(az:d<n)(e:(execOp a.eval o).run P w=.ok (.value v) w')(h:∀aU,dh n D ((d,v)::L) aU->KK aU w'):fj P ops o KK a w:=
 .inl ⟨by simp[Region.wanted,c],.inl ⟨v,w',e,h _ (by rw[f];exact b.put d v az)⟩⟩
theorem A1{w':World}(b:dh n D L a)(c:o.guard=none)(e:o.dst=none)(d:(execOp a.eval o).run P w=.ok .skip w')(h:∀aU,dh n D L aU->KK aU w'):fj P ops o KK a w:=
 .inl ⟨by simp[Region.wanted,c],.inr (.inl ⟨w',d,h _ (by rw[e];exact b)⟩)⟩
theorem Jc(h:Q .normal a w):tk r P ops Q [] a w:=h
end
end
section
structure bK where
  desc:TypeDesc
  size:Nat
  bytes:Nat
  zero:Value
def bK.ok(P:Program)(t:TypeId)(i:bK):Prop:=
  P.underlying t=some i.desc/\(P.info? t).map (λx=>(x.size,x.bytes,x.zero))=some (i.size,i.bytes,some i.zero)
def iq(P:Program)(T:List (TypeId×bK)):Prop:=∀t i,T.lookup t=some i->bK.ok P t i
theorem iq.nil(P:Program):iq P []:=λ_ _ h=>by cases h
theorem iq.cons{P:Program}{T:List (TypeId×bK)}{t:TypeId}{i:bK}(h:bK.ok P t i)(c:iq P T):iq P ((t,i)::T):=λs j a=>by
  rw[lookup_cons]at a
  by_cases e:(s==t)=true
  · rw[e]at a
    have b:s=t:=by simpa using e
    have d:=Option.some.inj a;subst b;subst d;exact h
  · have f:(s==t)=false:=by simpa using e
    rw[f]at a;exact c s j a
theorem bK.info{P:Program}{t:TypeId}{i:bK}(h:bK.ok P t i):∃x,P.info? t=some x/\x.size=i.size/\x.bytes=i.bytes/\x.zero=some i.zero:=by
  have J:=h.2;cases an:P.info? t with
  |none=>rw[an]at J;cases J
  |some x=>
    rw[an]at J;simp only[Option.map_some,Option.some.injEq,Prod.mk.injEq]at J;exact⟨x,rfl,J.1,J.2.1,J.2.2⟩
def mN:TypeDesc->Bool
  |.struct _ | .array _ _=>true
  |_=>false
section
variable {P:Program} {t:TypeId} {i:bK} (h:bK.ok P t i) (w:World)
include h
theorem bK.A2:(isAgg t).run P w=.ok (mN i.desc) w:=by
  have az:=h.1;unfold isAgg;simp only[Sem.run_bind,run_underlying az,Result.andThen_ok];cases i.desc<;>simp[mN]
theorem bK.run_sizeOf:(sizeOf t).run P w=.ok i.size w:=by
  obtain⟨x,an,I,_⟩:=bK.info h
  simp[sizeOf,typeInfo,an,I]
theorem bK.se:(zeroValue t).run P w=.ok i.zero w:=by
  obtain⟨x,an,_,_,ag⟩:=bK.info h
  simp[zeroValue,typeInfo,an,ag]
end
structure ds(B:Nat->Prop)(w w':World):Prop where
  os:w'.os=w.os
  tape:w'.tape=w.tape
  output:w'.output=w.output
  size:w.heap.size<=w'.heap.size
  block:∀k,B k->w'.heap[k]?=w.heap[k]?
theorem ds.refl(B:Nat->Prop)(w:World):ds B w w:=⟨rfl,rfl,rfl,le_refl _,λ_ _=>rfl⟩
theorem ds.trans{B:Nat->Prop}{a b c:World}(h:ds B a b)(k:ds B b c):ds B a c:=
  ⟨k.os.trans h.os,k.tape.trans h.tape,k.output.trans h.output,le_trans h.size k.size,λi hi=>(k.block i hi).trans (h.block i hi)⟩
theorem ds.cell{B:Nat->Prop}{w w':World}(h:ds B w w'){p:Addr}(ak:B p.block):w'.cell? p=w.cell? p:=World.cell?_of_block (w:=w) (h.block p.block ak)
theorem ds.Zz{w w':World}{B:Nat->Prop}(h:Below w.heap.size w w')(a:∀k,B k->k<w.heap.size):ds B w w':=⟨h.os,h.tape,h.output,h.size,λk aa=>h.block k (a k aa)⟩
def gq(w:World)(B:Nat->Prop)(e:TypeId)(size:Nat)(A:Option Addr)(c n:Nat)(xs:bY):Prop:=
  xs.length=n * size/\((A=none/\n=0/\c=0)\/∃g cur a,A=some ⟨g,0,none⟩/\¬B g/\w.heap[g]?=some (.cells cur e a)/\(a.1=a.2\/cur.size<=a.1)/\n<=c/\c<=maxLen/\cur.size=c * size/\cur.toList.take (n * size)=xs)
theorem gq.lt{w:World}{B:Nat->Prop}{e:TypeId}{size c n:Nat}{A:Option Addr}{xs:bY}(h:gq w B e size A c n xs){b:Nat}(ab:A.map (·.block)=some b):¬B b/\b<w.heap.size:=by
  rcases h.2 with⟨rfl,_⟩|⟨g,cur,dY,rfl,aP,cn,_⟩
  · cases ab
  · have:g=b:=Option.some.inj ab
    subst this;exact⟨aP,(Array.getElem?_eq_some_iff.1 cn).1⟩
theorem gq.et{w w':World}{B:Nat->Prop}{e:TypeId}{size c n:Nat}{A:Option Addr}{xs:bY}(h:gq w B e size A c n xs)(aa:∀b,A.map (·.block)=some b->w'.heap[b]?=w.heap[b]?):gq w' B e size A c n xs:=by
  refine⟨h.1,?_⟩
  rcases h.2 with ba|⟨g,cur,d,rfl,ab,a,rest⟩
  · exact .inl ba
  · exact .inr ⟨g,cur,d,rfl,ab,(aa g rfl).trans a,rest⟩
theorem gq.base{w:World}{B B':Nat->Prop}{e:TypeId}{size c n:Nat}{A:Option Addr}{xs:bY}(h:gq w B e size A c n xs)(a:∀b,A.map (·.block)=some b->¬B' b):gq w B' e size A c n xs:=by
  refine⟨h.1,?_⟩
  rcases h.2 with ba|⟨g,cur,d,rfl,ab,rest⟩
  · exact .inl ba
  · exact .inr ⟨g,cur,d,rfl,a g rfl,rest⟩
structure hk where
  A:Option Addr
  c:Nat
  e:TypeId
  size:Nat
  n:Nat
  xs:bY
def hk.has(r:hk)(b:Nat):Prop:=r.A.map (·.block)=some b
def hk.ok(B:Nat->Prop)(w:World)(r:hk):Prop:=gq w B r.e r.size r.A r.c r.n r.xs
def hk.off(r s:hk):Prop:=∀b,r.has b->¬s.has b
inductive bo where
  |obj (b:Nat) (o:Obj)
  |hN (b:Nat) (cs:bY) (e:TypeId)
  |row (A:Option Addr) (c:Nat) (e:TypeId) (size n:Nat) (xs:bY)
  |tree (rs:List hk)
abbrev cI:=List bo
def bo.has:bo->Nat->Prop
  |.obj b _,k=>some b=some k
  |.hN b _ _,k=>some b=some k
  |.row A _ _ _ _ _,k=>A.map (·.block)=some k
  |.tree a,k=>∃r∈a,r.has k
def bo.ok(B:Nat->Prop)(w:World):bo->Prop
  |.obj b o=>¬B b/\w.heap[b]?=some o
  |.hN b cs e=>¬B b/\w.heap[b]?=some (.cells cs.toArray e)
  |.row A c e size n xs=>gq w B e size A c n xs
  |.tree a=>(∀r∈a,r.ok B w)/\a.Pairwise hk.off
def bo.off(c d:bo):Prop:=∀b,c.has b->¬d.has b
structure bT(B:Nat->Prop)(ai:World)(H:cI)(w:World):Prop where
  below:ds B ai w
  base:∀k,B k->k<w.heap.size
  ok:∀c∈H,c.ok B w
  apart:H.Pairwise bo.off
abbrev ZB(W:World)(H:cI)(w:World):Prop:=bT (λk=>k<W.heap.size) W H w
theorem bo.ok.lt{B:Nat->Prop}{w:World}{c:bo}(h:c.ok B w){b:Nat}(ab:c.has b):¬B b/\b<w.heap.size:=by
  cases c with
  |obj b' o=>
    have:b'=b:=Option.some.inj ab
    subst this;exact⟨h.1,(Array.getElem?_eq_some_iff.1 h.2).1⟩
  |hN b' cs e=>
    have:b'=b:=Option.some.inj ab
    subst this;exact⟨h.1,(Array.getElem?_eq_some_iff.1 h.2).1⟩
  |row A c e size n xs=>exact gq.lt h ab
  |tree d=>
    obtain⟨r,a,ab⟩:=ab;exact gq.lt (h.1 r a) ab
theorem bo.ok.et{B:Nat->Prop}{w w':World}{c:bo}(h:c.ok B w)(aa:∀b,c.has b->w'.heap[b]?=w.heap[b]?):c.ok B w':=by
  cases c with
  |obj b o=>exact⟨h.1,(aa b rfl).trans h.2⟩
  |hN b cs e=>exact⟨h.1,(aa b rfl).trans h.2⟩
  |row A c e size n xs=>exact gq.et h aa
  |tree d=>exact⟨λr a=>gq.et (h.1 r a) λb ab=>aa b ⟨r,a,ab⟩,h.2⟩
theorem bo.ok.base{B B':Nat->Prop}{w:World}{c:bo}(h:c.ok B w)(a:∀b,c.has b->¬B' b):c.ok B' w:=by
  cases c with
  |obj b o=>exact⟨a b rfl,h.2⟩
  |hN b cs e=>exact⟨a b rfl,h.2⟩
  |row A c e size n xs=>exact gq.base h a
  |tree f=>exact⟨λr d=>gq.base (h.1 r d) λb ab=>a b ⟨r,d,ab⟩,h.2⟩
section
variable {B:Nat->Prop} {ai w w':World} {H:cI}
theorem bT.start(w:World):ZB w [] w:=⟨ds.refl _ _,λ_ h=>h,(λ_ h=>by cases h),List.Pairwise.nil⟩
theorem bT.ZC(h:bT B ai H w)(ab:Below w.heap.size w w'):bT B ai H w':=
  ⟨h.below.trans (ds.Zz ab h.base),λk aa=>Nat.lt_of_lt_of_le (h.base k aa) ab.size,λc U=>(h.ok c U).et λb e=>ab.block b ((h.ok c U).lt e).2,h.apart⟩
theorem bT.drew(h:bT B ai H w):bT B ai H w.drew:=⟨⟨h.below.os,h.below.tape,h.below.output,h.below.size,h.below.block⟩,h.base,λc U=>(h.ok c U).et λ_ _=>rfl,h.apart⟩
theorem bT.fresh(h:bT B ai H w):¬B w.heap.size:=λab=>lt_irrefl _ (h.base _ ab)
theorem bT.alloc(h:bT B ai H w)(o:Obj):bT B ai (.obj w.heap.size o::H) (w.alloc o):=by
  have ab:=h.ZC ((Below.refl w.heap.size w).alloc (le_refl _) o);exact⟨ab.below,ab.base,λc U=>by
    rcases List.mem_cons.1 U with rfl|U
    · exact⟨h.fresh,heap_alloc_new w o⟩
    · exact ab.ok c U,
   List.Pairwise.cons (λc U b e a=>by have:=((h.ok c U).lt a).2;have e:w.heap.size=b:=Option.some.inj e;omega) h.apart⟩
theorem bT.Jd(h:bT B ai H w)(cs:bY)(e:TypeId):bT B ai (.hN w.heap.size cs e::H) (w.alloc (.cells cs.toArray e)):=by
  have I:=h.alloc (.cells cs.toArray e);exact⟨I.below,I.base,λc U=>by
    rcases List.mem_cons.1 U with rfl|U
    · exact I.ok (.obj w.heap.size (.cells cs.toArray e)) (by simp)
    · exact I.ok c (mem_cons_of_mem _ U),by
    obtain⟨J,ag⟩:=List.pairwise_cons.1 I.apart;exact List.Pairwise.cons (λc U b e=>J c U b e) ag⟩
theorem bT.fq(h:bT B ai H w){H':cI}(a:H'.Sublist H):bT B ai H' w:=
  ⟨h.below,h.base,λc U=>h.ok c (a.subset U),h.apart.sublist a⟩
theorem bT.perm(h:bT B ai H w){H':cI}(ak:H.Perm H'):bT B ai H' w:=
  ⟨h.below,h.base,λc U=>h.ok c (ak.mem_iff.2 U),(List.Perm.pairwise_iff (λ{c d} a b e f=>a b f e) ak).1 h.apart⟩
end
def hc(w:World)(H:cI)(k:Nat):Prop:=k<w.heap.size/\∀c∈H,¬c.has k
theorem bT.rest{B:Nat->Prop}{ai w:World}{H:cI}(h:bT B ai H w):bT (hc w H) w H w:=
  ⟨ds.refl _ _,λ_ aa=>aa.1,λc U=>(h.ok c U).base λb e a=>a.2 c U e,h.apart⟩
theorem bT.back{B:Nat->Prop}{ai w w':World}{H H':cI}(h:bT B ai H w)(a:bT (hc w H) w H' w'):bT B ai H' w':=by
  have d:∀k,B k->hc w H k:=λk aa=>⟨h.base k aa,λc U e=>((h.ok c U).lt e).1 aa⟩
  exact⟨h.below.trans ⟨a.below.os,a.below.tape,a.below.output,a.below.size,λk aa=>a.below.block k (d k aa)⟩,λk aa=>a.base k (d k aa),
    λc U=>(a.ok c U).base λb e f=>((a.ok c U).lt e).1 (d b f),a.apart⟩
def j5(H:cI)(c:bo)(K:bo->cI):Prop:=∃X Y,H=X++c::Y/\K=λc'=>X++c'::Y
theorem yK{c:bo}{H:cI}:j5 (c::H) c (λc'=>c'::H):=⟨[],H,rfl,rfl⟩
section
variable {B:Nat->Prop} {ai w w':World} {H:cI} {c:bo} {K:bo->cI}
theorem j5.mem(h:j5 H c K):c∈H:=by obtain⟨X,Y,rfl,_⟩:=h;simp
theorem bT.wC(h:bT B ai H w)(aC:j5 H c K){c':bo}(ab:ds B w w')(U:c'.ok B w')(i:∀b,c'.has b->c.has b\/w.heap.size<=b)(aa:∀b,b<w.heap.size->¬c.has b->w'.heap[b]?=w.heap[b]?):bT B ai (K c') w':=by
  obtain⟨X,Y,rfl,rfl⟩:=aC;have ak:=h.apart;have et:∀d∈X++c::Y,bo.off c d->d.ok B w':=λd az l=>(h.ok d az).et λb e=>aa b ((h.ok d az).lt e).2 (λa=>l b a e)
  rw[List.pairwise_append,List.pairwise_cons]at ak;obtain⟨j,⟨g,bE⟩,f⟩:=ak;refine⟨h.below.trans ab,λk aa=>Nat.lt_of_lt_of_le (h.base k aa) ab.size,λd az=>?_,?_⟩
  · rcases List.mem_append.1 az with az|az
    · exact et d (by simp[az]) (λb e a=>f d az c (by simp) b a e)
    · rcases List.mem_cons.1 az with rfl|az
      · exact U
      · exact et d (by simp[az]) (g d az)
  · rw[List.pairwise_append,List.pairwise_cons]
    refine⟨j,⟨λd az b e a=>?_,bE⟩,λd az x an b e a=>?_⟩
    · rcases i b e with bb|bb
      · exact g d az b bb a
      · have:=((h.ok d (by simp[az])).lt a).2;omega
    · rcases List.mem_cons.1 an with rfl|an
      · rcases i b a with bb|bb
        · exact f d az c (by simp) b e bb
        · have:=((h.ok d (by simp[az])).lt e).2;omega
      · exact f d az x (by simp[an]) b e a
end
theorem gq.at{w:World}{B:Nat->Prop}{e:TypeId}{size c n:Nat}{A:Option Addr}{xs:bY}(h:gq w B e size A c n xs)(ba:0<n):∃b,A=some ⟨b,0,none⟩:=by
  rcases h.2 with⟨_,aO,_⟩|⟨g,cur,dY,ad,_⟩
  · omega
  · exact⟨g,ad⟩
def hk.eQ(r:hk):bo:=.row r.A r.c r.e r.size r.n r.xs
section
variable {B:Nat->Prop} {ai w:World} {H X Y:cI} {r:hk} {a6 fC:List hk}
theorem bT.ZE(h:bT B ai (.tree (r::a6)::H) w):bT B ai (r.eQ :: .tree a6::H) w:=by
  obtain⟨I,J⟩:=h.ok _ mem_cons_self;obtain⟨ag,i⟩:=List.pairwise_cons.1 J;obtain⟨f,g⟩:=List.pairwise_cons.1 h.apart;refine⟨h.below,h.base,λc U=>?_,List.Pairwise.cons (λc U b ab d=>?_) (List.Pairwise.cons (λc U b ab d=>?_) g)⟩
  · rcases List.mem_cons.1 U with rfl|U
    · exact I r mem_cons_self
    · rcases List.mem_cons.1 U with rfl|U
      · exact⟨λs a=>I s (mem_cons_of_mem _ a),i⟩
      · exact h.ok c (mem_cons_of_mem _ U)
  · rcases List.mem_cons.1 U with rfl|U
    · obtain⟨s,a,e⟩:=d
      exact ag s a b ab e
    · exact f c U b ⟨r,mem_cons_self,ab⟩ d
  · obtain⟨s,a,e⟩:=ab
    exact f c U b ⟨s,mem_cons_of_mem _ a,e⟩ d
theorem bT.Jf(h:bT B ai (r.eQ :: .tree a6::H) w):bT B ai (.tree (r::a6)::H) w:=by
  have I:=h.ok _ mem_cons_self;obtain⟨J,i⟩:=h.ok (.tree a6) (by simp);obtain⟨ag,g⟩:=List.pairwise_cons.1 h.apart;obtain⟨f,e⟩:=List.pairwise_cons.1 g;refine⟨h.below,h.base,λc U=>?_,List.Pairwise.cons (λc U b ab a=>?_) e⟩
  · rcases List.mem_cons.1 U with rfl|U
    · refine⟨λs aj=>?_,List.Pairwise.cons (λs aj b ab a=>ag (.tree a6) mem_cons_self b ab ⟨s,aj,a⟩) i⟩
      rcases List.mem_cons.1 aj with rfl|aj
      · exact I
      · exact J s aj
    · exact h.ok c (by simp[U])
  · obtain⟨s,aj,d⟩:=ab
    rcases List.mem_cons.1 aj with rfl|aj
    · exact ag c (mem_cons_of_mem _ U) b d a
    · exact f c U b ⟨s,aj,d⟩ a
theorem sf{c:bo}:(X++c::Y).Perm (c::(X++Y)):=perm_middle
theorem bT.Er(h:bT B ai (X++.tree (r::a6)::Y) w):bT B ai (r.eQ::(X++.tree a6::Y)) w:=
  ((h.perm sf).ZE).perm (List.Perm.cons _ sf.symm)
theorem bT.PJ(h:bT B ai (r.eQ::(X++.tree a6::Y)) w):bT B ai (X++.tree (r::a6)::Y) w:=
  ((h.perm (List.Perm.cons _ sf)).Jf).perm sf.symm
theorem hk.ZF{r s:hk}(h:r.off s):s.off r:=λb I J=>h b J I
theorem bT.A3(h:bT B ai (X++.tree a6::Y) w)(a:∃e,a6.Perm e/\fC.Sublist e):bT B ai (X++.tree fC::Y) w:=by
  obtain⟨e,ak,a⟩:=a;have g:∀s∈fC,s∈a6:=λs f=>ak.mem_iff.2 (a.subset f)
  have d:=h.perm sf;obtain⟨I,J⟩:=d.ok _ mem_cons_self;obtain⟨j,i⟩:=List.pairwise_cons.1 d.apart;refine bT.perm ⟨h.below,h.base,λc U=>?_,List.Pairwise.cons (λc U b ab k=>?_) i⟩ sf.symm
  · rcases List.mem_cons.1 U with rfl|U
    · exact⟨λs a=>I s (g s a),((List.Perm.pairwise_iff (λh=>hk.ZF h) ak).1 J).sublist a⟩
    · exact d.ok c (mem_cons_of_mem _ U)
  · obtain⟨s,a,f⟩:=ab
    exact j c U b ⟨s,g s a,f⟩ k
end
end
section
structure Sym(n:Nat)(D:List Deferred)(L:List (Nat×Value))(B:Nat->Prop)(ai:World)(H:cI)(a:Act)(w:World):Prop where
 st:dh n D L a
 aT:bT B ai H w
theorem dS{a b:Nat}(h:blt a b=true):a<b:=le_of_ble_eq_true h
section
variable {r:Option Nat} {P:Program} {ops:Array Oper} {Q:Exit->Act->World->Prop} {o:Oper} {KK:Act->World->Prop}
variable {n:Nat} {D:List Deferred} {L:List (Nat×Value)} {B:Nat->Prop} {ai:World} {H:cI} {a:Act} {w:World}
variable {T:List (TypeId×bK)} {d:Nat}
def fX(P:Program)(o:Oper)(a:Act)(v:Value):Prop:=∀w,(execOp a.eval o).run P w=.ok (.value v) w
theorem Sym.aJ(b:Sym n D L B ai H a w){x:Operand}{v:Value}(an:aJ L x=some v):a.eval x=v:=b.st.aJ an
theorem tl{v:Value}{w':World}{H':cI}(e:Sym n D L B ai H a w)(b:o.guard=none/\o.dst=some d)(az:blt d n=true)(g:(execOp a.eval o).run P w=.ok (.value v) w')(f:bT B ai H' w')(h:∀aU w',Sym n D ((d,v)::L) B ai H' aU w'->KK aU w'):fj P ops o KK a w:=
 hM e.st b.1 b.2 (dS az) g λaU c=>h aU w' ⟨c,f⟩
theorem PK{w':World}{H':cI}(d:Sym n D L B ai H a w)(b:o.guard=none/\o.dst=none)(f:(execOp a.eval o).run P w=.ok .skip w')(e:bT B ai H' w')(h:∀aU w',Sym n D L B ai H' aU w'->KK aU w'):fj P ops o KK a w:=
 A1 d.st b.1 b.2 f λaU c=>h aU w' ⟨c,e⟩
theorem PL{x:Operand}{v:Value}(c:dh n D L a)(b:o.op=.move x)(an:aJ L x=some v):fX P o a (v):=λw=>by simp only[execOp,b,Sem.run_pure,c.aJ an]
theorem PM{x:Operand}{v:Value}(c:dh n D L a)(b:o.op=.assign x)(an:aJ L x=some v):fX P o a (v):=λw=>by simp only[execOp,b,Sem.run_pure,c.aJ an]
theorem PN{c x y:Operand}{g:Bool}{v:Value}(b:dh n D L a)(d:o.op=.pick c x y)(U:aJ L c=some (.bool g))(e:g=true)(an:aJ L x=some v):fX P o a (v):=λw=>by subst e;simp[execOp,d,b.aJ U,b.aJ an,asBool]
theorem PO{c x y:Operand}{g:Bool}{v:Value}(b:dh n D L a)(d:o.op=.pick c x y)(U:aJ L c=some (.bool g))(e:g=false)(an:aJ L y=some v):fX P o a (v):=λw=>by subst e;simp[execOp,d,b.aJ U,b.aJ an,asBool]
theorem ZG{x:Operand}{t:TypeId}{g:Bool}(c:dh n D L a)(b:o.op=.unOp .not t x)(an:aJ L x=some (.bool g)):fX P o a (.bool (!g)):=λw=>by simp[execOp,b,c.aJ an,Op.unary]
theorem PQ{x:Operand}{k:Nat}{vs:bY}{v:Value}(d:dh n D L a)(b:o.op=.extract x k)(an:aJ L x=some (.tuple vs.toArray))(c:vs[k]?=some v):fX P o a (v):=λw=>by simp[execOp,b,d.aJ an,Instr.extract,c]
theorem ZH{fn:Fn}{xs:eA}{vs:bY}(d:dh n D L a)(b:o.op=.makeFunc fn #[] xs.toArray)(c:jO L xs=some vs):fX P o a (.func fn #[] vs.toArray):=λw=>by
 simp[execOp,b,Instr.makeFunc,d.jO c]
theorem ZI{k:IntKind}{u v:Operand}{t e:TypeId}{x y z:Int}(b:dh n D L a)(c:o.op=.binOp .add t u v e)(hu:aJ L u=some (.int k x))(d:aJ L v=some (.int k y))(bF:k.wrap (x+y)=z):fX P o a (.int k z):=λw=>by simp[execOp,c,b.aJ hu,b.aJ d,eqGuard,binOp,Op.intArith,bF]
theorem ZJ{k:IntKind}{u v:Operand}{t e:TypeId}{x y z:Int}(b:dh n D L a)(c:o.op=.binOp .sub t u v e)(hu:aJ L u=some (.int k x))(d:aJ L v=some (.int k y))(bF:k.wrap (x-y)=z):fX P o a (.int k z):=λw=>by simp[execOp,c,b.aJ hu,b.aJ d,eqGuard,binOp,Op.intArith,bF]
theorem ZK{k:IntKind}{u v:Operand}{t e:TypeId}{x y z:Int}(b:dh n D L a)(c:o.op=.binOp .mul t u v e)(hu:aJ L u=some (.int k x))(d:aJ L v=some (.int k y))(bF:k.wrap (x * y)=z):fX P o a (.int k z):=λw=>by simp[execOp,c,b.aJ hu,b.aJ d,eqGuard,binOp,Op.intArith,bF]
theorem ZL{k:IntKind}{u v:Operand}{t f:TypeId}{x y z:Int}(b:dh n D L a)(c:o.op=.binOp .quo t u v f)(hu:aJ L u=some (.int k x))(d:aJ L v=some (.int k y))(e:y≠0)(bF:k.wrap (x.tdiv y)=z):fX P o a (.int k z):=λw=>by simp[execOp,c,b.aJ hu,b.aJ d,eqGuard,binOp,Op.intDiv,e,bF]
theorem ZM{k:IntKind}{u v:Operand}{t f:TypeId}{x y z:Int}(b:dh n D L a)(c:o.op=.binOp .rem t u v f)(hu:aJ L u=some (.int k x))(d:aJ L v=some (.int k y))(e:y≠0)(bF:x.tmod y=z):fX P o a (.int k z):=λw=>by simp[execOp,c,b.aJ hu,b.aJ d,eqGuard,binOp,Op.intDiv,e,bF]
theorem ZN{k:IntKind}{u v:Operand}{t e:TypeId}{x y:Int}(b:dh n D L a)(c:o.op=.binOp .lss t u v e)(hu:aJ L u=some (.int k x))(d:aJ L v=some (.int k y)):fX P o a (.bool (decide (x<y))):=λw=>by simp[execOp,c,b.aJ hu,b.aJ d,eqGuard,binOp,Op.intCmp]
theorem ZO{k:IntKind}{u v:Operand}{t e:TypeId}{x y:Int}(b:dh n D L a)(c:o.op=.binOp .leq t u v e)(hu:aJ L u=some (.int k x))(d:aJ L v=some (.int k y)):fX P o a (.bool (decide (x<=y))):=λw=>by simp[execOp,c,b.aJ hu,b.aJ d,eqGuard,binOp,Op.intCmp]
theorem ZP{k:IntKind}{u v:Operand}{t e:TypeId}{x y:Int}(b:dh n D L a)(c:o.op=.binOp .gtr t u v e)(hu:aJ L u=some (.int k x))(d:aJ L v=some (.int k y)):fX P o a (.bool (decide (x > y))):=λw=>by simp[execOp,c,b.aJ hu,b.aJ d,eqGuard,binOp,Op.intCmp]
theorem ZQ{k:IntKind}{u v:Operand}{t e:TypeId}{x y:Int}(b:dh n D L a)(c:o.op=.binOp .geq t u v e)(hu:aJ L u=some (.int k x))(d:aJ L v=some (.int k y)):fX P o a (.bool (decide (x ≥ y))):=λw=>by simp[execOp,c,b.aJ hu,b.aJ d,eqGuard,binOp,Op.intCmp]
theorem ZR{k:IntKind}{u v:Operand}{t e:TypeId}{x y:Int}(b:dh n D L a)(c:o.op=.binOp .eql t u v e)(hu:aJ L u=some (.int k x))(d:aJ L v=some (.int k y)):fX P o a (.bool (x==y)):=λw=>by simp[execOp,c,b.aJ hu,b.aJ d,eqGuard,binOp,Op.intCmp]
theorem ZS{k:IntKind}{u v:Operand}{t e:TypeId}{x y:Int}(b:dh n D L a)(c:o.op=.binOp .neq t u v e)(hu:aJ L u=some (.int k x))(d:aJ L v=some (.int k y)):fX P o a (.bool (x != y)):=λw=>by simp[execOp,c,b.aJ hu,b.aJ d,eqGuard,binOp,Op.intCmp]
theorem ZT{k:IntKind}{u v:Operand}{t e:TypeId}{x y z:Int}(b:dh n D L a)(c:o.op=.binOp .and t u v e)(hu:aJ L u=some (.int k x))(d:aJ L v=some (.int k y))(bF:bits .and k x y=z):fX P o a (.int k z):=λw=>by simp only[<- bF];simp[execOp,c,b.aJ hu,b.aJ d,eqGuard,binOp,Op.intBits,bits]
theorem ZU{k:IntKind}{u v:Operand}{t e:TypeId}{x y z:Int}(b:dh n D L a)(c:o.op=.binOp .or t u v e)(hu:aJ L u=some (.int k x))(d:aJ L v=some (.int k y))(bF:bits .or k x y=z):fX P o a (.int k z):=λw=>by simp only[<- bF];simp[execOp,c,b.aJ hu,b.aJ d,eqGuard,binOp,Op.intBits,bits]
theorem ZV{k:IntKind}{u v:Operand}{t e:TypeId}{x y z:Int}(b:dh n D L a)(c:o.op=.binOp .xor t u v e)(hu:aJ L u=some (.int k x))(d:aJ L v=some (.int k y))(bF:bits .xor k x y=z):fX P o a (.int k z):=λw=>by simp only[<- bF];simp[execOp,c,b.aJ hu,b.aJ d,eqGuard,binOp,Op.intBits,bits]
theorem ZW{k k':IntKind}{u v:Operand}{t e:TypeId}{x z:Int}{y:Nat}(b:dh n D L a)(c:o.op=.binOp .shl t u v e)(hu:aJ L u=some (.int k x))(d:aJ L v=some (.int k' (y:Int)))(bF:k.wrap (x * 2 ^ (min y k.bits))=z):fX P o a (.int k z):=λw=>by simp only[<- bF];simp[execOp,c,b.aJ hu,b.aJ d,eqGuard,binOp,Op.shift];omega
theorem ZX{k k':IntKind}{u v:Operand}{t e:TypeId}{x z:Int}{y:Nat}(b:dh n D L a)(c:o.op=.binOp .shr t u v e)(hu:aJ L u=some (.int k x))(d:aJ L v=some (.int k' (y:Int)))(bF:x.fdiv (2 ^ (min y k.bits))=z):fX P o a (.int k z):=λw=>by simp only[<- bF];simp[execOp,c,b.aJ hu,b.aJ d,eqGuard,binOp,Op.shift];omega
theorem ZY{k k':IntKind}{u:Operand}{t b:TypeId}{i i':bK}{x z:Int}(g:dh n D L a)(e:o.op=.convert t b u)(c:iq P T)(I:T.lookup t=some i)(J:T.lookup b=some i')(ag:i'.desc=.int k')(hu:aJ L u=some (.int k x))(bF:k'.wrap x=z):fX P o a (.int k' z):=λw=>by have f:=(c _ _ I).1;have d:=(c _ _ J).1;rw[ag]at d;simp[execOp,e,g.aJ hu,convert,run_underlying f,run_underlying d,Conv.intToInt,bF]
theorem yL{u:Operand}{t:TypeId}{i:bK}{e:TypeId}{A:Option Addr}{m c:Nat}(f:dh n D L a)(d:o.op=.call { callee:=.builtin .len,args:=#[u],argTypes:=#[t] })(g:iq P T)(I:T.lookup t=some i)(J:i.desc=.slice e)(hu:aJ L u=some (.slice A m c)):fX P o a (.int .i64 (m:Int)):=λw=>by have b:=(g _ _ I).1;rw[J]at b;simp[execOp,d,resolve,invoke,builtin,Builtin.len_,f.aJ hu,run_underlying b,goInt]
theorem Jg{u:Operand}{t:TypeId}{i:bK}{e:TypeId}{A:Option Addr}{m c:Nat}(f:dh n D L a)(d:o.op=.call { callee:=.builtin .cap,args:=#[u],argTypes:=#[t] })(g:iq P T)(I:T.lookup t=some i)(J:i.desc=.slice e)(hu:aJ L u=some (.slice A m c)):fX P o a (.int .i64 (c:Int)):=λw=>by have b:=(g _ _ I).1;rw[J]at b;simp[execOp,d,resolve,invoke,builtin,Builtin.cap_,f.aJ hu,run_underlying b,goInt]
theorem Jh{u:Operand}{t:TypeId}{k:Nat}{i i':bK}{du:Array Field}{PR r f:String}{ty:TypeId}{off e:Nat}{em:Bool}{b p:Nat}(j:dh n D L a)(g:o.op=.fieldAddr t u k)(d:iq P T)(I:T.lookup t=some i)(J:i.desc=.struct du)(ag:du[k]?=some ⟨PR,ty,off,em,r,f,e⟩)(l:T.lookup ty=some i')(h:blt 0 i'.size=true)(hu:aJ L u=some (.pointer (some ⟨b,p,none⟩))) :
  fX P o a (.pointer (some ⟨b,p+off,none⟩)):=λw=>by
 have c:=(d _ _ I).1;rw[J]at c;have m:=bK.run_sizeOf (d _ _ l);have q:=(Nat.pos_iff_ne_zero.1 (dS h))
 simp[execOp,g,j.aJ hu,Instr.fieldAt,run_underlying c,ag,Instr.sureAddr,fieldPlace,m,q,Addr.add_lit]
theorem Es{u x:Operand}{t e:TypeId}{i i':bK}{b p m c j:Nat}{k:IntKind}{z:Int}(f:dh n D L a)(h:o.op=.indexAddr t u x)(g:iq P T)(I:T.lookup t=some i)(J:i.desc=.slice e)(q:T.lookup e=some i')(hu:aJ L u=some (.slice (some ⟨b,p,none⟩) m c))(an:aJ L x=some (.int k z))(bF:z=(j:Int))(l:j<m):fX P o a (.pointer (some ⟨b,p+j * i'.size,none⟩)):=λw=>by subst bF;have d:=(g _ _ I).1;rw[J]at d;have r:=bK.run_sizeOf (g _ _ q);simp[execOp,h,f.aJ hu,f.aJ an,Instr.indexAt,asIntOf,run_underlying d,r,Addr.add_lit,l]
end
end
section
section
variable {r:Option Nat} {P:Program} {ops:Array Oper} {Q:Exit->Act->World->Prop} {o:Oper} {KK:Act->World->Prop}
variable {n:Nat} {D:List Deferred} {L:List (Nat×Value)} {B:Nat->Prop} {ai:World} {H:cI} {a:Act} {w:World}
variable {T:List (TypeId×bK)} {d:Nat} {K:bo->cI}
theorem Ji(a:bT B ai H w){b:Nat}{cs:bY}{e:TypeId}(aC:j5 H (.hN b cs e) K):w.heap[b]?=some (.cells cs.toArray e):=(a.ok _ aC.mem).2
theorem Jj(a:bT B ai H w){b:Nat}{cs:bY}{e:TypeId}(aC:j5 H (.hN b cs e) K)(j:Nat):w.cell? ⟨b,j,none⟩=cs[j]?:=by
 simp[World.cell?,Ji a aC]
theorem bT.Z1(d:bT B ai H w){b:Nat}{cs f:bY}{e:TypeId}(aC:j5 H (.hN b cs e) K){w':World}(hw:w'.os=w.os/\w'.tape=w.tape/\w'.output=w.output/\w'.heap.size=w.heap.size)(ab:w'.heap[b]?=some (.cells f.toArray e))(c:∀k,k≠b->w'.heap[k]?=w.heap[k]?) :
  bT B ai (K (.hN b f e)) w':=by
 have U:=d.ok _ aC.mem;refine d.wC aC ⟨hw.1,hw.2.1,hw.2.2.1,Nat.le_of_eq hw.2.2.2.symm,λk aa=>c k (λa=>by subst a;exact U.1 aa)⟩ ⟨U.1,ab⟩ (λb' a=>.inl a) λb' _ g=>c b' (λa=>g (by subst a;rfl))
theorem Z2{t:TypeId}{i:bK}(hi:bK.ok P t i)(J:mN i.desc=true){b p:Nat}{vs:bY}(ah:vs.length=i.size)(U:∀j v,vs[j]?=some v->w.cell? ⟨b,p+j,none⟩=some v) :
  (loadVar t ⟨b,p,none⟩).run P w=.ok (.agg vs.toArray) w:=by
 have:=run_loadCells_list (P:=P) w ⟨b,p,none⟩ vs (λj v a=>by rw[Addr.add_lit];exact U j v a)
 rw[ah]at this
 simp[loadVar,bK.A2 hi,J,bK.run_sizeOf hi,this]
theorem Z3{t:TypeId}{i:bK}(hi:bK.ok P t i){b p:Nat}{v:Value}{cs:bY}{e:TypeId}(ab:w.heap[b]?=some (.cells cs.toArray e))(a:v.cells.size=i.size)(I:∀u∈v.cells.toList,u.oneCell'=true)(ak:p+v.cells.size<=cs.length) :
  (storeVar t ⟨b,p,none⟩ v).run P w=.ok () (w.setRow b (cs.take p++v.cells.toList++cs.drop (p+v.cells.size)).toArray):=by
 have J:=run_storeCells_at P b p e v.cells.toList 0 cs.toArray w ab (by simpa using ak) I;unfold storeVar
 simp[bK.run_sizeOf hi,a,J]
end
end
section
theorem Z4{z:Int}(I:-9223372036854775808<=z)(J:z<=9223372036854775807):IntKind.i64.wrap z=z:=by rw[IntKind.wrap_i64];omega
def q8(P:Program)(f:FuncId)(args:Array Value)(w:World)(R:Value->World->Prop):Prop:=
 Calls P f args w λe w'=>∃v,e=.returned v/\R v w'
theorem q8.mono{P:Program}{f:FuncId}{args:Array Value}{w:World}{R a:Value->World->Prop}(h:q8 P f args w R)(c:∀v w',R v w'->a v w'):q8 P f args w a:=
 Calls.mono h λ_ _ ⟨v,e,b⟩=>⟨v,e,c v _ b⟩
section
variable {r:Option Nat} {P:Program} {ops:Array Oper} {Q:Exit->Act->World->Prop} {o:Oper} {KK:Act->World->Prop}
variable {n:Nat} {D:List Deferred} {L:List (Nat×Value)} {B:Nat->Prop} {ai:World} {H:cI} {a:Act} {w:World}
variable {T:List (TypeId×bK)} {d:Nat}
theorem oL(e:Sym n D L B ai H a w){j s:Nat}{want g:Bool}(c:o.guard=some (j,want))(b:(ops[j]?).bind (·.dst)=some s)(d:L.lookup s=some (.bool g)) :
  Region.wanted o (yielded ops a.tmps)=(g==want):=by
 have I:=e.st.has s _ d;have J:yielded ops a.tmps j=some g:=by simp[yielded,b,I]
 simp only[Region.wanted,c,J];cases g<;>cases want<;>rfl
theorem yM(e:Sym n D L B ai H a w){j s:Nat}{want:Bool}(c:o.guard=some (j,want))(b:(ops[j]?).bind (·.dst)=some s)(d:L.lookup s=some undef) :
  Region.wanted o (yielded ops a.tmps)=false:=by
 have I:=e.st.has s _ d;have J:yielded ops a.tmps j=none:=by simp[yielded,b,I,undef]
 simp only[Region.wanted,c,J]
 rfl
theorem Z5{f:FuncId}{fn:Func}{xs:eA}{fR:Array TypeId}{vs:bY}(aA:o.op=.call { callee:=.value (.func f),args:=xs.toArray,argTypes:=fR })(gO:P.funcs[f]?=some fn)(ba : (fn.name == "runtime.NumGoroutine") = false)(ab : fn.body.isNone = false)(aH : xs.map a.eval = vs) : (execOp a.eval o).run P w = .ok (.enter f vs.toArray) w := by
 have e:a.eval (.func f)=.func (.func f) #[] #[]:=rfl
 have ir : fn.name ≠ "runtime.NumGoroutine" := by simpa using ba
 have dw:fn.body≠none:=by intro h;rw[h]at ab;cases ab
 simp[execOp,aA,resolve,e,Deferred.ofValue,invoke,callFunc,program,Sem.run,gO,ir,dw,aH]
theorem Jk{f:FuncId}{fn:Func}{xs:eA}{fR:Array TypeId}{vs:bY}{R:Value->World->Prop}(av:Sym n D L B ai H a w)(aA:o.op=.call { callee:=.value (.func f),args:=xs.toArray,argTypes:=fR })(bh:o.guard=none/\o.dst=some d)(az:blt d n=true)(gO : P.funcs[f]? = some fn)(ba : (fn.name == "runtime.NumGoroutine") = false)(ab : fn.body.isNone = false)(aH : jO L xs = some vs)(cF : q8 P f vs.toArray w R)(h:∀v aU w',R v w'->dh n D ((d,v)::L) aU->KK aU w'):fj P ops o KK a w:=by
 refine .inl ⟨by simp[Region.wanted,bh.1],.inr (.inr ⟨f,vs.toArray,w,Z5 aA gO ba ab (av.st.jO aH),?_⟩)⟩;refine Calls.mono cF ?_;rintro e w' ⟨v,rfl,eo⟩;exact⟨v,rfl,h v _ w' eo (by rw[bh.2];exact av.st.put d v (dS az))⟩
variable {c fD cK:Code}
abbrev mg(r:Option Nat)(P:Program)(c:Code)(Q:Exit->Act->World->Prop)(a:Act)(w:World):Prop:=c.wpIn (WF r) 0 P Q a w
theorem Z6(h:∀K:Act->World->Prop,(∀a w,mg r P cK Q a w->K a w)->mg r P fD (Exit.then K Q) a w):mg r P (.seq fD cK) Q a w:=wpIn_seq_k h
theorem Jl{id:Nat}{l:List Oper}(h:tk r P l.toArray Q l a w):mg r P (.region id l.toArray false) Q a w:=wpIn_region_lit h
theorem PS(h:Q .normal a w):mg r P .skip Q a w:=wpIn_skip h
theorem Jm{id:Nat}(h:Q (.exit id) a w):mg r P (.exit id) Q a w:=wpIn_exit h
theorem Z7(h:Q .ret a w):mg r P .ret Q a w:=wpIn_ret h
theorem PT{id:Nat}(h:mg r P c (Exit.inBlock id Q) a w):mg r P (.block id c) Q a w:=wpIn_block h
theorem PU{x:Operand}{g:Bool}(c:Sym n D L B ai H a w)(an:aJ L x=some (.bool g))(I:g=true->mg r P fD Q a w)(b:g=false->mg r P cK Q a w):mg r P (.cond x fD cK) Q a w:=
 wpIn_cond_split (c.aJ an) I b
theorem Z8{id:Nat}(h:Q .normal a w):Exit.inBlock id Q (.exit id) a w:=by simpa [Exit.inBlock] using h
theorem Z9{id b:Nat}(c:beq b id=false)(h:Q (.exit b) a w):Exit.inBlock id Q (.exit b) a w:=by
 have:b≠id:=ne_of_beq_eq_false c
 simpa [Exit.inBlock,this] using h
theorem least(S:Nat->Prop)(h:∃k,S k):∃k,S k/\∀j,S j->k<=j:=by
 obtain⟨k,aa⟩:=h
 induction k using Nat.strongRecOn with
 |_ k c=>
  by_cases e:∃j,j<k/\S j
  ·obtain⟨j,a,b⟩:=e;exact c j a b
  ·exact⟨k,aa,λj a=>Nat.le_of_not_lt λd=>e ⟨j,d,a⟩⟩
noncomputable def A4(S:Nat->Prop):Nat:=by
 classical
 exact if h:∃k,S k then Classical.choose (least S h)else 0
theorem aaa{S:Nat->Prop}{k:Nat}(h:S k):A4 S<=k:=by
 unfold A4;rw[dif_pos ⟨k,h⟩];exact(Classical.choose_spec (least S ⟨k,h⟩)).2 k h
theorem aab{S:Nat->Prop}{k:Nat}(h:S k):S (A4 S):=by
 unfold A4;rw[dif_pos ⟨k,h⟩];exact(Classical.choose_spec (least S ⟨k,h⟩)).1
theorem PV{α:Type}(M:α->Act->World->Prop)(m:α->Nat)(x:α)(d:M x a w)(f:∀x a w,M x a w->mg r P c (Exit.then (λaU w'=>∃y,M y aU w'/\m y<m x) Q) a w):mg r P (.loop c) Q a w:=by
 refine wpIn_loop (λa w=>∃x,M x a w) (λa w=>A4 λk=>∃x,M x a w/\m x=k) ⟨x,d⟩ ?_;rintro a w ⟨y,aG⟩;obtain⟨z,bF,h⟩:=aab (S:=λk=>∃x,M x a w/\m x=k) ⟨y,aG,rfl⟩;refine wpIn_mono (f z a w bF) ?_;intro e aU w' b;cases e with
 |normal=>
  obtain⟨u,hu,g⟩:=b;refine⟨⟨u,hu⟩,?_⟩
  have:=aaa (S:=λk=>∃x,M x aU w'/\m x=k) ⟨u,hu,rfl⟩
  omega
 |_=>exact b
theorem aac{N:Nat}(vs:bY)(a1:vs.length<=N):(vs.toArray++Array.replicate (N-vs.toArray.size) undef).size=N:=by simp;omega
end
end
section
section
variable {P:Program} {ops:Array Oper} {Q:Exit->Act->World->Prop} {o:Oper} {KK:Act->World->Prop}
variable {n:Nat} {D:List Deferred} {L:List (Nat×Value)} {B:Nat->Prop} {ai:World} {H:cI} {a:Act} {w:World}
variable {d:Nat} {S:World->Prop} {listed listed':Array Bool} {fuel:Nat}
end
end
end
section
section
variable {r:Option Nat} {P:Program} {ops:Array Oper} {Q:Exit->Act->World->Prop} {o:Oper} {KK:Act->World->Prop}
variable {n:Nat} {D:List Deferred} {L ea:List (Nat×Value)} {B:Nat->Prop} {ai:World} {H H':cI} {a:Act} {w:World}
variable {d:Nat} {c:Code}
end
end
section
section
theorem A5{P:Program}{t:TypeId}{k:IntKind}(h:P.underlying t=some (.int k))(b:Bool)(n:Nat)(x:Int)(w:World) :
  (Instr.checkKey b (n+1) t (.int k x)).run P w=.ok () w:=by
 simp[Instr.checkKey,run_underlying h]
section
variable {P:Program} {ops:Array Oper} {o:Oper} {KK:Act->World->Prop}
variable {n:Nat} {D:List Deferred} {L:List (Nat×Value)} {B:Nat->Prop} {ai:World} {H:cI} {a:Act} {w:World}
variable {T:List (TypeId×bK)} {d:Nat} {K:bo->cI}
theorem bT.wF(d:bT B ai H w){b:Nat}{x x':Obj}(aC:j5 H (.obj b x) K) :
  bT B ai (K (.obj b x')) { w with heap:=w.heap.setIfInBounds b x' }:=by
 have U:=d.ok _ aC.mem;have e:=(Array.getElem?_eq_some_iff.1 U.2).1;have c:∀k,k≠b->(w.heap.setIfInBounds b x')[k]?=w.heap[k]?:=λk aa=>Array.getElem?_setIfInBounds_ne (Ne.symm aa)
 refine d.wC aC ⟨rfl,rfl,rfl,by simp,λk aa=>c k (λa=>by subst a;exact U.1 aa)⟩ ⟨U.1,by simp[e]⟩ (λb' a=>.inl a) λb' _ f=>c b' (λa=>f (by subst a;rfl))
end
end
end
section
section
variable {P:Program} {o:Oper} {n:Nat} {D:List Deferred} {L:List (Nat×Value)} {a:Act} {T:List (TypeId×bK)}
theorem aad{u v:Operand}{t f:TypeId}{i:bK}{x y:Bool}(c:dh n D L a)(d:o.op=.binOp .eql t u v f)(g:iq P T)(I:T.lookup t=some i)(J:i.desc=.bool)(hu:aJ L u=some (.bool x))(e:aJ L v=some (.bool y)):fX P o a (.bool (x==y)):=λw=>by
 have b:=(g _ _ I).1;rw[J]at b
 have:(Op.equal t (.bool x) (.bool y)).run P w=.ok (x==y) w:=run_equalIn_bool w 9999 t x y b
 simp[execOp,d,c.aJ hu,c.aJ e,eqGuard,binOp,this]
theorem aae{u v:Operand}{t f:TypeId}{i:bK}{x y:Bool}(c:dh n D L a)(d:o.op=.binOp .neq t u v f)(g:iq P T)(I:T.lookup t=some i)(J:i.desc=.bool)(hu:aJ L u=some (.bool x))(e:aJ L v=some (.bool y)):fX P o a (.bool (x != y)):=λw=>by
 have b:=(g _ _ I).1;rw[J]at b
 have:(Op.equal t (.bool x) (.bool y)).run P w=.ok (x==y) w:=run_equalIn_bool w 9999 t x y b
 simp[execOp,d,c.aJ hu,c.aJ e,eqGuard,binOp,this,bne]
theorem aaf{u v:Operand}{t e:TypeId}{x y:ByteArray}(b:dh n D L a)(c:o.op=.binOp .eql t u v e)(hu:aJ L u=some (.string x))(d:aJ L v=some (.string y)):fX P o a (.bool (x.toList==y.toList)):=λw=>by
 simp[execOp,c,b.aJ hu,b.aJ d,eqGuard,binOp,Op.stringOp]
theorem aag{u v:Operand}{t e:TypeId}{x y:ByteArray}(b:dh n D L a)(c:o.op=.binOp .neq t u v e)(hu:aJ L u=some (.string x))(d:aJ L v=some (.string y)):fX P o a (.bool (!(x.toList==y.toList))):=λw=>by
 simp[execOp,c,b.aJ hu,b.aJ d,eqGuard,binOp,Op.stringOp]
theorem aah{u v:Operand}{t e:TypeId}{x y:Array Value}{r:Bool}(b:dh n D L a)(c:o.op=.binOp .eql t u v e)(hu:aJ L u=some (.agg x))(d:aJ L v=some (.agg y))(f:P.eqGuardType P.depth t=false)(he:∀w,(Op.equalIn 10000 t (.agg x) (.agg y)).run P w=.ok r w):fX P o a (.bool r):=λw=>by
 simp[execOp,c,b.aJ hu,b.aJ d,run_eqGuard_agg w .eql t u v x y f,run_eql_struct,he w]
theorem aai{u v:Operand}{t e:TypeId}{x y:Array Value}{r:Bool}(b:dh n D L a)(c:o.op=.binOp .neq t u v e)(hu:aJ L u=some (.agg x))(d:aJ L v=some (.agg y))(f:P.eqGuardType P.depth t=false)(he:∀w,(Op.equalIn 10000 t (.agg x) (.agg y)).run P w=.ok r w):fX P o a (.bool (!r)):=λw=>by
 simp[execOp,c,b.aJ hu,b.aJ d,run_eqGuard_agg w .neq t u v x y f,run_neq_struct,he w]
end
end
section
theorem aaj{P:Program}(w:World)(d:Nat)(t:TypeId)(xs ys:Array Value){du:List Field}(h:P.underlying t=some (.struct du.toArray))(ak:P.stoodInHeld t=false) :
  (Op.equalIn (d+1) t (.agg xs) (.agg ys)).run P w=(Op.eqFields d xs ys du).run P w:=by
 have aC:P.fieldsOf t=du.toArray:=by simp[Program.fieldsOf,h]
 rw[run_equalIn_struct w d t xs ys (by rw[aC];exact h) ak,aC]
end
section
section
variable {w:World} {B:Nat->Prop} {e:TypeId} {size n c:Nat} {A:Option Addr} {xs:bY}
theorem A6(g:Nat)(e:TypeId)(b:Nat×Nat):∀(vs:bY) (o:Nat) (w:World) (cur:Array Value),w.heap[g]?=some (.cells cur e b)->o+vs.length<=cur.size ->
  w.setCells g o vs=w.setRow g (cur.toList.take o++vs++cur.toList.drop (o+vs.length)).toArray
 |[],o,w,cur,a,_=>by
  simp only[World.setCells,append_nil,List.length_nil,add_zero,List.take_append_drop,Array.toArray_toList];exact(setRow_self w g cur e b a).symm
 |v::vs,o,w,cur,a,ah=>by
  simp only[length_cons]at ah;have I:w.setCell ⟨g,o,none⟩ v=w.setRow g (cur.setIfInBounds o v):=by
   unfold World.setCell World.setRow
   congr 1
   apply ext
   ·simp
   ·intro i I J
    simp only[Array.getElem_modify]
    split
    ·rename_i hi
     subst hi;rw[(Array.getElem?_eq_some_iff.1 a).2]
     simp
    ·rfl
  have J:=setRow_heap w g cur (cur.setIfInBounds o v) e b a;rw[World.setCells,I,A6 g e b vs (o+1) _ _ J (by simp;omega),setRow_setRow]
  congr 1
  apply congrArg List.toArray
  rw[Array.toList_setIfInBounds,List.take_succ_eq_append_getElem (by simp;omega)];rw[List.take_set_of_le (by omega),List.drop_set_of_lt (by omega)]
  simp[add_comm,Nat.add_left_comm]
theorem gq.cells(h:gq w B e size A c n xs){g:Nat}(ad:A=some ⟨g,0,none⟩)(j:Nat)(a:j<n * size):w.cell? ⟨g,j,none⟩=xs[j]?:=by
 rcases h.2 with⟨I,_⟩|⟨g',cur,dY,I,_,cn,_,_,_,_,bg⟩
 ·rw[ad]at I;cases I
 ·rw[ad]at I
  have:g=g':=by injection I with I;injection I
  subst this;rw[<- bg,getElem?_take,if_pos a]
  simp[World.cell?,cn]
theorem gq.le(h:gq w B e size A c n xs):n<=c/\c<=maxLen:=by
 rcases h.2 with⟨_,I,J⟩|⟨g',cur,dY,I,_,cn,_,I,J,_,bg⟩
 ·subst I;subst J;exact⟨le_refl _,zero_le _⟩
 ·exact⟨I,J⟩
end
section
variable {P:Program} {w:World}
theorem aak{B:Nat->Prop}{t ty e:TypeId}{i:bK}(bg:P.underlying t=some (.slice e))(hi:bK.ok P e i)(T:0<i.size)(Q:i.zero.cells.size=i.size){A:Option Addr}{c n:Nat}{xs:bY}(d:gq w B e i.size A c n xs){b:Nat}{p m cc:Nat}{a:bY}(ah:a.length=m * i.size)(K:∀j u,a[j]?=some u->w.cell? ⟨b,p+j,none⟩=some u)(I:∀u∈a,u.oneCell'=true)(E:(n+m) * i.bytes<=140737488355328)(V:n+m<=140737488355328)(O:¬B w.heap.size) :
  ∃C c' w',(Builtin.append_ #[t,t] ty #[.slice A n c,.slice (some ⟨b,p,none⟩) m cc]).run P w=.ok (.slice C (n+m) c') w'/\gq w' B e i.size C c' (n+m) (xs++a) /\
   w'.os=w.os/\w'.tape=w.tape/\w'.output=w.output/\w.heap.size<=w'.heap.size /\
   (∀k,k<w.heap.size->A.map (·.block)≠some k->w'.heap[k]?=w.heap[k]?)/\(∀k,C.map (·.block)=some k->A.map (·.block)=some k\/w.heap.size<=k)/\(n+m<=c->c'=c):=by
 obtain⟨inf,r,l,F,H⟩:=bK.info hi;have q:(xs++a).length=(n+m) * i.size:=by rw[length_append,d.1,ah,add_mul]
 have y:∀j v,a[j]?=some v->w.cell? ((⟨b,p,none⟩:Addr).add j)=some v:=λj v f=>by rw[Addr.add_lit];exact K j v f
 have L:n+m<=maxLen:=by simp only[maxLen];omega
 have grown:∀(lf:Nat),lf<n+m ->
   gq (w.drew.alloc (.cells (xs.toArray++a.toArray++Builtin.zeroCells i.zero.cells (grownCap w (n+m) lf e-(n+m))) e)) B e i.size (some ⟨w.heap.size,0,none⟩) (grownCap w (n+m) lf e) (n+m) (xs++a):=by
  intro lf _;have S:=grownCap_ge w (n+m) lf e;have D:=grownCap_le_maxLen w (n+m) lf e L;refine⟨q,.inr ⟨w.heap.size,_,(0,0),rfl,O,heap_alloc_new w.drew _,.inl rfl,S,D,?_,?_⟩⟩
  ·simp only[Array.size_append,size_toArray,size_zeroCells,Q,d.1,ah,<- add_mul]
   congr 1
   omega
  ·simp only[Array.toList_append,append_assoc]
   rw[<- append_assoc,<- q];exact take_left
 have blk:∀o k,k<w.heap.size->(w.drew.alloc o).heap[k]?=w.heap[k]?:=λo k aa=>Below.heap_alloc w.drew o k aa
 rcases d.2 with⟨rfl,rfl,rfl⟩|⟨g,cur,dY,rfl,qi,aP,mh,py,D,jg,jP⟩
 ·have an:xs=[]:=eq_nil_of_length_eq_zero (by simpa using d.1)
  subst an
  by_cases R:m=0
  ·subst R
   have ba:=eq_nil_of_length_eq_zero (by simpa using ah);subst ba;refine⟨none,0,w,?_,by simpa using d,rfl,rfl,rfl,le_refl _,λ_ _ _=>rfl,(λk h=>by cases h),λ_=>rfl⟩
   simp[Builtin.append_,run_underlying bg,sizeOf,typeInfo,r,Builtin.lenOf,Builtin.firstCells,loadCells,loadCellsFrom]
  ·have z:=run_append_nil w t ty e inf i.zero bg r H ⟨b,p,none⟩ m cc a (by rw[ah,l]) y (by omega) (by omega) (by rw[F];have:=E;simp only[zero_add]at this;omega)
   have G:=grown 0 (by omega);simp only[zero_add,nil_append,Array.empty_append]at G ⊢;exact⟨_,_,_,z,G,rfl,rfl,rfl,by simp,λk aa _=>blk _ k aa,λk aa=>.inr (by simp at aa;omega),λU=>by omega⟩
 ·have holds:∀j u,xs[j]?=some u->w.cell? ((⟨g,0,none⟩:Addr).add j)=some u:=λj u hu=>by
   rw[Addr.add_lit,zero_add];have f:j<n * i.size:=by have:=(List.getElem?_eq_some_iff.1 hu).1;rw[d.1]at this;exact this
   rw[d.cells rfl j f];exact hu
  by_cases s:n+m<=c
  ·have J:n * i.size+a.length<=cur.size:=by rw[ah,jg,<- add_mul];exact mul_le_mul_right _ s
   have aC:=run_firstCells_some (P:=P) w i.size m ⟨b,p,none⟩ m cc a ah y;have c7:=run_storeCells_cells (P:=P) g (n * i.size) a 0 w (λj f=>by
     simp only[World.cell?,aP]
     simp;omega) (λj f=>by
     simp only[World.frozen?,aP]
     rcases mh with h|h
     ·simp;omega
     ·simp;omega) I
   rw[add_zero,A6 g e dY a _ w cur aP J]at c7;have N:(Builtin.append_ #[t,t] ty #[.slice (some ⟨g,0,none⟩) n c,.slice (some ⟨b,p,none⟩) m cc]).run P w =
     .ok (.slice (some ⟨g,0,none⟩) (n+m) c) (w.setRow g (cur.toList.take (n * i.size)++a++cur.toList.drop (n * i.size+a.length)).toArray):=by
    simp[Builtin.append_,run_underlying bg,sizeOf,typeInfo,r,l,Builtin.lenOf,s,aC,Addr.add_lit,c7]
   refine⟨some ⟨g,0,none⟩,c,_,N,⟨q,.inr ⟨g,_,dY,rfl,qi,setRow_heap w g cur _ e _ aP,?_,s,D,?_,?_⟩⟩,rfl,rfl,rfl,by simp,λk _ aa=>setRow_other w g k _ (λM=>aa (by simp[M])),λk aa=>.inl aa,λ_=>rfl⟩
   ·rcases mh with h|h
    ·exact .inl h
    ·exact .inr (by simp;omega)
   ·simp only[size_toArray,length_append,length_take,length_drop,length_toList]
    omega
   ·rw[jP,<- q]
    exact take_left
  ·have z:=run_append_grow w t ty e inf i.zero bg r H ⟨g,0,none⟩ n c xs (by rw[d.1,l]) holds ⟨b,p,none⟩ m cc a (by rw[ah,l]) y (by omega) (by omega) (growslice_fits (by omega) (by rw[F];exact E))
   exact⟨_,_,_,z,grown c (by omega),rfl,rfl,rfl,by simp,λk aa _=>blk _ k aa,λk aa=>.inr (by simp at aa;omega),λU=>absurd U s⟩
end
end
section
def Reads(w:World)(A:Option Addr)(m size:Nat)(a:bY):Prop:=
 a.length=m * size/\(0<m->∃b p,A=some ⟨b,p,none⟩/\∀j u,a[j]?=some u->w.cell? ⟨b,p+j,none⟩=some u)
def kr(A:Option Addr)(l size m:Nat):Option Addr:=if m=l then A else A.map (·.add (l * size))
theorem Reads.nil(w:World)(A:Option Addr)(size:Nat):Reads w A 0 size []:=⟨by simp,λh=>absurd h (by omega)⟩
theorem Reads.cut{w:World}{A:Option Addr}{m size l h c:Nat}{d:bY}(a:Reads w A m size d)(ah:l<=h)(e:h<=m)(U:h<=c) :
  Reads w (kr A l size c) (h-l) size ((d.drop (l * size)).take ((h-l) * size)):=by
 have g:h * size<=m * size:=mul_le_mul_right _ e;refine⟨by rw[length_take,length_drop,a.1,Nat.sub_mul];omega,λak=>?_⟩;obtain⟨b,p,rfl,f⟩:=a.2 (by omega);refine⟨b,p+l * size,?_,λj u hu=>?_⟩
 ·unfold kr
  rw[if_neg (by omega)]
  simp[Addr.add_lit]
 ·rw[getElem?_take]at hu
  split at hu
  ·rw[getElem?_drop]at hu
   have:=f _ u hu
   rw[add_assoc];exact this
  ·cases hu
section
variable {w ai:World} {B:Nat->Prop} {H:cI} {K:bo->cI}
theorem Reads.row(b:bT B ai H w){A:Option Addr}{c:Nat}{e:TypeId}{size n:Nat}{xs:bY}(aC:j5 H (.row A c e size n xs) K):Reads w A n size xs:=by
 have a:=b.ok _ aC.mem;refine⟨a.1,λba=>?_⟩
 rcases a.2 with⟨_,I,_⟩|⟨g,cur,dY,I,_⟩
 ·omega
 ·refine⟨g,0,I,λj u hu=>?_⟩
  rw[zero_add,a.cells I j (by have:=(List.getElem?_eq_some_iff.1 hu).1;rw[a.1]at this;exact this)];exact hu
theorem bT.uP(a:bT B ai H w)(e:TypeId)(size:Nat):bT B ai (.row none 0 e size 0 []::H) w:=
 ⟨a.below,a.base,λc U=>by
  rcases List.mem_cons.1 U with rfl|U
  ·exact⟨by simp,.inl ⟨rfl,rfl,rfl⟩⟩
  ·exact a.ok c U,List.Pairwise.cons (λc U b e=>by cases e) a.apart⟩
end
section
variable {P:Program} {ops:Array Oper} {o:Oper} {KK:Act->World->Prop}
variable {n:Nat} {D:List Deferred} {L:List (Nat×Value)} {B:Nat->Prop} {ai:World} {H:cI} {a:Act} {w:World}
variable {T:List (TypeId×bK)} {d:Nat} {K:bo->cI}
theorem PX{s x:Operand}{t e:TypeId}{i i':bK}{A g:Option Addr}{c k m cc:Nat}{xs z:bY}(f:Sym n D L B ai H a w)(C:o.op=.call { callee:=.builtin .append,args:=#[s,x],argTypes:=#[t,t] })(M:o.guard=none/\o.dst=some d)(az:blt d n=true)(G:iq P T)(I:T.lookup t=some i)(J:i.desc=.slice e)(ag:T.lookup e=some i')(S:blt 0 i'.size=true)(Q:i'.zero.cells.size=i'.size)(E:aJ L s=some (.slice A k c))(an:aJ L x=some (.slice g m cc))(aC:j5 H (.row A c e i'.size k xs) K)(r:Reads w g m i'.size z)(ab:∀u∈z,u.oneCell'=true)(Z:(k+m) * i'.bytes<=140737488355328)(ad:k+m<=140737488355328)(h:∀j c' aU w',(k+m<=c->c'=c)->Sym n D ((d,.slice j (k+m) c')::L) B ai (K (.row j c' e i'.size (k+m) (xs++z))) aU w'->KK aU w'):fj P ops o KK a w:=by
 have l:=(G _ _ I).1;rw[J]at l;have N:=G _ _ ag;have y:=f.aT.ok _ aC.mem
 by_cases aa:m=0
 ·subst aa
  have ba:=eq_nil_of_length_eq_zero (by simpa using r.1);subst ba;have v:(execOp a.eval o).run P w=.ok (.value (.slice A (k+0) c)) w:=by
   have hle:=y.le.1;have ak:(Builtin.append_ #[t,t] o.type #[.slice A k c,.slice g 0 cc]).run P w=.ok (.slice A k c) w:=by
    have ac:=bK.run_sizeOf N w;have al:(Builtin.firstCells i'.size 0 (.slice g 0 cc)).run P w=.ok #[] w:=by
     cases g<;>simp[Builtin.firstCells,loadCells,loadCellsFrom]
    simp only[Builtin.append_]
    simp[run_underlying l,Builtin.lenOf,hle]
    cases A<;>simp[storeCells,ac,al]
   simp[execOp,C,resolve,invoke,builtin,f.aJ E,f.aJ an,ak]
  refine tl f M az v ?_ (λaU w'=>h A c aU w' λ_=>rfl)
  have:=f.aT
  obtain⟨X,Y,rfl,rfl⟩:=aC
  simpa using this
 ·obtain⟨b,p,rfl,U⟩:=r.2 (by omega)
  obtain⟨j,c',w',v,R,af,aj,ah,W,O,ae,am⟩:=aak (ty:=o.type) l N (dS S) Q y (cc:=cc) r.1 U ab Z ad f.aT.fresh;refine tl f M az (w':=w') (by simp[execOp,C,resolve,invoke,builtin,f.aJ E,f.aJ an,v]) ?_ (λaU w'=>h j c' aU w' am);exact f.aT.wC aC ⟨af,aj,ah,W,λq F=>O q (f.aT.base q F) (λV=>(bo.ok.lt (c:=.row A c e i'.size k xs) y V).1 F)⟩ R ae O
theorem Et{s x:Operand}{t e:TypeId}{i i':bK}{A g:Option Addr}{c k m cc:Nat}{xs f:bY}(r:Sym n D L B ai H a w)(j:o.op=.call { callee:=.builtin .append,args:=#[s,x],argTypes:=#[t,t] })(z:o.guard=none/\o.dst=some d)(az:blt d n=true)(y:iq P T)(I:T.lookup t=some i)(J:i.desc=.slice e)(ag:T.lookup e=some i')(q:blt 0 i'.size=true)(l:i'.zero.cells.size=i'.size)(p:aJ L s=some (.slice A k c))(an:aJ L x=some (.slice g m cc))(aC:j5 H (.row A c e i'.size k xs) K)(v:Reads w g m i'.size f)(E:∀u∈f,u.oneCell'=true)(C:(k+m) * i'.bytes<=140737488355328)(F:k+m<=140737488355328)(h:∀b c' aU w',Sym n D ((d,.slice b (k+m) c')::L) B ai (K (.row b c' e i'.size (k+m) (xs++f))) aU w'->KK aU w'):fj P ops o KK a w:=
 PX r j z az y I J ag q l p an aC v E C F λb c' aU w' _=>h b c' aU w'
end
end
section
section
variable {P:Program} {ops:Array Oper} {o:Oper} {KK:Act->World->Prop}
variable {n:Nat} {D:List Deferred} {L:List (Nat×Value)} {B:Nat->Prop} {ai:World} {H:cI} {a:Act} {w:World}
variable {T:List (TypeId×bK)} {d:Nat} {K:bo->cI}
theorem PY{u x:Operand}{t e:TypeId}{i i':bK}{A:Option Addr}{m c l:Nat}{k:IntKind}{z:Int}(d:dh n D L a)(g:o.op=.slice t u (some x) none none)(f:iq P T)(I:T.lookup t=some i)(J:i.desc=.slice e)(ag:T.lookup e=some i')(hu:aJ L u=some (.slice A m c))(an:aJ L x=some (.int k z))(bF:z=(l:Int))(ah:l<=m) :
  fX P o a (.slice (kr A l i'.size c) (m-l) (c-l)):=λw=>by
 subst bF;have b:=(f _ _ I).1;rw[J]at b
 simp[execOp,g,d.aJ hu,d.aJ an,Instr.sliceAt,Instr.slice,Instr.sliceBounds,Instr.sliceBound,asIntOf,run_underlying b,bK.run_sizeOf (f _ _ ag),ah,kr]
theorem aao{u x:Operand}{t e:TypeId}{i i':bK}{A:Option Addr}{m c h:Nat}{k:IntKind}{z:Int}(d:dh n D L a)(g:o.op=.slice t u none (some x) none)(f:iq P T)(I:T.lookup t=some i)(J:i.desc=.slice e)(ag:T.lookup e=some i')(hu:aJ L u=some (.slice A m c))(an:aJ L x=some (.int k z))(bF:z=(h:Int))(ah:h<=c) :
  fX P o a (.slice A h c):=λw=>by
 subst bF;have b:=(f _ _ I).1;rw[J]at b
 simp[execOp,g,d.aJ hu,d.aJ an,Instr.sliceAt,Instr.slice,Instr.sliceBounds,Instr.sliceBound,asIntOf,run_underlying b,bK.run_sizeOf (f _ _ ag),ah]
 by_cases U:c=0
 ·simp[U]
 ·cases A with
  |none=>simp
  |some j=>simp[Addr.add]
theorem aap{u x y:Operand}{t e:TypeId}{i i':bK}{A:Option Addr}{m c l h:Nat}{k k':IntKind}{z g:Int}(b:dh n D L a)(j:o.op=.slice t u (some x) (some y) none)(f:iq P T)(I:T.lookup t=some i)(J:i.desc=.slice e)(ag:T.lookup e=some i')(hu:aJ L u=some (.slice A m c))(an:aJ L x=some (.int k z))(aG:aJ L y=some (.int k' g))(bF:z=(l:Int))(q:g=(h:Int))(ah:l<=h)(p:h<=c) :
  fX P o a (.slice (kr A l i'.size c) (h-l) (c-l)):=λw=>by
 subst bF;subst q;have d:=(f _ _ I).1;rw[J]at d
 simp[execOp,j,b.aJ hu,b.aJ an,b.aJ aG,Instr.sliceAt,Instr.slice,Instr.sliceBounds,Instr.sliceBound,asIntOf,run_underlying d,bK.run_sizeOf (f _ _ ag),ah,p,kr]
def ff(z:bY)(k:Nat):bY:=(replicate k z).flatten
theorem A8(z:bY)(k:Nat):(ff z k).length=k * z.length:=by simp[ff]
theorem PZ(z:bY)(bF:0<z.length):∀k:Nat,(range (k * z.length)).map (λj=>z.toArray[j % z.toArray.size]!)=(ff z k).toArray:=by
 intro k
 apply ext
 ·simp[ff]
 ·intro j I J
  simp only[Array.size_map,Array.size_range]at I;have c:=Nat.mod_lt j bF;have g:j<(ff z k).length:=by rw[A8];exact I
  have key:∀(k j:Nat),j<k * z.length->(ff z k)[j]?=z[j % z.length]?:=by
   intro k
   induction k with
   |zero=>intro j a;simp at a
   |succ k f=>
    intro j a
    have:ff z (k+1)=z++ff z k:=by simp[ff,List.replicate_succ]
    rw[this]
    by_cases b:j<z.length
    ·rw[List.getElem?_append_left b,Nat.mod_eq_of_lt b]
    ·rw[List.getElem?_append_right (by omega),f (j-z.length) (by rw[add_mul]at a;omega)]
     congr 1
     exact(Nat.mod_eq_sub_mod (by omega)).symm
  have ag:=key k j I;have e:=getElem?_eq_getElem g;rw[e,getElem?_eq_getElem c]at ag;have d:(ff z k).toArray[j]=(ff z k)[j]:=by simp
  rw[d,Option.some.inj ag]
  simp[c]
theorem aaq{s x:Operand}{t e:TypeId}{i i':bK}{A y:Option Addr}{c k cc:Nat}{xs f:bY}(l:Sym n D L B ai H a w)(G:o.op=.call { callee:=.builtin .copy,args:=#[s,x],argTypes:=#[t,t] })(O:o.guard=none/\o.dst=some d)(az:blt d n=true)(N:iq P T)(I:T.lookup t=some i)(J:i.desc=.slice e)(ag:T.lookup e=some i')(M:aJ L s=some (.slice A k c))(an:aJ L x=some (.slice y k cc))(aC:j5 H (.row A c e i'.size k xs) K)(m:Reads w y k i'.size f)(Z:∀u∈f,u.oneCell'=true)(h:∀aU w',Sym n D ((d,.int .i64 (k:Int))::L) B ai (K (.row A c e i'.size k f)) aU w'->KK aU w'):fj P ops o KK a w:=by
 have z:=(N _ _ I).1;rw[J]at z;have Q:=N _ _ ag;have R:=l.aT.ok _ aC.mem
 by_cases aa:k=0
 ·subst aa
  have ba:=eq_nil_of_length_eq_zero (by simpa using m.1);have ab:xs=[]:=eq_nil_of_length_eq_zero (by simpa using R.1);subst ba;subst ab;have F:(Builtin.copy_ #[t,t] o.type #[.slice A 0 c,.slice y 0 cc]).run P w=.ok (.int .i64 0) w:=by
   have ac:(Builtin.firstCells i'.size 0 (.slice y 0 cc)).run P w=.ok #[] w:=by
    cases y<;>simp[Builtin.firstCells,loadCells,loadCellsFrom]
   cases A<;>simp[Builtin.copy_,run_underlying z,Builtin.lenOf,bK.run_sizeOf Q,ac,storeCells,goInt]
  refine tl l O az (w':=w) (by simp[execOp,G,resolve,invoke,builtin,l.aJ M,l.aJ an,F]) ?_ h
  have:=l.aT
  obtain⟨X,Y,rfl,rfl⟩:=aC;exact this
 ·obtain⟨b,p,rfl,U⟩:=m.2 (by omega)
  rcases R.2 with⟨_,aO,_⟩|⟨g,cur,dY,rfl,qi,aP,mh,py,j6,jg,jP⟩
  ·omega
  ·have S:0+f.length<=cur.size:=by rw[m.1,jg,zero_add];exact mul_le_mul_right _ py
   have W:=run_firstCells_some (P:=P) w i'.size k ⟨b,p,none⟩ k cc f m.1 (λj v C=>by rw[Addr.add_lit];exact U j v C);have c7:=run_storeCells_cells (P:=P) g 0 f 0 w (λj C=>by
     simp only[World.cell?,aP]
     simp;omega) (λj C=>by
     simp only[World.frozen?,aP]
     rcases mh with h|h
     ·simp;omega
     ·simp;omega) Z
   rw[add_zero,A6 g e dY f _ w cur aP S]at c7;have F:(Builtin.copy_ #[t,t] o.type #[.slice (some ⟨g,0,none⟩) k c,.slice (some ⟨b,p,none⟩) k cc]).run P w=.ok (.int .i64 (k:Int)) (w.setRow g (cur.toList.take 0++f++cur.toList.drop (0+f.length)).toArray):=by
    have V:=Nat.min_self k;simp only[Builtin.copy_]
    simp[run_underlying z,Builtin.lenOf,bK.run_sizeOf Q,V,W,c7,goInt]
   refine tl l O az (w':=w.setRow g (cur.toList.take 0++f++cur.toList.drop (0+f.length)).toArray) (by simp only[execOp,G,resolve,invoke,builtin,Sem.run_bind,Sem.run_pure,Result.andThen_ok,map_toArray,map_cons,map_nil,l.aJ M,l.aJ an,F]) ?_ h;refine l.aT.wC aC ⟨rfl,rfl,rfl,by simp,λq r=>setRow_other w g q _ (λE=>by subst E;exact qi r)⟩ (c':=.row (some ⟨g,0,none⟩) c e i'.size k f) ?_ (λq r=>.inl r) λq _ r=>setRow_other w g q _ (λE=>r (by subst E;rfl))
   refine⟨m.1,.inr ⟨g,_,dY,rfl,qi,setRow_heap w g cur _ e _ aP,?_,py,j6,?_,?_⟩⟩
   ·rcases mh with h|h
    ·exact .inl h
    ·exact .inr (by simp;omega)
   ·simp only[size_toArray,length_append,length_take,length_drop,length_toList]
    omega
   ·simp only[take_zero,nil_append,<- m.1]
    exact take_left
theorem P0{s x:Operand}{t e:TypeId}{i i':bK}{A C:Option Addr}{c k f m cc:Nat}{xs l:bY}(r:Sym n D L B ai H a w)(Q:o.op=.call { callee:=.builtin .copy,args:=#[s,x],argTypes:=#[t,t] })(S:o.guard=none/\o.dst=some d)(az:blt d n=true)(R:iq P T)(I:T.lookup t=some i)(J:i.desc=.slice e)(ag:T.lookup e=some i')(M:aJ L s=some (.slice (kr A f i'.size c) (k-f) (c-f)))(an:aJ L x=some (.slice C m cc))(aC:j5 H (.row A c e i'.size k xs) K)(z:Reads w C m i'.size l)(ak:∀u∈l,u.oneCell'=true)(ar:0<i'.size)(aj:f+m<=k)(h:∀aU w',Sym n D ((d,.int .i64 (m:Int))::L) B ai (K (.row A c e i'.size k (xs.take (f * i'.size)++l++xs.drop (f * i'.size+l.length)))) aU w'->KK aU w'):fj P ops o KK a w:=by
 have E:=(R _ _ I).1;rw[J]at E;have V:=R _ _ ag;have W:=r.aT.ok _ aC.mem
 by_cases aa:m=0
 ·subst aa
  have ba:=eq_nil_of_length_eq_zero (by simpa using z.1);subst ba;have O:(Builtin.copy_ #[t,t] o.type #[.slice (kr A f i'.size c) (k-f) (c-f),.slice C 0 cc]).run P w=.ok (.int .i64 0) w:=by
   have ap:(Builtin.firstCells i'.size 0 (.slice C 0 cc)).run P w=.ok #[] w:=by
    cases C<;>simp[Builtin.firstCells,loadCells,loadCellsFrom]
   generalize kr A f i'.size c=b9
   cases b9<;>simp[Builtin.copy_,run_underlying E,Builtin.lenOf,bK.run_sizeOf V,ap,storeCells,goInt]
  refine tl r S az (w':=w) (by simp[execOp,Q,resolve,invoke,builtin,r.aJ M,r.aJ an,O]) ?_ h
  have:=r.aT
  obtain⟨X,Y,rfl,rfl⟩:=aC;rw[append_nil,List.length_nil,add_zero,List.take_append_drop];exact this
 ·obtain⟨b,p,rfl,U⟩:=z.2 (by omega)
  rcases W.2 with⟨_,G,_⟩|⟨g,cur,dY,rfl,qi,aP,mh,py,j6,jg,jP⟩
  ·omega
  ·have ac:f≠c:=by omega
   have ad:kr (some ⟨g,0,none⟩) f i'.size c=some ⟨g,f * i'.size,none⟩:=by
    unfold kr;rw[if_neg (λe=>ac e.symm)]
    by_cases G:f * i'.size=0
    ·simp[Addr.add,G]
    ·simp[Addr.add,G]
   rw[ad]at M;have am:(f+m) * i'.size<=k * i'.size:=mul_le_mul_right _ aj;have aq:k * i'.size<=c * i'.size:=mul_le_mul_right _ py;have ab:f * i'.size+l.length<=cur.size:=by
    rw[z.1,jg,<- add_mul];omega
   have ah:=run_firstCells_some (P:=P) w i'.size m ⟨b,p,none⟩ m cc l z.1 (λj v F=>by rw[Addr.add_lit];exact U j v F);have c7:=run_storeCells_cells (P:=P) g (f * i'.size) l 0 w (λj F=>by
     simp only[World.cell?,aP]
     simp;omega) (λj F=>by
     simp only[World.frozen?,aP]
     rcases mh with h|h
     ·simp;omega
     ·simp;omega) ak
   rw[add_zero,A6 g e dY l _ w cur aP ab]at c7;have O:(Builtin.copy_ #[t,t] o.type #[.slice (some ⟨g,f * i'.size,none⟩) (k-f) (c-f),.slice (some ⟨b,p,none⟩) m cc]).run P w=.ok (.int .i64 (m:Int)) (w.setRow g (cur.toList.take (f * i'.size)++l++cur.toList.drop (f * i'.size+l.length)).toArray):=by
    have ae:Nat.min m (k-f)=m:=min_eq_left (by omega);simp only[Builtin.copy_]
    simp[run_underlying E,Builtin.lenOf,bK.run_sizeOf V,ae,ah,c7,goInt]
   refine tl r S az (w':=w.setRow g (cur.toList.take (f * i'.size)++l++cur.toList.drop (f * i'.size+l.length)).toArray) (by simp only[execOp,Q,resolve,invoke,builtin,Sem.run_bind,Sem.run_pure,Result.andThen_ok,map_toArray,map_cons,map_nil,r.aJ M,r.aJ an,O]) ?_ h;refine r.aT.wC aC ⟨rfl,rfl,rfl,by simp,λq y=>setRow_other w g q _ (λN=>by subst N;exact qi y)⟩ (c':=.row (some ⟨g,0,none⟩) c e i'.size k (xs.take (f * i'.size)++l++xs.drop (f * i'.size+l.length))) ?_ (λq y=>.inl y) λq _ y=>setRow_other w g q _ (λN=>y (by subst N;rfl))
   have al:=W.1;have ao:=z.1.symm;have af:f * i'.size+l.length<=k * i'.size:=by rw[<- ao,<- add_mul];exact am
   refine⟨?_,.inr ⟨g,_,dY,rfl,qi,setRow_heap w g cur _ e _ aP,?_,py,j6,?_,?_⟩⟩
   ·simp only[length_append,length_take,length_drop,al]
    omega
   ·rcases mh with h|h
    ·exact .inl h
    ·exact .inr (by simp only[size_toArray,length_append,length_take,length_drop,length_toList];omega)
   ·simp only[size_toArray,length_append,length_take,length_drop,length_toList]
    omega
   ·show(cur.toList.take (f * i'.size)++l++cur.toList.drop (f * i'.size+l.length)).take (k * i'.size)=_
    have Z:(cur.toList.take (f * i'.size)++l).length=f * i'.size+l.length:=by
     simp only[length_append,length_take,length_toList];omega
    rw[take_append,take_of_length_le (by rw[Z];exact af),Z,<- jP,take_take,min_eq_left (by omega),drop_take]
end
end
section
section
def bo.aav:bo->Bool
 |.obj _ _=>false
 |_=>true
theorem gq.isCells{w:World}{B:Nat->Prop}{e:TypeId}{size c n:Nat}{A:Option Addr}{xs:bY}(h:gq w B e size A c n xs){b:Nat}(ab:A.map (·.block)=some b):∃cs e a,w.heap[b]?=some (.cells cs e a):=by
 rcases h.2 with⟨rfl,_⟩|⟨g,cur,a,rfl,aP,cn,_⟩
 ·cases ab
 ·have:g=b:=Option.some.inj ab
  subst this;exact⟨_,_,_,cn⟩
theorem bo.ok.cells{B:Nat->Prop}{w:World}{c:bo}(h:c.ok B w)(U:c.aav=true){b:Nat}(ab:c.has b):∃cs e d,w.heap[b]?=some (.cells cs e d):=by
 cases c with
 |obj b' o=>cases U
 |hN b' cs e=>
  have:b'=b:=Option.some.inj ab
  subst this;exact⟨_,_,_,h.2⟩
 |row A c e size n xs=>exact gq.isCells h ab
 |tree f=>
  obtain⟨r,a,ab⟩:=ab;exact gq.isCells (h.1 r a) ab
section
variable {B:Nat->Prop} {ai w:World}
end
def wH(k:Nat):Deferred:={ target:=.collected k,args:=#[] }
end
end
section
section
variable {r:Option Nat} {P:Program} {ops:Array Oper} {Q:Exit->Act->World->Prop} {o:Oper} {KK:Act->World->Prop} {c:Code}
variable {n:Nat} {D:List Deferred} {L:List (Nat×Value)} {B:Nat->Prop} {ai:World} {H:cI} {a:Act} {w:World} {d:Nat}
theorem Jp{N:Nat}{vs:bY}{fn:Func}(a1:fn.ntmps=N)(hle:vs.length<=N)(a:List (Nat×Value))(dH:a=vs.zipIdx.map λp=>(p.2,p.1)) :
  dh N [] a { tmps:=vs.toArray++Array.replicate (fn.ntmps-vs.toArray.size) undef,defers:=[] }:=by
 refine⟨by rw[a1];exact aac vs hle,rfl,λs v b=>?_⟩;have key:∀(vs:bY) (k:Nat),((vs.zipIdx k).map λp=>(p.2,p.1)).lookup s=some v->k<=s/\vs[s-k]?=some v:=by
  intro vs
  induction vs with
  |nil=>intro k h;cases h
  |cons u vs c=>
   intro k h;simp only[zipIdx_cons,map_cons,lookup_cons]at h
   by_cases e:s=k
   ·subst e
    simp at h
    subst h
    simp
   ·have f:(s==k)=false:=by simpa using e
    rw[f]at h;obtain⟨I,J⟩:=c (k+1) h;refine⟨by omega,?_⟩;rw[show s-k=(s-(k+1))+1 by omega,getElem?_cons_succ];exact J
 have I:=(key vs 0 (by rw[<- dH];exact b)).2;have d:=(List.getElem?_eq_some_iff.1 I).1;rw[Array.getElem?_append_left (by simpa using d)]
 simpa using I
theorem P1{fn:Func}{tmps:Array Value}{R:Value->World->Prop}{v:Value}(b:∀w,bT B ai H w->(results fn tmps).run P w=.ok v w)(h:∀w,bT B ai H w->R v w) :
  ∀(aq:bX) (w:World),bT B ai (aq.map (λk=>bo.obj k (.deferred (some [])))++H) w->LeavesInM Fence.wide 0 P fn tmps (λe w'=>∃v,e=.returned v/\R v w') (aq.map wH) .returning w
 |[],w,a=>⟨v,b w a,v,rfl,h w a⟩
 |k::aq,w,a=>by
  have aa:=(a.ok (.obj k (.deferred (some []))) (by simp)).2;refine⟨by simp,.inl ⟨k,_,rfl,run_takeDeferred aa,?_⟩⟩;refine P1 b h aq _ ?_
  have:=(a.wF (x':=.deferred none) yK).fq (List.sublist_cons_self _ _)
  exact this
theorem P2{fn:Func}{R:Value->World->Prop}{v:Value}(aq:bX)(b:Sym n (aq.map wH) L B ai (aq.map (λk=>bo.obj k (.deferred (some [])))++H) a w)(c:∀w,bT B ai H w->(results fn a.tmps).run P w=.ok v w)(h:∀w,bT B ai H w->R v w):bodyPostM Fence.wide 0 P fn (λe w'=>∃v,e=.returned v/\R v w') .ret a w:=by
 show LeavesInM _ _ _ _ _ _ a.defers _ _;rw[b.st.defs];exact P1 c h aq w b.aT
end
end
section
theorem bT.frame{B:Nat->Prop}{ai w w':World}{H1 H g:cI}(h:bT B ai (H1++H) w)(a:bT (hc w H1) w g w'):bT B ai (g++H) w':=by
 have I:=h.fq (List.sublist_append_left _ _);have J:=h.fq (List.sublist_append_right _ _);have aa:=I.back a;have kR:=(List.pairwise_append.1 h.apart).2.2;have i:∀c∈H,∀b,c.has b->hc w H1 b:=λc U b e=>⟨((J.ok c U).lt e).2,λd az f=>kR d az c U b f e⟩
 refine⟨aa.below,aa.base,λc hm=>?_,List.pairwise_append.2 ⟨aa.apart,J.apart,λc hm d az b e f=>?_⟩⟩
 ·rcases List.mem_append.1 hm with hm|hm
  ·exact aa.ok c hm
  ·exact(J.ok c hm).et λb e=>a.below.block b (i c hm b e)
 ·exact((a.ok c hm).lt e).1 (i d az b f)
theorem P4{P : Program}{f : FuncId}{fn : Func}{args : Array Value}{w : World}(gO : P.funcs[f]? = some fn)(ba : (fn.name == "runtime.NumGoroutine") = false)(ab : fn.body.isNone = false) : (callFunc f args).run P w = .ok (.enter f args) w := by
 have ir : fn.name ≠ "runtime.NumGoroutine" := by simpa using ba
 have dw:fn.body≠none:=by intro h;rw[h]at ab;cases ab
 simp[callFunc,program,Sem.run,gO,ir,dw]
end
section
section
section
variable {P:Program} {ops:Array Oper} {o:Oper} {KK:Act->World->Prop} {n:Nat} {D:List Deferred} {L:List (Nat×Value)} {B:Nat->Prop} {ai:World} {H:cI} {a:Act} {w:World} {d:Nat} {T:List (TypeId×bK)}
theorem aaw{f:FuncId}{fn:Func}{s:Nat}{hE:bY}{xs:eA}{fR:Array TypeId}{vs:bY}(av:Sym n D L B ai H a w)(aA:o.op=.call { callee:=.value (.tmp s),args:=xs.toArray,argTypes:=fR })(aj:L.lookup s=some (.func (.func f) #[] hE.toArray))(gO:P.funcs[f]?=some fn)(ba : (fn.name == "runtime.NumGoroutine") = false)(ab : fn.body.isNone = false)(aH : jO L xs = some vs) : (execOp a.eval o).run P w = .ok (.enter f (vs ++ hE).toArray) w := by
 have e:a.eval (.tmp s)=.func (.func f) #[] hE.toArray:=av.aJ aj
 have ir : fn.name ≠ "runtime.NumGoroutine" := by simpa using ba
 have dw:fn.body≠none:=by intro h;rw[h]at ab;cases ab
 simp[execOp,aA,resolve,e,Deferred.ofValue,invoke,callFunc,program,Sem.run,gO,ir,dw,av.st.jO aH]
theorem P5{f:FuncId}{fn:Func}{s:Nat}{hE:bY}{xs:eA}{fR:Array TypeId}{vs:bY}{R:Value->World->Prop}(av:Sym n D L B ai H a w)(aA:o.op=.call { callee:=.value (.tmp s),args:=xs.toArray,argTypes:=fR })(bh:o.guard=none/\o.dst=some d)(az:blt d n=true)(aj:L.lookup s=some (.func (.func f) #[] hE.toArray))(gO : P.funcs[f]? = some fn)(ba : (fn.name == "runtime.NumGoroutine") = false)(ab : fn.body.isNone = false)(aH : jO L xs = some vs)(cF : q8 P f (vs ++ hE).toArray w R)(h:∀v aU w',R v w'->dh n D ((d,v)::L) aU->KK aU w'):fj P ops o KK a w:=by
 refine .inl ⟨by simp[Region.wanted,bh.1],.inr (.inr ⟨f,(vs++hE).toArray,w,aaw av aA aj gO ba ab aH,?_⟩)⟩;refine Calls.mono cF ?_;rintro e w' ⟨v,rfl,eo⟩;exact⟨v,rfl,h v _ w' eo (by rw[bh.2];exact av.st.put d v (dS az))⟩
theorem bT.aax{b:Nat}{cs:bY}{e:TypeId}{size m:Nat}(a:bT B ai (.hN b cs e::H) w)(ah:cs.length=m * size)(f:m<=140737488355328):bT B ai (.row (some ⟨b,0,none⟩) m e size m cs::H) w:=by
 refine⟨a.below,a.base,λc U=>?_,?_⟩
 ·rcases List.mem_cons.1 U with rfl|U
  ·have:=a.ok _ (mem_cons_self)
   exact⟨ah,.inr ⟨b,cs.toArray,(0,0),rfl,this.1,this.2,.inl rfl,le_refl _,by unfold maxLen;omega,by simpa using ah,by simp[<- ah]⟩⟩
  ·exact a.ok c (mem_cons_of_mem _ U)
 ·have:=List.pairwise_cons.1 a.apart
  exact List.Pairwise.cons (λc U b d=>this.1 c U b (by simpa [bo.has] using d)) this.2
inductive sk:bY->Nat->bY->bY->Prop where
 |nil {l:bY}:sk l 0 [] l
 |cons {c v:Value} {l l' vs:bY} (h:sk l 0 vs l'):sk (c::l) 0 (v::vs) (v::l')
 |skip {c:Value} {l l' vs:bY} {k:Nat} (h:sk l k vs l'):sk (c::l) (k+1) vs (c::l')
theorem sk.eq{l l' vs:bY}{k:Nat}(h:sk l k vs l'):l'=l.take k++vs++l.drop (k+vs.length)/\k+vs.length<=l.length:=by
 induction h with
 |nil=>simp
 |cons _ c=>exact⟨by simp only[zero_add,take_zero,nil_append]at c;rw[c.1];simp,by simp only[length_cons]at *;omega⟩
 |skip _ c=>exact⟨by rw[c.1,show ∀a b:Nat,a+1+b=(a+b)+1 by omega];simp,by simp only[length_cons]at *;omega⟩
theorem Jq:∀(vs:bY) (l:bY) (k j:Nat),k+j+vs.length<=l.length ->
  ((vs.zipIdx j).foldl (λ(cs:Array Value) (p:Value×Nat)=>cs.setIfInBounds (k+p.2) p.1) l.toArray)=(l.take (k+j)++vs++l.drop (k+j+vs.length)).toArray
 |[],l,k,j,h=>by simp
 |v::vs,l,k,j,h=>by
  simp only[length_cons]at h;simp only[zipIdx_cons,List.foldl_cons];rw[show l.toArray.setIfInBounds (k+j) v=(l.set (k+j) v).toArray by simp];rw[Jq vs _ k (j+1) (by simp;omega)]
  congr 1
  rw[show k+(j+1)=k+j+1 by omega,List.take_succ_eq_append_getElem (by simp;omega)];rw[List.take_set_of_le (by omega),List.drop_set_of_lt (by omega)]
  simp[add_comm,Nat.add_left_comm]
theorem aay{pl:Nat->Option (Nat×Nat)}{z a:bY}{i off size:Nat}{v:Value}{rest:List (Nat×Value)}(ak:pl i=some (off,size))(ah:v.cells.size=size)(h:sk z off v.cells.toList a) :
  Instr.fill pl z.toArray ((i,v)::rest)=Instr.fill pl a.toArray rest:=by
 obtain⟨I,J⟩:=h.eq;rw[Instr.fill];simp only[ak];rw[if_neg (by simp[ah];simp[ah]at J;omega)]
 congr 1
 have:=Jq v.cells.toList z off 0 (by simp only[length_toList];omega)
 rw[I,<- Array.foldl_toList];simp only[add_zero,Array.toList_zipIdx,length_toList]at this ⊢;exact this
end
end
end
section
theorem aaz(a:ByteArray):∀(k i:Nat) (r:dU),a.size-i=k->ByteArray.toList.loop a i r=r.reverse++a.data.toList.drop i:=by
 intro k
 induction k with
 |zero=>
  intro i r h;unfold ByteArray.toList.loop;rw[if_neg (by omega),List.drop_of_length_le (by simp;show a.size<=i;omega),append_nil]
 |succ k b=>
  intro i r h;have hi:i<a.size:=by omega
  unfold ByteArray.toList.loop;rw[if_pos hi,b (i+1) _ (by omega)];have c:i<a.data.toList.length:=by simpa using hi
  rw[List.drop_eq_getElem_cons c]
  have:a.get! i=a.data.toList[i]:=by
   exact getElem!_pos a.data i (by simpa using hi)
  simp[this]
theorem A9(l:dU):(ByteArray.mk l.toArray).toList=l:=by
 unfold ByteArray.toList;rw[aaz _ _ 0 [] rfl]
 simp
def ga(l:dU):Value:=.string ⟨l.toArray⟩
section
variable {P:Program} {ops:Array Oper} {Q:Exit->Act->World->Prop} {o:Oper} {KK:Act->World->Prop} {n:Nat} {D:List Deferred} {L:List (Nat×Value)} {B:Nat->Prop} {ai:World} {H:cI} {a:Act} {w:World} {d:Nat} {T:List (TypeId×bK)} {r:Option Nat} {c:Code}
theorem aaA{u v:Operand}{t e:TypeId}{x y:dU}(d:dh n D L a)(b:o.op=.binOp .eql t u v e)(hu:aJ L u=some (ga x))(c:aJ L v=some (ga y)):fX P o a (.bool (x==y)):=by
 have:=aaf (P:=P) d b hu c
 rw[A9,A9]at this;exact this
theorem aaB{u v:Operand}{t e:TypeId}{x y:dU}(d:dh n D L a)(b:o.op=.binOp .neq t u v e)(hu:aJ L u=some (ga x))(c:aJ L v=some (ga y)):fX P o a (.bool (!(x==y))):=by
 have:=aag (P:=P) d b hu c
 rw[A9,A9]at this;exact this
end
end
section
section
section
variable {P:Program} {ops:Array Oper} {Q:Exit->Act->World->Prop} {o:Oper} {KK:Act->World->Prop} {n:Nat} {D:List Deferred} {L:List (Nat×Value)} {B:Nat->Prop} {ai:World} {H:cI} {a:Act} {w:World} {d:Nat} {T:List (TypeId×bK)} {K:bo->cI}
theorem bT.rowAt(a:bT B ai H w){A:Option Addr}{c:Nat}{e:TypeId}{size m:Nat}{xs:bY}(aC:j5 H (.row A c e size m xs) K)(b:0<m):∃g,A=some ⟨g,0,none⟩:=by
 rcases (a.ok _ aC.mem).2 with⟨_,h,_⟩|⟨g,_,_,h,_⟩
 ·omega
 ·exact⟨g,h⟩
end
end
section
open Go.ChangeShapes Go.WideShapes Go.ChangeAt Go.RowKit
section
variable {H:Type} {enc:TypeId×Value->H} {P:Program}
theorem P6(ah:laidOutB P=true){W e:World}(ab:Below W.heap.size W e){sp:Nat->Bool} :
  ∀(a:List TypeId) (vs:bY) (aL:List (DataW H)) (aB:List MemPlace),(∀t∈a,P.readableRec t=true/\t<P.types.size)->(∀x∈aB,x.block<W.heap.size)->(∀x∈aB,sp x.block=true) ->
   DataW.TrodAll enc P W 0 (λ_=>true) true a vs aL aB->DataW.TrodAll enc P e 0 sp true a vs aL aB
 |[],[],[],aB,_,_,_,h=>h
 |t::a,v::vs,d::aL,aB,b,c,f,h=>by
  obtain⟨p,q,I,J,rfl⟩:=h;refine⟨p,q,WideElems.Trod_stays ah (b t (by simp)).1 (b t (by simp)).2 I (λx an=>ab.same (c x (by simp[an]))) (λx an=>f x (by simp[an])),?_,rfl⟩;exact P6 ah ab a vs aL q (λg bg=>b g (by simp[bg])) (λx an=>c x (by simp[an])) (λx an=>f x (by simp[an])) J
 |[],[],_::_,_,_,_,_,h=>h.elim
 |[],_::_,_,_,_,_,_,h=>h.elim
 |_::_,[],_,_,_,_,_,h=>h.elim
 |_::_,_::_,[],_,_,_,_,h=>h.elim
theorem aaC{f:Func}{s:ChangeSpec}{apart fresh handsOn:Bool}{t:TypeId}{W e:World}{args:Array Value}{aL gs:List (DataW H)}{before:List MemPlace}(ca:DataW.Whole enc P f.params.toList s.vars apart W args.toList aL gs before)(d:s.vars=[])(a:s.fn H (aL++gs)={ results:=[.lit (.bool true)],args:=aL })(g:f.resultTypes=#[t])(bg:P.underlying t=some .bool)(ah:laidOutB P=true)(i:∀t∈f.params.toList,P.readableRec t=true/\t<P.types.size)(ab:Below W.heap.size W e):s.post enc P f apart fresh handsOn false W args (.bool true) e:=by
 have b:∀p∈before,p.block<W.heap.size:=λp ak=>ca.lt p ak
 have c:=ca;obtain⟨p,q,I,J,rfl,_,_⟩:=ca;rw[d]at J;obtain⟨rfl,rfl⟩:=trodVars_none J;simp only[append_nil]at b c a;refine⟨aL,[],p,[],p,[],c,?_,?_,?_,World.keptBut_mono (λx an=>⟨an,Or.inr (Or.inl an)⟩) (ab.frame (·∈p)),λh=>by cases h⟩
 ·simp only[append_nil,a,g]
  exact trodAll_mk1 (shut_bool bg true)
 ·simp only[append_nil,a]
  exact P6 ah ab _ _ _ _ i b (λx an=>by simpa using b x an) I
 ·simp only[append_nil,a,d]
  rfl
end
end
section
section
variable {P:Program} {ops:Array Oper} {Q:Exit->Act->World->Prop} {o:Oper} {KK:Act->World->Prop} {n:Nat} {D:List Deferred} {L:List (Nat×Value)} {B:Nat->Prop} {ai:World} {H:cI} {a:Act} {w:World} {d:Nat} {T:List (TypeId×bK)} {K:bo->cI}
end
theorem rb{α:Type}(f:α->bY)(s:Nat)(aC:∀x,(f x).length=s)(l:List α):(l.flatMap f).length=l.length * s:=by
 induction l with
 |nil=>simp
 |cons x l a=>rw[flatMap_cons,length_append,a,aC,length_cons,add_mul];omega
theorem aaF{α:Type}(f:α->bY)(s:Nat)(aC:∀x,(f x).length=s)(l:List α)(k j:Nat)(aa:k<l.length)(v:Value)(a:(f l[k])[j]?=some v):(l.flatMap f)[k * s+j]?=some v:=by
 induction l generalizing k with
 |nil=>simp at aa
 |cons x l c=>
  have an:=aC x;cases k with
  |zero=>
   have b:=(List.getElem?_eq_some_iff.1 a).1;rw[flatMap_cons,List.getElem?_append_left (by simp only[List.getElem_cons_zero]at b;omega)]
   simpa using a
  |succ k=>
   have:=c k (by simpa using aa) (by simpa using a)
   rw[flatMap_cons,List.getElem?_append_right (by rw[an,add_mul];omega),an,show(k+1) * s+j-s=k * s+j by rw[add_mul];omega];exact this
theorem Reads.P7{B:Nat->Prop}{ai w:World}{H:cI}(a:bT B ai H w){A:Option Addr}{c:Nat}{e:TypeId}{size n:Nat}{xs:bY}(b:bo.row A c e size n xs∈H):Reads w A n size xs:=by
 obtain⟨X,Y,rfl⟩:=List.append_of_mem b;exact Reads.row a ⟨X,Y,rfl,rfl⟩
end
section
open Go.ChangeShapes Go.WideShapes Go.ChangeAt Go.RowKit
section
variable {H:Type} {enc:TypeId×Value->H} {P:Program} {W:World}
theorem aaG{a:Addr}{v:Value}(h:W.cell? a=some v):a=⟨a.block,a.off,none⟩:=by
 obtain⟨b,p,s⟩:=a;cases s with
 |none=>rfl
 |some s=>
  exfalso
  simp only[World.cell?]at h
  split at h<;>simp at h
theorem P8{α:Type}{Q:Nat->α->Prop}:∀n:Nat,(∀i,i<n->∃x,Q i x)->∃l:List α,l.length=n/\∀i (hi:i<l.length),Q i l[i]
 |0,_=>⟨[],rfl,λi hi=>by simp at hi⟩
 |n+1,h=>by
  obtain⟨l,ah,b⟩:=P8 n (λi hi=>h i (by omega));obtain⟨x,an⟩:=h n (by omega);refine⟨l++[x],by simp[ah],λi hi=>?_⟩
  by_cases a:i<l.length
  ·rw[List.getElem_append_left a];exact b i a
  ·have:i=n:=by simp at hi;omega
   subst this
   simpa [ah] using an
end
end
section
section
variable {P:Program} {ops:Array Oper} {Q:Exit->Act->World->Prop} {o:Oper} {KK:Act->World->Prop} {n:Nat} {D:List Deferred} {L:List (Nat×Value)} {B:Nat->Prop} {ai:World} {H:cI} {a:Act} {w:World} {d:Nat} {T:List (TypeId×bK)} {K:bo->cI}
theorem P9{u y v:Operand}{t e:TypeId}{i i':bK}{A:Option Addr}{m c h q:Nat}{k' k:IntKind}{j d:Int}(b:dh n D L a)(l:o.op=.slice t u none (some y) (some v))(g:iq P T)(I:T.lookup t=some i)(J:i.desc=.slice e)(ag:T.lookup e=some i')(hu:aJ L u=some (.slice A m c))(aG:aJ L y=some (.int k' j))(p:aJ L v=some (.int k d))(B:j=(h:Int))(r:d=(q:Int))(z:h<=q)(s:q<=c) :
  fX P o a (.slice A h q):=λw=>by
 subst B;subst r;have f:=(g _ _ I).1;rw[J]at f
 simp[execOp,l,b.aJ hu,b.aJ aG,b.aJ p,Instr.sliceAt,Instr.slice,Instr.sliceBounds,Instr.sliceBound,asIntOf,run_underlying f,bK.run_sizeOf (g _ _ ag),z,s]
 by_cases U:q=0
 ·simp[U]
 ·cases A with
  |none=>simp
  |some C=>simp[Addr.add]
theorem aaI{s x:Operand}{t e:TypeId}{i i':bK}{b p z A c k m cc:Nat}{xs f:bY}(l:Sym n D L B ai H a w)(M:o.op=.call { callee:=.builtin .append,args:=#[s,x],argTypes:=#[t,t] })(Q:o.guard=none/\o.dst=some d)(az:blt d n=true)(E:iq P T)(I:T.lookup t=some i)(J:i.desc=.slice e)(ag:T.lookup e=some i')(af:blt 0 i'.size=true)(N:i'.zero.cells.size=i'.size)(O:aJ L s=some (.slice (some ⟨b,p,none⟩) k c))(an:aJ L x=some (.slice (some ⟨z,A,none⟩) m cc))(aa:0<k)(V:0<m)(y:Reads w (some ⟨b,p,none⟩) k i'.size xs)(v:Reads w (some ⟨z,A,none⟩) m i'.size f)(ae:c<k+m)(U:(k+m) * i'.bytes<=140737488355328)(ah:k+m<=140737488355328)(h:∀g c' aU w',Sym n D ((d,.slice (some ⟨g,0,none⟩) (k+m) c')::L) B ai (.row (some ⟨g,0,none⟩) c' e i'.size (k+m) (xs++f)::H) aU w'->KK aU w'):fj P ops o KK a w:=by
 have C:=(E _ _ I).1;rw[J]at C;have R:=E _ _ ag;obtain⟨inf,ac,F,Z,ab⟩:=bK.info R;obtain⟨b',K,r,Y⟩:=y.2 aa;cases r;obtain⟨b',K,r,W⟩:=v.2 V;cases r;have G:(xs++f).length=(k+m) * i'.size:=by rw[length_append,y.1,v.1,add_mul]
 have S:=run_append_grow w t o.type e inf i'.zero C ac ab ⟨b,p,none⟩ k c xs (by rw[y.1,F]) (λj u hu=>by rw[Addr.add_lit];exact Y j u hu) ⟨z,A,none⟩ m cc f (by rw[v.1,F]) (λj u hu=>by rw[Addr.add_lit];exact W j u hu) (by omega) (by omega) (growslice_fits (by omega) (by rw[Z];exact U));have ad:=grownCap_ge w (k+m) c e;have X:=grownCap_le_maxLen w (k+m) c e (by simp only[maxLen];omega);refine tl l Q az (w':=w.drew.alloc (.cells (xs.toArray++f.toArray++Builtin.zeroCells i'.zero.cells (grownCap w (k+m) c e-(k+m))) e)) (by simp[execOp,M,resolve,invoke,builtin,l.aJ O,l.aJ an,S]) ?_ (h w.heap.size (grownCap w (k+m) c e));have nw:=l.aT.drew;have bm:=nw.alloc (.cells (xs.toArray++f.toArray++Builtin.zeroCells i'.zero.cells (grownCap w (k+m) c e-(k+m))) e);have ak:=List.pairwise_cons.1 bm.apart;refine⟨bm.below,bm.base,λeQ iE=>?_,List.Pairwise.cons (λeQ iE q r=>ak.1 eQ iE q (by simpa [bo.has] using r)) ak.2⟩
 rcases List.mem_cons.1 iE with rfl|iE
 ·refine⟨G,.inr ⟨w.heap.size,_,(0,0),rfl,l.aT.fresh,heap_alloc_new w.drew _,.inl rfl,ad,X,?_,?_⟩⟩
  ·simp only[Array.size_append,size_toArray,size_zeroCells,N,y.1,v.1,<- add_mul]
   congr 1
   omega
  ·simp only[Array.toList_append,append_assoc]
   rw[<- append_assoc,<- G];exact take_left
 ·exact bm.ok eQ (mem_cons_of_mem _ iE)
end
end
inductive aV where
 |int (k:IntKind)
 |bool
 |str
 |aI (g:aV)
 |ie (g:aV)
 |unit
 |fn
 |pair (g h:aV)
 deriving DecidableEq
abbrev aV.D:aV->Type
 |.int _=>Int
 |.bool=>Bool
 |.str=>dU
 |.aI g=>List g.D
 |.ie g=>List g.D
 |.unit=>Unit
 |.fn=>Option Nat
 |.pair g h=>g.D×h.D
def aV.size:aV->Nat
 |.pair g h=>g.size+h.size
 |.unit=>0
 |_=>1
abbrev aV.zero:(g:aV)->g.D
 |.int _=>(0:Int)
 |.bool=>false
 |.str=>([]:dU)
 |.aI g=>([]:List g.D)
 |.ie g=>([]:List g.D)
 |.unit=>()
 |.fn=>(none:Option Nat)
 |.pair g h=>(g.zero,h.zero)
def Flat{α:Type}(R:α->bY->Prop):List α->bY->Prop
 |[],vs=>vs=[]
 |x::l,vs=>∃a b,vs=a++b/\R x a/\Flat R l b
def pz(B:Nat->Prop)(w:World)(A:Option Addr)(m size:Nat)(vs:bY):Prop:=Reads w A m size vs/\∀b p,0<m->A=some ⟨b,p,none⟩->B b
def aaJ:Option Nat->Value
 |none=>.nilFunc
 |some f=>.func (.func f) #[] #[]
def bN(B:Nat->Prop)(w:World):(g:aV)->g.D->bY->Prop
 |.int k=>λ(x:Int) vs=>vs=[.int k x]
 |.bool=>λ(x:Bool) vs=>vs=[.bool x]
 |.str=>λ(x:dU) vs=>vs=[ga x]
 |.aI g=>λ(l:List g.D) vs=>∃A c xs,vs=[.slice A l.length c]/\l.length<=c/\c<=maxLen/\Flat (bN B w g) l xs/\pz B w A l.length g.size xs
 |.ie g=>λ(l:List g.D) vs=>∃A xs,vs=[.slice A l.length l.length]/\l.length<=maxLen/\Flat (bN B w g) l xs/\pz B w A l.length g.size xs
 |.unit=>λ_ vs=>vs=[]
 |.fn=>λ(x:Option Nat) vs=>vs=[aaJ x]
 |.pair g h=>λ(x:g.D×h.D) vs=>∃a b,vs=a++b/\bN B w g x.1 a/\bN B w h x.2 b
theorem Flat.mono{α:Type}{R a:α->bY->Prop}(h:∀x vs,R x vs->a x vs):∀ {l:List α} {vs:bY},Flat R l vs->Flat a l vs
 |[],_,aC=>aC
 |_::_,_,⟨b,c,e,I,J⟩=>⟨b,c,e,h _ _ I,Flat.mono h J⟩
theorem Flat.length{α:Type}{R:α->bY->Prop}{k:Nat}(h:∀x vs,R x vs->vs.length=k):∀ {l:List α} {vs:bY},Flat R l vs->vs.length=l.length * k
 |[],_,aC=>by rw[show _=[] from aC];simp
 |_::l,_,⟨a,b,e,I,J⟩=>by
  rw[e,length_append,h _ _ I,Flat.length h J,length_cons,add_mul,one_mul,add_comm]
theorem Flat.append{α:Type}{R:α->bY->Prop}:∀ {l l':List α} {vs b:bY},Flat R l vs->Flat R l' b->Flat R (l++l') (vs++b)
 |[],_,_,_,h,a=>by rw[show _=[] from h];exact a
 |_::l,_,_,_,⟨c,d,e,I,J⟩,a=>⟨c,_,by rw[e,append_assoc],I,Flat.append J a⟩
theorem Flat.split{α:Type}{R:α->bY->Prop}{k:Nat}(h:∀x vs,R x vs->vs.length=k):∀ {l:List α} {vs:bY} (n:Nat),Flat R l vs->Flat R (l.take n) (vs.take (n * k))/\Flat R (l.drop n) (vs.drop (n * k))
 |[],vs,n,aC=>by rw[show vs=[] from aC];simp[Flat]
 |x::l,vs,0,aC=>by simp only[take_zero,Nat.zero_mul,List.drop_zero];exact⟨rfl,aC⟩
 |x::l,vs,n+1,⟨a,b,e,I,J⟩=>by
  obtain⟨bm,ab⟩:=Flat.split h n J;have aa:=h _ _ I;have c:(a++b).take ((n+1) * k)=a++b.take (n * k):=by
   rw[take_append,take_of_length_le (by rw[aa,add_mul];omega),aa]
   congr 2
   rw[add_mul];omega
  have d:(a++b).drop ((n+1) * k)=b.drop (n * k):=by
   rw[List.drop_append,List.drop_of_length_le (by rw[aa,add_mul];omega),aa,nil_append]
   congr 1
   rw[add_mul];omega
  rw[e,c,d];exact⟨⟨a,_,rfl,I,bm⟩,ab⟩
theorem Flat.get{α:Type}{R:α->bY->Prop}{k:Nat}(h:∀x vs,R x vs->vs.length=k){l:List α}{vs:bY}(aC:Flat R l vs){i:Nat}{x:α}(hi:l[i]?=some x):R x ((vs.drop (i * k)).take k):=by
 obtain⟨_,J⟩:=Flat.split h i aC;have b:=(List.getElem?_eq_some_iff.1 hi).1;have e:l.drop i=x::l.drop (i+1):=by
  rw[List.drop_eq_getElem_cons b,(List.getElem?_eq_some_iff.1 hi).2]
 rw[e]at J;obtain⟨c,d,a,ag,_⟩:=J;rw[a,take_append,take_of_length_le (by rw[h _ _ ag];exact le_refl _),h _ _ ag,Nat.sub_self,take_zero,append_nil];exact ag
theorem Flat.set{α:Type}{R:α->bY->Prop}{k:Nat}(h:∀x vs,R x vs->vs.length=k){l:List α}{vs:bY}(aC:Flat R l vs){i:Nat}(hi:i<l.length){x:α}{us:bY}(an:R x us) :
  Flat R (l.set i x) (vs.take (i * k)++us++vs.drop (i * k+k)):=by
 obtain⟨I,_⟩:=Flat.split h i aC;obtain⟨_,J⟩:=Flat.split h (i+1) aC;rw[List.set_eq_take_append_cons_drop,if_pos hi,append_assoc];refine I.append ⟨us,_,rfl,an,?_⟩;rw[add_mul,one_mul]at J;exact J
theorem bN.length{B:Nat->Prop}{w:World}:∀ {g:aV} {x:g.D} {vs:bY},bN B w g x vs->vs.length=g.size
 |.int _,_,_,h=>by rw[show _=[_] from h];rfl
 |.bool,_,_,h=>by rw[show _=[_] from h];rfl
 |.str,_,_,h=>by rw[show _=[_] from h];rfl
 |.aI _,_,_,⟨_,_,_,h,_⟩=>by rw[h];rfl
 |.ie _,_,_,⟨_,_,h,_⟩=>by rw[h];rfl
 |.unit,_,_,h=>by rw[show _=[] from h];rfl
 |.fn,_,_,h=>by rw[show _=[_] from h];rfl
 |.pair g h,_,_,⟨a,b,e,I,J⟩=>by rw[e,length_append,bN.length I,bN.length J];rfl
theorem bN.rb{B:Nat->Prop}{w:World}{g:aV}{l:List g.D}{vs:bY}(h:Flat (bN B w g) l vs):vs.length=l.length * g.size:=Flat.length (λ_ _=>bN.length) h
def ql(a:Bool)(B:Nat->Prop)(w:World)(g:aV)(x:List g.D)(vs:bY):Prop:=match a with
 |true=>bN B w (.ie g) x vs
 |false=>bN B w (.aI g) x vs
theorem ql.length{a:Bool}{B:Nat->Prop}{w:World}{g:aV}{x:List g.D}{vs:bY}(h:ql a B w g x vs):vs.length=1:=by
 cases a with
 |true=>exact bN.length h
 |false=>exact bN.length h
theorem ql.rb{a:Bool}{B:Nat->Prop}{w:World}{g:aV}{l:List (List g.D)}{vs:bY}(h:Flat (ql a B w g) l vs):vs.length=l.length:=by
 have:=Flat.length (λ_ _=>ql.length) h
 omega
structure gP(B:Nat->Prop)(w:World)(B':Nat->Prop)(w':World):Prop where
 sub:∀k,B k->B' k
 same:∀k,B k->w'.heap[k]?=w.heap[k]?
theorem gP.cell{B B':Nat->Prop}{w w':World}(h:gP B w B' w'){b o:Nat}(ab:B b):w'.cell? ⟨b,o,none⟩=w.cell? ⟨b,o,none⟩:=World.cell?_of_block (h.same b ab)
theorem pz.up{B B':Nat->Prop}{w w':World}(h:gP B w B' w'){A:Option Addr}{m size:Nat}{vs:bY}(a:pz B w A m size vs):pz B' w' A m size vs:=by
 refine⟨⟨a.1.1,λc=>?_⟩,λb p c e=>h.sub b (a.2 b p c e)⟩;obtain⟨b,p,e,U⟩:=a.1.2 c;exact⟨b,p,e,λj u hu=>by rw[h.cell (a.2 b p c e)];exact U j u hu⟩
theorem bN.up{B B':Nat->Prop}{w w':World}(h:gP B w B' w'):∀ {g:aV} {x:g.D} {vs:bY},bN B w g x vs->bN B' w' g x vs
 |.int _,_,_,aC=>aC
 |.bool,_,_,aC=>aC
 |.str,_,_,aC=>aC
 |.aI _,_,_,⟨A,c,xs,e,I,J,ag,a⟩=>⟨A,c,xs,e,I,J,Flat.mono (λ_ _=>bN.up h) ag,a.up h⟩
 |.ie _,_,_,⟨A,xs,e,J,ag,a⟩=>⟨A,xs,e,J,Flat.mono (λ_ _=>bN.up h) ag,a.up h⟩
 |.unit,_,_,aC=>aC
 |.fn,_,_,aC=>aC
 |.pair _ _,_,_,⟨b,d,e,I,J⟩=>⟨b,d,e,bN.up h I,bN.up h J⟩
theorem ql.up{B B':Nat->Prop}{w w':World}(h:gP B w B' w'){a:Bool}{g:aV}{x:List g.D}{vs:bY}(aC:ql a B w g x vs):ql a B' w' g x vs:=by
 cases a with
 |true=>exact bN.up h aC
 |false=>exact bN.up h aC
inductive fE where
 |id (i:Nat)
 |fr (g:aV) (x:g.D)
abbrev eB:=List fE
inductive bs where
 |val (v:Value)
 |str (s:dU)
 |dead
 |ptr (id off:Nat)
 |fg (id cV i off:Nat)
 |gb (g:aV) (x:g.D) (off:Nat)
 |par (g:aV) (l:List g.D)
 |aI (id:Nat)
 |bJ (g:aV) (l:List g.D) (cap:Option Nat)
 |fn (f:FuncId) (ids:eB)
 |dI (id:Nat)
 |jR (f:FuncId) (id:Nat)
 |iF (id o:Nat)
 |jS (id s o:Nat)
 |j7 (id:Nat)
 |iV (b:Bool) (id:Nat)
abbrev dT:=List bs
inductive bp where
 |c (x:bs)
 |agg (cs:dT)
 |arr (g:aV) (l:List g.D)
abbrev ej:=List bp
inductive b8 where
 |a (x:bp)
 |may (g:Bool) (x:bp)
 |cY (vs:ej)
abbrev b8.c(x:bs):b8:=.a (.c x)
inductive Loc where
 |no
 |blk (b:Nat)
 |row (A:Option Addr) (c n:Nat)
def At(B:Nat->Prop)(w:World)(g:aV)(x:g.D)(b o:Nat):Prop:=B b/\∃vs,bN B w g x vs/\∀j u,vs[j]?=some u->w.cell? ⟨b,o+j,none⟩=some u
def aaK(env:Nat->Loc)(B:Nat->Prop)(w:World):fE->Value->Prop
 |.id i,v=>∃b,env i=.blk b/\v=.pointer (some ⟨b,0,none⟩)
 |.fr g x,v=>∃b o,v=.pointer (some ⟨b,o,none⟩)/\At B w g x b o
def fF(env:Nat->Loc)(B:Nat->Prop)(w:World):eB->bY->Prop
 |[],vs=>vs=[]
 |c::cs,vs=>∃v r,vs=v::r/\aaK env B w c v/\fF env B w cs r
def dN(env:Nat->Loc)(B:Nat->Prop)(w:World):bs->Value->Prop
 |.val v,u=>u=v
 |.str s,u=>u=ga s
 |.dead,_=>True
 |.ptr id off,u=>∃b,env id=.blk b/\u=.pointer (some ⟨b,off,none⟩)
 |.fg id a i off,u=>∃b c n,env id=.row (some ⟨b,0,none⟩) c n/\u=.pointer (some ⟨b,i * a+off,none⟩)
 |.gb g x off,u=>∃b o,u=.pointer (some ⟨b,o+off,none⟩)/\At B w g x b o
 |.par g l,u=>∃b o vs,u=.pointer (some ⟨b,o,none⟩)/\B b/\Flat (bN B w g) l vs/\∀j u,vs[j]?=some u->w.cell? ⟨b,o+j,none⟩=some u
 |.aI id,u=>∃A c n,env id=.row A c n/\u=.slice A n c
 |.bJ g l cap,u=>∃A c xs,u=.slice A l.length c/\l.length<=c/\c<=maxLen/\(∀k,cap=some k->c=k)/\Flat (bN B w g) l xs/\pz B w A l.length g.size xs
 |.fn f ids,u=>∃vs,u=.func (.func f) #[] vs.toArray/\fF env B w ids vs
 |.dI id,u=>∃b,env id=.blk b/\u=.map (some b)
 |.jR f id,u=>∃b,env id=.blk b/\u=.func (.func f) #[.pointer (some ⟨b,0,none⟩)] #[]
 |.jS id s o,u=>∃A c n,env id=.row A c n/\o<=n/\u=.slice (kr A o s c) (n-o) (c-o)
 |.j7 id,u=>∃A c n,env id=.row A c n/\u=.int .i64 (c:Int)
 |.iF id o,u=>∃b c n,env id=.row (some ⟨b,0,none⟩) c n/\u=.pointer (some ⟨b,o,none⟩)
 |.iV b id,u=>∃k,(b=true->env id=.blk k)/\u=.pointer (if b then some ⟨k,0,none⟩else none)
def cZ(env:Nat->Loc)(B:Nat->Prop)(w:World):dT->bY->Prop
 |[],vs=>vs=[]
 |c::cs,vs=>∃v r,vs=v::r/\dN env B w c v/\cZ env B w cs r
def eb(env:Nat->Loc)(B:Nat->Prop)(w:World):bp->Value->Prop
 |.c x,v=>dN env B w x v
 |.agg cs,v=>∃vs,v=.agg vs.toArray/\cZ env B w cs vs
 |.arr g l,v=>∃vs,v=.agg vs.toArray/\Flat (bN B w g) l vs
def dO(env:Nat->Loc)(B:Nat->Prop)(w:World):ej->bY->Prop
 |[],vs=>vs=[]
 |c::cs,vs=>∃v r,vs=v::r/\eb env B w c v/\dO env B w cs r
def e7(env:Nat->Loc)(B:Nat->Prop)(w:World):b8->Value->Prop
 |.a x,v=>eb env B w x v
 |.may g x,v=>(g=true->eb env B w x v)/\(g=false->v=undef)
 |.cY xs,v=>∃vs,v=.tuple vs.toArray/\dO env B w xs vs
theorem At.up{B B':Nat->Prop}{w w':World}(h:gP B w B' w'){g:aV}{x:g.D}{b o:Nat}(bm:At B w g x b o):At B' w' g x b o:=by
 obtain⟨ab,vs,I,J⟩:=bm;exact⟨h.sub b ab,vs,bN.up h I,λj u hu=>by rw[h.cell ab];exact J j u hu⟩
theorem fF.up{env:Nat->Loc}{B B':Nat->Prop}{w w':World}(h:gP B w B' w'):∀ {cs:eB} {vs:bY},fF env B w cs vs->fF env B' w' cs vs
 |[],_,U=>U
 |.id _::_,_,⟨v,r,e,I,J⟩=>⟨v,r,e,I,fF.up h J⟩
 |.fr _ _::_,_,⟨v,r,e,⟨b,o,I,ag⟩,J⟩=>⟨v,r,e,⟨b,o,I,ag.up h⟩,fF.up h J⟩
theorem dN.up{env:Nat->Loc}{B B':Nat->Prop}{w w':World}(h:gP B w B' w'):∀ {c:bs} {v:Value},dN env B w c v->dN env B' w' c v
 |.val _,_,U=>U
 |.str _,_,U=>U
 |.dead,_,U=>U
 |.ptr _ _,_,U=>U
 |.fg _ _ _ _,_,U=>U
 |.gb _ _ _,_,⟨b,o,e,bm⟩=>⟨b,o,e,bm.up h⟩
 |.par _ _,_,⟨b,o,vs,e,ab,I,J⟩=>⟨b,o,vs,e,h.sub b ab,Flat.mono (λ_ _=>bN.up h) I,λj u hu=>by rw[h.cell ab];exact J j u hu⟩
 |.aI _,_,U=>U
 |.bJ _ _ _,_,⟨A,c,xs,e,I,J,ag,d,a⟩=>⟨A,c,xs,e,I,J,ag,Flat.mono (λ_ _=>bN.up h) d,a.up h⟩
 |.fn _ _,_,⟨vs,e,ak⟩=>⟨vs,e,ak.up h⟩
 |.dI _,_,U=>U
 |.jR _ _,_,U=>U
 |.iF _ _,_,U=>U
 |.jS _ _ _,_,U=>U
 |.j7 _,_,U=>U
 |.iV _ _,_,U=>U
theorem cZ.up{env:Nat->Loc}{B B':Nat->Prop}{w w':World}(h:gP B w B' w'):∀ {c:dT} {v:bY},cZ env B w c v->cZ env B' w' c v
 |[],_,U=>U
 |_::_,_,⟨v,r,e,I,J⟩=>⟨v,r,e,I.up h,cZ.up h J⟩
theorem eb.up{env:Nat->Loc}{B B':Nat->Prop}{w w':World}(h:gP B w B' w'):∀ {c:bp} {v:Value},eb env B w c v->eb env B' w' c v
 |.c _,_,U=>dN.up h U
 |.agg _,_,⟨vs,e,I⟩=>⟨vs,e,I.up h⟩
 |.arr _ _,_,⟨vs,e,I⟩=>⟨vs,e,Flat.mono (λ_ _=>bN.up h) I⟩
theorem dO.up{env:Nat->Loc}{B B':Nat->Prop}{w w':World}(h:gP B w B' w'):∀ {c:ej} {v:bY},dO env B w c v->dO env B' w' c v
 |[],_,U=>U
 |_::_,_,⟨v,r,e,I,J⟩=>⟨v,r,e,I.up h,dO.up h J⟩
theorem e7.up{env:Nat->Loc}{B B':Nat->Prop}{w w':World}(h:gP B w B' w'):∀ {c:b8} {v:Value},e7 env B w c v->e7 env B' w' c v
 |.a _,_,U=>eb.up h U
 |.may _ _,_,U=>⟨λa=>(U.1 a).up h,U.2⟩
 |.cY _,_,⟨vs,e,I⟩=>⟨vs,e,I.up h⟩
section
structure cv where
 aK:bK
 g:Option aV
def aV.ff:aV->bY
 |.int k=>[.int k 0]
 |.bool=>[.bool false]
 |.str=>[ga []]
 |.aI _=>[.slice none 0 0]
 |.ie _=>[.slice none 0 0]
 |.unit=>[]
 |.fn=>[.nilFunc]
 |.pair g h=>g.ff++h.ff
structure cv.ok(P:Program)(t:TypeId)(e:cv):Prop where
 aK:bK.ok P t e.aK
 g:∀g,e.g=some g->g.size=e.aK.size/\e.aK.zero.cells.toList=g.ff/\0<g.size
inductive cb where
 |leaf
 |node (l:cb) (k:TypeId) (e:cv) (r:cb)
def cb.find:cb->TypeId->Option cv
 |.leaf,_=>none
 |.node l k e r,t=>match blt t k with
  |true=>l.find t
  |false=>match beq t k with
   |true=>some e
   |false=>r.find t
def cb.ok(P:Program):cb->Prop
 |.leaf=>True
 |.node l k e r=>l.ok P/\cv.ok P k e/\r.ok P
theorem cb.get{P:Program}:∀ {aY:cb} {t:TypeId} {e:cv},aY.ok P->aY.find t=some e->cv.ok P t e
 |.leaf,_,_,_,h=>by cases h
 |.node l k a r,t,e,⟨I,J,ag⟩,h=>by
  unfold cb.find at h
  split at h
  ·exact cb.get I h
  ·split at h
   ·rename_i aa
    have:t=k:=eq_of_beq_eq_true aa
    subst this;cases h;exact J
   ·exact cb.get ag h
theorem bK.uniq{P:Program}{t:TypeId}{i j:bK}(h:bK.ok P t i)(k:bK.ok P t j):i=j:=by
 obtain⟨a,b,c,d⟩:=i;have I:=h.1.symm.trans k.1;have J:=h.2.symm.trans k.2;simp only[Option.some.injEq,Prod.mk.injEq]at I J;obtain⟨rfl,rfl,rfl⟩:=J;subst I
 rfl
theorem Ew{P:Program}{t:TypeId}{i:bK}(h:bK.ok P t i):∃T,iq P T/\T.lookup t=some i:=⟨[(t,i)],iq.cons h (iq.nil _),by simp⟩
theorem n4{P:Program}{t e:TypeId}{i j:bK}(h:bK.ok P t i)(k:bK.ok P e j):∃T,iq P T/\T.lookup t=some i/\T.lookup e=some j:=by
 refine⟨[(t,i),(e,j)],iq.cons h (iq.cons k (iq.nil _)),by simp,?_⟩
 by_cases he:e=t
 ·subst he
  rw[bK.uniq h k]
  simp
 ·simp[lookup_cons,beq_false_of_ne he]
inductive cC where
 |cells (t:TypeId) (cs:dT)
 |row (t:TypeId) (g:aV) (l:List g.D) (cap:Option Nat)
 |lj (s:ByteArray) (pos:Nat)
 |mp (gk gv:aV) (l:List (gk.D×gv.D)) (o:Option (List MapEntry×Nat))
 |it (eR:Nat) (es:List MapEntry) (clock:Nat) (aB:bX)
 |lk
 |h8 (eR:Nat)
 |cW (el:Bool) (t:TypeId) (g:aV) (l:List (List g.D)) (cap:Option Nat) (i d:Nat)
 |lM
 |hl (t:TypeId) (g:aV) (l:List g.D)
 |cf (t bS:TypeId) (g:aV) (l:List (Bool×List g.D)) (cap:Option Nat) (h:Option (Nat×Option Nat))
abbrev bC:=List (Nat×cC)
abbrev c6:=List (Nat×b8)
structure aQ where
 L:c6
 H:bC
def bj{α:Type}:List (Nat×α)->Nat->Option α
 |[],_=>none
 |(k,v)::r,s=>match beq s k with
  |true=>some v
  |false=>bj r s
theorem cX{α:Type}{k:Nat}{v:α}{r:List (Nat×α)}{s:Nat}:bj ((k,v)::r) s=if s=k then some v else bj r s:=by
 show(match beq s k with|true=>some v|false=>bj r s)=_
 split
 ·rename_i h
  rw[if_pos (eq_of_beq_eq_true h)]
 ·rename_i h
  rw[if_neg (ne_of_beq_eq_false h)]
def ez(B:Nat->Prop)(w:World):(g:aV)->g.D->Value->Prop
 |.pair g h=>λx v=>∃vs,v=.agg vs.toArray/\bN B w (.pair g h) x vs
 |g=>λx v=>bN B w g x [v]
theorem ez.up{B B':Nat->Prop}{w w':World}(h:gP B w B' w'):∀ {g:aV} {x:g.D} {v:Value},ez B w g x v->ez B' w' g x v
 |.pair _ _,_,_,⟨vs,e,I⟩=>⟨vs,e,bN.up h I⟩
 |.int _,_,_,I=>bN.up h I
 |.bool,_,_,I=>bN.up h I
 |.str,_,_,I=>bN.up h I
 |.aI _,_,_,I=>bN.up h I
 |.ie _,_,_,I=>bN.up h I
 |.unit,_,_,I=>bN.up h I
 |.fn,_,_,I=>bN.up h I
def gd(B:Nat->Prop)(w:World)(gk gv:aV):List (gk.D×gv.D)->List MapEntry->Prop
 |[],a=>a=[]
 |x::l,a=>∃e r,a=e::r/\ez B w gk x.1 e.key/\ez B w gv x.2 e.val/\gd B w gk gv l r
theorem gd.up{B B':Nat->Prop}{w w':World}(h:gP B w B' w'){gk gv:aV}:∀ {l:List (gk.D×gv.D)} {a:List MapEntry},gd B w gk gv l a->gd B' w' gk gv l a
 |[],_,c=>c
 |_::_,_,⟨e,r,b,I,J,ag⟩=>⟨e,r,b,I.up h,J.up h,gd.up h ag⟩
def n5(a:List MapEntry)(clock:Nat):Prop:=(a.map (·.born)).Pairwise (· < ·)/\∀b∈a.map (·.born),b<clock
def lN(a:List MapEntry)(aB:bX):bX:=aB.map λj=>((a[j]?).map (·.born)).getD 0
def ec(B:Nat->Prop)(w:World)(a:TypeId)(g:aV):List (Bool×List g.D)->bY->List hk->Prop
 |[],vs,a6=>vs=[]/\a6=[]
 |x::r,vs,a6=>∃v b,vs=v::b/\match x.1 with
  |true=>∃A k xs fC,v=.slice A x.2.length k/\a6=⟨A,k,a,g.size,x.2.length,xs⟩::fC/\Flat (bN B w g) x.2 xs/\ec B w a g r b fC
  |false=>bN B w (.aI g) x.2 [v]/\ec B w a g r b a6
theorem ec.length{B:Nat->Prop}{w:World}{a:TypeId}{g:aV}:∀ {l:List (Bool×List g.D)} {vs:bY} {a6:List hk},ec B w a g l vs a6->vs.length=l.length
 |[],_,_,⟨e,_⟩=>by rw[e];rfl
 |(true,_)::_,_,_,⟨v,b,e,_,_,_,_,_,_,_,h⟩=>by rw[e,length_cons,length_cons,ec.length h]
 |(false,_)::_,_,_,⟨v,b,e,_,h⟩=>by rw[e,length_cons,length_cons,ec.length h]
theorem ec.up{B B':Nat->Prop}{w w':World}(h:gP B w B' w'){b:TypeId}{g:aV}:∀ {l:List (Bool×List g.D)} {vs:bY} {a6:List hk},ec B w b g l vs a6->ec B' w' b g l vs a6
 |[],_,_,I=>I
 |(true,_)::_,_,_,⟨v,a,e,A,k,xs,fC,I,J,ag,c⟩=>⟨v,a,e,A,k,xs,fC,I,J,Flat.mono (λ_ _=>bN.up h) ag,ec.up h c⟩
 |(false,_)::_,_,_,⟨v,a,e,I,J⟩=>⟨v,a,e,bN.up h I,ec.up h J⟩
def Qc{α:Type}(l:List (Bool×List α)):Option (Nat×Option Nat)->List (Bool×List α)
 |none=>l
 |some (i,_)=>l.set i (false,[])
def Ba(env:Nat->Loc)(n:Nat)(ys a:bY):Option (Nat×Option Nat)->Prop
 |none=>a=ys
 |some (i,b)=>i<n/\∃v,a=ys.set i v/\∀d,b=some d->∃A c m,env d=.row A c m/\v=.slice A m c
def e1(env:Nat->Loc)(B:Nat->Prop)(w:World)(id:Nat):cC->bo->Prop
 |.cells t cs,c=>∃b vs,env id=.blk b/\c=.hN b vs t/\cZ env B w cs vs
 |.row t g l cap,c=>∃A k xs,env id=.row A k l.length/\c=.row A k t g.size l.length xs/\Flat (bN B w g) l xs/\∀q,cap=some q->k=q
 |.lj s p,c=>∃b,env id=.blk b/\c=.obj b (.stringIter s p)
 |.mp gk gv l o,c=>∃b a clock,env id=.blk b/\c=.obj b (.map a.toArray clock)/\gd B w gk gv l a/\n5 a clock/\∀q,o=some q->q=(a,clock)
 |.it e a clock aB,c=>∃b m,env id=.blk b/\env e=.blk m/\c=.obj b (.mapIter (some m) clock (lN a aB).toArray clock)
 |.lk,c=>∃b o,env id=.blk b/\c=.obj b o
 |.h8 e,c=>∃b m q,env id=.blk b/\env e=.blk m/\c=.obj b (.mapIter (some m) q #[] q)
 |.cW r t g l cap i d,c=>∃A k ys f c' m,env id=.row A k l.length/\c=.row A k t 1 l.length (ys.set i (.slice f m c'))/\Flat (ql r B w g) l ys/\i<l.length/\env d=.row f c' m/\(∀q,cap=some q->k=q)/\(r=true->c'=m)
 |.lM,c=>∃A k n t s m xs,env id=.row A k n/\c=.row A k t s m xs
 |.hl t g l,c=>∃A k,env id=.row A k l.length/\((∃xs,c=.row A k t g.size l.length xs/\Flat (bN B w g) l xs)\/(c=.row none 0 t g.size 0 []/\k=l.length/\k<=maxLen/\∃xs,Flat (bN B w g) l xs/\pz B w A l.length g.size xs))
 |.cf t u g l cap h,c=>∃A k ys j a6,env id=.row A k l.length/\c=.tree (⟨A,k,t,1,l.length,j⟩::a6)/\ec B w u g (Qc l h) ys a6/\Ba env l.length ys j h/\∀q,cap=some q->k=q
def bG(env:Nat->Loc)(B:Nat->Prop)(w:World):bC->cI->Prop
 |[],H=>H=[]
 |(id,b)::h,H=>∃c H',H=c::H'/\e1 env B w id b c/\bG env B w h H'
theorem e1.up{env:Nat->Loc}{B B':Nat->Prop}{w w':World}(h:gP B w B' w'){id:Nat}:∀ {b:cC} {c:bo},e1 env B w id b c->e1 env B' w' id b c
 |.cells _ _,_,⟨b,vs,e,U,I⟩=>⟨b,vs,e,U,I.up h⟩
 |.row _ _ _ _,_,⟨A,k,xs,e,U,I,J⟩=>⟨A,k,xs,e,U,Flat.mono (λ_ _=>bN.up h) I,J⟩
 |.lj _ _,_,ab=>ab
 |.mp _ _ _ _,_,⟨b,i,k,e,U,I,J⟩=>⟨b,i,k,e,U,I.up h,J⟩
 |.it _ _ _ _,_,ab=>ab
 |.h8 _,_,ab=>ab
 |.lk,_,ab=>ab
 |.cW _ _ _ _ _ _ _,_,⟨A,k,ys,f,c',m,e,U,I,J⟩=>⟨A,k,ys,f,c',m,e,U,Flat.mono (λ_ _=>ql.up h) I,J⟩
 |.lM,_,ab=>ab
 |.cf _ _ _ _ _ _,_,⟨A,k,ys,g,a6,e,U,I,J⟩=>⟨A,k,ys,g,a6,e,U,I.up h,J⟩
 |.hl _ _ _,_,⟨A,k,e,I⟩=>⟨A,k,e,I.imp (λ⟨xs,a,b⟩=>⟨xs,a,Flat.mono (λ_ _=>bN.up h) b⟩) λ⟨a,b,c,xs,d,r⟩=>⟨a,b,c,xs,Flat.mono (λ_ _=>bN.up h) d,r.up h⟩⟩
theorem bG.up{env:Nat->Loc}{B B':Nat->Prop}{w w':World}(h:gP B w B' w'):∀ {l:bC} {H:cI},bG env B w l H->bG env B' w' l H
 |[],_,a=>a
 |_::_,_,⟨c,H',e,I,J⟩=>⟨c,H',e,I.up h,bG.up h J⟩
theorem bG.gQ{env:Nat->Loc}{B:Nat->Prop}{w:World}:∀ {l:bC} {H:cI} {id:Nat} {b:cC},bG env B w l H->bj l id=some b->∃c K,e1 env B w id b c/\j5 H c K
 |[],_,_,_,_,h=>by cases h
 |(k,b')::l,H,id,b,⟨c,H',e,I,J⟩,h=>by
  rw[cX]at h;subst e
  split at h
  ·rename_i e
   subst e;cases h;exact⟨c,_,I,yK⟩
  ·obtain⟨c',K,ag,X,Y,d,a⟩:=bG.gQ J h
   exact⟨c',λz=>c::K z,ag,c::X,Y,by rw[d];rfl,by rw[a];rfl⟩
def e8(id:Nat)(b:cC):bC->bC
 |[]=>[]
 |(k,b')::r=>match beq k id with
  |true=>(k,b)::r
  |false=>(k,b')::e8 id b r
theorem bG.put{env:Nat->Loc}{B:Nat->Prop}{w:World}:∀ {l:bC} {H:cI} {id:Nat} {b:cC},bG env B w l H->bj l id=some b->∃c K,e1 env B w id b c/\j5 H c K/\∀b' c',e1 env B w id b' c'->bG env B w (e8 id b' l) (K c')
 |[],_,_,_,_,h=>by cases h
 |(k,b')::l,H,id,b,⟨c,H',e,I,J⟩,h=>by
  rw[cX]at h;subst e
  split at h
  ·rename_i e
   subst e;cases h;refine⟨c,_,I,yK,λa cK ab=>?_⟩;unfold e8;rw[beq_refl];exact⟨cK,H',rfl,ab,J⟩
  ·rename_i i
   obtain⟨c',K,ag,⟨X,Y,g,f⟩,d⟩:=bG.put J h;refine⟨c',λz=>c::K z,ag,⟨c::X,Y,by rw[g];rfl,by rw[f];rfl⟩,λa cK ab=>?_⟩;unfold e8
   have:beq k id=false:=by
    cases aa:beq k id with
    |false=>rfl
    |true=>exact absurd (eq_of_beq_eq_true aa).symm i
   rw[this];exact⟨c,_,rfl,I,d a cK ab⟩
def wI(i:Nat):eB->Bool
 |[]=>false
 |.id j::r=>beq j i || wI i r
 |.fr _ _::r=>wI i r
def bs.sub:bs->Nat->bs->bs
 |.ptr i o,id,_=>match beq i id with
  |true=>.dead
  |false=>.ptr i o
 |.fg i a j o,id,_=>match beq i id with
  |true=>.dead
  |false=>.fg i a j o
 |.aI i,id,z=>match beq i id with
  |true=>z
  |false=>.aI i
 |.fn f ids,id,_=>match wI id ids with
  |true=>.dead
  |false=>.fn f ids
 |.dI i,id,_=>match beq i id with
  |true=>.dead
  |false=>.dI i
 |.jR f i,id,_=>match beq i id with
  |true=>.dead
  |false=>.jR f i
 |.iF i o,id,_=>match beq i id with
  |true=>.dead
  |false=>.iF i o
 |.j7 i,id,_=>match beq i id with
  |true=>.dead
  |false=>.j7 i
 |.jS i s o,id,_=>match beq i id with
  |true=>.dead
  |false=>.jS i s o
 |.iV b i,id,_=>match beq i id with
  |true=>.dead
  |false=>.iV b i
 |c,_,_=>c
def tp(id:Nat)(z:bs):dT->dT
 |[]=>[]
 |c::r=>c.sub id z::tp id z r
def bp.sub:bp->Nat->bs->bp
 |.c x,id,z=>.c (x.sub id z)
 |.agg cs,id,z=>.agg (tp id z cs)
 |.arr g l,_,_=>.arr g l
def Bb(id:Nat)(z:bs):ej->ej
 |[]=>[]
 |c::r=>c.sub id z::Bb id z r
def b8.sub:b8->Nat->bs->b8
 |.a x,id,z=>.a (x.sub id z)
 |.may g x,id,z=>.may g (x.sub id z)
 |.cY xs,id,z=>.cY (Bb id z xs)
def gu(id:Nat)(z:bs):c6->c6
 |[]=>[]
 |(k,v)::r=>(k,v.sub id z)::gu id z r
def cC.sub:cC->Nat->bs->cC
 |.cells t cs,id,z=>.cells t (tp id z cs)
 |.it a j k aB,id,_=>match beq a id with
  |true=>.lk
  |false=>.it a j k aB
 |.h8 a,id,_=>match beq a id with
  |true=>.lk
  |false=>.h8 a
 |.cW f t g l cap i d,id,z=>match beq d id with
  |true=>match z with
   |.bJ g' c _=>match decEq g' g with
    |isTrue h=>match f with
     |true=>.row t (.ie g) (l.set i (h ▸ c)) cap
     |false=>.row t (.aI g) (l.set i (h ▸ c)) cap
    |isFalse _=>.lM
   |_=>.lM
  |false=>.cW f t g l cap i d
 |.cf t e g l cap (some (i,some d)),id,_=>match beq d id with
  |true=>.cf t e g l cap (some (i,none))
  |false=>.cf t e g l cap (some (i,some d))
 |b,_,_=>b
def eE(id:Nat)(z:bs):bC->bC
 |[]=>[]
 |(k,b)::r=>match beq k id with
  |true=>eE id z r
  |false=>(k,b.sub id z)::eE id z r
section
variable {env env':Nat->Loc} {B:Nat->Prop} {w:World} {id:Nat} {z:bs}
theorem fF.Jr(he:∀j,j≠id->env' j=env j):∀ {ids:eB} {vs:bY},wI id ids=false->fF env B w ids vs->fF env' B w ids vs
 |[],_,_,h=>h
 |.id i::ids,_,ba,⟨v,r,e,⟨b,ab,a⟩,h⟩=>by
  simp only[wI,Bool.or_eq_false_iff]at ba;exact⟨v,r,e,⟨b,by rw[he i (ne_of_beq_eq_false ba.1)];exact ab,a⟩,fF.Jr he ba.2 h⟩
 |.fr g x::ids,_,ba,⟨v,r,e,I,h⟩=>⟨v,r,e,I,fF.Jr he (by simpa [wI] using ba) h⟩
theorem dN.sub(he:∀j,j≠id->env' j=env j)(bF:∀v,dN env B w (.aI id) v->dN env' B w z v):∀ {c:bs} {v:Value},dN env B w c v->dN env' B w (c.sub id z) v
 |.val _,_,U=>U
 |.str _,_,U=>U
 |.dead,_,U=>U
 |.ptr i o,v,U=>by
  simp only[bs.sub]
  split
  ·trivial
  ·rename_i h
   obtain⟨b,e,a⟩:=U;exact⟨b,by rw[he i (ne_of_beq_eq_false h)];exact e,a⟩
 |.fg i d j o,v,U=>by
  simp only[bs.sub]
  split
  ·trivial
  ·rename_i h
   obtain⟨b,c,n,e,a⟩:=U;exact⟨b,c,n,by rw[he i (ne_of_beq_eq_false h)];exact e,a⟩
 |.iV b i,v,U=>by
  simp only[bs.sub]
  split
  ·trivial
  ·rename_i h
   obtain⟨k,e,a⟩:=U;exact⟨k,λab=>by rw[he i (ne_of_beq_eq_false h)];exact e ab,a⟩
 |.j7 i,v,U=>by
  simp only[bs.sub]
  split
  ·trivial
  ·rename_i h
   obtain⟨b,c,n,e,a⟩:=U;exact⟨b,c,n,by rw[he i (ne_of_beq_eq_false h)];exact e,a⟩
 |.jS i s o,v,U=>by
  simp only[bs.sub]
  split
  ·trivial
  ·rename_i h
   obtain⟨b,c,n,e,a⟩:=U;exact⟨b,c,n,by rw[he i (ne_of_beq_eq_false h)];exact e,a⟩
 |.iF i o,v,U=>by
  simp only[bs.sub]
  split
  ·trivial
  ·rename_i h
   obtain⟨b,c,n,e,a⟩:=U;exact⟨b,c,n,by rw[he i (ne_of_beq_eq_false h)];exact e,a⟩
 |.gb _ _ _,_,U=>U
 |.par _ _,_,U=>U
 |.aI i,v,U=>by
  simp only[bs.sub]
  split
  ·rename_i h
   have:i=id:=eq_of_beq_eq_true h
   subst this;exact bF v U
  ·rename_i h
   obtain⟨A,c,n,e,a⟩:=U;exact⟨A,c,n,by rw[he i (ne_of_beq_eq_false h)];exact e,a⟩
 |.bJ _ _ _,_,U=>U
 |.fn f ids,v,U=>by
  simp only[bs.sub]
  split
  ·trivial
  ·rename_i h
   obtain⟨vs,a,ak⟩:=U;exact⟨vs,a,ak.Jr he h⟩
 |.dI i,v,U=>by
  simp only[bs.sub]
  split
  ·trivial
  ·rename_i h
   obtain⟨b,e,a⟩:=U;exact⟨b,by rw[he i (ne_of_beq_eq_false h)];exact e,a⟩
 |.jR f i,v,U=>by
  simp only[bs.sub]
  split
  ·trivial
  ·rename_i h
   obtain⟨b,e,a⟩:=U;exact⟨b,by rw[he i (ne_of_beq_eq_false h)];exact e,a⟩
variable (he:∀j,j≠id->env' j=env j) (bF:∀v,dN env B w (.aI id) v->dN env' B w z v)
include he bF
theorem cZ.sub:∀ {c:dT} {v:bY},cZ env B w c v->cZ env' B w (tp id z c) v
 |[],_,U=>U
 |_::_,_,⟨v,r,e,I,J⟩=>⟨v,r,e,I.sub he bF,cZ.sub J⟩
theorem eb.sub:∀ {c:bp} {v:Value},eb env B w c v->eb env' B w (c.sub id z) v
 |.c _,_,U=>dN.sub he bF U
 |.agg _,_,⟨vs,e,I⟩=>⟨vs,e,I.sub he bF⟩
 |.arr _ _,_,h=>h
theorem dO.sub:∀ {c:ej} {v:bY},dO env B w c v->dO env' B w (Bb id z c) v
 |[],_,U=>U
 |_::_,_,⟨v,r,e,I,J⟩=>⟨v,r,e,I.sub he bF,dO.sub J⟩
theorem e7.sub:∀ {c:b8} {v:Value},e7 env B w c v->e7 env' B w (c.sub id z) v
 |.a _,_,U=>eb.sub he bF U
 |.may _ _,_,U=>⟨λa=>(U.1 a).sub he bF,U.2⟩
 |.cY _,_,⟨vs,e,I⟩=>⟨vs,e,I.sub he bF⟩
theorem e1.sub{k:Nat}(aa:k≠id):∀ {b:cC} {c:bo},e1 env B w k b c->e1 env' B w k (b.sub id z) c
 |.cells _ _,_,⟨b,vs,e,U,I⟩=>⟨b,vs,by rw[he k aa];exact e,U,I.sub he bF⟩
 |.row _ _ _ _,_,⟨A,c,xs,e,U,I⟩=>⟨A,c,xs,by rw[he k aa];exact e,U,I⟩
 |.lj _ _,_,⟨b,e,U⟩=>⟨b,by rw[he k aa];exact e,U⟩
 |.mp _ _ _ _,_,⟨b,M,q,e,U⟩=>⟨b,M,q,by rw[he k aa];exact e,U⟩
 |.it u _ _ _,_,⟨b,m,e,y,U⟩=>by
  simp only[cC.sub]
  split
  ·exact⟨b,_,by rw[he k aa];exact e,U⟩
  ·rename_i h
   exact⟨b,m,by rw[he k aa];exact e,by rw[he u (ne_of_beq_eq_false h)];exact y,U⟩
 |.h8 u,_,⟨b,m,q,e,y,U⟩=>by
  simp only[cC.sub]
  split
  ·exact⟨b,_,by rw[he k aa];exact e,U⟩
  ·rename_i h
   exact⟨b,m,q,by rw[he k aa];exact e,by rw[he u (ne_of_beq_eq_false h)];exact y,U⟩
 |.lk,_,⟨b,o,e,U⟩=>⟨b,o,by rw[he k aa];exact e,U⟩
 |.cW P t g l cap i d,_,⟨A,c,ys,a,c',m,e,U,I,hi,J,ag⟩=>by
  simp only[cC.sub]
  split
  ·rename_i h
   have az:=eq_of_beq_eq_true h;subst az
   split
   ·rename_i g' K uQ
    split
    ·rename_i H _
     subst H;obtain⟨D,cK,xs,r,L,N,_,E,F⟩:=bF _ ⟨a,c',m,J,rfl⟩;have ah:ys.length=l.length:=ql.rb I;have C:ys.set i (.slice a m c')=ys.take i++([.slice a m c']++ys.drop (i+1)):=by
      rw[List.set_eq_take_append_cons_drop,if_pos (by omega)]
      rfl
     split
     ·refine⟨A,c,_,by rw[he k aa,length_set];exact e,by rw[length_set];exact U,?_,ag.1⟩
      have O:=ag.2 rfl;have j:=Flat.set (k:=1) (λ_ _=>bN.length) (show Flat (bN B w (.ie g')) l ys from I) hi (us:=[.slice a m c']) ⟨D,xs,by
       subst O;rw[show c'=K.length by injection r]
       injection r with q _ _
       rw[q],by
       omega,E,F⟩
      rw[C];rw[Nat.mul_one,append_assoc]at j;exact j
     ·refine⟨A,c,_,by rw[he k aa,length_set];exact e,by rw[length_set];exact U,?_,ag.1⟩
      have j:=Flat.set (k:=1) (λ_ _=>bN.length) (show Flat (bN B w (.aI g')) l ys from I) hi (us:=[.slice a m c']) ⟨D,cK,xs,by rw[r],L,N,E,F⟩;rw[C];rw[Nat.mul_one,append_assoc]at j;exact j
    ·exact⟨A,c,_,_,_,_,_,by rw[he k aa];exact e,U⟩
   ·exact⟨A,c,_,_,_,_,_,by rw[he k aa];exact e,U⟩
  ·rename_i h
   exact⟨A,c,ys,a,c',m,by rw[he k aa];exact e,U,I,hi,by rw[he d (ne_of_beq_eq_false h)];exact J,ag⟩
 |.lM,_,⟨A,c,n,t,s,m,xs,e,U⟩=>⟨A,c,n,t,s,m,xs,by rw[he k aa];exact e,U⟩
 |.hl _ _ _,_,⟨A,c,e,I⟩=>⟨A,c,by rw[he k aa];exact e,I⟩
 |.cf _ _ _ _ _ none,_,⟨A,q,ys,f,a6,e,U,I,J,ag⟩=>⟨A,q,ys,f,a6,by rw[he k aa];exact e,U,I,J,ag⟩
 |.cf _ _ _ _ _ (some (i,none)),_,⟨A,q,ys,f,a6,e,U,I,⟨J,v,p,_⟩,ag⟩=>⟨A,q,ys,f,a6,by rw[he k aa];exact e,U,I,⟨J,v,p,λ_ h=>by cases h⟩,ag⟩
 |.cf _ _ _ _ _ (some (i,some d)),_,⟨A,q,ys,f,a6,e,U,I,⟨J,v,p,G⟩,ag⟩=>by
  simp only[cC.sub]
  split
  ·exact⟨A,q,ys,f,a6,by rw[he k aa];exact e,U,I,⟨J,v,p,λ_ h=>by cases h⟩,ag⟩
  ·rename_i h
   exact⟨A,q,ys,f,a6,by rw[he k aa];exact e,U,I,⟨J,v,p,λQ az=>by cases az;rw[he d (ne_of_beq_eq_false h)];exact G d rfl⟩,ag⟩
theorem bG.del:∀ {l:bC} {H:cI},bG env B w l H->∃H',H'.Sublist H/\bG env' B w (eE id z l) H'
 |[],_,d=>⟨[],by rw[show _=[] from d];exact List.Sublist.refl _,rfl⟩
 |(k,b)::l,_,⟨c,H',e,I,J⟩=>by
  obtain⟨H2,a,ag⟩:=bG.del J;subst e;unfold eE
  split
  ·exact⟨H2,a.cons _,ag⟩
  ·rename_i h
   exact⟨c::H2,a.cons_cons _,c,H2,rfl,I.sub he bF (ne_of_beq_eq_false h),ag⟩
def jv:bo->Bool
 |.hN _ _ _=>true
 |_=>false
omit he bF in
theorem e1.pA{k:Nat}:∀ {b:cC} {c:bo},e1 env B w k b c->(∀t cs,b≠.cells t cs)->jv c=false
 |.cells t cs,_,_,h=>absurd rfl (h t cs)
 |.row _ _ _ _,_,⟨_,_,_,_,e,_⟩,_=>by rw[e];rfl
 |.lj _ _,_,⟨_,_,e⟩,_=>by rw[e];rfl
 |.mp _ _ _ _,_,⟨_,_,_,_,e,_⟩,_=>by rw[e];rfl
 |.it _ _ _ _,_,⟨_,_,_,_,e⟩,_=>by rw[e];rfl
 |.h8 _,_,⟨_,_,_,_,_,e⟩,_=>by rw[e];rfl
 |.lk,_,⟨_,_,_,e⟩,_=>by rw[e];rfl
 |.cW _ _ _ _ _ _ _,_,⟨_,_,_,_,_,_,_,e,_⟩,_=>by rw[e];rfl
 |.lM,_,⟨_,_,_,_,_,_,_,_,e⟩,_=>by rw[e];rfl
 |.cf _ _ _ _ _ _,_,⟨_,_,_,_,_,_,e,_⟩,_=>by rw[e];rfl
 |.hl _ _ _,_,⟨_,_,_,h⟩,_=>by
  rcases h with⟨_,e,_⟩|⟨e,_⟩
  ·rw[e];rfl
  ·rw[e];rfl
theorem bG.Js:∀ {l:bC} {H:cI},bG env B w l H->(∀b c,(id,b)∈l->e1 env B w id b c->jv c=false)->∃H',H'.Sublist H/\bG env' B w (eE id z l) H'/\∀c∈H,jv c=true->c∈H'
 |[],_,g,_=>⟨[],by rw[show _=[] from g];exact List.Sublist.refl _,rfl,λc U _=>by rw[show _=[] from g]at U;exact U⟩
 |(k,b)::l,_,⟨c,H',e,I,J⟩,aa=>by
  obtain⟨H2,d,ag,f⟩:=bG.Js J (λb c ab=>aa b c (mem_cons_of_mem _ ab));subst e;unfold eE
  split
  ·rename_i hid
   have i:=eq_of_beq_eq_true hid;subst i;refine⟨H2,d.cons _,ag,λc' eh a=>?_⟩
   rcases List.mem_cons.1 eh with rfl|eh
   ·rw[aa b c' (mem_cons_self ..) I]at a;cases a
   ·exact f c' eh a
  ·rename_i h
   refine⟨c::H2,d.cons_cons _,⟨c,H2,rfl,I.sub he bF (ne_of_beq_eq_false h),ag⟩,λc' eh a=>?_⟩
   rcases List.mem_cons.1 eh with rfl|eh
   ·exact mem_cons_self ..
   ·exact mem_cons_of_mem _ (f c' eh a)
omit he bF in
theorem rf:∀ {l:c6} {s:Nat} {v:b8},bj (gu id z l) s=some v->∃u,bj l s=some u/\v=u.sub id z
 |[],_,_,h=>by cases h
 |(k,u)::l,s,v,h=>by
  unfold gu at h;rw[cX]at h ⊢
  split at h
  ·rename_i e
   cases h;rw[if_pos e];exact⟨u,rfl,rfl⟩
  ·rename_i e
   rw[if_neg e];exact rf h
end
end
section
structure Ex where
 g:aV
 l:List g.D
structure bz where
 P:Program
 aY:cb
 Ey:Nat->Option Ex
def dB(k:Nat):bo:=.obj k (.deferred (some []))
structure fk where
 b:Nat->Prop
 p:Nat->Loc->Prop
 d:List Deferred
def j9(aq:bX)(aD:fk):List Deferred:=aq.map wH++aD.d
def tq(w:World)(k:Nat):Prop:=∃cs e a,w.heap[k]?=some (.cells cs e a)
theorem tq.et{w w':World}{k:Nat}(h:tq w k)(e:w'.heap[k]?=w.heap[k]?):tq w' k:=by
 obtain⟨cs,t,a,h⟩:=h;exact⟨cs,t,a,e.trans h⟩
def mi:Nat:=1000000
def iG:Nat:=2000000
def uR(B:Nat->Prop)(w:World)(i:Nat)(x:Ex):Prop:=dN (λ_=>.no) B w (.par x.g x.l) (.pointer (some ⟨i,0,none⟩))/\∃cs e a,w.heap[i]?=some (.cells cs e a)/\cs.size=x.l.length * x.g.size
theorem uR.up{B B':Nat->Prop}{w w':World}(h:gP B w B' w'){i:Nat}{x:Ex}(a:uR B w i x):uR B' w' i x:=by
 refine⟨a.1.up h,?_⟩;obtain⟨⟨b,o,vs,e,ab,_⟩,cs,t,c,I,J⟩:=a;cases e;exact⟨cs,t,c,by rw[h.same _ ab];exact I,J⟩
structure bM(X:bz)(R:Nat->Prop)(W:World)(aD:fk)(n:Nat)(aq:bX)(env:Nat->Loc)(B:Nat->Prop)(ai:World)(H:cI)(st:aQ)(a:Act)(w:World):Prop where
 size:a.tmps.size=n
 defs:a.defers=j9 aq aD
 has:∀s sv,bj st.L s=some sv->∃v,a.tmps[s]?=some v/\e7 env B ai sv v
 heap:bG env B ai st.H H
 aT:bT (λk=>R k\/B k) ai (H++aq.map dB) w
 sub:∀k,aD.b k->B k
 new:∀k,B k->aD.b k\/(¬R k/\tq ai k)
 dP:∀id l,aD.p id l->n<=id/\env id=l/\((∃b,l=.blk b)\/iG<=id)
 base:ds R W ai
 eu:∀i x,X.Ey i=some x->uR B ai i x
def Ez(M:Bool)(aq:bX)(aD:fk):Prop:=(M=false->aq=[])/\(M=true->∀id l,aD.p id l->mi<=id)
def mO(X:bz)(R:Nat->Prop)(W:World)(aD:fk)(M:Bool)(n:Nat)(st:aQ)(a:Act)(w:World):Prop:=
 ∃aq env B ai H,Ez M aq aD/\bM X R W aD n aq env B ai H st a w
def full(a:Act):List (Nat×Value):=a.tmps.toList.zipIdx.map λp=>(p.2,p.1)
theorem aaM{s:Nat}{v:Value}:∀(vs:bY) (k:Nat),((vs.zipIdx k).map λp=>(p.2,p.1)).lookup s=some v->k<=s/\vs[s-k]?=some v:=by
 intro vs
 induction vs with
 |nil=>intro k h;cases h
 |cons u vs a=>
  intro k h;simp only[zipIdx_cons,map_cons,lookup_cons]at h
  by_cases e:s=k
  ·subst e
   simp at h
   subst h
   simp
  ·have b:(s==k)=false:=by simpa using e
   rw[b]at h;obtain⟨I,J⟩:=a (k+1) h;refine⟨by omega,?_⟩;rw[show s-k=(s-(k+1))+1 by omega,getElem?_cons_succ];exact J
theorem aaN{s:Nat}{v:Value}:∀(vs:bY) (k:Nat),vs[s]?=some v->((vs.zipIdx k).map λp=>(p.2,p.1)).lookup (k+s)=some v:=by
 intro vs
 induction vs generalizing s with
 |nil=>intro k h;simp at h
 |cons u vs a=>
  intro k h;simp only[zipIdx_cons,map_cons,lookup_cons];cases s with
  |zero=>simp at h;simp[h]
  |succ s=>
   have e:(k+(s+1)==k)=false:=by simp
   rw[e]
   have:=a (k+1) (by simpa using h)
   rw[show k+1+s=k+(s+1) by omega]at this;exact this
theorem aaO(a:Act):dh a.tmps.size a.defers (full a) a:=⟨rfl,rfl,λs v h=>by
 have:=(aaM a.tmps.toList 0 h).2
 simpa using this⟩
theorem hs{a:Act}{s:Nat}{v:Value}(h:a.tmps[s]?=some v):(full a).lookup s=some v:=by
 have:=aaN a.tmps.toList 0 (by simpa using h)
 simpa [full] using this
def Qe:Value->bs
 |.string s=>.str s.data.toList
 |v=>.val v
def uS:bY->dT
 |[]=>[]
 |v::r=>Qe v::uS r
def bx(X:bz)(L:c6):Operand->Option (Bool×bp)
 |.tmp s=>match bj L s with
  |some (.a x)=>some (true,x)
  |some (.may g x)=>some (g,x)
  |_=>none
 |.const v=>match v with
  |.string s=>some (true,.c (.str s.data.toList))
  |.agg cs=>some (true,.agg (uS cs.toList))
  |.tuple _=>none
  |v=>some (true,.c (.val v))
 |.global i=>match X.Ey i with
  |some x=>some (true,.c (.par x.g x.l))
  |none=>none
 |.func f=>some (true,.c (.fn f []))
section
variable {X:bz} {R:Nat->Prop} {W:World} {aD:fk} {n:Nat} {aq:bX} {env:Nat->Loc} {B:Nat->Prop} {ai:World} {H:cI} {st:aQ} {a:Act} {w:World}
theorem aaP(s:ByteArray):ga s.data.toList=.string s:=rfl
theorem aaQ:∀v:Value,dN env B ai (Qe v) v
 |.string _=>rfl
 |.bool _=>rfl
 |.int _ _=>rfl
 |.float _ _=>rfl
 |.complex _ _ _=>rfl
 |.pointer _=>rfl
 |.slice _ _ _=>rfl
 |.map _=>rfl
 |.chan _=>rfl
 |.func _ _ _=>rfl
 |.nilFunc=>rfl
 |.iface _ _=>rfl
 |.nilIface=>rfl
 |.agg _=>rfl
 |.tuple _=>rfl
theorem Bc:∀vs:bY,cZ env B ai (uS vs) vs
 |[]=>rfl
 |v::r=>⟨v,r,rfl,aaQ v,Bc r⟩
theorem bM.aJ(h:bM X R W aD n aq env B ai H st a w){x:Operand}{g:Bool}{sa:bp}(an:bx X st.L x=some (g,sa))(b:g=true):∃v,aJ (full a) x=some v/\eb env B ai sa v:=by
 cases x with
 |tmp s=>
  simp only[bx]at an;cases I:bj st.L s with
  |none=>rw[I]at an;cases an
  |some sv=>
   obtain⟨v,J,ag⟩:=h.has s sv I;rw[I]at an;cases sv with
   |a x=>cases an;exact⟨v,hs J,ag⟩
   |may g' x=>cases an;exact⟨v,hs J,ag.1 b⟩
   |cY xs=>cases an
 |const v=>
  refine⟨v,rfl,?_⟩;cases v with
  |string s=>cases an;exact aaP s
  |agg cs=>cases an;exact⟨cs.toList,by simp,Bc _⟩
  |tuple vs=>cases an
  |_=>cases an;rfl
 |global i=>
  simp only[bx]at an;cases I:X.Ey i with
  |none=>rw[I]at an;cases an
  |some x=>
   rw[I]at an;cases an;exact⟨_,rfl,(h.eu i x I).1⟩
 |func f=>cases an;exact⟨_,rfl,[],rfl,rfl⟩
theorem bM.bW(h:bM X R W aD n aq env B ai H st a w):dh n (j9 aq aD) (full a) a:=by
 have:=aaO a
 rw[h.size,h.defs]at this;exact this
end
def n6:Op->Bool
 |.load _ _=>true
 |_=>false
def jG(X:bz)(st:aQ)(o:Oper)(sa:bp):Prop:=
 ∀ {R:Nat->Prop} {W:World} {aD:fk} {n:Nat} {aq:bX} {env:Nat->Loc} {B:Nat->Prop} {ai:World} {H:cI} {a:Act} {b6:World},bM X R W aD n aq env B ai H st a b6 ->
  ∃v,eb env B ai sa v/\∀w,(n6 o.op=true->bT (λk=>R k\/B k) ai (H++aq.map dB) w)->(execOp a.eval o).run X.P w=.ok (.value v) w
def bd(x:Int):Bool:=ble (-x).toNat 9223372036854775808&&ble x.toNat 9223372036854775807
theorem EA{x:Int}:bd x=true ↔ -9223372036854775808<=x/\x<=9223372036854775807:=by
 unfold bd;rw[and_eq_true,ble_eq,ble_eq];omega
def gR(b:Nat)(z:Int):Bool:=ble (b * z.toNat) 140737488355328&&ble z.toNat 140737488355328
theorem Qf{b:Nat}{z:Int}(bF:0<=z):gR b z=true↔(b:Int) * z<=140737488355328/\z<=140737488355328:=by
 unfold gR;rw[and_eq_true,ble_eq,ble_eq]
 have:((b * z.toNat:Nat):Int)=(b:Int) * z:=by rw[Int.natCast_mul,Int.toNat_of_nonneg bF]
 omega
theorem aaR{x:Int}(h:bd x=true):IntKind.i64.wrap x=x:=by
 rw[EA]at h;exact Z4 h.1 h.2
def oQ:IntKind->Int->Bool×Int
 |.i64,x=>(bd x,x)
 |k,x=>(true,k.wrap x)
theorem yO{k:IntKind}{x z:Int}(h:oQ k x=(true,z)):k.wrap x=z:=by
 cases k<;>simp only[oQ,Prod.mk.injEq,true_and]at h
 case i64=>obtain⟨I,rfl⟩:=h;exact aaR I
 all_goals exact h
def yP(op:BinOp)(k k':IntKind)(x y:Int):Option (Bool×bs):=
 match op with
 |.shl=>some (decide (0<=y),.val (.int k (k.wrap (x * 2 ^ (min y.toNat k.bits)))))
 |.shr=>some (decide (0<=y),.val (.int k (x.fdiv (2 ^ (min y.toNat k.bits)))))
 |_=>match decide (k=k')with
  |false=>none
  |true=>match op with
   |.add=>match oQ k (x+y)with
    |(c,z)=>some (c,.val (.int k z))
   |.sub=>match oQ k (x-y)with
    |(c,z)=>some (c,.val (.int k z))
   |.mul=>match oQ k (x * y)with
    |(c,z)=>some (c,.val (.int k z))
   |.quo=>match oQ k (x.tdiv y)with
    |(c,z)=>some (c&&decide (y≠0),.val (.int k z))
   |.rem=>some (decide (y≠0),.val (.int k (x.tmod y)))
   |.and=>some (true,.val (.int k (bits .and k x y)))
   |.or=>some (true,.val (.int k (bits .or k x y)))
   |.xor=>some (true,.val (.int k (bits .xor k x y)))
   |.lss=>some (true,.val (.bool (decide (x<y))))
   |.leq=>some (true,.val (.bool (decide (x<=y))))
   |.gtr=>some (true,.val (.bool (decide (y<x))))
   |.geq=>some (true,.val (.bool (decide (y<=x))))
   |.eql=>some (true,.val (.bool (decide (x=y))))
   |.neq=>some (true,.val (.bool (!decide (x=y))))
   |_=>none
def Jt(op:BinOp)(x y:dU):Option (Bool×bs):=
 match op with
 |.eql=>some (true,.val (.bool (x==y)))
 |.neq=>some (true,.val (.bool (!(x==y))))
 |.add=>some (decide (x.length+y.length<=140737488355328),.str (x++y))
 |_=>none
def Qg(op:BinOp)(x y:Bool):Option (Bool×bs):=
 match op with
 |.eql=>some (true,.val (.bool (x==y)))
 |.neq=>some (true,.val (.bool (x != y)))
 |_=>none
def Ju(X:bz)(op:BinOp)(t:TypeId)(x y:bp):Option (Bool×bs):=
 match x,y with
 |.c (.val (.int k x)),.c (.val (.int k' y))=>yP op k k' x y
 |.c (.str x),.c (.str y)=>Jt op x y
 |.c (.val (.bool x)),.c (.val (.bool y))=>match X.aY.find t with
  |some ⟨⟨.bool,_,_,_⟩,_⟩=>Qg op x y
  |_=>none
 |.c (.bJ _ l _),.c (.val (.slice none 0 0))=>match X.aY.find t,op with
  |some ⟨⟨.slice _,_,_,_⟩,_⟩,.eql=>some (decide (0<l.length),.val (.bool false))
  |some ⟨⟨.slice _,_,_,_⟩,_⟩,.neq=>some (decide (0<l.length),.val (.bool true))
  |_,_=>none
 |.c (.val (.slice none 0 0)),.c (.val (.slice none 0 0))=>match X.aY.find t,op with
  |some ⟨⟨.slice _,_,_,_⟩,_⟩,.eql=>some (true,.val (.bool true))
  |some ⟨⟨.slice _,_,_,_⟩,_⟩,.neq=>some (true,.val (.bool false))
  |_,_=>none
 |_,_=>none
section
variable {P:Program} {o:Oper} {n:Nat} {D:List Deferred} {L:List (Nat×Value)} {a:Act}
theorem aaS{op:BinOp}{t j:TypeId}{u v:Operand}{k k':IntKind}{x y:Int}{i:bs}(f:dh n D L a)(b:o.op=.binOp op t u v j)(hu:aJ L u=some (.int k x))(d:aJ L v=some (.int k' y))(h:yP op k k' x y=some (true,i)):∃r,i=.val r/\fX P o a r:=by
 cases op
 case shl=>
  simp only[yP,Option.some.injEq,Prod.mk.injEq,decide_eq_true_eq]at h;obtain⟨g,rfl⟩:=h;exact⟨_,rfl,ZW f b hu (by rw[d,Int.toNat_of_nonneg g]) rfl⟩
 case shr=>
  simp only[yP,Option.some.injEq,Prod.mk.injEq,decide_eq_true_eq]at h;obtain⟨g,rfl⟩:=h;exact⟨_,rfl,ZX f b hu (by rw[d,Int.toNat_of_nonneg g]) rfl⟩
 all_goals
  have e:k=k':=by
   cases aa:decide (k=k')with
   |true=>exact of_decide_eq_true aa
   |false=>simp only[yP,aa]at h;cases h
  subst e;simp only[yP,decide_true]at h
 case add=>generalize hw:oQ k (x+y)=q at h;obtain⟨c,z⟩:=q;cases h;exact⟨_,rfl,ZI f b hu d (yO hw)⟩
 case sub=>generalize hw:oQ k (x-y)=q at h;obtain⟨c,z⟩:=q;cases h;exact⟨_,rfl,ZJ f b hu d (yO hw)⟩
 case mul=>generalize hw:oQ k (x * y)=q at h;obtain⟨c,z⟩:=q;cases h;exact⟨_,rfl,ZK f b hu d (yO hw)⟩
 case quo=>
  generalize hw:oQ k (x.tdiv y)=q at h;obtain⟨c,z⟩:=q
  simp only[Option.some.injEq,Prod.mk.injEq,and_eq_true,decide_eq_true_eq]at h;obtain⟨⟨rfl,g⟩,rfl⟩:=h;exact⟨_,rfl,ZL f b hu d g (yO hw)⟩
 case rem=>
  simp only[Option.some.injEq,Prod.mk.injEq,decide_eq_true_eq]at h;obtain⟨g,rfl⟩:=h;exact⟨_,rfl,ZM f b hu d g rfl⟩
 case and=>cases h;exact⟨_,rfl,ZT f b hu d rfl⟩
 case or=>cases h;exact⟨_,rfl,ZU f b hu d rfl⟩
 case xor=>cases h;exact⟨_,rfl,ZV f b hu d rfl⟩
 case lss=>cases h;exact⟨_,rfl,ZN f b hu d⟩
 case leq=>cases h;exact⟨_,rfl,ZO f b hu d⟩
 case gtr=>cases h;exact⟨_,rfl,ZP f b hu d⟩
 case geq=>cases h;exact⟨_,rfl,ZQ f b hu d⟩
 case eql=>cases h;exact⟨_,rfl,ZR f b hu d⟩
 case neq=>cases h;exact⟨_,rfl,ZS f b hu d⟩
 case andNot=>cases h
theorem aaT{u v:Operand}{t g:TypeId}{x y:dU}(b:dh n D L a)(d:o.op=.binOp .add t u v g)(hu:aJ L u=some (ga x))(f:aJ L v=some (ga y))(ah:x.length+y.length<=140737488355328):fX P o a (ga (x++y)):=λw=>by
 have e:((ByteArray.mk x.toArray).size+(ByteArray.mk y.toArray).size:Nat)=x.length+y.length:=by simp[ByteArray.size]
 have i:(ByteArray.mk x.toArray)++(ByteArray.mk y.toArray)=ByteArray.mk (x++y).toArray:=by
  apply ByteArray.ext
  simp[ByteArray.data_append]
 have h:¬(((ByteArray.mk x.toArray).size+(ByteArray.mk y.toArray).size:Nat):Int) > IntKind.i64.max:=by
  rw[e,show IntKind.i64.max=9223372036854775807 from rfl];omega
 have c:(Op.stringOp .add (ByteArray.mk x.toArray) (ByteArray.mk y.toArray)).run P w=.ok (ga (x++y)) w:=by
  unfold Op.stringOp;simp only[if_neg h]
  rfl
 simp only[execOp,d,b.aJ hu,b.aJ f,ga,eqGuard,binOp];simp only[ga]at c
 simp[c]
theorem aaU{op:BinOp}{t f:TypeId}{u v:Operand}{x y:dU}{e:bs}(d:dh n D L a)(b:o.op=.binOp op t u v f)(hu:aJ L u=some (ga x))(c:aJ L v=some (ga y))(h:Jt op x y=some (true,e)){env:Nat->Loc}{B:Nat->Prop}{ai:World}:∃r,dN env B ai e r/\fX P o a r:=by
 cases op<;>simp only[Jt,Option.some.injEq,Prod.mk.injEq,true_and,decide_eq_true_eq,reduceCtorEq]at h
 case eql=>subst h;exact⟨_,rfl,aaA d b hu c⟩
 case neq=>subst h;exact⟨_,rfl,aaB d b hu c⟩
 case add=>obtain⟨ah,rfl⟩:=h;exact⟨_,rfl,aaT d b hu c ah⟩
theorem Qh{P:Program}{t e:TypeId}(h:P.underlying t=some (.slice e))(d:Nat)(a:Addr)(m c:Nat)(w:World):(Op.equalIn (d+1) t (.slice (some a) m c) (.slice none 0 0)).run P w=.ok false w:=by
 unfold Op.equalIn
 simp[run_underlying h]
theorem Qi{P:Program}{t e:TypeId}(h:P.underlying t=some (.slice e))(d:Nat)(w:World):(Op.equalIn (d+1) t (.slice none 0 0) (.slice none 0 0)).run P w=.ok true w:=by
 unfold Op.equalIn
 simp[run_underlying h]
theorem aaV{X:bz}(k:X.aY.ok X.P){op:BinOp}{t G:TypeId}{u v:Operand}{x y:bp}{vx vy:Value}{C:bs}{env:Nat->Loc}{B:Nat->Prop}{ai:World}(f:dh n D L a)(i:o.op=.binOp op t u v G)(hu:aJ L u=some vx)(d:aJ L v=some vy)(an:eb env B ai x vx)(aG:eb env B ai y vy)(h:Ju X op t x y=some (true,C)):∃r,dN env B ai C r/\fX X.P o a r:=by
 unfold Ju at h
 split at h
 ·rw[show vx=_ from an]at hu
  rw[show vy=_ from aG]at d;obtain⟨r,rfl,F⟩:=aaS f i hu d h;exact⟨r,rfl,F⟩
 ·rw[show vx=_ from an]at hu
  rw[show vy=_ from aG]at d;exact aaU f i hu d h
 ·rw[show vx=_ from an]at hu
  rw[show vy=_ from aG]at d
  split at h
  ·rename_i aC
   obtain⟨T,q,I⟩:=Ew (cb.get k aC).aK;cases op<;>simp only[Qg,Option.some.injEq,Prod.mk.injEq,true_and,reduceCtorEq]at h
   case eql=>subst h;exact⟨_,rfl,aad f i q I rfl hu d⟩
   case neq=>subst h;exact⟨_,rfl,aae f i q I rfl hu d⟩
  ·cases h
 ·rename_i g l cap
  obtain⟨A,c,xs,rfl,_,_,_,_,E⟩:=an;rw[show vy=_ from aG]at d
  split at h
  ·rename_i e s b z m aC
   have j:=(cb.get k aC).aK.1;simp only[Option.some.injEq,Prod.mk.injEq,decide_eq_true_eq]at h;obtain⟨ah,rfl⟩:=h;obtain⟨b,p,rfl,_⟩:=E.1.2 ah;have he:∀w,(Op.equal t _ _).run X.P w=.ok _ w:=λw=>Qh j 9999 ⟨b,p,none⟩ l.length c w
   exact⟨_,rfl,λw=>by simp[execOp,i,f.aJ hu,f.aJ d,eqGuard,binOp,he]⟩
  ·rename_i e s b z m aC
   have j:=(cb.get k aC).aK.1;simp only[Option.some.injEq,Prod.mk.injEq,decide_eq_true_eq]at h;obtain⟨ah,rfl⟩:=h;obtain⟨b,p,rfl,_⟩:=E.1.2 ah;have he:∀w,(Op.equal t _ _).run X.P w=.ok _ w:=λw=>Qh j 9999 ⟨b,p,none⟩ l.length c w
   exact⟨_,rfl,λw=>by simp[execOp,i,f.aJ hu,f.aJ d,eqGuard,binOp,he]⟩
  ·cases h
 ·rw[show vx=_ from an]at hu
  rw[show vy=_ from aG]at d
  split at h
  ·rename_i e s b z m aC
   have j:=(cb.get k aC).aK.1;cases h;have he:∀w,(Op.equal t _ _).run X.P w=.ok _ w:=λw=>Qi j 9999 w
   exact⟨_,rfl,λw=>by simp[execOp,i,f.aJ hu,f.aJ d,eqGuard,binOp,he]⟩
  ·rename_i e s b z m aC
   have j:=(cb.get k aC).aK.1;cases h;have he:∀w,(Op.equal t _ _).run X.P w=.ok _ w:=λw=>Qi j 9999 w
   exact⟨_,rfl,λw=>by simp[execOp,i,f.aJ hu,f.aJ d,eqGuard,binOp,he]⟩
  ·cases h
 ·cases h
end
end
section
section
variable {P:Program} {T:List (TypeId×bK)} {n:Nat} {D:List Deferred} {L:List (Nat×Value)} {a:Act} {o:Oper}
theorem yQ{u x:Operand}{t e:TypeId}{i i':bK}{b m j p q:Nat}{k:IntKind}{z:Int}(d:dh n D L a)(g:o.op=.indexAddr t u x)(f:iq P T)(I:T.lookup t=some i)(J:i.desc=.array m e)(r:T.lookup e=some i')(hu:aJ L u=some (.pointer (some ⟨b,p,none⟩)))(an:aJ L x=some (.int k z))(bF:z=(j:Int))(h:j<m)(l:p+j * i'.size=q):fX P o a (.pointer (some ⟨b,q,none⟩)):=λw=>by subst bF;subst l;have c:=(f _ _ I).1;rw[J]at c;have s:=bK.run_sizeOf (f _ _ r);simp[execOp,g,d.aJ hu,d.aJ an,Instr.indexAt,Instr.sureAddr,asIntOf,run_underlying c,s,Addr.add_lit,h]
end
end
section
def nth{α:Type}:List α->Nat->Option α
 |[],_=>none
 |x::_,0=>some x
 |_::r,n+1=>nth r n
def sl:dT->Nat->Nat->Option dT
 |_::r,o+1,n=>sl r o n
 |_,0,0=>some []
 |x::r,0,n+1=>match sl r 0 n with
  |some l=>some (x::l)
  |none=>none
 |[],_,_=>none
def mP:(g:aV)->g.D->Nat->Option bs
 |.int k,x,0=>some (.val (.int k x))
 |.bool,x,0=>some (.val (.bool x))
 |.str,x,0=>some (.str x)
 |.aI g,x,0=>some (.bJ g x none)
 |.ie g,x,0=>some (.bJ g x (some (length x)))
 |.fn,none,0=>some (.val .nilFunc)
 |.fn,some f,0=>some (.fn f [])
 |.pair g h,x,o=>match blt o g.size with
  |true=>mP g x.1 o
  |false=>mP h x.2 (o-g.size)
 |_,_,_=>none
def pB(g:aV)(x:g.D):Nat->Nat->Option dT
 |_,0=>some []
 |o,n+1=>match mP g x o,pB g x (o+1) n with
  |some c,some l=>some (c::l)
  |_,_=>none
def Part(vs us:bY)(o n:Nat):Prop:=us.length=n/\∀j u,us[j]?=some u->vs[o+j]?=some u
section
variable {env:Nat->Loc} {B:Nat->Prop} {w:World}
theorem cZ.nth:∀ {cs:dT} {vs:bY} {o:Nat} {c:bs},cZ env B w cs vs->nth cs o=some c->∃v,vs[o]?=some v/\dN env B w c v
 |[],_,_,_,_,h=>by cases h
 |c'::cs,vs,0,c,⟨v,r,e,I,_⟩,h=>by cases h;subst e;exact⟨v,rfl,I⟩
 |c'::cs,vs,o+1,c,⟨v,r,e,_,J⟩,h=>by
  obtain⟨u,ag,a⟩:=cZ.nth J h;subst e;exact⟨u,ag,a⟩
theorem cZ.length:∀ {cs:dT} {vs:bY},cZ env B w cs vs->vs.length=cs.length
 |[],_,h=>by rw[show _=[] from h];rfl
 |_::_,_,⟨v,r,e,_,J⟩=>by rw[e,length_cons,length_cons,cZ.length J]
theorem cZ.cut:∀ {cs:dT} {vs:bY} {o n:Nat} {aL:dT},cZ env B w cs vs->sl cs o n=some aL->∃us,Part vs us o n/\cZ env B w aL us
 |c::cs,vs,o+1,n,aL,⟨v,r,e,_,J⟩,h=>by
  obtain⟨us,⟨ag,d⟩,b⟩:=cZ.cut J (by simpa [sl] using h);subst e;exact⟨us,⟨ag,λj u a=>by rw[show o+1+j=(o+j)+1 by omega,getElem?_cons_succ];exact d j u a⟩,b⟩
 |[],vs,0,0,aL,I,h=>by
  simp only[sl,Option.some.injEq]at h;subst h;exact⟨[],⟨rfl,λj u a=>by simp at a⟩,rfl⟩
 |c::cs,vs,0,0,aL,I,h=>by
  simp only[sl,Option.some.injEq]at h;subst h;exact⟨[],⟨rfl,λj u a=>by simp at a⟩,rfl⟩
 |c::cs,vs,0,n+1,aL,⟨v,r,e,I,J⟩,h=>by
  simp only[sl]at h
  split at h
  ·rename_i l ah
   cases h;obtain⟨us,⟨ag,d⟩,b⟩:=cZ.cut J ah;subst e;refine⟨v::us,⟨by rw[length_cons,ag],λj u a=>?_⟩,v,us,rfl,I,b⟩;cases j with
   |zero=>simpa using a
   |succ j=>
    exact d j u (by simpa using a)
  ·cases h
 |[],_,0,_+1,_,_,h=>by simp[sl]at h
 |[],_,_+1,_,_,_,h=>by simp[sl]at h
theorem bN.cell:∀ {g:aV} {x:g.D} {vs:bY} {o:Nat} {c:bs},bN B w g x vs->mP g x o=some c->∃v,vs[o]?=some v/\dN env B w c v
 |.int k,x,vs,0,c,aC,h=>by cases h;rw[show vs=[_] from aC];exact⟨_,rfl,rfl⟩
 |.bool,x,vs,0,c,aC,h=>by cases h;rw[show vs=[_] from aC];exact⟨_,rfl,rfl⟩
 |.str,x,vs,0,c,aC,h=>by cases h;rw[show vs=[_] from aC];exact⟨_,rfl,rfl⟩
 |.aI g,x,vs,0,c,⟨A,k,xs,e,I,J,ag,a⟩,h=>by cases h;rw[e];exact⟨_,rfl,A,k,xs,rfl,I,J,(λ_ U=>by cases U),ag,a⟩
 |.ie g,x,vs,0,c,⟨A,xs,e,J,ag,a⟩,h=>by cases h;rw[e];exact⟨_,rfl,A,_,xs,rfl,le_refl _,J,(λ_ U=>by cases U;rfl),ag,a⟩
 |.pair g h,x,vs,o,c,⟨i,j,e,I,J⟩,U=>by
  simp only[mP]at U;have ah:=bN.length I
  split at U
  ·rename_i ab
   have b:=dS ab;obtain⟨v,ag,a⟩:=bN.cell I U;exact⟨v,by rw[e,List.getElem?_append_left (by omega)];exact ag,a⟩
  ·rename_i ab
   have d:¬o<g.size:=λb=>by
    have:blt o g.size=true:=Nat.ble_eq_true_of_le b
    rw[this]at ab;cases ab
   obtain⟨v,ag,a⟩:=bN.cell J U;exact⟨v,by rw[e,List.getElem?_append_right (by omega),ah];exact ag,a⟩
 |.int _,_,_,_+1,_,_,h=>by simp[mP]at h
 |.bool,_,_,_+1,_,_,h=>by simp[mP]at h
 |.str,_,_,_+1,_,_,h=>by simp[mP]at h
 |.aI _,_,_,_+1,_,_,h=>by simp[mP]at h
 |.ie _,_,_,_+1,_,_,h=>by simp[mP]at h
 |.fn,none,vs,0,c,aC,h=>by cases h;rw[show vs=[_] from aC];exact⟨_,rfl,rfl⟩
 |.fn,some f,vs,0,c,aC,h=>by cases h;rw[show vs=[_] from aC];exact⟨_,rfl,[],rfl,rfl⟩
 |.fn,none,_,_+1,_,_,h=>by simp[mP]at h
 |.fn,some _,_,_+1,_,_,h=>by simp[mP]at h
 |.unit,_,_,_,_,_,h=>by simp[mP]at h
theorem bN.cells{g:aV}{x:g.D}{vs:bY}(aC:bN B w g x vs):∀ {n o:Nat} {aL:dT},pB g x o n=some aL->∃us,Part vs us o n/\cZ env B w aL us
 |0,o,aL,h=>by
  simp only[pB,Option.some.injEq]at h;subst h;exact⟨[],⟨rfl,λj u a=>by simp at a⟩,rfl⟩
 |n+1,o,aL,h=>by
  simp only[pB]at h
  split at h
  ·rename_i c l U ah
   cases h;obtain⟨v,I,J⟩:=bN.cell aC U;obtain⟨us,⟨ag,d⟩,b⟩:=bN.cells aC ah;refine⟨v::us,⟨by rw[length_cons,ag],λj u a=>?_⟩,v,us,rfl,J,b⟩;cases j with
   |zero=>simp at a;subst a;exact I
   |succ j=>
    rw[show o+(j+1)=o+1+j by omega];exact d j u (by simpa using a)
  ·cases h
end
def EB(X:bz)(st:aQ)(t:TypeId)(x:bp):Option (Bool×bp):=
 match X.aY.find t with
 |none=>none
 |some bB=>match mN bB.aK.desc with
  |false=>match x with
   |.c (.ptr id o)=>match bj st.H id with
    |some (.cells _ cs)=>match nth cs o with
     |some c=>some (true,.c c)
     |none=>none
    |_=>none
   |.c (.fg id a i o)=>match bj st.H id with
    |some (.row _ g l _)=>match beq a g.size,mP g (l.getD i g.zero) o with
     |true,some c=>some (decide (i<l.length),.c c)
     |_,_=>none
    |_=>none
   |.c (.gb g x o)=>match mP g x o with
    |some c=>some (true,.c c)
    |none=>none
   |_=>none
  |true=>match x with
   |.c (.ptr id o)=>match bj st.H id with
    |some (.cells _ cs)=>match sl cs o bB.aK.size with
     |some c=>some (true,.agg c)
     |none=>none
    |_=>none
   |.c (.fg id a i o)=>match bj st.H id with
    |some (.row _ g l _)=>match beq a g.size,pB g (l.getD i g.zero) o bB.aK.size with
     |true,some c=>some (decide (i<l.length),.agg c)
     |_,_=>none
    |_=>none
   |.c (.gb g x o)=>match pB g x o bB.aK.size with
    |some c=>some (true,.agg c)
    |none=>none
   |_=>none
section
variable {X:bz} {R:Nat->Prop} {W:World} {aD:fk} {n:Nat} {aq:bX} {env:Nat->Loc} {B:Nat->Prop} {ai:World} {H:cI} {st:aQ} {a:Act} {w b6:World} {o:Oper}
theorem j5.more{H H2:cI}{c:bo}{K:bo->cI}(h:j5 H c K):j5 (H++H2) c (λz=>K z++H2):=by
 obtain⟨A,Y,I,J⟩:=h;exact⟨A,Y++H2,by rw[I];simp,by rw[J];funext z;simp⟩
theorem yR{t:TypeId}{i:bK}{x:Operand}{b p:Nat}{v:Value}{D:List Deferred}{L:List (Nat×Value)}(d:dh n D L a)(c:o.op=.load t x)(hi:bK.ok X.P t i)(J:mN i.desc=false)(an:Go.Proofs.YtijeenjclhajhaaGreatDoor.aJ L x=some (.pointer (some ⟨b,p,none⟩)))(U:w.cell? ⟨b,p,none⟩=some v):(execOp a.eval o).run X.P w=.ok (.value v) w:=by
 simp[execOp,c,d.aJ an,Instr.loadAt,Instr.sureAddr,loadVar,bK.A2 hi,J,U]
theorem Jv{t:TypeId}{i:bK}{x:Operand}{b p:Nat}{vs:bY}{D:List Deferred}{L:List (Nat×Value)}(d:dh n D L a)(c:o.op=.load t x)(hi:bK.ok X.P t i)(J:mN i.desc=true)(an:Go.Proofs.YtijeenjclhajhaaGreatDoor.aJ L x=some (.pointer (some ⟨b,p,none⟩)))(ah:vs.length=i.size)(U:∀j v,vs[j]?=some v->w.cell? ⟨b,p+j,none⟩=some v):(execOp a.eval o).run X.P w=.ok (.value (.agg vs.toArray)) w:=by
 have:=Z2 hi J ah U
 simp[execOp,c,d.aJ an,Instr.loadAt,Instr.sureAddr,this]
theorem Jw{b p:Nat}{v:Value}(ab:B b)(U:ai.cell? ⟨b,p,none⟩=some v)(a:bT (λk=>R k\/B k) ai H w):w.cell? ⟨b,p,none⟩=some v:=by
 rw[a.below.cell (.inr ab)];exact U
theorem Qj(h:bM X R W aD n aq env B ai H st a b6){id:Nat}{t:TypeId}{g:aV}{l:List g.D}{cap:Option Nat}(ah:bj st.H id=some (.row t g l cap)){i:Nat}(hi:i<l.length){b c m:Nat}(he:env id=.row (some ⟨b,0,none⟩) c m) :
  ∃vs,bN B ai g (l.getD i g.zero) vs/\∀w,bT (λk=>R k\/B k) ai (H++aq.map dB) w->∀q v,vs[q]?=some v->w.cell? ⟨b,i * g.size+q,none⟩=some v:=by
 obtain⟨eQ,K,⟨A,k,xs,e,rfl,aC,_⟩,j⟩:=h.heap.gQ ah;rw[he]at e;cases e;have an:l[i]?=some (l.getD i g.zero):=by rw[List.getD_eq_getElem?_getD,getElem?_eq_getElem hi];rfl
 have I:=Flat.get (λ_ _=>bN.length) aC an;refine⟨_,I,λw f q v d=>?_⟩;have o:gq w (λk=>R k\/B k) t g.size (some ⟨b,0,none⟩) c l.length xs:=f.ok _ j.more.mem;rw[getElem?_take]at d
 split at d
 ·rename_i p
  rw[getElem?_drop]at d;have hbound:i * g.size+q<l.length * g.size:=by
   have J:(i+1) * g.size<=l.length * g.size:=mul_le_mul_right _ hi;rw[add_mul]at J;omega
  rw[o.cells rfl _ hbound];exact d
 ·cases d
theorem Qk(L:X.aY.ok X.P){t:TypeId}{u:Operand}{g:Bool}{x sa:bp}(d:o.op=.load t u)(hu:bx X st.L u=some (g,x))(I:g=true)(ah:EB X st t x=some (true,sa)):jG X st o sa:=by
 intro R W aD n aq env B ai H a b6 h;obtain⟨v,r,y⟩:=h.aJ hu I;have s:=h.bW;unfold EB at ah
 split at ah
 ·cases ah
 ·rename_i bB dm
  have hi:=(cb.get L dm).aK
  split at ah
  ·rename_i J
   split at ah
   ·split at ah
    ·rename_i q
     split at ah
     ·rename_i ba
      cases ah;obtain⟨b,he,rfl⟩:=y;obtain⟨eQ,K,⟨b',vs,A,rfl,G⟩,aC⟩:=h.heap.gQ q;rw[he]at A;cases A;obtain⟨v,ag,f⟩:=G.nth ba;exact⟨v,f,λw i=>have e:=i (by rw[d];rfl);yR s d hi J r (by rw[Jj e aC.more];exact ag)⟩
     ·cases ah
    ·cases ah
   ·split at ah
    ·rename_i q
     split at ah
     ·rename_i E ba
      simp only[Option.some.injEq,Prod.mk.injEq,decide_eq_true_eq]at ah;obtain⟨D,rfl⟩:=ah;obtain⟨b,c,m,he,rfl⟩:=y;obtain⟨vs,ag,f⟩:=Qj h q D he;obtain⟨v,k,l⟩:=bN.cell ag ba;have F:=eq_of_beq_eq_true E;subst F;exact⟨v,l,λw i=>have e:=i (by rw[d];rfl);yR s d hi J r (f w e _ _ k)⟩
     ·cases ah
    ·cases ah
   ·split at ah
    ·rename_i ba
     cases ah;obtain⟨b,p,rfl,ab,vs,ag,f⟩:=y;obtain⟨v,k,l⟩:=bN.cell ag ba;exact⟨v,l,λw i=>have e:=i (by rw[d];rfl);yR s d hi J r (Jw ab (f _ _ k) e)⟩
    ·cases ah
   ·cases ah
  ·rename_i J
   split at ah
   ·split at ah
    ·rename_i q
     split at ah
     ·rename_i ba
      cases ah;obtain⟨b,he,rfl⟩:=y;obtain⟨eQ,K,⟨b',vs,A,rfl,G⟩,aC⟩:=h.heap.gQ q;rw[he]at A;cases A;obtain⟨us,⟨ag,f⟩,k⟩:=G.cut ba;exact⟨_,⟨us,rfl,k⟩,λw i=>have e:=i (by rw[d];rfl);Jv s d hi J r ag (λj v z=>by rw[Jj e aC.more];exact f j v z)⟩
     ·cases ah
    ·cases ah
   ·split at ah
    ·rename_i q
     split at ah
     ·rename_i E ba
      simp only[Option.some.injEq,Prod.mk.injEq,decide_eq_true_eq]at ah;obtain⟨D,rfl⟩:=ah;obtain⟨b,c,m,he,rfl⟩:=y;obtain⟨vs,ag,f⟩:=Qj h q D he;obtain⟨us,⟨k,l⟩,C⟩:=bN.cells ag ba;have F:=eq_of_beq_eq_true E;subst F;exact⟨_,⟨us,rfl,C⟩,λw i=>have e:=i (by rw[d];rfl);Jv s d hi J r k (λj v z=>by rw[add_assoc];exact f w e _ _ (l j v z))⟩
     ·cases ah
    ·cases ah
   ·split at ah
    ·rename_i ba
     cases ah;obtain⟨b,p,rfl,ab,vs,ag,f⟩:=y;obtain⟨us,⟨k,l⟩,C⟩:=bN.cells ag ba;exact⟨_,⟨us,rfl,C⟩,λw i=>have e:=i (by rw[d];rfl);Jv s d hi J r k (λj v z=>by rw[add_assoc];exact Jw ab (f _ _ (l j v z)) e)⟩
    ·cases ah
   ·cases ah
end
end
section
def Jx(X:bz)(t:TypeId)(x:bp)(k:Nat):Option (Bool×bp):=
 match X.aY.find t with
 |some ⟨⟨.struct du,_,_,_⟩,_⟩=>match nth du.toList k with
  |some f=>match X.aY.find f.type with
   |some bB=>match blt 0 bB.aK.size,x with
    |true,.c (.ptr id o)=>some (true,.c (.ptr id (o+f.offset)))
    |true,.c (.fg id a i o)=>some (true,.c (.fg id a i (o+f.offset)))
    |true,.c (.gb g x o)=>some (true,.c (.gb g x (o+f.offset)))
    |_,_=>none
   |none=>none
  |none=>none
 |_=>none
def aW(z:Int)(n:Nat):Bool:=decide (0<=z)&&decide (z<(n:Int))
def Jy(X:bz)(st:aQ)(t:TypeId)(x:bp)(i:bp):Option (Bool×bp):=
 match X.aY.find t with
 |some ⟨⟨.slice e,_,_,_⟩,_⟩=>match X.aY.find e with
  |some bB=>match x,i with
   |.c (.bJ g l _),.c (.val (.int _ z))=>match beq g.size bB.aK.size with
    |true=>some (aW z l.length,.c (.gb g (l.getD z.toNat g.zero) 0))
    |false=>none
   |.c (.aI id),.c (.val (.int _ z))=>match bj st.H id with
    |some (.row _ g l _)=>match beq g.size bB.aK.size with
     |true=>some (aW z l.length,.c (.fg id g.size z.toNat 0))
     |false=>none
    |some (.cW _ _ _ l _ _ _)=>match beq 1 bB.aK.size with
     |true=>some (aW z l.length,.c (.fg id 1 z.toNat 0))
     |false=>none
    |some (.cf _ _ _ l _ _)=>match beq 1 bB.aK.size with
     |true=>some (aW z l.length,.c (.fg id 1 z.toNat 0))
     |false=>none
    |_=>none
   |_,_=>none
  |none=>none
 |some ⟨⟨.array m e,_,_,_⟩,_⟩=>match X.aY.find e with
  |some bB=>match x,i with
   |.c (.ptr id o),.c (.val (.int _ z))=>some (aW z m,.c (.ptr id (o+z.toNat * bB.aK.size)))
   |.c (.gb g x o),.c (.val (.int _ z))=>some (aW z m,.c (.gb g x (o+z.toNat * bB.aK.size)))
   |.c (.par g l),.c (.val (.int _ z))=>match beq g.size bB.aK.size with
    |true=>some (aW z m&&aW z l.length,.c (.gb g (l.getD z.toNat g.zero) 0))
    |false=>none
   |.c (.fg id a 0 0),.c (.val (.int _ z))=>match beq a bB.aK.size with
    |true=>some (aW z m,.c (.fg id a z.toNat 0))
    |false=>none
   |.c (.iF id o),.c (.val (.int _ z))=>match beq bB.aK.size 1 with
    |true=>some (aW z m,.c (.fg id 1 (o+z.toNat) 0))
    |false=>some (aW z m,.c (.iF id (o+z.toNat * bB.aK.size)))
   |_,_=>none
  |none=>none
 |_=>none
def Jz:Option Nat->Nat->Option Nat
 |some c,k=>some (c-k)
 |none,_=>none
def yS(X:bz)(t:TypeId)(x:bp)(lo hi a:Option bp):Option (Bool×bp):=
 match X.aY.find t with
 |some ⟨⟨.slice e,_,_,_⟩,_⟩=>match X.aY.find e with
  |some bB=>match x with
   |.c (.bJ g l cap)=>match beq g.size bB.aK.size with
    |true=>match lo,hi,a with
     |some (.c (.val (.int _ z))),none,none=>some (decide (0<=z)&&decide (z<=(l.length:Int)),.c (.bJ g (l.drop z.toNat) (Jz cap z.toNat)))
     |none,some (.c (.val (.int _ y))),none=>some (decide (0<=y)&&decide (y<=(l.length:Int)),.c (.bJ g (l.take y.toNat) cap))
     |some (.c (.val (.int _ z))),some (.c (.val (.int _ y))),none=>some (decide (0<=z)&&decide (z<=y)&&decide (y<=(l.length:Int)),.c (.bJ g ((l.take y.toNat).drop z.toNat) (Jz cap z.toNat)))
     |none,some (.c (.val (.int _ y))),some (.c (.val (.int _ q)))=>some (decide (0<=y)&&decide (y<=q)&&decide (q<=(l.length:Int)),.c (.bJ g (l.take y.toNat) (some q.toNat)))
     |_,_,_=>none
    |false=>none
   |_=>none
  |none=>none
 |_=>none
def JA(X:bz)(st:aQ)(t:TypeId)(x:bp):Option (Bool×bp):=
 match X.aY.find t with
 |some ⟨⟨.slice _,_,_,_⟩,_⟩=>match x with
  |.c (.bJ _ l _)=>some (true,.c (.val (.int .i64 (l.length:Int))))
  |.c (.aI id)=>match bj st.H id with
   |some (.row _ _ l _)=>some (true,.c (.val (.int .i64 (l.length:Int))))
   |some (.cW _ _ _ l _ _ _)=>some (true,.c (.val (.int .i64 (l.length:Int))))
   |some (.hl _ _ l)=>some (true,.c (.val (.int .i64 (l.length:Int))))
   |some (.cf _ _ _ l _ _)=>some (true,.c (.val (.int .i64 (l.length:Int))))
   |_=>none
  |.c (.val (.slice none 0 0))=>some (true,.c (.val (.int .i64 0)))
  |_=>none
 |some ⟨⟨.string,_,_,_⟩,_⟩=>match x with
  |.c (.str s)=>some (true,.c (.val (.int .i64 (s.length:Int))))
  |_=>none
 |_=>none
def JB(X:bz)(t:TypeId)(x:bp):Option (Bool×bp):=
 match X.aY.find t with
 |some ⟨⟨.slice _,_,_,_⟩,_⟩=>match x with
  |.c (.bJ _ _ c)=>some (c.isSome,.c (.val (.int .i64 ((c.getD 0:Nat):Int))))
  |.c (.val (.slice none 0 0))=>some (true,.c (.val (.int .i64 0)))
  |_=>none
 |_=>none
def JC(X:bz)(t a:TypeId)(x:bp):Option (Bool×bp):=
 match X.aY.find t,X.aY.find a with
 |some _,some ⟨⟨.int k',_,_,_⟩,_⟩=>match x with
  |.c (.val (.int _ z))=>match oQ k' z with
   |(c,r)=>some (c,.c (.val (.int k' r)))
  |_=>none
 |some _,some ⟨⟨.string,_,_,_⟩,_⟩=>match x with
  |.c (.str s)=>some (true,.c (.str s))
  |_=>none
 |_,_=>none
section
variable {X:bz} {R:Nat->Prop} {W:World} {aD:fk} {n:Nat} {aq:bX} {env:Nat->Loc} {B:Nat->Prop} {ai:World} {H:cI} {st:aQ} {a:Act} {w b6:World} {o:Oper}
theorem JD{α:Type}:∀ {l:List α} {k:Nat} {x:α},nth l k=some x->l[k]?=some x
 |[],_,_,h=>by cases h
 |_::_,0,_,h=>h
 |_::r,k+1,_,h=>by rw[getElem?_cons_succ];exact JD h
theorem aaW(y:X.aY.ok X.P){t:TypeId}{u:Operand}{g:Bool}{x sa:bp}{k:Nat}(e:o.op=.fieldAddr t u k)(hu:bx X st.L u=some (g,x))(A:g=true)(ah:Jx X t x k=some (true,sa)):jG X st o sa:=by
 intro R W aD n aq env B ai H a b6 h;obtain⟨v,i,q⟩:=h.aJ hu A;have j:=h.bW;unfold Jx at ah
 split at ah
 ·rename_i du s b z D aC
  split at ah
  ·rename_i f aa
   split at ah
   ·rename_i bB dm
    obtain⟨T,r,I,l⟩:=n4 (cb.get y aC).aK (cb.get y dm).aK;have ag:du[k]?=some ⟨f.name,f.type,f.offset,f.embedded,f.tag,f.pkgPath,f.byteOffset⟩:=by have:=JD aa;simpa using this
    split at ah
    ·rename_i d
     cases ah;obtain⟨b,he,rfl⟩:=q;exact⟨_,⟨b,he,rfl⟩,λw _=>Jh j e r I rfl ag l d i w⟩
    ·rename_i d
     cases ah;obtain⟨b,c,m,he,rfl⟩:=q;exact⟨_,⟨b,c,m,he,rfl⟩,λw _=>by have:=Jh j e r I rfl ag l d i w;rw[add_assoc]at this;exact this⟩
    ·rename_i d
     cases ah;obtain⟨b,p,rfl,C⟩:=q;exact⟨_,⟨b,p,rfl,C⟩,λw _=>by have:=Jh j e r I rfl ag l d i w;rw[add_assoc]at this;exact this⟩
    ·cases ah
   ·cases ah
  ·cases ah
 ·cases ah
theorem n7{z:Int}{n:Nat}(h:aW z n=true):∃j:Nat,z=(j:Int)/\j<n/\z.toNat=j:=by
 simp only[aW,and_eq_true,decide_eq_true_eq]at h;exact⟨z.toNat,by omega,by omega,rfl⟩
theorem Ql(g:aV)(l:List g.D){xs:bY}(aC:Flat (bN B ai g) l xs){b p j:Nat}(ab:B b)(U:∀i u,xs[i]?=some u->ai.cell? ⟨b,p+i,none⟩=some u)(c:j<l.length):At B ai g (l.getD j g.zero) b (p+j * g.size):=by
 have an:l[j]?=some (l.getD j g.zero):=by rw[List.getD_eq_getElem?_getD,getElem?_eq_getElem c];rfl
 have I:=Flat.get (λ_ _=>bN.length) aC an;refine⟨ab,_,I,λq v a=>?_⟩;rw[getElem?_take]at a
 split at a
 ·rw[getElem?_drop]at a
  rw[add_assoc];exact U _ _ a
 ·cases a
theorem aaX(U:X.aY.ok X.P){t:TypeId}{u y:Operand}{g g':Bool}{x i sa:bp}(F:o.op=.indexAddr t u y)(hu:bx X st.L u=some (g,x))(af:g=true)(aG:bx X st.L y=some (g',i))(aj:g'=true)(ah:Jy X st t x i=some (true,sa)):jG X st o sa:=by
 intro R W aD n aq env B ai H a b6 h;obtain⟨v,G,L⟩:=h.aJ hu af;obtain⟨M,f,N⟩:=h.aJ aG aj;have J:=h.bW;unfold Jy at ah
 split at ah
 ·rename_i e s b z al aC
  split at ah
  ·rename_i bB dm
   obtain⟨T,D,I,C⟩:=n4 (cb.get U aC).aK (cb.get U dm).aK
   split at ah
   ·rename_i g l cap k z
    split at ah
    ·rename_i r
     simp only[Option.some.injEq,Prod.mk.injEq]at ah;obtain⟨ab,rfl⟩:=ah;obtain⟨j,rfl,d,E⟩:=n7 ab;obtain⟨A,c,xs,rfl,aw,av,_,Q,aa⟩:=L;rw[show M=_ from N]at f;have ac:0<l.length:=by omega
     obtain⟨b,p,rfl,Y⟩:=aa.1.2 ac;have V:=aa.2 b p ac rfl;refine⟨_,⟨b,p+j * g.size,rfl,Ql g l Q V Y d⟩,λw _=>?_⟩
     have:=Es J F D I rfl C G f rfl d w
     rw[<- eq_of_beq_eq_true r]at this;exact this
    ·cases ah
   ·rename_i id k z
    split at ah
    ·rename_i ad g l cap P
     split at ah
     ·rename_i r
      simp only[Option.some.injEq,Prod.mk.injEq]at ah;obtain⟨ab,rfl⟩:=ah;obtain⟨j,rfl,d,E⟩:=n7 ab;obtain⟨A,c,m,he,rfl⟩:=L;rw[show M=_ from N]at f;obtain⟨eQ,K,⟨Z,k',xs,O,rfl,Q,_⟩,S⟩:=h.heap.gQ P;rw[he]at O;cases O;obtain⟨b,rfl⟩:=h.aT.rowAt S.more (by omega);refine⟨_,⟨b,_,_,he,rfl⟩,λw _=>?_⟩
      have:=Es J F D I rfl C G f rfl d w
      rw[<- eq_of_beq_eq_true r,zero_add]at this;exact this
     ·cases ah
    ·rename_i ad g l cap ag au P
     split at ah
     ·rename_i r
      simp only[Option.some.injEq,Prod.mk.injEq]at ah;obtain⟨ab,rfl⟩:=ah;obtain⟨j,rfl,d,E⟩:=n7 ab;obtain⟨A,c,m,he,rfl⟩:=L;rw[show M=_ from N]at f;obtain⟨eQ,K,⟨Z,k',ys,ar,cK,az,O,rfl,Q,_⟩,S⟩:=h.heap.gQ P;rw[he]at O;cases O;obtain⟨b,rfl⟩:=h.aT.rowAt S.more (by omega);refine⟨_,⟨b,_,_,he,rfl⟩,λw _=>?_⟩
      have:=Es J F D I rfl C G f rfl d w
      rw[<- eq_of_beq_eq_true r,zero_add]at this;exact this
     ·cases ah
    ·rename_i ad aA g l cap ag P
     split at ah
     ·rename_i r
      simp only[Option.some.injEq,Prod.mk.injEq]at ah;obtain⟨ab,rfl⟩:=ah;obtain⟨j,rfl,d,E⟩:=n7 ab;obtain⟨A,c,m,he,rfl⟩:=L;rw[show M=_ from N]at f;obtain⟨eQ,K,⟨Z,k',ys,ap,a6,O,rfl,_⟩,S⟩:=h.heap.gQ P;rw[he]at O;cases O;obtain⟨b,rfl⟩:=gq.at ((h.aT.ok _ S.more.mem).1 _ mem_cons_self) (by show 0<l.length;omega);refine⟨_,⟨b,_,_,he,rfl⟩,λw _=>?_⟩
      have:=Es J F D I rfl C G f rfl d w
      rw[<- eq_of_beq_eq_true r,zero_add]at this;exact this
     ·cases ah
    ·cases ah
   ·cases ah
  ·cases ah
 ·rename_i m e s b z al aC
  split at ah
  ·rename_i bB dm
   obtain⟨T,D,I,C⟩:=n4 (cb.get U aC).aK (cb.get U dm).aK
   split at ah
   ·rename_i id p k z
    simp only[Option.some.injEq,Prod.mk.injEq]at ah;obtain⟨ab,rfl⟩:=ah;obtain⟨j,rfl,d,E⟩:=n7 ab;obtain⟨b,he,rfl⟩:=L;rw[show M=_ from N]at f;rw[E];exact⟨_,⟨b,he,rfl⟩,λw _=>yQ J F D I rfl C G f rfl d rfl w⟩
   ·rename_i g x p k z
    simp only[Option.some.injEq,Prod.mk.injEq]at ah;obtain⟨ab,rfl⟩:=ah;obtain⟨j,rfl,d,E⟩:=n7 ab;obtain⟨b,q,rfl,ak⟩:=L;rw[show M=_ from N]at f;rw[E];exact⟨_,⟨b,q,rfl,ak⟩,λw _=>yQ J F D I rfl C G f rfl d (by omega) w⟩
   ·rename_i g l k z
    split at ah
    ·rename_i r
     simp only[Option.some.injEq,Prod.mk.injEq,and_eq_true]at ah;obtain⟨⟨am,ab⟩,rfl⟩:=ah;obtain⟨j,rfl,d,E⟩:=n7 ab;obtain⟨ay,an,ax,_⟩:=n7 am;obtain⟨b,p,vs,rfl,V,Q,Y⟩:=L;rw[show M=_ from N]at f;refine⟨_,⟨b,p+j * g.size,rfl,Ql g l Q V Y d⟩,λw _=>?_⟩;exact yQ J F D I rfl C G f rfl (by omega) (by rw[eq_of_beq_eq_true r];rfl) w
    ·cases ah
   ·rename_i id ao k z
    split at ah
    ·rename_i r
     simp only[Option.some.injEq,Prod.mk.injEq]at ah;obtain⟨ab,rfl⟩:=ah;obtain⟨j,rfl,d,E⟩:=n7 ab;obtain⟨b,c,q,he,rfl⟩:=L;rw[show M=_ from N]at f;exact⟨_,⟨b,c,q,he,rfl⟩,λw _=>yQ J F D I rfl C G f rfl d (by rw[eq_of_beq_eq_true r];simp) w⟩
    ·cases ah
   ·rename_i id p k z
    split at ah
    ·rename_i r
     simp only[Option.some.injEq,Prod.mk.injEq]at ah;obtain⟨ab,rfl⟩:=ah;obtain⟨j,rfl,d,E⟩:=n7 ab;obtain⟨b,c,q,he,rfl⟩:=L;rw[show M=_ from N]at f;have ae:=eq_of_beq_eq_true r;exact⟨_,⟨b,c,q,he,rfl⟩,λw _=>yQ J F D I rfl C G f rfl d (by rw[ae];omega) w⟩
    ·simp only[Option.some.injEq,Prod.mk.injEq]at ah
     obtain⟨ab,rfl⟩:=ah;obtain⟨j,rfl,d,E⟩:=n7 ab;obtain⟨b,c,q,he,rfl⟩:=L;rw[show M=_ from N]at f;exact⟨_,⟨b,c,q,he,rfl⟩,λw _=>yQ J F D I rfl C G f rfl d rfl w⟩
   ·cases ah
  ·cases ah
 ·cases ah
theorem Flat.cut{g:aV}{l:List g.D}{xs:bY}(aC:Flat (bN B ai g) l xs)(lo hi:Nat):Flat (bN B ai g) ((l.take hi).drop lo) ((xs.drop (lo * g.size)).take ((hi-lo) * g.size)):=by
 have I:=(Flat.split (λ_ _=>bN.length) hi aC).1;have J:=(Flat.split (λ_ _=>bN.length) lo I).2;have e:(xs.take (hi * g.size)).drop (lo * g.size)=(xs.drop (lo * g.size)).take ((hi-lo) * g.size):=by
  rw[drop_take,Nat.sub_mul]
 rw[e]at J;exact J
theorem pz.cut{A:Option Addr}{m size l h c:Nat}{xs:bY}(a:pz B ai A m size xs)(ah:l<=h)(d:h<=m)(U:h<=c):pz B ai (kr A l size c) (h-l) size ((xs.drop (l * size)).take ((h-l) * size)):=by
 refine⟨a.1.cut ah d U,λb p ak e=>?_⟩;obtain⟨cL,f,rfl,_⟩:=a.1.2 (by omega);unfold kr at e
 split at e
 ·cases e;exact a.2 _ _ (by omega) rfl
 ·simp only[Option.map_some,Option.some.injEq,Addr.add_lit]at e
  cases e;exact a.2 _ _ (by omega) rfl
theorem Qn{g:aV}{l:List g.D}{A:Option Addr}{c:Nat}{xs:bY}{cap:Option Nat}(b:Flat (bN B ai g) l xs)(e:pz B ai A l.length g.size xs)(h:c<=maxLen)(lo hi q:Nat)(I:lo<=hi)(J:hi<=l.length)(ag:hi<=q)(f:q<=c)(d:∀k,cap=some k->q-lo=k) :
  dN env B ai (.bJ g ((l.take hi).drop lo) cap) (.slice (kr A lo g.size q) (hi-lo) (q-lo)):=by
 have a:((l.take hi).drop lo).length=hi-lo:=by simp;omega
 refine⟨_,q-lo,_,by rw[a],by rw[a];omega,by omega,d,b.cut lo hi,?_⟩;rw[a];exact e.cut I J ag
theorem EC(aj:X.aY.ok X.P){t:TypeId}{u:Operand}{lo hi M:Option Operand}{g:Bool}{x sa:bp}{N O P:Option bp}(f:o.op=.slice t u lo hi M)(hu:bx X st.L u=some (g,x))(am:g=true)(af:∀s,N=some s->∃y,lo=some y/\∃g',bx X st.L y=some (g',s)/\g'=true)(ag:N=none->lo=none)(Q:∀s,O=some s->∃y,hi=some y/\∃g',bx X st.L y=some (g',s)/\g'=true)(ap:O=none->hi=none)(an:∀s,P=some s->∃y,M=some y/\∃g',bx X st.L y=some (g',s)/\g'=true)(S:P=none->M=none)(ah:yS X t x N O P=some (true,sa)):jG X st o sa:=by
 intro R W aD n aq env B ai H a b6 h;obtain⟨v,F,ar⟩:=h.aJ hu am;have G:=h.bW;unfold yS at ah
 split at ah
 ·rename_i e s b z az aC
  split at ah
  ·rename_i bB dm
   obtain⟨T,K,I,J⟩:=n4 (cb.get aj aC).aK (cb.get aj dm).aK
   split at ah
   ·rename_i g l cap
    obtain⟨A,c,xs,rfl,av,ac,ab,L,C⟩:=ar
    split at ah
    ·rename_i au
     have al:=eq_of_beq_eq_true au
     split at ah
     ·rename_i k z
      simp only[Option.some.injEq,Prod.mk.injEq,and_eq_true,decide_eq_true_eq]at ah;obtain⟨⟨fm,jT⟩,rfl⟩:=ah;obtain⟨y,rfl,g',aG,i⟩:=af _ rfl;rw[ap rfl,S rfl]at f;obtain⟨j,d,m⟩:=h.aJ aG i;rw[show j=_ from m]at d;refine⟨_,?_,λw _=>PY G f K I rfl J F d (l:=z.toNat) (by omega) (by omega) w⟩;rw[<- al]
      have:=Qn (env:=env) (cap:=Jz cap z.toNat) L C ac z.toNat l.length c (by omega) (le_refl _) av (le_refl _) (by
       intro k aa;cases cap with
       |none=>cases aa
       |some c'=>have:=ab c' rfl;cases aa;rw[this])
      rw[List.take_length]at this;exact this
     ·rename_i k y
      simp only[Option.some.injEq,Prod.mk.injEq,and_eq_true,decide_eq_true_eq]at ah;obtain⟨⟨fm,jT⟩,rfl⟩:=ah;obtain⟨q,rfl,g',aG,i⟩:=Q _ rfl;rw[ag rfl,S rfl]at f;obtain⟨j,d,m⟩:=h.aJ aG i;rw[show j=_ from m]at d;refine⟨_,?_,λw _=>aao G f K I rfl J F d (h:=y.toNat) (by omega) (by omega) w⟩;have r:(l.take y.toNat).length=y.toNat:=by simp;omega
      have Z:=L.cut 0 y.toNat;have E:=C.1.cut (l:=0) (h:=y.toNat) (c:=c) (by omega) (by omega) (by omega);have ad:kr A 0 g.size c=A:=by
       unfold kr
       split
       ·rfl
       ·cases A with
        |none=>rfl
        |some aw=>simp[Addr.add]
      rw[ad]at E;refine⟨A,c,_,by rw[r],by rw[r];omega,ac,ab,by simpa using Z,?_⟩;rw[r];refine⟨by simpa using E,λb p ak e=>C.2 b p (by omega) e⟩
     ·rename_i k z k' y
      simp only[Option.some.injEq,Prod.mk.injEq,and_eq_true,decide_eq_true_eq]at ah;obtain⟨⟨⟨fm,jT⟩,jU⟩,rfl⟩:=ah;obtain⟨q,rfl,g',aG,i⟩:=af _ rfl;obtain⟨aA,rfl,ao,ae,U⟩:=Q _ rfl;rw[S rfl]at f;obtain⟨j,d,m⟩:=h.aJ aG i;rw[show j=_ from m]at d;obtain⟨V,D,Y⟩:=h.aJ ae U;rw[show V=_ from Y]at D;refine⟨_,?_,λw _=>aap G f K I rfl J F d D (l:=z.toNat) (h:=y.toNat) (by omega) (by omega) (by omega) (by omega) w⟩;rw[<- al];exact Qn (env:=env) L C ac z.toNat y.toNat c (by omega) (by omega) (by omega) (le_refl _) (by
       intro k aa;cases cap with
       |none=>cases aa
       |some c'=>have:=ab c' rfl;cases aa;rw[this])
     ·rename_i k y k' q
      simp only[Option.some.injEq,Prod.mk.injEq,and_eq_true,decide_eq_true_eq]at ah;obtain⟨⟨⟨fm,jT⟩,jU⟩,rfl⟩:=ah;obtain⟨ax,rfl,g',aG,i⟩:=Q _ rfl;obtain⟨ay,rfl,ao,ae,U⟩:=an _ rfl;rw[ag rfl]at f;obtain⟨j,d,m⟩:=h.aJ aG i;rw[show j=_ from m]at d;obtain⟨V,D,Y⟩:=h.aJ ae U;rw[show V=_ from Y]at D;refine⟨_,?_,λw _=>P9 G f K I rfl J F d D (h:=y.toNat) (q:=q.toNat) (by omega) (by omega) (by omega) (by omega) w⟩;have r:(l.take y.toNat).length=y.toNat:=by simp;omega
      have Z:=L.cut 0 y.toNat;have E:=C.1.cut (l:=0) (h:=y.toNat) (c:=c) (by omega) (by omega) (by omega);have ad:kr A 0 g.size c=A:=by
       unfold kr
       split
       ·rfl
       ·cases A with
        |none=>rfl
        |some aw=>simp[Addr.add]
      rw[ad]at E;refine⟨A,q.toNat,_,by rw[r],by rw[r];omega,by omega,(λ_ aa=>by cases aa;rfl),by simpa using Z,?_⟩;rw[r];refine⟨by simpa using E,λb p ak e=>C.2 b p (by omega) e⟩
     ·cases ah
    ·cases ah
   ·cases ah
  ·cases ah
 ·cases ah
end
end
def qm:dT->Nat->dT->Option dT
 |l,0,[]=>some l
 |_::l,0,v::vs=>match qm l 0 vs with
  |some r=>some (v::r)
  |none=>none
 |c::l,k+1,vs=>match qm l k vs with
  |some r=>some (c::r)
  |none=>none
 |[],_,_=>none
def bp.cells:bp->dT
 |.c x=>[x]
 |.agg cs=>cs
 |.arr g l=>replicate (l.length * g.size) .dead
def bs.live:bs->Bool
 |.dead=>false
 |.val v=>v.oneCell'
 |_=>true
def qn:dT->Bool
 |[]=>true
 |c::r=>c.live&&qn r
def fieldAt(X:bz):List Field->Nat->Option (Nat×Nat)
 |du,k=>match nth du k with
  |some f=>match X.aY.find f.type with
   |some bB=>some (f.offset,bB.aK.size)
   |none=>none
  |none=>none
def uT(X:bz)(L:c6)(pl:Nat->Option (Nat×Nat)):List (Nat×Operand)->Bool->dT->Option (Bool×dT)
 |[],c,z=>some (c,z)
 |(k,u)::r,c,z=>match pl k,bx X L u with
  |some (off,size),some (g,x)=>match beq x.cells.length size,qn x.cells,qm z off x.cells with
   |true,true,some a=>uT X L pl r (c&&g) a
   |_,_,_=>none
  |_,_=>none
def ED(X:bz):List Field->Bool
 |[]=>true
 |f::r=>(X.aY.find f.type).isSome&&ED X r
def JM(X:bz)(L:c6)(t:TypeId)(aB:List (Nat×Operand)):Option (Bool×bp):=
 match X.aY.find t with
 |some ⟨⟨.struct du,_,_,.agg z⟩,_⟩=>match ED X du.toList with
  |true=>match uT X L (fieldAt X du.toList) aB true (uS z.toList)with
   |some (c,r)=>some (c,.agg r)
   |none=>none
  |false=>none
 |some ⟨⟨.array _ e,_,_,.agg z⟩,_⟩=>match X.aY.find e with
  |some bB=>match uT X L (λi=>some (i * bB.aK.size,bB.aK.size)) aB true (uS z.toList)with
   |some (c,r)=>some (c,.agg r)
   |none=>none
  |none=>none
 |_=>none
def Bg(b:Bool):bp->bp->Option bp
 |.c (.val (.int k x)),.c (.val (.int k' y))=>match decide (k=k')with
  |true=>some (.c (.val (.int k (cond b x y))))
  |false=>none
 |.c (.val (.bool x)),.c (.val (.bool y))=>some (.c (.val (.bool (cond b x y))))
 |.c (.str x),.c (.str y)=>some (.c (.str (cond b x y)))
 |_,_=>none
def gV(X:bz)(L:c6):eA->Option eB
 |[]=>some []
 |u::r=>match bx X L u,gV X L r with
  |some (true,.c (.ptr id 0)),some l=>some (.id id::l)
  |some (true,.c (.gb g x 0)),some l=>some (.fr g x::l)
  |_,_=>none
def yT(isMax:Bool)(k:IntKind)(a:Int)(X:bz)(L:c6):eA->Bool->Option (Bool×bs)
 |[],c=>some (c,.val (.int k a))
 |u::r,c=>match bx X L u with
  |some (g,.c (.val (.int k' y)))=>match decide (k=k'),isMax with
   |true,true=>yT true k (if a<y then y else a) X L r (c&&g)
   |true,false=>yT false k (if y<a then y else a) X L r (c&&g)
   |false,_=>none
  |_=>none
def wJ(X:bz)(st:aQ):Op->Option (Bool×bp)
 |.move u=>bx X st.L u
 |.assign u=>bx X st.L u
 |.pick c u v=>match bx X st.L c,bx X st.L u,bx X st.L v with
  |some (m,.c (.val (.bool b))),some (Bh,x),some (gv,y)=>match Bg b x y with
   |some r=>some (m&&(!b || Bh)&&(b || gv),r)
   |none=>none
  |_,_,_=>none
 |.unOp .not _ u=>match bx X st.L u with
  |some (g,.c (.val (.bool b)))=>some (g,.c (.val (.bool (!b))))
  |_=>none
 |.unOp .neg _ u=>match bx X st.L u with
  |some (g,.c (.val (.int k x)))=>match oQ k (0-x)with
   |(c,z)=>some (g&&c,.c (.val (.int k z)))
  |_=>none
 |.binOp op t u v _=>match bx X st.L u,bx X st.L v with
  |some (g,x),some (g',y)=>match Ju X op t x y with
   |some (c,r)=>some (g&&g'&&c,.c r)
   |none=>none
  |_,_=>none
 |.load t u=>match bx X st.L u with
  |some (g,x)=>match EB X st t x with
   |some (c,r)=>some (g&&c,r)
   |none=>none
  |none=>none
 |.fieldAddr t u k=>match bx X st.L u with
  |some (g,x)=>match Jx X t x k with
   |some (c,r)=>some (g&&c,r)
   |none=>none
  |none=>none
 |.indexAddr t u v=>match bx X st.L u,bx X st.L v with
  |some (g,x),some (g',y)=>match Jy X st t x y with
   |some (c,r)=>some (g&&g'&&c,r)
   |none=>none
  |_,_=>none
 |.slice t u none none none=>none
 |.slice t u (some l) none none=>match bx X st.L u,bx X st.L l with
  |some (g,x),some (a,d)=>match yS X t x (some d) none none with
   |some (c,r)=>some (g&&a&&c,r)
   |none=>none
  |_,_=>none
 |.slice t u none (some l) none=>match bx X st.L u,bx X st.L l with
  |some (g,x),some (a,d)=>match yS X t x none (some d) none with
   |some (c,r)=>some (g&&a&&c,r)
   |none=>none
  |_,_=>none
 |.slice t u (some l) (some h) none=>match bx X st.L u,bx X st.L l,bx X st.L h with
  |some (g,x),some (a,d),some (g2,e)=>match yS X t x (some d) (some e) none with
   |some (c,r)=>some (g&&a&&g2&&c,r)
   |none=>none
  |_,_,_=>none
 |.slice t u none (some l) (some h)=>match bx X st.L u,bx X st.L l,bx X st.L h with
  |some (g,x),some (a,d),some (g2,e)=>match yS X t x none (some d) (some e)with
   |some (c,r)=>some (g&&a&&g2&&c,r)
   |none=>none
  |_,_,_=>none
 |.convert t j u=>match bx X st.L u with
  |some (g,x)=>match JC X t j x with
   |some (c,r)=>some (g&&c,r)
   |none=>none
  |none=>none
 |.build t aB=>JM X st.L t aB.toList
 |.makeFunc (.func f) ⟨[]⟩ cs=>match gV X st.L cs.toList with
  |some ids=>some (true,.c (.fn f ids))
  |none=>none
 |.makeFunc (.func f) ⟨[u]⟩ ⟨[]⟩=>match bx X st.L u with
  |some (true,.c (.ptr id 0))=>some (true,.c (.jR f id))
  |_=>none
 |.nilCheck u=>match bx X st.L u with
  |some (g,.c (.ptr id o))=>some (g,.c (.ptr id o))
  |some (g,.c (.fg id s i o))=>some (g,.c (.fg id s i o))
  |some (g,.c (.gb t x o))=>some (g,.c (.gb t x o))
  |some (g,.c (.par t x))=>some (g,.c (.par t x))
  |_=>none
 |.extract (.tmp s) k=>match bj st.L s with
  |some (.cY vs)=>match nth vs k with
   |some x=>some (true,x)
   |none=>none
  |_=>none
 |.call ⟨.builtin .len,⟨[u]⟩,⟨[t]⟩⟩=>match bx X st.L u with
  |some (g,x)=>match JA X st t x with
   |some (c,r)=>some (g&&c,r)
   |none=>none
  |none=>none
 |.call ⟨.builtin .cap,⟨[u]⟩,⟨[t]⟩⟩=>match bx X st.L u with
  |some (g,x)=>match JB X t x with
   |some (c,r)=>some (g&&c,r)
   |none=>none
  |none=>none
 |.call ⟨.builtin .min,⟨u::r⟩,_⟩=>match bx X st.L u with
  |some (g,.c (.val (.int k x)))=>match yT false k x X st.L r g with
   |some (c,y)=>some (c,.c y)
   |none=>none
  |_=>none
 |.call ⟨.builtin .max,⟨u::r⟩,_⟩=>match bx X st.L u with
  |some (g,.c (.val (.int k x)))=>match yT true k x X st.L r g with
   |some (c,y)=>some (c,.c y)
   |none=>none
  |_=>none
 |.index t u v=>match X.aY.find t with
  |some ⟨⟨.string,_,_,_⟩,_⟩=>match bx X st.L u,bx X st.L v with
   |some (g,.c (.str s)),some (g',.c (.val (.int _ z)))=>some (g&&g'&&aW z s.length,.c (.val (.int .u8 ((s.getD z.toNat 0).toNat:Int))))
   |_,_=>none
  |_=>none
 |_=>none
section
section
variable {X:bz} {R:Nat->Prop} {W:World} {aD:fk} {n:Nat} {aq:bX} {env:Nat->Loc} {B:Nat->Prop} {ai:World} {H:cI} {st:aQ} {a:Act} {w b6:World} {o:Oper}
theorem Bi:∀ {cs:dT} {vs:bY} {k:Nat} {xs:dT} {us:bY} {r:dT},cZ env B w cs vs->cZ env B w xs us->qm cs k xs=some r->∃a,sk vs k us a/\cZ env B w r a
 |cs,vs,0,[],us,r,I,J,h=>by
  have e:=J;subst e;cases cs with
  |nil=>simp only[qm,Option.some.injEq]at h;subst h;exact⟨vs,.nil,I⟩
  |cons c cs=>simp only[qm,Option.some.injEq]at h;subst h;exact⟨vs,.nil,I⟩
 |c::cs,vs,0,x::xs,us,r,⟨v,i,e,_,I⟩,⟨u,l,j,J,ag⟩,h=>by
  simp only[qm]at h
  split at h
  ·rename_i q d
   cases h;obtain⟨a,f,b⟩:=Bi I ag d;subst e;subst j;exact⟨u::a,.cons f,u,a,rfl,J,b⟩
  ·cases h
 |c::cs,vs,k+1,xs,us,r,⟨v,i,e,g,I⟩,J,h=>by
  simp only[qm]at h
  split at h
  ·rename_i q d
   cases h;obtain⟨a,f,b⟩:=Bi I J d;subst e;exact⟨v::a,.skip f,v,a,rfl,g,b⟩
  ·cases h
 |[],_,0,_::_,_,_,_,_,h=>by simp[qm]at h
 |[],_,_+1,_,_,_,_,_,h=>by simp[qm]at h
theorem cZ.Qq:∀vs:bY,cZ env B w (replicate vs.length .dead) vs
 |[]=>rfl
 |v::r=>⟨v,r,rfl,trivial,cZ.Qq r⟩
theorem eb.cells:∀ {x:bp} {v:Value},eb env B w x v->(∀c,x=.c c->v.oneCell'=true)->cZ env B w x.cells v.cells.toList
 |.c x,v,h,d=>by
  have a:=d x rfl;have b:v.cells=#[v]:=by cases v<;>first|rfl|(simp[Value.oneCell']at a)
  rw[b];exact⟨v,[],rfl,h,rfl⟩
 |.agg cs,v,⟨vs,e,h⟩,_=>by subst e;simpa [Value.cells,bp.cells] using h
 |.arr g l,v,⟨vs,e,h⟩,_=>by
  subst e;have I:=cZ.Qq (env:=env) (B:=B) (w:=w) vs;rw[bN.rb h]at I
  simpa [Value.cells,bp.cells] using I
theorem dN.one:∀ {c:bs} {v:Value},c.live=true->dN env B w c v->v.oneCell'=true
 |.val _,_,h,e=>by rw[show _=_ from e];exact h
 |.str _,_,_,e=>by rw[show _=ga _ from e];rfl
 |.dead,_,h,_=>by cases h
 |.ptr _ _,_,_,⟨_,_,e⟩=>by rw[e];rfl
 |.fg _ _ _ _,_,_,⟨_,_,_,_,e⟩=>by rw[e];rfl
 |.gb _ _ _,_,_,⟨_,_,e,_⟩=>by rw[e];rfl
 |.par _ _,_,_,⟨_,_,_,e,_⟩=>by rw[e];rfl
 |.aI _,_,_,⟨_,_,_,_,e⟩=>by rw[e];rfl
 |.bJ _ _ _,_,_,⟨_,_,_,e,_⟩=>by rw[e];rfl
 |.fn _ _,_,_,⟨_,e,_⟩=>by rw[e];rfl
 |.dI _,_,_,⟨_,_,e⟩=>by rw[e];rfl
 |.jR _ _,_,_,⟨_,_,e⟩=>by rw[e];rfl
 |.iF _ _,_,_,⟨_,_,_,_,e⟩=>by rw[e];rfl
 |.jS _ _ _,_,_,⟨_,_,_,_,_,e⟩=>by rw[e];rfl
 |.j7 _,_,_,⟨_,_,_,_,e⟩=>by rw[e];rfl
 |.iV b _,_,_,⟨_,_,e⟩=>by rw[e];cases b<;>rfl
theorem cZ.jH:∀ {cs:dT} {vs:bY},qn cs=true->cZ env B w cs vs->∀u∈vs,u.oneCell'=true
 |[],_,_,h,u,hu=>by rw[show _=[] from h]at hu;cases hu
 |c::cs,_,ah,⟨v,r,e,I,J⟩,u,hu=>by
  simp only[qn,and_eq_true]at ah;subst e
  rcases List.mem_cons.1 hu with rfl|hu
  ·exact dN.one ah.1 I
  ·exact cZ.jH ah.2 J u hu
theorem aa4{P:Program}{o:Oper}{a:Act}{n:Nat}{D:List Deferred}{L:List (Nat×Value)}{f:Fn}{x:Operand}{v:Value}(d:dh n D L a)(b:o.op=.makeFunc f #[x] #[])(c:aJ L x=some v):fX P o a (.func f #[v] #[]):=λw=>by
 simp[execOp,b,Instr.makeFunc,d.aJ c]
theorem JN(h:bM X R W aD n aq env B ai H st a b6):∀ {us:eA} {ids:eB},gV X st.L us=some ids->∃vs,jO (full a) us=some vs/\fF env B ai ids vs
 |[],ids,U=>by cases U;exact⟨[],rfl,rfl⟩
 |u::us,ids,U=>by
  simp only[gV]at U
  split at U
  ·rename_i id l hu ah
   cases U;obtain⟨v,I,b,he,rfl⟩:=h.aJ hu rfl;obtain⟨vs,J,ag⟩:=JN h ah;refine⟨_::vs,?_,_,vs,rfl,⟨b,he,rfl⟩,ag⟩;unfold jO;rw[I,J]
  ·rename_i g x l hu ah
   cases U;obtain⟨v,I,b,o,rfl,c⟩:=h.aJ hu rfl;obtain⟨vs,J,ag⟩:=JN h ah;refine⟨_::vs,?_,_,vs,rfl,⟨b,o,rfl,c⟩,ag⟩;unfold jO;rw[I,J]
   rfl
  ·cases U
theorem EE(h:bM X R W aD n aq env B ai H st a b6){k:IntKind}:∀ {m:Bool} {us:eA} {d:Int} {c:Bool} {e:bs},yT m k d X st.L us c=some (true,e) ->
  c=true/\∃z,e=.val (.int k z)/\∀w,((us.map a.eval).foldlM (if m then Builtin.max2 else Builtin.min2) (.int k d)).run X.P w=.ok (.int k z) w
 |m,[],d,c,e,b=>by
  obtain⟨rfl,rfl⟩:=b;exact⟨rfl,d,rfl,λw=>by simp⟩
 |m,u::us,d,c,e,b=>by
  simp only[yT]at b
  split at b
  ·rename_i g k' y hu
   have f:k=k':=by
    split at b
    ·rename_i aa;exact of_decide_eq_true aa
    ·rename_i aa;exact of_decide_eq_true aa
    ·cases b
   subst f;rw[decide_eq_true rfl]at b;cases m with
   |true=>
    obtain⟨U,z,rfl,bF⟩:=EE h b;simp only[and_eq_true]at U;obtain⟨v,I,J⟩:=h.aJ hu U.2;have ag:=h.bW.aJ I;rw[show v=_ from J]at ag;refine⟨U.1,z,rfl,λw=>?_⟩
    have:=bF w
    simp[ag,Builtin.max2]at this ⊢
    exact this
   |false=>
    obtain⟨U,z,rfl,bF⟩:=EE h b;simp only[and_eq_true]at U;obtain⟨v,I,J⟩:=h.aJ hu U.2;have ag:=h.bW.aJ I;rw[show v=_ from J]at ag;refine⟨U.1,z,rfl,λw=>?_⟩
    have:=bF w
    simp[ag,Builtin.min2]at this ⊢
    exact this
  ·cases b
theorem Qr(b:X.aY.ok X.P):∀(du:List Field),ED X du=true->∃l:List (Nat×Nat),(∀w,(du.mapM λf=>Prod.mk f.offset <$> sizeOf f.type:Sem (List (Nat×Nat))).run X.P w=.ok l w)/\∀k p,fieldAt X du k=some p->l[k]?=some p
 |[],_=>⟨[],λw=>by simp,λk p h=>by simp[fieldAt,nth]at h⟩
 |f::du,a=>by
  simp only[ED,and_eq_true]at a;obtain⟨l,I,J⟩:=Qr b du a.2;cases aC:X.aY.find f.type with
  |none=>rw[aC]at a;simp at a
  |some bB=>
   refine⟨(f.offset,bB.aK.size)::l,λw=>?_,λk p h=>?_⟩
   ·simp[bK.run_sizeOf (cb.get b aC).aK,I]
   ·cases k with
    |zero=>
     simp only[fieldAt,nth,aC,Option.some.injEq]at h
     simp[h]
    |succ k=>
     exact J k p (by simpa [fieldAt,nth] using h)
theorem aa5{pl:Nat->Option (Nat×Nat)}:∀(aB:List (Nat×Operand)) (c:Bool) (z:dT) (c':Bool) (r:dT),uT X st.L pl aB c z=some (c',r)->c'=true->c=true:=by
 intro aB
 induction aB with
 |nil=>intro c z c' r I J;simp only[uT,Option.some.injEq,Prod.mk.injEq]at I;rw[I.1];exact J
 |cons p aB a=>
  intro c z c' r I J;simp only[uT]at I
  split at I
  ·split at I
   ·have:=a _ _ _ _ I J
    simp only[and_eq_true]at this;exact this.1
   ·cases I
  ·cases I
theorem JO(h:bM X R W aD n aq env B ai H st a b6){pl l:Nat->Option (Nat×Nat)}(ah:∀k p,pl k=some p->l k=some p):∀ {aB:List (Nat×Operand)} {c c':Bool} {z r:dT} {vs:bY},cZ env B ai z vs ->
  uT X st.L pl aB c z=some (c',r)->c'=true->∃b:bY,Instr.fill l vs.toArray (aB.map λp=>(p.1,a.eval p.2))=some b.toArray/\cZ env B ai r b
 |[],c,c',z,r,vs,bF,aC,U=>by
  obtain⟨rfl,rfl⟩:=aC;exact⟨vs,rfl,bF⟩
 |(k,u)::aB,c,c',z,r,vs,bF,aC,U=>by
  simp only[uT]at aC
  split at aC
  ·rename_i off size g x j hu
   split at aC
   ·rename_i y t i ak
    have w:=eq_of_beq_eq_true t;have d:=aa5 _ _ _ _ _ aC U;simp only[and_eq_true]at d;obtain⟨v,I,J⟩:=h.aJ hu d.2;have f:cZ env B ai x.cells v.cells.toList:=J.cells λc e=>by
     subst e;simp only[bp.cells,qn,Bool.and_true]at i;exact dN.one i J
    obtain⟨b,ag,s⟩:=Bi bF f ak;obtain⟨q,o,m⟩:=JO h ah s aC U;refine⟨q,?_,m⟩;rw[map_cons,h.bW.aJ I];rw[aay (ah _ _ j) (by rw[<- w,<- f.length];simp) ag];exact o
   ·cases aC
  ·cases aC
theorem aa7(d:X.aY.ok X.P){t:TypeId}{aB:Array (Nat×Operand)}{sa:bp}(u:o.op=.build t aB)(ah:JM X st.L t aB.toList=some (true,sa)):jG X st o sa:=by
 intro R W aD n aq env B ai H a b6 h;unfold JM at ah
 split at ah
 ·rename_i du s b z y aC
  obtain⟨fl,rfl⟩:∃fl:List Field,du=fl.toArray:=⟨du.toList,by simp⟩
  split at ah
  ·rename_i v
   split at ah
   ·rename_i c r q
    cases ah;obtain⟨l,I,J⟩:=Qr d _ v;obtain⟨f,ag,i⟩:=JO h J (Bc z.toList) q rfl;refine⟨_,⟨f,rfl,i⟩,λw _=>?_⟩;have g:=(cb.get d aC).aK.1;have j:=bK.se (cb.get d aC).aK w;have k:=I w
    have:(Instr.build t (aB.map λp=>(p.1,a.eval p.2))).run X.P w=.ok (.agg f.toArray) w:=by
     unfold Instr.build
     simp[j,run_underlying g,k,Value.cells,ag]
    simp only[execOp,u]
    simp[this]
   ·cases ah
  ·cases ah
 ·rename_i m e s b z y aC
  split at ah
  ·rename_i bB dm
   split at ah
   ·rename_i c r q
    cases ah;obtain⟨f,ag,i⟩:=JO h (λ_ _ h=>h) (Bc z.toList) q rfl;refine⟨_,⟨f,rfl,i⟩,λw _=>?_⟩;have g:=(cb.get d aC).aK.1;have j:=bK.se (cb.get d aC).aK w;have k:=bK.run_sizeOf (cb.get d dm).aK w
    have:(Instr.build t (aB.map λp=>(p.1,a.eval p.2))).run X.P w=.ok (.agg f.toArray) w:=by
     unfold Instr.build
     simp[j,run_underlying g,k,Value.cells,ag]
    simp only[execOp,u]
    simp[this]
   ·cases ah
  ·cases ah
 ·cases ah
theorem aa8(y:X.aY.ok X.P){t:TypeId}{u:Operand}{g:Bool}{x sa:bp}(i:o.op=.call ⟨.builtin .len,⟨[u]⟩,⟨[t]⟩⟩)(hu:bx X st.L u=some (g,x))(D:g=true)(ah:JA X st t x=some (true,sa)):jG X st o sa:=by
 intro R W aD n aq env B ai H a b6 h;obtain⟨v,f,k⟩:=h.aJ hu D;have j:=h.bW;unfold JA at ah
 split at ah
 ·rename_i e s b z F aC
  obtain⟨T,p,I⟩:=Ew (cb.get y aC).aK
  split at ah
  ·cases ah
   obtain⟨A,c,xs,rfl,_⟩:=k;exact⟨_,rfl,λw _=>yL j i p I rfl f w⟩
  ·split at ah
   ·rename_i l
    cases ah;obtain⟨A,c,m,he,rfl⟩:=k;obtain⟨eQ,K,⟨q,k',xs,d,rfl,J,_⟩,r⟩:=h.heap.gQ l;rw[he]at d;cases d;exact⟨_,rfl,λw _=>yL j i p I rfl f w⟩
   ·rename_i l
    cases ah;obtain⟨A,c,m,he,rfl⟩:=k;obtain⟨eQ,K,⟨q,k',ys,L,cK,M,d,rfl,_⟩,r⟩:=h.heap.gQ l;rw[he]at d;cases d;exact⟨_,rfl,λw _=>yL j i p I rfl f w⟩
   ·rename_i l
    cases ah;obtain⟨A,c,m,he,rfl⟩:=k;obtain⟨eQ,K,⟨q,k',d,_⟩,r⟩:=h.heap.gQ l;rw[he]at d;cases d;exact⟨_,rfl,λw _=>yL j i p I rfl f w⟩
   ·rename_i l
    cases ah;obtain⟨A,c,m,he,rfl⟩:=k;obtain⟨eQ,K,⟨q,k',ys,G,a6,d,_⟩,r⟩:=h.heap.gQ l;rw[he]at d;cases d;exact⟨_,rfl,λw _=>yL j i p I rfl f w⟩
   ·cases ah
  ·cases ah
   rw[show v=_ from k]at f;exact⟨_,rfl,λw _=>yL j i p I rfl f w⟩
  ·cases ah
 ·rename_i s b z F aC
  have C:=(cb.get y aC).aK.1
  split at ah
  ·rename_i aI
   cases ah;rw[show v=_ from k]at f;refine⟨_,rfl,λw _=>?_⟩;have E:(ByteArray.mk aI.toArray).size=aI.length:=by show aI.toArray.size=_;simp
   simp[execOp,i,resolve,invoke,builtin,Builtin.len_,j.aJ f,ga,run_underlying C,goInt,E]
  ·cases ah
 ·cases ah
theorem aa9(m:X.aY.ok X.P){t:TypeId}{u:Operand}{g:Bool}{x sa:bp}(f:o.op=.call ⟨.builtin .cap,⟨[u]⟩,⟨[t]⟩⟩)(hu:bx X st.L u=some (g,x))(l:g=true)(ah:JB X t x=some (true,sa)):jG X st o sa:=by
 intro R W aD n aq env B ai H a b6 h;obtain⟨v,d,j⟩:=h.aJ hu l;have i:=h.bW;unfold JB at ah
 split at ah
 ·rename_i e s b z p aC
  obtain⟨T,k,I⟩:=Ew (cb.get m aC).aK
  split at ah
  ·rename_i cc
   cases cc with
   |none=>cases ah
   |some cc=>
    cases ah;obtain⟨A,c,xs,rfl,_,_,U,_⟩:=j
    have:=U _ rfl
    subst this;exact⟨_,rfl,λw _=>Jg i f k I rfl d w⟩
  ·cases ah
   rw[show v=_ from j]at d;exact⟨_,rfl,λw _=>Jg i f k I rfl d w⟩
  ·cases ah
 ·cases ah
theorem aba(e:X.aY.ok X.P){t m:TypeId}{u:Operand}{g:Bool}{x sa:bp}(i:o.op=.convert t m u)(hu:bx X st.L u=some (g,x))(y:g=true)(ah:JC X t m x=some (true,sa)):jG X st o sa:=by
 intro R W aD n aq env B ai H a b6 h;obtain⟨v,d,l⟩:=h.aJ hu y;have j:=h.bW;unfold JC at ah
 split at ah
 ·rename_i bB k' s b z D aC f
  obtain⟨T,A,I,J⟩:=n4 (cb.get e aC).aK (cb.get e f).aK
  split at ah
  ·rename_i k z
   generalize hw:oQ k' z=q at ah
   obtain⟨c,r⟩:=q;cases ah;rw[show v=_ from l]at d;exact⟨_,rfl,λw _=>ZY j i A I J rfl d (yO hw) w⟩
  ·cases ah
 ·rename_i bB s b z D aC f
  split at ah
  ·cases ah
   rw[show v=_ from l]at d;refine⟨_,rfl,λw _=>?_⟩;have p:=(cb.get e aC).aK.1;have C:=(cb.get e f).aK.1
   simp[execOp,i,j.aJ d,convert,run_underlying p,run_underlying C,ga]
  ·cases ah
 ·cases ah
theorem yV(D:X.aY.ok X.P){c:Bool}{sa:bp}(ah:wJ X st o.op=some (c,sa))(U:c=true):jG X st o sa:=by
 unfold wJ at ah
 split at ah
 ·rename_i u d
  intro R W aD n aq env B ai H a b6 h;obtain⟨v,I,J⟩:=h.aJ ah U;exact⟨v,J,λw _=>PL h.bW d I w⟩
 ·rename_i u d
  intro R W aD n aq env B ai H a b6 h;obtain⟨v,I,J⟩:=h.aJ ah U;exact⟨v,J,λw _=>PM h.bW d I w⟩
 ·rename_i aI u v d
  split at ah
  ·rename_i aE b az x gv y e C G
   split at ah
   ·rename_i r ak
    cases ah;simp only[and_eq_true,Bool.or_eq_true,Bool.not_eq_true']at U;obtain⟨⟨Z,ap⟩,aw⟩:=U;intro R W aD n aq env B ai H a b6 h;obtain⟨ad,I,J⟩:=h.aJ e Z;rw[show ad=_ from J]at I;have S:∀vx vy,(b=true->eb env B ai x vx)->(b=false->eb env B ai y vy)->eb env B ai sa (if b then vx else vy):=by
     intro vx vy an aG;unfold Bg at ak
     split at ak
     ·split at ak
      ·rename_i aa
       have au:=of_decide_eq_true aa;subst au;cases ak;cases b
       ·exact aG rfl
       ·exact an rfl
      ·cases ak
     ·cases ak
      cases b
      ·exact aG rfl
      ·exact an rfl
     ·cases ak
      cases b
      ·exact aG rfl
      ·exact an rfl
     ·cases ak
    cases b with
    |true=>
     obtain⟨vx,ag,F⟩:=h.aJ C (by simpa using ap);exact⟨vx,S vx vx (λ_=>F) (λh=>by cases h),λw _=>PN h.bW d I rfl ag w⟩
    |false=>
     obtain⟨vy,ag,F⟩:=h.aJ G (by simpa using aw);exact⟨vy,S vy vy (λh=>by cases h) (λ_=>F),λw _=>PO h.bW d I rfl ag w⟩
   ·cases ah
  ·cases ah
 ·rename_i t u d
  split at ah
  ·rename_i g b e
   cases ah;intro R W aD n aq env B ai H a b6 h;obtain⟨v,I,J⟩:=h.aJ e U;rw[show v=_ from J]at I;exact⟨_,rfl,λw _=>ZG h.bW d I w⟩
  ·cases ah
 ·rename_i t u d
  split at ah
  ·rename_i g k x e
   generalize hw:oQ k (0-x)=q at ah
   obtain⟨c',z⟩:=q;obtain⟨rfl,rfl⟩:=ah;simp only[and_eq_true]at U;obtain⟨i,rfl⟩:=U;intro R W aD n aq env B ai H a b6 h;obtain⟨v,I,J⟩:=h.aJ e i;rw[show v=_ from J]at I;exact⟨_,rfl,λw _=>by have Y:=yO hw;simp only[Int.zero_sub]at Y;simp[execOp,d,h.bW.aJ I,Op.unary,Op.intArith,Y]⟩
  ·cases ah
 ·rename_i op t u v af d
  split at ah
  ·rename_i g x g' y e C
   split at ah
   ·rename_i c' r ab
    cases ah;simp only[and_eq_true]at U;obtain⟨⟨i,E⟩,rfl⟩:=U;intro R W aD n aq env B ai H a b6 h;obtain⟨vx,I,J⟩:=h.aJ e i;obtain⟨vy,ag,F⟩:=h.aJ C E;obtain⟨r,L,K⟩:=aaV D h.bW d I ag J F ab;exact⟨r,L,λw _=>K w⟩
   ·cases ah
  ·cases ah
 ·rename_i t u d
  split at ah
  ·rename_i g x e
   split at ah
   ·rename_i c' r ab
    cases ah;simp only[and_eq_true]at U;obtain⟨i,rfl⟩:=U;exact Qk D d e i ab
   ·cases ah
  ·cases ah
 ·rename_i t u k d
  split at ah
  ·rename_i g x e
   split at ah
   ·rename_i c' r ab
    cases ah;simp only[and_eq_true]at U;obtain⟨i,rfl⟩:=U;exact aaW D d e i ab
   ·cases ah
  ·cases ah
 ·rename_i t u v d
  split at ah
  ·rename_i g x g' y e C
   split at ah
   ·rename_i c' r ab
    cases ah;simp only[and_eq_true]at U;obtain⟨⟨i,E⟩,rfl⟩:=U;exact aaX D d e i C E ab
   ·cases ah
  ·cases ah
 ·cases ah
 ·rename_i t u l d
  split at ah
  ·rename_i g x N Q e C
   split at ah
   ·rename_i c' r ab
    cases ah;simp only[and_eq_true]at U;obtain⟨⟨i,E⟩,rfl⟩:=U;exact EC D d e i (λs A=>by cases A;exact⟨_,rfl,_,C,E⟩) (λh=>by cases h) (λs A=>by cases A) (λ_=>rfl) (λs A=>by cases A) (λ_=>rfl) ab
   ·cases ah
  ·cases ah
 ·rename_i t u l d
  split at ah
  ·rename_i g x N Q e C
   split at ah
   ·rename_i c' r ab
    cases ah;simp only[and_eq_true]at U;obtain⟨⟨i,E⟩,rfl⟩:=U;exact EC D d e i (λs A=>by cases A) (λ_=>rfl) (λs A=>by cases A;exact⟨_,rfl,_,C,E⟩) (λh=>by cases h) (λs A=>by cases A) (λ_=>rfl) ab
   ·cases ah
  ·cases ah
 ·rename_i t u l al d
  split at ah
  ·rename_i g x N Q g2 av e C G
   split at ah
   ·rename_i c' r ab
    cases ah;simp only[and_eq_true]at U;obtain⟨⟨⟨i,E⟩,M⟩,rfl⟩:=U;exact EC D d e i (λs A=>by cases A;exact⟨_,rfl,_,C,E⟩) (λh=>by cases h) (λs A=>by cases A;exact⟨_,rfl,_,G,M⟩) (λh=>by cases h) (λs A=>by cases A) (λ_=>rfl) ab
   ·cases ah
  ·cases ah
 ·rename_i t u l al d
  split at ah
  ·rename_i g x N Q g2 av e C G
   split at ah
   ·rename_i c' r ab
    cases ah;simp only[and_eq_true]at U;obtain⟨⟨⟨i,E⟩,M⟩,rfl⟩:=U;exact EC D d e i (λs A=>by cases A) (λ_=>rfl) (λs A=>by cases A;exact⟨_,rfl,_,C,E⟩) (λh=>by cases h) (λs A=>by cases A;exact⟨_,rfl,_,G,M⟩) (λh=>by cases h) ab
   ·cases ah
  ·cases ah
 ·rename_i t af u d
  split at ah
  ·rename_i g x e
   split at ah
   ·rename_i c' r ab
    cases ah;simp only[and_eq_true]at U;obtain⟨i,rfl⟩:=U;exact aba D d e i ab
   ·cases ah
  ·cases ah
 ·rename_i t aB d
  subst U;exact aa7 D d ah
 ·rename_i f cs d
  split at ah
  ·rename_i ids ay
   cases ah;intro R W aD n aq env B ai H a b6 h;obtain⟨vs,I,J⟩:=JN h ay;exact⟨_,⟨vs,rfl,J⟩,λw _=>ZH h.bW (by rw[d]) I w⟩
  ·cases ah
 ·rename_i f u d
  split at ah
  ·rename_i id e
   cases ah;intro R W aD n aq env B ai H a b6 h;obtain⟨v,I,b,ab,rfl⟩:=h.aJ e rfl;exact⟨_,⟨b,ab,rfl⟩,λw _=>aa4 h.bW (by rw[d]) I w⟩
  ·cases ah
 ·rename_i u d
  intro R W aD n aq env B ai H a b6 h
  split at ah
  ·rename_i e
   cases ah;obtain⟨v,I,J⟩:=h.aJ e U;have ag:=h.bW.aJ I;obtain⟨b,he,rfl⟩:=J;exact⟨_,⟨b,he,rfl⟩,λw _=>by simp[execOp,d,ag]⟩
  ·rename_i e
   cases ah;obtain⟨v,I,J⟩:=h.aJ e U;have ag:=h.bW.aJ I;obtain⟨b,c,m,he,rfl⟩:=J;exact⟨_,⟨b,c,m,he,rfl⟩,λw _=>by simp[execOp,d,ag]⟩
  ·rename_i e
   cases ah;obtain⟨v,I,J⟩:=h.aJ e U;have ag:=h.bW.aJ I;obtain⟨b,p,rfl,P⟩:=J;exact⟨_,⟨b,p,rfl,P⟩,λw _=>by simp[execOp,d,ag]⟩
  ·rename_i e
   cases ah;obtain⟨v,I,J⟩:=h.aJ e U;have ag:=h.bW.aJ I;obtain⟨b,p,vs,rfl,P⟩:=J;exact⟨_,⟨b,p,vs,rfl,P⟩,λw _=>by simp[execOp,d,ag]⟩
  ·cases ah
 ·rename_i s k d
  split at ah
  ·rename_i vs e
   split at ah
   ·rename_i x C
    cases ah;intro R W aD n aq env B ai H a b6 h;obtain⟨v,I,us,rfl,J⟩:=h.has _ _ e;have key:∀ {xs:ej} {us:bY} {k:Nat} {x:bp},dO env B ai xs us->nth xs k=some x->∃u,us[k]?=some u/\eb env B ai x u:=by
     intro xs
     induction xs with
     |nil=>intro us k x _ h;cases h
     |cons y ys ae=>
      intro us k x A ba;obtain⟨v,r,rfl,ag,F⟩:=A;cases k with
      |zero=>cases ba;exact⟨v,rfl,ag⟩
      |succ k=>obtain⟨u,L,K⟩:=ae F ba;exact⟨u,by rw[getElem?_cons_succ];exact L,K⟩
    obtain⟨u,ag,F⟩:=key J C;exact⟨u,F,λw _=>PQ h.bW d (hs I) ag w⟩
   ·cases ah
  ·cases ah
 ·rename_i u t d
  split at ah
  ·rename_i g x e
   split at ah
   ·rename_i c' r ab
    cases ah;simp only[and_eq_true]at U;obtain⟨i,rfl⟩:=U;exact aa8 D d e i ab
   ·cases ah
  ·cases ah
 ·rename_i u t d
  split at ah
  ·rename_i g x e
   split at ah
   ·rename_i c' r ab
    cases ah;simp only[and_eq_true]at U;obtain⟨i,rfl⟩:=U;exact aa9 D d e i ab
   ·cases ah
  ·cases ah
 ·rename_i u r ao d
  split at ah
  ·rename_i g k x e
   split at ah
   ·rename_i c' y O
    cases ah;subst U;intro R W aD n aq env B ai H a b6 h;obtain⟨i,z,rfl,bF⟩:=EE h O;obtain⟨v,I,J⟩:=h.aJ e i;have ag:=h.bW.aJ I;rw[show v=_ from J]at ag;refine⟨_,rfl,λw _=>?_⟩
    have:=bF w
    simp only[Bool.false_eq_true,if_false]at this
    simp[execOp,d,resolve,invoke,builtin,Builtin.min_,ag,this]
   ·cases ah
  ·cases ah
 ·rename_i u r ao d
  split at ah
  ·rename_i g k x e
   split at ah
   ·rename_i c' y O
    cases ah;subst U;intro R W aD n aq env B ai H a b6 h;obtain⟨i,z,rfl,bF⟩:=EE h O;obtain⟨v,I,J⟩:=h.aJ e i;have ag:=h.bW.aJ I;rw[show v=_ from J]at ag;refine⟨_,rfl,λw _=>?_⟩
    have:=bF w
    simp only[if_true]at this
    simp[execOp,d,resolve,invoke,builtin,Builtin.max_,ag,this]
   ·cases ah
  ·cases ah
 ·rename_i t u v d
  split at ah
  ·rename_i aA b aJ aF aC
   split at ah
   ·rename_i g s g' k z e C
    obtain⟨rfl,rfl⟩:=ah;simp only[and_eq_true]at U;obtain⟨⟨i,E⟩,ab⟩:=U;intro R W aD n aq env B ai H a b6 h;obtain⟨ar,I,J⟩:=h.aJ e i;rw[show ar=ga s from J]at I;obtain⟨vx,ag,F⟩:=h.aJ C E;rw[show vx=_ from F]at ag;obtain⟨j,rfl,T,aH⟩:=n7 ab;have aj:=(cb.get D aC).aK.1;have ax:(ByteArray.mk s.toArray)[j]?=some (s.getD j 0):=by
     have V:j<(ByteArray.mk s.toArray).size:=by simpa [ByteArray.size] using T
     have C:(ByteArray.mk s.toArray)[j]?=some ((ByteArray.mk s.toArray)[j]'V):=by
      exact getElem?_pos (ByteArray.mk s.toArray) j V
     rw[C,List.getD_eq_getElem?_getD,getElem?_eq_getElem T]
     rfl
    refine⟨_,rfl,λw _=>?_⟩;have ac:0<=(j:Int):=Int.natCast_nonneg j;have am:(Instr.index t (ga s) (.int k (j:Int))).run X.P w=.ok (.int .u8 ((s.getD j 0).toNat:Int)) w:=by
     simp only[Instr.index,ga,asIntOf,Sem.run_bind,Sem.run_pure,Result.andThen_ok,run_underlying aj,ac,if_true,Int.toNat_natCast,ax]
    simp[execOp,d,h.bW.aJ I,h.bW.aJ ag,am]
   ·cases ah
  ·cases ah
 ·cases ah
end
end
section
def yW:Op->Bool
 |.store _ _ _=>false
 |.call ⟨.builtin .len,_,_⟩=>true
 |.call ⟨.builtin .cap,_,_⟩=>true
 |.call ⟨.builtin .min,_,_⟩=>true
 |.call ⟨.builtin .max,_,_⟩=>true
 |.call _=>false
 |_=>true
def Bk:Op->Bool
 |.store _ _ _=>false
 |.call ⟨.builtin .append,_,_⟩=>true
 |o=>yW o
def sn(d:Nat):bC->Bool
 |[]=>true
 |(k,b)::r=>(match beq k d,b with
  |true,.cells _ _=>false
  |_,_=>true)&&sn d r
def ri(o:Oper)(H:bC):Bool:=match o.dst with
 |some d=>sn d H
 |none=>true
def wK(d:Nat):bC->Bool
 |[]=>true
 |(k,_)::r=>match beq k d with
  |true=>false
  |false=>wK d r
def uV(o:Oper)(H:bC):Bool:=match o.dst with
 |some d=>wK d H
 |none=>true
theorem Qu{d:Nat}:∀ {l:bC} {b:cC},sn d l=true->(d,b)∈l->∀t cs,b≠.cells t cs
 |(k,b')::r,b,h,ab,t,cs=>by
  simp only[sn,and_eq_true]at h
  rcases List.mem_cons.1 ab with e|ab
  ·injection e with a c
   subst a;subst c;intro e;rw[e,beq_refl]at h
   simp at h
  ·exact Qu h.2 ab t cs
structure EF(o:Oper)(st:aQ)(H:cI)(w:World)(H':cI)(w':World):Prop where
 new:yW o.op=true->Below w.heap.size w w'
 et:Bk o.op=true->ri o st.H=true->∀c∈H,jv c=true->c∈H'
 all:yW o.op=true->uV o st.H=true->∀c∈H,c∈H'
def wL(X:bz)(n:Nat)(st:aQ)(o:Oper)(st':aQ):Prop:=
 ∀ {R:Nat->Prop} {W:World} {aD:fk} {aq:bX} {env:Nat->Loc} {B:Nat->Prop} {ai:World} {H:cI} {a:Act} {w:World} (ops:Array Oper) (KK:Act->World->Prop),bM X R W aD n aq env B ai H st a w ->
  (∀aU w' env' H',EF o st H w H' w'->bM X R W aD n aq env' B ai H' st' aU w'->KK aU w')->fj X.P ops o KK a w
def Qv(k:IntKind):dT->Option (Bool×Int×dT)
 |.val (.int k' x)::r=>match decide (k=k')with
  |true=>some (true,x,r)
  |false=>none
 |_=>none
def Qw:dT->Option (Bool×Bool×dT)
 |.val (.bool x)::r=>some (true,x,r)
 |_=>none
def Qx:dT->Option (Bool×dU×dT)
 |.str x::r=>some (true,x,r)
 |_=>none
def Qy(g:aV):dT->Option (Bool×List g.D×dT)
 |.val (.slice none 0 0)::r=>some (true,[],r)
 |.bJ g' l _::r=>match decEq g' g with
  |isTrue h=>some (true,h ▸ l,r)
  |isFalse _=>none
 |_=>none
def Qz(g:aV):dT->Option (Bool×List g.D×dT)
 |.val (.slice none 0 0)::r=>some (true,[],r)
 |.bJ g' l (some c)::r=>match decEq g' g with
  |isTrue h=>some (decide (c=l.length),h ▸ l,r)
  |isFalse _=>none
 |_=>none
def QA:dT->Option (Bool×Option Nat×dT)
 |.fn f []::r=>some (true,some f,r)
 |.val .nilFunc::r=>some (true,none,r)
 |_=>none
def dec:(g:aV)->dT->Option (Bool×g.D×dT)
 |.int k,r=>Qv k r
 |.bool,r=>Qw r
 |.str,r=>Qx r
 |.aI g,r=>Qy g r
 |.ie g,r=>Qz g r
 |.unit,r=>some (true,(),r)
 |.fn,r=>QA r
 |.pair g h,r=>match dec g r with
  |some (fD,x,a)=>match dec h a with
   |some (cK,y,b)=>some (fD&&cK,(x,y),b)
   |none=>none
  |none=>none
section
variable {env:Nat->Loc} {B:Nat->Prop} {w:World}
theorem so:∀ {g:aV} {cs:dT} {c:Bool} {x:g.D} {r:dT} {vs:bY},cZ env B w cs vs->dec g cs=some (c,x,r)->c=true->∃d j,vs=d++j/\bN B w g x d/\cZ env B w r j
 |.int k,cs,c,x,r,vs,h,az,U=>by
  simp only[dec,Qv]at az
  split at az
  ·split at az
   ·rename_i aa
    have n:=of_decide_eq_true aa;subst n;cases az;obtain⟨v,rr,rfl,I,J⟩:=h;exact⟨[v],rr,rfl,by rw[show v=_ from I];exact rfl,J⟩
   ·cases az
  ·cases az
 |.bool,cs,c,x,r,vs,h,az,U=>by
  simp only[dec,Qw]at az
  split at az
  ·cases az
   obtain⟨v,rr,rfl,I,J⟩:=h;exact⟨[v],rr,rfl,by rw[show v=_ from I];exact rfl,J⟩
  ·cases az
 |.str,cs,c,x,r,vs,h,az,U=>by
  simp only[dec,Qx]at az
  split at az
  ·cases az
   obtain⟨v,rr,rfl,I,J⟩:=h;exact⟨[v],rr,rfl,by rw[show v=_ from I];exact rfl,J⟩
  ·cases az
 |.aI g,cs,c,x,r,vs,h,az,U=>by
  simp only[dec,Qy]at az
  split at az
  ·cases az
   obtain⟨v,rr,rfl,I,J⟩:=h;exact⟨[v],rr,rfl,⟨none,0,[],by rw[show v=_ from I];rfl,le_refl _,zero_le _,rfl,Reads.nil _ _ _,(λ_ _ h=>absurd h (lt_irrefl 0))⟩,J⟩
  ·split at az
   ·rename_i f _
    subst f;cases az;obtain⟨v,rr,rfl,⟨A,c,xs,rfl,ag,a,e,b,i⟩,J⟩:=h;exact⟨[_],rr,rfl,⟨A,c,xs,rfl,ag,a,b,i⟩,J⟩
   ·cases az
  ·cases az
 |.ie g,cs,c,x,r,vs,h,az,U=>by
  simp only[dec,Qz]at az
  split at az
  ·cases az
   obtain⟨v,rr,rfl,I,J⟩:=h;exact⟨[v],rr,rfl,⟨none,[],by rw[show v=_ from I];rfl,zero_le _,rfl,Reads.nil _ _ _,(λ_ _ h=>absurd h (lt_irrefl 0))⟩,J⟩
  ·split at az
   ·rename_i f _
    subst f;obtain⟨rfl,rfl,rfl⟩:=az;have l:=of_decide_eq_true U;obtain⟨v,rr,rfl,⟨A,c,xs,rfl,ag,a,e,b,i⟩,J⟩:=h
    have:=e _ rfl
    subst this;rw[l];exact⟨[_],rr,rfl,⟨A,xs,rfl,by rw[l]at a;exact a,b,i⟩,J⟩
   ·cases az
  ·cases az
 |.fn,cs,c,x,r,vs,h,az,U=>by
  simp only[dec,QA]at az
  split at az
  ·cases az
   obtain⟨v,rr,rfl,⟨us,I,ag⟩,J⟩:=h;rw[show us=[] from ag]at I;exact⟨[v],rr,rfl,by rw[I];exact rfl,J⟩
  ·cases az
   obtain⟨v,rr,rfl,I,J⟩:=h;exact⟨[v],rr,rfl,by rw[show v=_ from I];exact rfl,J⟩
  ·cases az
 |.unit,cs,c,x,r,vs,h,az,U=>by
  simp only[dec]at az;cases az;exact⟨[],vs,rfl,rfl,h⟩
 |.pair g p,cs,c,x,r,vs,h,az,U=>by
  simp only[dec]at az
  split at az
  ·rename_i fD u q I
   split at az
   ·rename_i cK t s J
    cases az;simp only[and_eq_true]at U;obtain⟨d,j,rfl,ag,a⟩:=so h I U.1;obtain⟨m,o,rfl,e,b⟩:=so a J U.2;exact⟨d++m,o,by rw[append_assoc],⟨d,m,rfl,ag,e⟩,b⟩
   ·cases az
  ·cases az
end
section
variable {X:bz} {R:Nat->Prop} {W:World} {aD:fk} {n:Nat} {aq:bX} {env:Nat->Loc} {B:Nat->Prop} {ai:World} {H:cI} {st:aQ} {a aU:Act} {w w':World} {o:Oper} {d:Nat}
theorem bM.sym(h:bM X R W aD n aq env B ai H st a w):Sym n (j9 aq aD) (full a) (λk=>R k\/B k) ai (H++aq.map dB) a w:=⟨h.bW,h.aT⟩
theorem dh.same{D:List Deferred}(b:dh n D (full a) aU){s:Nat}{u:Value}(hu:a.tmps[s]?=some u):aU.tmps[s]?=some u:=b.has s u (hs hu)
theorem dh.other{D:List Deferred}{v:Value}(b:dh n D ((d,v)::full a) aU){s:Nat}(c:s≠d){u:Value}(hu:a.tmps[s]?=some u):aU.tmps[s]?=some u:=
 b.has s u (by rw[lookup_cons,beq_false_of_ne c];exact hs hu)
theorem dh.this{D:List Deferred}{v:Value}(b:dh n D ((d,v)::full a) aU):aU.tmps[d]?=some v:=b.has d v (by simp)
theorem bM.set(h:bM X R W aD n aq env B ai H st a w){sv:b8}{v:Value}(f:e7 env B ai sv v)(b:dh n (j9 aq aD) ((d,v)::full a) aU):bM X R W aD n aq env B ai H ⟨(d,sv)::st.L,st.H⟩ aU w:=
 ⟨b.size,b.defs,λs u c=>by
  rw[cX]at c
  split at c
  ·rename_i e;subst e;cases c;exact⟨v,b.this,f⟩
  ·rename_i e;obtain⟨g,I,J⟩:=h.has s u c;exact⟨g,b.other e I,J⟩,h.heap,h.aT,h.sub,h.new,h.dP,h.base,h.eu⟩
def lP(env:Nat->Loc)(id:Nat)(l:Loc):Nat->Loc:=λj=>if j=id then l else env j
theorem fx{id:Nat}{l:Loc}:lP env id l id=l:=if_pos rfl
theorem ku{id:Nat}{l:Loc}:∀j,j≠id->lP env id l j=env j:=λ_ h=>if_neg h
theorem wM{id:Nat}{l:Loc}{p:Nat->Loc->Prop}(h:∀id l,p id l->n<=id/\env id=l/\((∃b,l=.blk b)\/iG<=id))(az:∀l,¬p id l):∀j q,p j q->n<=j/\lP env id l j=q/\((∃b,q=.blk b)\/iG<=j):=λj q ak=>
 ⟨(h j q ak).1,by rw[ku j (λe=>az q (by rw[<- e];exact ak))];exact(h j q ak).2.1,(h j q ak).2.2⟩
theorem bG.QB{d:Nat}{l:Loc}:∀ {L:bC} {H:cI},wK d L=true->bG env B ai L H->bG (lP env d l) B ai (eE d .dead L) H
 |[],_,_,h=>h
 |(k,b)::L,_,ba,⟨c,H',e,I,J⟩=>by
  unfold wK at ba
  split at ba
  ·cases ba
  ·rename_i aa
   unfold eE;rw[aa];exact⟨c,H',e,I.sub (z:=.dead) (ku) (λ_ _=>trivial) (ne_of_beq_eq_false aa),bG.QB ba J⟩
theorem bM.oR(h:bM X R W aD n aq env B ai H st a w)(az:blt d n=true){l:Loc}{c:bo}{blk:cC}{sv:b8}{v:Value}(f:bT (λk=>R k\/B k) ai (c::(H++aq.map dB)) w')(ab:e1 (lP env d l) B ai d blk c)(o:e7 (lP env d l) B ai sv v)(g:dh n (j9 aq aD) ((d,v)::full a) aU):∃H',((sn d st.H=true->∀c∈H,jv c=true->c∈H')/\(wK d st.H=true->∀c∈H,c∈H'))/\bM X R W aD n aq (lP env d l) B ai H' ⟨(d,sv)::gu d .dead st.L,(d,blk)::eE d .dead st.H⟩ aU w':=by
 have j:∃H2,H2.Sublist H/\bG (lP env d l) B ai (eE d .dead st.H) H2/\(sn d st.H=true->∀c∈H,jv c=true->c∈H2)/\(wK d st.H=true->∀c∈H,c∈H2):=by
  cases aa:wK d st.H with
  |true=>exact⟨H,List.Sublist.refl _,bG.QB aa h.heap,λ_ c U _=>U,λ_ c U=>U⟩
  |false=>
  cases ba:sn d st.H with
  |true=>
   obtain⟨H2,I,J,ag⟩:=h.heap.Js (z:=.dead) (ku (id:=d) (l:=l)) (λ_ _=>trivial) (λb c ab C=>C.pA (Qu ba ab));exact⟨H2,I,J,λ_=>ag,λh=>by cases h⟩
  |false=>
   obtain⟨H2,I,J⟩:=h.heap.del (z:=.dead) (ku (id:=d) (l:=l)) (λ_ _=>trivial);exact⟨H2,I,J,(λh=>by cases h),λh=>by cases h⟩
 obtain⟨H2,I,J,ag,m⟩:=j;refine⟨c::H2,⟨λba c U t=>mem_cons_of_mem _ (ag ba c U t),λba c U=>mem_cons_of_mem _ (m ba c U)⟩,g.size,g.defs,λs u f=>?_,⟨c,H2,rfl,ab,J⟩,f.fq ((I.append_right _).cons_cons _),h.sub,h.new,wM h.dP (λq ak=>by have I:=(h.dP _ _ ak).1;have J:=dS az;omega),h.base,λi x an=>h.eu i x an⟩;rw[cX]at f
 split at f
 ·rename_i e;subst e;cases f;exact⟨v,g.this,o⟩
 ·rename_i e
  obtain⟨y,A,rfl⟩:=rf f;obtain⟨r,ag,p⟩:=h.has s y A;exact⟨r,g.other e ag,e7.sub (z:=.dead) (ku) (λ_ _=>trivial) p⟩
def uX(X:bz)(n:Nat)(st:aQ)(t:TypeId)(d:Nat)(cs:dT):Option (Bool×aQ):=
 match blt d n with
 |true=>some (true,⟨(d,.c (.ptr d 0))::gu d .dead st.L,(d,.cells t (tp d .dead cs))::eE d .dead st.H⟩)
 |false=>none
theorem abc{x:Operand}{t:TypeId}{g:Bool}{sa:bp}{st':aQ}{c:Bool}(i:o.op=.box t x)(p:o.guard=none)(b:o.dst=some d)(an:bx X st.L x=some (g,sa))(l:g=true)(ah:qn sa.cells=true)(ab:uX X n st t d sa.cells=some (c,st')):wL X n st o st':=by
 intro R W aD aq env B ai H a w ops KK h m;unfold uX at ab
 split at ab
 ·rename_i az
  cases ab;obtain⟨v,I,J⟩:=h.aJ an l;have q:cZ env B ai sa.cells v.cells.toList:=J.cells λc e=>by
   subst e;simp only[bp.cells,qn,Bool.and_true]at ah;exact dN.one ah J
  have j:=h.bW.aJ I;refine hM h.bW p b (dS az) (v:=.pointer (some ⟨w.heap.size,0,none⟩)) (w':=w.alloc (.cells v.cells.toList.toArray t)) (by simp[execOp,i,j,Instr.box,newVar,newRow,newObj,Sem.run]) λaU k=>?_
  obtain⟨H',f,ag⟩:=h.oR az (blk:=.cells t (tp d .dead sa.cells)) (sv:=.c (.ptr d 0)) (h.aT.Jd _ t) ⟨_,_,fx,rfl,cZ.sub (z:=.dead) ku (λ_ _=>trivial) q⟩ ⟨_,fx,rfl⟩ k;exact m _ _ _ _ ⟨λ_=>(Below.refl _ _).alloc (le_refl _) _,λ_ ba=>f.1 (by simpa [ri,b] using ba),λ_ ba=>f.2 (by simpa [uV,b] using ba)⟩ ag
 ·cases ab
theorem abd(i:X.aY.ok X.P){t:TypeId}{bB:cv}{st':aQ}{c:Bool}(f:o.op=.alloc t)(k:o.guard=none)(b:o.dst=some d)(dm:X.aY.find t=some bB)(ab:uX X n st t d (uS bB.aK.zero.cells.toList)=some (c,st')):wL X n st o st':=by
 intro R W aD aq env B ai H a w ops KK h j;unfold uX at ab
 split at ab
 ·rename_i az
  cases ab;have bF:=bK.se (cb.get i dm).aK;refine hM h.bW k b (dS az) (v:=.pointer (some ⟨w.heap.size,0,none⟩)) (w':=w.alloc (.cells bB.aK.zero.cells.toList.toArray t)) (by simp[execOp,f,Instr.alloc,bF,newVar,newRow,newObj,Sem.run]) λaU g=>?_
  obtain⟨H',e,ag⟩:=h.oR az (blk:=.cells t (tp d .dead (uS bB.aK.zero.cells.toList))) (sv:=.c (.ptr d 0)) (h.aT.Jd _ t) ⟨_,_,fx,rfl,cZ.sub (z:=.dead) ku (λ_ _=>trivial) (Bc _)⟩ ⟨_,fx,rfl⟩ g;exact j _ _ _ _ ⟨λ_=>(Below.refl _ _).alloc (le_refl _) _,λ_ ba=>e.1 (by simpa [ri,b] using ba),λ_ ba=>e.2 (by simpa [uV,b] using ba)⟩ ag
 ·cases ab
theorem bM.oS(h:bM X R W aD n aq env B ai H st a w){id:Nat}{b b':cC}(i:bj st.H id=some b):∃c K,e1 env B ai id b c/\j5 (H++aq.map dB) c K/\∀c' aU w',e1 env B ai id b' c'->bT (λk=>R k\/B k) ai (K c') w'->dh n (j9 aq aD) (full a) aU->∃H',bM X R W aD n aq env B ai H' ⟨st.L,e8 id b' st.H⟩ aU w':=by
 obtain⟨c,K,I,J,ag⟩:=h.heap.put i;refine⟨c,_,I,J.more,λc' aU w' ab f d=>⟨K c',d.size,d.defs,λs u hu=>?_,ag b' c' ab,f,h.sub,h.new,h.dP,h.base,h.eu⟩⟩;obtain⟨j,g,e⟩:=h.has s u hu;exact⟨j,d.same g,e⟩
def Bl(X:bz)(st:aQ)(t:TypeId)(x y:bp):Option (Bool×aQ):=
 match X.aY.find t,qn y.cells with
 |some bB,true=>match beq y.cells.length bB.aK.size,x with
  |true,.c (.ptr id o)=>match bj st.H id with
   |some (.cells a cs)=>match qm cs o y.cells with
    |some r=>some (true,⟨st.L,e8 id (.cells a r) st.H⟩)
    |none=>none
   |_=>none
  |true,.c (.fg id b i o)=>match bj st.H id with
   |some (.row a g l cap)=>match beq b g.size,pB g (l.getD i g.zero) 0 g.size with
    |true,some cs=>match qm cs o y.cells with
     |some r=>match dec g r with
      |some (c,z,_)=>some (decide (i<l.length)&&c,⟨st.L,e8 id (.row a g (l.set i z) cap) st.H⟩)
      |none=>none
     |none=>none
    |_,_=>none
   |_=>none
  |_,_=>none
 |_,_=>none
theorem abe{t e:TypeId}{i:bK}{x y:Operand}{b p:Nat}{cs d:bY}{v:Value}{D:List Deferred}{L:List (Nat×Value)}{K:bo->cI}{ops:Array Oper}{KK:Act->World->Prop}(c:Sym n D L B ai H a w)(f:o.op=.store t x y)(j:o.guard=none/\o.dst=none)(hi:bK.ok X.P t i)(an:Go.Proofs.YtijeenjclhajhaaGreatDoor.aJ L x=some (.pointer (some ⟨b,p,none⟩)))(aG:Go.Proofs.YtijeenjclhajhaaGreatDoor.aJ L y=some v)(l:v.cells.size=i.size)(J:∀u∈v.cells.toList,u.oneCell'=true)(aC:j5 H (.hN b cs e) K)(g:sk cs p v.cells.toList d)(h:∀aU w',Sym n D L B ai (K (.hN b d e)) aU w'->KK aU w'):fj X.P ops o KK a w:=by
 obtain⟨ag,q⟩:=g.eq;have ah:v.cells.toList.length=v.cells.size:=by simp
 have m:=Z3 hi (Ji c.aT aC) l J (by omega);refine PK c j (w':=_) (by simp[execOp,f,c.aJ an,c.aJ aG,Instr.storeAt,Instr.sureAddr,m];rfl) (H':=K (.hN b d e)) ?_ h;refine c.aT.Z1 aC ⟨rfl,rfl,rfl,by simp⟩ ?_ λk aa=>setRow_other w b k _ aa
 rw[setRow_heap w b cs.toArray _ e _ (Ji c.aT aC),ag,ah];simp only[append_assoc]
theorem EG{t e:TypeId}{i:bK}{x y:Operand}{g j c m size:Nat}{xs:bY}{v:Value}{D:List Deferred}{L:List (Nat×Value)}{K:bo->cI}{ops:Array Oper}{KK:Act->World->Prop}(d:Sym n D L B ai H a w)(z:o.op=.store t x y)(C:o.guard=none/\o.dst=none)(hi:bK.ok X.P t i)(an:Go.Proofs.YtijeenjclhajhaaGreatDoor.aJ L x=some (.pointer (some ⟨g,j,none⟩)))(aG:Go.Proofs.YtijeenjclhajhaaGreatDoor.aJ L y=some v)(p:v.cells.size=i.size)(J:∀u∈v.cells.toList,u.oneCell'=true)(aC:j5 H (.row (some ⟨g,0,none⟩) c e size m xs) K)(l:j+v.cells.toList.length<=m * size)(h:∀aU w',Sym n D L B ai (K (.row (some ⟨g,0,none⟩) c e size m (xs.take j++v.cells.toList++xs.drop (j+v.cells.toList.length)))) aU w'->KK aU w'):fj X.P ops o KK a w:=by
 have r:=d.aT.ok _ aC.mem;have I:=r.1
 generalize k:v.cells.toList=vs at J l h
 have G:vs.length=i.size:=by rw[<- k];simpa using p
 rcases r.2 with⟨aO,_⟩|⟨g',cur,dY,ad,qi,aP,mh,py,j6,jg,jP⟩
 ·cases aO
 ·have:g=g':=by injection ad with ad;injection ad
  subst this;have F:m * size<=cur.size:=by rw[jg];exact mul_le_mul_right _ py
  have A:=le_trans l F;have c7:=run_storeCells_cells (P:=X.P) g j vs 0 w (λq b=>by
    simp only[World.cell?,aP]
    simp;omega) (λq b=>by
    simp only[World.frozen?,aP]
    rcases mh with h|h
    ·simp;omega
    ·simp;omega) J
  simp only[add_zero]at c7;rw[A6 g e dY vs j w cur aP A]at c7;have E:(storeVar t ⟨g,j,none⟩ v).run X.P w=.ok () (w.setRow g (cur.toList.take j++vs++cur.toList.drop (j+vs.length)).toArray):=by
   unfold storeVar
   simp[bK.run_sizeOf hi,p]
   rw[k];rw[append_assoc]at c7;exact c7
  refine PK d C (w':=w.setRow g (cur.toList.take j++vs++cur.toList.drop (j+vs.length)).toArray) (by simp only[execOp,z,d.aJ an,d.aJ aG,Instr.storeAt,Instr.sureAddr,Sem.run_bind,Sem.run_pure,Result.andThen_ok,E]) ?_ h;refine d.aT.wC aC ⟨rfl,rfl,rfl,by simp,λq b=>setRow_other w g q _ (λf=>by subst f;exact qi b)⟩ (c':=.row (some ⟨g,0,none⟩) c e size m (xs.take j++vs++xs.drop (j+vs.length))) ?_ (λq b=>.inl b) λq _ b=>setRow_other w g q _ (λf=>b (by subst f;rfl))
  have s:(cur.toList.take j++vs++cur.toList.drop (j+vs.length)).length=cur.size:=by simp;omega
  refine⟨by simp;omega,.inr ⟨g,_,dY,rfl,qi,setRow_heap w g cur _ e _ aP,?_,py,j6,?_,?_⟩⟩
  ·rcases mh with h|h
   ·exact .inl h
   ·exact .inr (by rw[size_toArray,s];exact h)
  ·rw[size_toArray,s];exact jg
  ·show(cur.toList.take j++vs++cur.toList.drop (j+vs.length)).take (m * size)=_
   rw[<- jP,take_take,min_eq_left (by omega),take_append,take_of_length_le (by simp;omega),drop_take]
   congr 2
   simp;omega
theorem abg(au:X.aY.ok X.P){x y:Operand}{t:TypeId}{g g' c:Bool}{fS ei:bp}{st':aQ}(d:o.op=.store t x y)(Q:o.guard=none)(S:o.dst=none)(an:bx X st.L x=some (g,fS))(af:g=true)(aG:bx X st.L y=some (g',ei))(ax:g'=true)(ab:Bl X st t fS ei=some (c,st'))(U:c=true):wL X n st o st':=by
 intro R W aD aq env B ai H a w ops KK h O;obtain⟨vx,V,ac⟩:=h.aJ an af;obtain⟨vy,T,aa⟩:=h.aJ aG ax;unfold Bl at ab
 split at ab
 ·rename_i bB dm G
  have hi:=(cb.get au dm).aK;have q:cZ env B ai ei.cells vy.cells.toList:=aa.cells λc e=>by
   subst e;simp only[bp.cells,qn,Bool.and_true]at G;exact dN.one G aa
  have Z:=q.jH G;have Y:=q.length
  split at ab
  ·rename_i id p E
   split at ab
   ·rename_i v cs C
    split at ab
    ·rename_i r ak
     cases ab;obtain⟨b,he,rfl⟩:=ac;obtain⟨eQ,K,⟨b',vs,f,rfl,ah⟩,aC,F⟩:=h.oS (b':=.cells v r) C;rw[he]at f;cases f;obtain⟨s,I,J⟩:=Bi ah q ak;refine abe h.sym d ⟨Q,S⟩ hi V T (by rw[<- eq_of_beq_eq_true E,<- Y];simp) Z aC I λaU w' bE=>?_
     obtain⟨H',ag⟩:=F _ aU w' ⟨b,s,he,rfl,J⟩ bE.aT bE.st;exact O _ _ _ _ ⟨λh=>(by rw[d]at h;cases h),λh=>(by rw[d]at h;cases h),λh=>(by rw[d]at h;cases h)⟩ ag
    ·cases ab
   ·cases ab
  ·rename_i id aL i p E
   split at ab
   ·rename_i v g l cap C
    split at ab
    ·rename_i cs aj aB
     split at ab
     ·rename_i r ak
      split at ab
      ·rename_i c' z rr az
       cases ab;simp only[and_eq_true,decide_eq_true_eq]at U;obtain⟨D,ay⟩:=U;obtain⟨b,cc,m,he,rfl⟩:=ac;have al:=eq_of_beq_eq_true aj;subst al;obtain⟨eQ,K,⟨A,k,xs,f,rfl,P,aA⟩,aC,F⟩:=h.oS (b':=.row v g (l.set i z) cap) C;rw[he]at f;cases f;have aF:l[i]?=some (l.getD i g.zero):=by rw[List.getD_eq_getElem?_getD,getElem?_eq_getElem D];rfl
       have am:=Flat.get (λ_ _=>bN.length) P aF;obtain⟨us,⟨aJ,ao⟩,ap⟩:=bN.cells am aB;have hmul:(i+1) * g.size<=l.length * g.size:=mul_le_mul_right _ D;rw[add_mul,one_mul]at hmul;have ar:us=(xs.drop (i * g.size)).take g.size:=by
        apply List.ext_getElem?
        intro j
        by_cases N:j<us.length
        ·have:=ao j us[j] (getElem?_eq_getElem N)
         rw[zero_add]at this;rw[this,getElem?_eq_getElem N]
        ·rw[List.getElem?_eq_none (by omega),List.getElem?_eq_none (by simp;omega)]
       obtain⟨s,I,J⟩:=Bi ap q ak;obtain⟨aO,aH,u,ag,aK⟩:=so J az ay;obtain⟨M,aI⟩:=I.eq;have aM:=bN.length ag;have aN:s.length=g.size:=by rw[M];simp only[length_append,length_take,length_drop];omega
       have aE:aH=[]:=by
        have:=congrArg length u
        rw[length_append]at this;exact eq_nil_of_length_eq_zero (by omega)
       rw[aE,append_nil]at u;subst u;have ad:=Flat.set (λ_ _=>bN.length) P D ag;refine EG h.sym d ⟨Q,S⟩ hi V T (by rw[<- eq_of_beq_eq_true E,<- Y];simp) Z aC (by omega) λaU w' bE=>?_
       have L:(l.set i z).length=l.length:=by simp
       obtain⟨H',av⟩:=F _ aU w' ⟨some ⟨b,0,none⟩,cc,_,by rw[L];exact he,by rw[L],ad,aA⟩ (by
        have e:xs.take (i * g.size+p)++vy.cells.toList++xs.drop (i * g.size+p+vy.cells.toList.length)=xs.take (i * g.size)++s++xs.drop (i * g.size+g.size):=by
         have ae:xs.drop (i * g.size+g.size)=(xs.drop (i * g.size+(p+vy.cells.toList.length))).drop (g.size-(p+vy.cells.toList.length)):=by rw[List.drop_drop];congr 1;omega
         have aw:xs.drop (i * g.size+p+vy.cells.toList.length)=xs.drop (i * g.size+(p+vy.cells.toList.length)):=by rw[add_assoc]
         rw[M,ar,take_take,min_eq_left (by omega),drop_take,List.drop_drop,List.take_add,ae,aw];simp only[append_assoc];rw[List.take_append_drop]
        rw[e]at bE;exact bE.aT) bE.st
       exact O _ _ _ _ ⟨λh=>(by rw[d]at h;cases h),λh=>(by rw[d]at h;cases h),λh=>(by rw[d]at h;cases h)⟩ av
      ·cases ab
     ·cases ab
    ·cases ab
   ·cases ab
  ·cases ab
 ·cases ab
end
end
section
section
variable {env env':Nat->Loc} {B:Nat->Prop} {w:World}
theorem bN.jH:∀ {g:aV} {x:g.D} {vs:bY},bN B w g x vs->∀u∈vs,u.oneCell'=true
 |.int _,_,_,h,u,hu=>by rw[show _=[_] from h]at hu;simp at hu;subst hu;rfl
 |.bool,_,_,h,u,hu=>by rw[show _=[_] from h]at hu;simp at hu;subst hu;rfl
 |.str,_,_,h,u,hu=>by rw[show _=[_] from h]at hu;simp at hu;subst hu;rfl
 |.aI _,_,_,⟨_,_,_,h,_⟩,u,hu=>by rw[h]at hu;simp at hu;subst hu;rfl
 |.ie _,_,_,⟨_,_,h,_⟩,u,hu=>by rw[h]at hu;simp at hu;subst hu;rfl
 |.unit,_,_,h,u,hu=>by rw[show _=[] from h]at hu;cases hu
 |.fn,x,_,h,u,hu=>by rw[show _=[_] from h]at hu;simp at hu;subst hu;cases x<;>rfl
 |.pair _ _,_,_,⟨a,b,e,I,J⟩,u,hu=>by
  rw[e]at hu
  rcases List.mem_append.1 hu with hu|hu
  ·exact bN.jH I u hu
  ·exact bN.jH J u hu
theorem Flat.jH{α:Type}{R:α->bY->Prop}(a:∀x vs,R x vs->∀u∈vs,u.oneCell'=true):∀ {l:List α} {vs:bY},Flat R l vs->∀u∈vs,u.oneCell'=true
 |[],_,h,u,hu=>by rw[show _=[] from h]at hu;cases hu
 |_::_,_,⟨b,c,e,I,J⟩,u,hu=>by
  rw[e]at hu
  rcases List.mem_append.1 hu with hu|hu
  ·exact a _ _ I u hu
  ·exact Flat.jH a J u hu
theorem bN.ff:∀g:aV,bN B w g g.zero g.ff
 |.int _=>rfl
 |.bool=>rfl
 |.str=>rfl
 |.aI _=>⟨none,0,[],rfl,le_refl _,zero_le _,rfl,Reads.nil _ _ _,λ_ _ h=>absurd h (lt_irrefl 0)⟩
 |.ie _=>⟨none,[],rfl,zero_le _,rfl,Reads.nil _ _ _,λ_ _ h=>absurd h (lt_irrefl 0)⟩
 |.unit=>rfl
 |.fn=>rfl
 |.pair g h=>⟨_,_,rfl,bN.ff g,bN.ff h⟩
theorem Flat.ff(g:aV):∀k:Nat,Flat (bN B w g) (replicate k g.zero) (ff g.ff k)
 |0=>rfl
 |k+1=>⟨g.ff,_,rfl,bN.ff g,Flat.ff g k⟩
theorem bG.take{id:Nat}:∀ {l:bC} {H:cI} {b:cC},bG env B w l H->bj l id=some b ->
  ∃c Y Z,e1 env B w id b c/\H=Y++c::Z/\∀(env':Nat->Loc) (z:bs),(∀j,j≠id->env' j=env j)->(∀v,dN env B w (.aI id) v->dN env' B w z v)->∃H2,H2.Sublist (Y++Z)/\bG env' B w (eE id z l) H2/\((∀b,env id≠.blk b)->∀c∈Y++Z,jv c=true->c∈H2)
 |[],_,_,_,h=>by cases h
 |(k,b')::l,H,b,⟨c,H',e,I,J⟩,h=>by
  rw[cX]at h;subst e
  split at h
  ·rename_i e
   subst e;cases h;refine⟨c,[],H',I,rfl,λenv' z he bF=>?_⟩;have g:∃H2,H2.Sublist H'/\bG env' B w (eE id z l) H2/\((∀b,env id≠.blk b)->∀c∈H',jv c=true->c∈H2):=by
    by_cases ab:∀b,env id≠.blk b
    ·obtain⟨H2,ag,a,d⟩:=bG.Js he bF J (λb c _ f=>f.pA λt cs e=>by
      subst e;obtain⟨b',_,e,_⟩:=f;exact ab _ e)
     exact⟨H2,ag,a,λ_=>d⟩
    ·obtain⟨H2,ag,a⟩:=bG.del he bF J
     exact⟨H2,ag,a,λh=>absurd h ab⟩
   obtain⟨H2,ag,a,d⟩:=g;refine⟨H2,ag,?_,d⟩;unfold eE;rw[beq_refl];exact a
  ·rename_i e
   obtain⟨c',Y,Z,ag,a,d⟩:=bG.take J h;have aa:beq k id=false:=by
    cases ab:beq k id with
    |false=>rfl
    |true=>exact absurd (eq_of_beq_eq_true ab).symm e
   refine⟨c',c::Y,Z,ag,by rw[a];rfl,λenv' z he bF=>?_⟩;obtain⟨H2,i,m,n⟩:=d env' z he bF;refine⟨c::H2,i.cons_cons _,?_,λab c' eh o=>?_⟩
   ·unfold eE
    rw[aa];exact⟨c,H2,rfl,I.sub he bF (ne_of_beq_eq_false aa),m⟩
   ·rw[cons_append]at eh
    rcases List.mem_cons.1 eh with rfl|eh
    ·exact mem_cons_self ..
    ·exact mem_cons_of_mem _ (n ab c' eh o)
end
section
variable {X:bz} {R:Nat->Prop} {W:World} {aD:fk} {n:Nat} {aq:bX} {env:Nat->Loc} {B:Nat->Prop} {ai:World} {H:cI} {st:aQ} {a aU:Act} {w w':World} {o:Oper} {d:Nat}
theorem bM.EH(h:bM X R W aD n aq env B ai H st a w){id:Nat}{b b':cC}(r:bj st.H id=some b)(cW:∀q,¬aD.p id q):∃c K,e1 env B ai id b c/\j5 (H++aq.map dB) c K /\
  ∀(l:Loc) c' aU w' sv v,e1 (lP env id l) B ai id b' c'->e7 (lP env id l) B ai sv v->bT (λk=>R k\/B k) ai (K c') w'->dh n (j9 aq aD) ((d,v)::full a) aU ->
   ∃H',((∀b,env id≠.blk b)->∀c'∈H,jv c'=true->c'≠c->c'∈H')/\bM X R W aD n aq (lP env id l) B ai H' ⟨(d,sv)::gu id .dead st.L,(id,b')::eE id .dead st.H⟩ aU w':=by
 obtain⟨c,Y,Z,I,J,ag⟩:=h.heap.take r;refine⟨c,λz=>Y++z::(Z++aq.map dB),I,⟨Y,Z++aq.map dB,by rw[J];simp,rfl⟩,λl c' aU w' sv v ab j m f=>?_⟩;obtain⟨H2,o,i,A⟩:=ag (lP env id l) .dead ku (λ_ _=>trivial);refine⟨c'::H2,λab q ao C t=>mem_cons_of_mem _ (A ab q (by
  rw[J]at ao
  rcases List.mem_append.1 ao with ao|ao
  ·exact mem_append_left _ ao
  ·rcases List.mem_cons.1 ao with e|ao
   ·exact absurd e t
   ·exact mem_append_right _ ao) C),f.size,f.defs,λs u hu=>?_,⟨c',H2,rfl,ab,i⟩,?_,h.sub,h.new,wM h.dP cW,h.base,h.eu⟩
 ·rw[cX]at hu
  split at hu
  ·rename_i e;subst e;cases hu;exact⟨v,f.this,j⟩
  ·rename_i e
   obtain⟨D,E,rfl⟩:=rf hu;obtain⟨y,g,p⟩:=h.has s D E;exact⟨y,f.other e g,e7.sub (z:=.dead) ku (λ_ _=>trivial) p⟩
 ·have ak:(Y++c'::(Z++aq.map dB)).Perm (c'::(Y++Z++aq.map dB)):=by
   rw[append_assoc];exact perm_middle
  exact(m.perm ak).fq ((o.append_right _).cons_cons _)
def EI(X:bz)(L:c6)(size:Nat):List (Nat×Operand)->Nat->Option (Bool×dT)
 |[],_=>some (true,[])
 |(j,u)::r,k=>match beq j k,bx X L u,EI X L size r (k+1)with
  |true,some (g,x),some (c,l)=>match beq x.cells.length size,qn x.cells with
   |true,true=>some (g&&c,x.cells++l)
   |_,_=>none
  |_,_,_=>none
def EJ(g:aV):Nat->dT->Option (Bool×List g.D)
 |0,_=>some (true,[])
 |k+1,cs=>match dec g cs with
  |some (c,x,r)=>match EJ g k r with
   |some (c',l)=>some (c&&c',x::l)
   |none=>none
  |none=>none
def newRow(n:Nat)(st:aQ)(d:Nat)(t:TypeId)(g:aV)(l:List g.D)(cap:Option Nat):Option aQ:=
 match blt d n with
 |true=>some ⟨(d,.c (.aI d))::gu d .dead st.L,(d,.row t g l cap)::eE d .dead st.H⟩
 |false=>none
def Bn(X:bz)(n:Nat)(st:aQ)(t:TypeId)(N:Nat)(aB:List (Nat×Operand))(d:Nat):Option (Bool×aQ):=
 match X.aY.find t with
 |some ⟨⟨.slice e,_,_,_⟩,_⟩=>match X.aY.find e with
  |some ⟨bB,some g⟩=>match ble (N * bB.size) 16777216,beq aB.length N,EI X st.L bB.size aB 0 with
   |true,true,some (c,cs)=>match EJ g N cs with
    |some (c',l)=>match newRow n st d e g l (some N)with
     |some st'=>some (c&&c',st')
     |none=>none
    |none=>none
   |_,_,_=>none
  |_=>none
 |_=>none
theorem QD{env:Nat->Loc}{B:Nat->Prop}{w:World}{g:aV}:∀ {k:Nat} {cs:dT} {c:Bool} {l:List g.D} {vs:bY},cZ env B w cs vs->EJ g k cs=some (c,l)->c=true->l.length=k/\∃a b,vs=a++b/\Flat (bN B w g) l a
 |0,cs,c,l,vs,_,az,_=>by cases az;exact⟨rfl,[],vs,rfl,rfl⟩
 |k+1,cs,c,l,vs,h,az,U=>by
  simp only[EJ]at az
  split at az
  ·rename_i fD x r I
   split at az
   ·rename_i cK m J
    cases az;simp only[and_eq_true]at U;obtain⟨a,b,rfl,ag,i⟩:=so h I U.1;obtain⟨f,d,j,rfl,e⟩:=QD i J U.2;exact⟨by rw[length_cons,f],a++d,j,by rw[append_assoc],a,d,rfl,ag,e⟩
   ·cases az
  ·cases az
theorem cZ.append{env:Nat->Loc}{B:Nat->Prop}{w:World}:∀ {cs aL:dT} {vs us:bY},cZ env B w cs vs->cZ env B w aL us->cZ env B w (cs++aL) (vs++us)
 |[],_,_,_,h,a=>by rw[show _=[] from h];exact a
 |_::_,_,_,_,⟨v,r,e,I,J⟩,a=>⟨v,_,by rw[e];rfl,I,cZ.append J a⟩
theorem QE(h:bM X R W aD n aq env B ai H st a w){size:Nat}:∀ {aB:List (Nat×Operand)} {k:Nat} {c:Bool} {cs:dT},EI X st.L size aB k=some (c,cs)->c=true ->
  ∃vs:bY,(aB.map λp=>(p.1,a.eval p.2))=(vs.zipIdx k).map (λp=>(p.2,p.1))/\(∀v∈vs,v.cells.size=size)/\cZ env B ai cs (vs.flatMap λv=>v.cells.toList)
 |[],k,c,cs,ak,_=>by cases ak;exact⟨[],rfl,(λ_ h=>by cases h),rfl⟩
 |(j,u)::aB,k,c,cs,ak,U=>by
  simp only[EI]at ak
  split at ak
  ·rename_i g x c' l i hu o
   split at ak
   ·rename_i q d
    cases ak;simp only[and_eq_true]at U;obtain⟨v,I,J⟩:=h.aJ hu U.1;have b:cZ env B ai x.cells v.cells.toList:=J.cells λc e=>by
     subst e;simp only[bp.cells,qn,Bool.and_true]at d;exact dN.one d J
    obtain⟨vs,ag,m,f⟩:=QE h o U.2;refine⟨v::vs,?_,λu hu=>?_,?_⟩
    ·rw[map_cons,ag,zipIdx_cons,map_cons,h.bW.aJ I,eq_of_beq_eq_true i]
    ·rcases List.mem_cons.1 hu with rfl|hu
     ·rw[<- eq_of_beq_eq_true q,<- b.length];simp
     ·exact m u hu
    ·rw[flatMap_cons]
     exact b.append f
   ·cases ak
  ·cases ak
theorem QF(size:Nat):∀(vs:bY) (k:Nat) (done zs:bY),(∀v∈vs,v.cells.size=size)->done.length=k * size->zs.length=vs.length * size ->
  Instr.fill (λi=>some (i * size,size)) (done++zs).toArray ((vs.zipIdx k).map λp=>(p.2,p.1))=some (done++vs.flatMap λv=>v.cells.toList).toArray
 |[],k,done,zs,_,_,ah=>by
  have:zs=[]:=eq_nil_of_length_eq_zero (by simpa using ah)
  subst this;simp[Instr.fill]
 |v::vs,k,done,zs,b,az,ah=>by
  have c:=b v (by simp);have a:v.cells.toList.length=size:=by simpa using c
  have bF:size<=zs.length:=by rw[ah,length_cons,add_mul];omega
  have d:=QF size vs (k+1) (done++v.cells.toList) (zs.drop size) (λu hu=>b u (mem_cons_of_mem _ hu)) (by rw[length_append,az,a,add_mul];omega) (by rw[length_drop,ah,length_cons,add_mul];omega);have ak:=Jq v.cells.toList (done++zs) (k * size) 0 (by rw[length_append,az,a];omega);simp only[zipIdx_cons,map_cons,Instr.fill];rw[if_neg (by simp[c,az];omega)];rw[<- Array.foldl_toList];simp only[Array.toList_zipIdx];simp only[add_zero]at ak;rw[ak,<- az,take_left,a];have e:(done++zs).drop (done.length+size)=zs.drop size:=by rw[List.drop_append];simp
  simpa using d
theorem range_zero(z:bY)(k:Nat)(size:Nat)(b:z.length=size)(a:0<size):(range (k * size)).map (λj=>z.toArray[j % z.toArray.size]!)=(ff z k).toArray:=by
 subst b;exact PZ z a k
theorem abo{P:Program}{t e:TypeId}{i:bK}{N:Nat}{vs:bY}{z:bY}{w:World}(bg:P.underlying t=some (.slice e))(hi:bK.ok P e i)(bF:i.zero.cells.toList=z)(a:z.length=i.size)(f:0<i.size)(a1:vs.length=N)(hle:N * i.size<=16777216)(d:∀v∈vs,v.cells.size=i.size) :
  (Instr.buildSlice t N ((vs.zipIdx.map λp=>(p.2,p.1)).toArray)).run P w=.ok (.slice (some ⟨w.heap.size,0,none⟩) N N) (w.alloc (.cells (vs.flatMap λv=>v.cells.toList).toArray e)):=by
 have c:=QF i.size vs 0 [] (ff z N) d (by simp) (by rw[A8,a,a1]);simp only[nil_append]at c;have jT:=range_zero z N i.size a f;have jU:i.zero.cells=z.toArray:=by rw[<- bF]
 unfold Instr.buildSlice;simp only[Sem.run_bind,run_underlying bg,Result.andThen_ok,bK.run_sizeOf hi];rw[if_neg (by omega)]
 by_cases b:N * i.size=0
 ·have g:N=0:=by
   rcases Nat.mul_eq_zero.1 b with h|h
   ·exact h
   ·omega
  subst g
  have:vs=[]:=eq_nil_of_length_eq_zero a1
  subst this;have j:(range 0)=#[]:=rfl
  simp[Instr.fill,newObj,Sem.run,Go.newRow,j]
 ·simp only[b,if_false,Sem.run_bind,bK.se hi,Result.andThen_ok,Sem.run_pure,jU]
  rw[jT]
  simp[c,Go.newRow,newObj,Sem.run]
theorem abq(k:X.aY.ok X.P){t:TypeId}{N:Nat}{aB:Array (Nat×Operand)}{c:Bool}{st':aQ}(E:o.op=.buildSlice t N aB)(O:o.guard=none)(m:o.dst=some d)(ab:Bn X n st t N aB.toList d=some (c,st'))(U:c=true):wL X n st o st':=by
 intro R W aD aq env B ai H a w ops KK h L;unfold Bn at ab
 split at ab
 ·rename_i e ae af aa aj aC
  split at ab
  ·rename_i bB g dm
   split at ab
   ·rename_i fD cs hle T D
    split at ab
    ·rename_i cK l S
     split at ab
     ·rename_i ad i
      cases ab;simp only[and_eq_true]at U;unfold Go.Proofs.YtijeenjclhajhaaGreatDoor.newRow at i
      split at i
      ·rename_i az
       cases i;obtain⟨b,z,A⟩:=(cb.get k dm).g g rfl;have hn:=(cb.get k dm).aK;dsimp only at b z hn;obtain⟨vs,I,J,ag⟩:=QE h D U.1;obtain⟨j,ah,Z,f,y⟩:=QD ag S U.2;have r:vs.length=N:=by
        have:=congrArg length I
        simp only[List.length_map,List.length_zipIdx]at this;rw[<- this];exact eq_of_beq_eq_true T
       have s:(vs.flatMap λv=>v.cells.toList).length=N * bB.size:=by
        rw[<- r]
        clear I ag f r
        induction vs with
        |nil=>simp
        |cons v vs M=>rw[flatMap_cons,length_append,M (λu hu=>J u (mem_cons_of_mem _ hu)),length_cons,add_mul,one_mul,length_toList,J v (by simp),add_comm]
       have Y:Z=[]:=by
        have F:=congrArg length f;rw[length_append,bN.rb y,j,s,b]at F;exact eq_nil_of_length_eq_zero (by omega)
       subst Y;rw[append_nil]at f;have Q:=abo (w:=w) (cb.get k aC).aK.1 hn z (by rw[<- bN.length (bN.ff (B:=B) (w:=ai) g)]at b;exact b) (by rw[<- b];exact A) r (le_of_ble_eq_true hle) J;have V:aB.map (λp=>(p.1,a.eval p.2))=((vs.zipIdx.map λp=>(p.2,p.1)).toArray):=by
        rw[<- I,<- map_toArray]
       refine hM h.bW O m (dS az) (v:=.slice (some ⟨w.heap.size,0,none⟩) N N) (w':=w.alloc (.cells (vs.flatMap λv=>v.cells.toList).toArray e)) (by
        simp only[execOp,E];rw[V]
        simp[Q]) λaU G=>?_
       have cW:=bT.aax (size:=g.size) (h.aT.Jd (vs.flatMap λv=>v.cells.toList) e) (by rw[s,b]) (by
        have:=le_of_ble_eq_true hle
        have ac:N<=N * bB.size:=Nat.le_mul_of_pos_right _ (by rw[<- b];exact A);omega)
       obtain⟨H',C,P⟩:=h.oR az (blk:=.row e g l (some N)) (sv:=.c (.aI d)) cW ⟨_,_,_,fx,by rw[j],by rw[f];exact y,λq K=>by cases K;rfl⟩ ⟨_,_,_,fx,by rw[j]⟩ G;exact L _ _ _ _ ⟨λ_=>(Below.refl _ _).alloc (le_refl _) _,λ_ ba=>C.1 (by simpa [ri,m] using ba),λ_ ba=>C.2 (by simpa [uV,m] using ba)⟩ P
      ·cases i
     ·cases ab
    ·cases ab
   ·cases ab
  ·cases ab
 ·cases ab
theorem QH{P:Program}{B:Nat->Prop}{ai w:World}{H:cI}{t e:TypeId}{i':bK}{z:bY}{m c:Nat}{k k':IntKind}(f:bT B ai H w)(g:P.underlying t=some (.slice e))(l:bK.ok P e i')(i:i'.zero.cells=z.toArray)(a:z.length=i'.size)(s:0<i'.size)(h:m<=c)(ab:i'.bytes * c<=140737488355328)(U:c<=140737488355328) :
  (Instr.makeSlice t (.int k (m:Int)) (.int k' (c:Int))).run P w=.ok (.slice (some ⟨w.heap.size,0,none⟩) m c) (w.alloc (.cells (ff z c).toArray e))/\bT B ai (.row (some ⟨w.heap.size,0,none⟩) c e i'.size m (ff z m)::H) (w.alloc (.cells (ff z c).toArray e)):=by
 obtain⟨inf,r,o,p,q⟩:=bK.info l;have n:(inf.bytes:Int) * (c:Int)<=281474976710656:=by
  have:((inf.bytes * c:Nat):Int)<=140737488355328:=by rw[p];omega
  omega
 constructor
 ·have d:=run_make w t e inf i'.zero g r q k k' m c (by omega) (by omega) n (by omega)
  simp only[Int.toNat_natCast]at d;rw[d];have bF:madeCells i'.zero.cells (c * inf.size)=(ff z c).toArray:=by
   rw[o,i,<- a];exact PZ z (by omega) c
  rw[bF]
 ·have bm:=f.alloc (.cells (ff z c).toArray e)
  have ak:=List.pairwise_cons.1 bm.apart;refine⟨bm.below,bm.base,λeQ iE=>?_,List.Pairwise.cons (λeQ iE b j=>ak.1 eQ iE b (by simpa [bo.has] using j)) ak.2⟩
  rcases List.mem_cons.1 iE with rfl|iE
  ·refine⟨by rw[A8,a],.inr ⟨w.heap.size,_,(0,0),rfl,f.fresh,heap_alloc_new w _,.inl rfl,h,by unfold maxLen;omega,by simp[A8,a],?_⟩⟩
   have:ff z c=ff z m++ff z (c-m):=by
    unfold ff;rw[<- List.flatten_append,List.replicate_append_replicate]
    congr 2
    omega
   rw[this,List.take_left' (by rw[A8,a])]
  ·exact bm.ok eQ (mem_cons_of_mem _ iE)
def yY:Option aV->aV->aV
 |some (.aI (.ie h)),.aI _=>.ie h
 |_,g=>g
theorem abt(a:Option aV)(g:aV):(yY a g).size=g.size/\(yY a g).ff=g.ff:=by
 unfold yY
 split<;>exact⟨rfl,rfl⟩
def Bq(X:bz)(n:Nat)(st:aQ)(t:TypeId)(x y:bp)(d:Nat):Option (Bool×aQ):=
 match X.aY.find t with
 |some ⟨⟨.slice e,_,_,_⟩,c⟩=>match X.aY.find e with
  |some ⟨⟨_,_,f,_⟩,some g⟩=>match x,y with
   |.c (.val (.int _ b)),.c (.val (.int _ a))=>match newRow n st d e (yY c g) (replicate b.toNat (yY c g).zero) (some a.toNat)with
    |some st'=>some (decide (0<=b)&&decide (b<=a)&&gR f a,st')
    |none=>none
   |_,_=>none
  |_=>none
 |_=>none
theorem abu(i:X.aY.ok X.P){t:TypeId}{x y:Operand}{g g' c:Bool}{fS ei:bp}{st':aQ}(K:o.op=.makeSlice t x y)(P:o.guard=none)(r:o.dst=some d)(an:bx X st.L x=some (g,fS))(M:g=true)(aG:bx X st.L y=some (g',ei))(S:g'=true)(ab:Bq X n st t fS ei d=some (c,st'))(U:c=true):wL X n st o st':=by
 intro R W aD aq env B ai H a w ops KK h z;obtain⟨vx,E,ac⟩:=h.aJ an M;obtain⟨vy,D,Z⟩:=h.aJ aG S;unfold Bq at ab
 split at ab
 ·rename_i e ag ah ad G aC
  split at ab
  ·rename_i aL A l aa g dm
   split at ab
   ·rename_i k s k' b
    split at ab
    ·rename_i af p
     cases ab;simp only[and_eq_true,decide_eq_true_eq]at U;obtain⟨⟨fm,jT⟩,jU⟩:=U;obtain⟨jU,tt⟩:=(Qf (by omega)).1 jU;unfold Go.Proofs.YtijeenjclhajhaaGreatDoor.newRow at p
     split at p
     ·rename_i az
      cases p;rw[show vx=_ from ac]at E;rw[show vy=_ from Z]at D;obtain⟨f,j,u⟩:=(cb.get i dm).g g rfl;obtain⟨T,ae,I,O⟩:=n4 (cb.get i aC).aK (cb.get i dm).aK;dsimp only at f j O;obtain⟨Y,V⟩:=abt G g;rw[<- Y]at f u;rw[<- V]at j
      generalize yY G g=g at f j u z ⊢
      have J:g.ff.length=A:=by rw[<- f];exact bN.length (bN.ff (B:=B) (w:=ai) g)
      obtain⟨C,cW⟩:=QH (i':=⟨aL,A,l,aa⟩) h.aT (cb.get i aC).aK.1 (cb.get i dm).aK (by rw[<- j]) J (by rw[<- f];exact u) (k:=k) (k':=k') (m:=s.toNat) (c:=b.toNat) (by omega) (by
       have:((l * b.toNat:Nat):Int)=(l:Int) * b:=by rw[Int.natCast_mul,Int.toNat_of_nonneg (by omega)]
       show l * b.toNat<=_;omega) (by omega)
      rw[Int.toNat_of_nonneg fm,Int.toNat_of_nonneg (by omega)]at C;refine hM h.bW P r (dS az) (v:=.slice (some ⟨w.heap.size,0,none⟩) s.toNat b.toNat) (w':=w.alloc (.cells (ff g.ff b.toNat).toArray e)) (by simp[execOp,K,h.bW.aJ E,h.bW.aJ D,C]) λaU L=>?_
      obtain⟨H',F,Q⟩:=h.oR az (blk:=.row e g (replicate s.toNat g.zero) (some b.toNat)) (sv:=.c (.aI d)) cW ⟨_,_,_,fx,by rw[List.length_replicate,f],Flat.ff g _,λq N=>by cases N;rfl⟩ ⟨_,_,_,fx,by rw[List.length_replicate]⟩ L;exact z _ _ _ _ ⟨λ_=>(Below.refl _ _).alloc (le_refl _) _,λ_ ba=>F.1 (by simpa [ri,r] using ba),λ_ ba=>F.2 (by simpa [uV,r] using ba)⟩ Q
     ·cases p
    ·cases ab
   ·cases ab
  ·cases ab
 ·cases ab
end
end
section
def nz(st:aQ)(g:aV):bp->Option (List g.D)
 |.c (.val (.slice none 0 0))=>some []
 |.c (.bJ g' l _)=>match decEq g' g with
  |isTrue h=>some (h ▸ l)
  |isFalse _=>none
 |.c (.aI id)=>match bj st.H id with
  |some (.row _ g' l _)=>match decEq g' g with
   |isTrue h=>some (h ▸ l)
   |isFalse _=>none
  |_=>none
 |_=>none
def dA(a k:Nat):Bool:=decide (k * a<=140737488355328)&&decide (k<=140737488355328)
def Br(X:bz)(n:Nat)(st:aQ)(t:TypeId)(x y:bp)(d:Nat):Option (Bool×aQ):=
 match X.aY.find t with
 |some ⟨⟨.slice e,_,_,_⟩,_⟩=>match X.aY.find e with
  |some ⟨⟨_,f,b,_⟩,some h⟩=>match x with
   |.c (.aI id)=>match bj st.H id with
    |some (.row i g l _)=>match blt d n&&blt id iG,beq i e,beq g.size f,nz st g y with
     |true,true,true,some a=>some (dA b (l.length+a.length),⟨(d,.c (.aI id))::gu id .dead st.L,(id,.row e g (l++a) none)::eE id .dead st.H⟩)
     |_,_,_,_=>none
    |_=>none
   |.c (.val (.slice none 0 0))=>match nz st h y with
    |some a=>match newRow n st d e h a none with
     |some st'=>some (dA b a.length,st')
     |none=>none
    |none=>none
   |.c (.bJ g l (some c))=>match beq g.size f,nz st g y with
    |true,some a=>match newRow n st d e g (l++a) none with
     |some st'=>some (dA b (l.length+a.length)&&decide (c=l.length)&&decide (0<l.length)&&decide (0<a.length),st')
     |none=>none
    |_,_=>none
   |_=>none
  |_=>none
 |_=>none
section
variable {X:bz} {R:Nat->Prop} {W:World} {aD:fk} {n:Nat} {aq:bX} {env:Nat->Loc} {B:Nat->Prop} {ai:World} {H:cI} {st:aQ} {a aU:Act} {w w':World} {o:Oper} {d:Nat}
theorem pz.lf{A:Option Addr}{m size:Nat}{xs:bY}(a:pz B ai A m size xs)(d:bT (λk=>R k\/B k) ai H w):Reads w A m size xs:=by
 refine⟨a.1.1,λc=>?_⟩;obtain⟨b,p,e,U⟩:=a.1.2 c;exact⟨b,p,e,λj u hu=>Jw (a.2 b p c e) (U j u hu) d⟩
theorem tu(h:bM X R W aD n aq env B ai H st a w){g:aV}{y:bp}{l:List g.D}{v:Value}(b:nz st g y=some l)(e:eb env B ai y v):∃A c xs,v=.slice A l.length c/\Flat (bN B ai g) l xs/\Reads w A l.length g.size xs:=by
 unfold nz at b
 split at b
 ·cases b
  exact⟨none,0,[],e,rfl,Reads.nil _ _ _⟩
 ·split at b
  ·rename_i d _
   subst d;cases b;obtain⟨A,c,xs,rfl,_,_,_,f,o⟩:=e;exact⟨A,c,xs,rfl,f,o.lf h.aT⟩
  ·cases b
 ·split at b
  ·rename_i j
   split at b
   ·rename_i d _
    subst d;cases b;obtain⟨A,c,m,he,rfl⟩:=e;obtain⟨eQ,K,⟨p,k',xs,i,rfl,f,_⟩,k⟩:=h.heap.gQ j;rw[he]at i;cases i;exact⟨A,c,xs,rfl,f,Reads.P7 h.aT k.more.mem⟩
   ·cases b
  ·cases b
 ·cases b
theorem abv(M:X.aY.ok X.P){t:TypeId}{x y:Operand}{g g' c:Bool}{fS ei:bp}{st':aQ}(f:o.op=.call ⟨.builtin .append,⟨[x,y]⟩,⟨[t,t]⟩⟩)(Q:o.guard=none)(C:o.dst=some d)(an:bx X st.L x=some (g,fS))(ax:g=true)(aG:bx X st.L y=some (g',ei))(aE:g'=true)(ab:Br X n st t fS ei d=some (c,st'))(U:c=true):wL X n st o st':=by
 intro R W aD aq env B ai H a w ops KK h N;obtain⟨vx,L,af⟩:=h.aJ an ax;obtain⟨vy,Y,ae⟩:=h.aJ aG aE;unfold Br at ab
 split at ab
 ·rename_i e aX aY aO aZ aC
  split at ab
  ·rename_i aL J aT av V dm
   obtain⟨r,ap,ad⟩:=(cb.get M dm).g V rfl;obtain⟨T,O,I,G⟩:=n4 (cb.get M aC).aK (cb.get M dm).aK;dsimp only at r ap G;have ag:av.cells.size=J:=by
    have:av.cells.toList.length=J:=by rw[ap,<- r];exact bN.length (bN.ff (B:=B) (w:=ai) V)
    simpa using this
   split at ab
   ·rename_i id
    split at ab
    ·rename_i aB g l cap ay
     split at ab
     ·rename_i p lR he S E
      cases ab;simp only[and_eq_true]at lR;obtain⟨az,aM⟩:=lR;have aA:=eq_of_beq_eq_true he;subst aA;have D:=eq_of_beq_eq_true S;simp only[dA,and_eq_true,decide_eq_true_eq]at U;obtain⟨ao,cK,Z,rfl,s,i⟩:=tu h E ae;obtain⟨A,c,m,aa,rfl⟩:=af;obtain⟨eQ,K,⟨u,k',xs,aw,rfl,P,_⟩,ar,aK⟩:=h.EH (b':=.row aB g (l++p) none) ay (λq ak=>by
       obtain⟨_,am,a7⟩:=h.dP _ _ ak;rw[aa]at am
       rcases a7 with⟨b,a7⟩|a7
       ·rw[<- am]at a7;cases a7
       ·have:=dS aM;omega)
      rw[aa]at aw;cases aw;rw[D]at ar i;refine Et h.sym f ⟨Q,C⟩ az O I rfl G (by rw[<- r];exact Nat.ble_eq_true_of_le ad) ag L Y ar i (Flat.jH (λ_ _=>bN.jH) s) U.1 U.2 λu c' aU w' bE=>?_
      obtain⟨H',F,z⟩:=aK (.row u c' (l.length+p.length)) _ aU w' (.c (.aI id)) _ ⟨u,c',xs++Z,by rw[fx,length_append],by rw[length_append],P.append s,λq v=>by cases v⟩ ⟨u,c',_,fx,rfl⟩ (by rw[D];exact bE.aT) bE.st;exact N _ _ _ _ ⟨λh=>(by rw[f]at h;cases h),λ_ _ c U ac=>F (λb=>by rw[aa];simp) c U ac (λe=>by rw[e]at ac;cases ac),λh=>(by rw[f]at h;cases h)⟩ z
     ·cases ab
    ·cases ab
   ·split at ab
    ·rename_i p E
     split at ab
     ·rename_i aF j
      cases ab;simp only[dA,and_eq_true,decide_eq_true_eq]at U;unfold Go.Proofs.YtijeenjclhajhaaGreatDoor.newRow at j
      split at j
      ·rename_i az
       cases j;obtain⟨ao,cK,Z,rfl,s,i⟩:=tu h E ae;rw[show vx=_ from af]at L;rw[r]at i;have aN:Sym n (j9 aq aD) (full a) (λk=>R k\/B k) ai (.row none 0 e J 0 []::(H++aq.map dB)) a w:=⟨h.bW,h.aT.uP e J⟩
       refine Et aN f ⟨Q,C⟩ az O I rfl G (by rw[<- r];exact Nat.ble_eq_true_of_le ad) ag L Y yK i (Flat.jH (λ_ _=>bN.jH) s) (by rw[zero_add];exact U.1) (by rw[zero_add];exact U.2) λu c' aU w' bE=>?_
       rw[zero_add,nil_append,<- r]at bE;obtain⟨H',F,z⟩:=h.oR az (l:=.row u c' p.length) (blk:=.row e V p none) (sv:=.c (.aI d)) bE.aT ⟨_,_,_,fx,rfl,s,λq v=>by cases v⟩ ⟨_,_,_,fx,rfl⟩ bE.st;exact N _ _ _ _ ⟨λh=>(by rw[f]at h;cases h),λ_ ba=>F.1 (by simpa [ri,C] using ba),λh=>(by rw[f]at h;cases h)⟩ z
      ·cases j
     ·cases ab
    ·cases ab
   ·rename_i g l cc
    split at ab
    ·rename_i p S E
     split at ab
     ·rename_i aF j
      cases ab;simp only[dA,and_eq_true,decide_eq_true_eq]at U;obtain⟨⟨⟨au,aS⟩,aj⟩,al⟩:=U;unfold Go.Proofs.YtijeenjclhajhaaGreatDoor.newRow at j
      split at j
      ·rename_i az
       cases j;have D:=eq_of_beq_eq_true S;obtain⟨ao,cK,Z,rfl,s,i⟩:=tu h E ae;obtain⟨A,c,xs,rfl,_,_,aH,P,aI⟩:=af;have aP:=aH _ rfl;have ah:=aI.lf h.aT;rw[D]at i ah;obtain⟨cH,aW,rfl,_⟩:=ah.2 aj;obtain⟨aR,aV,rfl,_⟩:=i.2 al;refine aaI h.sym f ⟨Q,C⟩ az O I rfl G (by rw[<- r];exact Nat.ble_eq_true_of_le ad) ag L Y aj al ah i (by omega) au.1 au.2 λaJ c' aU w' bE=>?_
       rw[<- D]at bE;obtain⟨H',F,z⟩:=h.oR az (l:=.row (some ⟨aJ,0,none⟩) c' (l++p).length) (blk:=.row e g (l++p) none) (sv:=.c (.aI d)) bE.aT ⟨_,_,_,fx,by rw[length_append],P.append s,λq v=>by cases v⟩ ⟨_,_,_,fx,by rw[length_append]⟩ bE.st;exact N _ _ _ _ ⟨λh=>(by rw[f]at h;cases h),λ_ ba=>F.1 (by simpa [ri,C] using ba),λh=>(by rw[f]at h;cases h)⟩ z
      ·cases j
     ·cases ab
    ·cases ab
   ·cases ab
  ·cases ab
 ·cases ab
def dV(id:Nat)(st:aQ):Option aQ:=
 match bj st.H id with
 |some (.row _ g l cap)=>some ⟨gu id (.bJ g l cap) st.L,eE id (.bJ g l cap) st.H⟩
 |_=>none
theorem bM.dV(h:bM X R W aD n aq env B ai H st a w){id:Nat}{st':aQ}(aC:dV id st=some st'):∃env' B' F H',bM X R W aD n aq env' B' F H' st' a w/\(∀k,B k->B' k)/\ds (λk=>R k\/B k) ai F/\∀c∈H,jv c=true->c∈H':=by
 unfold Go.Proofs.YtijeenjclhajhaaGreatDoor.dV at aC
 split at aC
 ·rename_i t g l cap E
  cases aC;obtain⟨c0,_,⟨A,k,ae,he,rfl,_,T⟩,af⟩:=h.heap.gQ E;have r:gP B ai (λq=>B q\/A.map (·.block)=some q) w:=⟨λq ao=>.inl ao,λq ao=>h.aT.below.block q (.inr ao)⟩
  obtain⟨c,Y,Z,⟨N,k',xs,d,rfl,O,_⟩,J,ag⟩:=(h.heap.up r).take E;rw[he]at d;cases d;have o:bo.row A k t g.size l.length xs∈H++aq.map dB:=by rw[J];simp
  have G:=h.aT.ok _ o;have I:∀q,A.map (·.block)=some q->¬(R q\/B q)/\q<w.heap.size:=λq ao=>(h.aT.ok _ o).lt ao
  have K:∀v,dN env (λq=>B q\/A.map (·.block)=some q) w (.aI id) v->dN env (λq=>B q\/A.map (·.block)=some q) w (.bJ g l cap) v:=by
   rintro v ⟨N,c',m,d,rfl⟩;rw[he]at d;cases d;exact⟨A,k,xs,rfl,G.le.1,G.le.2,T,O,Reads.P7 h.aT o,λb p _ e=>.inr (by rw[e];rfl)⟩
  obtain⟨H2,D,L,M⟩:=ag env (.bJ g l cap) (λ_ _=>rfl) K;have z:=h.aT.apart;rw[J,append_assoc,cons_append]at z;refine⟨env,_,w,H2,⟨h.size,h.defs,λs u hu=>?_,L,?_,λq ao=>.inl (h.sub q ao),λq ao=>?_,h.dP,h.base.trans ⟨h.aT.below.os,h.aT.below.tape,h.aT.below.output,h.aT.below.size,λq ao=>h.aT.below.block q (.inl ao)⟩,λi x an=>(h.eu i x an).up r⟩,λq ao=>.inl ao,h.aT.below,λc U y=>M (λb=>by rw[he];simp) c ?_ y⟩
  ·obtain⟨ac,ad,rfl⟩:=rf hu
   obtain⟨S,f,b1⟩:=h.has s ac ad;exact⟨S,f,e7.sub (λ_ _=>rfl) K (b1.up r)⟩
  ·have j:bT (λk=>R k\/B k) ai (H2++aq.map dB) w:=by
    have f:=h.aT;rw[J]at f;have ak:(Y++bo.row A k t g.size l.length xs::Z++aq.map dB).Perm (bo.row A k t g.size l.length xs::(Y++Z++aq.map dB)):=by
     simp only[append_assoc,cons_append];exact perm_middle
    exact(f.perm ak).fq (((D.append_right _)).cons _)
   refine⟨ds.refl _ _,λq ao=>?_,λc U=>(j.ok c U).base λb ab c2=>?_,j.apart⟩
   ·rcases ao with ao|ao|ao
    ·exact h.aT.base q (.inl ao)
    ·exact h.aT.base q (.inr ao)
    ·exact(I q ao).2
   ·rcases c2 with c2|c2|c2
    ·exact((j.ok c U).lt ab).1 (.inl c2)
    ·exact((j.ok c U).lt ab).1 (.inr c2)
    ·have aa:c∈Y++(Z++aq.map dB):=by
      rcases List.mem_append.1 U with U|U
      ·have:=D.subset U
       rcases List.mem_append.1 this with b1|b1
       ·exact mem_append_left _ b1
       ·exact mem_append_right _ (mem_append_left _ b1)
      ·exact mem_append_right _ (mem_append_right _ U)
     rw[List.pairwise_append,List.pairwise_cons]at z;obtain⟨_,⟨P,_⟩,V⟩:=z
     rcases List.mem_append.1 aa with b1|b1
     ·exact V c b1 _ mem_cons_self b ab c2
     ·exact P c b1 b c2 ab
  ·rcases ao with ao|ao
   ·exact(h.new q ao).imp_right λC=>⟨C.1,C.2.et (h.aT.below.block q (.inr ao))⟩
   ·exact .inr ⟨λQ=>(I q ao).1 (.inl Q),(h.aT.ok _ o).cells rfl ao⟩
  ·rw[J]at U
   rcases List.mem_append.1 U with U|U
   ·exact mem_append_left _ U
   ·rcases List.mem_cons.1 U with U|U
    ·rw[U]at y;cases y
    ·exact mem_append_right _ U
 ·cases aC
inductive u0(L:c6):c6->Prop where
 |nil:u0 L []
 |cons {k:Nat} {v:b8} {ea:c6} (aa:bj L k=some v) (h:u0 L ea):u0 L ((k,v)::ea)
inductive od(h:bC):bC->Prop where
 |nil:od h []
 |cons {k:Nat} {b:cC} {aR:bC} (aa:bj h k=some b) (ba:bj aR k=none) (ax:od h aR):od h ((k,b)::aR)
theorem u0.look{L ea:c6}(h:u0 L ea):∀s v,bj ea s=some v->bj L s=some v:=by
 induction h with
 |nil=>intro s v h;cases h
 |cons aa _ a=>
  intro s v h;rw[cX]at h
  split at h
  ·rename_i e;subst e;cases h;exact aa
  ·exact a s v h
def oe(id:Nat):bC->bC
 |[]=>[]
 |(k,b)::r=>match beq k id with
  |true=>r
  |false=>(k,b)::oe id r
theorem bG.erase{id:Nat}:∀ {l:bC} {H:cI} {b:cC},bG env B w l H->bj l id=some b->∃c H2,e1 env B w id b c/\H.Perm (c::H2)/\bG env B w (oe id l) H2
 |[],_,_,_,h=>by cases h
 |(k,b')::l,H,b,⟨c,H',e,I,J⟩,h=>by
  rw[cX]at h;subst e
  split at h
  ·rename_i e
   subst e;cases h;refine⟨c,H',I,List.Perm.refl _,?_⟩;unfold oe;rw[beq_refl];exact J
  ·rename_i e
   obtain⟨c',H2,ag,d,a⟩:=bG.erase J h;have aa:beq k id=false:=by
    cases ab:beq k id with
    |false=>rfl
    |true=>exact absurd (eq_of_beq_eq_true ab).symm e
   refine⟨c',c::H2,ag,(List.Perm.cons _ d).trans (List.Perm.swap _ _ _),?_⟩;unfold oe;rw[aa];exact⟨c,H2,rfl,I,a⟩
theorem QK{id k:Nat}(aa:k≠id):∀ {l:bC},bj (oe id l) k=bj l k
 |[]=>rfl
 |(j,b)::l=>by
  unfold oe
  split
  ·rename_i h
   have:j=id:=eq_of_beq_eq_true h
   subst this;rw[cX,if_neg aa]
  ·rw[cX,cX,QK aa]
theorem od.JV{l l':bC}(f:od l l'):∀ {H:cI},bG env B w l H->∃H' Y,H.Perm (H'++Y)/\bG env B w l' H':=by
 have key:∀ {l l':bC},(∀k b,bj l' k=some b->bj l k=some b)->(∀(p:Nat×cC) (Y Z:bC),l'=Y++p::Z->bj Z p.1=none)->∀ {H:cI},bG env B w l H->∃H' Y,H.Perm (H'++Y)/\bG env B w l' H':=by
  intro l l'
  induction l' generalizing l with
  |nil=>intro _ _ H h;exact⟨[],H,List.Perm.refl _,rfl⟩
  |cons p r a=>
   obtain⟨k,b⟩:=p;intro I J H h;have aa:=I k b (by rw[cX,if_pos rfl]);have ba:=J (k,b) [] r rfl;obtain⟨c,H2,ag,n,m⟩:=h.erase aa;obtain⟨H',Y,i,o⟩:=a (λj b' d=>by
    have g:j≠k:=λe=>by subst e;rw[ba]at d;cases d
    rw[QK g];exact I j b' (by rw[cX,if_neg g];exact d)) (λp Y Z e=>J p ((k,b)::Y) Z (by rw[e];rfl)) m
   exact⟨c::H',Y,n.trans (List.Perm.cons _ i),c,H',rfl,ag,o⟩
 intro H h;refine key (l':=l') ?_ ?_ h
 ·clear h
  induction f with
  |nil=>intro k b h;cases h
  |cons aa _ _ a=>
   intro j b' h;rw[cX]at h
   split at h
   ·rename_i e;subst e;cases h;exact aa
   ·exact a j b' h
 ·clear h
  induction f with
  |nil=>intro p Y Z e;cases Y<;>cases e
  |cons _ ba _ a=>
   intro p Y Z e;cases Y with
   |nil=>cases e;exact ba
   |cons q Y=>cases e;exact a p Y Z rfl
theorem bM.fq(h:bM X R W aD n aq env B ai H st a w){st':aQ}(dH:u0 st.L st'.L)(b:od st.H st'.H):∃H',bM X R W aD n aq env B ai H' st' a w:=by
 obtain⟨H',Y,I,J⟩:=b.JV h.heap;refine⟨H',h.size,h.defs,λs u hu=>h.has s u (dH.look s u hu),J,?_,h.sub,h.new,h.dP,h.base,h.eu⟩;have ak:(H++aq.map dB).Perm ((H'++aq.map dB)++Y):=by
  refine(I.append_right _).trans ?_;rw[append_assoc,append_assoc];exact(List.perm_append_comm).append_left _
 exact(h.aT.perm ak).fq (List.sublist_append_left _ _)
theorem bM.uP(h:bM X R W aD n aq env B ai H st a w){s id:Nat}{t:TypeId}{g:aV}(hid:∀q,¬aD.p id q)(c:bj st.L s=some (.c (.val (.slice none 0 0)))):∃env' H',bM X R W aD n aq env' B ai H' ⟨(s,.c (.aI id))::gu id .dead st.L,(id,.row t g [] none)::eE id .dead st.H⟩ a w:=by
 obtain⟨H2,I,J⟩:=h.heap.del (z:=.dead) (ku) (λ_ _=>trivial);obtain⟨v,ag,f⟩:=h.has _ _ c;refine⟨lP env id (.row none 0 0),.row none 0 t g.size 0 []::H2,h.size,h.defs,λq u hu=>?_,⟨_,H2,rfl,⟨none,0,[],fx,rfl,rfl,λ_ d=>by cases d⟩,J⟩,(h.aT.uP t g.size).fq ((I.append_right _).cons_cons _),h.sub,h.new,wM h.dP hid,h.base,h.eu⟩;rw[cX]at hu
 split at hu
 ·rename_i e;subst e;cases hu;exact⟨v,ag,none,0,0,fx,f⟩
 ·obtain⟨k,l,rfl⟩:=rf hu
  obtain⟨j,b,i⟩:=h.has q k l;exact⟨j,b,e7.sub (z:=.dead) ku (λ_ _=>trivial) i⟩
end
end
section
inductive QL where
 |ok (c:Bool) (st:aQ)
 |stop
def yZ(X:bz)(n:Nat)(st:aQ)(d:Option Nat):Op->Option (Bool×aQ)
 |.alloc t=>match d,X.aY.find t with
  |some d,some bB=>uX X n st t d (uS bB.aK.zero.cells.toList)
  |_,_=>none
 |.box t u=>match d,bx X st.L u with
  |some d,some (g,x)=>match qn x.cells,uX X n st t d x.cells with
   |true,some (c,st')=>some (g&&c,st')
   |_,_=>none
  |_,_=>none
 |.store t u v=>match d,bx X st.L u,bx X st.L v with
  |none,some (g,x),some (g',y)=>match Bl X st t x y with
   |some (c,st')=>some (g&&g'&&c,st')
   |none=>none
  |_,_,_=>none
 |.buildSlice t N aB=>match d with
  |some d=>Bn X n st t N aB.toList d
  |none=>none
 |.makeSlice t u v=>match d,bx X st.L u,bx X st.L v with
  |some d,some (g,x),some (g',y)=>match Bq X n st t x y d with
   |some (c,st')=>some (g&&g'&&c,st')
   |none=>none
  |_,_,_=>none
 |.call ⟨.builtin .append,⟨[u,v]⟩,⟨[t,a]⟩⟩=>match d,beq t a,bx X st.L u,bx X st.L v with
  |some d,true,some (g,x),some (g',y)=>match Br X n st t x y d with
   |some (c,st')=>some (g&&g'&&c,st')
   |none=>none
  |_,_,_,_=>none
 |_=>none
def u1(X:bz)(n:Nat)(L:c6)(H:bC)(o:Oper)(g:Bool):QL:=
 match wJ X ⟨L,H⟩ o.op,o.dst with
 |some (c,sa),some d=>match blt d n with
  |true=>.ok (!g || c) ⟨(d,.may g sa)::L,H⟩
  |false=>.stop
 |_,_=>.stop
def EN(L:c6):Op->Option ej
 |.move (.tmp s)=>match bj L s with
  |some (.cY xs)=>some xs
  |_=>none
 |.assign (.tmp s)=>match bj L s with
  |some (.cY xs)=>some xs
  |_=>none
 |_=>none
def kX(X:bz)(n:Nat)(cP:List (Option Nat)):aQ->Oper->QL
 |⟨L,H⟩,o=>match o.guard with
  |none=>match wJ X ⟨L,H⟩ o.op with
   |some (c,sa)=>match o.dst with
    |some d=>match blt d n with
     |true=>.ok c ⟨(d,.a sa)::L,H⟩
     |false=>.stop
    |none=>.stop
   |none=>match EN L o.op with
    |some xs=>match o.dst with
     |some d=>match blt d n with
      |true=>.ok true ⟨(d,.cY xs)::L,H⟩
      |false=>.stop
     |none=>.stop
    |none=>match yZ X n ⟨L,H⟩ o.dst o.op with
     |some (c,st')=>.ok c st'
     |none=>.stop
  |some (j,want)=>match nth cP j with
   |some (some s)=>match bj L s,want with
    |some (.a (.c (.val (.bool b)))),true=>u1 X n L H o b
    |some (.a (.c (.val (.bool b)))),false=>u1 X n L H o (!b)
    |some (.may g (.c (.val (.bool b)))),true=>u1 X n L H o (g&&b)
    |some (.may g (.c (.val (.bool b)))),false=>u1 X n L H o (g&&!b)
    |_,_=>.stop
   |_=>.stop
def eN(l:List Oper):List (Option Nat):=l.map (·.dst)
section
variable {X:bz} {R:Nat->Prop} {W:World} {aD:fk} {n:Nat} {aq:bX} {env:Nat->Loc} {B:Nat->Prop} {ai:World} {H:cI} {st st':aQ} {a aU:Act} {w w':World} {o:Oper} {d:Nat}
theorem abx(i:X.aY.ok X.P){c:Bool}(e:o.guard=none)(ab:yZ X n st o.dst o.op=some (c,st'))(U:c=true):wL X n st o st':=by
 unfold yZ at ab
 split at ab
 ·rename_i t b
  split at ab
  ·rename_i d bB az dm
   exact abd i b e az dm ab
  ·cases ab
 ·rename_i t u b
  split at ab
  ·rename_i d g x az hu
   split at ab
   ·rename_i c' j ah J
    cases ab;simp only[and_eq_true]at U;exact abc b e az hu U.1 ah J
   ·cases ab
  ·cases ab
 ·rename_i t u v b
  split at ab
  ·rename_i g x g' y az hu f
   split at ab
   ·rename_i c' j J
    cases ab;simp only[and_eq_true]at U;exact abg i b e az hu U.1.1 f U.1.2 J U.2
   ·cases ab
  ·cases ab
 ·rename_i t N aB b
  split at ab
  ·rename_i d az
   exact abq i b e az ab U
  ·cases ab
 ·rename_i t u v b
  split at ab
  ·rename_i d g x g' y az hu f
   split at ab
   ·rename_i c' j J
    cases ab;simp only[and_eq_true]at U;exact abu i b e az hu U.1.1 f U.1.2 J U.2
   ·cases ab
  ·cases ab
 ·rename_i u v t m b
  split at ab
  ·rename_i d g x g' y az bg hu f
   split at ab
   ·rename_i c' j J
    cases ab;simp only[and_eq_true]at U;have k:=eq_of_beq_eq_true bg;subst k;intro R W aD aq env B ai H a w ops KK h l;exact abv i b e az hu U.1.1 f U.1.2 J U.2 ops KK h l
   ·cases ab
  ·cases ab
 ·cases ab
theorem aby(h:bM X R W aD n aq env B ai H st a w){ops:Array Oper}{KK:Act->World->Prop}{sa:bp}{g:Bool}(ak:g=true->jG X st o sa)(hw:Region.wanted o (yielded ops a.tmps)=g)(e:o.dst=some d)(az:blt d n=true)(b:∀aU w' env' H',EF o st H w H' w'->bM X R W aD n aq env' B ai H' ⟨(d,.may g sa)::st.L,st.H⟩ aU w'->KK aU w'):fj X.P ops o KK a w:=by
 have put:∀v,dh n (j9 aq aD) ((d,v)::full a) (a.put o.dst v):=λv=>by rw[e];exact h.bW.put d v (dS az)
 cases g with
 |true=>
  obtain⟨v,I,J⟩:=ak rfl h;exact .inl ⟨hw,.inl ⟨v,w,J w (λ_=>h.aT),b _ _ _ _ ⟨λ_=>Below.refl _ _,λ_ _ c U _=>U,λ_ _ c U=>U⟩ (h.set ⟨λ_=>I,λh=>by cases h⟩ (put v))⟩⟩
 |false=>exact .inr ⟨hw,b _ _ _ _ ⟨λ_=>Below.refl _ _,λ_ _ c U _=>U,λ_ _ c U=>U⟩ (h.set ⟨(λh=>by cases h),λ_=>rfl⟩ (put undef))⟩
theorem y0{α β:Type}{f:α->β}:∀ {l:List α} {k:Nat} {y:β},nth (l.map f) k=some y->∃x,l[k]?=some x/\y=f x
 |[],_,_,h=>by cases h
 |x::_,0,_,h=>by cases h;exact⟨x,rfl,rfl⟩
 |_::r,k+1,_,h=>by obtain⟨x,I,J⟩:=y0 (l:=r) h;exact⟨x,by rw[getElem?_cons_succ];exact I,J⟩
theorem EO(f:X.aY.ok X.P){ops:Array Oper}{c g:Bool}(b:u1 X n st.L st.H o g=.ok c st')(U:c=true)(h:bM X R W aD n aq env B ai H st a w)(hw:Region.wanted o (yielded ops a.tmps)=g){KK:Act->World->Prop}(i:∀aU w' env' H',EF o st H w H' w'->bM X R W aD n aq env' B ai H' st' aU w'->KK aU w'):fj X.P ops o KK a w:=by
 unfold u1 at b
 split at b
 ·rename_i c' sa d ak j
  split at b
  ·rename_i az
   cases b;exact aby h (λe=>yV f ak (by rw[e]at U;simpa using U)) hw j az i
  ·cases b
 ·cases b
theorem JW(h:bM X R W aD n aq env B ai H st a w){xs:ej}(b:EN st.L o.op=some xs):∃v,e7 env B ai (.cY xs) v/\∀w,(execOp a.eval o).run X.P w=.ok (.value v) w:=by
 unfold EN at b
 split at b
 ·rename_i s c
  split at b
  ·rename_i ys d
   cases b;obtain⟨v,I,J⟩:=h.has _ _ d;exact⟨v,J,PL h.bW c (hs I)⟩
  ·cases b
 ·rename_i s c
  split at b
  ·rename_i ys d
   cases b;obtain⟨v,I,J⟩:=h.has _ _ d;exact⟨v,J,PM h.bW c (hs I)⟩
  ·cases b
 ·cases b
theorem sq(m:X.aY.ok X.P){l:List Oper}{c:Bool}(e:kX X n (eN l) st o=.ok c st')(U:c=true)(h:bM X R W aD n aq env B ai H st a w){KK:Act->World->Prop}(i:∀aU w' env' H',EF o st H w H' w'->bM X R W aD n aq env' B ai H' st' aU w'->KK aU w'):fj X.P l.toArray o KK a w:=by
 obtain⟨L,q⟩:=st;simp only[kX]at e
 split at e
 ·rename_i f
  split at e
  ·rename_i c' sa ak
   split at e
   ·rename_i d t
    split at e
    ·rename_i az
     cases e;obtain⟨v,I,J⟩:=yV m ak U h;exact hM h.bW f t (dS az) (J w (λ_=>h.aT)) λaU r=>i _ _ _ _ ⟨λ_=>Below.refl _ _,λ_ _ c U _=>U,λ_ _ c U=>U⟩ (h.set I r)
    ·cases e
   ·cases e
  ·split at e
   ·rename_i xs z
    split at e
    ·rename_i d t
     split at e
     ·rename_i az
      cases e;obtain⟨v,I,J⟩:=JW h z;exact hM h.bW f t (dS az) (J w) λaU r=>i _ _ _ _ ⟨λ_=>Below.refl _ _,λ_ _ c U _=>U,λ_ _ c U=>U⟩ (h.set I r)
     ·cases e
    ·cases e
   ·split at e
    ·rename_i c' D he
     cases e;exact abx m f he U _ _ h i
    ·cases e
 ·rename_i j want f
  split at e
  ·rename_i s u
   obtain⟨C,y,A⟩:=y0 u;have p:(l.toArray[j]?).bind (·.dst)=some s:=by simp[y,<- A]
   split at e
   ·rename_i b k
    obtain⟨v,I,J⟩:=h.has _ _ k;rw[show v=_ from J]at I;refine EO (st:=⟨L,q⟩) m e U h ?_ i;rw[oL h.sym f p (hs I)];cases b<;>rfl
   ·rename_i b k
    obtain⟨v,I,J⟩:=h.has _ _ k;rw[show v=_ from J]at I;refine EO (st:=⟨L,q⟩) m e U h ?_ i;rw[oL h.sym f p (hs I)];cases b<;>rfl
   ·rename_i g b k
    obtain⟨v,I,J,ag⟩:=h.has _ _ k;refine EO (st:=⟨L,q⟩) m e U h ?_ i;cases g with
    |true=>
     rw[show v=_ from J rfl]at I;rw[oL h.sym f p (hs I)];cases b<;>rfl
    |false=>
     rw[ag rfl]at I;rw[yM h.sym f p (hs I)]
     rfl
   ·rename_i g b k
    obtain⟨v,I,J,ag⟩:=h.has _ _ k;refine EO (st:=⟨L,q⟩) m e U h ?_ i;cases g with
    |true=>
     rw[show v=_ from J rfl]at I;rw[oL h.sym f p (hs I)];cases b<;>rfl
    |false=>
     rw[ag rfl]at I;rw[yM h.sym f p (hs I)]
     rfl
   ·cases e
  ·cases e
end
inductive Out where
 |done (c:Bool) (st:aQ)
 |stop (c:Bool) (st:aQ) (rest:List Oper)
def nB(X:bz)(n:Nat)(cP:List (Option Nat)):List Oper->Bool->aQ->Out
 |[],c,st=>.done c st
 |o::l,c,st=>match kX X n cP st o with
  |.ok c' st'=>nB X n cP l (c&&c') st'
  |.stop=>.stop c st (o::l)
def QM(X:bz)(R:Nat->Prop)(W:World)(aD:fk)(M:Bool)(n:Nat)(Q:Exit->aQ->Prop):Exit->Act->World->Prop:=λe a w=>∃st,Q e st/\mO X R W aD M n st a w
def hd(X:bz)(M:Bool)(n:Nat)(r:Option Nat)(c:Code)(st:aQ)(Q:Exit->aQ->Prop):Prop:=
 ∀R W aD a w,mO X R W aD M n st a w->mg r X.P c (QM X R W aD M n Q) a w
def gx(X:bz)(M:Bool)(n:Nat)(r:Option Nat)(ops:List Oper)(l:List Oper)(st:aQ)(Q:Exit->aQ->Prop):Prop:=
 ∀R W aD a w,mO X R W aD M n st a w->tk r X.P ops.toArray (QM X R W aD M n Q) l a w
section
variable {X:bz} {M:Bool} {n:Nat} {r:Option Nat} {st st':aQ} {Q rj:Exit->aQ->Prop} {fD cK c:Code} {ops l l':List Oper}
theorem JX:∀ {l:List Oper} {c c':Bool} {st st':aQ} {cP:List (Option Nat)},nB X n cP l c st=.done c' st'->c'=true->c=true
 |[],c,c',st,st',cP,h,U=>by cases h;exact U
 |o::l,c,c',st,st',cP,h,U=>by
  simp only[nB]at h
  split at h
  ·have:=JX h U
   simp only[and_eq_true]at this;exact this.1
  ·cases h
theorem QN:∀ {l rest:List Oper} {c c':Bool} {st st':aQ} {cP:List (Option Nat)},nB X n cP l c st=.stop c' st' rest->c'=true->c=true
 |[],rest,c,c',st,st',cP,h,U=>by cases h
 |o::l,rest,c,c',st,st',cP,h,U=>by
  simp only[nB]at h
  split at h
  ·have:=QN h U
   simp only[and_eq_true]at this;exact this.1
  ·cases h;exact U
theorem QO(d:X.aY.ok X.P):∀ {l:List Oper} {c c':Bool} {st st':aQ},nB X n (eN ops) l c st=.done c' st'->c'=true->Q .normal st'->gx X M n r ops l st Q
 |[],c,c',st,st',h,U,b=>by
  cases h;intro R W aD a w ad;exact Jc ⟨_,b,ad⟩
 |o::l,c,c',st,st',h,U,b=>by
  simp only[nB]at h
  split at h
  ·rename_i cK i e
   have J:=JX h U;simp only[and_eq_true]at J;rintro R W aD a w ⟨aq,env,B,ai,H,f,ad⟩;exact nu (sq d e J.2 ad λaU w' env' H' _ g=>QO d h U b _ _ _ _ _ ⟨aq,env',B,ai,H',f,g⟩)
  ·cases h
theorem QP(d:X.aY.ok X.P):∀ {l rest:List Oper} {c c':Bool} {st st':aQ},nB X n (eN ops) l c st=.stop c' st' rest->c'=true->gx X M n r ops rest st' Q->gx X M n r ops l st Q
 |[],rest,c,c',st,st',h,U,b=>by cases h
 |o::l,rest,c,c',st,st',h,U,b=>by
  simp only[nB]at h
  split at h
  ·rename_i cK i e
   have J:=QN h U;simp only[and_eq_true]at J;rintro R W aD a w ⟨aq,env,B,ai,H,f,ad⟩;exact nu (sq d e J.2 ad λaU w' env' H' _ g=>QP d h U b _ _ _ _ _ ⟨aq,env',B,ai,H',f,g⟩)
  ·cases h;exact b
theorem cA(a:X.aY.ok X.P){c':Bool}(h:nB X n (eN ops) l true st=.done c' st')(U:c'=true)(b:Q .normal st'):gx X M n r ops l st Q:=QO a h U b
theorem qr(a:X.aY.ok X.P){c':Bool}{rest:List Oper}(h:nB X n (eN ops) l true st=.stop c' st' rest)(U:c'=true)(b:gx X M n r ops rest st' Q):gx X M n r ops l st Q:=QP a h U b
theorem gB{id:Nat}(h:gx X M n r l l st Q):hd X M n r (.region id l.toArray false) st Q:=λR W aD a w ad=>Jl (h R W aD a w ad)
def QQ(X:bz)(M:Bool)(n:Nat)(r:Option Nat)(c:Code)(Q:Exit->aQ->Prop):Exit->aQ->Prop
 |.normal,st=>hd X M n r c st Q
 |e,st=>Q e st
theorem JY(h:hd X M n r c st Q)(b:∀e st,Q e st->rj e st):hd X M n r c st rj:=λR W aD a w ad=>wpIn_mono (h R W aD a w ad) λe a w ⟨st,I,J⟩=>⟨st,b e st I,J⟩
theorem ek(h:hd X M n r fD st (QQ X M n r cK Q)):hd X M n r (.seq fD cK) st Q:=λR W aD a w ad=>by
 refine wpIn_seq (wpIn_mono (h R W aD a w ad) ?_);rintro e a w ⟨st',I,J⟩;cases e with
 |normal=>exact I R W aD a w J
 |_=>exact⟨st',I,J⟩
theorem ep{id:Nat}(h:gx X M n r l l st (QQ X M n r cK Q)):hd X M n r (.seq (.region id l.toArray false) cK) st Q:=ek (gB h)
theorem jX(h:Q .normal st):hd X M n r .skip st Q:=λR W aD a w ad=>PS ⟨st,h,ad⟩
theorem rk{id:Nat}(h:Q (.exit id) st):hd X M n r (.exit id) st Q:=λR W aD a w ad=>Jm ⟨st,h,ad⟩
theorem kc(h:Q .ret st):hd X M n r .ret st Q:=λR W aD a w ad=>Z7 ⟨st,h,ad⟩
theorem jY{x:Operand}{g b:Bool}(an:bx X st.L x=some (g,.c (.val (.bool b))))(f:g=true)(I:b=true->hd X M n r fD st Q)(e:b=false->hd X M n r cK st Q):hd X M n r (.cond x fD cK) st Q:=λR W aD a w ad=>by
 obtain⟨aq,env,B,ai,H,d,c⟩:=ad;obtain⟨v,J,ag⟩:=c.aJ an f;rw[show v=_ from ag]at J;exact PU c.sym J (λab=>I ab R W aD a w ⟨aq,env,B,ai,H,d,c⟩) (λab=>e ab R W aD a w ⟨aq,env,B,ai,H,d,c⟩)
def QR(id:Nat)(Q:Exit->aQ->Prop):Exit->aQ->Prop
 |.exit a,st=>match beq a id with
  |true=>Q .normal st
  |false=>Q (.exit a) st
 |e,st=>Q e st
theorem ky{id:Nat}(h:hd X M n r c st (QR id Q)):hd X M n r (.block id c) st Q:=λR W aD a w ad=>by
 refine PT (wpIn_mono (h R W aD a w ad) ?_);rintro e a w ⟨st',I,J⟩;cases e with
 |exit b=>
  simp only[QR]at I
  split at I
  ·rename_i ab
   have:=eq_of_beq_eq_true ab
   subst this;exact Z8 ⟨st',I,J⟩
  ·rename_i ab
   exact Z9 ab ⟨st',I,J⟩
 |_=>exact⟨st',I,J⟩
def bP(X:bz)(n:Nat)(st st':aQ):Prop:=∀R W aD M a w,mO X R W aD M n st a w->mO X R W aD M n st' a w
theorem bP.refl(st:aQ):bP X n st st:=λ_ _ _ _ _ _ h=>h
theorem bP.trans{a b c:aQ}(h:bP X n a b)(k:bP X n b c):bP X n a c:=λ_ _ _ _ _ _ ad=>k _ _ _ _ _ _ (h _ _ _ _ _ _ ad)
theorem bP.sub(dH:u0 st.L st'.L)(b:od st.H st'.H):bP X n st st':=λ_ _ _ _ _ _ ⟨aq,env,B,ai,H,a,ad⟩=>by
 obtain⟨H',h⟩:=ad.fq dH b;exact⟨aq,env,B,ai,H',a,h⟩
def EP(L:c6):bX->Option c6
 |[]=>some []
 |k::aq=>match bj L k,EP L aq with
  |some v,some r=>some ((k,v)::r)
  |_,_=>none
def u2(h:bC):bX->Option bC
 |[]=>some []
 |k::aq=>match bj h k,u2 h aq with
  |some b,some r=>match bj r k with
   |none=>some ((k,b)::r)
   |some _=>none
  |_,_=>none
theorem QS{L:c6}:∀ {aq:bX} {ea:c6},EP L aq=some ea->u0 L ea
 |[],_,h=>by cases h;exact .nil
 |k::aq,ea,h=>by
  unfold EP at h
  split at h
  ·rename_i v r I J
   cases h;exact .cons I (QS J)
  ·cases h
theorem y1{c:bC}:∀ {aq:bX} {a:bC},u2 c aq=some a->od c a
 |[],_,h=>by cases h;exact .nil
 |k::aq,a,h=>by
  unfold u2 at h
  split at h
  ·rename_i b r I J
   split at h
   ·rename_i ag
    cases h;exact .cons I ag (y1 J)
   ·cases h
  ·cases h
theorem bP.pick(aq a:bX){ea:c6}{H':bC}(I:EP st.L aq=some ea)(J:u2 st.H a=some H'):bP X n st ⟨ea,H'⟩:=bP.sub (QS I) (y1 J)
theorem bP.dV{id:Nat}(h:dV id st=some st'):bP X n st st':=λ_ _ _ _ _ _ ⟨aq,env,B,ai,H,a,ad⟩=>by
 obtain⟨env',B',b,H',h,_⟩:=ad.dV h;exact⟨aq,env',B',b,H',a,h⟩
theorem bP.nil(s id:Nat)(t:TypeId)(g:aV)(hid:blt id n=true)(a:bj st.L s=some (.c (.val (.slice none 0 0)))):bP X n st ⟨(s,.c (.aI id))::gu id .dead st.L,(id,.row t g [] none)::eE id .dead st.H⟩:=λ_ _ _ _ _ _ ⟨aq,env,B,ai,H,b,ad⟩=>by
 obtain⟨env',H',h⟩:=ad.uP (id:=id) (λq ak=>by have I:=(ad.dP _ _ ak).1;have J:=dS hid;omega) a;exact⟨aq,env',B,ai,H',b,h⟩
theorem kd(hw:bP X n st st')(h:hd X M n r c st' Q):hd X M n r c st Q:=λR W aD a w ad=>h R W aD a w (hw _ _ _ _ _ _ ad)
theorem wO(hw:bP X n st st')(h:gx X M n r ops l st' Q):gx X M n r ops l st Q:=λR W aD a w ad=>h R W aD a w (hw _ _ _ _ _ _ ad)
def QT(X:bz)(n:Nat){α:Type}(a6:α->aQ)(bQ:α->Prop)(m:α->Nat)(x:α)(Q:Exit->aQ->Prop):Exit->aQ->Prop
 |.normal,st=>∃y,bQ y/\m y<m x/\bP X n st (a6 y)
 |e,st=>Q e st
theorem abz{α:Type}(a6:α->aQ)(bQ:α->Prop)(m:α->Nat)(b:α)(f:bQ b)(hw:bP X n st (a6 b))(h:∀x,bQ x->hd X M n r c (a6 x) (QT X n a6 bQ m x Q)):hd X M n r (.loop c) st Q:=λR W aD a w ad=>by
 refine PV (λx a w=>bQ x/\mO X R W aD M n (a6 x) a w) m b ⟨f,hw _ _ _ _ _ _ ad⟩ λx a w ⟨i,ad⟩=>wpIn_mono (h x i R W aD a w ad) ?_
 rintro e a w ⟨st',I,J⟩;cases e with
 |normal=>
  obtain⟨y,ag,g,d⟩:=I;exact⟨y,⟨ag,d _ _ _ _ _ _ J⟩,g⟩
 |_=>exact⟨st',I,J⟩
theorem rl{α:Type}(a:α->c6){b:c6}(e:α->bC){d:bC}(bQ:α->Prop)(m:α->Nat)(f:α)(g:bQ f)(h:∀x,bQ x->hd X M n r c ⟨a x++b,e x++d⟩ (QT X n (λx=>⟨a x++b,e x++d⟩) bQ m x Q)):hd X M n r (.loop c) ⟨a f++b,e f++d⟩ Q:=
 abz (λx=>⟨a x++b,e x++d⟩) bQ m f g (bP.refl _) h
end
end
section
def y2(X:bz)(B:Nat->Prop)(w:World):Prop:=∀i x,X.Ey i=some x->uR B w i x
def wQ(X:bz)(env:Nat->Loc)(B:Nat->Prop)(H:cI)(W:World)(Q:b8->bC->Prop)(v:Value)(w':World):Prop:=
 ∃env' B' a H' sv c,Q sv c/\(∀k,B k->B' k)/\(∀k,B' k->B k\/(¬hc W H k/\tq a k))/\ds (hc W H) W a/\e7 env' B' a sv v/\bG env' B' a c H'/\bT (λk=>hc W H k\/B' k) a H' w'/\∀id l,(mi<=id/\∃b,l=.blk b)\/iG<=id->env id=l->env' id=l
def AC(X:bz)(f:FuncId)(args:ej)(h:bC)(Q:b8->bC->Prop):Prop:=
 ∀(B:Nat->Prop) (ai:World) (env:Nat->Loc) (vs:bY) (H:cI) (W:World),y2 X B ai->dO env B ai args vs->bG env B ai h H->bT B ai H W->q8 X.P f vs.toArray W (wQ X env B H W Q)
def JZ(X:bz)(st:aQ):ResultVar->Option (Bool×bp)
 |.tmp s=>bx X st.L (.tmp s)
 |.cell s t=>match bx X st.L (.tmp s)with
  |some (g,.c (.ptr id 0))=>match EB X st t (.c (.ptr id 0))with
   |some (c,x)=>some (g&&c,x)
   |none=>none
  |_=>none
def EU(X:bz)(st:aQ):List ResultVar->Option (Bool×ej)
 |[]=>some (true,[])
 |r::l=>match JZ X st r,EU X st l with
  |some (c,x),some (c',xs)=>some (c&&c',x::xs)
  |_,_=>none
def tw(X:bz)(st:aQ)(l:List ResultVar):Option (Bool×b8):=
 match EU X st l with
 |some (c,[x])=>some (c,.a x)
 |some (c,xs)=>some (c,.cY xs)
 |none=>none
def abA(X:bz)(n:Nat)(res:List ResultVar)(Q:b8->bC->Prop):Exit->aQ->Prop
 |.ret,st=>∃st',bP X n st st'/\∃c sv,tw X st' res=some (c,sv)/\c=true/\Q sv st'.H
 |.normal,st=>∃st',bP X n st st'/\∃c sv,tw X st' res=some (c,sv)/\c=true/\Q sv st'.H
 |_,_=>False
def rm:Nat->ej->c6
 |_,[]=>[]
 |k,x::r=>(k,.a x)::rm (k+1) r
section
variable {X:bz} {R:Nat->Prop} {W:World} {aD:fk} {n:Nat} {aq:bX} {env:Nat->Loc} {B:Nat->Prop} {ai:World} {H:cI} {st st':aQ} {a aU:Act} {w w':World}
theorem dO.length:∀ {xs:ej} {vs:bY},dO env B w xs vs->vs.length=xs.length
 |[],_,h=>by rw[show _=[] from h];rfl
 |_::_,_,⟨v,r,e,_,J⟩=>by rw[e,length_cons,length_cons,dO.length J]
theorem EV:∀ {xs:ej} {vs:bY} {k s:Nat} {sv:b8},dO env B w xs vs->bj (rm k xs) s=some sv->k<=s/\∃v,vs[s-k]?=some v/\e7 env B w sv v
 |[],_,_,_,_,_,h=>by cases h
 |x::xs,vs,k,s,sv,⟨v,r,e,I,J⟩,h=>by
  unfold rm at h;rw[cX]at h;subst e
  split at h
  ·rename_i e
   subst e;cases h;exact⟨le_refl _,v,by simp,I⟩
  ·obtain⟨ag,u,b,a⟩:=EV J h
   exact⟨by omega,u,by rw[show s-k=(s-(k+1))+1 by omega,getElem?_cons_succ];exact b,a⟩
def EW(tmps:Array Value):ResultVar->Sem Value
 |.tmp t=>pure (tmps.getD t undef)
 |.cell s t=>do loadVar t (<- asAddr (tmps.getD s undef))
theorem QU(fn:Func)(tmps:Array Value):results fn tmps=(do let vs <- fn.results.mapM (EW tmps);pure (if h:vs.size=1 then vs[0] else .tuple vs)):=by
 congr 1
theorem abB(av:X.aY.ok X.P)(h:bM X R W aD n aq env B ai H st a w){r:ResultVar}{c:Bool}{x:bp}(ax:JZ X st r=some (c,x))(U:c=true) :
  ∃v,eb env B ai x v/\∀w,bT (λk=>R k\/B k) ai (H++aq.map dB) w->(EW a.tmps r).run X.P w=.ok v w:=by
 cases r with
 |tmp s=>
  obtain⟨v,I,J⟩:=h.aJ (x:=.tmp s) ax U;refine⟨v,J,λw _=>?_⟩
  have:=h.bW.aJ I
  show(pure (a.eval (.tmp s)):Sem Value).run X.P w=_;rw[this]
  rfl
 |cell s t=>
  simp only[JZ]at ax
  split at ax
  ·rename_i g id aj
   split at ax
   ·rename_i c' y ah
    cases ax;simp only[and_eq_true]at U;obtain⟨v,I,b,he,rfl⟩:=h.aJ aj U.1;have J:=h.bW.aJ I
    obtain ⟨u, ag, ar⟩ := Qk (o := { dst := none, op := .load t (.tmp s), type := 0, pos := "", after := #[], guard := none }) av rfl aj U.1 (by rw [U.2] at ah; exact ah) h
    refine⟨u,ag,λw hw=>?_⟩;have aF:=ar w (λ_=>hw);have a7:a.tmps.getD s undef=.pointer (some ⟨b,0,none⟩):=J;simp only[execOp,J,Instr.loadAt,Instr.sureAddr]at aF;simp only[EW,a7,asAddr];simp only[Sem.run_bind,Sem.run_pure,Result.andThen_ok]at aF ⊢;cases ao:(loadVar t ⟨b,0,none⟩).run X.P w with
    |ok q iI=>
     rw[ao]at aF;cases aF
     rfl
    |halt q iI=>rw[ao]at aF;simp[Result.andThen]at aF
   ·cases ax
  ·cases ax
theorem J0(d:X.aY.ok X.P)(h:bM X R W aD n aq env B ai H st a w):∀ {l:List ResultVar} {c:Bool} {xs:ej},EU X st l=some (c,xs)->c=true ->
  ∃vs,dO env B ai xs vs/\∀w,bT (λk=>R k\/B k) ai (H++aq.map dB) w->(l.mapM (EW a.tmps)).run X.P w=.ok vs w
 |[],c,xs,b,_=>by cases b;exact⟨[],rfl,λw _=>by simp⟩
 |r::l,c,xs,b,U=>by
  simp only[EU]at b
  split at b
  ·rename_i fD x cK ys I J
   cases b;simp only[and_eq_true]at U;obtain⟨v,ag,g⟩:=abB d h I U.1;obtain⟨vs,f,e⟩:=J0 d h J U.2;refine⟨v::vs,⟨v,vs,rfl,ag,f⟩,λw hw=>?_⟩;rw[List.mapM_cons];simp only[Sem.run_bind,g w hw,Result.andThen_ok,e w hw,Sem.run_pure]
  ·cases b
theorem QV(f:X.aY.ok X.P)(h:bM X R W aD n aq env B ai H st a w){fn:Func}{l:List ResultVar}{c:Bool}{sv:b8}(aC:fn.results=l.toArray)(b:tw X st l=some (c,sv))(U:c=true) :
  ∃v,e7 env B ai sv v/\∀w,bT (λk=>R k\/B k) ai (H++aq.map dB) w->(results fn a.tmps).run X.P w=.ok v w:=by
 unfold tw at b
 split at b
 ·rename_i c' x I
  cases b;obtain⟨vs,J,ag⟩:=J0 f h I U;obtain⟨v,r,rfl,i,g⟩:=J
  have:r=[]:=g
  subst this;refine⟨v,i,λw hw=>?_⟩;rw[QU,aC]
  have:=ag w hw
  simp[this]
 ·rename_i c' xs d I
  cases b;obtain⟨vs,J,ag⟩:=J0 f h I U;refine⟨.tuple vs.toArray,⟨vs,rfl,J⟩,λw hw=>?_⟩;rw[QU,aC];have ah:=J.length
  have:¬vs.length=1:=λe=>by
   rw[e]at ah
   match xs,ah,d with
   |[x],_,d=>exact d x rfl
  simp[ag w hw,this]
 ·cases b
theorem pF(t:X.aY.ok X.P){f:FuncId}{fn:Func}{c:Code}{args:ej}{h:bC}{Q:b8->bC->Prop}{res:List ResultVar}(aC:X.P.funcs[f]?=some fn)(ab:fn.body=some c)(a1:fn.ntmps=n)(ah:ble args.length n=true)(ba:ble n mi=true)(u:fn.results=res.toArray)(A:hd X false n none c ⟨rm 0 args,h⟩ (abA X n res Q)):AC X f args h Q:=by
 intro B ai env vs H W r bm D j;have G:=bm.length;have hle:vs.length<=n:=by rw[G];exact le_of_ble_eq_true ah
 refine(callsIn_wide (n:=0)).1 (callsIn_of_wp aC ab trivial ?_);have o:gP B ai B W:=⟨λ_ h=>h,λk aa=>j.below.block k aa⟩
 have F:∀k,B k->hc W H k:=λk aa=>⟨j.base k aa,λc U e=>((j.ok c U).lt e).1 aa⟩
 have q:=Jp a1 hle _ rfl;have ad:bM X (hc W H) W ⟨B,λid l=>((mi<=id/\∃b,l=.blk b)\/iG<=id)/\env id=l,[]⟩ n [] env B W H ⟨rm 0 args,h⟩ { tmps:=vs.toArray++Array.replicate (fn.ntmps-vs.toArray.size) undef,defers:=[] } W:=by
  refine⟨q.size,rfl,λs sv K=>?_,D.up o,?_,λ_ h=>h,λ_ h=>.inl h,λid l ak=>⟨le_trans (le_of_ble_eq_true ba) (ak.1.elim (λh=>h.1) (λh=>le_trans (by decide) h)),ak.2,ak.1.imp (λh=>h.2) (λh=>h)⟩,ds.refl _ _,λi x an=>(r i x an).up o⟩
  ·obtain⟨_,v,I,J⟩:=EV bm K
   refine⟨v,?_,J.up o⟩;have z:=(List.getElem?_eq_some_iff.1 I).1;rw[Array.getElem?_append_left (by simpa using z)]
   simpa using I
  ·have I:=j.rest
   simp only[map_nil,append_nil];exact⟨ds.refl _ _,λk aa=>aa.elim (λh=>h.1) (λh=>j.base k h),λc U=>(I.ok c U).base λb ab aa=>aa.elim (λh=>((I.ok c U).lt ab).1 h) (λh=>((I.ok c U).lt ab).1 (F b h)),I.apart⟩
 refine wpIn_mono (A _ _ _ _ _ ⟨[],env,B,W,H,⟨λ_=>rfl,λh=>by cases h⟩,ad⟩) ?_;rintro e a w ⟨st,I,J⟩;have key:(∃st',bP X n st st'/\∃c sv,tw X st' res=some (c,sv)/\c=true/\Q sv st'.H)->a.defers=[]/\∃v,(results fn a.tmps).run X.P w=.ok v w/\wQ X env B H W Q v w:=by
  rintro⟨st',hw,c,sv,sj,U,eU⟩;obtain⟨aq,env',B',C,H',y,d⟩:=hw _ _ _ _ _ _ J;have E:=y.1 rfl;subst E;obtain⟨v,ag,m⟩:=QV t d u sj U;refine⟨d.defs,v,m w d.aT,env',B',C,H',sv,st'.H,eU,d.sub,d.new,d.base,ag,d.heap,by have:=d.aT;simpa using this,λid l g p=>(d.dP id l ⟨g,p⟩).2.1⟩
 cases e with
 |ret=>
  obtain⟨ag,v,m,g⟩:=key I;exact⟨ag,v,m,v,rfl,g⟩
 |normal=>
  obtain⟨ag,v,m,g⟩:=key I;exact⟨ag,v,m,v,rfl,g⟩
 |exit id=>exact I.elim
 |goto l=>exact I.elim
 |panic L=>exact I.elim
 |outgrown=>exact I.elim
end
end
end
end Go.Proofs.YtijeenjclhajhaaGreatDoor
