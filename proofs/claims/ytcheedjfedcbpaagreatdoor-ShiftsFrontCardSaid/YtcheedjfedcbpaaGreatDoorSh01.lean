/- Part 1 of 6 of the proof. -/
import Derived.WalkKit
import Derived.OwnWalkIn
import Derived.TacticsInMore
import Derived.OrdersIn
import Derived.RangeFuncCalls
import Derived.Below
import Derived.Laws.AppendOwn
import Derived.Laws.OwnMore
import Derived.Laws.CopyRow
import Derived.Laws.BitsAllLaws
import Derived.OrdersHeld
import Derived.MapKept
import Derived.Laws.StructEq
import Derived.Laws.IdiomCopy
import Derived.Laws.MakeOwn
import Derived.RangeFuncNested
import Derived.RangeFuncLeaves
import Derived.RangeFuncBound
import Derived.Laws.IdiomStrings
import Derived.ProofKit
import Derived.Deep.Slices
set_option linter.unusedSimpArgs false
set_option linter.unusedVariables false
set_option maxRecDepth 100000
namespace Go.Proofs.YtcheedjfedcbpaaGreatDoor
open Go.RowKit
section
def WF(r:Option Nat):Fence:={ Fence.wide with round:=r }
structure cW(n:Nat) (D:List Deferred) (L:List (Nat×Value)) (a:Act):Prop where
 size:a.tmps.size=n
 defs:a.defers=D
 has:∀ s v,L.lookup s=some v->a.tmps[s]?=some v
def aD(L:List (Nat×Value)):Operand->Option Value
 | .tmp s=>L.lookup s
 | .const v=>some v
 | .global g=>some (.pointer (some ⟨g,0,none⟩))
 | .func f=>some (.func (.func f) #[] #[])
def iz(L:List (Nat×Value)):List Operand->Option (List Value)
 | []=>some []
 | x :: xs=>match aD L x,iz L xs with
  | some v,some l=>some (v :: l)
  | _,_=>none
section
variable {n:Nat} {D:List Deferred} {L:List (Nat×Value)} {a:Act}
theorem cW.aD(h:cW n D L a) {x:Operand} {v:Value} (aj:aD L x=some v):a.eval x=v:=by
 cases x with
 | tmp s=>
  have J:=h.has s v aj;show a.tmps.getD s undef=v;rw[Array.getD_eq_getD_getElem?,J]; rfl
 | const u=>exact Option.some.inj aj
 | global g=>exact Option.some.inj aj
 | func f=>exact Option.some.inj aj
theorem cW.iz(h:cW n D L a):∀ {xs:List Operand} {vs:List Value},iz L xs=some vs->xs.map a.eval=vs
 | [],vs,aj=>by cases aj; rfl
 | x :: xs,vs,aj=>by
  unfold YtcheedjfedcbpaaGreatDoor.iz at aj;cases J:YtcheedjfedcbpaaGreatDoor.aD L x with
  | none=>rw[J]at aj; cases aj
  | some v=>
   cases U:YtcheedjfedcbpaaGreatDoor.iz L xs with
   | none=>rw[J,U]at aj; cases aj
   | some l=>
    rw[J,U]at aj;cases aj;rw[List.map_cons,h.aD J,h.iz U]
theorem cW.put(h:cW n D L a) (d:Nat) (v:Value) (av:d < n):cW n D ((d,v) :: L) (a.put (some d) v):=by
 refine⟨?_,h.defs,fun s u ak=>?_⟩
 ·simpa [Act.put] using h.size
 ·by_cases e:s=d
  ·subst e
   simp at ak
   subst ak
   simp[Act.put,h.size,av]
  ·have:(s == d)=false:=by simpa using e
   rw[List.lookup_cons,this]at ak;simp only[Act.put];rw[Array.getElem?_setIfInBounds_ne (fun cm=>e cm.symm)];exact h.has s u ak
end
/-! ### One operation -/
section
variable {r:Option Nat} {P:Program} {ops:Array Oper} {Q:Exit->Act->World->Prop} {o:Oper} {KK:Act->World->Prop}
variable {n:Nat} {D:List Deferred} {L:List (Nat×Value)} {a:Act} {w:World}
abbrev rA (r:Option Nat) (P:Program) (ops:Array Oper) (Q:Exit->Act->World->Prop) (l:List Oper) (a:Act) (w:World):Prop:=wpListIn (WF r) 0 P ops Q l a w
def xm(P:Program) (o:Oper) (a:Act) (w:World) (Ec:Value->World->Prop):Prop:=
 (∃ v w',(execOp a.eval o).run P w=.ok (.value v) w'/\Ec v w')\/(∃ w',(execOp a.eval o).run P w=.ok .skip w'/\Ec undef w') \/
 (∃ f args bZ,(execOp a.eval o).run P w=.ok (.enter f args) bZ/\Calls P f args bZ fun e w'=>∃ v,e=.returned v/\Ec v w')
def eR(P:Program) (ops:Array Oper) (o:Oper) (KK:Act->World->Prop) (a:Act) (w:World):Prop:=
 (Region.wanted o (yielded ops a.tmps)=true/\xm P o a w fun v w'=>KK (a.put o.dst v) w')\/(Region.wanted o (yielded ops a.tmps)=false/\KK (a.put o.dst undef) w)
theorem Ed{x:Next} {w':World} (h:(execOp a.eval o).run P w=.ok x w') (aj:∀ d,x≠.defer d) (c:Call):o.op≠.defer c:=by
 intro ax;simp only[execOp,ax,Sem.run_bind]at h;cases az:(resolve a.eval c o.type).run P w with
 | ok d bZ=>
  rw[az]at h
  simp at h
  exact aj d h.1.symm
 | halt y bZ=>rw[az]at h; simp[Result.andThen]at h
theorem Ee(h:∀ c,o.op≠.defer c):o.semAt r a.eval=execOp a.eval o:=by
 cases r with
 | none=>rfl
 | some l=>exact Oper.semAt_some l _ _ h
theorem eR.fenced(h:eR P ops o KK a w) :
  if Region.wanted o (yielded ops a.tmps)=true then Oper.wpIn (WF r) 0 P o a w KK Q else(∀ f,o.about P w a.eval=some f->(WF r).fn f)/\KK (a.put o.dst undef) w:=by
 rcases h with⟨hw,h⟩ | ⟨hw,h⟩
 ·rw[if_pos hw]
  refine⟨fun _ _=>trivial,?_⟩;show Oper.uponIn _ _ _ _ _ _ _ ((o.semAt r a.eval).run P w)
  rcases h with⟨v,w',az,ab⟩ | ⟨w',az,ab⟩ | ⟨f,args,bZ,az,aa⟩
  ·rw[Ee (Ed az (fun _ h=>by cases h)),az]; exact ab
  ·rw[Ee (Ed az (fun _ h=>by cases h)),az]; exact ab
  ·rw[Ee (Ed az (fun _ h=>by cases h)),az]
   refine⟨(fun h=>by cases h),?_⟩;have Sa:=(callsIn_wide (n:=0)).2 aa;refine CallsIn.mono (F:=WF r) Sa ?_;rintro e w' ⟨v,rfl,aB⟩;exact aB
 ·rw[if_neg (by rw[hw]; simp)]
  exact⟨fun _ _=>trivial,h⟩
theorem KJ{rest:List Oper} (h:eR P ops o (rA r P ops Q rest) a w):rA r P ops Q (o :: rest) a w:=eR.fenced h
theorem fU{v:Value} {w':World} {d:Nat} (aI:cW n D L a) (dA:o.guard=none) (dX:o.dst=some d) (av:d < n)
  (dE:(execOp a.eval o).run P w=.ok (.value v) w') (h:∀ aS,cW n D ((d,v) :: L) aS->KK aS w'):eR P ops o KK a w:=
 .inl ⟨by simp[Region.wanted,dA],.inl ⟨v,w',dE,h _ (by rw[dX]; exact aI.put d v av)⟩⟩
theorem AA{w':World} (aI:cW n D L a) (dA:o.guard=none) (dX:o.dst=none)
  (dE:(execOp a.eval o).run P w=.ok .skip w') (h:∀ aS,cW n D L aS->KK aS w'):eR P ops o KK a w:=
 .inl ⟨by simp[Region.wanted,dA],.inr (.inl ⟨w',dE,h _ (by rw[dX]; exact aI)⟩)⟩
theorem KL(h:Q .normal a w):rA r P ops Q [] a w:=h
end
end
section
structure bC where
  desc:TypeDesc
  size:Nat
  bytes:Nat
  zero:Value
def bC.ok(P:Program) (t:TypeId) (i:bC):Prop:=
  P.underlying t=some i.desc/\(P.info? t).map (fun x=>(x.size,x.bytes,x.zero))=some (i.size,i.bytes,some i.zero)
def gg(P:Program) (T:List (TypeId×bC)):Prop:=∀ t i,T.lookup t=some i->bC.ok P t i
theorem gg.nil(P:Program):gg P []:=fun _ _ h=>by cases h
theorem gg.cons{P:Program} {T:List (TypeId×bC)} {t:TypeId} {i:bC} (h:bC.ok P t i) (bE:gg P T):gg P ((t,i) :: T):=fun s j ak=>by
  rw[List.lookup_cons]at ak
  by_cases e:(s == t)=true
  · rw[e]at ak
    have aC:s=t:=by simpa using e
    have aW:i=j:=Option.some.inj ak;subst aC; subst aW; exact h
  · have cm:(s == t)=false:=by simpa using e
    rw[cm]at ak;exact bE s j ak
theorem bC.info{P:Program} {t:TypeId} {i:bC} (h:bC.ok P t i):∃ x,P.info? t=some x/\x.size=i.size/\x.bytes=i.bytes/\x.zero=some i.zero:=by
  have U:=h.2;cases aj:P.info? t with
  | none=>rw[aj]at U; cases U
  | some x=>
    rw[aj]at U;simp only[Option.map_some,Option.some.injEq,Prod.mk.injEq]at U;exact⟨x,rfl,U.1,U.2.1,U.2.2⟩
def jn:TypeDesc->Bool
  | .struct _ | .array _ _=>true
  | _=>false
section
variable {P:Program} {t:TypeId} {i:bC} (h:bC.ok P t i) (w:World)
include h
theorem bC.xn:(isAgg t).run P w=.ok (jn i.desc) w:=by
  have av:=h.1;unfold isAgg;simp only[Sem.run_bind,run_underlying av,Result.andThen_ok];cases i.desc<;>simp[jn]
theorem bC.run_sizeOf:(sizeOf t).run P w=.ok i.size w:=by
  obtain⟨x,aj,J,_⟩:=bC.info h
  simp[sizeOf,typeInfo,aj,J]
theorem bC.pw:(zeroValue t).run P w=.ok i.zero w:=by
  obtain⟨x,aj,_,_,ah⟩:=bC.info h
  simp[zeroValue,typeInfo,aj,ah]
end
structure c6(B:Nat->Prop) (w w':World):Prop where
  os:w'.os=w.os
  tape:w'.tape=w.tape
  output:w'.output=w.output
  size:w.heap.size<=w'.heap.size
  block:∀ k,B k->w'.heap[k]?=w.heap[k]?
theorem c6.refl(B:Nat->Prop) (w:World):c6 B w w:=⟨rfl,rfl,rfl,Nat.le_refl _,fun _ _=>rfl⟩
theorem c6.trans{B:Nat->Prop} {a b c:World} (h:c6 B a b) (k:c6 B b c):c6 B a c:=
  ⟨k.os.trans h.os,k.tape.trans h.tape,k.output.trans h.output,Nat.le_trans h.size k.size,fun i hi=>(k.block i hi).trans (h.block i hi)⟩
theorem c6.cell{B:Nat->Prop} {w w':World} (h:c6 B w w') {p:Addr} (aq:B p.block):w'.cell? p=w.cell? p:=World.cell?_of_block (w:=w) (h.block p.block aq)
theorem c6.Sb{w w':World} {B:Nat->Prop} (h:Below w.heap.size w w') (bT:∀ k,B k->k < w.heap.size):c6 B w w':=⟨h.os,h.tape,h.output,h.size,fun k ab=>h.block k (bT k ab)⟩
def ew(w:World) (B:Nat->Prop) (e:TypeId) (size:Nat) (A:Option Addr) (c n:Nat) (xs:List Value):Prop:=
  xs.length=n * size/\((A=none/\n=0/\c=0)\/∃ g cur dB,A=some ⟨g,0,none⟩/\¬ B g/\w.heap[g]?=some (.cells cur e dB)/\(dB.1=dB.2\/cur.size<=dB.1)/\n<=c/\c<=maxLen/\cur.size=c * size/\cur.toList.take (n * size)=xs)
theorem ew.lt{w:World} {B:Nat->Prop} {e:TypeId} {size c n:Nat} {A:Option Addr} {xs:List Value} (h:ew w B e size A c n xs) {b:Nat} (ae:A.map (·.block)=some b):¬ B b/\b < w.heap.size:=by
  rcases h.2 with⟨rfl,_⟩ | ⟨g,cur,dB,rfl,aL,cn,_⟩
  · cases ae
  · have:g=b:=Option.some.inj ae
    subst this;exact⟨aL,(Array.getElem?_eq_some_iff.1 cn).1⟩
theorem ew.dP{w w':World} {B:Nat->Prop} {e:TypeId} {size c n:Nat} {A:Option Addr} {xs:List Value} (h:ew w B e size A c n xs) (ab:∀ b,A.map (·.block)=some b->w'.heap[b]?=w.heap[b]?):ew w' B e size A c n xs:=by
  refine⟨h.1,?_⟩
  rcases h.2 with a7 | ⟨g,cur,dB,rfl,ae,Sc,rest⟩
  · exact .inl a7
  · exact .inr ⟨g,cur,dB,rfl,ae,(ab g rfl).trans Sc,rest⟩
theorem ew.base{w:World} {B B':Nat->Prop} {e:TypeId} {size c n:Nat} {A:Option Addr} {xs:List Value} (h:ew w B e size A c n xs) (bT:∀ b,A.map (·.block)=some b->¬ B' b):ew w B' e size A c n xs:=by
  refine⟨h.1,?_⟩
  rcases h.2 with a7 | ⟨g,cur,dB,rfl,ae,rest⟩
  · exact .inl a7
  · exact .inr ⟨g,cur,dB,rfl,bT g rfl,rest⟩
structure fV where
  A:Option Addr
  c:Nat
  e:TypeId
  size:Nat
  n:Nat
  xs:List Value
def fV.has(r:fV) (b:Nat):Prop:=r.A.map (·.block)=some b
def fV.ok(B:Nat->Prop) (w:World) (r:fV):Prop:=ew w B r.e r.size r.A r.c r.n r.xs
def fV.off(r s:fV):Prop:=∀ b,r.has b->¬ s.has b
inductive bb where
  | obj (b:Nat) (o:Obj)
  | gv (b:Nat) (cs:List Value) (e:TypeId)
  | row (A:Option Addr) (c:Nat) (e:TypeId) (size n:Nat) (xs:List Value)
  | tree (rs:List fV)
def bb.has:bb->Nat->Prop
  | .obj b _,k=>some b=some k
  | .gv b _ _,k=>some b=some k
  | .row A _ _ _ _ _,k=>A.map (·.block)=some k
  | .tree rs,k=>∃ r∈rs,r.has k
def bb.ok(B:Nat->Prop) (w:World):bb->Prop
  | .obj b o=>¬ B b/\w.heap[b]?=some o
  | .gv b cs e=>¬ B b/\w.heap[b]?=some (.cells cs.toArray e)
  | .row A c e size n xs=>ew w B e size A c n xs
  | .tree rs=>(∀ r∈rs,r.ok B w)/\rs.Pairwise fV.off
def bb.off(c d:bb):Prop:=∀ b,c.has b->¬ d.has b
structure bF(B:Nat->Prop) (ai:World) (H:List bb) (w:World):Prop where
  below:c6 B ai w
  base:∀ k,B k->k < w.heap.size
  ok:∀ c∈H,c.ok B w
  apart:H.Pairwise bb.off
abbrev Sd (W:World) (H:List bb) (w:World):Prop:=bF (fun k=>k < W.heap.size) W H w
theorem bb.ok.lt{B:Nat->Prop} {w:World} {c:bb} (h:c.ok B w) {b:Nat} (ae:c.has b):¬ B b/\b < w.heap.size:=by
  cases c with
  | obj b' o=>
    have:b'=b:=Option.some.inj ae
    subst this;exact⟨h.1,(Array.getElem?_eq_some_iff.1 h.2).1⟩
  | gv b' cs e=>
    have:b'=b:=Option.some.inj ae
    subst this;exact⟨h.1,(Array.getElem?_eq_some_iff.1 h.2).1⟩
  | row A c e size n xs=>exact ew.lt h ae
  | tree rs=>
    obtain⟨r,az,ae⟩:=ae;exact ew.lt (h.1 r az) ae
theorem bb.ok.dP{B:Nat->Prop} {w w':World} {c:bb} (h:c.ok B w) (ab:∀ b,c.has b->w'.heap[b]?=w.heap[b]?):c.ok B w':=by
  cases c with
  | obj b o=>exact⟨h.1,(ab b rfl).trans h.2⟩
  | gv b cs e=>exact⟨h.1,(ab b rfl).trans h.2⟩
  | row A c e size n xs=>exact ew.dP h ab
  | tree rs=>exact⟨fun r az=>ew.dP (h.1 r az) fun b ae=>ab b ⟨r,az,ae⟩,h.2⟩
theorem bb.ok.base{B B':Nat->Prop} {w:World} {c:bb} (h:c.ok B w) (bT:∀ b,c.has b->¬ B' b):c.ok B' w:=by
  cases c with
  | obj b o=>exact⟨bT b rfl,h.2⟩
  | gv b cs e=>exact⟨bT b rfl,h.2⟩
  | row A c e size n xs=>exact ew.base h bT
  | tree rs=>exact⟨fun r az=>ew.base (h.1 r az) fun b ae=>bT b ⟨r,az,ae⟩,h.2⟩
section
variable {B:Nat->Prop} {ai w w':World} {H:List bb}
theorem bF.start(w:World):Sd w [] w:=⟨c6.refl _ _,fun _ h=>h,(fun _ h=>by cases h),List.Pairwise.nil⟩
theorem bF.Se(h:bF B ai H w) (ae:Below w.heap.size w w'):bF B ai H w':=
  ⟨h.below.trans (c6.Sb ae h.base),fun k ab=>Nat.lt_of_lt_of_le (h.base k ab) ae.size,fun c aa=>(h.ok c aa).dP fun b e=>ae.block b ((h.ok c aa).lt e).2,h.apart⟩
theorem bF.drew(h:bF B ai H w):bF B ai H w.drew:=⟨⟨h.below.os,h.below.tape,h.below.output,h.below.size,h.below.block⟩,h.base,fun c aa=>(h.ok c aa).dP fun _ _=>rfl,h.apart⟩
theorem bF.fresh(h:bF B ai H w):¬ B w.heap.size:=fun ae=>Nat.lt_irrefl _ (h.base _ ae)
theorem bF.alloc(h:bF B ai H w) (o:Obj):bF B ai (.obj w.heap.size o :: H) (w.alloc o):=by
  have ae:=h.Se ((Below.refl w.heap.size w).alloc (Nat.le_refl _) o);exact⟨ae.below,ae.base,fun c aa=>by
    rcases List.mem_cons.1 aa with rfl | aa
    · exact⟨h.fresh,heap_alloc_new w o⟩
    · exact ae.ok c aa,
   List.Pairwise.cons (fun c aa b e cm=>by have:=((h.ok c aa).lt cm).2; have e:w.heap.size=b:=Option.some.inj e; omega) h.apart⟩
theorem bF.xo(h:bF B ai H w) (cs:List Value) (e:TypeId):bF B ai (.gv w.heap.size cs e :: H) (w.alloc (.cells cs.toArray e)):=by
  have J:=h.alloc (.cells cs.toArray e);exact⟨J.below,J.base,fun c aa=>by
    rcases List.mem_cons.1 aa with rfl | aa
    · exact J.ok (.obj w.heap.size (.cells cs.toArray e)) (by simp)
    · exact J.ok c (List.mem_cons_of_mem _ aa),by
    obtain⟨U,ah⟩:=List.pairwise_cons.1 J.apart;exact List.Pairwise.cons (fun c aa b e=>U c aa b e) ah⟩
theorem bF.ep(h:bF B ai H w) {H':List bb} (ak:H'.Sublist H):bF B ai H' w:=
  ⟨h.below,h.base,fun c aa=>h.ok c (ak.subset aa),h.apart.sublist ak⟩
theorem bF.perm(h:bF B ai H w) {H':List bb} (aq:H.Perm H'):bF B ai H' w:=
  ⟨h.below,h.base,fun c aa=>h.ok c (aq.mem_iff.2 aa),(List.Perm.pairwise_iff (fun {c d} Sf b e cm=>Sf b cm e) aq).1 h.apart⟩
end
def gh(w:World) (H:List bb) (k:Nat):Prop:=k < w.heap.size/\∀ c∈H,¬ c.has k
theorem bF.rest{B:Nat->Prop} {ai w:World} {H:List bb} (h:bF B ai H w):bF (gh w H) w H w:=
  ⟨c6.refl _ _,fun _ ab=>ab.1,fun c aa=>(h.ok c aa).base fun b e az=>az.2 c aa e,h.apart⟩
theorem bF.back{B:Nat->Prop} {ai w w':World} {H H':List bb} (h:bF B ai H w) (aO:bF (gh w H) w H' w'):bF B ai H' w':=by
  have az:∀ k,B k->gh w H k:=fun k ab=>⟨h.base k ab,fun c aa e=>((h.ok c aa).lt e).1 ab⟩
  exact⟨h.below.trans ⟨aO.below.os,aO.below.tape,aO.below.output,aO.below.size,fun k ab=>aO.below.block k (az k ab)⟩,fun k ab=>aO.base k (az k ab),
    fun c aa=>(aO.ok c aa).base fun b e bT=>((aO.ok c aa).lt e).1 (az b bT),aO.apart⟩
def iJ(H:List bb) (c:bb) (K:bb->List bb):Prop:=∃ X Y,H=X++c :: Y/\K=fun c'=>X++c' :: Y
theorem u5{c:bb} {H:List bb}:iJ (c :: H) c (fun c'=>c' :: H):=⟨[],H,rfl,rfl⟩
section
variable {B:Nat->Prop} {ai w w':World} {H:List bb} {c:bb} {K:bb->List bb}
theorem iJ.mem(h:iJ H c K):c∈H:=by obtain⟨X,Y,rfl,_⟩:=h; simp
theorem bF.sU(h:bF B ai H w) (aA:iJ H c K) {c':bb} (ae:c6 B w w') (aa:c'.ok B w')
    (iq:∀ b,c'.has b->c.has b\/w.heap.size<=b) (ab:∀ b,b < w.heap.size->¬ c.has b->w'.heap[b]?=w.heap[b]?):bF B ai (K c') w':=by
  obtain⟨X,Y,rfl,rfl⟩:=aA;have aq:=h.apart;have dP:∀ d∈X++c :: Y,bb.off c d->d.ok B w':=fun d av a6=>(h.ok d av).dP fun b e=>ab b ((h.ok d av).lt e).2 (fun cm=>a6 b cm e)
  rw[List.pairwise_append,List.pairwise_cons]at aq;obtain⟨ar,⟨KM,cr⟩,Ef⟩:=aq;refine⟨h.below.trans ae,fun k ab=>Nat.lt_of_lt_of_le (h.base k ab) ae.size,fun d av=>?_,?_⟩
  · rcases List.mem_append.1 av with av | av
    · exact dP d (by simp[av]) (fun b e cm=>Ef d av c (by simp) b cm e)
    · rcases List.mem_cons.1 av with rfl | av
      · exact aa
      · exact dP d (by simp[av]) (KM d av)
  · rw[List.pairwise_append,List.pairwise_cons]
    refine⟨ar,⟨fun d av b e cm=>?_,cr⟩,fun d av x aj b e cm=>?_⟩
    · rcases iq b e with aW | aW
      · exact KM d av b aW cm
      · have:=((h.ok d (by simp[av])).lt cm).2; omega
    · rcases List.mem_cons.1 aj with rfl | aj
      · rcases iq b cm with aW | aW
        · exact Ef d av c (by simp) b e aW
        · have:=((h.ok d (by simp[av])).lt e).2; omega
      · exact Ef d av x (by simp[aj]) b e cm
end
theorem ew.at{w:World} {B:Nat->Prop} {e:TypeId} {size c n:Nat} {A:Option Addr} {xs:List Value} (h:ew w B e size A c n xs) (a7:0 < n):∃ b,A=some ⟨b,0,none⟩:=by
  rcases h.2 with⟨_,aN,_⟩ | ⟨g,cur,dB,ag,_⟩
  · omega
  · exact⟨g,ag⟩
def fV.dk(r:fV):bb:=.row r.A r.c r.e r.size r.n r.xs
section
variable {B:Nat->Prop} {ai w:World} {H X Y:List bb} {r:fV} {I eE:List fV}
theorem bF.Sg(h:bF B ai (.tree (r :: I) :: H) w):bF B ai (r.dk :: .tree I :: H) w:=by
  obtain⟨J,U⟩:=h.ok _ List.mem_cons_self;obtain⟨ah,au⟩:=List.pairwise_cons.1 U;obtain⟨aF,aY⟩:=List.pairwise_cons.1 h.apart;refine⟨h.below,h.base,fun c aa=>?_,List.Pairwise.cons (fun c aa b ae dm=>?_) (List.Pairwise.cons (fun c aa b ae dm=>?_) aY)⟩
  · rcases List.mem_cons.1 aa with rfl | aa
    · exact J r List.mem_cons_self
    · rcases List.mem_cons.1 aa with rfl | aa
      · exact⟨fun s ak=>J s (List.mem_cons_of_mem _ ak),au⟩
      · exact h.ok c (List.mem_cons_of_mem _ aa)
  · rcases List.mem_cons.1 aa with rfl | aa
    · obtain⟨s,ak,gQ⟩:=dm
      exact ah s ak b ae gQ
    · exact aF c aa b ⟨r,List.mem_cons_self,ae⟩ dm
  · obtain⟨s,ak,gQ⟩:=ae
    exact aF c aa b ⟨s,List.mem_cons_of_mem _ ak,gQ⟩ dm
theorem bF.Eg(h:bF B ai (r.dk :: .tree I :: H) w):bF B ai (.tree (r :: I) :: H) w:=by
  have J:=h.ok _ List.mem_cons_self;obtain⟨U,Eh⟩:=h.ok (.tree I) (by simp);obtain⟨ah,au⟩:=List.pairwise_cons.1 h.apart;obtain⟨aF,aY⟩:=List.pairwise_cons.1 au;refine⟨h.below,h.base,fun c aa=>?_,List.Pairwise.cons (fun c aa b ae dm=>?_) aY⟩
  · rcases List.mem_cons.1 aa with rfl | aa
    · refine⟨fun s ak=>?_,List.Pairwise.cons (fun s ak b ae dm=>ah (.tree I) List.mem_cons_self b ae ⟨s,ak,dm⟩) Eh⟩
      rcases List.mem_cons.1 ak with rfl | ak
      · exact J
      · exact U s ak
    · exact h.ok c (by simp[aa])
  · obtain⟨s,ak,gQ⟩:=ae
    rcases List.mem_cons.1 ak with rfl | ak
    · exact ah c (List.mem_cons_of_mem _ aa) b gQ dm
    · exact aF c aa b ⟨s,ak,gQ⟩ dm
theorem px{c:bb}:(X++c :: Y).Perm (c :: (X++Y)):=List.perm_middle
theorem bF.AB(h:bF B ai (X++.tree (r :: I) :: Y) w):bF B ai (r.dk :: (X++.tree I :: Y)) w:=
  ((h.perm px).Sg).perm (List.Perm.cons _ px.symm)
theorem bF.KN(h:bF B ai (r.dk :: (X++.tree I :: Y)) w):bF B ai (X++.tree (r :: I) :: Y) w:=
  ((h.perm (List.Perm.cons _ px)).Eg).perm px.symm
theorem fV.Sh{r s:fV} (h:r.off s):s.off r:=fun b J U=>h b U J
theorem bF.xp(h:bF B ai (X++.tree I :: Y) w) (ak:∃ eB,I.Perm eB/\eE.Sublist eB):bF B ai (X++.tree eE :: Y) w:=by
  obtain⟨eB,aq,ak⟩:=ak;have hm:∀ s∈eE,s∈I:=fun s gQ=>aq.mem_iff.2 (ak.subset gQ)
  have aO:=h.perm px;obtain⟨J,U⟩:=aO.ok _ List.mem_cons_self;obtain⟨aF,aY⟩:=List.pairwise_cons.1 aO.apart;refine bF.perm (H:=.tree eE :: (X++Y)) ⟨h.below,h.base,fun c aa=>?_,List.Pairwise.cons (fun c aa b ae dm=>?_) aY⟩ px.symm
  · rcases List.mem_cons.1 aa with rfl | aa
    · exact⟨fun s ak=>J s (hm s ak),((List.Perm.pairwise_iff (fun h=>fV.Sh h) aq).1 U).sublist ak⟩
    · exact aO.ok c (List.mem_cons_of_mem _ aa)
  · obtain⟨s,ak,gQ⟩:=ae
    exact aF c aa b ⟨s,hm s ak,gQ⟩ dm
end
end
section
structure Sym(n:Nat) (D:List Deferred) (L:List (Nat×Value)) (B:Nat->Prop) (ai:World) (H:List bb) (a:Act) (w:World):Prop where
 st:cW n D L a
 aJ:bF B ai H w
theorem du{a b:Nat} (h:Nat.blt a b=true):a < b:=Nat.le_of_ble_eq_true h
section
variable {r:Option Nat} {P:Program} {ops:Array Oper} {Q:Exit->Act->World->Prop} {o:Oper} {KK:Act->World->Prop}
variable {n:Nat} {D:List Deferred} {L:List (Nat×Value)} {B:Nat->Prop} {ai:World} {H:List bb} {a:Act} {w:World}
variable {T:List (TypeId×bC)} {d:Nat}
def fb(P:Program) (o:Oper) (a:Act) (v:Value):Prop:=∀ w,(execOp a.eval o).run P w=.ok (.value v) w
theorem Sym.aD(ar:Sym n D L B ai H a w) {x:Operand} {v:Value} (aj:aD L x=some v):a.eval x=v:=ar.st.aD aj
theorem qj{v:Value} {w':World} {H':List bb} (ar:Sym n D L B ai H a w) (a6:o.guard=none/\o.dst=some d) (av:Nat.blt d n=true)
  (dE:(execOp a.eval o).run P w=.ok (.value v) w') (ds:bF B ai H' w') (h:∀ aS w',Sym n D ((d,v) :: L) B ai H' aS w'->KK aS w'):eR P ops o KK a w:=
 fU ar.st a6.1 a6.2 (du av) dE fun aS aI=>h aS w' ⟨aI,ds⟩
theorem KO{w':World} {H':List bb} (ar:Sym n D L B ai H a w) (a6:o.guard=none/\o.dst=none)
  (dE:(execOp a.eval o).run P w=.ok .skip w') (ds:bF B ai H' w') (h:∀ aS w',Sym n D L B ai H' aS w'->KK aS w'):eR P ops o KK a w:=
 AA ar.st a6.1 a6.2 dE fun aS aI=>h aS w' ⟨aI,ds⟩
theorem KP{x:Operand} {v:Value} (aI:cW n D L a) (ax:o.op=.move x)
  (aj:aD L x=some v):fb P o a (v):=fun w=>by simp only[execOp,ax,Sem.run_pure,aI.aD aj]
theorem KQ{x:Operand} {v:Value} (aI:cW n D L a) (ax:o.op=.assign x)
  (aj:aD L x=some v):fb P o a (v):=fun w=>by simp only[execOp,ax,Sem.run_pure,aI.aD aj]
theorem KR{c x y:Operand} {g:Bool} {v:Value} (aI:cW n D L a) (ax:o.op=.pick c x y)
  (aa:aD L c=some (.bool g)) (aL:g=true) (aj:aD L x=some v):fb P o a (v):=fun w=>by subst aL; simp[execOp,ax,aI.aD aa,aI.aD aj,asBool]
theorem KS{c x y:Operand} {g:Bool} {v:Value} (aI:cW n D L a) (ax:o.op=.pick c x y)
  (aa:aD L c=some (.bool g)) (aL:g=false) (aj:aD L y=some v):fb P o a (v):=fun w=>by subst aL; simp[execOp,ax,aI.aD aa,aI.aD aj,asBool]
theorem Si{x:Operand} {t:TypeId} {g:Bool} (aI:cW n D L a) (ax:o.op=.unOp .not t x)
  (aj:aD L x=some (.bool g)):fb P o a (.bool (!g)):=fun w=>by simp[execOp,ax,aI.aD aj,Op.unary]
theorem KT{x:Operand} {k:Nat} {vs:List Value} {v:Value} (aI:cW n D L a) (ax:o.op=.extract x k)
  (aj:aD L x=some (.tuple vs.toArray)) (aB:vs[k]?=some v):fb P o a (v):=fun w=>by simp[execOp,ax,aI.aD aj,Instr.extract,aB]
theorem Sj{fn:Fn} {xs:List Operand} {vs:List Value} (aI:cW n D L a) (ax:o.op=.makeFunc fn #[] xs.toArray) (aB:iz L xs=some vs):fb P o a (.func fn #[] vs.toArray):=fun w=>by
 simp[execOp,ax,Instr.makeFunc,aI.iz aB]
theorem KU{k:IntKind} {u v:Operand} {t bQ:TypeId} {x y z:Int} (aI:cW n D L a) (ax:o.op=.binOp .add t u v bQ)
  (hu:aD L u=some (.int k x)) (aB:aD L v=some (.int k y)) (bG:k.wrap (x+y)=z):fb P o a (.int k z):=fun w=>by simp[execOp,ax,aI.aD hu,aI.aD aB,eqGuard,binOp,Op.intArith,bG]
theorem Sk{k:IntKind} {u v:Operand} {t bQ:TypeId} {x y z:Int} (aI:cW n D L a) (ax:o.op=.binOp .sub t u v bQ)
  (hu:aD L u=some (.int k x)) (aB:aD L v=some (.int k y)) (bG:k.wrap (x - y)=z):fb P o a (.int k z):=fun w=>by simp[execOp,ax,aI.aD hu,aI.aD aB,eqGuard,binOp,Op.intArith,bG]
theorem Sl{k:IntKind} {u v:Operand} {t bQ:TypeId} {x y z:Int} (aI:cW n D L a) (ax:o.op=.binOp .mul t u v bQ)
  (hu:aD L u=some (.int k x)) (aB:aD L v=some (.int k y)) (bG:k.wrap (x * y)=z):fb P o a (.int k z):=fun w=>by simp[execOp,ax,aI.aD hu,aI.aD aB,eqGuard,binOp,Op.intArith,bG]
theorem Sm{k:IntKind} {u v:Operand} {t bQ:TypeId} {x y z:Int} (aI:cW n D L a) (ax:o.op=.binOp .quo t u v bQ)
  (hu:aD L u=some (.int k x)) (aB:aD L v=some (.int k y)) (aN:y≠0) (bG:k.wrap (x.tdiv y)=z):fb P o a (.int k z):=fun w=>by simp[execOp,ax,aI.aD hu,aI.aD aB,eqGuard,binOp,Op.intDiv,aN,bG]
theorem Sn{k:IntKind} {u v:Operand} {t bQ:TypeId} {x y z:Int} (aI:cW n D L a) (ax:o.op=.binOp .rem t u v bQ)
  (hu:aD L u=some (.int k x)) (aB:aD L v=some (.int k y)) (aN:y≠0) (bG:x.tmod y=z):fb P o a (.int k z):=fun w=>by simp[execOp,ax,aI.aD hu,aI.aD aB,eqGuard,binOp,Op.intDiv,aN,bG]
theorem So{k:IntKind} {u v:Operand} {t bQ:TypeId} {x y:Int} (aI:cW n D L a) (ax:o.op=.binOp .lss t u v bQ)
  (hu:aD L u=some (.int k x)) (aB:aD L v=some (.int k y)):fb P o a (.bool (decide (x < y))):=fun w=>by simp[execOp,ax,aI.aD hu,aI.aD aB,eqGuard,binOp,Op.intCmp]
theorem Sp{k:IntKind} {u v:Operand} {t bQ:TypeId} {x y:Int} (aI:cW n D L a) (ax:o.op=.binOp .leq t u v bQ)
  (hu:aD L u=some (.int k x)) (aB:aD L v=some (.int k y)):fb P o a (.bool (decide (x<=y))):=fun w=>by simp[execOp,ax,aI.aD hu,aI.aD aB,eqGuard,binOp,Op.intCmp]
theorem Sq{k:IntKind} {u v:Operand} {t bQ:TypeId} {x y:Int} (aI:cW n D L a) (ax:o.op=.binOp .gtr t u v bQ)
  (hu:aD L u=some (.int k x)) (aB:aD L v=some (.int k y)):fb P o a (.bool (decide (x > y))):=fun w=>by simp[execOp,ax,aI.aD hu,aI.aD aB,eqGuard,binOp,Op.intCmp]
theorem Sr{k:IntKind} {u v:Operand} {t bQ:TypeId} {x y:Int} (aI:cW n D L a) (ax:o.op=.binOp .geq t u v bQ)
  (hu:aD L u=some (.int k x)) (aB:aD L v=some (.int k y)):fb P o a (.bool (decide (x ≥ y))):=fun w=>by simp[execOp,ax,aI.aD hu,aI.aD aB,eqGuard,binOp,Op.intCmp]
theorem Ss{k:IntKind} {u v:Operand} {t bQ:TypeId} {x y:Int} (aI:cW n D L a) (ax:o.op=.binOp .eql t u v bQ)
  (hu:aD L u=some (.int k x)) (aB:aD L v=some (.int k y)):fb P o a (.bool (x == y)):=fun w=>by simp[execOp,ax,aI.aD hu,aI.aD aB,eqGuard,binOp,Op.intCmp]
theorem St{k:IntKind} {u v:Operand} {t bQ:TypeId} {x y:Int} (aI:cW n D L a) (ax:o.op=.binOp .neq t u v bQ)
  (hu:aD L u=some (.int k x)) (aB:aD L v=some (.int k y)):fb P o a (.bool (x != y)):=fun w=>by simp[execOp,ax,aI.aD hu,aI.aD aB,eqGuard,binOp,Op.intCmp]
theorem Su{k:IntKind} {u v:Operand} {t bQ:TypeId} {x y z:Int} (aI:cW n D L a) (ax:o.op=.binOp .and t u v bQ)
  (hu:aD L u=some (.int k x)) (aB:aD L v=some (.int k y)) (bG:bits .and k x y=z):fb P o a (.int k z):=fun w=>by simp only[<- bG]; simp[execOp,ax,aI.aD hu,aI.aD aB,eqGuard,binOp,Op.intBits,bits]
theorem Sv{k:IntKind} {u v:Operand} {t bQ:TypeId} {x y z:Int} (aI:cW n D L a) (ax:o.op=.binOp .or t u v bQ)
  (hu:aD L u=some (.int k x)) (aB:aD L v=some (.int k y)) (bG:bits .or k x y=z):fb P o a (.int k z):=fun w=>by simp only[<- bG]; simp[execOp,ax,aI.aD hu,aI.aD aB,eqGuard,binOp,Op.intBits,bits]
theorem Sw{k:IntKind} {u v:Operand} {t bQ:TypeId} {x y z:Int} (aI:cW n D L a) (ax:o.op=.binOp .xor t u v bQ)
  (hu:aD L u=some (.int k x)) (aB:aD L v=some (.int k y)) (bG:bits .xor k x y=z):fb P o a (.int k z):=fun w=>by simp only[<- bG]; simp[execOp,ax,aI.aD hu,aI.aD aB,eqGuard,binOp,Op.intBits,bits]
theorem Sx{k k':IntKind} {u v:Operand} {t bQ:TypeId} {x z:Int} {y:Nat} (aI:cW n D L a) (ax:o.op=.binOp .shl t u v bQ)
  (hu:aD L u=some (.int k x)) (aB:aD L v=some (.int k' (y:Int))) (bG:k.wrap (x * 2 ^ (min y k.bits))=z):fb P o a (.int k z):=fun w=>by simp only[<- bG]; simp[execOp,ax,aI.aD hu,aI.aD aB,eqGuard,binOp,Op.shift]; omega
theorem Sy{k k':IntKind} {u v:Operand} {t bQ:TypeId} {x z:Int} {y:Nat} (aI:cW n D L a) (ax:o.op=.binOp .shr t u v bQ)
  (hu:aD L u=some (.int k x)) (aB:aD L v=some (.int k' (y:Int))) (bG:x.fdiv (2 ^ (min y k.bits))=z):fb P o a (.int k z):=fun w=>by simp only[<- bG]; simp[execOp,ax,aI.aD hu,aI.aD aB,eqGuard,binOp,Op.shift]; omega
theorem Sz{k k':IntKind} {u:Operand} {t bQ:TypeId} {i i':bC} {x z:Int} (aI:cW n D L a) (ax:o.op=.convert t bQ u)
  (bE:gg P T) (J:T.lookup t=some i) (U:T.lookup bQ=some i') (ah:i'.desc=.int k') (hu:aD L u=some (.int k x)) (bG:k'.wrap x=z):fb P o a (.int k' z):=fun w=>by have aC:=(bE _ _ J).1; have aW:=(bE _ _ U).1; rw[ah]at aW; simp[execOp,ax,aI.aD hu,convert,run_underlying aC,run_underlying aW,Conv.intToInt,bG]
theorem u6{u:Operand} {t:TypeId} {i:bC} {e:TypeId} {A:Option Addr} {m c:Nat} (aI:cW n D L a) (ax:o.op=.call { callee:=.builtin .len,args:=#[u],argTypes:=#[t] })
  (bE:gg P T) (J:T.lookup t=some i) (U:i.desc=.slice e) (hu:aD L u=some (.slice A m c)):fb P o a (.int .i64 (m:Int)):=fun w=>by have aC:=(bE _ _ J).1; rw[U]at aC; simp[execOp,ax,resolve,invoke,builtin,Builtin.len_,aI.aD hu,run_underlying aC,goInt]
theorem Ei{u:Operand} {t:TypeId} {i:bC} {e:TypeId} {A:Option Addr} {m c:Nat} (aI:cW n D L a) (ax:o.op=.call { callee:=.builtin .cap,args:=#[u],argTypes:=#[t] })
  (bE:gg P T) (J:T.lookup t=some i) (U:i.desc=.slice e) (hu:aD L u=some (.slice A m c)):fb P o a (.int .i64 (c:Int)):=fun w=>by have aC:=(bE _ _ J).1; rw[U]at aC; simp[execOp,ax,resolve,invoke,builtin,Builtin.cap_,aI.aD hu,run_underlying aC,goInt]
theorem Ej{u:Operand} {t:TypeId} {k:Nat} {i i':bC} {cX:Array Field} {KV qk SA:String} {ty:TypeId} {off SB:Nat} {em:Bool} {b p:Nat} (aI:cW n D L a) (ax:o.op=.fieldAddr t u k)
  (bE:gg P T) (J:T.lookup t=some i) (U:i.desc=.struct cX) (ah:cX[k]?=some ⟨KV,ty,off,em,qk,SA,SB⟩) (au:T.lookup ty=some i') (aF:Nat.blt 0 i'.size=true) (hu:aD L u=some (.pointer (some ⟨b,p,none⟩))) :
  fb P o a (.pointer (some ⟨b,p+off,none⟩)):=fun w=>by
 have aC:=(bE _ _ J).1;rw[U]at aC;have aW:=bC.run_sizeOf (bE _ _ au);have cB:i'.size≠0:=(Nat.pos_iff_ne_zero.1 (du aF))
 simp[execOp,ax,aI.aD hu,Instr.fieldAt,run_underlying aC,ah,Instr.sureAddr,fieldPlace,aW,cB,Addr.add_lit]
theorem AD{u x:Operand} {t e:TypeId} {i i':bC} {b p m c j:Nat} {k:IntKind} {z:Int} (aI:cW n D L a) (ax:o.op=.indexAddr t u x)
  (bE:gg P T) (J:T.lookup t=some i) (U:i.desc=.slice e) (au:T.lookup e=some i') (hu:aD L u=some (.slice (some ⟨b,p,none⟩) m c)) (aj:aD L x=some (.int k z)) (bG:z=(j:Int)) (aR:j < m):fb P o a (.pointer (some ⟨b,p+j * i'.size,none⟩)):=fun w=>by subst bG; have aC:=(bE _ _ J).1; rw[U]at aC; have aW:=bC.run_sizeOf (bE _ _ au); simp[execOp,ax,aI.aD hu,aI.aD aj,Instr.indexAt,asIntOf,run_underlying aC,aW,Addr.add_lit,aR]
end
end
section
section
variable {r:Option Nat} {P:Program} {ops:Array Oper} {Q:Exit->Act->World->Prop} {o:Oper} {KK:Act->World->Prop}
variable {n:Nat} {D:List Deferred} {L:List (Nat×Value)} {B:Nat->Prop} {ai:World} {H:List bb} {a:Act} {w:World}
variable {T:List (TypeId×bC)} {d:Nat} {K:bb->List bb}
theorem Ek(ds:bF B ai H w) {b:Nat} {cs:List Value} {e:TypeId} (aA:iJ H (.gv b cs e) K):w.heap[b]?=some (.cells cs.toArray e):=(ds.ok _ aA.mem).2
theorem AE(ds:bF B ai H w) {b:Nat} {cs:List Value} {e:TypeId} (aA:iJ H (.gv b cs e) K) (j:Nat):w.cell? ⟨b,j,none⟩=cs[j]?:=by
 simp[World.cell?,Ek ds aA]
theorem bF.py(ds:bF B ai H w) {b:Nat} {cs hI:List Value} {e:TypeId} (aA:iJ H (.gv b cs e) K) {w':World}
  (hw:w'.os=w.os/\w'.tape=w.tape/\w'.output=w.output/\w'.heap.size=w.heap.size) (ae:w'.heap[b]?=some (.cells hI.toArray e)) (a6:∀ k,k≠b->w'.heap[k]?=w.heap[k]?) :
  bF B ai (K (.gv b hI e)) w':=by
 have aa:=ds.ok _ aA.mem;refine ds.sU aA ⟨hw.1,hw.2.1,hw.2.2.1,Nat.le_of_eq hw.2.2.2.symm,fun k ab=>a6 k (fun cm=>by subst cm; exact aa.1 ab)⟩ ⟨aa.1,ae⟩ (fun b' cm=>.inl cm) fun b' _ cu=>a6 b' (fun cm=>cu (by subst cm; rfl))
theorem SC{t:TypeId} {i:bC} (hi:bC.ok P t i) (U:jn i.desc=true) {b p:Nat} {vs:List Value} (ad:vs.length=i.size) (aa:∀ j v,vs[j]?=some v->w.cell? ⟨b,p+j,none⟩=some v) :
  (loadVar t ⟨b,p,none⟩).run P w=.ok (.agg vs.toArray) w:=by
 have:=run_loadCells_list (P:=P) w ⟨b,p,none⟩ vs (fun j v aR=>by rw[Addr.add_lit]; exact aa j v aR)
 rw[ad]at this
 simp[loadVar,bC.xn hi,U,bC.run_sizeOf hi,this]
theorem SD{t:TypeId} {i:bC} (hi:bC.ok P t i) {b p:Nat} {v:Value} {cs:List Value} {e:TypeId} (ae:w.heap[b]?=some (.cells cs.toArray e)) (ak:v.cells.size=i.size)
  (J:∀ u∈v.cells.toList,u.oneCell'=true) (aq:p+v.cells.size<=cs.length) :
  (storeVar t ⟨b,p,none⟩ v).run P w=.ok () (w.setRow b (cs.take p++v.cells.toList++cs.drop (p+v.cells.size)).toArray):=by
 have U:=run_storeCells_at P b p e v.cells.toList 0 cs.toArray w ae (by simpa using aq) J;simp only[Nat.add_zero]at U;unfold storeVar
 simp[bC.run_sizeOf hi,ak,U]
end
end
section
theorem SE{z:Int} (J:-9223372036854775808<=z) (U:z<=9223372036854775807):IntKind.i64.wrap z=z:=by rw[IntKind.wrap_i64]; omega
def oJ(P:Program) (f:FuncId) (args:Array Value) (w:World) (R:Value->World->Prop):Prop:=
 Calls P f args w fun e w'=>∃ v,e=.returned v/\R v w'
theorem oJ.mono{P:Program} {f:FuncId} {args:Array Value} {w:World} {R ql:Value->World->Prop} (h:oJ P f args w R) (az:∀ v w',R v w'->ql v w'):oJ P f args w ql:=
 Calls.mono h fun _ _ ⟨v,e,aB⟩=>⟨v,e,az v _ aB⟩
section
variable {r:Option Nat} {P:Program} {ops:Array Oper} {Q:Exit->Act->World->Prop} {o:Oper} {KK:Act->World->Prop}
variable {n:Nat} {D:List Deferred} {L:List (Nat×Value)} {B:Nat->Prop} {ai:World} {H:List bb} {a:Act} {w:World}
variable {T:List (TypeId×bC)} {d:Nat}
theorem rB(ar:Sym n D L B ai H a w) {j s:Nat} {want g:Bool} (aL:o.guard=some (j,want)) (aR:(ops[j]?).bind (·.dst)=some s) (ak:L.lookup s=some (.bool g)) :
  Region.wanted o (yielded ops a.tmps)=(g == want):=by
 have J:=ar.st.has s _ ak;have U:yielded ops a.tmps j=some g:=by simp[yielded,aR,J]
 simp only[Region.wanted,aL,U];cases g<;>cases want<;>rfl
theorem AF(ar:Sym n D L B ai H a w) {j s:Nat} {want:Bool} (aL:o.guard=some (j,want)) (aR:(ops[j]?).bind (·.dst)=some s) (ak:L.lookup s=some undef) :
  Region.wanted o (yielded ops a.tmps)=false:=by
 have J:=ar.st.has s _ ak;have U:yielded ops a.tmps j=none:=by simp[yielded,aR,J,undef]
 simp only[Region.wanted,aL,U]
 rfl
theorem SF{f:FuncId} {fn:Func} {xs:List Operand} {fr:Array TypeId} {vs:List Value} (ax:o.op=.call { callee:=.value (.func f),args:=xs.toArray,argTypes:=fr }) (gR:P.funcs[f]?=some fn)
  (a7 : (fn.name == "runtime.NumGoroutine") = false) (ae : fn.body.isNone = false) (aB : xs.map a.eval = vs) : (execOp a.eval o).run P w = .ok (.enter f vs.toArray) w := by
 have e:a.eval (.func f)=.func (.func f) #[] #[]:=rfl
 have hn : fn.name ≠ "runtime.NumGoroutine" := by simpa using a7
 have dm:fn.body≠none:=by intro h; rw[h]at ae; cases ae
 simp[execOp,ax,resolve,e,Deferred.ofValue,invoke,callFunc,program,Sem.run,gR,hn,dm,aB]
theorem SG{f:FuncId} {fn:Func} {xs:List Operand} {fr:Array TypeId} {vs:List Value} {R:Value->World->Prop} (ar:Sym n D L B ai H a w)
  (ax:o.op=.call { callee:=.value (.func f),args:=xs.toArray,argTypes:=fr }) (a6:o.guard=none/\o.dst=some d) (av:Nat.blt d n=true)
  (gR : P.funcs[f]? = some fn) (a7 : (fn.name == "runtime.NumGoroutine") = false) (ae : fn.body.isNone = false) (aB : iz L xs = some vs) (dK : oJ P f vs.toArray w R)
  (h:∀ v aS w',R v w'->cW n D ((d,v) :: L) aS->KK aS w'):eR P ops o KK a w:=by
 refine .inl ⟨by simp[Region.wanted,a6.1],.inr (.inr ⟨f,vs.toArray,w,SF ax gR a7 ae (ar.st.iz aB),?_⟩)⟩;refine Calls.mono dK ?_;rintro e w' ⟨v,rfl,dT⟩;exact⟨v,rfl,h v _ w' dT (by rw[a6.2]; exact ar.st.put d v (du av))⟩
/-! ### Control -/
variable {c fs cF:Code}
abbrev ky (r:Option Nat) (P:Program) (c:Code) (Q:Exit->Act->World->Prop) (a:Act) (w:World):Prop:=c.wpIn (WF r) 0 P Q a w
theorem SH(h:∀ K:Act->World->Prop,(∀ a w,ky r P cF Q a w->K a w)->ky r P fs (Exit.then K Q) a w):ky r P (.seq fs cF) Q a w:=wpIn_seq_k h
theorem KW{id:Nat} {l:List Oper} (h:rA r P l.toArray Q l a w):ky r P (.region id l.toArray false) Q a w:=wpIn_region_lit h
theorem KX(h:Q .normal a w):ky r P .skip Q a w:=wpIn_skip h
theorem El{id:Nat} (h:Q (.exit id) a w):ky r P (.exit id) Q a w:=wpIn_exit h
theorem SI(h:Q .ret a w):ky r P .ret Q a w:=wpIn_ret h
theorem SJ{id:Nat} (h:ky r P c (Exit.inBlock id Q) a w):ky r P (.block id c) Q a w:=wpIn_block h
theorem SK{x:Operand} {g:Bool} (ar:Sym n D L B ai H a w) (aj:aD L x=some (.bool g)) (J:g=true->ky r P fs Q a w) (aN:g=false->ky r P cF Q a w):ky r P (.cond x fs cF) Q a w:=
 wpIn_cond_split (ar.aD aj) J aN
theorem least(S:Nat->Prop) (h:∃ k,S k):∃ k,S k/\∀ j,S j->k<=j:=by
 obtain⟨k,ab⟩:=h
 induction k using Nat.strongRecOn with
 | _ k bA=>
  by_cases e:∃ j,j < k/\S j
  ·obtain⟨j,aR,ak⟩:=e; exact bA j aR ak
  ·exact⟨k,ab,fun j aR=>Nat.le_of_not_lt fun a8=>e ⟨j,a8,aR⟩⟩
noncomputable def u7 (S:Nat->Prop):Nat:=by
 classical
 exact if h:∃ k,S k then Classical.choose (least S h)else 0
theorem SL{S:Nat->Prop} {k:Nat} (h:S k):u7 S<=k:=by
 unfold u7; rw[dif_pos ⟨k,h⟩]; exact(Classical.choose_spec (least S ⟨k,h⟩)).2 k h
theorem SM{S:Nat->Prop} {k:Nat} (h:S k):S (u7 S):=by
 unfold u7; rw[dif_pos ⟨k,h⟩]; exact(Classical.choose_spec (least S ⟨k,h⟩)).1
theorem SN{α:Type} (M:α->Act->World->Prop) (m:α->Nat) (x:α) (aN:M x a w)
  (az:∀ x a w,M x a w->ky r P c (Exit.then (fun aS w'=>∃ y,M y aS w'/\m y < m x) Q) a w):ky r P (.loop c) Q a w:=by
 refine wpIn_loop (fun a w=>∃ x,M x a w) (fun a w=>u7 fun k=>∃ x,M x a w/\m x=k) ⟨x,aN⟩ ?_;rintro a w ⟨y,aT⟩;obtain⟨z,bG,hm⟩:=SM (S:=fun k=>∃ x,M x a w/\m x=k) (k:=m y) ⟨y,aT,rfl⟩;refine wpIn_mono (az z a w bG) ?_;intro e aS w' ao;cases e with
 | normal=>
  obtain⟨u,hu,a8⟩:=ao;refine⟨⟨u,hu⟩,?_⟩
  have:=SL (S:=fun k=>∃ x,M x aS w'/\m x=k) (k:=m u) ⟨u,hu,rfl⟩
  show _ < u7 _;rw[<- hm];omega
 | _=>exact ao
/-! ### Beginning and end -/
theorem SO{N:Nat} (vs:List Value) (bd:vs.length<=N):(vs.toArray++Array.replicate (N - vs.toArray.size) undef).size=N:=by simp; omega
end
end
section
section
variable {P:Program} {ops:Array Oper} {Q:Exit->Act->World->Prop} {o:Oper} {KK:Act->World->Prop}
variable {n:Nat} {D:List Deferred} {L:List (Nat×Value)} {B:Nat->Prop} {ai:World} {H:List bb} {a:Act} {w:World}
variable {d:Nat} {S:World->Prop} {listed KY:Array Bool} {fuel:Nat}
end
end
end Go.Proofs.YtcheedjfedcbpaaGreatDoor
namespace Go.Proofs.YtcheedjfedcbpaaGreatDoor
open Go.RowKit
section
variable {r:Option Nat} {P:Program} {ops:Array Oper} {Q:Exit->Act->World->Prop} {o:Oper} {KK:Act->World->Prop}
variable {n:Nat} {D:List Deferred} {L dL:List (Nat×Value)} {B:Nat->Prop} {ai:World} {H H':List bb} {a:Act} {w:World}
variable {d:Nat} {c:Code}
end
end Go.Proofs.YtcheedjfedcbpaaGreatDoor
namespace Go.Proofs.YtcheedjfedcbpaaGreatDoor
end Go.Proofs.YtcheedjfedcbpaaGreatDoor
namespace Go.Proofs.YtcheedjfedcbpaaGreatDoor
end Go.Proofs.YtcheedjfedcbpaaGreatDoor
namespace Go.Proofs.YtcheedjfedcbpaaGreatDoor
end Go.Proofs.YtcheedjfedcbpaaGreatDoor
namespace Go.Proofs.YtcheedjfedcbpaaGreatDoor
end Go.Proofs.YtcheedjfedcbpaaGreatDoor
namespace Go.Proofs.YtcheedjfedcbpaaGreatDoor
open Go.RowKit
section
theorem Em{P:Program} {t:TypeId} {k:IntKind} (h:P.underlying t=some (.int k)) (b:Bool) (n:Nat) (x:Int) (w:World) :
  (Instr.checkKey b (n+1) t (.int k x)).run P w=.ok () w:=by
 simp[Instr.checkKey,run_underlying h]
section
variable {P:Program} {ops:Array Oper} {o:Oper} {KK:Act->World->Prop}
variable {n:Nat} {D:List Deferred} {L:List (Nat×Value)} {B:Nat->Prop} {ai:World} {H:List bb} {a:Act} {w:World}
variable {T:List (TypeId×bC)} {d:Nat} {K:bb->List bb}
theorem bF.u9(ds:bF B ai H w) {b:Nat} {x x':Obj} (aA:iJ H (.obj b x) K) :
  bF B ai (K (.obj b x')) { w with heap:=w.heap.setIfInBounds b x' }:=by
 have aa:=ds.ok _ aA.mem;have a8:=(Array.getElem?_eq_some_iff.1 aa.2).1;have a6:∀ k,k≠b->(w.heap.setIfInBounds b x')[k]?=w.heap[k]?:=fun k ab=>Array.getElem?_setIfInBounds_ne (Ne.symm ab)
 refine ds.sU aA ⟨rfl,rfl,rfl,by simp,fun k ab=>a6 k (fun cm=>by subst cm; exact aa.1 ab)⟩ ⟨aa.1,by simp[a8]⟩ (fun b' cm=>.inl cm) fun b' _ cu=>a6 b' (fun cm=>cu (by subst cm; rfl))
end
end
end Go.Proofs.YtcheedjfedcbpaaGreatDoor
namespace Go.Proofs.YtcheedjfedcbpaaGreatDoor
open Go.RowKit
section
variable {P:Program} {o:Oper} {n:Nat} {D:List Deferred} {L:List (Nat×Value)} {a:Act} {T:List (TypeId×bC)}
theorem SP{u v:Operand} {t bQ:TypeId} {i:bC} {x y:Bool} (aI:cW n D L a) (ax:o.op=.binOp .eql t u v bQ) (bE:gg P T) (J:T.lookup t=some i) (U:i.desc=.bool) (hu:aD L u=some (.bool x)) (aB:aD L v=some (.bool y)):fb P o a (.bool (x == y)):=fun w=>by
 have aC:=(bE _ _ J).1;rw[U]at aC
 have:(Op.equal t (.bool x) (.bool y)).run P w=.ok (x == y) w:=run_equalIn_bool w 9999 t x y aC
 simp[execOp,ax,aI.aD hu,aI.aD aB,eqGuard,binOp,this]
theorem SQ{u v:Operand} {t bQ:TypeId} {i:bC} {x y:Bool} (aI:cW n D L a) (ax:o.op=.binOp .neq t u v bQ) (bE:gg P T) (J:T.lookup t=some i) (U:i.desc=.bool) (hu:aD L u=some (.bool x)) (aB:aD L v=some (.bool y)):fb P o a (.bool (x != y)):=fun w=>by
 have aC:=(bE _ _ J).1;rw[U]at aC
 have:(Op.equal t (.bool x) (.bool y)).run P w=.ok (x == y) w:=run_equalIn_bool w 9999 t x y aC
 simp[execOp,ax,aI.aD hu,aI.aD aB,eqGuard,binOp,this,bne]
theorem SR{u v:Operand} {t bQ:TypeId} {x y:ByteArray} (aI:cW n D L a) (ax:o.op=.binOp .eql t u v bQ) (hu:aD L u=some (.string x)) (aB:aD L v=some (.string y)):fb P o a (.bool (x.toList == y.toList)):=fun w=>by
 simp[execOp,ax,aI.aD hu,aI.aD aB,eqGuard,binOp,Op.stringOp]
theorem SS{u v:Operand} {t bQ:TypeId} {x y:ByteArray} (aI:cW n D L a) (ax:o.op=.binOp .neq t u v bQ) (hu:aD L u=some (.string x)) (aB:aD L v=some (.string y)):fb P o a (.bool (!(x.toList == y.toList))):=fun w=>by
 simp[execOp,ax,aI.aD hu,aI.aD aB,eqGuard,binOp,Op.stringOp]
theorem SU{u v:Operand} {t bQ:TypeId} {x y:Array Value} {r:Bool} (aI:cW n D L a) (ax:o.op=.binOp .eql t u v bQ) (hu:aD L u=some (.agg x)) (aB:aD L v=some (.agg y)) (hm:P.eqGuardType P.depth t=false)
  (he:∀ w,(Op.equalIn 10000 t (.agg x) (.agg y)).run P w=.ok r w):fb P o a (.bool r):=fun w=>by
 simp[execOp,ax,aI.aD hu,aI.aD aB,run_eqGuard_agg w .eql t u v x y hm,run_eql_struct,he w]
theorem SV{u v:Operand} {t bQ:TypeId} {x y:Array Value} {r:Bool} (aI:cW n D L a) (ax:o.op=.binOp .neq t u v bQ) (hu:aD L u=some (.agg x)) (aB:aD L v=some (.agg y)) (hm:P.eqGuardType P.depth t=false)
  (he:∀ w,(Op.equalIn 10000 t (.agg x) (.agg y)).run P w=.ok r w):fb P o a (.bool (!r)):=fun w=>by
 simp[execOp,ax,aI.aD hu,aI.aD aB,run_eqGuard_agg w .neq t u v x y hm,run_neq_struct,he w]
end
end Go.Proofs.YtcheedjfedcbpaaGreatDoor
namespace Go.Proofs.YtcheedjfedcbpaaGreatDoor
theorem SW{P:Program} (w:World) (d:Nat) (t:TypeId) (xs ys:Array Value) {cX:List Field} (h:P.underlying t=some (.struct cX.toArray)) (aq:P.stoodInHeld t=false) :
  (Op.equalIn (d+1) t (.agg xs) (.agg ys)).run P w=(Op.eqFields d xs ys cX).run P w:=by
 have aA:P.fieldsOf t=cX.toArray:=by simp[Program.fieldsOf,h]
 rw[run_equalIn_struct w d t xs ys (by rw[aA]; exact h) aq,aA]
end Go.Proofs.YtcheedjfedcbpaaGreatDoor
namespace Go.Proofs.YtcheedjfedcbpaaGreatDoor
open Go.RowKit
/-! ### The memory xV a row -/
section
variable {w:World} {B:Nat->Prop} {e:TypeId} {size n c:Nat} {A:Option Addr} {xs:List Value}
theorem xq(g:Nat) (e:TypeId) (dB:Nat×Nat):∀ (vs:List Value) (o:Nat) (w:World) (cur:Array Value),w.heap[g]?=some (.cells cur e dB)->o+vs.length<=cur.size ->
  w.setCells g o vs=w.setRow g (cur.toList.take o++vs++cur.toList.drop (o+vs.length)).toArray
 | [],o,w,cur,aL,_=>by
  simp only[World.setCells,List.append_nil,List.length_nil,Nat.add_zero,List.take_append_drop,Array.toArray_toList];exact(setRow_self w g cur e dB aL).symm
 | v :: vs,o,w,cur,aL,ad=>by
  simp only[List.length_cons]at ad;have J:w.setCell ⟨g,o,none⟩ v=w.setRow g (cur.setIfInBounds o v):=by
   unfold World.setCell World.setRow
   congr 1
   apply Array.ext
   ·simp
   ·intro i J U
    simp only[Array.getElem_modify]
    split
    ·rename_i hi
     subst hi;rw[(Array.getElem?_eq_some_iff.1 aL).2]
     simp
    ·rfl
  have U:=setRow_heap w g cur (cur.setIfInBounds o v) e dB aL;rw[World.setCells,J,xq g e dB vs (o+1) _ _ U (by simp; omega),setRow_setRow]
  congr 1
  apply congrArg List.toArray
  rw[Array.toList_setIfInBounds,List.take_succ_eq_append_getElem (by simp; omega)];simp only[List.getElem_set_self,List.append_assoc,List.length_cons];rw[List.take_set_of_le (by omega),List.drop_set_of_lt (by omega)]
  simp[Nat.add_comm,Nat.add_left_comm]
theorem ew.cells(h:ew w B e size A c n xs) {g:Nat} (ag:A=some ⟨g,0,none⟩) (j:Nat) (aR:j < n * size):w.cell? ⟨g,j,none⟩=xs[j]?:=by
 rcases h.2 with⟨J,_⟩ | ⟨g',cur,dB,J,_,cn,_,_,_,_,aV⟩
 ·rw[ag]at J; cases J
 ·rw[ag]at J
  have:g=g':=by injection J with J; injection J
  subst this;rw[<- aV,List.getElem?_take,if_pos aR]
  simp[World.cell?,cn]
theorem ew.le(h:ew w B e size A c n xs):n<=c/\c<=maxLen:=by
 rcases h.2 with⟨_,J,U⟩ | ⟨g',cur,dB,J,_,cn,_,J,U,_,aV⟩
 ·subst J; subst U; exact⟨Nat.le_refl _,Nat.zero_le _⟩
 ·exact⟨J,U⟩
end
section
variable {P:Program} {w:World}
theorem SX{B:Nat->Prop} {t ty e:TypeId} {i:bC} (aV:P.underlying t=some (.slice e)) (hi:bC.ok P e i) (cQ:0 < i.size) (nY:i.zero.cells.size=i.size)
  {A:Option Addr} {c n:Nat} {xs:List Value} (eW:ew w B e i.size A c n xs)
  {b:Nat} {p m cc:Nat} {news:List Value} (ad:news.length=m * i.size) (SY:∀ j u,news[j]?=some u->w.cell? ⟨b,p+j,none⟩=some u) (J:∀ u∈news,u.oneCell'=true)
  (KZ:(n+m) * i.bytes<=140737488355328) (hm:n+m<=140737488355328) (oK:¬ B w.heap.size) :
  ∃ b9 c' w',(Builtin.append_ #[t,t] ty #[.slice A n c,.slice (some ⟨b,p,none⟩) m cc]).run P w=.ok (.slice b9 (n+m) c') w'/\ew w' B e i.size b9 c' (n+m) (xs++news) /\
   w'.os=w.os/\w'.tape=w.tape/\w'.output=w.output/\w.heap.size<=w'.heap.size /\
   (∀ k,k < w.heap.size->A.map (·.block)≠some k->w'.heap[k]?=w.heap[k]?)/\(∀ k,b9.map (·.block)=some k->A.map (·.block)=some k\/w.heap.size<=k)/\(n+m<=c->c'=c):=by
 obtain⟨inf,pz,e5,h8,l1⟩:=bC.info hi;have hlen:(xs++news).length=(n+m) * i.size:=by rw[List.length_append,eW.1,ad,Nat.add_mul]
 have En:∀ j v,news[j]?=some v->w.cell? ((⟨b,p,none⟩:Addr).add j)=some v:=fun j v aR=>by rw[Addr.add_lit]; exact SY j v aR
 have SZ:n+m<=maxLen:=by simp only[maxLen]; omega
 have grown:∀ (jo:Nat),jo < n+m ->
   ew (w.drew.alloc (.cells (xs.toArray++news.toArray++Builtin.zeroCells i.zero.cells (grownCap w (n+m) jo e - (n+m))) e)) B e i.size (some ⟨w.heap.size,0,none⟩) (grownCap w (n+m) jo e) (n+m) (xs++news):=by
  intro jo _;have pA:=grownCap_ge w (n+m) jo e;have h9:grownCap w (n+m) jo e<=maxLen:=grownCap_le_maxLen w (n+m) jo e SZ;refine⟨hlen,.inr ⟨w.heap.size,_,(0,0),rfl,oK,heap_alloc_new w.drew _,.inl rfl,pA,h9,?_,?_⟩⟩
  ·simp only[Array.size_append,List.size_toArray,size_zeroCells,nY,eW.1,ad,<- Nat.add_mul]
   congr 1
   omega
  ·simp only[Array.toList_append,List.append_assoc]
   rw[<- List.append_assoc,<- hlen];exact List.take_left
 have blk:∀ o k,k < w.heap.size->(w.drew.alloc o).heap[k]?=w.heap[k]?:=fun o k ab=>Below.heap_alloc w.drew o k ab
 rcases eW.2 with⟨rfl,rfl,rfl⟩ | ⟨g,cur,dB,rfl,pB,aL,kz,oL,h9,gi,pC⟩
 ·have aj:xs=[]:=List.eq_nil_of_length_eq_zero (by simpa using eW.1)
  subst aj
  by_cases qm:m=0
  ·subst qm
   have a7:news=[]:=List.eq_nil_of_length_eq_zero (by simpa using ad);subst a7;refine⟨none,0,w,?_,by simpa using eW,rfl,rfl,rfl,Nat.le_refl _,fun _ _ _=>rfl,(fun k h=>by cases h),fun _=>rfl⟩
   simp[Builtin.append_,run_underlying aV,sizeOf,typeInfo,pz,Builtin.lenOf,Builtin.firstCells,loadCells,loadCellsFrom]
  ·have az:=run_append_nil (P:=P) w t ty e inf i.zero aV pz l1 ⟨b,p,none⟩ m cc news (by rw[ad,e5]) En (by omega) (by omega) (by rw[h8]; have:=KZ; simp only[Nat.zero_add]at this; omega)
   have j7:=grown 0 (by omega);simp only[Nat.zero_add,List.nil_append,Array.empty_append]at j7 ⊢;exact⟨_,_,_,az,j7,rfl,rfl,rfl,by simp,fun k ab _=>blk _ k ab,fun k ab=>.inr (by simp at ab; omega),fun aa=>by omega⟩
 ·have holds:∀ j u,xs[j]?=some u->w.cell? ((⟨g,0,none⟩:Addr).add j)=some u:=fun j u hu=>by
   rw[Addr.add_lit,Nat.zero_add];have aR:j < n * i.size:=by have:=(List.getElem?_eq_some_iff.1 hu).1; rw[eW.1]at this; exact this
   rw[eW.cells rfl j aR];exact hu
  by_cases va:n+m<=c
  ·have xr:n * i.size+news.length<=cur.size:=by rw[ad,gi,<- Nat.add_mul]; exact Nat.mul_le_mul_right _ va
   have aA:=run_firstCells_some (P:=P) w i.size m ⟨b,p,none⟩ m cc news ad En;have dn:=run_storeCells_cells (P:=P) g (n * i.size) news 0 w (fun j aR=>by
     simp only[World.cell?,aL]
     simp; omega) (fun j aR=>by
     simp only[World.frozen?,aL]
     rcases kz with h | h
     ·simp; omega
     ·simp; omega) J
   rw[Nat.add_zero,xq g e dB news _ w cur aL xr]at dn;have dE:(Builtin.append_ #[t,t] ty #[.slice (some ⟨g,0,none⟩) n c,.slice (some ⟨b,p,none⟩) m cc]).run P w =
     .ok (.slice (some ⟨g,0,none⟩) (n+m) c) (w.setRow g (cur.toList.take (n * i.size)++news++cur.toList.drop (n * i.size+news.length)).toArray):=by
    simp[Builtin.append_,run_underlying aV,sizeOf,typeInfo,pz,e5,Builtin.lenOf,va,aA,Addr.add_lit,dn]
   refine⟨some ⟨g,0,none⟩,c,_,dE,⟨hlen,.inr ⟨g,_,dB,rfl,pB,setRow_heap w g cur _ e _ aL,?_,va,h9,?_,?_⟩⟩,rfl,rfl,rfl,by simp,fun k _ ab=>setRow_other w g k _ (fun cm=>ab (by simp[cm])),fun k ab=>.inl ab,fun _=>rfl⟩
   ·rcases kz with h | h
    ·exact .inl h
    ·exact .inr (by simp; omega)
   ·simp only[List.size_toArray,List.length_append,List.length_take,List.length_drop,Array.length_toList]
    omega
   ·rw[pC,<- hlen]
    exact List.take_left
  ·have az:=run_append_grow (P:=P) w t ty e inf i.zero aV pz l1 ⟨g,0,none⟩ n c xs (by rw[eW.1,e5]) holds ⟨b,p,none⟩ m cc news (by rw[ad,e5]) En (by omega) (by omega) (growslice_fits (by omega) (by rw[h8]; exact KZ))
   exact⟨_,_,_,az,grown c (by omega),rfl,rfl,rfl,by simp,fun k ab _=>blk _ k ab,fun k ab=>.inr (by simp at ab; omega),fun aa=>absurd aa va⟩
end
end Go.Proofs.YtcheedjfedcbpaaGreatDoor
namespace Go.Proofs.YtcheedjfedcbpaaGreatDoor
open Go.RowKit
def Reads(w:World) (A:Option Addr) (m size:Nat) (news:List Value):Prop:=
 news.length=m * size/\(0 < m->∃ b p,A=some ⟨b,p,none⟩/\∀ j u,news[j]?=some u->w.cell? ⟨b,p+j,none⟩=some u)
def iY(A:Option Addr) (l size m:Nat):Option Addr:=if m=l then A else A.map (·.add (l * size))
theorem Reads.nil(w:World) (A:Option Addr) (size:Nat):Reads w A 0 size []:=⟨by simp,fun h=>absurd h (by omega)⟩
theorem Reads.cut{w:World} {A:Option Addr} {m size l h c:Nat} {news:List Value} (az:Reads w A m size news) (ad:l<=h) (cn:h<=m) (aa:h<=c) :
  Reads w (iY A l size c) (h - l) size ((news.drop (l * size)).take ((h - l) * size)):=by
 have cQ:h * size<=m * size:=Nat.mul_le_mul_right _ cn;have vb:l * size<=h * size:=Nat.mul_le_mul_right _ ad;refine⟨by rw[List.length_take,List.length_drop,az.1,Nat.sub_mul]; omega,fun aq=>?_⟩;obtain⟨b,p,rfl,ir⟩:=az.2 (by omega);refine⟨b,p+l * size,?_,fun j u hu=>?_⟩
 ·unfold iY
  rw[if_neg (by omega)]
  simp[Addr.add_lit]
 ·rw[List.getElem?_take]at hu
  split at hu
  ·rw[List.getElem?_drop]at hu
   have:=ir _ u hu
   rw[Nat.add_assoc];exact this
  ·cases hu
section
variable {w ai:World} {B:Nat->Prop} {H:List bb} {K:bb->List bb}
theorem Reads.row(ds:bF B ai H w) {A:Option Addr} {c:Nat} {e:TypeId} {size n:Nat} {xs:List Value} (aA:iJ H (.row A c e size n xs) K):Reads w A n size xs:=by
 have a6:ew w B e size A c n xs:=ds.ok _ aA.mem;refine⟨a6.1,fun a7=>?_⟩
 rcases a6.2 with⟨_,J,_⟩ | ⟨g,cur,dB,J,_⟩
 ·omega
 ·refine⟨g,0,J,fun j u hu=>?_⟩
  rw[Nat.zero_add,a6.cells J j (by have:=(List.getElem?_eq_some_iff.1 hu).1; rw[a6.1]at this; exact this)];exact hu
theorem bF.pD(ds:bF B ai H w) (e:TypeId) (size:Nat):bF B ai (.row none 0 e size 0 [] :: H) w:=
 ⟨ds.below,ds.base,fun c aa=>by
  rcases List.mem_cons.1 aa with rfl | aa
  ·exact⟨by simp,.inl ⟨rfl,rfl,rfl⟩⟩
  ·exact ds.ok c aa,List.Pairwise.cons (fun c aa b e=>by cases e) ds.apart⟩
end
section
variable {P:Program} {ops:Array Oper} {o:Oper} {KK:Act->World->Prop}
variable {n:Nat} {D:List Deferred} {L:List (Nat×Value)} {B:Nat->Prop} {ai:World} {H:List bb} {a:Act} {w:World}
variable {T:List (TypeId×bC)} {d:Nat} {K:bb->List bb}
theorem S0{s x:Operand} {t e:TypeId} {i i':bC} {A cY:Option Addr} {c k m cc:Nat} {xs news:List Value} (ar:Sym n D L B ai H a w)
  (ax:o.op=.call { callee:=.builtin .append,args:=#[s,x],argTypes:=#[t,t] }) (a6:o.guard=none/\o.dst=some d) (av:Nat.blt d n=true)
  (bE:gg P T) (J:T.lookup t=some i) (U:i.desc=.slice e) (ah:T.lookup e=some i') (au:Nat.blt 0 i'.size=true) (aF:i'.zero.cells.size=i'.size) (ak:aD L s=some (.slice A k c)) (aj:aD L x=some (.slice cY m cc))
  (aA:iJ H (.row A c e i'.size k xs) K) (az:Reads w cY m i'.size news) (hJ:∀ u∈news,u.oneCell'=true) (ho:(k+m) * i'.bytes<=140737488355328) (ia:k+m<=140737488355328)
  (h:∀ b9 c' aS w',(k+m<=c->c'=c)->Sym n D ((d,.slice b9 (k+m) c') :: L) B ai (K (.row b9 c' e i'.size (k+m) (xs++news))) aS w'->KK aS w'):eR P ops o KK a w:=by
 have aC:=(bE _ _ J).1;rw[U]at aC;have cB:=bE _ _ ah;have eW:ew w B e i'.size A c k xs:=ar.aJ.ok _ aA.mem
 by_cases hm:m=0
 ·subst hm
  have a7:news=[]:=List.eq_nil_of_length_eq_zero (by simpa using az.1);subst a7;have dE:(execOp a.eval o).run P w=.ok (.value (.slice A (k+0) c)) w:=by
   have hle:=eW.le.1;have oM:(Builtin.append_ #[t,t] o.type #[.slice A k c,.slice cY 0 cc]).run P w=.ok (.slice A k c) w:=by
    have gH:=bC.run_sizeOf cB w;have oN:(Builtin.firstCells i'.size 0 (.slice cY 0 cc)).run P w=.ok #[] w:=by
     cases cY<;>simp[Builtin.firstCells,loadCells,loadCellsFrom]
    simp only[Builtin.append_,Sem.run_bind,run_underlying aC,Result.andThen_ok,gH]
    simp[run_underlying aC,Builtin.lenOf,hle,oN]
    cases A<;>simp[storeCells,gH,oN]
   simp[execOp,ax,resolve,invoke,builtin,ar.aD ak,ar.aD aj,oM]
  refine qj ar a6 av dE ?_ (fun aS w'=>h A c aS w' fun _=>rfl)
  have:=ar.aJ
  obtain⟨X,Y,rfl,rfl⟩:=aA
  simpa using this
 ·obtain⟨b,p,rfl,aa⟩:=az.2 (by omega)
  obtain⟨b9,c',w',dE,S1,AG,AH,AI,cQ,lz,iq,va⟩:=SX (P:=P) (ty:=o.type) aC cB (du au) aF eW (cc:=cc) az.1 aa hJ ho ia ar.aJ.fresh;refine qj ar a6 av (w':=w') (v:=.slice b9 (k+m) c') (by simp[execOp,ax,resolve,invoke,builtin,ar.aD ak,ar.aD aj,dE]) ?_ (fun aS w'=>h b9 c' aS w' va);exact ar.aJ.sU aA ⟨AG,AH,AI,cQ,fun q ao=>lz q (ar.aJ.base q ao) (fun cm=>(bb.ok.lt (c:=.row A c e i'.size k xs) eW cm).1 ao)⟩ S1 iq lz
theorem AJ{s x:Operand} {t e:TypeId} {i i':bC} {A cY:Option Addr} {c k m cc:Nat} {xs news:List Value} (ar:Sym n D L B ai H a w)
  (ax:o.op=.call { callee:=.builtin .append,args:=#[s,x],argTypes:=#[t,t] }) (a6:o.guard=none/\o.dst=some d) (av:Nat.blt d n=true)
  (bE:gg P T) (J:T.lookup t=some i) (U:i.desc=.slice e) (ah:T.lookup e=some i') (au:Nat.blt 0 i'.size=true) (aF:i'.zero.cells.size=i'.size) (ak:aD L s=some (.slice A k c)) (aj:aD L x=some (.slice cY m cc))
  (aA:iJ H (.row A c e i'.size k xs) K) (az:Reads w cY m i'.size news) (hJ:∀ u∈news,u.oneCell'=true) (ho:(k+m) * i'.bytes<=140737488355328) (ia:k+m<=140737488355328)
  (h:∀ b9 c' aS w',Sym n D ((d,.slice b9 (k+m) c') :: L) B ai (K (.row b9 c' e i'.size (k+m) (xs++news))) aS w'->KK aS w'):eR P ops o KK a w:=
 S0 ar ax a6 av bE J U ah au aF ak aj aA az hJ ho ia fun b9 c' aS w' _=>h b9 c' aS w'
/-! ### Slices put together out of values -/
end
end Go.Proofs.YtcheedjfedcbpaaGreatDoor
namespace Go.Proofs.YtcheedjfedcbpaaGreatDoor
open Go.RowKit
section
variable {P:Program} {ops:Array Oper} {o:Oper} {KK:Act->World->Prop}
variable {n:Nat} {D:List Deferred} {L:List (Nat×Value)} {B:Nat->Prop} {ai:World} {H:List bb} {a:Act} {w:World}
variable {T:List (TypeId×bC)} {d:Nat} {K:bb->List bb}
theorem K0{u x:Operand} {t e:TypeId} {i i':bC} {A:Option Addr} {m c l:Nat} {k:IntKind} {z:Int} (aI:cW n D L a) (ax:o.op=.slice t u (some x) none none)
  (bE:gg P T) (J:T.lookup t=some i) (U:i.desc=.slice e) (ah:T.lookup e=some i') (hu:aD L u=some (.slice A m c)) (aj:aD L x=some (.int k z)) (bG:z=(l:Int)) (ad:l<=m) :
  fb P o a (.slice (iY A l i'.size c) (m - l) (c - l)):=fun w=>by
 subst bG;have aC:=(bE _ _ J).1;rw[U]at aC;have aiu:(l:Int)<=(m:Int):=by omega
 simp[execOp,ax,aI.aD hu,aI.aD aj,Instr.sliceAt,Instr.slice,Instr.sliceBounds,Instr.sliceBound,asIntOf,run_underlying aC,bC.run_sizeOf (bE _ _ ah),ad,iY]
theorem S2{u x:Operand} {t e:TypeId} {i i':bC} {A:Option Addr} {m c h:Nat} {k:IntKind} {z:Int} (aI:cW n D L a) (ax:o.op=.slice t u none (some x) none)
  (bE:gg P T) (J:T.lookup t=some i) (U:i.desc=.slice e) (ah:T.lookup e=some i') (hu:aD L u=some (.slice A m c)) (aj:aD L x=some (.int k z)) (bG:z=(h:Int)) (ad:h<=c) :
  fb P o a (.slice A h c):=fun w=>by
 subst bG;have aC:=(bE _ _ J).1;rw[U]at aC
 simp[execOp,ax,aI.aD hu,aI.aD aj,Instr.sliceAt,Instr.slice,Instr.sliceBounds,Instr.sliceBound,asIntOf,run_underlying aC,bC.run_sizeOf (bE _ _ ah),ad]
 by_cases aa:c=0
 ·simp[aa]
 ·cases A with
  | none=>simp
  | some rC=>simp[Addr.add]
theorem S3{u x y:Operand} {t e:TypeId} {i i':bC} {A:Option Addr} {m c l h:Nat} {k k':IntKind} {z nZ:Int} (aI:cW n D L a) (ax:o.op=.slice t u (some x) (some y) none)
  (bE:gg P T) (J:T.lookup t=some i) (U:i.desc=.slice e) (ah:T.lookup e=some i') (hu:aD L u=some (.slice A m c)) (aj:aD L x=some (.int k z)) (aT:aD L y=some (.int k' nZ)) (bG:z=(l:Int)) (qn:nZ=(h:Int)) (ad:l<=h) (cn:h<=c) :
  fb P o a (.slice (iY A l i'.size c) (h - l) (c - l)):=fun w=>by
 subst bG; subst qn;have aC:=(bE _ _ J).1;rw[U]at aC
 simp[execOp,ax,aI.aD hu,aI.aD aj,aI.aD aT,Instr.sliceAt,Instr.slice,Instr.sliceBounds,Instr.sliceBound,asIntOf,run_underlying aC,bC.run_sizeOf (bE _ _ ah),ad,cn,iY]
def eh(z:List Value) (k:Nat):List Value:=(List.replicate k z).flatten
theorem xt(z:List Value) (k:Nat):(eh z k).length=k * z.length:=by simp[eh]
theorem K1(z:List Value) (bG:0 < z.length):∀ k:Nat,(Array.range (k * z.length)).map (fun j=>z.toArray[j % z.toArray.size]!)=(eh z k).toArray:=by
 intro k
 apply Array.ext
 ·simp[eh]
 ·intro j J U
  simp only[Array.size_map,Array.size_range]at J;simp only[Array.getElem_map,Array.getElem_range,List.size_toArray];have hm:=Nat.mod_lt j bG;have hlen:j < (eh z k).length:=by rw[xt]; exact J
  have key:∀ (k j:Nat),j < k * z.length->(eh z k)[j]?=z[j % z.length]?:=by
   intro k
   induction k with
   | zero=>intro j aR; simp at aR
   | succ k bA=>
    intro j aR
    have:eh z (k+1)=z++eh z k:=by simp[eh,List.replicate_succ]
    rw[this]
    by_cases a8:j < z.length
    ·rw[List.getElem?_append_left a8,Nat.mod_eq_of_lt a8]
    ·rw[List.getElem?_append_right (by omega),bA (j - z.length) (by rw[Nat.add_mul]at aR; omega)]
     congr 1
     exact(Nat.mod_eq_sub_mod (by omega)).symm
  have ah:=key k j J;have au:(eh z k)[j]?=some (eh z k)[j]:=List.getElem?_eq_getElem hlen;rw[au,List.getElem?_eq_getElem hm]at ah;have aF:(eh z k).toArray[j]=(eh z k)[j]:=by simp
  rw[aF,Option.some.inj ah]
  simp[hm]
theorem S4{s x:Operand} {t e:TypeId} {i i':bC} {A cY:Option Addr} {c k cc:Nat} {xs news:List Value} (ar:Sym n D L B ai H a w)
  (ax:o.op=.call { callee:=.builtin .copy,args:=#[s,x],argTypes:=#[t,t] }) (a6:o.guard=none/\o.dst=some d) (av:Nat.blt d n=true)
  (bE:gg P T) (J:T.lookup t=some i) (U:i.desc=.slice e) (ah:T.lookup e=some i') (ak:aD L s=some (.slice A k c)) (aj:aD L x=some (.slice cY k cc))
  (aA:iJ H (.row A c e i'.size k xs) K) (az:Reads w cY k i'.size news) (hJ:∀ u∈news,u.oneCell'=true)
  (h:∀ aS w',Sym n D ((d,.int .i64 (k:Int)) :: L) B ai (K (.row A c e i'.size k news)) aS w'->KK aS w'):eR P ops o KK a w:=by
 have aC:=(bE _ _ J).1;rw[U]at aC;have cB:=bE _ _ ah;have eW:ew w B e i'.size A c k xs:=ar.aJ.ok _ aA.mem
 by_cases ab:k=0
 ·subst ab
  have a7:news=[]:=List.eq_nil_of_length_eq_zero (by simpa using az.1);have hn:xs=[]:=List.eq_nil_of_length_eq_zero (by simpa using eW.1);subst a7; subst hn;have oM:(Builtin.copy_ #[t,t] o.type #[.slice A 0 c,.slice cY 0 cc]).run P w=.ok (.int .i64 0) w:=by
   have oN:(Builtin.firstCells i'.size 0 (.slice cY 0 cc)).run P w=.ok #[] w:=by
    cases cY<;>simp[Builtin.firstCells,loadCells,loadCellsFrom]
   cases A<;>simp[Builtin.copy_,run_underlying aC,Builtin.lenOf,bC.run_sizeOf cB,oN,storeCells,goInt]
  refine qj ar a6 av (w':=w) (v:=.int .i64 ((0:Nat):Int)) (by simp[execOp,ax,resolve,invoke,builtin,ar.aD ak,ar.aD aj,oM]) ?_ h
  have:=ar.aJ
  obtain⟨X,Y,rfl,rfl⟩:=aA;exact this
 ·obtain⟨b,p,rfl,aa⟩:=az.2 (by omega)
  rcases eW.2 with⟨_,aN,_⟩ | ⟨g,cur,dB,rfl,pB,aL,kz,oL,h9,gi,pC⟩
  ·omega
  ·have xr:0+news.length<=cur.size:=by rw[az.1,gi,Nat.zero_add]; exact Nat.mul_le_mul_right _ oL
   have kA:=run_firstCells_some (P:=P) w i'.size k ⟨b,p,none⟩ k cc news az.1 (fun j v aR=>by rw[Addr.add_lit]; exact aa j v aR);have dn:=run_storeCells_cells (P:=P) g 0 news 0 w (fun j aR=>by
     simp only[World.cell?,aL]
     simp; omega) (fun j aR=>by
     simp only[World.frozen?,aL]
     rcases kz with h | h
     ·simp; omega
     ·simp; omega) hJ
   rw[Nat.add_zero,xq g e dB news _ w cur aL xr]at dn;have oM:(Builtin.copy_ #[t,t] o.type #[.slice (some ⟨g,0,none⟩) k c,.slice (some ⟨b,p,none⟩) k cc]).run P w=.ok (.int .i64 (k:Int)) (w.setRow g (cur.toList.take 0++news++cur.toList.drop (0+news.length)).toArray):=by
    have xu:Nat.min k k=k:=Nat.min_self k;simp only[Builtin.copy_,Sem.run_bind]
    simp[run_underlying aC,Builtin.lenOf,bC.run_sizeOf cB,xu,kA,dn,goInt]
   refine qj ar a6 av (w':=w.setRow g (cur.toList.take 0++news++cur.toList.drop (0+news.length)).toArray) (v:=.int .i64 (k:Int)) (by simp only[execOp,ax,resolve,invoke,builtin,Sem.run_bind,Sem.run_pure,Result.andThen_ok,List.map_toArray,List.map_cons,List.map_nil,ar.aD ak,ar.aD aj,oM]) ?_ h;refine ar.aJ.sU aA ⟨rfl,rfl,rfl,by simp,fun q ao=>setRow_other w g q _ (fun cm=>by subst cm; exact pB ao)⟩ (c':=.row (some ⟨g,0,none⟩) c e i'.size k news) ?_ (fun q ao=>.inl ao) fun q _ ao=>setRow_other w g q _ (fun cm=>ao (by subst cm; rfl))
   refine⟨az.1,.inr ⟨g,_,dB,rfl,pB,setRow_heap w g cur _ e _ aL,?_,oL,h9,?_,?_⟩⟩
   ·rcases kz with h | h
    ·exact .inl h
    ·exact .inr (by simp; omega)
   ·simp only[List.size_toArray,List.length_append,List.length_take,List.length_drop,Array.length_toList]
    omega
   ·simp only[List.take_zero,List.nil_append,<- az.1]
    exact List.take_left
theorem K2{s x:Operand} {t e:TypeId} {i i':bC} {A cY:Option Addr} {c k aX m cc:Nat} {xs news:List Value} (ar:Sym n D L B ai H a w)
  (ax:o.op=.call { callee:=.builtin .copy,args:=#[s,x],argTypes:=#[t,t] }) (a6:o.guard=none/\o.dst=some d) (av:Nat.blt d n=true)
  (bE:gg P T) (J:T.lookup t=some i) (U:i.desc=.slice e) (ah:T.lookup e=some i') (ak:aD L s=some (.slice (iY A aX i'.size c) (k - aX) (c - aX))) (aj:aD L x=some (.slice cY m cc))
  (aA:iJ H (.row A c e i'.size k xs) K) (az:Reads w cY m i'.size news) (hJ:∀ u∈news,u.oneCell'=true) (cQ:0 < i'.size) (hm:aX+m<=k)
  (h:∀ aS w',Sym n D ((d,.int .i64 (m:Int)) :: L) B ai (K (.row A c e i'.size k (xs.take (aX * i'.size)++news++xs.drop (aX * i'.size+news.length)))) aS w'->KK aS w'):eR P ops o KK a w:=by
 have aC:=(bE _ _ J).1;rw[U]at aC;have cB:=bE _ _ ah;have eW:ew w B e i'.size A c k xs:=ar.aJ.ok _ aA.mem
 by_cases ab:m=0
 ·subst ab
  have a7:news=[]:=List.eq_nil_of_length_eq_zero (by simpa using az.1);subst a7;have oM:(Builtin.copy_ #[t,t] o.type #[.slice (iY A aX i'.size c) (k - aX) (c - aX),.slice cY 0 cc]).run P w=.ok (.int .i64 0) w:=by
   have oN:(Builtin.firstCells i'.size 0 (.slice cY 0 cc)).run P w=.ok #[] w:=by
    cases cY<;>simp[Builtin.firstCells,loadCells,loadCellsFrom]
   generalize iY A aX i'.size c=b9
   cases b9<;>simp[Builtin.copy_,run_underlying aC,Builtin.lenOf,bC.run_sizeOf cB,oN,storeCells,goInt]
  refine qj ar a6 av (w':=w) (v:=.int .i64 ((0:Nat):Int)) (by simp[execOp,ax,resolve,invoke,builtin,ar.aD ak,ar.aD aj,oM]) ?_ h
  have:=ar.aJ
  obtain⟨X,Y,rfl,rfl⟩:=aA;rw[List.append_nil,List.length_nil,Nat.add_zero,List.take_append_drop];exact this
 ·obtain⟨b,p,rfl,aa⟩:=az.2 (by omega)
  rcases eW.2 with⟨_,aN,_⟩ | ⟨g,cur,dB,rfl,pB,aL,kz,oL,h9,gi,pC⟩
  ·omega
  ·have S5:aX≠c:=by omega
   have S6:iY (some ⟨g,0,none⟩) aX i'.size c=some ⟨g,aX * i'.size,none⟩:=by
    unfold iY;rw[if_neg (fun e=>S5 e.symm)]
    by_cases aN:aX * i'.size=0
    ·simp[Addr.add,aN]
    ·simp[Addr.add,aN]
   rw[S6]at ak;have AK:(aX+m) * i'.size<=k * i'.size:=Nat.mul_le_mul_right _ hm;have aiv:k * i'.size<=c * i'.size:=Nat.mul_le_mul_right _ oL;have xr:aX * i'.size+news.length<=cur.size:=by
    rw[az.1,gi,<- Nat.add_mul];omega
   have kA:=run_firstCells_some (P:=P) w i'.size m ⟨b,p,none⟩ m cc news az.1 (fun j v aR=>by rw[Addr.add_lit]; exact aa j v aR);have dn:=run_storeCells_cells (P:=P) g (aX * i'.size) news 0 w (fun j aR=>by
     simp only[World.cell?,aL]
     simp; omega) (fun j aR=>by
     simp only[World.frozen?,aL]
     rcases kz with h | h
     ·simp; omega
     ·simp; omega) hJ
   rw[Nat.add_zero,xq g e dB news _ w cur aL xr]at dn;have oM:(Builtin.copy_ #[t,t] o.type #[.slice (some ⟨g,aX * i'.size,none⟩) (k - aX) (c - aX),.slice (some ⟨b,p,none⟩) m cc]).run P w=.ok (.int .i64 (m:Int)) (w.setRow g (cur.toList.take (aX * i'.size)++news++cur.toList.drop (aX * i'.size+news.length)).toArray):=by
    have xu:Nat.min (k - aX) m=m:=Nat.min_eq_right (by omega);have S7:Nat.min m (k - aX)=m:=Nat.min_eq_left (by omega);simp only[Builtin.copy_,Sem.run_bind]
    simp[run_underlying aC,Builtin.lenOf,bC.run_sizeOf cB,xu,S7,kA,dn,goInt]
   refine qj ar a6 av (w':=w.setRow g (cur.toList.take (aX * i'.size)++news++cur.toList.drop (aX * i'.size+news.length)).toArray) (v:=.int .i64 (m:Int)) (by simp only[execOp,ax,resolve,invoke,builtin,Sem.run_bind,Sem.run_pure,Result.andThen_ok,List.map_toArray,List.map_cons,List.map_nil,ar.aD ak,ar.aD aj,oM]) ?_ h;refine ar.aJ.sU aA ⟨rfl,rfl,rfl,by simp,fun q ao=>setRow_other w g q _ (fun cm=>by subst cm; exact pB ao)⟩ (c':=.row (some ⟨g,0,none⟩) c e i'.size k (xs.take (aX * i'.size)++news++xs.drop (aX * i'.size+news.length))) ?_ (fun q ao=>.inl ao) fun q _ ao=>setRow_other w g q _ (fun cm=>ao (by subst cm; rfl))
   have iZ:=eW.1;have rD:m * i'.size=news.length:=az.1.symm;have S8:aX * i'.size+news.length<=k * i'.size:=by rw[<- rD,<- Nat.add_mul]; exact AK
   refine⟨?_,.inr ⟨g,_,dB,rfl,pB,setRow_heap w g cur _ e _ aL,?_,oL,h9,?_,?_⟩⟩
   ·simp only[List.length_append,List.length_take,List.length_drop,iZ]
    omega
   ·rcases kz with h | h
    ·exact .inl h
    ·exact .inr (by simp only[List.size_toArray,List.length_append,List.length_take,List.length_drop,Array.length_toList]; omega)
   ·simp only[List.size_toArray,List.length_append,List.length_take,List.length_drop,Array.length_toList]
    omega
   ·show(cur.toList.take (aX * i'.size)++news++cur.toList.drop (aX * i'.size+news.length)).take (k * i'.size)=_
    have gH:(cur.toList.take (aX * i'.size)++news).length=aX * i'.size+news.length:=by
     simp only[List.length_append,List.length_take,Array.length_toList];omega
    rw[List.take_append,List.take_of_length_le (by rw[gH]; exact S8),gH,<- pC,List.take_take,Nat.min_eq_left (by omega),List.drop_take]
end
end Go.Proofs.YtcheedjfedcbpaaGreatDoor
namespace Go.Proofs.YtcheedjfedcbpaaGreatDoor
end Go.Proofs.YtcheedjfedcbpaaGreatDoor
namespace Go.Proofs.YtcheedjfedcbpaaGreatDoor
open Go.RowKit
section
def bb.S9:bb->Bool
 | .obj _ _=>false
 | _=>true
theorem ew.isCells{w:World} {B:Nat->Prop} {e:TypeId} {size c n:Nat} {A:Option Addr} {xs:List Value} (h:ew w B e size A c n xs) {b:Nat} (ae:A.map (·.block)=some b):∃ cs e dB,w.heap[b]?=some (.cells cs e dB):=by
 rcases h.2 with⟨rfl,_⟩ | ⟨g,cur,dB,rfl,aL,cn,_⟩
 ·cases ae
 ·have:g=b:=Option.some.inj ae
  subst this;exact⟨_,_,_,cn⟩
theorem bb.ok.cells{B:Nat->Prop} {w:World} {c:bb} (h:c.ok B w) (aa:c.S9=true) {b:Nat} (ae:c.has b):∃ cs e dB,w.heap[b]?=some (.cells cs e dB):=by
 cases c with
 | obj b' o=>cases aa
 | gv b' cs e=>
  have:b'=b:=Option.some.inj ae
  subst this;exact⟨_,_,_,h.2⟩
 | row A c e size n xs=>exact ew.isCells h ae
 | tree rs=>
  obtain⟨r,az,ae⟩:=ae;exact ew.isCells (h.1 r az) ae
section
variable {B:Nat->Prop} {ai w:World}
end
def sV(k:Nat):Deferred:={ target:=.collected k,args:=#[] }
end
end Go.Proofs.YtcheedjfedcbpaaGreatDoor
namespace Go.Proofs.YtcheedjfedcbpaaGreatDoor
open Go.RowKit
section
variable {r:Option Nat} {P:Program} {ops:Array Oper} {Q:Exit->Act->World->Prop} {o:Oper} {KK:Act->World->Prop} {c:Code}
variable {n:Nat} {D:List Deferred} {L:List (Nat×Value)} {B:Nat->Prop} {ai:World} {H:List bb} {a:Act} {w:World} {d:Nat}
theorem K3{N:Nat} {vs:List Value} {fn:Func} (bd:fn.ntmps=N) (hle:vs.length<=N) (kS:List (Nat×Value)) (dY:kS=vs.zipIdx.map fun p=>(p.2,p.1)) :
  cW N [] kS { tmps:=vs.toArray++Array.replicate (fn.ntmps - vs.toArray.size) undef,defers:=[] }:=by
 refine⟨by rw[bd]; exact SO vs hle,rfl,fun s v ak=>?_⟩;have key:∀ (vs:List Value) (k:Nat),((vs.zipIdx k).map fun p=>(p.2,p.1)).lookup s=some v->k<=s/\vs[s - k]?=some v:=by
  intro vs
  induction vs with
  | nil=>intro k h; cases h
  | cons u vs bA=>
   intro k h;simp only[List.zipIdx_cons,List.map_cons,List.lookup_cons]at h
   by_cases e:s=k
   ·subst e
    simp at h
    subst h
    simp
   ·have cm:(s == k)=false:=by simpa using e
    rw[cm]at h;obtain⟨J,U⟩:=bA (k+1) h;refine⟨by omega,?_⟩;rw[show s - k=(s - (k+1))+1 by omega,List.getElem?_cons_succ];exact U
 have J:=(key vs 0 (by rw[<- dY]; exact ak)).2;simp only[Nat.sub_zero]at J;have a8:s < vs.length:=(List.getElem?_eq_some_iff.1 J).1;show(vs.toArray++_)[s]?=some v;rw[Array.getElem?_append_left (by simpa using a8)]
 simpa using J
theorem K4{fn:Func} {tmps:Array Value} {R:Value->World->Prop} {v:Value} (rE:∀ w,bF B ai H w->(results fn tmps).run P w=.ok v w) (h:∀ w,bF B ai H w->R v w) :
  ∀ (ks:List Nat) (w:World),bF B ai (ks.map (fun k=>bb.obj k (.deferred (some [])))++H) w->LeavesInM Fence.wide 0 P fn tmps (fun e w'=>∃ v,e=.returned v/\R v w') (ks.map sV) .returning w
 | [],w,ak=>⟨v,rE w ak,v,rfl,h w ak⟩
 | k :: ks,w,ak=>by
  have ab:=(ak.ok (.obj k (.deferred (some []))) (by simp)).2;refine⟨by simp,.inl ⟨k,_,rfl,run_takeDeferred ab,?_⟩⟩;refine K4 rE h ks _ ?_
  have:=(ak.u9 (x':=.deferred none) (K:=fun c=>c :: (ks.map (fun k=>bb.obj k (.deferred (some [])))++H)) u5).ep (List.sublist_cons_self _ _)
  exact this
theorem K5{fn:Func} {R:Value->World->Prop} {v:Value} (ks:List Nat) (ar:Sym n (ks.map sV) L B ai (ks.map (fun k=>bb.obj k (.deferred (some [])))++H) a w)
  (rE:∀ w,bF B ai H w->(results fn a.tmps).run P w=.ok v w) (h:∀ w,bF B ai H w->R v w):bodyPostM Fence.wide 0 P fn (fun e w'=>∃ v,e=.returned v/\R v w') .ret a w:=by
 show LeavesInM _ _ _ _ _ _ a.defers _ _;rw[ar.st.defs];exact K4 rE h ks w ar.aJ
end
end Go.Proofs.YtcheedjfedcbpaaGreatDoor
namespace Go.Proofs.YtcheedjfedcbpaaGreatDoor
theorem bF.frame{B:Nat->Prop} {ai w w':World} {H1 H K6:List bb} (h:bF B ai (H1++H) w) (aO:bF (gh w H1) w K6 w'):bF B ai (K6++H) w':=by
 have J:bF B ai H1 w:=h.ep (List.sublist_append_left _ _);have U:bF B ai H w:=h.ep (List.sublist_append_right _ _);have ab:=J.back aO;have j8:=(List.pairwise_append.1 h.apart).2.2;have az:∀ c∈H,∀ b,c.has b->gh w H1 b:=fun c aa b e=>⟨((U.ok c aa).lt e).2,fun d av cm=>j8 d av c aa b cm e⟩
 refine⟨ab.below,ab.base,fun c hm=>?_,List.pairwise_append.2 ⟨ab.apart,U.apart,fun c hm d av b e cm=>?_⟩⟩
 ·rcases List.mem_append.1 hm with hm | hm
  ·exact ab.ok c hm
  ·exact(U.ok c hm).dP fun b e=>aO.below.block b (az c hm b e)
 ·exact((aO.ok c hm).lt e).1 (az d av b cm)
theorem K7 {P : Program} {f : FuncId} {fn : Func} {args : Array Value} {w : World} (gR : P.funcs[f]? = some fn) (a7 : (fn.name == "runtime.NumGoroutine") = false) (ae : fn.body.isNone = false) : (callFunc f args).run P w = .ok (.enter f args) w := by
 have hn : fn.name ≠ "runtime.NumGoroutine" := by simpa using a7
 have dm:fn.body≠none:=by intro h; rw[h]at ae; cases ae
 simp[callFunc,program,Sem.run,gR,hn,dm]
end Go.Proofs.YtcheedjfedcbpaaGreatDoor
namespace Go.Proofs.YtcheedjfedcbpaaGreatDoor
end Go.Proofs.YtcheedjfedcbpaaGreatDoor
namespace Go.Proofs.YtcheedjfedcbpaaGreatDoor
open Go.RowKit
section
section
variable {P:Program} {ops:Array Oper} {o:Oper} {KK:Act->World->Prop} {n:Nat} {D:List Deferred} {L:List (Nat×Value)} {B:Nat->Prop} {ai:World} {H:List bb} {a:Act} {w:World} {d:Nat} {T:List (TypeId×bC)}
theorem Ta{f:FuncId} {fn:Func} {s:Nat} {lb:List Value} {xs:List Operand} {fr:Array TypeId} {vs:List Value} (ar:Sym n D L B ai H a w) (ax:o.op=.call { callee:=.value (.tmp s),args:=xs.toArray,argTypes:=fr })
  (ak:L.lookup s=some (.func (.func f) #[] lb.toArray)) (gR:P.funcs[f]?=some fn)
  (a7 : (fn.name == "runtime.NumGoroutine") = false) (ae : fn.body.isNone = false) (aB : iz L xs = some vs) : (execOp a.eval o).run P w = .ok (.enter f (vs ++ lb).toArray) w := by
 have e:a.eval (.tmp s)=.func (.func f) #[] lb.toArray:=ar.aD (x:=.tmp s) ak
 have hn : fn.name ≠ "runtime.NumGoroutine" := by simpa using a7
 have dm:fn.body≠none:=by intro h; rw[h]at ae; cases ae
 simp[execOp,ax,resolve,e,Deferred.ofValue,invoke,callFunc,program,Sem.run,gR,hn,dm,ar.st.iz aB]
theorem Tb{f:FuncId} {fn:Func} {s:Nat} {lb:List Value} {xs:List Operand} {fr:Array TypeId} {vs:List Value} {R:Value->World->Prop} (ar:Sym n D L B ai H a w)
  (ax:o.op=.call { callee:=.value (.tmp s),args:=xs.toArray,argTypes:=fr }) (a6:o.guard=none/\o.dst=some d) (av:Nat.blt d n=true) (ak:L.lookup s=some (.func (.func f) #[] lb.toArray))
  (gR : P.funcs[f]? = some fn) (a7 : (fn.name == "runtime.NumGoroutine") = false) (ae : fn.body.isNone = false) (aB : iz L xs = some vs) (dK : oJ P f (vs ++ lb).toArray w R)
  (h:∀ v aS w',R v w'->cW n D ((d,v) :: L) aS->KK aS w'):eR P ops o KK a w:=by
 refine .inl ⟨by simp[Region.wanted,a6.1],.inr (.inr ⟨f,(vs++lb).toArray,w,Ta ar ax ak gR a7 ae aB,?_⟩)⟩;refine Calls.mono dK ?_;rintro e w' ⟨v,rfl,dT⟩;exact⟨v,rfl,h v _ w' dT (by rw[a6.2]; exact ar.st.put d v (du av))⟩
theorem bF.AL{b:Nat} {cs:List Value} {e:TypeId} {size m:Nat} (ds:bF B ai (.gv b cs e :: H) w) (ad:cs.length=m * size) (hm:m<=140737488355328):bF B ai (.row (some ⟨b,0,none⟩) m e size m cs :: H) w:=by
 refine⟨ds.below,ds.base,fun c aa=>?_,?_⟩
 ·rcases List.mem_cons.1 aa with rfl | aa
  ·have:=ds.ok _ (List.mem_cons_self)
   exact⟨ad,.inr ⟨b,cs.toArray,(0,0),rfl,this.1,this.2,.inl rfl,Nat.le_refl _,by unfold maxLen; omega,by simpa using ad,by simp[<- ad]⟩⟩
  ·exact ds.ok c (List.mem_cons_of_mem _ aa)
 ·have:=List.pairwise_cons.1 ds.apart
  exact List.Pairwise.cons (fun c aa b cm=>this.1 c aa b (by simpa [bb.has] using cm)) this.2
inductive kB:List Value->Nat->List Value->List Value->Prop where
 | nil {l:List Value}:kB l 0 [] l
 | cons {c v:Value} {l l' vs:List Value} (h:kB l 0 vs l'):kB (c :: l) 0 (v :: vs) (v :: l')
 | skip {c:Value} {l l' vs:List Value} {k:Nat} (h:kB l k vs l'):kB (c :: l) (k+1) vs (c :: l')
theorem kB.eq{l l' vs:List Value} {k:Nat} (h:kB l k vs l'):l'=l.take k++vs++l.drop (k+vs.length)/\k+vs.length<=l.length:=by
 induction h with
 | nil=>simp
 | cons _ bA=>exact⟨by simp only[Nat.zero_add,List.take_zero,List.nil_append]at bA; rw[bA.1]; simp,by simp only[List.length_cons]at *; omega⟩
 | skip _ bA=>exact⟨by rw[bA.1,show ∀ a b:Nat,a+1+b=(a+b)+1 by omega]; simp,by simp only[List.length_cons]at *; omega⟩
theorem Eo:∀ (vs:List Value) (l:List Value) (k j:Nat),k+j+vs.length<=l.length ->
  ((vs.zipIdx j).foldl (fun(cs:Array Value) (p:Value×Nat)=>cs.setIfInBounds (k+p.2) p.1) l.toArray)=(l.take (k+j)++vs++l.drop (k+j+vs.length)).toArray
 | [],l,k,j,h=>by simp
 | v :: vs,l,k,j,h=>by
  simp only[List.length_cons]at h;simp only[List.zipIdx_cons,List.foldl_cons];rw[show l.toArray.setIfInBounds (k+j) v=(l.set (k+j) v).toArray by simp];rw[Eo vs _ k (j+1) (by simp; omega)]
  congr 1
  rw[show k+(j+1)=k+j+1 by omega,List.take_succ_eq_append_getElem (by simp; omega)];simp only[List.getElem_set_self,List.append_assoc,List.length_cons];rw[List.take_set_of_le (by omega),List.drop_set_of_lt (by omega)]
  simp[Nat.add_comm,Nat.add_left_comm]
theorem Tc{pl:Nat->Option (Nat×Nat)} {z nZ:List Value} {i off size:Nat} {v:Value} {rest:List (Nat×Value)} (aq:pl i=some (off,size)) (ad:v.cells.size=size) (h:kB z off v.cells.toList nZ) :
  Instr.fill pl z.toArray ((i,v) :: rest)=Instr.fill pl nZ.toArray rest:=by
 obtain⟨J,U⟩:=h.eq;rw[Instr.fill];simp only[aq];simp only[Array.length_toList]at U J;rw[if_neg (by simp[ad]; simp[ad]at U; omega)]
 congr 1
 have:=Eo v.cells.toList z off 0 (by simp only[Array.length_toList]; omega)
 rw[J,<- Array.foldl_toList];simp only[Nat.add_zero,Array.toList_zipIdx,Array.length_toList]at this ⊢;exact this
end
end
end Go.Proofs.YtcheedjfedcbpaaGreatDoor
namespace Go.Proofs.YtcheedjfedcbpaaGreatDoor
open Go.RowKit
theorem Td(qo:ByteArray):∀ (k i:Nat) (r:List UInt8),qo.size - i=k->ByteArray.toList.loop qo i r=r.reverse++qo.data.toList.drop i:=by
 intro k
 induction k with
 | zero=>
  intro i r h;unfold ByteArray.toList.loop;rw[if_neg (by omega),List.drop_of_length_le (by simp; show qo.size<=i; omega),List.append_nil]
 | succ k bA=>
  intro i r h;have hi:i < qo.size:=by omega
  unfold ByteArray.toList.loop;rw[if_pos hi,bA (i+1) _ (by omega)];have mD:i < qo.data.toList.length:=by simpa using hi
  rw[List.drop_eq_getElem_cons mD]
  have:qo.get! i=qo.data.toList[i]:=by
   simp only[ByteArray.get!,Array.getElem_toList];exact getElem!_pos qo.data i (by simpa using hi)
  simp[this]
theorem xv(l:List UInt8):(ByteArray.mk l.toArray).toList=l:=by
 unfold ByteArray.toList;rw[Td _ _ 0 [] rfl]
 simp
def eP(l:List UInt8):Value:=.string ⟨l.toArray⟩
section
variable {P:Program} {ops:Array Oper} {Q:Exit->Act->World->Prop} {o:Oper} {KK:Act->World->Prop} {n:Nat} {D:List Deferred} {L:List (Nat×Value)} {B:Nat->Prop} {ai:World} {H:List bb} {a:Act} {w:World} {d:Nat} {T:List (TypeId×bC)} {r:Option Nat} {c:Code}
theorem Te{u v:Operand} {t bQ:TypeId} {x y:List UInt8} (aI:cW n D L a) (ax:o.op=.binOp .eql t u v bQ) (hu:aD L u=some (eP x)) (aB:aD L v=some (eP y)):fb P o a (.bool (x == y)):=by
 have:=SR (P:=P) aI ax hu aB
 rw[xv,xv]at this;exact this
theorem Tf{u v:Operand} {t bQ:TypeId} {x y:List UInt8} (aI:cW n D L a) (ax:o.op=.binOp .neq t u v bQ) (hu:aD L u=some (eP x)) (aB:aD L v=some (eP y)):fb P o a (.bool (!(x == y))):=by
 have:=SS (P:=P) aI ax hu aB
 rw[xv,xv]at this;exact this
theorem Tg{u:Operand} {t bQ e:TypeId} {i i' K8:bC} {A:Option Addr} {m c:Nat} {l:List UInt8} (aI:cW n D L a) (ax:o.op=.convert t bQ u) (bE:gg P T) (J:T.lookup t=some i) (U:T.lookup bQ=some i') (ah:i.desc=.slice e) (au:i'.desc=.string)
  (aF:T.lookup e=some K8) (aY:K8.desc=.int .u8) (hu:aD L u=some (.slice A m c)) (w:World) (az:Reads w A m 1 (l.map fun c=>Value.int .u8 c.toNat)) :
  (execOp a.eval o).run P w=.ok (.value (eP l)) w:=by
 have aC:=(bE _ _ J).1;rw[ah]at aC;have aW:=(bE _ _ U).1;rw[au]at aW;have gj:=(bE _ _ aF).1;rw[aY]at gj;have hm:l.length=m:=by simpa using az.1
 subst hm
 have:(convert t bQ (.slice A l.length c)).run P w=.ok (eP l) w:=by
  by_cases aN:l.length=0
  ·have ad:l=[]:=List.eq_nil_of_length_eq_zero aN
   subst ad;cases A with
   | none=>simp[convert,run_underlying aC,run_underlying aW,run_underlying gj,Conv.bytesToString,eP]; rfl
   | some rC=>exact run_convert_bytes_back w t bQ e rC c [] aC gj aW (fun j aR=>by simp at aR)
  ·obtain⟨b,p,rfl,aa⟩:=az.2 (by omega)
   exact run_convert_bytes_back w t bQ e ⟨b,p,none⟩ c l aC gj aW (fun j aR=>by rw[Addr.add_lit]; exact aa j _ (by simp[aR]))
 simp[execOp,ax,aI.aD hu,this]
end
end Go.Proofs.YtcheedjfedcbpaaGreatDoor
namespace Go.Proofs.YtcheedjfedcbpaaGreatDoor
end Go.Proofs.YtcheedjfedcbpaaGreatDoor
namespace Go.Proofs.YtcheedjfedcbpaaGreatDoor
open Go.RowKit
section
section
variable {P:Program} {ops:Array Oper} {Q:Exit->Act->World->Prop} {o:Oper} {KK:Act->World->Prop} {n:Nat} {D:List Deferred} {L:List (Nat×Value)} {B:Nat->Prop} {ai:World} {H:List bb} {a:Act} {w:World} {d:Nat} {T:List (TypeId×bC)} {K:bb->List bb}
theorem bF.rowAt(ds:bF B ai H w) {A:Option Addr} {c:Nat} {e:TypeId} {size m:Nat} {xs:List Value} (aA:iJ H (.row A c e size m xs) K) (hm:0 < m):∃ g,A=some ⟨g,0,none⟩:=by
 rcases (ds.ok _ aA.mem).2 with⟨_,h,_⟩ | ⟨g,_,_,h,_⟩
 ·omega
 ·exact⟨g,h⟩
end
end
section
open Go.ChangeShapes Go.WideShapes Go.ChangeAt Go.RowKit
section
variable {H:Type} {enc:TypeId×Value->H} {P:Program}
theorem K9(ad:laidOutB P=true) {W de:World} (ae:Below W.heap.size W de) {sp:Nat->Bool} :
  ∀ (fr:List TypeId) (vs:List Value) (aE:List (DataW H)) (ps:List MemPlace),(∀ t∈fr,P.readableRec t=true/\t < P.types.size)->(∀ x∈ps,x.block < W.heap.size)->(∀ x∈ps,sp x.block=true) ->
   DataW.TrodAll enc P W 0 (fun _=>true) true fr vs aE ps->DataW.TrodAll enc P de 0 sp true fr vs aE ps
 | [],[],[],ps,_,_,_,h=>h
 | t :: fr,v :: vs,d :: aE,ps,az,a8,ja,h=>by
  obtain⟨p,q,J,U,rfl⟩:=h;refine⟨p,q,WideElems.Trod_stays ad (az t (by simp)).1 (az t (by simp)).2 J (fun x aj=>ae.same (a8 x (by simp[aj]))) (fun x aj=>ja x (by simp[aj])),?_,rfl⟩;exact K9 ad ae fr vs aE q (fun bQ aV=>az bQ (by simp[aV])) (fun x aj=>a8 x (by simp[aj])) (fun x aj=>ja x (by simp[aj])) U
 | [],[],_ :: _,_,_,_,_,h=>h.elim
 | [],_ :: _,_,_,_,_,_,h=>h.elim
 | _ :: _,[],_,_,_,_,_,h=>h.elim
 | _ :: _,_ :: _,[],_,_,_,_,h=>h.elim
theorem Th{f:Func} {s:ChangeSpec} {apart fresh handsOn:Bool} {t:TypeId} {W de:World} {args:Array Value} {aE gs:List (DataW H)} {before:List MemPlace}
  (rF:DataW.Whole enc P f.params.toList s.vars apart W args.toList aE gs before) (aB:s.vars=[]) (gR:s.fn H (aE++gs)={ results:=[.lit (.bool true)],args:=aE }) (Ti:f.resultTypes=#[t]) (aV:P.underlying t=some .bool)
  (ad:laidOutB P=true) (Tj:∀ t∈f.params.toList,P.readableRec t=true/\t < P.types.size) (ae:Below W.heap.size W de):s.post enc P f apart fresh handsOn false W args (.bool true) de:=by
 have a8:∀ p∈before,p.block < W.heap.size:=fun p aq=>rF.lt p aq
 have AM:=rF;obtain⟨p,q,J,U,rfl,_,_⟩:=rF;rw[aB]at U;obtain⟨rfl,rfl⟩:=trodVars_none U;simp only[List.append_nil]at a8 AM gR;refine⟨aE,[],p,[],p,[],AM,?_,?_,?_,World.keptBut_mono (fun x aj=>⟨aj,Or.inr (Or.inl aj)⟩) (ae.frame (·∈p)),fun h=>by cases h⟩
 ·simp only[List.append_nil,gR,Ti]
  exact trodAll_mk1 (shut_bool aV true)
 ·simp only[List.append_nil,gR]
  exact K9 ad ae _ _ _ _ Tj a8 (fun x aj=>by simpa using a8 x aj) J
 ·simp only[List.append_nil,gR,aB]
  rfl
end
end
section
section
variable {P:Program} {ops:Array Oper} {Q:Exit->Act->World->Prop} {o:Oper} {KK:Act->World->Prop} {n:Nat} {D:List Deferred} {L:List (Nat×Value)} {B:Nat->Prop} {ai:World} {H:List bb} {a:Act} {w:World} {d:Nat} {T:List (TypeId×bC)} {K:bb->List bb}
end
theorem jq{α:Type} (f:α->List Value) (s:Nat) (aA:∀ x,(f x).length=s) (l:List α):(l.flatMap f).length=l.length * s:=by
 induction l with
 | nil=>simp
 | cons x l bA=>rw[List.flatMap_cons,List.length_append,bA,aA,List.length_cons,Nat.add_mul]; omega
theorem La{α:Type} (f:α->List Value) (s:Nat) (aA:∀ x,(f x).length=s) (l:List α) (k j:Nat) (ab:k < l.length) (v:Value) (aB:(f l[k])[j]?=some v):(l.flatMap f)[k * s+j]?=some v:=by
 induction l generalizing k with
 | nil=>simp at ab
 | cons x l bA=>
  have aj:=aA x;cases k with
  | zero=>
   have aR:=(List.getElem?_eq_some_iff.1 aB).1;rw[List.flatMap_cons,List.getElem?_append_left (by simp only[List.getElem_cons_zero]at aR; omega)]
   simpa using aB
  | succ k=>
   have:=bA k (by simpa using ab) (by simpa using aB)
   rw[List.flatMap_cons,List.getElem?_append_right (by rw[aj,Nat.add_mul]; omega),aj,show(k+1) * s+j - s=k * s+j by rw[Nat.add_mul]; omega];exact this
theorem Reads.AN{B:Nat->Prop} {ai w:World} {H:List bb} (ds:bF B ai H w) {A:Option Addr} {c:Nat} {e:TypeId} {size n:Nat} {xs:List Value} (hm:bb.row A c e size n xs∈H):Reads w A n size xs:=by
 obtain⟨X,Y,rfl⟩:=List.append_of_mem hm;exact Reads.row ds (K:=fun c=>X++c :: Y) ⟨X,Y,rfl,rfl⟩
end
section
open Go.ChangeShapes Go.WideShapes Go.ChangeAt Go.RowKit
section
variable {H:Type} {enc:TypeId×Value->H} {P:Program} {W:World}
theorem Lb{a:Addr} {v:Value} (h:W.cell? a=some v):a=⟨a.block,a.off,none⟩:=by
 obtain⟨b,p,s⟩:=a;cases s with
 | none=>rfl
 | some s=>
  exfalso
  simp only[World.cell?]at h
  split at h<;>simp at h
theorem Ep{α:Type} {Q:Nat->α->Prop}:∀ n:Nat,(∀ i,i < n->∃ x,Q i x)->∃ l:List α,l.length=n/\∀ i (hi:i < l.length),Q i l[i]
 | 0,_=>⟨[],rfl,fun i hi=>by simp at hi⟩
 | n+1,h=>by
  obtain⟨l,ad,ao⟩:=Ep n (fun i hi=>h i (by omega));obtain⟨x,aj⟩:=h n (by omega);refine⟨l++[x],by simp[ad],fun i hi=>?_⟩
  by_cases mD:i < l.length
  ·rw[List.getElem_append_left mD]; exact ao i mD
  ·have:i=n:=by simp at hi; omega
   subst this;rw[List.getElem_append_right (by omega)]
   simpa [ad] using aj
theorem Tk{α:Type} {f:α->List Value} {s:Nat} (ak:∀ x,(f x).length=s) (np:0 < s) {t e:TypeId} {r:Reach} {oO:Nat} {v:Value} {d:DataW H} {ps:List MemPlace} (aV:P.underlying t=some (.slice e)) (aa:P.cellsOf e=s)
  (jr:∀ k cs x,DataW.trod enc P W 0 (fun _=>true) true k e cs=some x->∃ y:α,cs=f y) (sW:Value.okWide P W r oO t v) (av:DataW.Trod enc P W 0 (fun _=>true) true t v d ps) :
  ∃ A len cap,∃ l:List α,v=.slice A len cap/\l.length=len/\len<=cap/\cap<=maxLen/\Reads W A len s (l.flatMap f):=by
 obtain⟨A,len,cap,rfl⟩:=okWide_slice aV sW;obtain⟨fuel,aA⟩:=av;have aC:(Value.slice A len cap).cells.toList=[.slice A len cap]:=rfl;rw[aC]at aA
 rcases DataW.trod_slice aV aA with⟨h,_⟩ | ⟨a,aiw,aix,elems,rest,n,_,h,_,_,ad,hm,hlen,nq,_,_⟩
 ·simp only[List.cons.injEq,Value.slice.injEq,and_true]at h
  obtain⟨rfl,rfl,rfl⟩:=h;exact⟨none,0,0,[],rfl,rfl,Nat.le_refl _,Nat.zero_le _,Reads.nil _ _ _⟩
 ·simp only[List.cons.injEq,Value.slice.injEq,and_true]at h
  obtain⟨rfl,rfl,rfl⟩:=h;rw[aa]at nq;obtain⟨l,qp,ao⟩:=Ep (Q:=fun i (y:α)=>∀ j,j < s->W.cell? ((a.add (i * s)).add j)=(f y)[j]?) len (fun i hi=>by
   have J:=nq i hi;have U:elems[i]?=some (elems[i]'(by omega)):=List.getElem?_eq_getElem (by omega);rw[U,Option.bind_eq_some_iff]at J;obtain⟨cs,ah,au⟩:=J;obtain⟨y,rfl⟩:=jr _ _ _ au;exact⟨y,(World.cells?_some ah).2.2⟩)
  refine⟨some a,len,cap,l,rfl,qp,ad,hm,by rw[jq f s ak,qp],fun aN=>?_⟩;have bG:=ao 0 (by omega) 0 np;have qn:W.cell? a=some ((f l[0])[0]'(by rw[ak]; exact np)):=by
   have aW:(a.add (0 * s)).add 0=a:=by simp[Addr.add]
   rw[aW,List.getElem?_eq_getElem (by rw[ak]; exact np)]at bG;exact bG
  have ja:=Lb qn;refine⟨a.block,a.off,congrArg some ja,fun j u hu=>?_⟩;have aR:j < len * s:=by have:=(List.getElem?_eq_some_iff.1 hu).1; rwa [jq f s ak,qp]at this
  have hdiv:j / s < len:=(Nat.div_lt_iff_lt_mul np).2 aR;have sX:=Nat.mod_lt j np;have aF:=ao (j / s) (by omega) (j % s) sX;rw[ja,Addr.add_lit,Addr.add_lit,List.getElem?_eq_getElem (by rw[ak]; exact sX)]at aF;have aY:=La f s ak l (j / s) (j % s) (by omega) _ (List.getElem?_eq_getElem (by rw[ak]; exact sX));have sY:j / s * s+j % s=j:=by rw[Nat.mul_comm]; exact Nat.div_add_mod j s
  rw[sY,hu]at aY;rw[Nat.add_assoc,sY]at aF;rw[aF,aY]
end
end
section
section
variable {P:Program} {ops:Array Oper} {Q:Exit->Act->World->Prop} {o:Oper} {KK:Act->World->Prop} {n:Nat} {D:List Deferred} {L:List (Nat×Value)} {B:Nat->Prop} {ai:World} {H:List bb} {a:Act} {w:World} {d:Nat} {T:List (TypeId×bC)} {K:bb->List bb}
theorem Lc{u y v:Operand} {t e:TypeId} {i i':bC} {A:Option Addr} {m c h q:Nat} {k' Tl:IntKind} {nZ Ld:Int} (aI:cW n D L a) (ax:o.op=.slice t u none (some y) (some v))
  (bE:gg P T) (J:T.lookup t=some i) (U:i.desc=.slice e) (ah:T.lookup e=some i') (hu:aD L u=some (.slice A m c)) (aT:aD L y=some (.int k' nZ)) (aB:aD L v=some (.int Tl Ld)) (qn:nZ=(h:Int)) (Tm:Ld=(q:Int)) (cn:h<=q) (ao:q<=c) :
  fb P o a (.slice A h q):=fun w=>by
 subst qn; subst Tm;have aC:=(bE _ _ J).1;rw[U]at aC
 simp[execOp,ax,aI.aD hu,aI.aD aT,aI.aD aB,Instr.sliceAt,Instr.slice,Instr.sliceBounds,Instr.sliceBound,asIntOf,run_underlying aC,bC.run_sizeOf (bE _ _ ah),cn,ao]
 by_cases aa:q=0
 ·simp[aa]
 ·cases A with
  | none=>simp
  | some rC=>simp[Addr.add]
theorem Tn{s x:Operand} {t e:TypeId} {i i':bC} {b p jt hp c k m cc:Nat} {xs news:List Value} (ar:Sym n D L B ai H a w)
  (ax:o.op=.call { callee:=.builtin .append,args:=#[s,x],argTypes:=#[t,t] }) (a6:o.guard=none/\o.dst=some d) (av:Nat.blt d n=true)
  (bE:gg P T) (J:T.lookup t=some i) (U:i.desc=.slice e) (ah:T.lookup e=some i') (au:Nat.blt 0 i'.size=true) (aF:i'.zero.cells.size=i'.size) (ak:aD L s=some (.slice (some ⟨b,p,none⟩) k c)) (aj:aD L x=some (.slice (some ⟨jt,hp,none⟩) m cc))
  (ab:0 < k) (hm:0 < m) (j9:Reads w (some ⟨b,p,none⟩) k i'.size xs) (az:Reads w (some ⟨jt,hp,none⟩) m i'.size news) (aiy:c < k+m) (ho:(k+m) * i'.bytes<=140737488355328) (ia:k+m<=140737488355328)
  (h:∀ g c' aS w',Sym n D ((d,.slice (some ⟨g,0,none⟩) (k+m) c') :: L) B ai (.row (some ⟨g,0,none⟩) c' e i'.size (k+m) (xs++news) :: H) aS w'->KK aS w'):eR P ops o KK a w:=by
 have aC:=(bE _ _ J).1;rw[U]at aC;have cB:=bE _ _ ah;obtain⟨inf,pz,e5,h8,l1⟩:=bC.info cB;obtain⟨b',AO,cm,ka⟩:=j9.2 ab;cases cm;obtain⟨b',AO,cm,iu⟩:=az.2 hm;cases cm;have hlen:(xs++news).length=(k+m) * i'.size:=by rw[List.length_append,j9.1,az.1,Nat.add_mul]
 have dE:=run_append_grow (P:=P) w t o.type e inf i'.zero aC pz l1 ⟨b,p,none⟩ k c xs (by rw[j9.1,e5]) (fun j u hu=>by rw[Addr.add_lit]; exact ka j u hu) ⟨jt,hp,none⟩ m cc news (by rw[az.1,e5]) (fun j u hu=>by rw[Addr.add_lit]; exact iu j u hu) (by omega) (by omega) (growslice_fits (by omega) (by rw[h8]; exact ho));have pA:=grownCap_ge w (k+m) c e;have h9:grownCap w (k+m) c e<=maxLen:=grownCap_le_maxLen w (k+m) c e (by simp only[maxLen]; omega);refine qj ar a6 av (v:=.slice (some ⟨w.heap.size,0,none⟩) (k+m) (grownCap w (k+m) c e)) (w':=w.drew.alloc (.cells (xs.toArray++news.toArray++Builtin.zeroCells i'.zero.cells (grownCap w (k+m) c e - (k+m))) e)) (by simp[execOp,ax,resolve,invoke,builtin,ar.aD ak,ar.aD aj,dE]) ?_ (h w.heap.size (grownCap w (k+m) c e));have lA:=ar.aJ.drew;have bo:=lA.alloc (.cells (xs.toArray++news.toArray++Builtin.zeroCells i'.zero.cells (grownCap w (k+m) c e - (k+m))) e);have aq:=List.pairwise_cons.1 bo.apart;refine⟨bo.below,bo.base,fun dk jI=>?_,List.Pairwise.cons (fun dk jI q cm=>aq.1 dk jI q (by simpa [bb.has] using cm)) aq.2⟩
 rcases List.mem_cons.1 jI with rfl | jI
 ·refine⟨hlen,.inr ⟨w.heap.size,_,(0,0),rfl,ar.aJ.fresh,heap_alloc_new w.drew _,.inl rfl,pA,h9,?_,?_⟩⟩
  ·simp only[Array.size_append,List.size_toArray,size_zeroCells,aF,j9.1,az.1,<- Nat.add_mul]
   congr 1
   omega
  ·simp only[Array.toList_append,List.append_assoc]
   rw[<- List.append_assoc,<- hlen];exact List.take_left
 ·exact bo.ok dk (List.mem_cons_of_mem _ jI)
end
end
inductive aQ where
 | int (k:IntKind)
 | bool
 | str
 | an (g:aQ)
 | gI (g:aQ)
 | unit
 | fn
 | pair (g h:aQ)
 deriving DecidableEq
abbrev aQ.D:aQ->Type
 | .int _=>Int
 | .bool=>Bool
 | .str=>List UInt8
 | .an g=>List g.D
 | .gI g=>List g.D
 | .unit=>Unit
 | .fn=>Option Nat
 | .pair g h=>g.D×h.D
def aQ.size:aQ->Nat
 | .pair g h=>g.size+h.size
 | .unit=>0
 | _=>1
abbrev aQ.zero:(g:aQ)->g.D
 | .int _=>(0:Int)
 | .bool=>false
 | .str=>([]:List UInt8)
 | .an g=>([]:List g.D)
 | .gI g=>([]:List g.D)
 | .unit=>()
 | .fn=>(none:Option Nat)
 | .pair g h=>(g.zero,h.zero)
def Flat{α:Type} (R:α->List Value->Prop):List α->List Value->Prop
 | [],vs=>vs=[]
 | x :: l,vs=>∃ v1 v2,vs=v1++v2/\R x v1/\Flat R l v2
def mE(B:Nat->Prop) (w:World) (A:Option Addr) (m size:Nat) (vs:List Value):Prop:=Reads w A m size vs/\∀ b p,0 < m->A=some ⟨b,p,none⟩->B b
def To:Option Nat->Value
 | none=>.nilFunc
 | some f=>.func (.func f) #[] #[]
def bz(B:Nat->Prop) (w:World):(g:aQ)->g.D->List Value->Prop
 | .int k=>fun(x:Int) vs=>vs=[.int k x]
 | .bool=>fun(x:Bool) vs=>vs=[.bool x]
 | .str=>fun(x:List UInt8) vs=>vs=[eP x]
 | .an g=>fun(l:List g.D) vs=>∃ A c xs,vs=[.slice A l.length c]/\l.length<=c/\c<=maxLen/\Flat (bz B w g) l xs/\mE B w A l.length g.size xs
 | .gI g=>fun(l:List g.D) vs=>∃ A xs,vs=[.slice A l.length l.length]/\l.length<=maxLen/\Flat (bz B w g) l xs/\mE B w A l.length g.size xs
 | .unit=>fun _ vs=>vs=[]
 | .fn=>fun(x:Option Nat) vs=>vs=[To x]
 | .pair g h=>fun(x:g.D×h.D) vs=>∃ v1 v2,vs=v1++v2/\bz B w g x.1 v1/\bz B w h x.2 v2
theorem Flat.mono{α:Type} {R ql:α->List Value->Prop} (h:∀ x vs,R x vs->ql x vs):∀ {l:List α} {vs:List Value},Flat R l vs->Flat ql l vs
 | [],_,aA=>aA
 | _ :: _,_,⟨v1,v2,e,J,U⟩=>⟨v1,v2,e,h _ _ J,Flat.mono h U⟩
theorem Flat.length{α:Type} {R:α->List Value->Prop} {k:Nat} (h:∀ x vs,R x vs->vs.length=k):∀ {l:List α} {vs:List Value},Flat R l vs->vs.length=l.length * k
 | [],_,aA=>by rw[show _=[] from aA]; simp
 | _ :: l,_,⟨v1,v2,e,J,U⟩=>by
  rw[e,List.length_append,h _ _ J,Flat.length h U,List.length_cons,Nat.add_mul,Nat.one_mul,Nat.add_comm]
theorem Flat.append{α:Type} {R:α->List Value->Prop}:∀ {l l':List α} {vs mF:List Value},Flat R l vs->Flat R l' mF->Flat R (l++l') (vs++mF)
 | [],_,_,_,h,aO=>by rw[show _=[] from h]; exact aO
 | _ :: l,_,_,_,⟨v1,v2,e,J,U⟩,aO=>⟨v1,_,by rw[e,List.append_assoc],J,Flat.append U aO⟩
theorem Flat.split{α:Type} {R:α->List Value->Prop} {k:Nat} (h:∀ x vs,R x vs->vs.length=k):∀ {l:List α} {vs:List Value} (n:Nat),Flat R l vs->Flat R (l.take n) (vs.take (n * k))/\Flat R (l.drop n) (vs.drop (n * k))
 | [],vs,n,aA=>by rw[show vs=[] from aA]; simp[Flat]
 | x :: l,vs,0,aA=>by simp only[List.take_zero,Nat.zero_mul,List.drop_zero]; exact⟨rfl,aA⟩
 | x :: l,vs,n+1,⟨v1,v2,e,J,U⟩=>by
  obtain⟨bo,ae⟩:=Flat.split h n U;have ab:=h _ _ J;have aC:(v1++v2).take ((n+1) * k)=v1++v2.take (n * k):=by
   rw[List.take_append,List.take_of_length_le (by rw[ab,Nat.add_mul]; omega),ab]
   congr 2
   rw[Nat.add_mul]; omega
  have aW:(v1++v2).drop ((n+1) * k)=v2.drop (n * k):=by
   rw[List.drop_append,List.drop_of_length_le (by rw[ab,Nat.add_mul]; omega),ab,List.nil_append]
   congr 1
   rw[Nat.add_mul]; omega
  rw[e,aC,aW];exact⟨⟨v1,_,rfl,J,bo⟩,ae⟩
theorem Flat.get{α:Type} {R:α->List Value->Prop} {k:Nat} (h:∀ x vs,R x vs->vs.length=k) {l:List α} {vs:List Value} (aA:Flat R l vs) {i:Nat} {x:α} (hi:l[i]?=some x):R x ((vs.drop (i * k)).take k):=by
 obtain⟨_,U⟩:=Flat.split h i aA;have a8:i < l.length:=(List.getElem?_eq_some_iff.1 hi).1;have e:l.drop i=x :: l.drop (i+1):=by
  rw[List.drop_eq_getElem_cons a8,(List.getElem?_eq_some_iff.1 hi).2]
 rw[e]at U;obtain⟨v1,v2,aW,ah,_⟩:=U;rw[aW,List.take_append,List.take_of_length_le (by rw[h _ _ ah]; exact Nat.le_refl _),h _ _ ah,Nat.sub_self,List.take_zero,List.append_nil];exact ah
theorem Flat.set{α:Type} {R:α->List Value->Prop} {k:Nat} (h:∀ x vs,R x vs->vs.length=k) {l:List α} {vs:List Value} (aA:Flat R l vs) {i:Nat} (hi:i < l.length) {x:α} {us:List Value} (aj:R x us) :
  Flat R (l.set i x) (vs.take (i * k)++us++vs.drop (i * k+k)):=by
 obtain⟨J,_⟩:=Flat.split h i aA;obtain⟨_,U⟩:=Flat.split h (i+1) aA;rw[List.set_eq_take_append_cons_drop,if_pos hi,List.append_assoc];refine J.append ⟨us,_,rfl,aj,?_⟩;rw[Nat.add_mul,Nat.one_mul]at U;exact U
theorem bz.length{B:Nat->Prop} {w:World}:∀ {g:aQ} {x:g.D} {vs:List Value},bz B w g x vs->vs.length=g.size
 | .int _,_,_,h=>by rw[show _=[_] from h]; rfl
 | .bool,_,_,h=>by rw[show _=[_] from h]; rfl
 | .str,_,_,h=>by rw[show _=[_] from h]; rfl
 | .an _,_,_,⟨_,_,_,h,_⟩=>by rw[h]; rfl
 | .gI _,_,_,⟨_,_,h,_⟩=>by rw[h]; rfl
 | .unit,_,_,h=>by rw[show _=[] from h]; rfl
 | .fn,_,_,h=>by rw[show _=[_] from h]; rfl
 | .pair g h,_,_,⟨v1,v2,e,J,U⟩=>by rw[e,List.length_append,bz.length J,bz.length U]; rfl
theorem bz.jq{B:Nat->Prop} {w:World} {g:aQ} {l:List g.D} {vs:List Value} (h:Flat (bz B w g) l vs):vs.length=l.length * g.size:=Flat.length (fun _ _=>bz.length) h
def n0(el:Bool) (B:Nat->Prop) (w:World) (g:aQ) (x:List g.D) (vs:List Value):Prop:=match el with
 | true=>bz B w (.gI g) x vs
 | false=>bz B w (.an g) x vs
theorem n0.length{el:Bool} {B:Nat->Prop} {w:World} {g:aQ} {x:List g.D} {vs:List Value} (h:n0 el B w g x vs):vs.length=1:=by
 cases el with
 | true=>exact bz.length (g:=.gI g) h
 | false=>exact bz.length (g:=.an g) h
theorem n0.jq{el:Bool} {B:Nat->Prop} {w:World} {g:aQ} {l:List (List g.D)} {vs:List Value} (h:Flat (n0 el B w g) l vs):vs.length=l.length:=by
 have:=Flat.length (fun _ _=>n0.length) h
 omega
structure ft(B:Nat->Prop) (w:World) (B':Nat->Prop) (w':World):Prop where
 sub:∀ k,B k->B' k
 same:∀ k,B k->w'.heap[k]?=w.heap[k]?
theorem ft.cell{B B':Nat->Prop} {w w':World} (h:ft B w B' w') {b o:Nat} (ae:B b):w'.cell? ⟨b,o,none⟩=w.cell? ⟨b,o,none⟩:=World.cell?_of_block (h.same b ae)
theorem mE.up{B B':Nat->Prop} {w w':World} (h:ft B w B' w') {A:Option Addr} {m size:Nat} {vs:List Value} (az:mE B w A m size vs):mE B' w' A m size vs:=by
 refine⟨⟨az.1.1,fun hm=>?_⟩,fun b p hm e=>h.sub b (az.2 b p hm e)⟩;obtain⟨b,p,e,aa⟩:=az.1.2 hm;exact⟨b,p,e,fun j u hu=>by rw[h.cell (az.2 b p hm e)]; exact aa j u hu⟩
theorem bz.up{B B':Nat->Prop} {w w':World} (h:ft B w B' w'):∀ {g:aQ} {x:g.D} {vs:List Value},bz B w g x vs->bz B' w' g x vs
 | .int _,_,_,aA=>aA
 | .bool,_,_,aA=>aA
 | .str,_,_,aA=>aA
 | .an _,_,_,⟨A,c,xs,e,J,U,ah,au⟩=>⟨A,c,xs,e,J,U,Flat.mono (fun _ _=>bz.up h) ah,au.up h⟩
 | .gI _,_,_,⟨A,xs,e,U,ah,au⟩=>⟨A,xs,e,U,Flat.mono (fun _ _=>bz.up h) ah,au.up h⟩
 | .unit,_,_,aA=>aA
 | .fn,_,_,aA=>aA
 | .pair _ _,_,_,⟨v1,v2,e,J,U⟩=>⟨v1,v2,e,bz.up h J,bz.up h U⟩
theorem n0.up{B B':Nat->Prop} {w w':World} (h:ft B w B' w') {el:Bool} {g:aQ} {x:List g.D} {vs:List Value} (aA:n0 el B w g x vs):n0 el B' w' g x vs:=by
 cases el with
 | true=>exact bz.up (g:=.gI g) h aA
 | false=>exact bz.up (g:=.an g) h aA
inductive e6 where
 | id (i:Nat)
 | eS (g:aQ) (x:g.D)
inductive ba where
 | val (v:Value)
 | str (s:List UInt8)
 | dead
 | ptr (id off:Nat)
 | dZ (id cA i off:Nat)
 | fF (g:aQ) (x:g.D) (off:Nat)
 | par (g:aQ) (l:List g.D)
 | an (id:Nat)
 | bn (g:aQ) (l:List g.D) (cap:Option Nat)
 | fn (f:FuncId) (ids:List e6)
 | cp (id:Nat)
 | iA (f:FuncId) (id:Nat)
 | gD (id o:Nat)
 | iB (id s o:Nat)
 | iK (id:Nat)
 | hK (b:Bool) (id:Nat)
inductive bf where
 | c (x:ba)
 | agg (cs:List ba)
 | arr (g:aQ) (l:List g.D)
inductive b0 where
 | a (x:bf)
 | may (g:Bool) (x:bf)
 | da (vs:List bf)
abbrev b0.c (x:ba):b0:=.a (.c x)
inductive Loc where
 | no
 | blk (b:Nat)
 | row (A:Option Addr) (c n:Nat)
def At(B:Nat->Prop) (w:World) (g:aQ) (x:g.D) (b o:Nat):Prop:=B b/\∃ vs,bz B w g x vs/\∀ j u,vs[j]?=some u->w.cell? ⟨b,o+j,none⟩=some u
def Tp(env:Nat->Loc) (B:Nat->Prop) (w:World):e6->Value->Prop
 | .id i,v=>∃ b,env i=.blk b/\v=.pointer (some ⟨b,0,none⟩)
 | .eS g x,v=>∃ b o,v=.pointer (some ⟨b,o,none⟩)/\At B w g x b o
def e1(env:Nat->Loc) (B:Nat->Prop) (w:World):List e6->List Value->Prop
 | [],vs=>vs=[]
 | c :: cs,vs=>∃ v r,vs=v :: r/\Tp env B w c v/\e1 env B w cs r
def dv(env:Nat->Loc) (B:Nat->Prop) (w:World):ba->Value->Prop
 | .val v,u=>u=v
 | .str s,u=>u=eP s
 | .dead,_=>True
 | .ptr id off,u=>∃ b,env id=.blk b/\u=.pointer (some ⟨b,off,none⟩)
 | .dZ id cA i off,u=>∃ b c n,env id=.row (some ⟨b,0,none⟩) c n/\u=.pointer (some ⟨b,i * cA+off,none⟩)
 | .fF g x off,u=>∃ b o,u=.pointer (some ⟨b,o+off,none⟩)/\At B w g x b o
 | .par g l,u=>∃ b o vs,u=.pointer (some ⟨b,o,none⟩)/\B b/\Flat (bz B w g) l vs/\∀ j u,vs[j]?=some u->w.cell? ⟨b,o+j,none⟩=some u
 | .an id,u=>∃ A c n,env id=.row A c n/\u=.slice A n c
 | .bn g l cap,u=>∃ A c xs,u=.slice A l.length c/\l.length<=c/\c<=maxLen/\(∀ k,cap=some k->c=k)/\Flat (bz B w g) l xs/\mE B w A l.length g.size xs
 | .fn f ids,u=>∃ vs,u=.func (.func f) #[] vs.toArray/\e1 env B w ids vs
 | .cp id,u=>∃ b,env id=.blk b/\u=.map (some b)
 | .iA f id,u=>∃ b,env id=.blk b/\u=.func (.func f) #[.pointer (some ⟨b,0,none⟩)] #[]
 | .iB id s o,u=>∃ A c n,env id=.row A c n/\o<=n/\u=.slice (iY A o s c) (n - o) (c - o)
 | .iK id,u=>∃ A c n,env id=.row A c n/\u=.int .i64 (c:Int)
 | .gD id o,u=>∃ b c n,env id=.row (some ⟨b,0,none⟩) c n/\u=.pointer (some ⟨b,o,none⟩)
 | .hK b id,u=>∃ k,(b=true->env id=.blk k)/\u=.pointer (if b then some ⟨k,0,none⟩else none)
def cd(env:Nat->Loc) (B:Nat->Prop) (w:World):List ba->List Value->Prop
 | [],vs=>vs=[]
 | c :: cs,vs=>∃ v r,vs=v :: r/\dv env B w c v/\cd env B w cs r
def dI(env:Nat->Loc) (B:Nat->Prop) (w:World):bf->Value->Prop
 | .c x,v=>dv env B w x v
 | .agg cs,v=>∃ vs,v=.agg vs.toArray/\cd env B w cs vs
 | .arr g l,v=>∃ vs,v=.agg vs.toArray/\Flat (bz B w g) l vs
def dw(env:Nat->Loc) (B:Nat->Prop) (w:World):List bf->List Value->Prop
 | [],vs=>vs=[]
 | c :: cs,vs=>∃ v r,vs=v :: r/\dI env B w c v/\dw env B w cs r
def ei(env:Nat->Loc) (B:Nat->Prop) (w:World):b0->Value->Prop
 | .a x,v=>dI env B w x v
 | .may g x,v=>(g=true->dI env B w x v)/\(g=false->v=undef)
 | .da xs,v=>∃ vs,v=.tuple vs.toArray/\dw env B w xs vs
theorem At.up{B B':Nat->Prop} {w w':World} (h:ft B w B' w') {g:aQ} {x:g.D} {b o:Nat} (bo:At B w g x b o):At B' w' g x b o:=by
 obtain⟨ae,vs,J,U⟩:=bo;exact⟨h.sub b ae,vs,bz.up h J,fun j u hu=>by rw[h.cell ae]; exact U j u hu⟩
theorem e1.up{env:Nat->Loc} {B B':Nat->Prop} {w w':World} (h:ft B w B' w'):∀ {cs:List e6} {vs:List Value},e1 env B w cs vs->e1 env B' w' cs vs
 | [],_,aa=>aa
 | .id _ :: _,_,⟨v,r,e,J,U⟩=>⟨v,r,e,J,e1.up h U⟩
 | .eS _ _ :: _,_,⟨v,r,e,⟨b,o,J,ah⟩,U⟩=>⟨v,r,e,⟨b,o,J,ah.up h⟩,e1.up h U⟩
theorem dv.up{env:Nat->Loc} {B B':Nat->Prop} {w w':World} (h:ft B w B' w'):∀ {c:ba} {v:Value},dv env B w c v->dv env B' w' c v
 | .val _,_,aa=>aa
 | .str _,_,aa=>aa
 | .dead,_,aa=>aa
 | .ptr _ _,_,aa=>aa
 | .dZ _ _ _ _,_,aa=>aa
 | .fF _ _ _,_,⟨b,o,e,bo⟩=>⟨b,o,e,bo.up h⟩
 | .par _ _,_,⟨b,o,vs,e,ae,J,U⟩=>⟨b,o,vs,e,h.sub b ae,Flat.mono (fun _ _=>bz.up h) J,fun j u hu=>by rw[h.cell ae]; exact U j u hu⟩
 | .an _,_,aa=>aa
 | .bn _ _ _,_,⟨A,c,xs,e,J,U,ah,au,aF⟩=>⟨A,c,xs,e,J,U,ah,Flat.mono (fun _ _=>bz.up h) au,aF.up h⟩
 | .fn _ _,_,⟨vs,e,aq⟩=>⟨vs,e,aq.up h⟩
 | .cp _,_,aa=>aa
 | .iA _ _,_,aa=>aa
 | .gD _ _,_,aa=>aa
 | .iB _ _ _,_,aa=>aa
 | .iK _,_,aa=>aa
 | .hK _ _,_,aa=>aa
theorem cd.up{env:Nat->Loc} {B B':Nat->Prop} {w w':World} (h:ft B w B' w'):∀ {c:List ba} {v:List Value},cd env B w c v->cd env B' w' c v
 | [],_,aa=>aa
 | _ :: _,_,⟨v,r,e,J,U⟩=>⟨v,r,e,J.up h,cd.up h U⟩
theorem dI.up{env:Nat->Loc} {B B':Nat->Prop} {w w':World} (h:ft B w B' w'):∀ {c:bf} {v:Value},dI env B w c v->dI env B' w' c v
 | .c _,_,aa=>dv.up h aa
 | .agg _,_,⟨vs,e,J⟩=>⟨vs,e,J.up h⟩
 | .arr _ _,_,⟨vs,e,J⟩=>⟨vs,e,Flat.mono (fun _ _=>bz.up h) J⟩
theorem dw.up{env:Nat->Loc} {B B':Nat->Prop} {w w':World} (h:ft B w B' w'):∀ {c:List bf} {v:List Value},dw env B w c v->dw env B' w' c v
 | [],_,aa=>aa
 | _ :: _,_,⟨v,r,e,J,U⟩=>⟨v,r,e,J.up h,dw.up h U⟩
theorem ei.up{env:Nat->Loc} {B B':Nat->Prop} {w w':World} (h:ft B w B' w'):∀ {c:b0} {v:Value},ei env B w c v->ei env B' w' c v
 | .a _,_,aa=>dI.up h aa
 | .may _ _,_,aa=>⟨fun aL=>(aa.1 aL).up h,aa.2⟩
 | .da _,_,⟨vs,e,J⟩=>⟨vs,e,J.up h⟩
section
structure bh where
 bk:bC
 g:Option aQ
def aQ.eh:aQ->List Value
 | .int k=>[.int k 0]
 | .bool=>[.bool false]
 | .str=>[eP []]
 | .an _=>[.slice none 0 0]
 | .gI _=>[.slice none 0 0]
 | .unit=>[]
 | .fn=>[.nilFunc]
 | .pair g h=>g.eh++h.eh
structure bh.ok(P:Program) (t:TypeId) (e:bh):Prop where
 bk:bC.ok P t e.bk
 g:∀ g,e.g=some g->g.size=e.bk.size/\e.bk.zero.cells.toList=g.eh/\0 < g.size
inductive bV where
 | leaf
 | node (l:bV) (k:TypeId) (e:bh) (r:bV)
def bV.find:bV->TypeId->Option bh
 | .leaf,_=>none
 | .node l k e r,t=>match Nat.blt t k with
  | true=>l.find t
  | false=>match Nat.beq t k with
   | true=>some e
   | false=>r.find t
def bV.ok(P:Program):bV->Prop
 | .leaf=>True
 | .node l k e r=>l.ok P/\bh.ok P k e/\r.ok P
theorem bV.get{P:Program}:∀ {tt:bV} {t:TypeId} {e:bh},tt.ok P->tt.find t=some e->bh.ok P t e
 | .leaf,_,_,_,h=>by cases h
 | .node l k cm r,t,e,⟨J,U,ah⟩,h=>by
  unfold bV.find at h
  split at h
  ·exact bV.get J h
  ·split at h
   ·rename_i ab
    have:t=k:=Nat.eq_of_beq_eq_true ab
    subst this;cases h;exact U
   ·exact bV.get ah h
theorem bC.uniq{P:Program} {t:TypeId} {i j:bC} (h:bC.ok P t i) (k:bC.ok P t j):i=j:=by
 obtain⟨i1,i2,i3,i4⟩:=i;obtain⟨aiz,sZ,aiA,aiB⟩:=j;have J:=h.1.symm.trans k.1;have U:=h.2.symm.trans k.2;simp only[Option.some.injEq,Prod.mk.injEq]at J U;obtain⟨rfl,rfl,rfl⟩:=U;subst J
 rfl
theorem AP{P:Program} {t:TypeId} {i:bC} (h:bC.ok P t i):∃ T,gg P T/\T.lookup t=some i:=⟨[(t,i)],gg.cons h (gg.nil _),by simp⟩
theorem mG{P:Program} {t e:TypeId} {i j:bC} (h:bC.ok P t i) (k:bC.ok P e j):∃ T,gg P T/\T.lookup t=some i/\T.lookup e=some j:=by
 refine⟨[(t,i),(e,j)],gg.cons h (gg.cons k (gg.nil _)),by simp,?_⟩
 by_cases he:e=t
 ·subst he
  rw[bC.uniq h k]
  simp
 ·simp[List.lookup_cons,beq_false_of_ne he]
theorem Tq{P:Program} {t e f:TypeId} {i j l:bC} (h:bC.ok P t i) (k:bC.ok P e j) (m:bC.ok P f l):∃ T,gg P T/\T.lookup t=some i/\T.lookup e=some j/\T.lookup f=some l:=by
 refine⟨[(t,i),(e,j),(f,l)],gg.cons h (gg.cons k (gg.cons m (gg.nil _))),by simp,?_,?_⟩
 ·by_cases he:e=t
  ·subst he
   rw[bC.uniq h k]
   simp
  ·simp[List.lookup_cons,beq_false_of_ne he]
 ·by_cases aA:f=t
  ·subst aA
   rw[bC.uniq h m]
   simp
  ·by_cases iC:f=e
   ·subst iC
    rw[bC.uniq k m]
    simp[List.lookup_cons,beq_false_of_ne aA]
   ·simp[List.lookup_cons,beq_false_of_ne aA,beq_false_of_ne iC]
inductive ct where
 | cells (t:TypeId) (cs:List ba)
 | row (t:TypeId) (g:aQ) (l:List g.D) (cap:Option Nat)
 | hq (s:ByteArray) (pos:Nat)
 | mp (gk aZ:aQ) (l:List (gk.D×aZ.D)) (o:Option (List MapEntry×Nat))
 | it (eT:Nat) (es:List MapEntry) (clock:Nat) (ps:List Nat)
 | jJ
 | gS (eT:Nat)
 | cC (el:Bool) (t:TypeId) (g:aQ) (l:List (List g.D)) (cap:Option Nat) (i d:Nat)
 | kb
 | fk (t:TypeId) (g:aQ) (l:List g.D)
 | b5 (t bQ:TypeId) (g:aQ) (l:List (Bool×List g.D)) (cap:Option Nat) (h:Option (Nat×Option Nat))
abbrev bx:=List (Nat×ct)
abbrev cL:=List (Nat×b0)
structure aM where
 L:cL
 H:bx
def aU{α:Type}:List (Nat×α)->Nat->Option α
 | [],_=>none
 | (k,v) :: r,s=>match Nat.beq s k with
  | true=>some v
  | false=>aU r s
theorem cl{α:Type} {k:Nat} {v:α} {r:List (Nat×α)} {s:Nat}:aU ((k,v) :: r) s=if s=k then some v else aU r s:=by
 show(match Nat.beq s k with | true=>some v | false=>aU r s)=_
 split
 ·rename_i h
  rw[if_pos (Nat.eq_of_beq_eq_true h)]
 ·rename_i h
  rw[if_neg (Nat.ne_of_beq_eq_false h)]
def ea(B:Nat->Prop) (w:World):(g:aQ)->g.D->Value->Prop
 | .pair g h=>fun x v=>∃ vs,v=.agg vs.toArray/\bz B w (.pair g h) x vs
 | g=>fun x v=>bz B w g x [v]
theorem ea.up{B B':Nat->Prop} {w w':World} (h:ft B w B' w'):∀ {g:aQ} {x:g.D} {v:Value},ea B w g x v->ea B' w' g x v
 | .pair _ _,_,_,⟨vs,e,J⟩=>⟨vs,e,bz.up h J⟩
 | .int _,_,_,J=>bz.up h J
 | .bool,_,_,J=>bz.up h J
 | .str,_,_,J=>bz.up h J
 | .an _,_,_,J=>bz.up h J
 | .gI _,_,_,J=>bz.up h J
 | .unit,_,_,J=>bz.up h J
 | .fn,_,_,J=>bz.up h J
def fW(B:Nat->Prop) (w:World) (gk aZ:aQ):List (gk.D×aZ.D)->List MapEntry->Prop
 | [],es=>es=[]
 | x :: l,es=>∃ e r,es=e :: r/\ea B w gk x.1 e.key/\ea B w aZ x.2 e.val/\fW B w gk aZ l r
theorem fW.up{B B':Nat->Prop} {w w':World} (h:ft B w B' w') {gk aZ:aQ}:∀ {l:List (gk.D×aZ.D)} {es:List MapEntry},fW B w gk aZ l es->fW B' w' gk aZ l es
 | [],_,cn=>cn
 | _ :: _,_,⟨e,r,aC,J,U,ah⟩=>⟨e,r,aC,J.up h,U.up h,fW.up h ah⟩
def Stamped(es:List MapEntry) (clock:Nat):Prop:=(es.map (·.born)).Pairwise (· < ·)/\∀ b∈es.map (·.born),b < clock
def Tr(es:List MapEntry) (ps:List Nat):List Nat:=ps.map fun j=>((es[j]?).map (·.born)).getD 0
def dC(B:Nat->Prop) (w:World) (bQ:TypeId) (g:aQ):List (Bool×List g.D)->List Value->List fV->Prop
 | [],vs,I=>vs=[]/\I=[]
 | x :: r,vs,I=>∃ v eU,vs=v :: eU/\match x.1 with
  | true=>∃ A k xs eE,v=.slice A x.2.length k/\I=⟨A,k,bQ,g.size,x.2.length,xs⟩ :: eE/\Flat (bz B w g) x.2 xs/\dC B w bQ g r eU eE
  | false=>bz B w (.an g) x.2 [v]/\dC B w bQ g r eU I
theorem dC.length{B:Nat->Prop} {w:World} {bQ:TypeId} {g:aQ}:∀ {l:List (Bool×List g.D)} {vs:List Value} {I:List fV},dC B w bQ g l vs I->vs.length=l.length
 | [],_,_,⟨e,_⟩=>by rw[e]; rfl
 | (true,_) :: _,_,_,⟨v,eU,e,_,_,_,_,_,_,_,h⟩=>by rw[e,List.length_cons,List.length_cons,dC.length h]
 | (false,_) :: _,_,_,⟨v,eU,e,_,h⟩=>by rw[e,List.length_cons,List.length_cons,dC.length h]
theorem dC.up{B B':Nat->Prop} {w w':World} (h:ft B w B' w') {bQ:TypeId} {g:aQ}:∀ {l:List (Bool×List g.D)} {vs:List Value} {I:List fV},dC B w bQ g l vs I->dC B' w' bQ g l vs I
 | [],_,_,J=>J
 | (true,_) :: _,_,_,⟨v,eU,e,A,k,xs,eE,J,U,ah,au⟩=>⟨v,eU,e,A,k,xs,eE,J,U,Flat.mono (fun _ _=>bz.up h) ah,dC.up h au⟩
 | (false,_) :: _,_,_,⟨v,eU,e,J,U⟩=>⟨v,eU,e,bz.up h J,dC.up h U⟩
def Le{α:Type} (l:List (Bool×List α)):Option (Nat×Option Nat)->List (Bool×List α)
 | none=>l
 | some (i,_)=>l.set i (false,[])
def xw(env:Nat->Loc) (n:Nat) (ys cT:List Value):Option (Nat×Option Nat)->Prop
 | none=>cT=ys
 | some (i,Lf)=>i < n/\∃ v,cT=ys.set i v/\∀ d,Lf=some d->∃ A c m,env d=.row A c m/\v=.slice A m c
def ej(env:Nat->Loc) (B:Nat->Prop) (w:World) (id:Nat):ct->bb->Prop
 | .cells t cs,c=>∃ b vs,env id=.blk b/\c=.gv b vs t/\cd env B w cs vs
 | .row t g l cap,c=>∃ A k xs,env id=.row A k l.length/\c=.row A k t g.size l.length xs/\Flat (bz B w g) l xs/\∀ q,cap=some q->k=q
 | .hq s p,c=>∃ b,env id=.blk b/\c=.obj b (.stringIter s p)
 | .mp gk aZ l o,c=>∃ b es clock,env id=.blk b/\c=.obj b (.map es.toArray clock)/\fW B w gk aZ l es/\Stamped es clock/\∀ q,o=some q->q=(es,clock)
 | .it eT es clock ps,c=>∃ b m,env id=.blk b/\env eT=.blk m/\c=.obj b (.mapIter (some m) clock (Tr es ps).toArray clock)
 | .jJ,c=>∃ b o,env id=.blk b/\c=.obj b o
 | .gS eT,c=>∃ b m q,env id=.blk b/\env eT=.blk m/\c=.obj b (.mapIter (some m) q #[] q)
 | .cC el t g l cap i d,c=>∃ A k ys b9 c' m,env id=.row A k l.length/\c=.row A k t 1 l.length (ys.set i (.slice b9 m c'))/\Flat (n0 el B w g) l ys/\i < l.length/\env d=.row b9 c' m/\(∀ q,cap=some q->k=q)/\(el=true->c'=m)
 | .kb,c=>∃ A k n t s m xs,env id=.row A k n/\c=.row A k t s m xs
 | .fk t g l,c=>∃ A k,env id=.row A k l.length/\((∃ xs,c=.row A k t g.size l.length xs/\Flat (bz B w g) l xs)\/(c=.row none 0 t g.size 0 []/\k=l.length/\k<=maxLen/\∃ xs,Flat (bz B w g) l xs/\mE B w A l.length g.size xs))
 | .b5 t bQ g l cap h,c=>∃ A k ys cT I,env id=.row A k l.length/\c=.tree (⟨A,k,t,1,l.length,cT⟩ :: I)/\dC B w bQ g (Le l h) ys I/\xw env l.length ys cT h/\∀ q,cap=some q->k=q
def bu(env:Nat->Loc) (B:Nat->Prop) (w:World):bx->List bb->Prop
 | [],H=>H=[]
 | (id,b) :: h,H=>∃ c H',H=c :: H'/\ej env B w id b c/\bu env B w h H'
theorem ej.up{env:Nat->Loc} {B B':Nat->Prop} {w w':World} (h:ft B w B' w') {id:Nat}:∀ {b:ct} {c:bb},ej env B w id b c->ej env B' w' id b c
 | .cells _ _,_,⟨b,vs,e,aa,J⟩=>⟨b,vs,e,aa,J.up h⟩
 | .row _ _ _ _,_,⟨A,k,xs,e,aa,J,U⟩=>⟨A,k,xs,e,aa,Flat.mono (fun _ _=>bz.up h) J,U⟩
 | .hq _ _,_,ae=>ae
 | .mp _ _ _ _,_,⟨b,es,k,e,aa,J,U⟩=>⟨b,es,k,e,aa,J.up h,U⟩
 | .it _ _ _ _,_,ae=>ae
 | .gS _,_,ae=>ae
 | .jJ,_,ae=>ae
 | .cC _ _ _ _ _ _ _,_,⟨A,k,ys,b9,c',m,e,aa,J,U⟩=>⟨A,k,ys,b9,c',m,e,aa,Flat.mono (fun _ _=>n0.up h) J,U⟩
 | .kb,_,ae=>ae
 | .b5 _ _ _ _ _ _,_,⟨A,k,ys,cT,I,e,aa,J,U⟩=>⟨A,k,ys,cT,I,e,aa,J.up h,U⟩
 | .fk _ _ _,_,⟨A,k,e,J⟩=>⟨A,k,e,J.imp (fun⟨xs,a,b⟩=>⟨xs,a,Flat.mono (fun _ _=>bz.up h) b⟩) fun⟨a,b,c,xs,d,r⟩=>⟨a,b,c,xs,Flat.mono (fun _ _=>bz.up h) d,r.up h⟩⟩
theorem bu.up{env:Nat->Loc} {B B':Nat->Prop} {w w':World} (h:ft B w B' w'):∀ {l:bx} {H:List bb},bu env B w l H->bu env B' w' l H
 | [],_,cn=>cn
 | _ :: _,_,⟨c,H',e,J,U⟩=>⟨c,H',e,J.up h,bu.up h U⟩
theorem bu.fE{env:Nat->Loc} {B:Nat->Prop} {w:World}:∀ {l:bx} {H:List bb} {id:Nat} {b:ct},bu env B w l H->aU l id=some b->∃ c K,ej env B w id b c/\iJ H c K
 | [],_,_,_,_,h=>by cases h
 | (k,b') :: l,H,id,b,⟨c,H',e,J,U⟩,h=>by
  rw[cl]at h;subst e
  split at h
  ·rename_i e
   subst e;cases h;exact⟨c,_,J,u5⟩
  ·obtain⟨c',K,ah,X,Y,au,aF⟩:=bu.fE U h
   exact⟨c',fun z=>c :: K z,ah,c :: X,Y,by rw[au]; rfl,by rw[aF]; rfl⟩
def ef(id:Nat) (b:ct):bx->bx
 | []=>[]
 | (k,b') :: r=>match Nat.beq k id with
  | true=>(k,b) :: r
  | false=>(k,b') :: ef id b r
theorem bu.put{env:Nat->Loc} {B:Nat->Prop} {w:World}:∀ {l:bx} {H:List bb} {id:Nat} {b:ct},bu env B w l H->aU l id=some b->∃ c K,ej env B w id b c/\iJ H c K/\∀ b' c',ej env B w id b' c'->bu env B w (ef id b' l) (K c')
 | [],_,_,_,_,h=>by cases h
 | (k,b') :: l,H,id,b,⟨c,H',e,J,U⟩,h=>by
  rw[cl]at h;subst e
  split at h
  ·rename_i e
   subst e;cases h;refine⟨c,_,J,u5,fun jt cF ae=>?_⟩;unfold ef;rw[Nat.beq_refl];exact⟨cF,H',rfl,ae,U⟩
  ·rename_i cu
   obtain⟨c',K,ah,⟨X,Y,au,aF⟩,aY⟩:=bu.put U h;refine⟨c',fun z=>c :: K z,ah,⟨c :: X,Y,by rw[au]; rfl,by rw[aF]; rfl⟩,fun jt cF ae=>?_⟩;unfold ef
   have:Nat.beq k id=false:=by
    cases ab:Nat.beq k id with
    | false=>rfl
    | true=>exact absurd (Nat.eq_of_beq_eq_true ab).symm cu
   rw[this];exact⟨c,_,rfl,J,aY jt cF ae⟩
def s0(i:Nat):List e6->Bool
 | []=>false
 | .id j :: r=>Nat.beq j i || s0 i r
 | .eS _ _ :: r=>s0 i r
def ba.sub:ba->Nat->ba->ba
 | .ptr i o,id,_=>match Nat.beq i id with
  | true=>.dead
  | false=>.ptr i o
 | .dZ i cA j o,id,_=>match Nat.beq i id with
  | true=>.dead
  | false=>.dZ i cA j o
 | .an i,id,z=>match Nat.beq i id with
  | true=>z
  | false=>.an i
 | .fn f ids,id,_=>match s0 id ids with
  | true=>.dead
  | false=>.fn f ids
 | .cp i,id,_=>match Nat.beq i id with
  | true=>.dead
  | false=>.cp i
 | .iA f i,id,_=>match Nat.beq i id with
  | true=>.dead
  | false=>.iA f i
 | .gD i o,id,_=>match Nat.beq i id with
  | true=>.dead
  | false=>.gD i o
 | .iK i,id,_=>match Nat.beq i id with
  | true=>.dead
  | false=>.iK i
 | .iB i s o,id,_=>match Nat.beq i id with
  | true=>.dead
  | false=>.iB i s o
 | .hK b i,id,_=>match Nat.beq i id with
  | true=>.dead
  | false=>.hK b i
 | c,_,_=>c
def qq(id:Nat) (z:ba):List ba->List ba
 | []=>[]
 | c :: r=>c.sub id z :: qq id z r
def bf.sub:bf->Nat->ba->bf
 | .c x,id,z=>.c (x.sub id z)
 | .agg cs,id,z=>.agg (qq id z cs)
 | .arr g l,_,_=>.arr g l
def xx(id:Nat) (z:ba):List bf->List bf
 | []=>[]
 | c :: r=>c.sub id z :: xx id z r
def b0.sub:b0->Nat->ba->b0
 | .a x,id,z=>.a (x.sub id z)
 | .may g x,id,z=>.may g (x.sub id z)
 | .da xs,id,z=>.da (xx id z xs)
def eJ(id:Nat) (z:ba):cL->cL
 | []=>[]
 | (k,v) :: r=>(k,v.sub id z) :: eJ id z r
def ct.sub:ct->Nat->ba->ct
 | .cells t cs,id,z=>.cells t (qq id z cs)
 | .it eT es k ps,id,_=>match Nat.beq eT id with
  | true=>.jJ
  | false=>.it eT es k ps
 | .gS eT,id,_=>match Nat.beq eT id with
  | true=>.jJ
  | false=>.gS eT
 | .cC el t g l cap i d,id,z=>match Nat.beq d id with
  | true=>match z with
   | .bn g' bw _=>match decEq g' g with
    | isTrue h=>match el with
     | true=>.row t (.gI g) (l.set i (h ▸ bw)) cap
     | false=>.row t (.an g) (l.set i (h ▸ bw)) cap
    | isFalse _=>.kb
   | _=>.kb
  | false=>.cC el t g l cap i d
 | .b5 t bQ g l cap (some (i,some d)),id,_=>match Nat.beq d id with
  | true=>.b5 t bQ g l cap (some (i,none))
  | false=>.b5 t bQ g l cap (some (i,some d))
 | b,_,_=>b
def dq(id:Nat) (z:ba):bx->bx
 | []=>[]
 | (k,b) :: r=>match Nat.beq k id with
  | true=>dq id z r
  | false=>(k,b.sub id z) :: dq id z r
section
variable {env env':Nat->Loc} {B:Nat->Prop} {w:World} {id:Nat} {z:ba}
theorem e1.Er(he:∀ j,j≠id->env' j=env j):∀ {ids:List e6} {vs:List Value},s0 id ids=false->e1 env B w ids vs->e1 env' B w ids vs
 | [],_,_,h=>h
 | .id i :: ids,_,a7,⟨v,r,e,⟨b,ae,aB⟩,h⟩=>by
  simp only[s0,Bool.or_eq_false_iff]at a7;exact⟨v,r,e,⟨b,by rw[he i (Nat.ne_of_beq_eq_false a7.1)]; exact ae,aB⟩,e1.Er he a7.2 h⟩
 | .eS g x :: ids,_,a7,⟨v,r,e,J,h⟩=>⟨v,r,e,J,e1.Er he (by simpa [s0] using a7) h⟩
theorem dv.sub(he:∀ j,j≠id->env' j=env j) (bG:∀ v,dv env B w (.an id) v->dv env' B w z v):∀ {c:ba} {v:Value},dv env B w c v->dv env' B w (c.sub id z) v
 | .val _,_,aa=>aa
 | .str _,_,aa=>aa
 | .dead,_,aa=>aa
 | .ptr i o,v,aa=>by
  simp only[ba.sub]
  split
  ·trivial
  ·rename_i h
   obtain⟨b,e,aB⟩:=aa;exact⟨b,by rw[he i (Nat.ne_of_beq_eq_false h)]; exact e,aB⟩
 | .dZ i cA j o,v,aa=>by
  simp only[ba.sub]
  split
  ·trivial
  ·rename_i h
   obtain⟨b,c,n,e,aB⟩:=aa;exact⟨b,c,n,by rw[he i (Nat.ne_of_beq_eq_false h)]; exact e,aB⟩
 | .hK b i,v,aa=>by
  simp only[ba.sub]
  split
  ·trivial
  ·rename_i h
   obtain⟨k,e,aB⟩:=aa;exact⟨k,fun ae=>by rw[he i (Nat.ne_of_beq_eq_false h)]; exact e ae,aB⟩
 | .iK i,v,aa=>by
  simp only[ba.sub]
  split
  ·trivial
  ·rename_i h
   obtain⟨b,c,n,e,aB⟩:=aa;exact⟨b,c,n,by rw[he i (Nat.ne_of_beq_eq_false h)]; exact e,aB⟩
 | .iB i s o,v,aa=>by
  simp only[ba.sub]
  split
  ·trivial
  ·rename_i h
   obtain⟨b,c,n,e,aB⟩:=aa;exact⟨b,c,n,by rw[he i (Nat.ne_of_beq_eq_false h)]; exact e,aB⟩
 | .gD i o,v,aa=>by
  simp only[ba.sub]
  split
  ·trivial
  ·rename_i h
   obtain⟨b,c,n,e,aB⟩:=aa;exact⟨b,c,n,by rw[he i (Nat.ne_of_beq_eq_false h)]; exact e,aB⟩
 | .fF _ _ _,_,aa=>aa
 | .par _ _,_,aa=>aa
 | .an i,v,aa=>by
  simp only[ba.sub]
  split
  ·rename_i h
   have:i=id:=Nat.eq_of_beq_eq_true h
   subst this;exact bG v aa
  ·rename_i h
   obtain⟨A,c,n,e,aB⟩:=aa;exact⟨A,c,n,by rw[he i (Nat.ne_of_beq_eq_false h)]; exact e,aB⟩
 | .bn _ _ _,_,aa=>aa
 | .fn f ids,v,aa=>by
  simp only[ba.sub]
  split
  ·trivial
  ·rename_i h
   obtain⟨vs,aB,aq⟩:=aa;exact⟨vs,aB,aq.Er he h⟩
 | .cp i,v,aa=>by
  simp only[ba.sub]
  split
  ·trivial
  ·rename_i h
   obtain⟨b,e,aB⟩:=aa;exact⟨b,by rw[he i (Nat.ne_of_beq_eq_false h)]; exact e,aB⟩
 | .iA f i,v,aa=>by
  simp only[ba.sub]
  split
  ·trivial
  ·rename_i h
   obtain⟨b,e,aB⟩:=aa;exact⟨b,by rw[he i (Nat.ne_of_beq_eq_false h)]; exact e,aB⟩
variable (he:∀ j,j≠id->env' j=env j) (bG:∀ v,dv env B w (.an id) v->dv env' B w z v)
include he bG
theorem cd.sub:∀ {c:List ba} {v:List Value},cd env B w c v->cd env' B w (qq id z c) v
 | [],_,aa=>aa
 | _ :: _,_,⟨v,r,e,J,U⟩=>⟨v,r,e,J.sub he bG,cd.sub U⟩
theorem dI.sub:∀ {c:bf} {v:Value},dI env B w c v->dI env' B w (c.sub id z) v
 | .c _,_,aa=>dv.sub he bG aa
 | .agg _,_,⟨vs,e,J⟩=>⟨vs,e,J.sub he bG⟩
 | .arr _ _,_,h=>h
theorem dw.sub:∀ {c:List bf} {v:List Value},dw env B w c v->dw env' B w (xx id z c) v
 | [],_,aa=>aa
 | _ :: _,_,⟨v,r,e,J,U⟩=>⟨v,r,e,J.sub he bG,dw.sub U⟩
theorem ei.sub:∀ {c:b0} {v:Value},ei env B w c v->ei env' B w (c.sub id z) v
 | .a _,_,aa=>dI.sub he bG aa
 | .may _ _,_,aa=>⟨fun aL=>(aa.1 aL).sub he bG,aa.2⟩
 | .da _,_,⟨vs,e,J⟩=>⟨vs,e,J.sub he bG⟩
theorem ej.sub{k:Nat} (ab:k≠id):∀ {b:ct} {c:bb},ej env B w k b c->ej env' B w k (b.sub id z) c
 | .cells _ _,_,⟨b,vs,e,aa,J⟩=>⟨b,vs,by rw[he k ab]; exact e,aa,J.sub he bG⟩
 | .row _ _ _ _,_,⟨A,c,xs,e,aa,J⟩=>⟨A,c,xs,by rw[he k ab]; exact e,aa,J⟩
 | .hq _ _,_,⟨b,e,aa⟩=>⟨b,by rw[he k ab]; exact e,aa⟩
 | .mp _ _ _ _,_,⟨b,es,q,e,aa⟩=>⟨b,es,q,by rw[he k ab]; exact e,aa⟩
 | .it eT _ _ _,_,⟨b,m,e,hm,aa⟩=>by
  simp only[ct.sub]
  split
  ·exact⟨b,_,by rw[he k ab]; exact e,aa⟩
  ·rename_i h
   exact⟨b,m,by rw[he k ab]; exact e,by rw[he eT (Nat.ne_of_beq_eq_false h)]; exact hm,aa⟩
 | .gS eT,_,⟨b,m,q,e,hm,aa⟩=>by
  simp only[ct.sub]
  split
  ·exact⟨b,_,by rw[he k ab]; exact e,aa⟩
  ·rename_i h
   exact⟨b,m,q,by rw[he k ab]; exact e,by rw[he eT (Nat.ne_of_beq_eq_false h)]; exact hm,aa⟩
 | .jJ,_,⟨b,o,e,aa⟩=>⟨b,o,by rw[he k ab]; exact e,aa⟩
 | .cC el t g l cap i d,_,⟨A,c,ys,b9,c',m,e,aa,J,hi,U,ah⟩=>by
  simp only[ct.sub]
  split
  ·rename_i h
   have av:d=id:=Nat.eq_of_beq_eq_true h;subst av
   split
   ·rename_i g' bw rG
    split
    ·rename_i aL _
     subst aL;obtain⟨cY,cF,xs,aW,cV,dU,_,hL,mH⟩:=bG _ ⟨b9,c',m,U,rfl⟩;have ad:ys.length=l.length:=n0.jq J;have cB:ys.set i (.slice b9 m c')=ys.take i++([.slice b9 m c']++ys.drop (i+1)):=by
      rw[List.set_eq_take_append_cons_drop,if_pos (by omega)]
      rfl
     split
     ·refine⟨A,c,_,by rw[he k ab,List.length_set]; exact e,by rw[List.length_set]; exact aa,?_,ah.1⟩
      have h9:=ah.2 rfl;have ak:=Flat.set (k:=1) (fun _ _=>bz.length) (show Flat (bz B w (.gI g')) l ys from J) hi (x:=bw) (us:=[.slice b9 m c']) ⟨cY,xs,by
       subst h9;rw[show c'=bw.length by injection aW]
       injection aW with q _ _
       rw[q],by
       subst h9
       have:c'=bw.length:=by injection aW
       omega,hL,mH⟩
      rw[cB];rw[Nat.mul_one,List.append_assoc]at ak;exact ak
     ·refine⟨A,c,_,by rw[he k ab,List.length_set]; exact e,by rw[List.length_set]; exact aa,?_,ah.1⟩
      have ak:=Flat.set (k:=1) (fun _ _=>bz.length) (show Flat (bz B w (.an g')) l ys from J) hi (x:=bw) (us:=[.slice b9 m c']) ⟨cY,cF,xs,by rw[aW],cV,dU,hL,mH⟩;rw[cB];rw[Nat.mul_one,List.append_assoc]at ak;exact ak
    ·exact⟨A,c,_,_,_,_,_,by rw[he k ab]; exact e,aa⟩
   ·exact⟨A,c,_,_,_,_,_,by rw[he k ab]; exact e,aa⟩
  ·rename_i h
   exact⟨A,c,ys,b9,c',m,by rw[he k ab]; exact e,aa,J,hi,by rw[he d (Nat.ne_of_beq_eq_false h)]; exact U,ah⟩
 | .kb,_,⟨A,c,n,t,s,m,xs,e,aa⟩=>⟨A,c,n,t,s,m,xs,by rw[he k ab]; exact e,aa⟩
 | .fk _ _ _,_,⟨A,c,e,J⟩=>⟨A,c,by rw[he k ab]; exact e,J⟩
 | .b5 _ _ _ _ _ none,_,⟨A,q,ys,cT,I,e,aa,J,U,ah⟩=>⟨A,q,ys,cT,I,by rw[he k ab]; exact e,aa,J,U,ah⟩
 | .b5 _ _ _ _ _ (some (i,none)),_,⟨A,q,ys,cT,I,e,aa,J,⟨U,v,au,_⟩,ah⟩=>⟨A,q,ys,cT,I,by rw[he k ab]; exact e,aa,J,⟨U,v,au,fun _ h=>by cases h⟩,ah⟩
 | .b5 _ _ _ _ _ (some (i,some d)),_,⟨A,q,ys,cT,I,e,aa,J,⟨U,v,au,aF⟩,ah⟩=>by
  simp only[ct.sub]
  split
  ·exact⟨A,q,ys,cT,I,by rw[he k ab]; exact e,aa,J,⟨U,v,au,fun _ h=>by cases h⟩,ah⟩
  ·rename_i h
   exact⟨A,q,ys,cT,I,by rw[he k ab]; exact e,aa,J,⟨U,v,au,fun fG av=>by cases av; rw[he d (Nat.ne_of_beq_eq_false h)]; exact aF d rfl⟩,ah⟩
theorem bu.del:∀ {l:bx} {H:List bb},bu env B w l H->∃ H',H'.Sublist H/\bu env' B w (dq id z l) H'
 | [],_,cn=>⟨[],by rw[show _=[] from cn]; exact List.Sublist.refl _,rfl⟩
 | (k,b) :: l,_,⟨c,H',e,J,U⟩=>by
  obtain⟨H2,ak,ah⟩:=bu.del U;subst e;unfold dq
  split
  ·exact⟨H2,ak.cons _,ah⟩
  ·rename_i h
   exact⟨c :: H2,ak.cons_cons _,c,H2,rfl,J.sub he bG (Nat.ne_of_beq_eq_false h),ah⟩
def iv:bb->Bool
 | .gv _ _ _=>true
 | _=>false
omit he bG in
theorem ej.nr{k:Nat}:∀ {b:ct} {c:bb},ej env B w k b c->(∀ t cs,b≠.cells t cs)->iv c=false
 | .cells t cs,_,_,h=>absurd rfl (h t cs)
 | .row _ _ _ _,_,⟨_,_,_,_,e,_⟩,_=>by rw[e]; rfl
 | .hq _ _,_,⟨_,_,e⟩,_=>by rw[e]; rfl
 | .mp _ _ _ _,_,⟨_,_,_,_,e,_⟩,_=>by rw[e]; rfl
 | .it _ _ _ _,_,⟨_,_,_,_,e⟩,_=>by rw[e]; rfl
 | .gS _,_,⟨_,_,_,_,_,e⟩,_=>by rw[e]; rfl
 | .jJ,_,⟨_,_,_,e⟩,_=>by rw[e]; rfl
 | .cC _ _ _ _ _ _ _,_,⟨_,_,_,_,_,_,_,e,_⟩,_=>by rw[e]; rfl
 | .kb,_,⟨_,_,_,_,_,_,_,_,e⟩,_=>by rw[e]; rfl
 | .b5 _ _ _ _ _ _,_,⟨_,_,_,_,_,_,e,_⟩,_=>by rw[e]; rfl
 | .fk _ _ _,_,⟨_,_,_,h⟩,_=>by
  rcases h with⟨_,e,_⟩ | ⟨e,_⟩
  ·rw[e]; rfl
  ·rw[e]; rfl
theorem bu.Es:∀ {l:bx} {H:List bb},bu env B w l H->(∀ b c,(id,b)∈l->ej env B w id b c->iv c=false)->∃ H',H'.Sublist H/\bu env' B w (dq id z l) H'/\∀ c∈H,iv c=true->c∈H'
 | [],_,cn,_=>⟨[],by rw[show _=[] from cn]; exact List.Sublist.refl _,rfl,fun c aa _=>by rw[show _=[] from cn]at aa; exact aa⟩
 | (k,b) :: l,_,⟨c,H',e,J,U⟩,ab=>by
  obtain⟨H2,ak,ah,au⟩:=bu.Es U (fun b c ae=>ab b c (List.mem_cons_of_mem _ ae));subst e;unfold dq
  split
  ·rename_i hid
   have Ts:=Nat.eq_of_beq_eq_true hid;subst Ts;refine⟨H2,ak.cons _,ah,fun c' er ju=>?_⟩
   rcases List.mem_cons.1 er with rfl | er
   ·rw[ab b c' (List.mem_cons_self ..) J]at ju; cases ju
   ·exact au c' er ju
  ·rename_i h
   refine⟨c :: H2,ak.cons_cons _,⟨c,H2,rfl,J.sub he bG (Nat.ne_of_beq_eq_false h),ah⟩,fun c' er ju=>?_⟩
   rcases List.mem_cons.1 er with rfl | er
   ·exact List.mem_cons_self ..
   ·exact List.mem_cons_of_mem _ (au c' er ju)
omit he bG in
theorem l2:∀ {l:cL} {s:Nat} {v:b0},aU (eJ id z l) s=some v->∃ u,aU l s=some u/\v=u.sub id z
 | [],_,_,h=>by cases h
 | (k,u) :: l,s,v,h=>by
  unfold eJ at h;rw[cl]at h ⊢
  split at h
  ·rename_i e
   cases h;rw[if_pos e];exact⟨u,rfl,rfl⟩
  ·rename_i e
   rw[if_neg e];exact l2 h
end
end
section
structure AQ where
 g:aQ
 l:List g.D
structure br where
 P:Program
 tt:bV
 AR:Nat->Option AQ
def c3(k:Nat):bb:=.obj k (.deferred (some []))
structure eX where
 b:Nat->Prop
 p:Nat->Loc->Prop
 d:List Deferred
def jK(ks:List Nat) (aG:eX):List Deferred:=ks.map sV++aG.d
def qs(w:World) (k:Nat):Prop:=∃ cs e dB,w.heap[k]?=some (.cells cs e dB)
theorem qs.dP{w w':World} {k:Nat} (h:qs w k) (e:w'.heap[k]?=w.heap[k]?):qs w' k:=by
 obtain⟨cs,t,dB,h⟩:=h;exact⟨cs,t,dB,e.trans h⟩
def mI:Nat:=1000000
def hZ:Nat:=2000000
def rH(B:Nat->Prop) (w:World) (i:Nat) (x:AQ):Prop:=dv (fun _=>.no) B w (.par x.g x.l) (.pointer (some ⟨i,0,none⟩))/\∃ cs e dB,w.heap[i]?=some (.cells cs e dB)/\cs.size=x.l.length * x.g.size
theorem rH.up{B B':Nat->Prop} {w w':World} (h:ft B w B' w') {i:Nat} {x:AQ} (aL:rH B w i x):rH B' w' i x:=by
 refine⟨aL.1.up h,?_⟩;obtain⟨⟨b,o,vs,e,ae,_⟩,cs,t,dB,J,U⟩:=aL;cases e;exact⟨cs,t,dB,by rw[h.same _ ae]; exact J,U⟩
structure bH(X:br) (R:Nat->Prop) (W:World) (aG:eX) (n:Nat) (ks:List Nat) (env:Nat->Loc) (B:Nat->Prop) (ai:World) (H:List bb) (st:aM) (a:Act) (w:World):Prop where
 size:a.tmps.size=n
 defs:a.defers=jK ks aG
 has:∀ s sv,aU st.L s=some sv->∃ v,a.tmps[s]?=some v/\ei env B ai sv v
 heap:bu env B ai st.H H
 aJ:bF (fun k=>R k\/B k) ai (H++ks.map c3) w
 sub:∀ k,aG.b k->B k
 new:∀ k,B k->aG.b k\/(¬ R k/\qs ai k)
 df:∀ id l,aG.p id l->n<=id/\env id=l/\((∃ b,l=.blk b)\/hZ<=id)
 base:c6 R W ai
 dQ:∀ i x,X.AR i=some x->rH B ai i x
def Et(M:Bool) (ks:List Nat) (aG:eX):Prop:=(M=false->ks=[])/\(M=true->∀ id l,aG.p id l->mI<=id)
def lB(X:br) (R:Nat->Prop) (W:World) (aG:eX) (M:Bool) (n:Nat) (st:aM) (a:Act) (w:World):Prop:=
 ∃ ks env B ai H,Et M ks aG/\bH X R W aG n ks env B ai H st a w
def gl(a:Act):List (Nat×Value):=a.tmps.toList.zipIdx.map fun p=>(p.2,p.1)
theorem Tt{s:Nat} {v:Value}:∀ (vs:List Value) (k:Nat),((vs.zipIdx k).map fun p=>(p.2,p.1)).lookup s=some v->k<=s/\vs[s - k]?=some v:=by
 intro vs
 induction vs with
 | nil=>intro k h; cases h
 | cons u vs bA=>
  intro k h;simp only[List.zipIdx_cons,List.map_cons,List.lookup_cons]at h
  by_cases e:s=k
  ·subst e
   simp at h
   subst h
   simp
  ·have cm:(s == k)=false:=by simpa using e
   rw[cm]at h;obtain⟨J,U⟩:=bA (k+1) h;refine⟨by omega,?_⟩;rw[show s - k=(s - (k+1))+1 by omega,List.getElem?_cons_succ];exact U
theorem Tu{s:Nat} {v:Value}:∀ (vs:List Value) (k:Nat),vs[s]?=some v->((vs.zipIdx k).map fun p=>(p.2,p.1)).lookup (k+s)=some v:=by
 intro vs
 induction vs generalizing s with
 | nil=>intro k h; simp at h
 | cons u vs bA=>
  intro k h;simp only[List.zipIdx_cons,List.map_cons,List.lookup_cons];cases s with
  | zero=>simp at h; simp[h]
  | succ s=>
   have e:(k+(s+1) == k)=false:=by simp
   rw[e]
   have:=bA (k+1) (by simpa using h)
   rw[show k+1+s=k+(s+1) by omega]at this;exact this
theorem Tv(a:Act):cW a.tmps.size a.defers (gl a) a:=⟨rfl,rfl,fun s v h=>by
 have:=(Tt a.tmps.toList 0 h).2
 simpa using this⟩
theorem h0{a:Act} {s:Nat} {v:Value} (h:a.tmps[s]?=some v):(gl a).lookup s=some v:=by
 have:=Tu a.tmps.toList 0 (s:=s) (v:=v) (by simpa using h)
 simpa [gl] using this
def Lg:Value->ba
 | .string s=>.str s.data.toList
 | v=>.val v
def rI:List Value->List ba
 | []=>[]
 | v :: r=>Lg v :: rI r
def bm(X:br) (L:cL):Operand->Option (Bool×bf)
 | .tmp s=>match aU L s with
  | some (.a x)=>some (true,x)
  | some (.may g x)=>some (g,x)
  | _=>none
 | .const v=>match v with
  | .string s=>some (true,.c (.str s.data.toList))
  | .agg cs=>some (true,.agg (rI cs.toList))
  | .tuple _=>none
  | v=>some (true,.c (.val v))
 | .global i=>match X.AR i with
  | some x=>some (true,.c (.par x.g x.l))
  | none=>none
 | .func f=>some (true,.c (.fn f []))
section
variable {X:br} {R:Nat->Prop} {W:World} {aG:eX} {n:Nat} {ks:List Nat} {env:Nat->Loc} {B:Nat->Prop} {ai:World} {H:List bb} {st:aM} {a:Act} {w:World}
theorem Tw(s:ByteArray):eP s.data.toList=.string s:=rfl
theorem Tx:∀ v:Value,dv env B ai (Lg v) v
 | .string _=>rfl
 | .bool _=>rfl
 | .int _ _=>rfl
 | .float _ _=>rfl
 | .complex _ _ _=>rfl
 | .pointer _=>rfl
 | .slice _ _ _=>rfl
 | .map _=>rfl
 | .chan _=>rfl
 | .func _ _ _=>rfl
 | .nilFunc=>rfl
 | .iface _ _=>rfl
 | .nilIface=>rfl
 | .agg _=>rfl
 | .tuple _=>rfl
theorem xy:∀ vs:List Value,cd env B ai (rI vs) vs
 | []=>rfl
 | v :: r=>⟨v,r,rfl,Tx v,xy r⟩
theorem bH.aD(h:bH X R W aG n ks env B ai H st a w) {x:Operand} {g:Bool} {bq:bf} (aj:bm X st.L x=some (g,bq)) (aL:g=true):∃ v,aD (gl a) x=some v/\dI env B ai bq v:=by
 cases x with
 | tmp s=>
  simp only[bm]at aj;cases J:aU st.L s with
  | none=>rw[J]at aj; cases aj
  | some sv=>
   obtain⟨v,U,ah⟩:=h.has s sv J;rw[J]at aj;cases sv with
   | a x=>cases aj; exact⟨v,h0 U,ah⟩
   | may g' x=>cases aj; exact⟨v,h0 U,ah.1 aL⟩
   | da xs=>cases aj
 | const v=>
  refine⟨v,rfl,?_⟩;cases v with
  | string s=>cases aj; exact Tw s
  | agg cs=>cases aj; exact⟨cs.toList,by simp,xy _⟩
  | tuple vs=>cases aj
  | _=>cases aj; rfl
 | global i=>
  simp only[bm]at aj;cases J:X.AR i with
  | none=>rw[J]at aj; cases aj
  | some x=>
   rw[J]at aj;cases aj;exact⟨_,rfl,(h.dQ i x J).1⟩
 | func f=>cases aj; exact⟨_,rfl,[],rfl,rfl⟩
theorem bH.bL(h:bH X R W aG n ks env B ai H st a w):cW n (jK ks aG) (gl a) a:=by
 have:=Tv a
 rw[h.size,h.defs]at this;exact this
end
def oP:Op->Bool
 | .load _ _=>true
 | _=>false
def gT(X:br) (st:aM) (o:Oper) (bq:bf):Prop:=
 ∀ {R:Nat->Prop} {W:World} {aG:eX} {n:Nat} {ks:List Nat} {env:Nat->Loc} {B:Nat->Prop} {ai:World} {H:List bb} {a:Act} {bZ:World},bH X R W aG n ks env B ai H st a bZ ->
  ∃ v,dI env B ai bq v/\∀ w,(oP o.op=true->bF (fun k=>R k\/B k) ai (H++ks.map c3) w)->(execOp a.eval o).run X.P w=.ok (.value v) w
def bp(x:Int):Bool:=Nat.ble (-x).toNat 9223372036854775808&&Nat.ble x.toNat 9223372036854775807
theorem AS{x:Int}:bp x=true ↔ -9223372036854775808<=x/\x<=9223372036854775807:=by
 unfold bp;rw[Bool.and_eq_true,Nat.ble_eq,Nat.ble_eq];omega
def gw(b:Nat) (z:Int):Bool:=Nat.ble (b * z.toNat) 140737488355328&&Nat.ble z.toNat 140737488355328
theorem Lh{b:Nat} {z:Int} (bG:0<=z):gw b z=true ↔ (b:Int) * z<=140737488355328/\z<=140737488355328:=by
 unfold gw;rw[Bool.and_eq_true,Nat.ble_eq,Nat.ble_eq]
 have:((b * z.toNat:Nat):Int)=(b:Int) * z:=by rw[Int.natCast_mul,Int.toNat_of_nonneg bG]
 omega
theorem Ty{x:Int} (h:bp x=true):IntKind.i64.wrap x=x:=by
 rw[AS]at h;exact SE h.1 h.2
def mJ:IntKind->Int->Bool×Int
 | .i64,x=>(bp x,x)
 | k,x=>(true,k.wrap x)
theorem vc{k:IntKind} {x z:Int} (h:mJ k x=(true,z)):k.wrap x=z:=by
 cases k<;>simp only[mJ,Prod.mk.injEq,true_and]at h
 case i64=>obtain⟨J,rfl⟩:=h; exact Ty J
 all_goals exact h
def vd(op:BinOp) (k k':IntKind) (x y:Int):Option (Bool×ba):=
 match op with
 | .shl=>some (decide (0<=y),.val (.int k (k.wrap (x * 2 ^ (min y.toNat k.bits)))))
 | .shr=>some (decide (0<=y),.val (.int k (x.fdiv (2 ^ (min y.toNat k.bits)))))
 | _=>match decide (k=k')with
  | false=>none
  | true=>match op with
   | .add=>match mJ k (x+y)with
    | (c,z)=>some (c,.val (.int k z))
   | .sub=>match mJ k (x - y)with
    | (c,z)=>some (c,.val (.int k z))
   | .mul=>match mJ k (x * y)with
    | (c,z)=>some (c,.val (.int k z))
   | .quo=>match mJ k (x.tdiv y)with
    | (c,z)=>some (c&&decide (y≠0),.val (.int k z))
   | .rem=>some (decide (y≠0),.val (.int k (x.tmod y)))
   | .and=>some (true,.val (.int k (bits .and k x y)))
   | .or=>some (true,.val (.int k (bits .or k x y)))
   | .xor=>some (true,.val (.int k (bits .xor k x y)))
   | .lss=>some (true,.val (.bool (decide (x < y))))
   | .leq=>some (true,.val (.bool (decide (x<=y))))
   | .gtr=>some (true,.val (.bool (decide (y < x))))
   | .geq=>some (true,.val (.bool (decide (y<=x))))
   | .eql=>some (true,.val (.bool (decide (x=y))))
   | .neq=>some (true,.val (.bool (!decide (x=y))))
   | _=>none
def Eu(op:BinOp) (x y:List UInt8):Option (Bool×ba):=
 match op with
 | .eql=>some (true,.val (.bool (x == y)))
 | .neq=>some (true,.val (.bool (!(x == y))))
 | .add=>some (decide (x.length+y.length<=140737488355328),.str (x++y))
 | _=>none
def Li(op:BinOp) (x y:Bool):Option (Bool×ba):=
 match op with
 | .eql=>some (true,.val (.bool (x == y)))
 | .neq=>some (true,.val (.bool (x != y)))
 | _=>none
def Ev(X:br) (op:BinOp) (t:TypeId) (x y:bf):Option (Bool×ba):=
 match x,y with
 | .c (.val (.int k x)),.c (.val (.int k' y))=>vd op k k' x y
 | .c (.str x),.c (.str y)=>Eu op x y
 | .c (.val (.bool x)),.c (.val (.bool y))=>match X.tt.find t with
  | some ⟨⟨.bool,_,_,_⟩,_⟩=>Li op x y
  | _=>none
 | .c (.bn _ l _),.c (.val (.slice none 0 0))=>match X.tt.find t,op with
  | some ⟨⟨.slice _,_,_,_⟩,_⟩,.eql=>some (decide (0 < l.length),.val (.bool false))
  | some ⟨⟨.slice _,_,_,_⟩,_⟩,.neq=>some (decide (0 < l.length),.val (.bool true))
  | _,_=>none
 | .c (.val (.slice none 0 0)),.c (.val (.slice none 0 0))=>match X.tt.find t,op with
  | some ⟨⟨.slice _,_,_,_⟩,_⟩,.eql=>some (true,.val (.bool true))
  | some ⟨⟨.slice _,_,_,_⟩,_⟩,.neq=>some (true,.val (.bool false))
  | _,_=>none
 | _,_=>none
section
variable {P:Program} {o:Oper} {n:Nat} {D:List Deferred} {L:List (Nat×Value)} {a:Act}
theorem Tz{op:BinOp} {t bQ:TypeId} {u v:Operand} {k k':IntKind} {x y:Int} {b4:ba} (aI:cW n D L a) (ax:o.op=.binOp op t u v bQ) (hu:aD L u=some (.int k x)) (aB:aD L v=some (.int k' y))
  (h:vd op k k' x y=some (true,b4)):∃ r,b4=.val r/\fb P o a r:=by
 cases op
 case shl=>
  simp only[vd,Option.some.injEq,Prod.mk.injEq,decide_eq_true_eq]at h;obtain⟨aN,rfl⟩:=h;exact⟨_,rfl,Sx aI ax hu (by rw[aB,Int.toNat_of_nonneg aN]) rfl⟩
 case shr=>
  simp only[vd,Option.some.injEq,Prod.mk.injEq,decide_eq_true_eq]at h;obtain⟨aN,rfl⟩:=h;exact⟨_,rfl,Sy aI ax hu (by rw[aB,Int.toNat_of_nonneg aN]) rfl⟩
 all_goals
  have e:k=k':=by
   cases ab:decide (k=k')with
   | true=>exact of_decide_eq_true ab
   | false=>simp only[vd,ab]at h; cases h
  subst e;simp only[vd,decide_true]at h
 case add=>generalize hw:mJ k (x+y)=q at h; obtain⟨c,z⟩:=q; cases h; exact⟨_,rfl,KU aI ax hu aB (vc hw)⟩
 case sub=>generalize hw:mJ k (x - y)=q at h; obtain⟨c,z⟩:=q; cases h; exact⟨_,rfl,Sk aI ax hu aB (vc hw)⟩
 case mul=>generalize hw:mJ k (x * y)=q at h; obtain⟨c,z⟩:=q; cases h; exact⟨_,rfl,Sl aI ax hu aB (vc hw)⟩
 case quo=>
  generalize hw:mJ k (x.tdiv y)=q at h; obtain⟨c,z⟩:=q
  simp only[Option.some.injEq,Prod.mk.injEq,Bool.and_eq_true,decide_eq_true_eq]at h;obtain⟨⟨rfl,aN⟩,rfl⟩:=h;exact⟨_,rfl,Sm aI ax hu aB aN (vc hw)⟩
 case rem=>
  simp only[Option.some.injEq,Prod.mk.injEq,decide_eq_true_eq]at h;obtain⟨aN,rfl⟩:=h;exact⟨_,rfl,Sn aI ax hu aB aN rfl⟩
 case and=>cases h; exact⟨_,rfl,Su aI ax hu aB rfl⟩
 case or=>cases h; exact⟨_,rfl,Sv aI ax hu aB rfl⟩
 case xor=>cases h; exact⟨_,rfl,Sw aI ax hu aB rfl⟩
 case lss=>cases h; exact⟨_,rfl,So aI ax hu aB⟩
 case leq=>cases h; exact⟨_,rfl,Sp aI ax hu aB⟩
 case gtr=>cases h; exact⟨_,rfl,Sq aI ax hu aB⟩
 case geq=>cases h; exact⟨_,rfl,Sr aI ax hu aB⟩
 case eql=>cases h; exact⟨_,rfl,Ss aI ax hu aB⟩
 case neq=>cases h; exact⟨_,rfl,St aI ax hu aB⟩
 case andNot=>cases h
theorem TA{u v:Operand} {t bQ:TypeId} {x y:List UInt8} (aI:cW n D L a) (ax:o.op=.binOp .add t u v bQ) (hu:aD L u=some (eP x)) (aB:aD L v=some (eP y)) (ad:x.length+y.length<=140737488355328):fb P o a (eP (x++y)):=fun w=>by
 have aC:((ByteArray.mk x.toArray).size+(ByteArray.mk y.toArray).size:Nat)=x.length+y.length:=by simp[ByteArray.size]
 have aW:(ByteArray.mk x.toArray)++(ByteArray.mk y.toArray)=ByteArray.mk (x++y).toArray:=by
  apply ByteArray.ext
  simp[ByteArray.data_append]
 have cB:¬ (((ByteArray.mk x.toArray).size+(ByteArray.mk y.toArray).size:Nat):Int) > IntKind.i64.max:=by
  rw[aC,show IntKind.i64.max=9223372036854775807 from rfl]; omega
 have gH:(Op.stringOp .add (ByteArray.mk x.toArray) (ByteArray.mk y.toArray)).run P w=.ok (eP (x++y)) w:=by
  unfold Op.stringOp;simp only[if_neg cB];rw[aW]
  rfl
 simp only[execOp,ax,aI.aD hu,aI.aD aB,eP,eqGuard,binOp];simp only[eP]at gH
 simp[gH]
theorem TB{op:BinOp} {t bQ:TypeId} {u v:Operand} {x y:List UInt8} {b4:ba} (aI:cW n D L a) (ax:o.op=.binOp op t u v bQ) (hu:aD L u=some (eP x)) (aB:aD L v=some (eP y))
  (h:Eu op x y=some (true,b4)) {env:Nat->Loc} {B:Nat->Prop} {ai:World}:∃ r,dv env B ai b4 r/\fb P o a r:=by
 cases op<;>simp only[Eu,Option.some.injEq,Prod.mk.injEq,true_and,decide_eq_true_eq,reduceCtorEq]at h
 case eql=>subst h; exact⟨_,rfl,Te aI ax hu aB⟩
 case neq=>subst h; exact⟨_,rfl,Tf aI ax hu aB⟩
 case add=>obtain⟨ad,rfl⟩:=h; exact⟨_,rfl,TA aI ax hu aB ad⟩
theorem Lj{P:Program} {t e:TypeId} (h:P.underlying t=some (.slice e)) (d:Nat) (a:Addr) (m c:Nat) (w:World):(Op.equalIn (d+1) t (.slice (some a) m c) (.slice none 0 0)).run P w=.ok false w:=by
 unfold Op.equalIn
 simp[run_underlying h]
theorem Lk{P:Program} {t e:TypeId} (h:P.underlying t=some (.slice e)) (d:Nat) (w:World):(Op.equalIn (d+1) t (.slice none 0 0) (.slice none 0 0)).run P w=.ok true w:=by
 unfold Op.equalIn
 simp[run_underlying h]
theorem TC{X:br} (ar:X.tt.ok X.P) {op:BinOp} {t bQ:TypeId} {u v:Operand} {x y:bf} {vx vy:Value} {b4:ba} {env:Nat->Loc} {B:Nat->Prop} {ai:World} (aI:cW n D L a) (ax:o.op=.binOp op t u v bQ) (hu:aD L u=some vx) (aB:aD L v=some vy)
  (aj:dI env B ai x vx) (aT:dI env B ai y vy) (h:Ev X op t x y=some (true,b4)):∃ r,dv env B ai b4 r/\fb X.P o a r:=by
 unfold Ev at h
 split at h
 ·rw[show vx=_ from aj]at hu
  rw[show vy=_ from aT]at aB;obtain⟨r,rfl,az⟩:=Tz aI ax hu aB h;exact⟨r,rfl,az⟩
 ·rw[show vx=_ from aj]at hu
  rw[show vy=_ from aT]at aB;exact TB aI ax hu aB h
 ·rw[show vx=_ from aj]at hu
  rw[show vy=_ from aT]at aB
  split at h
  ·rename_i aA
   obtain⟨T,bE,J⟩:=AP (bV.get ar aA).bk;cases op<;>simp only[Li,Option.some.injEq,Prod.mk.injEq,true_and,reduceCtorEq]at h
   case eql=>subst h; exact⟨_,rfl,SP aI ax bE J rfl hu aB⟩
   case neq=>subst h; exact⟨_,rfl,SQ aI ax bE J rfl hu aB⟩
  ·cases h
 ·rename_i g l cap
  obtain⟨A,c,xs,rfl,_,_,_,_,gU⟩:=aj;rw[show vy=_ from aT]at aB
  split at h
  ·rename_i e s b z kc aA
   have aC:=(bV.get ar aA).bk.1;simp only[Option.some.injEq,Prod.mk.injEq,decide_eq_true_eq]at h;obtain⟨ad,rfl⟩:=h;obtain⟨b,p,rfl,_⟩:=gU.1.2 ad;have he:∀ w,(Op.equal t _ _).run X.P w=.ok _ w:=fun w=>Lj aC 9999 ⟨b,p,none⟩ l.length c w
   exact⟨_,rfl,fun w=>by simp[execOp,ax,aI.aD hu,aI.aD aB,eqGuard,binOp,he]⟩
  ·rename_i e s b z kc aA
   have aC:=(bV.get ar aA).bk.1;simp only[Option.some.injEq,Prod.mk.injEq,decide_eq_true_eq]at h;obtain⟨ad,rfl⟩:=h;obtain⟨b,p,rfl,_⟩:=gU.1.2 ad;have he:∀ w,(Op.equal t _ _).run X.P w=.ok _ w:=fun w=>Lj aC 9999 ⟨b,p,none⟩ l.length c w
   exact⟨_,rfl,fun w=>by simp[execOp,ax,aI.aD hu,aI.aD aB,eqGuard,binOp,he]⟩
  ·cases h
 ·rw[show vx=_ from aj]at hu
  rw[show vy=_ from aT]at aB
  split at h
  ·rename_i e s b z kc aA
   have aC:=(bV.get ar aA).bk.1;cases h;have he:∀ w,(Op.equal t _ _).run X.P w=.ok _ w:=fun w=>Lk aC 9999 w
   exact⟨_,rfl,fun w=>by simp[execOp,ax,aI.aD hu,aI.aD aB,eqGuard,binOp,he]⟩
  ·rename_i e s b z kc aA
   have aC:=(bV.get ar aA).bk.1;cases h;have he:∀ w,(Op.equal t _ _).run X.P w=.ok _ w:=fun w=>Lk aC 9999 w
   exact⟨_,rfl,fun w=>by simp[execOp,ax,aI.aD hu,aI.aD aB,eqGuard,binOp,he]⟩
  ·cases h
 ·cases h
end
end
section
section
variable {P:Program} {T:List (TypeId×bC)} {n:Nat} {D:List Deferred} {L:List (Nat×Value)} {a:Act} {o:Oper}
theorem ve{u x:Operand} {t e:TypeId} {i i':bC} {b m j p q:Nat} {k:IntKind} {z:Int} (aI:cW n D L a) (ax:o.op=.indexAddr t u x)
  (bE:gg P T) (J:T.lookup t=some i) (U:i.desc=.array m e) (au:T.lookup e=some i') (hu:aD L u=some (.pointer (some ⟨b,p,none⟩))) (aj:aD L x=some (.int k z)) (bG:z=(j:Int)) (aR:j < m) (ao:p+j * i'.size=q):fb P o a (.pointer (some ⟨b,q,none⟩)):=fun w=>by subst bG; subst ao; have aC:=(bE _ _ J).1; rw[U]at aC; have aW:=bC.run_sizeOf (bE _ _ au); simp[execOp,ax,aI.aD hu,aI.aD aj,Instr.indexAt,Instr.sureAddr,asIntOf,run_underlying aC,aW,Addr.add_lit,aR]
end
end
section
def nth{α:Type}:List α->Nat->Option α
 | [],_=>none
 | x :: _,0=>some x
 | _ :: r,n+1=>nth r n
def pE:List ba->Nat->Nat->Option (List ba)
 | _ :: r,o+1,n=>pE r o n
 | _,0,0=>some []
 | x :: r,0,n+1=>match pE r 0 n with
  | some l=>some (x :: l)
  | none=>none
 | [],_,_=>none
def kT:(g:aQ)->g.D->Nat->Option ba
 | .int k,x,0=>some (.val (.int k x))
 | .bool,x,0=>some (.val (.bool x))
 | .str,x,0=>some (.str x)
 | .an g,x,0=>some (.bn g x none)
 | .gI g,x,0=>some (.bn g x (some (List.length x)))
 | .fn,none,0=>some (.val .nilFunc)
 | .fn,some f,0=>some (.fn f [])
 | .pair g h,x,o=>match Nat.blt o g.size with
  | true=>kT g x.1 o
  | false=>kT h x.2 (o - g.size)
 | _,_,_=>none
def kC(g:aQ) (x:g.D):Nat->Nat->Option (List ba)
 | _,0=>some []
 | o,n+1=>match kT g x o,kC g x (o+1) n with
  | some c,some l=>some (c :: l)
  | _,_=>none
def Part(vs us:List Value) (o n:Nat):Prop:=us.length=n/\∀ j u,us[j]?=some u->vs[o+j]?=some u
section
variable {env:Nat->Loc} {B:Nat->Prop} {w:World}
theorem cd.nth:∀ {cs:List ba} {vs:List Value} {o:Nat} {c:ba},cd env B w cs vs->nth cs o=some c->∃ v,vs[o]?=some v/\dv env B w c v
 | [],_,_,_,_,h=>by cases h
 | c' :: cs,vs,0,c,⟨v,r,e,J,_⟩,h=>by cases h; subst e; exact⟨v,rfl,J⟩
 | c' :: cs,vs,o+1,c,⟨v,r,e,_,U⟩,h=>by
  obtain⟨u,ah,au⟩:=cd.nth U h;subst e;exact⟨u,ah,au⟩
theorem cd.length:∀ {cs:List ba} {vs:List Value},cd env B w cs vs->vs.length=cs.length
 | [],_,h=>by rw[show _=[] from h]; rfl
 | _ :: _,_,⟨v,r,e,_,U⟩=>by rw[e,List.length_cons,List.length_cons,cd.length U]
theorem cd.cut:∀ {cs:List ba} {vs:List Value} {o n:Nat} {aE:List ba},cd env B w cs vs->pE cs o n=some aE->∃ us,Part vs us o n/\cd env B w aE us
 | c :: cs,vs,o+1,n,aE,⟨v,r,e,_,U⟩,h=>by
  obtain⟨us,⟨ah,au⟩,aF⟩:=cd.cut (o:=o) U (by simpa [pE] using h);subst e;exact⟨us,⟨ah,fun j u aR=>by rw[show o+1+j=(o+j)+1 by omega,List.getElem?_cons_succ]; exact au j u aR⟩,aF⟩
 | [],vs,0,0,aE,J,h=>by
  simp only[pE,Option.some.injEq]at h;subst h;exact⟨[],⟨rfl,fun j u aR=>by simp at aR⟩,rfl⟩
 | c :: cs,vs,0,0,aE,J,h=>by
  simp only[pE,Option.some.injEq]at h;subst h;exact⟨[],⟨rfl,fun j u aR=>by simp at aR⟩,rfl⟩
 | c :: cs,vs,0,n+1,aE,⟨v,r,e,J,U⟩,h=>by
  simp only[pE]at h
  split at h
  ·rename_i l ad
   cases h;obtain⟨us,⟨ah,au⟩,aF⟩:=cd.cut U ad;subst e;refine⟨v :: us,⟨by rw[List.length_cons,ah],fun j u aR=>?_⟩,v,us,rfl,J,aF⟩;cases j with
   | zero=>simpa using aR
   | succ j=>
    rw[show 0+(j+1)=(0+j)+1 by omega,List.getElem?_cons_succ];exact au j u (by simpa using aR)
  ·cases h
 | [],_,0,_+1,_,_,h=>by simp[pE]at h
 | [],_,_+1,_,_,_,h=>by simp[pE]at h
theorem bz.cell:∀ {g:aQ} {x:g.D} {vs:List Value} {o:Nat} {c:ba},bz B w g x vs->kT g x o=some c->∃ v,vs[o]?=some v/\dv env B w c v
 | .int k,x,vs,0,c,aA,h=>by cases h; rw[show vs=[_] from aA]; exact⟨_,rfl,rfl⟩
 | .bool,x,vs,0,c,aA,h=>by cases h; rw[show vs=[_] from aA]; exact⟨_,rfl,rfl⟩
 | .str,x,vs,0,c,aA,h=>by cases h; rw[show vs=[_] from aA]; exact⟨_,rfl,rfl⟩
 | .an g,x,vs,0,c,⟨A,k,xs,e,J,U,ah,au⟩,h=>by cases h; rw[e]; exact⟨_,rfl,A,k,xs,rfl,J,U,(fun _ aa=>by cases aa),ah,au⟩
 | .gI g,x,vs,0,c,⟨A,xs,e,U,ah,au⟩,h=>by cases h; rw[e]; exact⟨_,rfl,A,_,xs,rfl,Nat.le_refl _,U,(fun _ aa=>by cases aa; rfl),ah,au⟩
 | .pair g h,x,vs,o,c,⟨v1,v2,e,J,U⟩,aa=>by
  simp only[kT]at aa;have ad:=bz.length J
  split at aa
  ·rename_i ae
   have a8:o < g.size:=du ae;obtain⟨v,ah,au⟩:=bz.cell J aa;exact⟨v,by rw[e,List.getElem?_append_left (by omega)]; exact ah,au⟩
  ·rename_i ae
   have pA:¬ o < g.size:=fun a8=>by
    have:Nat.blt o g.size=true:=Nat.ble_eq_true_of_le a8
    rw[this]at ae; cases ae
   obtain⟨v,ah,au⟩:=bz.cell U aa;exact⟨v,by rw[e,List.getElem?_append_right (by omega),ad]; exact ah,au⟩
 | .int _,_,_,_+1,_,_,h=>by simp[kT]at h
 | .bool,_,_,_+1,_,_,h=>by simp[kT]at h
 | .str,_,_,_+1,_,_,h=>by simp[kT]at h
 | .an _,_,_,_+1,_,_,h=>by simp[kT]at h
 | .gI _,_,_,_+1,_,_,h=>by simp[kT]at h
 | .fn,none,vs,0,c,aA,h=>by cases h; rw[show vs=[_] from aA]; exact⟨_,rfl,rfl⟩
 | .fn,some f,vs,0,c,aA,h=>by cases h; rw[show vs=[_] from aA]; exact⟨_,rfl,[],rfl,rfl⟩
 | .fn,none,_,_+1,_,_,h=>by simp[kT]at h
 | .fn,some _,_,_+1,_,_,h=>by simp[kT]at h
 | .unit,_,_,_,_,_,h=>by simp[kT]at h
theorem bz.cells{g:aQ} {x:g.D} {vs:List Value} (aA:bz B w g x vs):∀ {n o:Nat} {aE:List ba},kC g x o n=some aE->∃ us,Part vs us o n/\cd env B w aE us
 | 0,o,aE,h=>by
  simp only[kC,Option.some.injEq]at h;subst h;exact⟨[],⟨rfl,fun j u aR=>by simp at aR⟩,rfl⟩
 | n+1,o,aE,h=>by
  simp only[kC]at h
  split at h
  ·rename_i c l aa ad
   cases h;obtain⟨v,J,U⟩:=bz.cell (env:=env) aA aa;obtain⟨us,⟨ah,au⟩,aF⟩:=bz.cells aA ad;refine⟨v :: us,⟨by rw[List.length_cons,ah],fun j u aR=>?_⟩,v,us,rfl,U,aF⟩;cases j with
   | zero=>simp at aR; subst aR; exact J
   | succ j=>
    rw[show o+(j+1)=o+1+j by omega];exact au j u (by simpa using aR)
  ·cases h
end
def AT(X:br) (st:aM) (t:TypeId) (x:bf):Option (Bool×bf):=
 match X.tt.find t with
 | none=>none
 | some bj=>match jn bj.bk.desc with
  | false=>match x with
   | .c (.ptr id o)=>match aU st.H id with
    | some (.cells _ cs)=>match nth cs o with
     | some c=>some (true,.c c)
     | none=>none
    | _=>none
   | .c (.dZ id cA i o)=>match aU st.H id with
    | some (.row _ g l _)=>match Nat.beq cA g.size,kT g (l.getD i g.zero) o with
     | true,some c=>some (decide (i < l.length),.c c)
     | _,_=>none
    | _=>none
   | .c (.fF g x o)=>match kT g x o with
    | some c=>some (true,.c c)
    | none=>none
   | _=>none
  | true=>match x with
   | .c (.ptr id o)=>match aU st.H id with
    | some (.cells _ cs)=>match pE cs o bj.bk.size with
     | some c=>some (true,.agg c)
     | none=>none
    | _=>none
   | .c (.dZ id cA i o)=>match aU st.H id with
    | some (.row _ g l _)=>match Nat.beq cA g.size,kC g (l.getD i g.zero) o bj.bk.size with
     | true,some c=>some (decide (i < l.length),.agg c)
     | _,_=>none
    | _=>none
   | .c (.fF g x o)=>match kC g x o bj.bk.size with
    | some c=>some (true,.agg c)
    | none=>none
   | _=>none
section
variable {X:br} {R:Nat->Prop} {W:World} {aG:eX} {n:Nat} {ks:List Nat} {env:Nat->Loc} {B:Nat->Prop} {ai:World} {H:List bb} {st:aM} {a:Act} {w bZ:World} {o:Oper}
theorem iJ.more{H H2:List bb} {c:bb} {K:bb->List bb} (h:iJ H c K):iJ (H++H2) c (fun z=>K z++H2):=by
 obtain⟨A,Y,J,U⟩:=h;exact⟨A,Y++H2,by rw[J]; simp,by rw[U]; funext z; simp⟩
theorem rJ{t:TypeId} {i:bC} {x:Operand} {b p:Nat} {v:Value} {D:List Deferred} {L:List (Nat×Value)} (aI:cW n D L a) (ax:o.op=.load t x) (hi:bC.ok X.P t i) (U:jn i.desc=false) (aj:Go.Proofs.YtcheedjfedcbpaaGreatDoor.aD L x=some (.pointer (some ⟨b,p,none⟩)))
  (aa:w.cell? ⟨b,p,none⟩=some v):(execOp a.eval o).run X.P w=.ok (.value v) w:=by
 simp[execOp,ax,aI.aD aj,Instr.loadAt,Instr.sureAddr,loadVar,bC.xn hi,U,aa]
theorem s3{t:TypeId} {i:bC} {x:Operand} {b p:Nat} {vs:List Value} {D:List Deferred} {L:List (Nat×Value)} (aI:cW n D L a) (ax:o.op=.load t x) (hi:bC.ok X.P t i) (U:jn i.desc=true) (aj:Go.Proofs.YtcheedjfedcbpaaGreatDoor.aD L x=some (.pointer (some ⟨b,p,none⟩)))
  (ad:vs.length=i.size) (aa:∀ j v,vs[j]?=some v->w.cell? ⟨b,p+j,none⟩=some v):(execOp a.eval o).run X.P w=.ok (.value (.agg vs.toArray)) w:=by
 have:=SC (w:=w) hi U (b:=b) (p:=p) ad aa
 simp[execOp,ax,aI.aD aj,Instr.loadAt,Instr.sureAddr,this]
theorem AU{b p:Nat} {v:Value} (ae:B b) (aa:ai.cell? ⟨b,p,none⟩=some v) (ak:bF (fun k=>R k\/B k) ai H w):w.cell? ⟨b,p,none⟩=some v:=by
 rw[ak.below.cell (p:=⟨b,p,none⟩) (.inr ae)]; exact aa
theorem Ll(h:bH X R W aG n ks env B ai H st a bZ) {id:Nat} {t:TypeId} {g:aQ} {l:List g.D} {cap:Option Nat} (ad:aU st.H id=some (.row t g l cap)) {i:Nat} (hi:i < l.length) {b c m:Nat} (he:env id=.row (some ⟨b,0,none⟩) c m) :
  ∃ vs,bz B ai g (l.getD i g.zero) vs/\∀ w,bF (fun k=>R k\/B k) ai (H++ks.map c3) w->∀ q v,vs[q]?=some v->w.cell? ⟨b,i * g.size+q,none⟩=some v:=by
 obtain⟨dk,K,⟨A,k,xs,cI,rfl,aA,_⟩,dV⟩:=h.heap.fE ad;rw[he]at cI;cases cI;have aj:l[i]?=some (l.getD i g.zero):=by rw[List.getD_eq_getElem?_getD,List.getElem?_eq_getElem hi]; rfl
 have J:=Flat.get (fun _ _=>bz.length) aA aj;refine⟨_,J,fun w ak q v ao=>?_⟩;have eW:ew w (fun k=>R k\/B k) t g.size (some ⟨b,0,none⟩) c l.length xs:=ak.ok _ dV.more.mem;rw[List.getElem?_take]at ao
 split at ao
 ·rename_i a8
  rw[List.getElem?_drop]at ao;have hbound:i * g.size+q < l.length * g.size:=by
   have U:(i+1) * g.size<=l.length * g.size:=Nat.mul_le_mul_right _ hi;rw[Nat.add_mul]at U;omega
  rw[eW.cells rfl _ hbound];exact ao
 ·cases ao
theorem Lm(ar:X.tt.ok X.P) {t:TypeId} {u:Operand} {g:Bool} {x bq:bf} (ax:o.op=.load t u) (hu:bm X st.L u=some (g,x)) (aL:g=true) (ad:AT X st t x=some (true,bq)):gT X st o bq:=by
 intro R W aG n ks env B ai H a bZ h;obtain⟨v,aB,az⟩:=h.aD hu aL;have aI:=h.bL;unfold AT at ad
 split at ad
 ·cases ad
 ·rename_i bj cP
  have hi:=(bV.get ar cP).bk
  split at ad
  ·rename_i U
   split at ad
   ·split at ad
    ·rename_i bO
     split at ad
     ·rename_i a7
      cases ad;obtain⟨b,he,rfl⟩:=az;obtain⟨dk,K,⟨b',vs,cI,rfl,gi⟩,aA⟩:=h.heap.fE bO;rw[he]at cI;cases cI;obtain⟨v,ah,au⟩:=gi.nth a7;exact⟨v,au,fun w gQ=>have ak:=gQ (by rw[ax]; rfl); rJ aI ax hi U aB (by rw[AE ak aA.more]; exact ah)⟩
     ·cases ad
    ·cases ad
   ·split at ad
    ·rename_i bO
     split at ad
     ·rename_i cQ a7
      simp only[Option.some.injEq,Prod.mk.injEq,decide_eq_true_eq]at ad;obtain⟨a8,rfl⟩:=ad;obtain⟨b,c,m,he,rfl⟩:=az;obtain⟨vs,ah,au⟩:=Ll h bO a8 he;obtain⟨v,aF,aY⟩:=bz.cell ah a7;have fM:=Nat.eq_of_beq_eq_true cQ;subst fM;exact⟨v,aY,fun w gQ=>have ak:=gQ (by rw[ax]; rfl); rJ aI ax hi U aB (au w ak _ _ aF)⟩
     ·cases ad
    ·cases ad
   ·split at ad
    ·rename_i a7
     cases ad;obtain⟨b,p,rfl,ae,vs,ah,au⟩:=az;obtain⟨v,aF,aY⟩:=bz.cell ah a7;exact⟨v,aY,fun w gQ=>have ak:=gQ (by rw[ax]; rfl); rJ aI ax hi U aB (AU ae (au _ _ aF) ak)⟩
    ·cases ad
   ·cases ad
  ·rename_i U
   split at ad
   ·split at ad
    ·rename_i bO
     split at ad
     ·rename_i a7
      cases ad;obtain⟨b,he,rfl⟩:=az;obtain⟨dk,K,⟨b',vs,cI,rfl,gi⟩,aA⟩:=h.heap.fE bO;rw[he]at cI;cases cI;obtain⟨us,⟨ah,au⟩,aF⟩:=gi.cut a7;exact⟨_,⟨us,rfl,aF⟩,fun w gQ=>have ak:=gQ (by rw[ax]; rfl); s3 aI ax hi U aB ah (fun j v aR=>by rw[AE ak aA.more]; exact au j v aR)⟩
     ·cases ad
    ·cases ad
   ·split at ad
    ·rename_i bO
     split at ad
     ·rename_i cQ a7
      simp only[Option.some.injEq,Prod.mk.injEq,decide_eq_true_eq]at ad;obtain⟨a8,rfl⟩:=ad;obtain⟨b,c,m,he,rfl⟩:=az;obtain⟨vs,ah,au⟩:=Ll h bO a8 he;obtain⟨us,⟨aF,aY⟩,bK⟩:=bz.cells ah a7;have fM:=Nat.eq_of_beq_eq_true cQ;subst fM;exact⟨_,⟨us,rfl,bK⟩,fun w gQ=>have ak:=gQ (by rw[ax]; rfl); s3 aI ax hi U aB aF (fun j v aR=>by rw[Nat.add_assoc]; exact au w ak _ _ (aY j v aR))⟩
     ·cases ad
    ·cases ad
   ·split at ad
    ·rename_i a7
     cases ad;obtain⟨b,p,rfl,ae,vs,ah,au⟩:=az;obtain⟨us,⟨aF,aY⟩,bK⟩:=bz.cells ah a7;exact⟨_,⟨us,rfl,bK⟩,fun w gQ=>have ak:=gQ (by rw[ax]; rfl); s3 aI ax hi U aB aF (fun j v aR=>by rw[Nat.add_assoc]; exact AU ae (au _ _ (aY j v aR)) ak)⟩
    ·cases ad
   ·cases ad
end
end
section
def Ew(X:br) (t:TypeId) (x:bf) (k:Nat):Option (Bool×bf):=
 match X.tt.find t with
 | some ⟨⟨.struct cX,_,_,_⟩,_⟩=>match nth cX.toList k with
  | some f=>match X.tt.find f.type with
   | some bj=>match Nat.blt 0 bj.bk.size,x with
    | true,.c (.ptr id o)=>some (true,.c (.ptr id (o+f.offset)))
    | true,.c (.dZ id cA i o)=>some (true,.c (.dZ id cA i (o+f.offset)))
    | true,.c (.fF g x o)=>some (true,.c (.fF g x (o+f.offset)))
    | _,_=>none
   | none=>none
  | none=>none
 | _=>none
def bl(z:Int) (n:Nat):Bool:=decide (0<=z)&&decide (z < (n:Int))
def Ex(X:br) (st:aM) (t:TypeId) (x:bf) (i:bf):Option (Bool×bf):=
 match X.tt.find t with
 | some ⟨⟨.slice e,_,_,_⟩,_⟩=>match X.tt.find e with
  | some bj=>match x,i with
   | .c (.bn g l _),.c (.val (.int _ z))=>match Nat.beq g.size bj.bk.size with
    | true=>some (bl z l.length,.c (.fF g (l.getD z.toNat g.zero) 0))
    | false=>none
   | .c (.an id),.c (.val (.int _ z))=>match aU st.H id with
    | some (.row _ g l _)=>match Nat.beq g.size bj.bk.size with
     | true=>some (bl z l.length,.c (.dZ id g.size z.toNat 0))
     | false=>none
    | some (.cC _ _ _ l _ _ _)=>match Nat.beq 1 bj.bk.size with
     | true=>some (bl z l.length,.c (.dZ id 1 z.toNat 0))
     | false=>none
    | some (.b5 _ _ _ l _ _)=>match Nat.beq 1 bj.bk.size with
     | true=>some (bl z l.length,.c (.dZ id 1 z.toNat 0))
     | false=>none
    | _=>none
   | _,_=>none
  | none=>none
 | some ⟨⟨.array m e,_,_,_⟩,_⟩=>match X.tt.find e with
  | some bj=>match x,i with
   | .c (.ptr id o),.c (.val (.int _ z))=>some (bl z m,.c (.ptr id (o+z.toNat * bj.bk.size)))
   | .c (.fF g x o),.c (.val (.int _ z))=>some (bl z m,.c (.fF g x (o+z.toNat * bj.bk.size)))
   | .c (.par g l),.c (.val (.int _ z))=>match Nat.beq g.size bj.bk.size with
    | true=>some (bl z m&&bl z l.length,.c (.fF g (l.getD z.toNat g.zero) 0))
    | false=>none
   | .c (.dZ id cA 0 0),.c (.val (.int _ z))=>match Nat.beq cA bj.bk.size with
    | true=>some (bl z m,.c (.dZ id cA z.toNat 0))
    | false=>none
   | .c (.gD id o),.c (.val (.int _ z))=>match Nat.beq bj.bk.size 1 with
    | true=>some (bl z m,.c (.dZ id 1 (o+z.toNat) 0))
    | false=>some (bl z m,.c (.gD id (o+z.toNat * bj.bk.size)))
   | _,_=>none
  | none=>none
 | _=>none
def Ey:Option Nat->Nat->Option Nat
 | some c,k=>some (c - k)
 | none,_=>none
def vf(X:br) (t:TypeId) (x:bf) (lo hi xz:Option bf):Option (Bool×bf):=
 match X.tt.find t with
 | some ⟨⟨.slice e,_,_,_⟩,_⟩=>match X.tt.find e with
  | some bj=>match x with
   | .c (.bn g l cap)=>match Nat.beq g.size bj.bk.size with
    | true=>match lo,hi,xz with
     | some (.c (.val (.int _ z))),none,none=>some (decide (0<=z)&&decide (z<=(l.length:Int)),.c (.bn g (l.drop z.toNat) (Ey cap z.toNat)))
     | none,some (.c (.val (.int _ y))),none=>some (decide (0<=y)&&decide (y<=(l.length:Int)),.c (.bn g (l.take y.toNat) cap))
     | some (.c (.val (.int _ z))),some (.c (.val (.int _ y))),none=>some (decide (0<=z)&&decide (z<=y)&&decide (y<=(l.length:Int)),.c (.bn g ((l.take y.toNat).drop z.toNat) (Ey cap z.toNat)))
     | none,some (.c (.val (.int _ y))),some (.c (.val (.int _ q)))=>some (decide (0<=y)&&decide (y<=q)&&decide (q<=(l.length:Int)),.c (.bn g (l.take y.toNat) (some q.toNat)))
     | _,_,_=>none
    | false=>none
   | _=>none
  | none=>none
 | _=>none
def Ez(X:br) (st:aM) (t:TypeId) (x:bf):Option (Bool×bf):=
 match X.tt.find t with
 | some ⟨⟨.slice _,_,_,_⟩,_⟩=>match x with
  | .c (.bn _ l _)=>some (true,.c (.val (.int .i64 (l.length:Int))))
  | .c (.an id)=>match aU st.H id with
   | some (.row _ _ l _)=>some (true,.c (.val (.int .i64 (l.length:Int))))
   | some (.cC _ _ _ l _ _ _)=>some (true,.c (.val (.int .i64 (l.length:Int))))
   | some (.fk _ _ l)=>some (true,.c (.val (.int .i64 (l.length:Int))))
   | some (.b5 _ _ _ l _ _)=>some (true,.c (.val (.int .i64 (l.length:Int))))
   | _=>none
  | .c (.val (.slice none 0 0))=>some (true,.c (.val (.int .i64 0)))
  | _=>none
 | some ⟨⟨.string,_,_,_⟩,_⟩=>match x with
  | .c (.str s)=>some (true,.c (.val (.int .i64 (s.length:Int))))
  | _=>none
 | _=>none
def EA(X:br) (t:TypeId) (x:bf):Option (Bool×bf):=
 match X.tt.find t with
 | some ⟨⟨.slice _,_,_,_⟩,_⟩=>match x with
  | .c (.bn _ _ c)=>some (c.isSome,.c (.val (.int .i64 ((c.getD 0:Nat):Int))))
  | .c (.val (.slice none 0 0))=>some (true,.c (.val (.int .i64 0)))
  | _=>none
 | _=>none
def EB(X:br) (t bQ:TypeId) (x:bf):Option (Bool×bf):=
 match X.tt.find t,X.tt.find bQ with
 | some _,some ⟨⟨.int k',_,_,_⟩,_⟩=>match x with
  | .c (.val (.int _ z))=>match mJ k' z with
   | (c,r)=>some (c,.c (.val (.int k' r)))
  | _=>none
 | some _,some ⟨⟨.string,_,_,_⟩,_⟩=>match x with
  | .c (.str s)=>some (true,.c (.str s))
  | _=>none
 | _,_=>none
section
variable {X:br} {R:Nat->Prop} {W:World} {aG:eX} {n:Nat} {ks:List Nat} {env:Nat->Loc} {B:Nat->Prop} {ai:World} {H:List bb} {st:aM} {a:Act} {w bZ:World} {o:Oper}
theorem EC{α:Type}:∀ {l:List α} {k:Nat} {x:α},nth l k=some x->l[k]?=some x
 | [],_,_,h=>by cases h
 | _ :: _,0,_,h=>h
 | _ :: r,k+1,_,h=>by rw[List.getElem?_cons_succ]; exact EC (l:=r) h
theorem TD(ar:X.tt.ok X.P) {t:TypeId} {u:Operand} {g:Bool} {x bq:bf} {k:Nat} (ax:o.op=.fieldAddr t u k) (hu:bm X st.L u=some (g,x)) (aL:g=true) (ad:Ew X t x k=some (true,bq)):gT X st o bq:=by
 intro R W aG n ks env B ai H a bZ h;obtain⟨v,aB,az⟩:=h.aD hu aL;have aI:=h.bL;unfold Ew at ad
 split at ad
 ·rename_i cX s b z kc aA
  split at ad
  ·rename_i f ab
   split at ad
   ·rename_i bj cP
    obtain⟨T,bE,J,au⟩:=mG (bV.get ar aA).bk (bV.get ar cP).bk;have ah:cX[k]?=some ⟨f.name,f.type,f.offset,f.embedded,f.tag,f.pkgPath,f.byteOffset⟩:=by have:=EC ab; simpa using this
    split at ad
    ·rename_i aF
     cases ad;obtain⟨b,he,rfl⟩:=az;exact⟨_,⟨b,he,rfl⟩,fun w _=>Ej aI ax bE J rfl ah au aF aB w⟩
    ·rename_i aF
     cases ad;obtain⟨b,c,m,he,rfl⟩:=az;exact⟨_,⟨b,c,m,he,rfl⟩,fun w _=>by have:=Ej aI ax bE J rfl ah au aF aB w; rw[Nat.add_assoc]at this; exact this⟩
    ·rename_i aF
     cases ad;obtain⟨b,p,rfl,iq⟩:=az;exact⟨_,⟨b,p,rfl,iq⟩,fun w _=>by have:=Ej aI ax bE J rfl ah au aF aB w; rw[Nat.add_assoc]at this; exact this⟩
    ·cases ad
   ·cases ad
  ·cases ad
 ·cases ad
theorem kU{z:Int} {n:Nat} (h:bl z n=true):∃ j:Nat,z=(j:Int)/\j < n/\z.toNat=j:=by
 simp only[bl,Bool.and_eq_true,decide_eq_true_eq]at h;exact⟨z.toNat,by omega,by omega,rfl⟩
theorem Ln(g:aQ) (l:List g.D) {xs:List Value} (aA:Flat (bz B ai g) l xs) {b p j:Nat} (ae:B b) (aa:∀ i u,xs[i]?=some u->ai.cell? ⟨b,p+i,none⟩=some u) (aR:j < l.length):At B ai g (l.getD j g.zero) b (p+j * g.size):=by
 have aj:l[j]?=some (l.getD j g.zero):=by rw[List.getD_eq_getElem?_getD,List.getElem?_eq_getElem aR]; rfl
 have J:=Flat.get (fun _ _=>bz.length) aA aj;refine⟨ae,_,J,fun q v ao=>?_⟩;rw[List.getElem?_take]at ao
 split at ao
 ·rw[List.getElem?_drop]at ao
  rw[Nat.add_assoc];exact aa _ _ ao
 ·cases ao
theorem TE(ar:X.tt.ok X.P) {t:TypeId} {u y:Operand} {g g':Bool} {x i bq:bf} (ax:o.op=.indexAddr t u y) (hu:bm X st.L u=some (g,x)) (aL:g=true) (aT:bm X st.L y=some (g',i)) (fm:g'=true) (ad:Ex X st t x i=some (true,bq)):gT X st o bq:=by
 intro R W aG n ks env B ai H a bZ h;obtain⟨v,aB,az⟩:=h.aD hu aL;obtain⟨eU,gV,iL⟩:=h.aD aT fm;have aI:=h.bL;unfold Ex at ad
 split at ad
 ·rename_i e s b z kc aA
  split at ad
  ·rename_i bj cP
   obtain⟨T,bE,J,au⟩:=mG (bV.get ar aA).bk (bV.get ar cP).bk
   split at ad
   ·rename_i g l cap k z
    split at ad
    ·rename_i cQ
     simp only[Option.some.injEq,Prod.mk.injEq]at ad;obtain⟨ae,rfl⟩:=ad;obtain⟨j,rfl,aR,iM⟩:=kU ae;obtain⟨A,c,xs,rfl,ka,iu,_,cv,gU⟩:=az;rw[show eU=_ from iL]at gV;have kV:0 < l.length:=by omega
     obtain⟨b,p,rfl,ir⟩:=gU.1.2 kV;have bT:=gU.2 b p kV rfl;rw[iM];refine⟨_,⟨b,p+j * g.size,rfl,Ln g l cv bT ir aR⟩,fun w _=>?_⟩
     have:=AD aI ax bE J rfl au aB gV rfl aR w
     rw[<- Nat.eq_of_beq_eq_true cQ]at this;exact this
    ·cases ad
   ·rename_i id k z
    split at ad
    ·rename_i t2 g l cap bO
     split at ad
     ·rename_i cQ
      simp only[Option.some.injEq,Prod.mk.injEq]at ad;obtain⟨ae,rfl⟩:=ad;obtain⟨j,rfl,aR,iM⟩:=kU ae;obtain⟨A,c,m,he,rfl⟩:=az;rw[show eU=_ from iL]at gV;obtain⟨dk,K,⟨b9,k',xs,cI,rfl,cv,_⟩,dV⟩:=h.heap.fE bO;rw[he]at cI;cases cI;obtain⟨b,rfl⟩:=h.aJ.rowAt dV.more (by omega);rw[iM];refine⟨_,⟨b,_,_,he,rfl⟩,fun w _=>?_⟩
      have:=AD aI ax bE J rfl au aB gV rfl aR w
      rw[<- Nat.eq_of_beq_eq_true cQ,Nat.zero_add]at this;exact this
     ·cases ad
    ·rename_i t2 g l cap cV dU bO
     split at ad
     ·rename_i cQ
      simp only[Option.some.injEq,Prod.mk.injEq]at ad;obtain⟨ae,rfl⟩:=ad;obtain⟨j,rfl,aR,iM⟩:=kU ae;obtain⟨A,c,m,he,rfl⟩:=az;rw[show eU=_ from iL]at gV;obtain⟨dk,K,⟨b9,k',ys,cY,cF,m2,cI,rfl,cv,_⟩,dV⟩:=h.heap.fE bO;rw[he]at cI;cases cI;obtain⟨b,rfl⟩:=h.aJ.rowAt dV.more (by omega);rw[iM];refine⟨_,⟨b,_,_,he,rfl⟩,fun w _=>?_⟩
      have:=AD aI ax bE J rfl au aB gV rfl aR w
      rw[<- Nat.eq_of_beq_eq_true cQ,Nat.zero_add]at this;exact this
     ·cases ad
    ·rename_i t2 t3 g l cap cV bO
     split at ad
     ·rename_i cQ
      simp only[Option.some.injEq,Prod.mk.injEq]at ad;obtain⟨ae,rfl⟩:=ad;obtain⟨j,rfl,aR,iM⟩:=kU ae;obtain⟨A,c,m,he,rfl⟩:=az;rw[show eU=_ from iL]at gV;obtain⟨dk,K,⟨b9,k',ys,cT,I,cI,rfl,_⟩,dV⟩:=h.heap.fE bO;rw[he]at cI;cases cI;obtain⟨b,rfl⟩:=ew.at ((h.aJ.ok _ dV.more.mem).1 _ List.mem_cons_self) (by show 0 < l.length; omega);rw[iM];refine⟨_,⟨b,_,_,he,rfl⟩,fun w _=>?_⟩
      have:=AD aI ax bE J rfl au aB gV rfl aR w
      rw[<- Nat.eq_of_beq_eq_true cQ,Nat.zero_add]at this;exact this
     ·cases ad
    ·cases ad
   ·cases ad
  ·cases ad
 ·rename_i m e s b z kc aA
  split at ad
  ·rename_i bj cP
   obtain⟨T,bE,J,au⟩:=mG (bV.get ar aA).bk (bV.get ar cP).bk
   split at ad
   ·rename_i id p k z
    simp only[Option.some.injEq,Prod.mk.injEq]at ad;obtain⟨ae,rfl⟩:=ad;obtain⟨j,rfl,aR,iM⟩:=kU ae;obtain⟨b,he,rfl⟩:=az;rw[show eU=_ from iL]at gV;rw[iM];exact⟨_,⟨b,he,rfl⟩,fun w _=>ve aI ax bE J rfl au aB gV rfl aR rfl w⟩
   ·rename_i g x p k z
    simp only[Option.some.injEq,Prod.mk.injEq]at ad;obtain⟨ae,rfl⟩:=ad;obtain⟨j,rfl,aR,iM⟩:=kU ae;obtain⟨b,q,rfl,iq⟩:=az;rw[show eU=_ from iL]at gV;rw[iM];exact⟨_,⟨b,q,rfl,iq⟩,fun w _=>ve aI ax bE J rfl au aB gV rfl aR (by omega) w⟩
   ·rename_i g l k z
    split at ad
    ·rename_i cQ
     simp only[Option.some.injEq,Prod.mk.injEq,Bool.and_eq_true]at ad;obtain⟨⟨kW,ae⟩,rfl⟩:=ad;obtain⟨j,rfl,aR,iM⟩:=kU ae;obtain⟨jv,TF,l3,_⟩:=kU kW;obtain⟨b,p,vs,rfl,bT,cv,ir⟩:=az;rw[show eU=_ from iL]at gV;rw[iM];refine⟨_,⟨b,p+j * g.size,rfl,Ln g l cv bT ir aR⟩,fun w _=>?_⟩;exact ve aI ax bE J rfl au aB gV rfl (by omega) (by rw[Nat.eq_of_beq_eq_true cQ]; rfl) w
    ·cases ad
   ·rename_i id cA k z
    split at ad
    ·rename_i cQ
     simp only[Option.some.injEq,Prod.mk.injEq]at ad;obtain⟨ae,rfl⟩:=ad;obtain⟨j,rfl,aR,iM⟩:=kU ae;obtain⟨b,c,q,he,rfl⟩:=az;rw[show eU=_ from iL]at gV;rw[iM];exact⟨_,⟨b,c,q,he,rfl⟩,fun w _=>ve aI ax bE J rfl au aB gV rfl aR (by rw[Nat.eq_of_beq_eq_true cQ]; simp) w⟩
    ·cases ad
   ·rename_i id p k z
    split at ad
    ·rename_i cQ
     simp only[Option.some.injEq,Prod.mk.injEq]at ad;obtain⟨ae,rfl⟩:=ad;obtain⟨j,rfl,aR,iM⟩:=kU ae;obtain⟨b,c,q,he,rfl⟩:=az;rw[show eU=_ from iL]at gV;rw[iM];have rK:=Nat.eq_of_beq_eq_true cQ;exact⟨_,⟨b,c,q,he,rfl⟩,fun w _=>ve aI ax bE J rfl au aB gV rfl aR (by rw[rK]; omega) w⟩
    ·simp only[Option.some.injEq,Prod.mk.injEq]at ad
     obtain⟨ae,rfl⟩:=ad;obtain⟨j,rfl,aR,iM⟩:=kU ae;obtain⟨b,c,q,he,rfl⟩:=az;rw[show eU=_ from iL]at gV;rw[iM];exact⟨_,⟨b,c,q,he,rfl⟩,fun w _=>ve aI ax bE J rfl au aB gV rfl aR rfl w⟩
   ·cases ad
  ·cases ad
 ·cases ad
theorem Flat.cut{g:aQ} {l:List g.D} {xs:List Value} (aA:Flat (bz B ai g) l xs) (lo hi:Nat):Flat (bz B ai g) ((l.take hi).drop lo) ((xs.drop (lo * g.size)).take ((hi - lo) * g.size)):=by
 have J:=(Flat.split (fun _ _=>bz.length) hi aA).1;have U:=(Flat.split (fun _ _=>bz.length) lo J).2;have e:(xs.take (hi * g.size)).drop (lo * g.size)=(xs.drop (lo * g.size)).take ((hi - lo) * g.size):=by
  rw[List.drop_take,Nat.sub_mul]
 rw[e]at U;exact U
theorem mE.cut{A:Option Addr} {m size l h c:Nat} {xs:List Value} (az:mE B ai A m size xs) (ad:l<=h) (cn:h<=m) (aa:h<=c):mE B ai (iY A l size c) (h - l) size ((xs.drop (l * size)).take ((h - l) * size)):=by
 refine⟨az.1.cut ad cn aa,fun b p aq e=>?_⟩;obtain⟨oO,Lo,rfl,_⟩:=az.1.2 (by omega);unfold iY at e
 split at e
 ·cases e; exact az.2 _ _ (by omega) rfl
 ·simp only[Option.map_some,Option.some.injEq,Addr.add_lit]at e
  cases e;exact az.2 _ _ (by omega) rfl
theorem Lp{g:aQ} {l:List g.D} {A:Option Addr} {c:Nat} {xs:List Value} {cap:Option Nat} (cv:Flat (bz B ai g) l xs) (gU:mE B ai A l.length g.size xs) (iu:c<=maxLen) (lo hi q:Nat) (J:lo<=hi) (U:hi<=l.length) (ah:hi<=q) (au:q<=c) (fc:∀ k,cap=some k->q - lo=k) :
  dv env B ai (.bn g ((l.take hi).drop lo) cap) (.slice (iY A lo g.size q) (hi - lo) (q - lo)):=by
 have hlen:((l.take hi).drop lo).length=hi - lo:=by simp; omega
 refine⟨_,q - lo,_,by rw[hlen],by rw[hlen]; omega,by omega,fc,cv.cut lo hi,?_⟩;rw[hlen];exact gU.cut J U ah
theorem AV(ar:X.tt.ok X.P) {t:TypeId} {u:Operand} {lo hi xz:Option Operand} {g:Bool} {x bq:bf} {ED EE EF:Option bf} (ax:o.op=.slice t u lo hi xz) (hu:bm X st.L u=some (g,x)) (aL:g=true)
  (Lq:∀ s,ED=some s->∃ y,lo=some y/\∃ g',bm X st.L y=some (g',s)/\g'=true) (Lr:ED=none->lo=none) (EG:∀ s,EE=some s->∃ y,hi=some y/\∃ g',bm X st.L y=some (g',s)/\g'=true) (TG:EE=none->hi=none)
  (TH:∀ s,EF=some s->∃ y,xz=some y/\∃ g',bm X st.L y=some (g',s)/\g'=true) (EH:EF=none->xz=none) (ad:vf X t x ED EE EF=some (true,bq)):gT X st o bq:=by
 intro R W aG n ks env B ai H a bZ h;obtain⟨v,aB,az⟩:=h.aD hu aL;have aI:=h.bL;unfold vf at ad
 split at ad
 ·rename_i e s b z kc aA
  split at ad
  ·rename_i bj cP
   obtain⟨T,bE,J,au⟩:=mG (bV.get ar aA).bk (bV.get ar cP).bk
   split at ad
   ·rename_i g l cap
    obtain⟨A,c,xs,rfl,ka,iu,fc,cv,gU⟩:=az
    split at ad
    ·rename_i cQ
     have fM:=Nat.eq_of_beq_eq_true cQ
     split at ad
     ·rename_i k z
      simp only[Option.some.injEq,Prod.mk.injEq,Bool.and_eq_true,decide_eq_true_eq]at ad;obtain⟨⟨qt,qu⟩,rfl⟩:=ad;obtain⟨y,rfl,g',aT,fm⟩:=Lq _ rfl;rw[TG rfl,EH rfl]at ax;obtain⟨eU,gV,iL⟩:=h.aD aT fm;rw[show eU=_ from iL]at gV;refine⟨_,?_,fun w _=>K0 aI ax bE J rfl au aB gV (l:=z.toNat) (by omega) (by omega) w⟩;rw[<- fM]
      have:=Lp (env:=env) (cap:=Ey cap z.toNat) cv gU iu z.toNat l.length c (by omega) (Nat.le_refl _) ka (Nat.le_refl _) (by
       intro k ab;cases cap with
       | none=>cases ab
       | some c'=>have:=fc c' rfl; cases ab; rw[this])
      rw[List.take_length]at this;exact this
     ·rename_i k y
      simp only[Option.some.injEq,Prod.mk.injEq,Bool.and_eq_true,decide_eq_true_eq]at ad;obtain⟨⟨qt,qu⟩,rfl⟩:=ad;obtain⟨q,rfl,g',aT,fm⟩:=EG _ rfl;rw[Lr rfl,EH rfl]at ax;obtain⟨eU,gV,iL⟩:=h.aD aT fm;rw[show eU=_ from iL]at gV;refine⟨_,?_,fun w _=>S2 aI ax bE J rfl au aB gV (h:=y.toNat) (by omega) (by omega) w⟩;have hlen:(l.take y.toNat).length=y.toNat:=by simp; omega
      have aF:=cv.cut 0 y.toNat;have aY:=gU.1.cut (l:=0) (h:=y.toNat) (c:=c) (by omega) (by omega) (by omega);have ag:iY A 0 g.size c=A:=by
       unfold iY
       split
       ·rfl
       ·cases A with
        | none=>rfl
        | some rC=>simp[Addr.add]
      rw[ag]at aY;refine⟨A,c,_,by rw[hlen],by rw[hlen]; omega,iu,fc,by simpa using aF,?_⟩;rw[hlen];refine⟨by simpa using aY,fun b p aq e=>gU.2 b p (by omega) e⟩
     ·rename_i k z k' y
      simp only[Option.some.injEq,Prod.mk.injEq,Bool.and_eq_true,decide_eq_true_eq]at ad;obtain⟨⟨⟨qt,qu⟩,l4⟩,rfl⟩:=ad;obtain⟨q,rfl,g',aT,fm⟩:=Lq _ rfl;obtain⟨aiC,rfl,TI,iN,EI⟩:=EG _ rfl;rw[EH rfl]at ax;obtain⟨eU,gV,iL⟩:=h.aD aT fm;rw[show eU=_ from iL]at gV;obtain⟨EJ,xA,EK⟩:=h.aD iN EI;rw[show EJ=_ from EK]at xA;refine⟨_,?_,fun w _=>S3 aI ax bE J rfl au aB gV xA (l:=z.toNat) (h:=y.toNat) (by omega) (by omega) (by omega) (by omega) w⟩;rw[<- fM];exact Lp (env:=env) cv gU iu z.toNat y.toNat c (by omega) (by omega) (by omega) (Nat.le_refl _) (by
       intro k ab;cases cap with
       | none=>cases ab
       | some c'=>have:=fc c' rfl; cases ab; rw[this])
     ·rename_i k y k' q
      simp only[Option.some.injEq,Prod.mk.injEq,Bool.and_eq_true,decide_eq_true_eq]at ad;obtain⟨⟨⟨qt,qu⟩,l4⟩,rfl⟩:=ad;obtain⟨cV,rfl,g',aT,fm⟩:=EG _ rfl;obtain⟨dU,rfl,TI,iN,EI⟩:=TH _ rfl;rw[Lr rfl]at ax;obtain⟨eU,gV,iL⟩:=h.aD aT fm;rw[show eU=_ from iL]at gV;obtain⟨EJ,xA,EK⟩:=h.aD iN EI;rw[show EJ=_ from EK]at xA;refine⟨_,?_,fun w _=>Lc aI ax bE J rfl au aB gV xA (h:=y.toNat) (q:=q.toNat) (by omega) (by omega) (by omega) (by omega) w⟩;have hlen:(l.take y.toNat).length=y.toNat:=by simp; omega
      have aF:=cv.cut 0 y.toNat;have aY:=gU.1.cut (l:=0) (h:=y.toNat) (c:=c) (by omega) (by omega) (by omega);have ag:iY A 0 g.size c=A:=by
       unfold iY
       split
       ·rfl
       ·cases A with
        | none=>rfl
        | some rC=>simp[Addr.add]
      rw[ag]at aY;refine⟨A,q.toNat,_,by rw[hlen],by rw[hlen]; omega,by omega,(fun _ ab=>by cases ab; rfl),by simpa using aF,?_⟩;rw[hlen];refine⟨by simpa using aY,fun b p aq e=>gU.2 b p (by omega) e⟩
     ·cases ad
    ·cases ad
   ·cases ad
  ·cases ad
 ·cases ad
end
end
def n1:List ba->Nat->List ba->Option (List ba)
 | l,0,[]=>some l
 | _ :: l,0,v :: vs=>match n1 l 0 vs with
  | some r=>some (v :: r)
  | none=>none
 | c :: l,k+1,vs=>match n1 l k vs with
  | some r=>some (c :: r)
  | none=>none
 | [],_,_=>none
def bf.cells:bf->List ba
 | .c x=>[x]
 | .agg cs=>cs
 | .arr g l=>List.replicate (l.length * g.size) .dead
def ba.live:ba->Bool
 | .dead=>false
 | .val v=>v.oneCell'
 | _=>true
def l5:List ba->Bool
 | []=>true
 | c :: r=>c.live&&l5 r
def fieldAt(X:br):List Field->Nat->Option (Nat×Nat)
 | cX,k=>match nth cX k with
  | some f=>match X.tt.find f.type with
   | some bj=>some (f.offset,bj.bk.size)
   | none=>none
  | none=>none
def qv(X:br) (L:cL) (pl:Nat->Option (Nat×Nat)):List (Nat×Operand)->Bool->List ba->Option (Bool×List ba)
 | [],c,z=>some (c,z)
 | (k,u) :: r,c,z=>match pl k,bm X L u with
  | some (off,size),some (g,x)=>match Nat.beq x.cells.length size,l5 x.cells,n1 z off x.cells with
   | true,true,some nZ=>qv X L pl r (c&&g) nZ
   | _,_,_=>none
  | _,_=>none
def AW(X:br):List Field->Bool
 | []=>true
 | f :: r=>(X.tt.find f.type).isSome&&AW X r
def EL(X:br) (L:cL) (t:TypeId) (ps:List (Nat×Operand)):Option (Bool×bf):=
 match X.tt.find t with
 | some ⟨⟨.struct cX,_,_,.agg z⟩,_⟩=>match AW X cX.toList with
  | true=>match qv X L (fieldAt X cX.toList) ps true (rI z.toList)with
   | some (c,r)=>some (c,.agg r)
   | none=>none
  | false=>none
 | some ⟨⟨.array _ e,_,_,.agg z⟩,_⟩=>match X.tt.find e with
  | some bj=>match qv X L (fun i=>some (i * bj.bk.size,bj.bk.size)) ps true (rI z.toList)with
   | some (c,r)=>some (c,.agg r)
   | none=>none
  | none=>none
 | _=>none
def xB(b:Bool):bf->bf->Option bf
 | .c (.val (.int k x)),.c (.val (.int k' y))=>match decide (k=k')with
  | true=>some (.c (.val (.int k (cond b x y))))
  | false=>none
 | .c (.val (.bool x)),.c (.val (.bool y))=>some (.c (.val (.bool (cond b x y))))
 | .c (.str x),.c (.str y)=>some (.c (.str (cond b x y)))
 | _,_=>none
def fH(X:br) (L:cL):List Operand->Option (List e6)
 | []=>some []
 | u :: r=>match bm X L u,fH X L r with
  | some (true,.c (.ptr id 0)),some l=>some (.id id :: l)
  | some (true,.c (.fF g x 0)),some l=>some (.eS g x :: l)
  | _,_=>none
def s5(isMax:Bool) (k:IntKind) (acc:Int) (X:br) (L:cL):List Operand->Bool->Option (Bool×ba)
 | [],c=>some (c,.val (.int k acc))
 | u :: r,c=>match bm X L u with
  | some (g,.c (.val (.int k' y)))=>match decide (k=k'),isMax with
   | true,true=>s5 true k (if acc < y then y else acc) X L r (c&&g)
   | true,false=>s5 false k (if y < acc then y else acc) X L r (c&&g)
   | false,_=>none
  | _=>none
def s6(X:br) (st:aM):Op->Option (Bool×bf)
 | .move u=>bm X st.L u
 | .assign u=>bm X st.L u
 | .pick c u v=>match bm X st.L c,bm X st.L u,bm X st.L v with
  | some (gc,.c (.val (.bool b))),some (xC,x),some (aZ,y)=>match xB b x y with
   | some r=>some (gc&&(!b || xC)&&(b || aZ),r)
   | none=>none
  | _,_,_=>none
 | .unOp .not _ u=>match bm X st.L u with
  | some (g,.c (.val (.bool b)))=>some (g,.c (.val (.bool (!b))))
  | _=>none
 | .unOp .neg _ u=>match bm X st.L u with
  | some (g,.c (.val (.int k x)))=>match mJ k (0 - x)with
   | (c,z)=>some (g&&c,.c (.val (.int k z)))
  | _=>none
 | .binOp op t u v _=>match bm X st.L u,bm X st.L v with
  | some (g,x),some (g',y)=>match Ev X op t x y with
   | some (c,r)=>some (g&&g'&&c,.c r)
   | none=>none
  | _,_=>none
 | .load t u=>match bm X st.L u with
  | some (g,x)=>match AT X st t x with
   | some (c,r)=>some (g&&c,r)
   | none=>none
  | none=>none
 | .fieldAddr t u k=>match bm X st.L u with
  | some (g,x)=>match Ew X t x k with
   | some (c,r)=>some (g&&c,r)
   | none=>none
  | none=>none
 | .indexAddr t u v=>match bm X st.L u,bm X st.L v with
  | some (g,x),some (g',y)=>match Ex X st t x y with
   | some (c,r)=>some (g&&g'&&c,r)
   | none=>none
  | _,_=>none
 | .slice t u none none none=>none
 | .slice t u (some l) none none=>match bm X st.L u,bm X st.L l with
  | some (g,x),some (g1,l6)=>match vf X t x (some l6) none none with
   | some (c,r)=>some (g&&g1&&c,r)
   | none=>none
  | _,_=>none
 | .slice t u none (some l) none=>match bm X st.L u,bm X st.L l with
  | some (g,x),some (g1,l6)=>match vf X t x none (some l6) none with
   | some (c,r)=>some (g&&g1&&c,r)
   | none=>none
  | _,_=>none
 | .slice t u (some l) (some h) none=>match bm X st.L u,bm X st.L l,bm X st.L h with
  | some (g,x),some (g1,l6),some (g2,kX)=>match vf X t x (some l6) (some kX) none with
   | some (c,r)=>some (g&&g1&&g2&&c,r)
   | none=>none
  | _,_,_=>none
 | .slice t u none (some l) (some h)=>match bm X st.L u,bm X st.L l,bm X st.L h with
  | some (g,x),some (g1,l6),some (g2,kX)=>match vf X t x none (some l6) (some kX)with
   | some (c,r)=>some (g&&g1&&g2&&c,r)
   | none=>none
  | _,_,_=>none
 | .convert t bQ u=>match bm X st.L u with
  | some (g,x)=>match EB X t bQ x with
   | some (c,r)=>some (g&&c,r)
   | none=>none
  | none=>none
 | .build t ps=>EL X st.L t ps.toList
 | .makeFunc (.func f) ⟨[]⟩ cs=>match fH X st.L cs.toList with
  | some ids=>some (true,.c (.fn f ids))
  | none=>none
 | .makeFunc (.func f) ⟨[u]⟩ ⟨[]⟩=>match bm X st.L u with
  | some (true,.c (.ptr id 0))=>some (true,.c (.iA f id))
  | _=>none
 | .nilCheck u=>match bm X st.L u with
  | some (g,.c (.ptr id o))=>some (g,.c (.ptr id o))
  | some (g,.c (.dZ id s i o))=>some (g,.c (.dZ id s i o))
  | some (g,.c (.fF t x o))=>some (g,.c (.fF t x o))
  | some (g,.c (.par t x))=>some (g,.c (.par t x))
  | _=>none
 | .extract (.tmp s) k=>match aU st.L s with
  | some (.da vs)=>match nth vs k with
   | some x=>some (true,x)
   | none=>none
  | _=>none
 | .call ⟨.builtin .len,⟨[u]⟩,⟨[t]⟩⟩=>match bm X st.L u with
  | some (g,x)=>match Ez X st t x with
   | some (c,r)=>some (g&&c,r)
   | none=>none
  | none=>none
 | .call ⟨.builtin .cap,⟨[u]⟩,⟨[t]⟩⟩=>match bm X st.L u with
  | some (g,x)=>match EA X t x with
   | some (c,r)=>some (g&&c,r)
   | none=>none
  | none=>none
 | .call ⟨.builtin .min,⟨u :: r⟩,_⟩=>match bm X st.L u with
  | some (g,.c (.val (.int k x)))=>match s5 false k x X st.L r g with
   | some (c,y)=>some (c,.c y)
   | none=>none
  | _=>none
 | .call ⟨.builtin .max,⟨u :: r⟩,_⟩=>match bm X st.L u with
  | some (g,.c (.val (.int k x)))=>match s5 true k x X st.L r g with
   | some (c,y)=>some (c,.c y)
   | none=>none
  | _=>none
 | .index t u v=>match X.tt.find t with
  | some ⟨⟨.string,_,_,_⟩,_⟩=>match bm X st.L u,bm X st.L v with
   | some (g,.c (.str s)),some (g',.c (.val (.int _ z)))=>some (g&&g'&&bl z s.length,.c (.val (.int .u8 ((s.getD z.toNat 0).toNat:Int))))
   | _,_=>none
  | _=>none
 | _=>none
section
section
variable {X:br} {R:Nat->Prop} {W:World} {aG:eX} {n:Nat} {ks:List Nat} {env:Nat->Loc} {B:Nat->Prop} {ai:World} {H:List bb} {st:aM} {a:Act} {w bZ:World} {o:Oper}
theorem xD:∀ {cs:List ba} {vs:List Value} {k:Nat} {xs:List ba} {us:List Value} {r:List ba},cd env B w cs vs->cd env B w xs us->n1 cs k xs=some r->∃ rs,kB vs k us rs/\cd env B w r rs
 | cs,vs,0,[],us,r,J,U,h=>by
  have e:us=[]:=U;subst e;cases cs with
  | nil=>simp only[n1,Option.some.injEq]at h; subst h; exact⟨vs,.nil,J⟩
  | cons c cs=>simp only[n1,Option.some.injEq]at h; subst h; exact⟨vs,.nil,J⟩
 | c :: cs,vs,0,x :: xs,us,r,⟨v,TJ,e,_,J⟩,⟨u,aiD,aW,U,ah⟩,h=>by
  simp only[n1]at h
  split at h
  ·rename_i q ao
   cases h;obtain⟨rs,au,aF⟩:=xD J ah ao;subst e; subst aW;exact⟨u :: rs,.cons au,u,rs,rfl,U,aF⟩
  ·cases h
 | c :: cs,vs,k+1,xs,us,r,⟨v,TJ,e,aN,J⟩,U,h=>by
  simp only[n1]at h
  split at h
  ·rename_i q ao
   cases h;obtain⟨rs,au,aF⟩:=xD J U ao;subst e;exact⟨v :: rs,.skip au,v,rs,rfl,aN,aF⟩
  ·cases h
 | [],_,0,_ :: _,_,_,_,_,h=>by simp[n1]at h
 | [],_,_+1,_,_,_,_,_,h=>by simp[n1]at h
theorem cd.Ls:∀ vs:List Value,cd env B w (List.replicate vs.length .dead) vs
 | []=>rfl
 | v :: r=>⟨v,r,rfl,trivial,cd.Ls r⟩
theorem dI.cells:∀ {x:bf} {v:Value},dI env B w x v->(∀ c,x=.c c->v.oneCell'=true)->cd env B w x.cells v.cells.toList
 | .c x,v,h,a6=>by
  have aB:=a6 x rfl;have TK:v.cells=#[v]:=by cases v<;>first | rfl | (simp[Value.oneCell']at aB)
  rw[TK];exact⟨v,[],rfl,h,rfl⟩
 | .agg cs,v,⟨vs,e,h⟩,_=>by subst e; simpa [Value.cells,bf.cells] using h
 | .arr g l,v,⟨vs,e,h⟩,_=>by
  subst e;have J:=cd.Ls (env:=env) (B:=B) (w:=w) vs;rw[bz.jq h]at J
  simpa [Value.cells,bf.cells] using J
theorem dv.one:∀ {c:ba} {v:Value},c.live=true->dv env B w c v->v.oneCell'=true
 | .val _,_,h,e=>by rw[show _=_ from e]; exact h
 | .str _,_,_,e=>by rw[show _=eP _ from e]; rfl
 | .dead,_,h,_=>by cases h
 | .ptr _ _,_,_,⟨_,_,e⟩=>by rw[e]; rfl
 | .dZ _ _ _ _,_,_,⟨_,_,_,_,e⟩=>by rw[e]; rfl
 | .fF _ _ _,_,_,⟨_,_,e,_⟩=>by rw[e]; rfl
 | .par _ _,_,_,⟨_,_,_,e,_⟩=>by rw[e]; rfl
 | .an _,_,_,⟨_,_,_,_,e⟩=>by rw[e]; rfl
 | .bn _ _ _,_,_,⟨_,_,_,e,_⟩=>by rw[e]; rfl
 | .fn _ _,_,_,⟨_,e,_⟩=>by rw[e]; rfl
 | .cp _,_,_,⟨_,_,e⟩=>by rw[e]; rfl
 | .iA _ _,_,_,⟨_,_,e⟩=>by rw[e]; rfl
 | .gD _ _,_,_,⟨_,_,_,_,e⟩=>by rw[e]; rfl
 | .iB _ _ _,_,_,⟨_,_,_,_,_,e⟩=>by rw[e]; rfl
 | .iK _,_,_,⟨_,_,_,_,e⟩=>by rw[e]; rfl
 | .hK b _,_,_,⟨_,_,e⟩=>by rw[e]; cases b<;>rfl
theorem cd.iD:∀ {cs:List ba} {vs:List Value},l5 cs=true->cd env B w cs vs->∀ u∈vs,u.oneCell'=true
 | [],_,_,h,u,hu=>by rw[show _=[] from h]at hu; cases hu
 | c :: cs,_,ad,⟨v,r,e,J,U⟩,u,hu=>by
  simp only[l5,Bool.and_eq_true]at ad;subst e
  rcases List.mem_cons.1 hu with rfl | hu
  ·exact dv.one ad.1 J
  ·exact cd.iD ad.2 U u hu
theorem TL{P:Program} {o:Oper} {a:Act} {n:Nat} {D:List Deferred} {L:List (Nat×Value)} {f:Fn} {x:Operand} {v:Value} (aI:cW n D L a) (ax:o.op=.makeFunc f #[x] #[]) (aB:aD L x=some v):fb P o a (.func f #[v] #[]):=fun w=>by
 simp[execOp,ax,Instr.makeFunc,aI.aD aB]
theorem EM(h:bH X R W aG n ks env B ai H st a bZ):∀ {us:List Operand} {ids:List e6},fH X st.L us=some ids->∃ vs,iz (gl a) us=some vs/\e1 env B ai ids vs
 | [],ids,aa=>by cases aa; exact⟨[],rfl,rfl⟩
 | u :: us,ids,aa=>by
  simp only[fH]at aa
  split at aa
  ·rename_i id l hu ad
   cases aa;obtain⟨v,J,b,he,rfl⟩:=h.aD hu rfl;obtain⟨vs,U,ah⟩:=EM h ad;refine⟨_ :: vs,?_,_,vs,rfl,⟨b,he,rfl⟩,ah⟩;unfold iz;rw[J,U]
  ·rename_i g x l hu ad
   cases aa;obtain⟨v,J,b,o,rfl,iq⟩:=h.aD hu rfl;obtain⟨vs,U,ah⟩:=EM h ad;refine⟨_ :: vs,?_,_,vs,rfl,⟨b,o,rfl,iq⟩,ah⟩;unfold iz;rw[J,U]
   rfl
  ·cases aa
theorem AX(h:bH X R W aG n ks env B ai H st a bZ) {k:IntKind}:∀ {m:Bool} {us:List Operand} {acc:Int} {c:Bool} {b4:ba},s5 m k acc X st.L us c=some (true,b4) ->
  c=true/\∃ z,b4=.val (.int k z)/\∀ w,((us.map a.eval).foldlM (if m then Builtin.max2 else Builtin.min2) (.int k acc)).run X.P w=.ok (.int k z) w
 | m,[],acc,c,b4,hm=>by
  simp only[s5,Option.some.injEq,Prod.mk.injEq]at hm;obtain⟨rfl,rfl⟩:=hm;exact⟨rfl,acc,rfl,fun w=>by simp⟩
 | m,u :: us,acc,c,b4,hm=>by
  simp only[s5]at hm
  split at hm
  ·rename_i g k' y hu
   have oQ:k=k':=by
    split at hm
    ·rename_i ab; exact of_decide_eq_true ab
    ·rename_i ab; exact of_decide_eq_true ab
    ·cases hm
   subst oQ;rw[decide_eq_true rfl]at hm;cases m with
   | true=>
    obtain⟨aa,z,rfl,bG⟩:=AX (m:=true) h hm;simp only[Bool.and_eq_true]at aa;obtain⟨v,J,U⟩:=h.aD hu aa.2;have ah:=h.bL.aD J;rw[show v=_ from U]at ah;refine⟨aa.1,z,rfl,fun w=>?_⟩
    have:=bG w
    simp[ah,Builtin.max2]at this ⊢
    exact this
   | false=>
    obtain⟨aa,z,rfl,bG⟩:=AX (m:=false) h hm;simp only[Bool.and_eq_true]at aa;obtain⟨v,J,U⟩:=h.aD hu aa.2;have ah:=h.bL.aD J;rw[show v=_ from U]at ah;refine⟨aa.1,z,rfl,fun w=>?_⟩
    have:=bG w
    simp[ah,Builtin.min2]at this ⊢
    exact this
  ·cases hm
theorem Lt(ar:X.tt.ok X.P):∀ (cX:List Field),AW X cX=true->∃ l:List (Nat×Nat),(∀ w,(cX.mapM fun f=>Prod.mk f.offset <$> sizeOf f.type:Sem (List (Nat×Nat))).run X.P w=.ok l w)/\∀ k p,fieldAt X cX k=some p->l[k]?=some p
 | [],_=>⟨[],fun w=>by simp,fun k p h=>by simp[fieldAt,nth]at h⟩
 | f :: cX,lC=>by
  simp only[AW,Bool.and_eq_true]at lC;obtain⟨l,J,U⟩:=Lt ar cX lC.2;cases aA:X.tt.find f.type with
  | none=>rw[aA]at lC; simp at lC
  | some bj=>
   refine⟨(f.offset,bj.bk.size) :: l,fun w=>?_,fun k p h=>?_⟩
   ·simp[bC.run_sizeOf (bV.get ar aA).bk,J]
   ·cases k with
    | zero=>
     simp only[fieldAt,nth,aA,Option.some.injEq]at h
     simp[h]
    | succ k=>
     rw[List.getElem?_cons_succ];exact U k p (by simpa [fieldAt,nth] using h)
theorem TM{pl:Nat->Option (Nat×Nat)}:∀ (ps:List (Nat×Operand)) (c:Bool) (z:List ba) (c':Bool) (r:List ba),qv X st.L pl ps c z=some (c',r)->c'=true->c=true:=by
 intro ps
 induction ps with
 | nil=>intro c z c' r J U; simp only[qv,Option.some.injEq,Prod.mk.injEq]at J; rw[J.1]; exact U
 | cons p ps bA=>
  intro c z c' r J U;obtain⟨k,u⟩:=p;simp only[qv]at J
  split at J
  ·split at J
   ·have:=bA _ _ _ _ J U
    simp only[Bool.and_eq_true]at this;exact this.1
   ·cases J
  ·cases J
theorem EN(h:bH X R W aG n ks env B ai H st a bZ) {pl l:Nat->Option (Nat×Nat)} (ad:∀ k p,pl k=some p->l k=some p):∀ {ps:List (Nat×Operand)} {c c':Bool} {z r:List ba} {vs:List Value},cd env B ai z vs ->
  qv X st.L pl ps c z=some (c',r)->c'=true->∃ rs:List Value,Instr.fill l vs.toArray (ps.map fun p=>(p.1,a.eval p.2))=some rs.toArray/\cd env B ai r rs
 | [],c,c',z,r,vs,bG,aA,aa=>by
  simp only[qv,Option.some.injEq,Prod.mk.injEq]at aA;obtain⟨rfl,rfl⟩:=aA;exact⟨vs,rfl,bG⟩
 | (k,u) :: ps,c,c',z,r,vs,bG,aA,aa=>by
  simp only[qv]at aA
  split at aA
  ·rename_i off size g x EO hu
   split at aA
   ·rename_i nZ cQ ns aq
    have fM:=Nat.eq_of_beq_eq_true cQ;have Lu:=TM _ _ _ _ _ aA aa;simp only[Bool.and_eq_true]at Lu;obtain⟨v,J,U⟩:=h.aD hu Lu.2;have gi:cd env B ai x.cells v.cells.toList:=U.cells fun c e=>by
     subst e;simp only[bf.cells,l5,Bool.and_true]at ns;exact dv.one ns U
    obtain⟨rs,ah,au⟩:=xD bG gi aq;obtain⟨TN,aF,aY⟩:=EN h ad au aA aa;refine⟨TN,?_,aY⟩;rw[List.map_cons,h.bL.aD J];rw[Tc (ad _ _ EO) (by rw[<- fM,<- gi.length]; simp) ah];exact aF
   ·cases aA
  ·cases aA
theorem TO(ar:X.tt.ok X.P) {t:TypeId} {ps:Array (Nat×Operand)} {bq:bf} (ax:o.op=.build t ps) (ad:EL X st.L t ps.toList=some (true,bq)):gT X st o bq:=by
 intro R W aG n ks env B ai H a bZ h;unfold EL at ad
 split at ad
 ·rename_i cX s b z kc aA
  obtain⟨fl,rfl⟩:∃ fl:List Field,cX=fl.toArray:=⟨cX.toList,by simp⟩
  split at ad
  ·rename_i lC
   split at ad
   ·rename_i c r vg
    cases ad;obtain⟨l,J,U⟩:=Lt ar _ lC;obtain⟨rs,ah,au⟩:=EN h (l:=fun k=>l[k]?) U (xy z.toList) vg rfl;refine⟨_,⟨rs,rfl,au⟩,fun w _=>?_⟩;have aC:=(bV.get ar aA).bk.1;have aW:=bC.pw (bV.get ar aA).bk w;have cB:=J w
    have:(Instr.build t (ps.map fun p=>(p.1,a.eval p.2))).run X.P w=.ok (.agg rs.toArray) w:=by
     unfold Instr.build;simp only[Array.toArray_toList]at ah
     simp[aW,run_underlying aC,cB,Value.cells,ah]
    simp only[execOp,ax]
    simp[this]
   ·cases ad
  ·cases ad
 ·rename_i m e s b z kc aA
  split at ad
  ·rename_i bj cP
   split at ad
   ·rename_i c r vg
    cases ad;obtain⟨rs,ah,au⟩:=EN h (l:=fun i=>some (i * bj.bk.size,bj.bk.size)) (fun _ _ h=>h) (xy z.toList) vg rfl;refine⟨_,⟨rs,rfl,au⟩,fun w _=>?_⟩;have aC:=(bV.get ar aA).bk.1;have aW:=bC.pw (bV.get ar aA).bk w;have cB:=bC.run_sizeOf (bV.get ar cP).bk w
    have:(Instr.build t (ps.map fun p=>(p.1,a.eval p.2))).run X.P w=.ok (.agg rs.toArray) w:=by
     unfold Instr.build;simp only[Array.toArray_toList]at ah
     simp[aW,run_underlying aC,cB,Value.cells,ah]
    simp only[execOp,ax]
    simp[this]
   ·cases ad
  ·cases ad
 ·cases ad
theorem TP(ar:X.tt.ok X.P) {t:TypeId} {u:Operand} {g:Bool} {x bq:bf} (ax:o.op=.call ⟨.builtin .len,⟨[u]⟩,⟨[t]⟩⟩) (hu:bm X st.L u=some (g,x)) (aL:g=true) (ad:Ez X st t x=some (true,bq)):gT X st o bq:=by
 intro R W aG n ks env B ai H a bZ h;obtain⟨v,aB,az⟩:=h.aD hu aL;have aI:=h.bL;unfold Ez at ad
 split at ad
 ·rename_i e s b z kc aA
  obtain⟨T,bE,J⟩:=AP (bV.get ar aA).bk
  split at ad
  ·cases ad
   obtain⟨A,c,xs,rfl,_⟩:=az;exact⟨_,rfl,fun w _=>u6 aI ax bE J rfl aB w⟩
  ·split at ad
   ·rename_i bO
    cases ad;obtain⟨A,c,m,he,rfl⟩:=az;obtain⟨dk,K,⟨b9,k',xs,cI,rfl,cv,_⟩,dV⟩:=h.heap.fE bO;rw[he]at cI;cases cI;exact⟨_,rfl,fun w _=>u6 aI ax bE J rfl aB w⟩
   ·rename_i bO
    cases ad;obtain⟨A,c,m,he,rfl⟩:=az;obtain⟨dk,K,⟨b9,k',ys,cY,cF,m2,cI,rfl,_⟩,dV⟩:=h.heap.fE bO;rw[he]at cI;cases cI;exact⟨_,rfl,fun w _=>u6 aI ax bE J rfl aB w⟩
   ·rename_i bO
    cases ad;obtain⟨A,c,m,he,rfl⟩:=az;obtain⟨dk,K,⟨b9,k',cI,_⟩,dV⟩:=h.heap.fE bO;rw[he]at cI;cases cI;exact⟨_,rfl,fun w _=>u6 aI ax bE J rfl aB w⟩
   ·rename_i bO
    cases ad;obtain⟨A,c,m,he,rfl⟩:=az;obtain⟨dk,K,⟨b9,k',ys,cT,I,cI,_⟩,dV⟩:=h.heap.fE bO;rw[he]at cI;cases cI;exact⟨_,rfl,fun w _=>u6 aI ax bE J rfl aB w⟩
   ·cases ad
  ·cases ad
   rw[show v=_ from az]at aB;exact⟨_,rfl,fun w _=>u6 aI ax bE J rfl aB w⟩
  ·cases ad
 ·rename_i s b z kc aA
  have aC:=(bV.get ar aA).bk.1
  split at ad
  ·rename_i an
   cases ad;rw[show v=_ from az]at aB;refine⟨_,rfl,fun w _=>?_⟩;have aW:(ByteArray.mk an.toArray).size=an.length:=by show an.toArray.size=_; simp
   simp[execOp,ax,resolve,invoke,builtin,Builtin.len_,aI.aD aB,eP,run_underlying aC,goInt,aW]
  ·cases ad
 ·cases ad
theorem TQ(ar:X.tt.ok X.P) {t:TypeId} {u:Operand} {g:Bool} {x bq:bf} (ax:o.op=.call ⟨.builtin .cap,⟨[u]⟩,⟨[t]⟩⟩) (hu:bm X st.L u=some (g,x)) (aL:g=true) (ad:EA X t x=some (true,bq)):gT X st o bq:=by
 intro R W aG n ks env B ai H a bZ h;obtain⟨v,aB,az⟩:=h.aD hu aL;have aI:=h.bL;unfold EA at ad
 split at ad
 ·rename_i e s b z kc aA
  obtain⟨T,bE,J⟩:=AP (bV.get ar aA).bk
  split at ad
  ·rename_i cc
   cases cc with
   | none=>cases ad
   | some cc=>
    cases ad;obtain⟨A,c,xs,rfl,_,_,aa,_⟩:=az
    have:=aa _ rfl
    subst this;exact⟨_,rfl,fun w _=>Ei aI ax bE J rfl aB w⟩
  ·cases ad
   rw[show v=_ from az]at aB;exact⟨_,rfl,fun w _=>Ei aI ax bE J rfl aB w⟩
  ·cases ad
 ·cases ad
theorem TR(ar:X.tt.ok X.P) {t bQ:TypeId} {u:Operand} {g:Bool} {x bq:bf} (ax:o.op=.convert t bQ u) (hu:bm X st.L u=some (g,x)) (aL:g=true) (ad:EB X t bQ x=some (true,bq)):gT X st o bq:=by
 intro R W aG n ks env B ai H a bZ h;obtain⟨v,aB,az⟩:=h.aD hu aL;have aI:=h.bL;unfold EB at ad
 split at ad
 ·rename_i bj k' s b z kc aA kA
  obtain⟨T,bE,J,U⟩:=mG (bV.get ar aA).bk (bV.get ar kA).bk
  split at ad
  ·rename_i k z
   generalize hw:mJ k' z=q at ad
   obtain⟨c,r⟩:=q;cases ad;rw[show v=_ from az]at aB;exact⟨_,rfl,fun w _=>Sz aI ax bE J U rfl aB (vc hw) w⟩
  ·cases ad
 ·rename_i bj s b z kc aA kA
  split at ad
  ·cases ad
   rw[show v=_ from az]at aB;refine⟨_,rfl,fun w _=>?_⟩;have aC:=(bV.get ar aA).bk.1;have aW:=(bV.get ar kA).bk.1
   simp[execOp,ax,aI.aD aB,convert,run_underlying aC,run_underlying aW,eP]
  ·cases ad
 ·cases ad
theorem AY(ar:X.tt.ok X.P) {c:Bool} {bq:bf} (ad:s6 X st o.op=some (c,bq)) (aa:c=true):gT X st o bq:=by
 unfold s6 at ad
 split at ad
 ·rename_i u ax
  intro R W aG n ks env B ai H a bZ h;obtain⟨v,J,U⟩:=h.aD ad aa;exact⟨v,U,fun w _=>KP h.bL ax J w⟩
 ·rename_i u ax
  intro R W aG n ks env B ai H a bZ h;obtain⟨v,J,U⟩:=h.aD ad aa;exact⟨v,U,fun w _=>KQ h.bL ax J w⟩
 ·rename_i uc u v ax
  split at ad
  ·rename_i gc b xC x aZ y aC aW cB
   split at ad
   ·rename_i r aq
    cases ad;simp only[Bool.and_eq_true,Bool.or_eq_true,Bool.not_eq_true']at aa;obtain⟨⟨EP,ho⟩,kW⟩:=aa;intro R W aG n ks env B ai H a bZ h;obtain⟨TS,J,U⟩:=h.aD aC EP;rw[show TS=_ from U]at J;have Lv:∀ vx vy,(b=true->dI env B ai x vx)->(b=false->dI env B ai y vy)->dI env B ai bq (if b then vx else vy):=by
     intro vx vy aj aT;unfold xB at aq
     split at aq
     ·split at aq
      ·rename_i ab
       have oQ:=of_decide_eq_true ab;subst oQ;cases aq;cases b
       ·exact aT rfl
       ·exact aj rfl
      ·cases aq
     ·cases aq
      cases b
      ·exact aT rfl
      ·exact aj rfl
     ·cases aq
      cases b
      ·exact aT rfl
      ·exact aj rfl
     ·cases aq
    cases b with
    | true=>
     obtain⟨vx,ah,au⟩:=h.aD aW (by simpa using ho);exact⟨vx,Lv vx vx (fun _=>au) (fun h=>by cases h),fun w _=>KR h.bL ax J rfl ah w⟩
    | false=>
     obtain⟨vy,ah,au⟩:=h.aD cB (by simpa using kW);exact⟨vy,Lv vy vy (fun h=>by cases h) (fun _=>au),fun w _=>KS h.bL ax J rfl ah w⟩
   ·cases ad
  ·cases ad
 ·rename_i t u ax
  split at ad
  ·rename_i g b aC
   cases ad;intro R W aG n ks env B ai H a bZ h;obtain⟨v,J,U⟩:=h.aD aC aa;rw[show v=_ from U]at J;exact⟨_,rfl,fun w _=>Si h.bL ax J w⟩
  ·cases ad
 ·rename_i t u ax
  split at ad
  ·rename_i g k x aC
   generalize hw:mJ k (0 - x)=q at ad
   obtain⟨c',z⟩:=q;simp only[Option.some.injEq,Prod.mk.injEq]at ad;obtain⟨rfl,rfl⟩:=ad;simp only[Bool.and_eq_true]at aa;obtain⟨aL,rfl⟩:=aa;intro R W aG n ks env B ai H a bZ h;obtain⟨v,J,U⟩:=h.aD aC aL;rw[show v=_ from U]at J;exact⟨_,rfl,fun w _=>by have nt:=vc hw; simp only[Int.zero_sub]at nt; simp[execOp,ax,h.bL.aD J,Op.unary,Op.intArith,nt]⟩
  ·cases ad
 ·rename_i op t u v bQ ax
  split at ad
  ·rename_i g x g' y aC aW
   split at ad
   ·rename_i c' r ae
    cases ad;simp only[Bool.and_eq_true]at aa;obtain⟨⟨aL,fm⟩,rfl⟩:=aa;intro R W aG n ks env B ai H a bZ h;obtain⟨vx,J,U⟩:=h.aD aC aL;obtain⟨vy,ah,au⟩:=h.aD aW fm;obtain⟨r,aF,aY⟩:=TC ar h.bL ax J ah U au ae;exact⟨r,aF,fun w _=>aY w⟩
   ·cases ad
  ·cases ad
 ·rename_i t u ax
  split at ad
  ·rename_i g x aC
   split at ad
   ·rename_i c' r ae
    cases ad;simp only[Bool.and_eq_true]at aa;obtain⟨aL,rfl⟩:=aa;exact Lm ar ax aC aL ae
   ·cases ad
  ·cases ad
 ·rename_i t u k ax
  split at ad
  ·rename_i g x aC
   split at ad
   ·rename_i c' r ae
    cases ad;simp only[Bool.and_eq_true]at aa;obtain⟨aL,rfl⟩:=aa;exact TD ar ax aC aL ae
   ·cases ad
  ·cases ad
 ·rename_i t u v ax
  split at ad
  ·rename_i g x g' y aC aW
   split at ad
   ·rename_i c' r ae
    cases ad;simp only[Bool.and_eq_true]at aa;obtain⟨⟨aL,fm⟩,rfl⟩:=aa;exact TE ar ax aC aL aW fm ae
   ·cases ad
  ·cases ad
 ·cases ad
 ·rename_i t u l ax
  split at ad
  ·rename_i g x g1 l6 aC aW
   split at ad
   ·rename_i c' r ae
    cases ad;simp only[Bool.and_eq_true]at aa;obtain⟨⟨aL,fm⟩,rfl⟩:=aa;exact AV ar ax aC aL (fun s ak=>by cases ak; exact⟨_,rfl,_,aW,fm⟩) (fun h=>by cases h) (fun s ak=>by cases ak) (fun _=>rfl) (fun s ak=>by cases ak) (fun _=>rfl) ae
   ·cases ad
  ·cases ad
 ·rename_i t u l ax
  split at ad
  ·rename_i g x g1 l6 aC aW
   split at ad
   ·rename_i c' r ae
    cases ad;simp only[Bool.and_eq_true]at aa;obtain⟨⟨aL,fm⟩,rfl⟩:=aa;exact AV ar ax aC aL (fun s ak=>by cases ak) (fun _=>rfl) (fun s ak=>by cases ak; exact⟨_,rfl,_,aW,fm⟩) (fun h=>by cases h) (fun s ak=>by cases ak) (fun _=>rfl) ae
   ·cases ad
  ·cases ad
 ·rename_i t u l cn ax
  split at ad
  ·rename_i g x g1 l6 g2 kX aC aW cB
   split at ad
   ·rename_i c' r ae
    cases ad;simp only[Bool.and_eq_true]at aa;obtain⟨⟨⟨aL,fm⟩,dp⟩,rfl⟩:=aa;exact AV ar ax aC aL (fun s ak=>by cases ak; exact⟨_,rfl,_,aW,fm⟩) (fun h=>by cases h) (fun s ak=>by cases ak; exact⟨_,rfl,_,cB,dp⟩) (fun h=>by cases h) (fun s ak=>by cases ak) (fun _=>rfl) ae
   ·cases ad
  ·cases ad
 ·rename_i t u l cn ax
  split at ad
  ·rename_i g x g1 l6 g2 kX aC aW cB
   split at ad
   ·rename_i c' r ae
    cases ad;simp only[Bool.and_eq_true]at aa;obtain⟨⟨⟨aL,fm⟩,dp⟩,rfl⟩:=aa;exact AV ar ax aC aL (fun s ak=>by cases ak) (fun _=>rfl) (fun s ak=>by cases ak; exact⟨_,rfl,_,aW,fm⟩) (fun h=>by cases h) (fun s ak=>by cases ak; exact⟨_,rfl,_,cB,dp⟩) (fun h=>by cases h) ae
   ·cases ad
  ·cases ad
 ·rename_i t bQ u ax
  split at ad
  ·rename_i g x aC
   split at ad
   ·rename_i c' r ae
    cases ad;simp only[Bool.and_eq_true]at aa;obtain⟨aL,rfl⟩:=aa;exact TR ar ax aC aL ae
   ·cases ad
  ·cases ad
 ·rename_i t ps ax
  subst aa;exact TO ar ax ad
 ·rename_i f cs ax
  split at ad
  ·rename_i ids ER
   cases ad;intro R W aG n ks env B ai H a bZ h;obtain⟨vs,J,U⟩:=EM h ER;exact⟨_,⟨vs,rfl,U⟩,fun w _=>Sj (xs:=cs.toList) h.bL (by rw[ax]) J w⟩
  ·cases ad
 ·rename_i f u ax
  split at ad
  ·rename_i id aC
   cases ad;intro R W aG n ks env B ai H a bZ h;obtain⟨v,J,b,ae,rfl⟩:=h.aD aC rfl;exact⟨_,⟨b,ae,rfl⟩,fun w _=>TL h.bL (by rw[ax]) J w⟩
  ·cases ad
 ·rename_i u ax
  intro R W aG n ks env B ai H a bZ h
  split at ad
  ·rename_i aC
   cases ad;obtain⟨v,J,U⟩:=h.aD aC aa;have ah:=h.bL.aD J;obtain⟨b,he,rfl⟩:=U;exact⟨_,⟨b,he,rfl⟩,fun w _=>by simp[execOp,ax,ah]⟩
  ·rename_i aC
   cases ad;obtain⟨v,J,U⟩:=h.aD aC aa;have ah:=h.bL.aD J;obtain⟨b,c,m,he,rfl⟩:=U;exact⟨_,⟨b,c,m,he,rfl⟩,fun w _=>by simp[execOp,ax,ah]⟩
  ·rename_i aC
   cases ad;obtain⟨v,J,U⟩:=h.aD aC aa;have ah:=h.bL.aD J;obtain⟨b,p,rfl,iq⟩:=U;exact⟨_,⟨b,p,rfl,iq⟩,fun w _=>by simp[execOp,ax,ah]⟩
  ·rename_i aC
   cases ad;obtain⟨v,J,U⟩:=h.aD aC aa;have ah:=h.bL.aD J;obtain⟨b,p,vs,rfl,iq⟩:=U;exact⟨_,⟨b,p,vs,rfl,iq⟩,fun w _=>by simp[execOp,ax,ah]⟩
  ·cases ad
 ·rename_i s k ax
  split at ad
  ·rename_i vs aC
   split at ad
   ·rename_i x aW
    cases ad;intro R W aG n ks env B ai H a bZ h;obtain⟨v,J,us,rfl,U⟩:=h.has _ _ aC;have key:∀ {xs:List bf} {us:List Value} {k:Nat} {x:bf},dw env B ai xs us->nth xs k=some x->∃ u,us[k]?=some u/\dI env B ai x u:=by
     intro xs
     induction xs with
     | nil=>intro us k x _ h; cases h
     | cons y ys bA=>
      intro us k x ak a7;obtain⟨v,r,rfl,ah,au⟩:=ak;cases k with
      | zero=>cases a7; exact⟨v,rfl,ah⟩
      | succ k=>obtain⟨u,aF,aY⟩:=bA au a7; exact⟨u,by rw[List.getElem?_cons_succ]; exact aF,aY⟩
    obtain⟨u,ah,au⟩:=key U aW;exact⟨u,au,fun w _=>KT h.bL ax (h0 J) ah w⟩
   ·cases ad
  ·cases ad
 ·rename_i u t ax
  split at ad
  ·rename_i g x aC
   split at ad
   ·rename_i c' r ae
    cases ad;simp only[Bool.and_eq_true]at aa;obtain⟨aL,rfl⟩:=aa;exact TP ar ax aC aL ae
   ·cases ad
  ·cases ad
 ·rename_i u t ax
  split at ad
  ·rename_i g x aC
   split at ad
   ·rename_i c' r ae
    cases ad;simp only[Bool.and_eq_true]at aa;obtain⟨aL,rfl⟩:=aa;exact TQ ar ax aC aL ae
   ·cases ad
  ·cases ad
 ·rename_i u r fr ax
  split at ad
  ·rename_i g k x aC
   split at ad
   ·rename_i c' y hm
    cases ad;subst aa;intro R W aG n ks env B ai H a bZ h;obtain⟨aL,z,rfl,bG⟩:=AX h hm;obtain⟨v,J,U⟩:=h.aD aC aL;have ah:=h.bL.aD J;rw[show v=_ from U]at ah;refine⟨_,rfl,fun w _=>?_⟩
    have:=bG w
    simp only[Bool.false_eq_true,if_false]at this
    simp[execOp,ax,resolve,invoke,builtin,Builtin.min_,ah,this]
   ·cases ad
  ·cases ad
 ·rename_i u r fr ax
  split at ad
  ·rename_i g k x aC
   split at ad
   ·rename_i c' y hm
    cases ad;subst aa;intro R W aG n ks env B ai H a bZ h;obtain⟨aL,z,rfl,bG⟩:=AX h hm;obtain⟨v,J,U⟩:=h.aD aC aL;have ah:=h.bL.aD J;rw[show v=_ from U]at ah;refine⟨_,rfl,fun w _=>?_⟩
    have:=bG w
    simp only[if_true]at this
    simp[execOp,ax,resolve,invoke,builtin,Builtin.max_,ah,this]
   ·cases ad
  ·cases ad
 ·rename_i t u v ax
  split at ad
  ·rename_i cA b z0 kc aA
   split at ad
   ·rename_i g s g' k z aC aW
    simp only[Option.some.injEq,Prod.mk.injEq]at ad;obtain⟨rfl,rfl⟩:=ad;simp only[Bool.and_eq_true]at aa;obtain⟨⟨aL,fm⟩,ae⟩:=aa;intro R W aG n ks env B ai H a bZ h;obtain⟨hM,J,U⟩:=h.aD aC aL;rw[show hM=eP s from U]at J;obtain⟨vx,ah,au⟩:=h.aD aW fm;rw[show vx=_ from au]at ah;obtain⟨j,rfl,aR,iM⟩:=kU ae;have cV:=(bV.get ar aA).bk.1;have qw:(ByteArray.mk s.toArray)[j]?=some (s.getD j 0):=by
     have a8:j < (ByteArray.mk s.toArray).size:=by simpa [ByteArray.size] using aR
     have aW:(ByteArray.mk s.toArray)[j]?=some ((ByteArray.mk s.toArray)[j]'a8):=by
      exact getElem?_pos (ByteArray.mk s.toArray) j a8
     rw[aW,List.getD_eq_getElem?_getD,List.getElem?_eq_getElem aR]
     rfl
    refine⟨_,rfl,fun w _=>?_⟩;have aN:(0:Int)<=(j:Int):=Int.natCast_nonneg j;have dE:(Instr.index t (eP s) (.int k (j:Int))).run X.P w=.ok (.int .u8 ((s.getD j 0).toNat:Int)) w:=by
     simp only[Instr.index,eP,asIntOf,Sem.run_bind,Sem.run_pure,Result.andThen_ok,run_underlying cV,aN,if_true,Int.toNat_natCast,qw]
    rw[Int.toNat_natCast]
    simp[execOp,ax,h.bL.aD J,h.bL.aD ah,dE]
   ·cases ad
  ·cases ad
 ·cases ad
end
end
section
def vh:Op->Bool
 | .store _ _ _=>false
 | .call ⟨.builtin .len,_,_⟩=>true
 | .call ⟨.builtin .cap,_,_⟩=>true
 | .call ⟨.builtin .min,_,_⟩=>true
 | .call ⟨.builtin .max,_,_⟩=>true
 | .call _=>false
 | _=>true
def AZ:Op->Bool
 | .store _ _ _=>false
 | .call ⟨.builtin .append,_,_⟩=>true
 | o=>vh o
def pF(d:Nat):bx->Bool
 | []=>true
 | (k,b) :: r=>(match Nat.beq k d,b with
  | true,.cells _ _=>false
  | _,_=>true)&&pF d r
def pG(o:Oper) (H:bx):Bool:=match o.dst with
 | some d=>pF d H
 | none=>true
def s7(d:Nat):bx->Bool
 | []=>true
 | (k,_) :: r=>match Nat.beq k d with
  | true=>false
  | false=>s7 d r
def rL(o:Oper) (H:bx):Bool:=match o.dst with
 | some d=>s7 d H
 | none=>true
theorem Lw{d:Nat}:∀ {l:bx} {b:ct},pF d l=true->(d,b)∈l->∀ t cs,b≠.cells t cs
 | (k,b') :: r,b,h,ae,t,cs=>by
  simp only[pF,Bool.and_eq_true]at h
  rcases List.mem_cons.1 ae with e | ae
  ·injection e with aC aW
   subst aC; subst aW;intro e;rw[e,Nat.beq_refl]at h
   simp at h
  ·exact Lw h.2 ae t cs
structure A0(o:Oper) (st:aM) (H:List bb) (w:World) (H':List bb) (w':World):Prop where
 new:vh o.op=true->Below w.heap.size w w'
 dP:AZ o.op=true->pG o st.H=true->∀ c∈H,iv c=true->c∈H'
 all:vh o.op=true->rL o st.H=true->∀ c∈H,c∈H'
def s8(X:br) (n:Nat) (st:aM) (o:Oper) (st':aM):Prop:=
 ∀ {R:Nat->Prop} {W:World} {aG:eX} {ks:List Nat} {env:Nat->Loc} {B:Nat->Prop} {ai:World} {H:List bb} {a:Act} {w:World} (ops:Array Oper) (KK:Act->World->Prop),bH X R W aG n ks env B ai H st a w ->
  (∀ aS w' env' H',A0 o st H w H' w'->bH X R W aG n ks env' B ai H' st' aS w'->KK aS w')->eR X.P ops o KK a w
def Lx(k:IntKind):List ba->Option (Bool×Int×List ba)
 | .val (.int k' x) :: r=>match decide (k=k')with
  | true=>some (true,x,r)
  | false=>none
 | _=>none
def Ly:List ba->Option (Bool×Bool×List ba)
 | .val (.bool x) :: r=>some (true,x,r)
 | _=>none
def Lz:List ba->Option (Bool×List UInt8×List ba)
 | .str x :: r=>some (true,x,r)
 | _=>none
def LA(g:aQ):List ba->Option (Bool×List g.D×List ba)
 | .val (.slice none 0 0) :: r=>some (true,[],r)
 | .bn g' l _ :: r=>match decEq g' g with
  | isTrue h=>some (true,h ▸ l,r)
  | isFalse _=>none
 | _=>none
def LB(g:aQ):List ba->Option (Bool×List g.D×List ba)
 | .val (.slice none 0 0) :: r=>some (true,[],r)
 | .bn g' l (some c) :: r=>match decEq g' g with
  | isTrue h=>some (decide (c=l.length),h ▸ l,r)
  | isFalse _=>none
 | _=>none
def LC:List ba->Option (Bool×Option Nat×List ba)
 | .fn f [] :: r=>some (true,some f,r)
 | .val .nilFunc :: r=>some (true,none,r)
 | _=>none
def dec:(g:aQ)->List ba->Option (Bool×g.D×List ba)
 | .int k,r=>Lx k r
 | .bool,r=>Ly r
 | .str,r=>Lz r
 | .an g,r=>LA g r
 | .gI g,r=>LB g r
 | .unit,r=>some (true,(),r)
 | .fn,r=>LC r
 | .pair g h,r=>match dec g r with
  | some (fs,x,aH)=>match dec h aH with
   | some (cF,y,a1)=>some (fs&&cF,(x,y),a1)
   | none=>none
  | none=>none
section
variable {env:Nat->Loc} {B:Nat->Prop} {w:World}
theorem oR:∀ {g:aQ} {cs:List ba} {c:Bool} {x:g.D} {r:List ba} {vs:List Value},cd env B w cs vs->dec g cs=some (c,x,r)->c=true->∃ v1 v2,vs=v1++v2/\bz B w g x v1/\cd env B w r v2
 | .int k,cs,c,x,r,vs,h,av,aa=>by
  simp only[dec,Lx]at av
  split at av
  ·split at av
   ·rename_i ab
    have oQ:=of_decide_eq_true ab;subst oQ;cases av;obtain⟨v,rr,rfl,J,U⟩:=h;exact⟨[v],rr,rfl,by rw[show v=_ from J]; exact rfl,U⟩
   ·cases av
  ·cases av
 | .bool,cs,c,x,r,vs,h,av,aa=>by
  simp only[dec,Ly]at av
  split at av
  ·cases av
   obtain⟨v,rr,rfl,J,U⟩:=h;exact⟨[v],rr,rfl,by rw[show v=_ from J]; exact rfl,U⟩
  ·cases av
 | .str,cs,c,x,r,vs,h,av,aa=>by
  simp only[dec,Lz]at av
  split at av
  ·cases av
   obtain⟨v,rr,rfl,J,U⟩:=h;exact⟨[v],rr,rfl,by rw[show v=_ from J]; exact rfl,U⟩
  ·cases av
 | .an g,cs,c,x,r,vs,h,av,aa=>by
  simp only[dec,LA]at av
  split at av
  ·cases av
   obtain⟨v,rr,rfl,J,U⟩:=h;exact⟨[v],rr,rfl,⟨none,0,[],by rw[show v=_ from J]; rfl,Nat.le_refl _,Nat.zero_le _,rfl,Reads.nil _ _ _,(fun _ _ h=>absurd h (Nat.lt_irrefl 0))⟩,U⟩
  ·split at av
   ·rename_i aL _
    subst aL;cases av;obtain⟨v,rr,rfl,⟨A,c,xs,rfl,ah,au,aF,aY,bK⟩,U⟩:=h;exact⟨[_],rr,rfl,⟨A,c,xs,rfl,ah,au,aY,bK⟩,U⟩
   ·cases av
  ·cases av
 | .gI g,cs,c,x,r,vs,h,av,aa=>by
  simp only[dec,LB]at av
  split at av
  ·cases av
   obtain⟨v,rr,rfl,J,U⟩:=h;exact⟨[v],rr,rfl,⟨none,[],by rw[show v=_ from J]; rfl,Nat.zero_le _,rfl,Reads.nil _ _ _,(fun _ _ h=>absurd h (Nat.lt_irrefl 0))⟩,U⟩
  ·split at av
   ·rename_i aL _
    subst aL;simp only[Option.some.injEq,Prod.mk.injEq]at av;obtain⟨rfl,rfl,rfl⟩:=av;have er:=of_decide_eq_true aa;obtain⟨v,rr,rfl,⟨A,c,xs,rfl,ah,au,aF,aY,bK⟩,U⟩:=h
    have:=aF _ rfl
    subst this;rw[er];exact⟨[_],rr,rfl,⟨A,xs,rfl,by rw[er]at au; exact au,aY,bK⟩,U⟩
   ·cases av
  ·cases av
 | .fn,cs,c,x,r,vs,h,av,aa=>by
  simp only[dec,LC]at av
  split at av
  ·cases av
   obtain⟨v,rr,rfl,⟨us,J,ah⟩,U⟩:=h;rw[show us=[] from ah]at J;exact⟨[v],rr,rfl,by rw[J]; exact rfl,U⟩
  ·cases av
   obtain⟨v,rr,rfl,J,U⟩:=h;exact⟨[v],rr,rfl,by rw[show v=_ from J]; exact rfl,U⟩
  ·cases av
 | .unit,cs,c,x,r,vs,h,av,aa=>by
  simp only[dec]at av;cases av;exact⟨[],vs,rfl,rfl,h⟩
 | .pair g aO,cs,c,x,r,vs,h,av,aa=>by
  simp only[dec]at av
  split at av
  ·rename_i fs nu aH J
   split at av
   ·rename_i cF jw a1 U
    cases av;simp only[Bool.and_eq_true]at aa;obtain⟨v1,v2,rfl,ah,au⟩:=oR h J aa.1;obtain⟨v3,v4,rfl,aF,aY⟩:=oR au U aa.2;exact⟨v1++v3,v4,by rw[List.append_assoc],⟨v1,v3,rfl,ah,aF⟩,aY⟩
   ·cases av
  ·cases av
end
section
variable {X:br} {R:Nat->Prop} {W:World} {aG:eX} {n:Nat} {ks:List Nat} {env:Nat->Loc} {B:Nat->Prop} {ai:World} {H:List bb} {st:aM} {a aS:Act} {w w':World} {o:Oper} {d:Nat}
theorem bH.sym(h:bH X R W aG n ks env B ai H st a w):Sym n (jK ks aG) (gl a) (fun k=>R k\/B k) ai (H++ks.map c3) a w:=⟨h.bL,h.aJ⟩
theorem cW.same{D:List Deferred} (aI:cW n D (gl a) aS) {s:Nat} {u:Value} (hu:a.tmps[s]?=some u):aS.tmps[s]?=some u:=aI.has s u (h0 hu)
theorem cW.other{D:List Deferred} {v:Value} (aI:cW n D ((d,v) :: gl a) aS) {s:Nat} (ak:s≠d) {u:Value} (hu:a.tmps[s]?=some u):aS.tmps[s]?=some u:=
 aI.has s u (by rw[List.lookup_cons,beq_false_of_ne ak]; exact h0 hu)
theorem cW.this{D:List Deferred} {v:Value} (aI:cW n D ((d,v) :: gl a) aS):aS.tmps[d]?=some v:=aI.has d v (by simp)
theorem bH.set(h:bH X R W aG n ks env B ai H st a w) {sv:b0} {v:Value} (aB:ei env B ai sv v) (aI:cW n (jK ks aG) ((d,v) :: gl a) aS):bH X R W aG n ks env B ai H ⟨(d,sv) :: st.L,st.H⟩ aS w:=
 ⟨aI.size,aI.defs,fun s u ak=>by
  rw[cl]at ak
  split at ak
  ·rename_i e; subst e; cases ak; exact⟨v,aI.this,aB⟩
  ·rename_i e; obtain⟨eF,J,U⟩:=h.has s u ak; exact⟨eF,aI.other e J,U⟩,h.heap,h.aJ,h.sub,h.new,h.df,h.base,h.dQ⟩
def iE(env:Nat->Loc) (id:Nat) (l:Loc):Nat->Loc:=fun j=>if j=id then l else env j
theorem eG{id:Nat} {l:Loc}:iE env id l id=l:=if_pos rfl
theorem h1{id:Nat} {l:Loc}:∀ j,j≠id->iE env id l j=env j:=fun _ h=>if_neg h
theorem pH{id:Nat} {l:Loc} {p:Nat->Loc->Prop} (h:∀ id l,p id l->n<=id/\env id=l/\((∃ b,l=.blk b)\/hZ<=id)) (av:∀ l,¬ p id l):∀ j q,p j q->n<=j/\iE env id l j=q/\((∃ b,q=.blk b)\/hZ<=j):=fun j q aq=>
 ⟨(h j q aq).1,by rw[h1 j (fun e=>av q (by rw[<- e]; exact aq))]; exact(h j q aq).2.1,(h j q aq).2.2⟩
theorem bu.LD{d:Nat} {l:Loc}:∀ {L:bx} {H:List bb},s7 d L=true->bu env B ai L H->bu (iE env d l) B ai (dq d .dead L) H
 | [],_,_,h=>h
 | (k,b) :: L,_,a7,⟨c,H',e,J,U⟩=>by
  unfold s7 at a7
  split at a7
  ·cases a7
  ·rename_i ab
   unfold dq;rw[ab];exact⟨c,H',e,J.sub (z:=.dead) (h1 (env:=env)) (fun _ _=>trivial) (Nat.ne_of_beq_eq_false ab),bu.LD a7 U⟩
theorem bH.mK(h:bH X R W aG n ks env B ai H st a w) (av:Nat.blt d n=true) {l:Loc} {c:bb} {blk:ct} {sv:b0} {v:Value} (ak:bF (fun k=>R k\/B k) ai (c :: (H++ks.map c3)) w') (ae:ej (iE env d l) B ai d blk c) (aB:ei (iE env d l) B ai sv v)
  (aI:cW n (jK ks aG) ((d,v) :: gl a) aS):∃ H',((pF d st.H=true->∀ c∈H,iv c=true->c∈H')/\(s7 d st.H=true->∀ c∈H,c∈H'))/\bH X R W aG n ks (iE env d l) B ai H' ⟨(d,sv) :: eJ d .dead st.L,(d,blk) :: dq d .dead st.H⟩ aS w':=by
 have ES:∃ H2,H2.Sublist H/\bu (iE env d l) B ai (dq d .dead st.H) H2/\(pF d st.H=true->∀ c∈H,iv c=true->c∈H2)/\(s7 d st.H=true->∀ c∈H,c∈H2):=by
  cases ab:s7 d st.H with
  | true=>exact⟨H,List.Sublist.refl _,bu.LD ab h.heap,fun _ c aa _=>aa,fun _ c aa=>aa⟩
  | false=>
  cases a7:pF d st.H with
  | true=>
   obtain⟨H2,J,U,ah⟩:=h.heap.Es (z:=.dead) (h1 (env:=env) (id:=d) (l:=l)) (fun _ _=>trivial) (fun b c ae rM=>rM.nr (Lw a7 ae));exact⟨H2,J,U,fun _=>ah,fun h=>by cases h⟩
  | false=>
   obtain⟨H2,J,U⟩:=h.heap.del (z:=.dead) (h1 (env:=env) (id:=d) (l:=l)) (fun _ _=>trivial);exact⟨H2,J,U,(fun h=>by cases h),fun h=>by cases h⟩
 obtain⟨H2,J,U,ah,ET⟩:=ES;refine⟨c :: H2,⟨fun a7 c aa ju=>List.mem_cons_of_mem _ (ah a7 c aa ju),fun a7 c aa=>List.mem_cons_of_mem _ (ET a7 c aa)⟩,aI.size,aI.defs,fun s u ak=>?_,⟨c,H2,rfl,ae,U⟩,ak.ep ((J.append_right _).cons_cons _),h.sub,h.new,pH h.df (fun q aq=>by have J:=(h.df _ _ aq).1; have U:=du av; omega),h.base,fun i x aj=>h.dQ i x aj⟩;rw[cl]at ak
 split at ak
 ·rename_i e; subst e; cases ak; exact⟨v,aI.this,aB⟩
 ·rename_i e
  obtain⟨hz,hA,rfl⟩:=l2 ak;obtain⟨eF,ah,au⟩:=h.has s hz hA;exact⟨eF,aI.other e ah,ei.sub (z:=.dead) (h1 (env:=env)) (fun _ _=>trivial) au⟩
def rN(X:br) (n:Nat) (st:aM) (t:TypeId) (d:Nat) (cs:List ba):Option (Bool×aM):=
 match Nat.blt d n with
 | true=>some (true,⟨(d,.c (.ptr d 0)) :: eJ d .dead st.L,(d,.cells t (qq d .dead cs)) :: dq d .dead st.H⟩)
 | false=>none
theorem TT{x:Operand} {t:TypeId} {g:Bool} {bq:bf} {st':aM} {c:Bool} (ax:o.op=.box t x) (dA:o.guard=none) (dX:o.dst=some d) (aj:bm X st.L x=some (g,bq)) (aL:g=true) (ad:l5 bq.cells=true)
  (ae:rN X n st t d bq.cells=some (c,st')):s8 X n st o st':=by
 intro R W aG ks env B ai H a w ops KK h bS;unfold rN at ae
 split at ae
 ·rename_i av
  cases ae;obtain⟨v,J,U⟩:=h.aD aj aL;have gi:cd env B ai bq.cells v.cells.toList:=U.cells fun c e=>by
   subst e;simp only[bf.cells,l5,Bool.and_true]at ad;exact dv.one ad U
  have aB:=h.bL.aD J;refine fU h.bL dA dX (du av) (v:=.pointer (some ⟨w.heap.size,0,none⟩)) (w':=w.alloc (.cells v.cells.toList.toArray t)) (by simp[execOp,ax,aB,Instr.box,newVar,newRow,newObj,Sem.run]) fun aS aI=>?_
  obtain⟨H',kY,ah⟩:=h.mK (d:=d) av (l:=.blk w.heap.size) (blk:=.cells t (qq d .dead bq.cells)) (sv:=.c (.ptr d 0)) (h.aJ.xo _ t) ⟨_,_,eG,rfl,cd.sub (z:=.dead) h1 (fun _ _=>trivial) gi⟩ ⟨_,eG,rfl⟩ aI;exact bS _ _ _ _ ⟨fun _=>(Below.refl _ _).alloc (Nat.le_refl _) _,fun _ a7=>kY.1 (by simpa [pG,dX] using a7),fun _ a7=>kY.2 (by simpa [rL,dX] using a7)⟩ ah
 ·cases ae
theorem TU(ar:X.tt.ok X.P) {t:TypeId} {bj:bh} {st':aM} {c:Bool} (ax:o.op=.alloc t) (dA:o.guard=none) (dX:o.dst=some d) (cP:X.tt.find t=some bj)
  (ae:rN X n st t d (rI bj.bk.zero.cells.toList)=some (c,st')):s8 X n st o st':=by
 intro R W aG ks env B ai H a w ops KK h bS;unfold rN at ae
 split at ae
 ·rename_i av
  cases ae;have bG:=bC.pw (bV.get ar cP).bk;refine fU h.bL dA dX (du av) (v:=.pointer (some ⟨w.heap.size,0,none⟩)) (w':=w.alloc (.cells bj.bk.zero.cells.toList.toArray t)) (by simp[execOp,ax,Instr.alloc,bG,newVar,newRow,newObj,Sem.run]) fun aS aI=>?_
  obtain⟨H',kY,ah⟩:=h.mK (d:=d) av (l:=.blk w.heap.size) (blk:=.cells t (qq d .dead (rI bj.bk.zero.cells.toList))) (sv:=.c (.ptr d 0)) (h.aJ.xo _ t) ⟨_,_,eG,rfl,cd.sub (z:=.dead) (env:=env) h1 (fun _ _=>trivial) (xy _)⟩ ⟨_,eG,rfl⟩ aI;exact bS _ _ _ _ ⟨fun _=>(Below.refl _ _).alloc (Nat.le_refl _) _,fun _ a7=>kY.1 (by simpa [pG,dX] using a7),fun _ a7=>kY.2 (by simpa [rL,dX] using a7)⟩ ah
 ·cases ae
theorem bH.lD(h:bH X R W aG n ks env B ai H st a w) {id:Nat} {b b':ct} (bO:aU st.H id=some b):∃ c K,ej env B ai id b c/\iJ (H++ks.map c3) c K/\∀ c' aS w',ej env B ai id b' c'->bF (fun k=>R k\/B k) ai (K c') w'->cW n (jK ks aG) (gl a) aS->∃ H',bH X R W aG n ks env B ai H' ⟨st.L,ef id b' st.H⟩ aS w':=by
 obtain⟨c,K,J,U,ah⟩:=h.heap.put bO;refine⟨c,_,J,U.more,fun c' aS w' ae ak aI=>⟨K c',aI.size,aI.defs,fun s u hu=>?_,ah b' c' ae,ak,h.sub,h.new,h.df,h.base,h.dQ⟩⟩;obtain⟨eF,au,aF⟩:=h.has s u hu;exact⟨eF,aI.same au,aF⟩
def xE(X:br) (st:aM) (t:TypeId) (x y:bf):Option (Bool×aM):=
 match X.tt.find t,l5 y.cells with
 | some bj,true=>match Nat.beq y.cells.length bj.bk.size,x with
  | true,.c (.ptr id o)=>match aU st.H id with
   | some (.cells bQ cs)=>match n1 cs o y.cells with
    | some r=>some (true,⟨st.L,ef id (.cells bQ r) st.H⟩)
    | none=>none
   | _=>none
  | true,.c (.dZ id cA i o)=>match aU st.H id with
   | some (.row bQ g l cap)=>match Nat.beq cA g.size,kC g (l.getD i g.zero) 0 g.size with
    | true,some cs=>match n1 cs o y.cells with
     | some r=>match dec g r with
      | some (c,z,_)=>some (decide (i < l.length)&&c,⟨st.L,ef id (.row bQ g (l.set i z) cap) st.H⟩)
      | none=>none
     | none=>none
    | _,_=>none
   | _=>none
  | _,_=>none
 | _,_=>none
theorem LF{t e:TypeId} {i:bC} {x y:Operand} {b p:Nat} {cs hI:List Value} {v:Value} {D:List Deferred} {L:List (Nat×Value)} {K:bb->List bb} {ops:Array Oper} {KK:Act->World->Prop} (ar:Sym n D L B ai H a w) (ax:o.op=.store t x y) (a6:o.guard=none/\o.dst=none)
  (hi:bC.ok X.P t i) (aj:Go.Proofs.YtcheedjfedcbpaaGreatDoor.aD L x=some (.pointer (some ⟨b,p,none⟩))) (aT:Go.Proofs.YtcheedjfedcbpaaGreatDoor.aD L y=some v) (cQ:v.cells.size=i.size) (U:∀ u∈v.cells.toList,u.oneCell'=true) (aA:iJ H (.gv b cs e) K) (ak:kB cs p v.cells.toList hI)
  (h:∀ aS w',Sym n D L B ai (K (.gv b hI e)) aS w'->KK aS w'):eR X.P ops o KK a w:=by
 obtain⟨ah,au⟩:=ak.eq;have ad:v.cells.toList.length=v.cells.size:=by simp
 have dE:=SD (w:=w) (v:=v) (p:=p) hi (Ek ar.aJ aA) cQ U (by omega);refine KO ar a6 (w':=_) (by simp[execOp,ax,ar.aD aj,ar.aD aT,Instr.storeAt,Instr.sureAddr,dE]; rfl) (H':=K (.gv b hI e)) ?_ h;refine ar.aJ.py aA ⟨rfl,rfl,rfl,by simp⟩ ?_ fun k ab=>setRow_other w b k _ ab
 rw[setRow_heap w b cs.toArray _ e _ (Ek ar.aJ aA),ah,ad];simp only[List.append_assoc]
theorem A1{t e:TypeId} {i:bC} {x y:Operand} {g j c m size:Nat} {xs:List Value} {v:Value} {D:List Deferred} {L:List (Nat×Value)} {K:bb->List bb} {ops:Array Oper} {KK:Act->World->Prop} (ar:Sym n D L B ai H a w) (ax:o.op=.store t x y) (a6:o.guard=none/\o.dst=none)
  (hi:bC.ok X.P t i) (aj:Go.Proofs.YtcheedjfedcbpaaGreatDoor.aD L x=some (.pointer (some ⟨g,j,none⟩))) (aT:Go.Proofs.YtcheedjfedcbpaaGreatDoor.aD L y=some v) (cQ:v.cells.size=i.size) (U:∀ u∈v.cells.toList,u.oneCell'=true) (aA:iJ H (.row (some ⟨g,0,none⟩) c e size m xs) K) (aR:j+v.cells.toList.length<=m * size)
  (h:∀ aS w',Sym n D L B ai (K (.row (some ⟨g,0,none⟩) c e size m (xs.take j++v.cells.toList++xs.drop (j+v.cells.toList.length)))) aS w'->KK aS w'):eR X.P ops o KK a w:=by
 have eW:ew w B e size (some ⟨g,0,none⟩) c m xs:=ar.aJ.ok _ aA.mem;have iZ:=eW.1
 generalize pI:v.cells.toList=vs at U aR h
 have fM:vs.length=i.size:=by rw[<- pI]; simpa using cQ
 rcases eW.2 with⟨aN,_⟩ | ⟨g',cur,dB,ag,pB,aL,kz,oL,h9,gi,pC⟩
 ·cases aN
 ·have:g=g':=by injection ag with ag; injection ag
  subst this;have l7:m * size<=cur.size:=by rw[gi]; exact Nat.mul_le_mul_right _ oL
  have TV:j+vs.length<=cur.size:=Nat.le_trans aR l7;have dn:=run_storeCells_cells (P:=X.P) g j vs 0 w (fun q ao=>by
    simp only[World.cell?,aL]
    simp; omega) (fun q ao=>by
    simp only[World.frozen?,aL]
    rcases kz with h | h
    ·simp; omega
    ·simp; omega) U
  simp only[Nat.add_zero]at dn;rw[xq g e dB vs j w cur aL TV]at dn;have dE:(storeVar t ⟨g,j,none⟩ v).run X.P w=.ok () (w.setRow g (cur.toList.take j++vs++cur.toList.drop (j+vs.length)).toArray):=by
   unfold storeVar
   simp[bC.run_sizeOf hi,cQ]
   rw[pI];rw[List.append_assoc]at dn;exact dn
  refine KO ar a6 (w':=w.setRow g (cur.toList.take j++vs++cur.toList.drop (j+vs.length)).toArray) (by simp only[execOp,ax,ar.aD aj,ar.aD aT,Instr.storeAt,Instr.sureAddr,Sem.run_bind,Sem.run_pure,Result.andThen_ok,dE]) ?_ h;refine ar.aJ.sU aA ⟨rfl,rfl,rfl,by simp,fun q ao=>setRow_other w g q _ (fun cm=>by subst cm; exact pB ao)⟩ (c':=.row (some ⟨g,0,none⟩) c e size m (xs.take j++vs++xs.drop (j+vs.length))) ?_ (fun q ao=>.inl ao) fun q _ ao=>setRow_other w g q _ (fun cm=>ao (by subst cm; rfl))
  have hlen:(cur.toList.take j++vs++cur.toList.drop (j+vs.length)).length=cur.size:=by simp; omega
  refine⟨by simp; omega,.inr ⟨g,_,dB,rfl,pB,setRow_heap w g cur _ e _ aL,?_,oL,h9,?_,?_⟩⟩
  ·rcases kz with h | h
   ·exact .inl h
   ·exact .inr (by rw[List.size_toArray,hlen]; exact h)
  ·rw[List.size_toArray,hlen]; exact gi
  ·show(cur.toList.take j++vs++cur.toList.drop (j+vs.length)).take (m * size)=_
   rw[<- pC,List.take_take,Nat.min_eq_left (by omega),List.take_append,List.take_of_length_le (by simp; omega),List.drop_take]
   congr 2
   simp; omega
theorem TW(ar:X.tt.ok X.P) {x y:Operand} {t:TypeId} {g g' c:Bool} {e2 dH:bf} {st':aM} (ax:o.op=.store t x y) (dA:o.guard=none) (dX:o.dst=none) (aj:bm X st.L x=some (g,e2)) (aL:g=true) (aT:bm X st.L y=some (g',dH)) (fm:g'=true)
  (ae:xE X st t e2 dH=some (c,st')) (aa:c=true):s8 X n st o st':=by
 intro R W aG ks env B ai H a w ops KK h bS;obtain⟨vx,gW,kD⟩:=h.aD aj aL;obtain⟨vy,fp,iO⟩:=h.aD aT fm;unfold xE at ae
 split at ae
 ·rename_i bj cP ns
  have hi:=(bV.get ar cP).bk;have gi:cd env B ai dH.cells vy.cells.toList:=iO.cells fun c e=>by
   subst e;simp only[bf.cells,l5,Bool.and_true]at ns;exact dv.one ns iO
  have hJ:=gi.iD ns;have hlen:=gi.length
  split at ae
  ·rename_i id p cQ
   split at ae
   ·rename_i bQ cs bO
    split at ae
    ·rename_i r aq
     cases ae;obtain⟨b,he,rfl⟩:=kD;obtain⟨dk,K,⟨b',vs,cI,rfl,TX⟩,aA,fX⟩:=h.lD (b':=.cells bQ r) bO;rw[he]at cI;cases cI;obtain⟨rs,J,U⟩:=xD TX gi aq;refine LF h.sym ax ⟨dA,dX⟩ hi gW fp (by rw[<- Nat.eq_of_beq_eq_true cQ,<- hlen]; simp) hJ aA J fun aS w' cr=>?_
     obtain⟨H',ah⟩:=fX _ aS w' ⟨b,rs,he,rfl,U⟩ cr.aJ cr.st;exact bS _ _ _ _ ⟨fun h=>(by rw[ax]at h; cases h),fun h=>(by rw[ax]at h; cases h),fun h=>(by rw[ax]at h; cases h)⟩ ah
    ·cases ae
   ·cases ae
  ·rename_i id cA i p cQ
   split at ae
   ·rename_i bQ g l cap bO
    split at ae
    ·rename_i cs TY hcells
     split at ae
     ·rename_i r aq
      split at ae
      ·rename_i c' z rr av
       cases ae;simp only[Bool.and_eq_true,decide_eq_true_eq]at aa;obtain⟨a8,er⟩:=aa;obtain⟨b,cc,m,he,rfl⟩:=kD;have TZ:=Nat.eq_of_beq_eq_true TY;subst TZ;obtain⟨dk,K,⟨A,k,xs,cI,rfl,cv,fc⟩,aA,fX⟩:=h.lD (b':=.row bQ g (l.set i z) cap) bO;rw[he]at cI;cases cI;have qx:l[i]?=some (l.getD i g.zero):=by rw[List.getD_eq_getElem?_getD,List.getElem?_eq_getElem a8]; rfl
       have T0:=Flat.get (fun _ _=>bz.length) cv qx;obtain⟨us,⟨aiE,T1⟩,T2⟩:=bz.cells (env:=env) T0 hcells;have aiF:=bz.jq cv;have hmul:(i+1) * g.size<=l.length * g.size:=Nat.mul_le_mul_right _ a8;rw[Nat.add_mul,Nat.one_mul]at hmul;have T3:us=(xs.drop (i * g.size)).take g.size:=by
        apply List.ext_getElem?
        intro j
        by_cases aR:j < us.length
        ·have:=T1 j us[j] (List.getElem?_eq_getElem aR)
         rw[Nat.zero_add]at this;rw[this,List.getElem?_eq_getElem aR]
        ·rw[List.getElem?_eq_none (by omega),List.getElem?_eq_none (by simp; omega)]
       obtain⟨rs,J,U⟩:=xD T2 gi aq;obtain⟨v1,v2,vi,ah,au⟩:=oR U av er;obtain⟨aF,aY⟩:=J.eq;have jx:=bz.length ah;have qy:rs.length=g.size:=by rw[aF]; simp only[List.length_append,List.length_take,List.length_drop]; omega
       have fY:v2=[]:=by
        have:=congrArg List.length vi
        rw[List.length_append]at this;exact List.eq_nil_of_length_eq_zero (by omega)
       rw[fY,List.append_nil]at vi;subst vi;have EU:=Flat.set (fun _ _=>bz.length) cv a8 ah;refine A1 h.sym ax ⟨dA,dX⟩ hi gW fp (by rw[<- Nat.eq_of_beq_eq_true cQ,<- hlen]; simp) hJ aA (by omega) fun aS w' cr=>?_
       have LG:(l.set i z).length=l.length:=by simp
       obtain⟨H',bK⟩:=fX _ aS w' ⟨some ⟨b,0,none⟩,cc,_,by rw[LG]; exact he,by rw[LG],EU,fc⟩ (by
        have e:xs.take (i * g.size+p)++vy.cells.toList++xs.drop (i * g.size+p+vy.cells.toList.length)=xs.take (i * g.size)++rs++xs.drop (i * g.size+g.size):=by
         have aC:xs.drop (i * g.size+g.size)=(xs.drop (i * g.size+(p+vy.cells.toList.length))).drop (g.size - (p+vy.cells.toList.length)):=by rw[List.drop_drop]; congr 1; omega
         have aW:xs.drop (i * g.size+p+vy.cells.toList.length)=xs.drop (i * g.size+(p+vy.cells.toList.length)):=by rw[Nat.add_assoc]
         rw[aF,T3,List.take_take,Nat.min_eq_left (by omega),List.drop_take,List.drop_drop,List.take_add,aC,aW];simp only[List.append_assoc];rw[List.take_append_drop]
        rw[e]at cr;exact cr.aJ) cr.st
       exact bS _ _ _ _ ⟨fun h=>(by rw[ax]at h; cases h),fun h=>(by rw[ax]at h; cases h),fun h=>(by rw[ax]at h; cases h)⟩ bK
      ·cases ae
     ·cases ae
    ·cases ae
   ·cases ae
  ·cases ae
 ·cases ae
end
end
section
section
variable {env env':Nat->Loc} {B:Nat->Prop} {w:World}
theorem bz.iD:∀ {g:aQ} {x:g.D} {vs:List Value},bz B w g x vs->∀ u∈vs,u.oneCell'=true
 | .int _,_,_,h,u,hu=>by rw[show _=[_] from h]at hu; simp at hu; subst hu; rfl
 | .bool,_,_,h,u,hu=>by rw[show _=[_] from h]at hu; simp at hu; subst hu; rfl
 | .str,_,_,h,u,hu=>by rw[show _=[_] from h]at hu; simp at hu; subst hu; rfl
 | .an _,_,_,⟨_,_,_,h,_⟩,u,hu=>by rw[h]at hu; simp at hu; subst hu; rfl
 | .gI _,_,_,⟨_,_,h,_⟩,u,hu=>by rw[h]at hu; simp at hu; subst hu; rfl
 | .unit,_,_,h,u,hu=>by rw[show _=[] from h]at hu; cases hu
 | .fn,x,_,h,u,hu=>by rw[show _=[_] from h]at hu; simp at hu; subst hu; cases x<;>rfl
 | .pair _ _,_,_,⟨v1,v2,e,J,U⟩,u,hu=>by
  rw[e]at hu
  rcases List.mem_append.1 hu with hu | hu
  ·exact bz.iD J u hu
  ·exact bz.iD U u hu
theorem Flat.iD{α:Type} {R:α->List Value->Prop} (dT:∀ x vs,R x vs->∀ u∈vs,u.oneCell'=true):∀ {l:List α} {vs:List Value},Flat R l vs->∀ u∈vs,u.oneCell'=true
 | [],_,h,u,hu=>by rw[show _=[] from h]at hu; cases hu
 | _ :: _,_,⟨v1,v2,e,J,U⟩,u,hu=>by
  rw[e]at hu
  rcases List.mem_append.1 hu with hu | hu
  ·exact dT _ _ J u hu
  ·exact Flat.iD dT U u hu
theorem bz.eh:∀ g:aQ,bz B w g g.zero g.eh
 | .int _=>rfl
 | .bool=>rfl
 | .str=>rfl
 | .an _=>⟨none,0,[],rfl,Nat.le_refl _,Nat.zero_le _,rfl,Reads.nil _ _ _,fun _ _ h=>absurd h (Nat.lt_irrefl 0)⟩
 | .gI _=>⟨none,[],rfl,Nat.zero_le _,rfl,Reads.nil _ _ _,fun _ _ h=>absurd h (Nat.lt_irrefl 0)⟩
 | .unit=>rfl
 | .fn=>rfl
 | .pair g h=>⟨_,_,rfl,bz.eh g,bz.eh h⟩
theorem Flat.eh(g:aQ):∀ k:Nat,Flat (bz B w g) (List.replicate k g.zero) (eh g.eh k)
 | 0=>rfl
 | k+1=>⟨g.eh,_,rfl,bz.eh g,Flat.eh g k⟩
theorem bu.take{id:Nat}:∀ {l:bx} {H:List bb} {b:ct},bu env B w l H->aU l id=some b ->
  ∃ c Y Z,ej env B w id b c/\H=Y++c :: Z/\∀ (env':Nat->Loc) (z:ba),(∀ j,j≠id->env' j=env j)->(∀ v,dv env B w (.an id) v->dv env' B w z v)->∃ H2,H2.Sublist (Y++Z)/\bu env' B w (dq id z l) H2/\((∀ b,env id≠.blk b)->∀ c∈Y++Z,iv c=true->c∈H2)
 | [],_,_,_,h=>by cases h
 | (k,b') :: l,H,b,⟨c,H',e,J,U⟩,h=>by
  rw[cl]at h;subst e
  split at h
  ·rename_i e
   subst e;cases h;refine⟨c,[],H',J,rfl,fun env' z he bG=>?_⟩;have ES:∃ H2,H2.Sublist H'/\bu env' B w (dq id z l) H2/\((∀ b,env id≠.blk b)->∀ c∈H',iv c=true->c∈H2):=by
    by_cases ae:∀ b,env id≠.blk b
    ·obtain⟨H2,ah,au,aF⟩:=bu.Es he bG U (fun b c _ rM=>rM.nr fun t cs e=>by
      subst e;obtain⟨b',_,e,_⟩:=rM;exact ae _ e)
     exact⟨H2,ah,au,fun _=>aF⟩
    ·obtain⟨H2,ah,au⟩:=bu.del he bG U
     exact⟨H2,ah,au,fun h=>absurd h ae⟩
   obtain⟨H2,ah,au,aF⟩:=ES;refine⟨H2,ah,?_,aF⟩;unfold dq;rw[Nat.beq_refl];exact au
  ·rename_i e
   obtain⟨c',Y,Z,ah,au,aF⟩:=bu.take U h;have ab:Nat.beq k id=false:=by
    cases ae:Nat.beq k id with
    | false=>rfl
    | true=>exact absurd (Nat.eq_of_beq_eq_true ae).symm e
   refine⟨c',c :: Y,Z,ah,by rw[au]; rfl,fun env' z he bG=>?_⟩;obtain⟨H2,aY,bK,c7⟩:=aF env' z he bG;refine⟨c :: H2,aY.cons_cons _,?_,fun ae c' er ju=>?_⟩
   ·unfold dq
    rw[ab];exact⟨c,H2,rfl,J.sub he bG (Nat.ne_of_beq_eq_false ab),bK⟩
   ·rw[List.cons_append]at er
    rcases List.mem_cons.1 er with rfl | er
    ·exact List.mem_cons_self ..
    ·exact List.mem_cons_of_mem _ (c7 ae c' er ju)
end
section
variable {X:br} {R:Nat->Prop} {W:World} {aG:eX} {n:Nat} {ks:List Nat} {env:Nat->Loc} {B:Nat->Prop} {ai:World} {H:List bb} {st:aM} {a aS:Act} {w w':World} {o:Oper} {d:Nat}
theorem bH.EV(h:bH X R W aG n ks env B ai H st a w) {id:Nat} {b b':ct} (bO:aU st.H id=some b) (cC:∀ q,¬ aG.p id q):∃ c K,ej env B ai id b c/\iJ (H++ks.map c3) c K /\
  ∀ (l:Loc) c' aS w' sv v,ej (iE env id l) B ai id b' c'->ei (iE env id l) B ai sv v->bF (fun k=>R k\/B k) ai (K c') w'->cW n (jK ks aG) ((d,v) :: gl a) aS ->
   ∃ H',((∀ b,env id≠.blk b)->∀ c'∈H,iv c'=true->c'≠c->c'∈H')/\bH X R W aG n ks (iE env id l) B ai H' ⟨(d,sv) :: eJ id .dead st.L,(id,b') :: dq id .dead st.H⟩ aS w':=by
 obtain⟨c,Y,Z,J,U,ah⟩:=h.heap.take bO;refine⟨c,fun z=>Y++z :: (Z++ks.map c3),J,⟨Y,Z++ks.map c3,by rw[U]; simp,rfl⟩,fun l c' aS w' sv v ae aB ak aI=>?_⟩;obtain⟨H2,au,aF,hN⟩:=ah (iE env id l) .dead h1 (fun _ _=>trivial);refine⟨c' :: H2,fun ae q ao ju cu=>List.mem_cons_of_mem _ (hN ae q (by
  rw[U]at ao
  rcases List.mem_append.1 ao with ao | ao
  ·exact List.mem_append_left _ ao
  ·rcases List.mem_cons.1 ao with e | ao
   ·exact absurd e cu
   ·exact List.mem_append_right _ ao) ju),aI.size,aI.defs,fun s u hu=>?_,⟨c',H2,rfl,ae,aF⟩,?_,h.sub,h.new,pH h.df cC,h.base,h.dQ⟩
 ·rw[cl]at hu
  split at hu
  ·rename_i e; subst e; cases hu; exact⟨v,aI.this,aB⟩
  ·rename_i e
   obtain⟨hz,hA,rfl⟩:=l2 hu;obtain⟨eF,aY,bK⟩:=h.has s hz hA;exact⟨eF,aI.other e aY,ei.sub (z:=.dead) h1 (fun _ _=>trivial) bK⟩
 ·have aq:(Y++c' :: (Z++ks.map c3)).Perm (c' :: (Y++Z++ks.map c3)):=by
   rw[List.append_assoc];exact List.perm_middle
  exact(ak.perm aq).ep ((au.append_right _).cons_cons _)
def xF(X:br) (L:cL) (size:Nat):List (Nat×Operand)->Nat->Option (Bool×List ba)
 | [],_=>some (true,[])
 | (j,u) :: r,k=>match Nat.beq j k,bm X L u,xF X L size r (k+1)with
  | true,some (g,x),some (c,l)=>match Nat.beq x.cells.length size,l5 x.cells with
   | true,true=>some (g&&c,x.cells++l)
   | _,_=>none
  | _,_,_=>none
def xG(g:aQ):Nat->List ba->Option (Bool×List g.D)
 | 0,_=>some (true,[])
 | k+1,cs=>match dec g cs with
  | some (c,x,r)=>match xG g k r with
   | some (c',l)=>some (c&&c',x :: l)
   | none=>none
  | none=>none
def newRow(n:Nat) (st:aM) (d:Nat) (t:TypeId) (g:aQ) (l:List g.D) (cap:Option Nat):Option aM:=
 match Nat.blt d n with
 | true=>some ⟨(d,.c (.an d)) :: eJ d .dead st.L,(d,.row t g l cap) :: dq d .dead st.H⟩
 | false=>none
def xH(X:br) (n:Nat) (st:aM) (t:TypeId) (N:Nat) (ps:List (Nat×Operand)) (d:Nat):Option (Bool×aM):=
 match X.tt.find t with
 | some ⟨⟨.slice e,_,_,_⟩,_⟩=>match X.tt.find e with
  | some ⟨bj,some g⟩=>match Nat.ble (N * bj.size) 16777216,Nat.beq ps.length N,xF X st.L bj.size ps 0 with
   | true,true,some (c,cs)=>match xG g N cs with
    | some (c',l)=>match newRow n st d e g l (some N)with
     | some st'=>some (c&&c',st')
     | none=>none
    | none=>none
   | _,_,_=>none
  | _=>none
 | _=>none
theorem EW{env:Nat->Loc} {B:Nat->Prop} {w:World} {g:aQ}:∀ {k:Nat} {cs:List ba} {c:Bool} {l:List g.D} {vs:List Value},cd env B w cs vs->xG g k cs=some (c,l)->c=true->l.length=k/\∃ v1 v2,vs=v1++v2/\Flat (bz B w g) l v1
 | 0,cs,c,l,vs,_,av,_=>by cases av; exact⟨rfl,[],vs,rfl,rfl⟩
 | k+1,cs,c,l,vs,h,av,aa=>by
  simp only[xG]at av
  split at av
  ·rename_i fs x r J
   split at av
   ·rename_i cF bw U
    cases av;simp only[Bool.and_eq_true]at aa;obtain⟨v1,v2,rfl,ah,au⟩:=oR h J aa.1;obtain⟨aF,v3,v4,rfl,aY⟩:=EW au U aa.2;exact⟨by rw[List.length_cons,aF],v1++v3,v4,by rw[List.append_assoc],v1,v3,rfl,ah,aY⟩
   ·cases av
  ·cases av
theorem cd.append{env:Nat->Loc} {B:Nat->Prop} {w:World}:∀ {cs aE:List ba} {vs us:List Value},cd env B w cs vs->cd env B w aE us->cd env B w (cs++aE) (vs++us)
 | [],_,_,_,h,aO=>by rw[show _=[] from h]; exact aO
 | _ :: _,_,_,_,⟨v,r,e,J,U⟩,aO=>⟨v,_,by rw[e]; rfl,J,cd.append U aO⟩
theorem EX(h:bH X R W aG n ks env B ai H st a w) {size:Nat}:∀ {ps:List (Nat×Operand)} {k:Nat} {c:Bool} {cs:List ba},xF X st.L size ps k=some (c,cs)->c=true ->
  ∃ vs:List Value,(ps.map fun p=>(p.1,a.eval p.2))=(vs.zipIdx k).map (fun p=>(p.2,p.1))/\(∀ v∈vs,v.cells.size=size)/\cd env B ai cs (vs.flatMap fun v=>v.cells.toList)
 | [],k,c,cs,aq,_=>by cases aq; exact⟨[],rfl,(fun _ h=>by cases h),rfl⟩
 | (j,u) :: ps,k,c,cs,aq,aa=>by
  simp only[xF]at aq
  split at aq
  ·rename_i g x c' l aR hu az
   split at aq
   ·rename_i cQ ns
    cases aq;simp only[Bool.and_eq_true]at aa;obtain⟨v,J,U⟩:=h.aD hu aa.1;have gi:cd env B ai x.cells v.cells.toList:=U.cells fun c e=>by
     subst e;simp only[bf.cells,l5,Bool.and_true]at ns;exact dv.one ns U
    obtain⟨vs,ah,au,aF⟩:=EX h az aa.2;refine⟨v :: vs,?_,fun u hu=>?_,?_⟩
    ·rw[List.map_cons,ah,List.zipIdx_cons,List.map_cons,h.bL.aD J,Nat.eq_of_beq_eq_true aR]
    ·rcases List.mem_cons.1 hu with rfl | hu
     ·rw[<- Nat.eq_of_beq_eq_true cQ,<- gi.length]; simp
     ·exact au u hu
    ·rw[List.flatMap_cons]
     exact gi.append aF
   ·cases aq
  ·cases aq
theorem LH(size:Nat):∀ (vs:List Value) (k:Nat) (done zs:List Value),(∀ v∈vs,v.cells.size=size)->done.length=k * size->zs.length=vs.length * size ->
  Instr.fill (fun i=>some (i * size,size)) (done++zs).toArray ((vs.zipIdx k).map fun p=>(p.2,p.1))=some (done++vs.flatMap fun v=>v.cells.toList).toArray
 | [],k,done,zs,_,_,ad=>by
  have:zs=[]:=List.eq_nil_of_length_eq_zero (by simpa using ad)
  subst this; simp[Instr.fill]
 | v :: vs,k,done,zs,aB,av,ad=>by
  have mL:=aB v (by simp);have EY:v.cells.toList.length=size:=by simpa using mL
  have bG:size<=zs.length:=by rw[ad,List.length_cons,Nat.add_mul]; omega
  have bA:=LH size vs (k+1) (done++v.cells.toList) (zs.drop size) (fun u hu=>aB u (List.mem_cons_of_mem _ hu)) (by rw[List.length_append,av,EY,Nat.add_mul]; omega) (by rw[List.length_drop,ad,List.length_cons,Nat.add_mul]; omega);have aq:=Eo v.cells.toList (done++zs) (k * size) 0 (by rw[List.length_append,av,EY]; omega);simp only[List.zipIdx_cons,List.map_cons,Instr.fill];rw[if_neg (by simp[mL,av]; omega)];rw[<- Array.foldl_toList];simp only[Array.toList_zipIdx];simp only[Nat.add_zero]at aq;rw[aq,<- av,List.take_left,EY];have aW:(done++zs).drop (done.length+size)=zs.drop size:=by rw[List.drop_append]; simp
  rw[aW]
  simpa using bA
theorem range_zero(z:List Value) (k:Nat) (size:Nat) (ak:z.length=size) (aN:0 < size):(Array.range (k * size)).map (fun j=>z.toArray[j % z.toArray.size]!)=(eh z k).toArray:=by
 subst ak; exact K1 z aN k
theorem LI{P:Program} {t e:TypeId} {i:bC} {N:Nat} {vs:List Value} {z:List Value} {w:World} (aV:P.underlying t=some (.slice e)) (hi:bC.ok P e i) (bG:i.zero.cells.toList=z) (xI:z.length=i.size) (aN:0 < i.size) (bd:vs.length=N) (hle:N * i.size<=16777216) (aB:∀ v∈vs,v.cells.size=i.size) :
  (Instr.buildSlice t N ((vs.zipIdx.map fun p=>(p.2,p.1)).toArray)).run P w=.ok (.slice (some ⟨w.heap.size,0,none⟩) N N) (w.alloc (.cells (vs.flatMap fun v=>v.cells.toList).toArray e)):=by
 have vg:=LH i.size vs 0 [] (eh z N) aB (by simp) (by rw[xt,xI,bd]);simp only[List.nil_append]at vg;have qu:=range_zero z N i.size xI aN;have l4:i.zero.cells=z.toArray:=by rw[<- bG]
 unfold Instr.buildSlice;simp only[Sem.run_bind,run_underlying aV,Result.andThen_ok,bC.run_sizeOf hi];rw[if_neg (by omega)]
 by_cases cu:N * i.size=0
 ·have T4:N=0:=by
   rcases Nat.mul_eq_zero.1 cu with h | h
   ·exact h
   ·omega
  subst T4
  have:vs=[]:=List.eq_nil_of_length_eq_zero bd
  subst this;have gE:(Array.range 0)=#[]:=rfl
  simp[Instr.fill,newObj,Sem.run,Go.newRow,gE]
 ·simp only[cu,if_false,Sem.run_bind,bC.pw hi,Result.andThen_ok,Sem.run_pure,l4]
  rw[qu]
  simp[vg,Go.newRow,newObj,Sem.run]
theorem T5(ar:X.tt.ok X.P) {t:TypeId} {N:Nat} {ps:Array (Nat×Operand)} {c:Bool} {st':aM} (ax:o.op=.buildSlice t N ps) (dA:o.guard=none) (dX:o.dst=some d) (ae:xH X n st t N ps.toList d=some (c,st')) (aa:c=true):s8 X n st o st':=by
 intro R W aG ks env B ai H a w ops KK h bS;unfold xH at ae
 split at ae
 ·rename_i e s1 s2 EZ s4 aA
  split at ae
  ·rename_i bj g cP
   split at ae
   ·rename_i fs cs hle gx hpc
    split at ae
    ·rename_i cF l hdn
     split at ae
     ·rename_i fI kd
      cases ae;simp only[Bool.and_eq_true]at aa;unfold Go.Proofs.YtcheedjfedcbpaaGreatDoor.newRow at kd
      split at kd
      ·rename_i av
       cases kd;obtain⟨cR,dp,ib⟩:=(bV.get ar cP).g g rfl;have n2:=(bV.get ar cP).bk;dsimp only at cR dp n2;obtain⟨vs,J,U,ah⟩:=EX h hpc aa.1;obtain⟨au,v1,v2,aF,aY⟩:=EW ah hdn aa.2;have mL:vs.length=N:=by
        have:=congrArg List.length J
        simp only[List.length_map,List.length_zipIdx]at this;rw[<- this];exact Nat.eq_of_beq_eq_true gx
       have s9:(vs.flatMap fun v=>v.cells.toList).length=N * bj.size:=by
        rw[<- mL]
        clear J ah aF mL
        induction vs with
        | nil=>simp
        | cons v vs bA=>rw[List.flatMap_cons,List.length_append,bA (fun u hu=>U u (List.mem_cons_of_mem _ hu)),List.length_cons,Nat.add_mul,Nat.one_mul,Array.length_toList,U v (by simp),Nat.add_comm]
       have fY:v2=[]:=by
        have aC:=congrArg List.length aF;rw[List.length_append,bz.jq aY,au,s9,cR]at aC;exact List.eq_nil_of_length_eq_zero (by omega)
       subst fY;rw[List.append_nil]at aF;have dE:=LI (w:=w) (N:=N) (vs:=vs) (bV.get ar aA).bk.1 n2 (z:=g.eh) dp (by rw[<- bz.length (bz.eh (B:=B) (w:=ai) g)]at cR; exact cR) (by rw[<- cR]; exact ib) mL (Nat.le_of_ble_eq_true hle) U;have jL:ps.map (fun p=>(p.1,a.eval p.2))=((vs.zipIdx.map fun p=>(p.2,p.1)).toArray):=by
        rw[<- J,<- List.map_toArray]
       refine fU h.bL dA dX (du av) (v:=.slice (some ⟨w.heap.size,0,none⟩) N N) (w':=w.alloc (.cells (vs.flatMap fun v=>v.cells.toList).toArray e)) (by
        simp only[execOp,ax];rw[jL]
        simp[dE]) fun aS aI=>?_
       have cC:=bF.AL (size:=g.size) (m:=N) (h.aJ.xo (vs.flatMap fun v=>v.cells.toList) e) (by rw[s9,cR]) (by
        have:=Nat.le_of_ble_eq_true hle
        have bK:N<=N * bj.size:=Nat.le_mul_of_pos_right _ (by rw[<- cR]; exact ib);omega)
       obtain⟨H',kY,c7⟩:=h.mK (d:=d) av (l:=.row (some ⟨w.heap.size,0,none⟩) N l.length) (blk:=.row e g l (some N)) (sv:=.c (.an d)) cC ⟨_,_,_,eG,by rw[au],by rw[aF]; exact aY,fun q ao=>by cases ao; rfl⟩ ⟨_,_,_,eG,by rw[au]⟩ aI;exact bS _ _ _ _ ⟨fun _=>(Below.refl _ _).alloc (Nat.le_refl _) _,fun _ a7=>kY.1 (by simpa [pG,dX] using a7),fun _ a7=>kY.2 (by simpa [rL,dX] using a7)⟩ c7
      ·cases kd
     ·cases ae
    ·cases ae
   ·cases ae
  ·cases ae
 ·cases ae
theorem LJ{P:Program} {B:Nat->Prop} {ai w:World} {H:List bb} {t e:TypeId} {i':bC} {z:List Value} {m c:Nat} {k k':IntKind} (ds:bF B ai H w) (aC:P.underlying t=some (.slice e)) (cB:bC.ok P e i') (au:i'.zero.cells=z.toArray) (aF:z.length=i'.size) (cQ:0 < i'.size)
  (T6:m<=c) (ae:i'.bytes * c<=140737488355328) (aa:c<=140737488355328) :
  (Instr.makeSlice t (.int k (m:Int)) (.int k' (c:Int))).run P w=.ok (.slice (some ⟨w.heap.size,0,none⟩) m c) (w.alloc (.cells (eh z c).toArray e))/\bF B ai (.row (some ⟨w.heap.size,0,none⟩) c e i'.size m (eh z m) :: H) (w.alloc (.cells (eh z c).toArray e)):=by
 obtain⟨inf,pz,e5,h8,l1⟩:=bC.info cB;have dm:(inf.bytes:Int) * (c:Int)<=281474976710656:=by
  have:((inf.bytes * c:Nat):Int)<=140737488355328:=by rw[h8]; omega
  rw[Int.natCast_mul]at this;omega
 constructor
 ·have az:=run_make (P:=P) w t e inf i'.zero aC pz l1 k k' m c (by omega) (by omega) dm (by omega)
  simp only[Int.toNat_natCast]at az;rw[az];have bG:madeCells i'.zero.cells (c * inf.size)=(eh z c).toArray:=by
   rw[e5,au,<- aF];unfold madeCells;exact K1 z (by omega) c
  rw[bG]
 ·have bo:=ds.alloc (.cells (eh z c).toArray e)
  have aq:=List.pairwise_cons.1 bo.apart;refine⟨bo.below,bo.base,fun dk jI=>?_,List.Pairwise.cons (fun dk jI b cm=>aq.1 dk jI b (by simpa [bb.has] using cm)) aq.2⟩
  rcases List.mem_cons.1 jI with rfl | jI
  ·refine⟨by rw[xt,aF],.inr ⟨w.heap.size,_,(0,0),rfl,ds.fresh,heap_alloc_new w _,.inl rfl,T6,by unfold maxLen; omega,by simp[xt,aF],?_⟩⟩
   have:eh z c=eh z m++eh z (c - m):=by
    unfold eh;rw[<- List.flatten_append,List.replicate_append_replicate]
    congr 2
    omega
   show(eh z c).take _=_;rw[this,List.take_left' (by rw[xt,aF])]
  ·exact bo.ok dk (List.mem_cons_of_mem _ jI)
def vj:Option aQ->aQ->aQ
 | some (.an (.gI h)),.an _=>.gI h
 | _,g=>g
theorem T7(qk:Option aQ) (g:aQ):(vj qk g).size=g.size/\(vj qk g).eh=g.eh:=by
 unfold vj
 split<;>exact⟨rfl,rfl⟩
def xJ(X:br) (n:Nat) (st:aM) (t:TypeId) (x y:bf) (d:Nat):Option (Bool×aM):=
 match X.tt.find t with
 | some ⟨⟨.slice e,_,_,_⟩,qk⟩=>match X.tt.find e with
  | some ⟨⟨_,_,gJ,_⟩,some g⟩=>match x,y with
   | .c (.val (.int _ h2)),.c (.val (.int _ hr))=>match newRow n st d e (vj qk g) (List.replicate h2.toNat (vj qk g).zero) (some hr.toNat)with
    | some st'=>some (decide (0<=h2)&&decide (h2<=hr)&&gw gJ hr,st')
    | none=>none
   | _,_=>none
  | _=>none
 | _=>none
theorem T8(ar:X.tt.ok X.P) {t:TypeId} {x y:Operand} {g g' c:Bool} {e2 dH:bf} {st':aM} (ax:o.op=.makeSlice t x y) (dA:o.guard=none) (dX:o.dst=some d) (aj:bm X st.L x=some (g,e2)) (aL:g=true) (aT:bm X st.L y=some (g',dH)) (fm:g'=true)
  (ae:xJ X n st t e2 dH d=some (c,st')) (aa:c=true):s8 X n st o st':=by
 intro R W aG ks env B ai H a w ops KK h bS;obtain⟨vx,gW,kD⟩:=h.aD aj aL;obtain⟨vy,fp,iO⟩:=h.aD aT fm;unfold xJ at ae
 split at ae
 ·rename_i e s1 s2 EZ s4 aA
  split at ae
  ·rename_i aE cA gJ jM g cP
   split at ae
   ·rename_i k h2 k' hr
    split at ae
    ·rename_i fI kd
     cases ae;simp only[Bool.and_eq_true,decide_eq_true_eq]at aa;obtain⟨⟨qt,qu⟩,l4⟩:=aa;obtain⟨l4,E0⟩:=(Lh (by omega)).1 l4;unfold Go.Proofs.YtcheedjfedcbpaaGreatDoor.newRow at kd
     split at kd
     ·rename_i av
      cases kd;rw[show vx=_ from kD]at gW;rw[show vy=_ from iO]at fp;obtain⟨cR,dp,ib⟩:=(bV.get ar cP).g g rfl;obtain⟨T,bE,J,au⟩:=mG (bV.get ar aA).bk (bV.get ar cP).bk;dsimp only at cR dp au;obtain⟨jN,ek⟩:=T7 s4 g;rw[<- jN]at cR ib;rw[<- ek]at dp
      clear jN ek
      generalize vj s4 g=g at cR dp ib bS ⊢
      have xI:g.eh.length=cA:=by rw[<- cR]; exact bz.length (bz.eh (B:=B) (w:=ai) g)
      obtain⟨dE,cC⟩:=LJ (i':=⟨aE,cA,gJ,jM⟩) h.aJ (bV.get ar aA).bk.1 (bV.get ar cP).bk (z:=g.eh) (by rw[<- dp]) xI (by rw[<- cR]; exact ib) (k:=k) (k':=k') (m:=h2.toNat) (c:=hr.toNat) (by omega) (by
       have:((gJ * hr.toNat:Nat):Int)=(gJ:Int) * hr:=by rw[Int.natCast_mul,Int.toNat_of_nonneg (by omega)]
       show gJ * hr.toNat<=_;omega) (by omega)
      rw[Int.toNat_of_nonneg qt,Int.toNat_of_nonneg (by omega)]at dE;refine fU h.bL dA dX (du av) (v:=.slice (some ⟨w.heap.size,0,none⟩) h2.toNat hr.toNat) (w':=w.alloc (.cells (eh g.eh hr.toNat).toArray e)) (by simp[execOp,ax,h.bL.aD gW,h.bL.aD fp,dE]) fun aS aI=>?_
      obtain⟨H',kY,c7⟩:=h.mK (d:=d) av (l:=.row (some ⟨w.heap.size,0,none⟩) hr.toNat (List.replicate h2.toNat g.zero).length) (blk:=.row e g (List.replicate h2.toNat g.zero) (some hr.toNat)) (sv:=.c (.an d)) cC ⟨_,_,_,eG,by rw[List.length_replicate,cR],Flat.eh g _,fun q ao=>by cases ao; rfl⟩ ⟨_,_,_,eG,by rw[List.length_replicate]⟩ aI;exact bS _ _ _ _ ⟨fun _=>(Below.refl _ _).alloc (Nat.le_refl _) _,fun _ a7=>kY.1 (by simpa [pG,dX] using a7),fun _ a7=>kY.2 (by simpa [rL,dX] using a7)⟩ c7
     ·cases kd
    ·cases ae
   ·cases ae
  ·cases ae
 ·cases ae
end
end
section
def kZ(st:aM) (g:aQ):bf->Option (List g.D)
 | .c (.val (.slice none 0 0))=>some []
 | .c (.bn g' l _)=>match decEq g' g with
  | isTrue h=>some (h ▸ l)
  | isFalse _=>none
 | .c (.an id)=>match aU st.H id with
  | some (.row _ g' l _)=>match decEq g' g with
   | isTrue h=>some (h ▸ l)
   | isFalse _=>none
  | _=>none
 | _=>none
def en(gJ k:Nat):Bool:=decide (k * gJ<=140737488355328)&&decide (k<=140737488355328)
def xK(X:br) (n:Nat) (st:aM) (t:TypeId) (x y:bf) (d:Nat):Option (Bool×aM):=
 match X.tt.find t with
 | some ⟨⟨.slice e,_,_,_⟩,_⟩=>match X.tt.find e with
  | some ⟨⟨_,cA,gJ,_⟩,some ge⟩=>match x with
   | .c (.an id)=>match aU st.H id with
    | some (.row cm g l _)=>match Nat.blt d n&&Nat.blt id hZ,Nat.beq cm e,Nat.beq g.size cA,kZ st g y with
     | true,true,true,some bw=>some (en gJ (l.length+bw.length),⟨(d,.c (.an id)) :: eJ id .dead st.L,(id,.row e g (l++bw) none) :: dq id .dead st.H⟩)
     | _,_,_,_=>none
    | _=>none
   | .c (.val (.slice none 0 0))=>match kZ st ge y with
    | some bw=>match newRow n st d e ge bw none with
     | some st'=>some (en gJ bw.length,st')
     | none=>none
    | none=>none
   | .c (.bn g l (some c))=>match Nat.beq g.size cA,kZ st g y with
    | true,some bw=>match newRow n st d e g (l++bw) none with
     | some st'=>some (en gJ (l.length+bw.length)&&decide (c=l.length)&&decide (0 < l.length)&&decide (0 < bw.length),st')
     | none=>none
    | _,_=>none
   | _=>none
  | _=>none
 | _=>none
section
variable {X:br} {R:Nat->Prop} {W:World} {aG:eX} {n:Nat} {ks:List Nat} {env:Nat->Loc} {B:Nat->Prop} {ai:World} {H:List bb} {st:aM} {a aS:Act} {w w':World} {o:Oper} {d:Nat}
theorem mE.jo{A:Option Addr} {m size:Nat} {xs:List Value} (az:mE B ai A m size xs) (ak:bF (fun k=>R k\/B k) ai H w):Reads w A m size xs:=by
 refine⟨az.1.1,fun hm=>?_⟩;obtain⟨b,p,e,aa⟩:=az.1.2 hm;exact⟨b,p,e,fun j u hu=>AU (az.2 b p hm e) (aa j u hu) ak⟩
theorem qz(h:bH X R W aG n ks env B ai H st a w) {g:aQ} {y:bf} {l:List g.D} {v:Value} (ak:kZ st g y=some l) (az:dI env B ai y v):∃ A c xs,v=.slice A l.length c/\Flat (bz B ai g) l xs/\Reads w A l.length g.size xs:=by
 unfold kZ at ak
 split at ak
 ·cases ak
  exact⟨none,0,[],az,rfl,Reads.nil _ _ _⟩
 ·split at ak
  ·rename_i aL _
   subst aL;cases ak;obtain⟨A,c,xs,rfl,_,_,_,cv,gU⟩:=az;exact⟨A,c,xs,rfl,cv,gU.jo h.aJ⟩
  ·cases ak
 ·split at ak
  ·rename_i bO
   split at ak
   ·rename_i aL _
    subst aL;cases ak;obtain⟨A,c,m,he,rfl⟩:=az;obtain⟨dk,K,⟨b9,k',xs,cI,rfl,cv,_⟩,dV⟩:=h.heap.fE bO;rw[he]at cI;cases cI;exact⟨A,c,xs,rfl,cv,Reads.AN h.aJ dV.more.mem⟩
   ·cases ak
  ·cases ak
 ·cases ak
theorem T9(ar:X.tt.ok X.P) {t:TypeId} {x y:Operand} {g g' c:Bool} {e2 dH:bf} {st':aM} (ax:o.op=.call ⟨.builtin .append,⟨[x,y]⟩,⟨[t,t]⟩⟩) (dA:o.guard=none) (dX:o.dst=some d) (aj:bm X st.L x=some (g,e2)) (aL:g=true) (aT:bm X st.L y=some (g',dH)) (fm:g'=true)
  (ae:xK X n st t e2 dH d=some (c,st')) (aa:c=true):s8 X n st o st':=by
 intro R W aG ks env B ai H a w ops KK h bS;obtain⟨vx,gW,kD⟩:=h.aD aj aL;obtain⟨vy,fp,iO⟩:=h.aD aT fm;unfold xK at ae
 split at ae
 ·rename_i e s1 s2 EZ s4 aA
  split at ae
  ·rename_i aE cA gJ jM ge cP
   obtain⟨cR,dp,ib⟩:=(bV.get ar cP).g ge rfl;obtain⟨T,bE,J,au⟩:=mG (bV.get ar aA).bk (bV.get ar cP).bk;dsimp only at cR dp au;have nY:jM.cells.size=cA:=by
    have:jM.cells.toList.length=cA:=by rw[dp,<- cR]; exact bz.length (bz.eh (B:=B) (w:=ai) ge)
    simpa using this
   split at ae
   ·rename_i id
    split at ae
    ·rename_i cm g l cap bO
     split at ae
     ·rename_i bw ke he cQ l8
      cases ae;simp only[Bool.and_eq_true]at ke;obtain⟨av,ta⟩:=ke;have cI:=Nat.eq_of_beq_eq_true he;subst cI;have fM:=Nat.eq_of_beq_eq_true cQ;simp only[en,Bool.and_eq_true,decide_eq_true_eq]at aa;obtain⟨cY,cF,fZ,rfl,iF,gm⟩:=qz h l8 iO;obtain⟨A,c,m,iG,rfl⟩:=kD;obtain⟨dk,K,⟨b9,k',xs,mM,rfl,cv,_⟩,dV,nv⟩:=h.EV (d:=d) (b':=.row cm g (l++bw) none) bO (fun q aq=>by
       obtain⟨_,aF,aY⟩:=h.df _ _ aq;rw[iG]at aF
       rcases aY with⟨b,aY⟩ | aY
       ·rw[<- aF]at aY; cases aY
       ·have:=du ta; omega)
      rw[iG]at mM;cases mM;rw[fM]at dV gm;refine AJ h.sym ax ⟨dA,dX⟩ av bE J rfl au (by rw[<- cR]; exact Nat.ble_eq_true_of_le ib) nY gW fp dV gm (Flat.iD (fun _ _=>bz.iD) iF) aa.1 aa.2 fun b9 c' aS w' cr=>?_
      obtain⟨H',kY,c7⟩:=nv (.row b9 c' (l.length+bw.length)) _ aS w' (.c (.an id)) _ ⟨b9,c',xs++fZ,by rw[eG,List.length_append],by rw[List.length_append],cv.append iF,fun q ao=>by cases ao⟩ ⟨b9,c',_,eG,rfl⟩ (by rw[fM]; exact cr.aJ) cr.st;exact bS _ _ _ _ ⟨fun h=>(by rw[ax]at h; cases h),fun _ _ c aa ju=>kY (fun b=>by rw[iG]; simp) c aa ju (fun e=>by rw[e]at ju; cases ju),fun h=>(by rw[ax]at h; cases h)⟩ c7
     ·cases ae
    ·cases ae
   ·split at ae
    ·rename_i bw l8
     split at ae
     ·rename_i fI kd
      cases ae;simp only[en,Bool.and_eq_true,decide_eq_true_eq]at aa;unfold Go.Proofs.YtcheedjfedcbpaaGreatDoor.newRow at kd
      split at kd
      ·rename_i av
       cases kd;obtain⟨cY,cF,fZ,rfl,iF,gm⟩:=qz h l8 iO;rw[show vx=_ from kD]at gW;rw[cR]at gm;have tb:Sym n (jK ks aG) (gl a) (fun k=>R k\/B k) ai (.row none 0 e cA 0 [] :: (H++ks.map c3)) a w:=⟨h.bL,h.aJ.pD e cA⟩
       refine AJ tb ax ⟨dA,dX⟩ av bE J rfl au (by rw[<- cR]; exact Nat.ble_eq_true_of_le ib) nY gW fp u5 gm (Flat.iD (fun _ _=>bz.iD) iF) (by rw[Nat.zero_add]; exact aa.1) (by rw[Nat.zero_add]; exact aa.2) fun b9 c' aS w' cr=>?_
       rw[Nat.zero_add,List.nil_append,<- cR]at cr;obtain⟨H',kY,c7⟩:=h.mK (d:=d) av (l:=.row b9 c' bw.length) (blk:=.row e ge bw none) (sv:=.c (.an d)) cr.aJ ⟨_,_,_,eG,rfl,iF,fun q ao=>by cases ao⟩ ⟨_,_,_,eG,rfl⟩ cr.st;exact bS _ _ _ _ ⟨fun h=>(by rw[ax]at h; cases h),fun _ a7=>kY.1 (by simpa [pG,dX] using a7),fun h=>(by rw[ax]at h; cases h)⟩ c7
      ·cases kd
     ·cases ae
    ·cases ae
   ·rename_i g l cc
    split at ae
    ·rename_i bw cQ l8
     split at ae
     ·rename_i fI kd
      cases ae;simp only[en,Bool.and_eq_true,decide_eq_true_eq]at aa;obtain⟨⟨⟨ka,iu⟩,LK⟩,LL⟩:=aa;unfold Go.Proofs.YtcheedjfedcbpaaGreatDoor.newRow at kd
      split at kd
      ·rename_i av
       cases kd;have fM:=Nat.eq_of_beq_eq_true cQ;obtain⟨cY,cF,fZ,rfl,iF,gm⟩:=qz h l8 iO;obtain⟨A,c,xs,rfl,_,_,fc,cv,gU⟩:=kD;have A2:=fc _ rfl;have qA:=gU.jo h.aJ;rw[fM]at gm qA;obtain⟨vk,hO,rfl,_⟩:=qA.2 LK;obtain⟨jt,hp,rfl,_⟩:=gm.2 LL;refine Tn h.sym ax ⟨dA,dX⟩ av bE J rfl au (by rw[<- cR]; exact Nat.ble_eq_true_of_le ib) nY gW fp LK LL qA gm (by omega) ka.1 ka.2 fun kc c' aS w' cr=>?_
       rw[<- fM]at cr;obtain⟨H',kY,c7⟩:=h.mK (d:=d) av (l:=.row (some ⟨kc,0,none⟩) c' (l++bw).length) (blk:=.row e g (l++bw) none) (sv:=.c (.an d)) cr.aJ ⟨_,_,_,eG,by rw[List.length_append],cv.append iF,fun q ao=>by cases ao⟩ ⟨_,_,_,eG,by rw[List.length_append]⟩ cr.st;exact bS _ _ _ _ ⟨fun h=>(by rw[ax]at h; cases h),fun _ a7=>kY.1 (by simpa [pG,dX] using a7),fun h=>(by rw[ax]at h; cases h)⟩ c7
      ·cases kd
     ·cases ae
    ·cases ae
   ·cases ae
  ·cases ae
 ·cases ae
/-! ### Freezing -/
def di(id:Nat) (st:aM):Option aM:=
 match aU st.H id with
 | some (.row _ g l cap)=>some ⟨eJ id (.bn g l cap) st.L,dq id (.bn g l cap) st.H⟩
 | _=>none
theorem bH.di(h:bH X R W aG n ks env B ai H st a w) {id:Nat} {st':aM} (aA:di id st=some st'):∃ env' B' cD H',bH X R W aG n ks env' B' cD H' st' a w/\(∀ k,B k->B' k)/\c6 (fun k=>R k\/B k) ai cD/\∀ c∈H,iv c=true->c∈H':=by
 unfold Go.Proofs.YtcheedjfedcbpaaGreatDoor.di at aA
 split at aA
 ·rename_i t g l cap bO
  cases aA;obtain⟨c0,_,⟨A,k,xL,he,rfl,_,fc⟩,mN⟩:=h.heap.fE bO;have c8:ft B ai (fun q=>B q\/A.map (·.block)=some q) w:=⟨fun q ao=>.inl ao,fun q ao=>h.aJ.below.block q (.inr ao)⟩
  obtain⟨c,Y,Z,⟨b9,k',xs,cI,rfl,cv,_⟩,U,ah⟩:=(h.heap.up c8).take bO;rw[he]at cI;cases cI;have hs:bb.row A k t g.size l.length xs∈H++ks.map c3:=by rw[U]; simp
  have eW:ew w (fun k=>R k\/B k) t g.size A k l.length xs:=h.aJ.ok _ hs;have fN:∀ q,A.map (·.block)=some q->¬ (R q\/B q)/\q < w.heap.size:=fun q ao=>(h.aJ.ok _ hs).lt ao
  have rO:∀ v,dv env (fun q=>B q\/A.map (·.block)=some q) w (.an id) v->dv env (fun q=>B q\/A.map (·.block)=some q) w (.bn g l cap) v:=by
   rintro v ⟨b9,c',m,cI,rfl⟩;rw[he]at cI;cases cI;exact⟨A,k,xs,rfl,eW.le.1,eW.le.2,fc,cv,Reads.AN h.aJ hs,fun b p _ e=>.inr (by rw[e]; rfl)⟩
  obtain⟨H2,au,aF,LM⟩:=ah env (.bn g l cap) (fun _ _=>rfl) rO;have jO:=h.aJ.apart;rw[U,List.append_assoc,List.cons_append]at jO;refine⟨env,_,w,H2,⟨h.size,h.defs,fun s u hu=>?_,aF,?_,fun q ao=>.inl (h.sub q ao),fun q ao=>?_,h.df,h.base.trans ⟨h.aJ.below.os,h.aJ.below.tape,h.aJ.below.output,h.aJ.below.size,fun q ao=>h.aJ.below.block q (.inl ao)⟩,fun i x aj=>(h.dQ i x aj).up c8⟩,fun q ao=>.inl ao,h.aJ.below,fun c aa ju=>LM (fun b=>by rw[he]; simp) c ?_ ju⟩
  ·obtain⟨hz,hA,rfl⟩:=l2 hu
   obtain⟨eF,aY,bK⟩:=h.has s hz hA;exact⟨eF,aY,ei.sub (fun _ _=>rfl) rO (bK.up c8)⟩
  ·have ak:bF (fun k=>R k\/B k) ai (H2++ks.map c3) w:=by
    have aY:=h.aJ;rw[U]at aY;have aq:(Y++bb.row A k t g.size l.length xs :: Z++ks.map c3).Perm (bb.row A k t g.size l.length xs :: (Y++Z++ks.map c3)):=by
     simp only[List.append_assoc,List.cons_append];exact List.perm_middle
    exact(aY.perm aq).ep (((au.append_right _)).cons _)
   refine⟨c6.refl _ _,fun q ao=>?_,fun c aa=>(ak.ok c aa).base fun b ae bT=>?_,ak.apart⟩
   ·rcases ao with ao | ao | ao
    ·exact h.aJ.base q (.inl ao)
    ·exact h.aJ.base q (.inr ao)
    ·exact(fN q ao).2
   ·rcases bT with bT | bT | bT
    ·exact((ak.ok c aa).lt ae).1 (.inl bT)
    ·exact((ak.ok c aa).lt ae).1 (.inr bT)
    ·have h9:c∈Y++(Z++ks.map c3):=by
      rcases List.mem_append.1 aa with aa | aa
      ·have:=au.subset aa
       rcases List.mem_append.1 this with bK | bK
       ·exact List.mem_append_left _ bK
       ·exact List.mem_append_right _ (List.mem_append_left _ bK)
      ·exact List.mem_append_right _ (List.mem_append_right _ aa)
     rw[List.pairwise_append,List.pairwise_cons]at jO;obtain⟨_,⟨c7,_⟩,hN⟩:=jO
     rcases List.mem_append.1 h9 with bK | bK
     ·exact hN c bK _ List.mem_cons_self b ae bT
     ·exact c7 c bK b bT ae
  ·rcases ao with ao | ao
   ·exact(h.new q ao).imp_right fun aO=>⟨aO.1,aO.2.dP (h.aJ.below.block q (.inr ao))⟩
   ·exact .inr ⟨fun dT=>(fN q ao).1 (.inl dT),(h.aJ.ok _ hs).cells rfl ao⟩
  ·rw[U]at aa
   rcases List.mem_append.1 aa with aa | aa
   ·exact List.mem_append_left _ aa
   ·rcases List.mem_cons.1 aa with aa | aa
    ·rw[aa]at ju; cases ju
    ·exact List.mem_append_right _ aa
 ·cases aA
/-! ### Forgetting -/
inductive rP (L:cL):cL->Prop where
 | nil:rP L []
 | cons {k:Nat} {v:b0} {dL:cL} (ab:aU L k=some v) (h:rP L dL):rP L ((k,v) :: dL)
inductive kf (h:bx):bx->Prop where
 | nil:kf h []
 | cons {k:Nat} {b:ct} {aO:bx} (ab:aU h k=some b) (a7:aU aO k=none) (az:kf h aO):kf h ((k,b) :: aO)
theorem rP.look{L dL:cL} (h:rP L dL):∀ s v,aU dL s=some v->aU L s=some v:=by
 induction h with
 | nil=>intro s v h; cases h
 | cons ab _ bA=>
  intro s v h;rw[cl]at h
  split at h
  ·rename_i e; subst e; cases h; exact ab
  ·exact bA s v h
def l9(id:Nat):bx->bx
 | []=>[]
 | (k,b) :: r=>match Nat.beq k id with
  | true=>r
  | false=>(k,b) :: l9 id r
theorem bu.erase{id:Nat}:∀ {l:bx} {H:List bb} {b:ct},bu env B w l H->aU l id=some b->∃ c H2,ej env B w id b c/\H.Perm (c :: H2)/\bu env B w (l9 id l) H2
 | [],_,_,_,h=>by cases h
 | (k,b') :: l,H,b,⟨c,H',e,J,U⟩,h=>by
  rw[cl]at h;subst e
  split at h
  ·rename_i e
   subst e;cases h;refine⟨c,H',J,List.Perm.refl _,?_⟩;unfold l9;rw[Nat.beq_refl];exact U
  ·rename_i e
   obtain⟨c',H2,ah,au,aF⟩:=bu.erase U h;have ab:Nat.beq k id=false:=by
    cases ae:Nat.beq k id with
    | false=>rfl
    | true=>exact absurd (Nat.eq_of_beq_eq_true ae).symm e
   refine⟨c',c :: H2,ah,(List.Perm.cons _ au).trans (List.Perm.swap _ _ _),?_⟩;unfold l9;rw[ab];exact⟨c,H2,rfl,J,aF⟩
theorem LN{id k:Nat} (ab:k≠id):∀ {l:bx},aU (l9 id l) k=aU l k
 | []=>rfl
 | (j,b) :: l=>by
  unfold l9
  split
  ·rename_i h
   have:j=id:=Nat.eq_of_beq_eq_true h
   subst this;rw[cl,if_neg ab]
  ·rw[cl,cl,LN ab]
theorem kf.E1{l l':bx} (ak:kf l l'):∀ {H:List bb},bu env B w l H->∃ H' Y,H.Perm (H'++Y)/\bu env B w l' H':=by
 have key:∀ {l l':bx},(∀ k b,aU l' k=some b->aU l k=some b)->(∀ (p:Nat×ct) (Y Z:bx),l'=Y++p :: Z->aU Z p.1=none)->∀ {H:List bb},bu env B w l H->∃ H' Y,H.Perm (H'++Y)/\bu env B w l' H':=by
  intro l l'
  induction l' generalizing l with
  | nil=>intro _ _ H h; exact⟨[],H,List.Perm.refl _,rfl⟩
  | cons p r bA=>
   obtain⟨k,b⟩:=p;intro J U H h;have ab:=J k b (by rw[cl,if_pos rfl]);have a7:=U (k,b) [] r rfl;obtain⟨c,H2,ah,au,aF⟩:=h.erase ab;obtain⟨H',Y,aY,bK⟩:=bA (l:=l9 k l) (fun j b' aR=>by
    have cu:j≠k:=fun e=>by subst e; rw[a7]at aR; cases aR
    rw[LN cu];exact J j b' (by rw[cl,if_neg cu]; exact aR)) (fun p Y Z e=>U p ((k,b) :: Y) Z (by rw[e]; rfl)) aF
   exact⟨c :: H',Y,au.trans (List.Perm.cons _ aY),c,H',rfl,ah,bK⟩
 intro H h;refine key (l:=l) (l':=l') ?_ ?_ h
 ·clear h
  induction ak with
  | nil=>intro k b h; cases h
  | cons ab _ _ bA=>
   intro j b' h;rw[cl]at h
   split at h
   ·rename_i e; subst e; cases h; exact ab
   ·exact bA j b' h
 ·clear h
  induction ak with
  | nil=>intro p Y Z e; cases Y<;>cases e
  | cons _ a7 _ bA=>
   intro p Y Z e;cases Y with
   | nil=>cases e; exact a7
   | cons q Y=>cases e; exact bA p Y Z rfl
theorem bH.ep(h:bH X R W aG n ks env B ai H st a w) {st':aM} (dY:rP st.L st'.L) (ds:kf st.H st'.H):∃ H',bH X R W aG n ks env B ai H' st' a w:=by
 obtain⟨H',Y,J,U⟩:=ds.E1 h.heap;refine⟨H',h.size,h.defs,fun s u hu=>h.has s u (dY.look s u hu),U,?_,h.sub,h.new,h.df,h.base,h.dQ⟩;have aq:(H++ks.map c3).Perm ((H'++ks.map c3)++Y):=by
  refine(J.append_right _).trans ?_;rw[List.append_assoc,List.append_assoc];exact(List.perm_append_comm).append_left _
 exact(h.aJ.perm aq).ep (List.sublist_append_left _ _)
theorem bH.pD(h:bH X R W aG n ks env B ai H st a w) {s id:Nat} {t:TypeId} {g:aQ} (hid:∀ q,¬ aG.p id q) (ak:aU st.L s=some (.c (.val (.slice none 0 0)))):∃ env' H',bH X R W aG n ks env' B ai H' ⟨(s,.c (.an id)) :: eJ id .dead st.L,(id,.row t g [] none) :: dq id .dead st.H⟩ a w:=by
 obtain⟨H2,J,U⟩:=h.heap.del (z:=.dead) (h1 (env:=env) (id:=id) (l:=.row none 0 0)) (fun _ _=>trivial);obtain⟨v,ah,au⟩:=h.has _ _ ak;refine⟨iE env id (.row none 0 0),.row none 0 t g.size 0 [] :: H2,h.size,h.defs,fun q u hu=>?_,⟨_,H2,rfl,⟨none,0,[],eG,rfl,rfl,fun _ ao=>by cases ao⟩,U⟩,(h.aJ.pD t g.size).ep ((J.append_right _).cons_cons _),h.sub,h.new,pH h.df hid,h.base,h.dQ⟩;rw[cl]at hu
 split at hu
 ·rename_i e; subst e; cases hu; exact⟨v,ah,none,0,0,eG,au⟩
 ·obtain⟨hz,hA,rfl⟩:=l2 hu
  obtain⟨eF,aY,bK⟩:=h.has q hz hA;exact⟨eF,aY,ei.sub (z:=.dead) h1 (fun _ _=>trivial) bK⟩
end
end
section
inductive LO where
 | ok (c:Bool) (st:aM)
 | stop
def xM(X:br) (n:Nat) (st:aM) (d:Option Nat):Op->Option (Bool×aM)
 | .alloc t=>match d,X.tt.find t with
  | some d,some bj=>rN X n st t d (rI bj.bk.zero.cells.toList)
  | _,_=>none
 | .box t u=>match d,bm X st.L u with
  | some d,some (g,x)=>match l5 x.cells,rN X n st t d x.cells with
   | true,some (c,st')=>some (g&&c,st')
   | _,_=>none
  | _,_=>none
 | .store t u v=>match d,bm X st.L u,bm X st.L v with
  | none,some (g,x),some (g',y)=>match xE X st t x y with
   | some (c,st')=>some (g&&g'&&c,st')
   | none=>none
  | _,_,_=>none
 | .buildSlice t N ps=>match d with
  | some d=>xH X n st t N ps.toList d
  | none=>none
 | .makeSlice t u v=>match d,bm X st.L u,bm X st.L v with
  | some d,some (g,x),some (g',y)=>match xJ X n st t x y d with
   | some (c,st')=>some (g&&g'&&c,st')
   | none=>none
  | _,_,_=>none
 | .call ⟨.builtin .append,⟨[u,v]⟩,⟨[t,bQ]⟩⟩=>match d,Nat.beq t bQ,bm X st.L u,bm X st.L v with
  | some d,true,some (g,x),some (g',y)=>match xK X n st t x y d with
   | some (c,st')=>some (g&&g'&&c,st')
   | none=>none
  | _,_,_,_=>none
 | _=>none
def vl(X:br) (n:Nat) (L:cL) (H:bx) (o:Oper) (g:Bool):LO:=
 match s6 X ⟨L,H⟩ o.op,o.dst with
 | some (c,bq),some d=>match Nat.blt d n with
  | true=>.ok (!g || c) ⟨(d,.may g bq) :: L,H⟩
  | false=>.stop
 | _,_=>.stop
def A3(L:cL):Op->Option (List bf)
 | .move (.tmp s)=>match aU L s with
  | some (.da xs)=>some xs
  | _=>none
 | .assign (.tmp s)=>match aU L s with
  | some (.da xs)=>some xs
  | _=>none
 | _=>none
def n3(X:br) (n:Nat) (cz:List (Option Nat)):aM->Oper->LO
 | ⟨L,H⟩,o=>match o.guard with
  | none=>match s6 X ⟨L,H⟩ o.op with
   | some (c,bq)=>match o.dst with
    | some d=>match Nat.blt d n with
     | true=>.ok c ⟨(d,.a bq) :: L,H⟩
     | false=>.stop
    | none=>.stop
   | none=>match A3 L o.op with
    | some xs=>match o.dst with
     | some d=>match Nat.blt d n with
      | true=>.ok true ⟨(d,.da xs) :: L,H⟩
      | false=>.stop
     | none=>.stop
    | none=>match xM X n ⟨L,H⟩ o.dst o.op with
     | some (c,st')=>.ok c st'
     | none=>.stop
  | some (j,want)=>match nth cz j with
   | some (some s)=>match aU L s,want with
    | some (.a (.c (.val (.bool b)))),true=>vl X n L H o b
    | some (.a (.c (.val (.bool b)))),false=>vl X n L H o (!b)
    | some (.may g (.c (.val (.bool b)))),true=>vl X n L H o (g&&b)
    | some (.may g (.c (.val (.bool b)))),false=>vl X n L H o (g&&!b)
    | _,_=>.stop
   | _=>.stop
def et(l:List Oper):List (Option Nat):=l.map (·.dst)
section
variable {X:br} {R:Nat->Prop} {W:World} {aG:eX} {n:Nat} {ks:List Nat} {env:Nat->Loc} {B:Nat->Prop} {ai:World} {H:List bb} {st st':aM} {a aS:Act} {w w':World} {o:Oper} {d:Nat}
theorem Ua(ar:X.tt.ok X.P) {c:Bool} (dA:o.guard=none) (ae:xM X n st o.dst o.op=some (c,st')) (aa:c=true):s8 X n st o st':=by
 unfold xM at ae
 split at ae
 ·rename_i t ax
  split at ae
  ·rename_i d bj av cP
   exact TU ar ax dA av cP ae
  ·cases ae
 ·rename_i t u ax
  split at ae
  ·rename_i d g x av hu
   split at ae
   ·rename_i c' fI ad U
    cases ae;simp only[Bool.and_eq_true]at aa;exact TT ax dA av hu aa.1 ad U
   ·cases ae
  ·cases ae
 ·rename_i t u v ax
  split at ae
  ·rename_i g x g' y av hu aB
   split at ae
   ·rename_i c' fI U
    cases ae;simp only[Bool.and_eq_true]at aa;exact TW ar ax dA av hu aa.1.1 aB aa.1.2 U aa.2
   ·cases ae
  ·cases ae
 ·rename_i t N ps ax
  split at ae
  ·rename_i d av
   exact T5 ar ax dA av ae aa
  ·cases ae
 ·rename_i t u v ax
  split at ae
  ·rename_i d g x g' y av hu aB
   split at ae
   ·rename_i c' fI U
    cases ae;simp only[Bool.and_eq_true]at aa;exact T8 ar ax dA av hu aa.1.1 aB aa.1.2 U aa.2
   ·cases ae
  ·cases ae
 ·rename_i u v t bQ ax
  split at ae
  ·rename_i d g x g' y av aV hu aB
   split at ae
   ·rename_i c' fI U
    cases ae;simp only[Bool.and_eq_true]at aa;have xN:=Nat.eq_of_beq_eq_true aV;subst xN;intro R W aG ks env B ai H a w ops KK h bS;exact T9 ar ax dA av hu aa.1.1 aB aa.1.2 U aa.2 ops KK h bS
   ·cases ae
  ·cases ae
 ·cases ae
theorem Ub(h:bH X R W aG n ks env B ai H st a w) {ops:Array Oper} {KK:Act->World->Prop} {bq:bf} {g:Bool} (aq:g=true->gT X st o bq) (hw:Region.wanted o (yielded ops a.tmps)=g) (dX:o.dst=some d) (av:Nat.blt d n=true)
  (bS:∀ aS w' env' H',A0 o st H w H' w'->bH X R W aG n ks env' B ai H' ⟨(d,.may g bq) :: st.L,st.H⟩ aS w'->KK aS w'):eR X.P ops o KK a w:=by
 have put:∀ v,cW n (jK ks aG) ((d,v) :: gl a) (a.put o.dst v):=fun v=>by rw[dX]; exact h.bL.put d v (du av)
 cases g with
 | true=>
  obtain⟨v,J,U⟩:=aq rfl h;exact .inl ⟨hw,.inl ⟨v,w,U w (fun _=>h.aJ),bS _ _ _ _ ⟨fun _=>Below.refl _ _,fun _ _ c aa _=>aa,fun _ _ c aa=>aa⟩ (h.set ⟨fun _=>J,fun h=>by cases h⟩ (put v))⟩⟩
 | false=>exact .inr ⟨hw,bS _ _ _ _ ⟨fun _=>Below.refl _ _,fun _ _ c aa _=>aa,fun _ _ c aa=>aa⟩ (h.set ⟨(fun h=>by cases h),fun _=>rfl⟩ (put undef))⟩
theorem E2{α β:Type} {f:α->β}:∀ {l:List α} {k:Nat} {y:β},nth (l.map f) k=some y->∃ x,l[k]?=some x/\y=f x
 | [],_,_,h=>by cases h
 | x :: _,0,_,h=>by cases h; exact⟨x,rfl,rfl⟩
 | _ :: r,k+1,_,h=>by obtain⟨x,J,U⟩:=E2 (l:=r) h; exact⟨x,by rw[List.getElem?_cons_succ]; exact J,U⟩
theorem A4(ar:X.tt.ok X.P) {ops:Array Oper} {c g:Bool} (ak:vl X n st.L st.H o g=.ok c st') (aa:c=true) (h:bH X R W aG n ks env B ai H st a w) (hw:Region.wanted o (yielded ops a.tmps)=g) {KK:Act->World->Prop}
  (bS:∀ aS w' env' H',A0 o st H w H' w'->bH X R W aG n ks env' B ai H' st' aS w'->KK aS w'):eR X.P ops o KK a w:=by
 unfold vl at ak
 split at ak
 ·rename_i c' bq d aq dX
  split at ak
  ·rename_i av
   cases ak;exact Ub h (g:=g) (fun aL=>AY (st:=st) ar aq (by rw[aL]at aa; simpa using aa)) hw dX av bS
  ·cases ak
 ·cases ak
theorem LP(h:bH X R W aG n ks env B ai H st a w) {xs:List bf} (hm:A3 st.L o.op=some xs):∃ v,ei env B ai (.da xs) v/\∀ w,(execOp a.eval o).run X.P w=.ok (.value v) w:=by
 unfold A3 at hm
 split at hm
 ·rename_i s ax
  split at hm
  ·rename_i ys bO
   cases hm;obtain⟨v,J,U⟩:=h.has _ _ bO;exact⟨v,U,KP h.bL ax (h0 J)⟩
  ·cases hm
 ·rename_i s ax
  split at hm
  ·rename_i ys bO
   cases hm;obtain⟨v,J,U⟩:=h.has _ _ bO;exact⟨v,U,KQ h.bL ax (h0 J)⟩
  ·cases hm
 ·cases hm
theorem A5(ar:X.tt.ok X.P) {l:List Oper} {c:Bool} (ak:n3 X n (et l) st o=.ok c st') (aa:c=true) (h:bH X R W aG n ks env B ai H st a w) {KK:Act->World->Prop}
  (bS:∀ aS w' env' H',A0 o st H w H' w'->bH X R W aG n ks env' B ai H' st' aS w'->KK aS w'):eR X.P l.toArray o KK a w:=by
 obtain⟨L,rQ⟩:=st;simp only[n3]at ak
 split at ak
 ·rename_i dA
  split at ak
  ·rename_i c' bq aq
   split at ak
   ·rename_i d dX
    split at ak
    ·rename_i av
     cases ak;obtain⟨v,J,U⟩:=AY ar aq aa h;exact fU h.bL dA dX (du av) (U w (fun _=>h.aJ)) fun aS aI=>bS _ _ _ _ ⟨fun _=>Below.refl _ _,fun _ _ c aa _=>aa,fun _ _ c aa=>aa⟩ (h.set J aI)
    ·cases ak
   ·cases ak
  ·split at ak
   ·rename_i xs hm
    split at ak
    ·rename_i d dX
     split at ak
     ·rename_i av
      cases ak;obtain⟨v,J,U⟩:=LP h hm;exact fU h.bL dA dX (du av) (U w) fun aS aI=>bS _ _ _ _ ⟨fun _=>Below.refl _ _,fun _ _ c aa _=>aa,fun _ _ c aa=>aa⟩ (h.set J aI)
     ·cases ak
    ·cases ak
   ·split at ak
    ·rename_i c' fI he
     cases ak;exact Ua ar dA he aa _ _ h bS
    ·cases ak
 ·rename_i j want dA
  split at ak
  ·rename_i s aR
   obtain⟨ev,hP,rR⟩:=E2 aR;have l3:(l.toArray[j]?).bind (·.dst)=some s:=by simp[hP,<- rR]
   split at ak
   ·rename_i b bO
    obtain⟨v,J,U⟩:=h.has _ _ bO;rw[show v=_ from U]at J;refine A4 (st:=⟨L,rQ⟩) ar ak aa h ?_ bS;rw[rB h.sym dA l3 (h0 J)];cases b<;>rfl
   ·rename_i b bO
    obtain⟨v,J,U⟩:=h.has _ _ bO;rw[show v=_ from U]at J;refine A4 (st:=⟨L,rQ⟩) ar ak aa h ?_ bS;rw[rB h.sym dA l3 (h0 J)];cases b<;>rfl
   ·rename_i g b bO
    obtain⟨v,J,U,ah⟩:=h.has _ _ bO;refine A4 (st:=⟨L,rQ⟩) ar ak aa h ?_ bS;cases g with
    | true=>
     rw[show v=_ from U rfl]at J;rw[rB h.sym dA l3 (h0 J)];cases b<;>rfl
    | false=>
     rw[ah rfl]at J;rw[AF h.sym dA l3 (h0 J)]
     rfl
   ·rename_i g b bO
    obtain⟨v,J,U,ah⟩:=h.has _ _ bO;refine A4 (st:=⟨L,rQ⟩) ar ak aa h ?_ bS;cases g with
    | true=>
     rw[show v=_ from U rfl]at J;rw[rB h.sym dA l3 (h0 J)];cases b<;>rfl
    | false=>
     rw[ah rfl]at J;rw[AF h.sym dA l3 (h0 J)]
     rfl
   ·cases ak
  ·cases ak
end
def Uc(X:br) (R:Nat->Prop) (W:World) (aG:eX) (M:Bool) (n:Nat) (Q:Exit->aM->Prop):Exit->Act->World->Prop:=fun e a w=>∃ st,Q e st/\lB X R W aG M n st a w
def k0(X:br) (M:Bool) (n:Nat) (r:Option Nat) (c:Code) (st:aM) (Q:Exit->aM->Prop):Prop:=
 ∀ R W aG a w,lB X R W aG M n st a w->ky r X.P c (Uc X R W aG M n Q) a w
section
variable {X:br} {M:Bool} {n:Nat} {r:Option Nat} {st st':aM} {Q rS:Exit->aM->Prop} {fs cF c:Code} {ops l l':List Oper}
theorem E3(h:k0 X M n r c st Q) (ao:∀ e st,Q e st->rS e st):k0 X M n r c st rS:=fun R W aG a w ag=>wpIn_mono (h R W aG a w ag) fun e a w ⟨st,J,U⟩=>⟨st,ao e st J,U⟩
theorem Ud(h:Q .normal st):k0 X M n r .skip st Q:=fun R W aG a w ag=>KX ⟨st,h,ag⟩
theorem Ue{id:Nat} (h:Q (.exit id) st):k0 X M n r (.exit id) st Q:=fun R W aG a w ag=>El ⟨st,h,ag⟩
theorem Uf(h:Q .ret st):k0 X M n r .ret st Q:=fun R W aG a w ag=>SI ⟨st,h,ag⟩
def dh(X:br) (n:Nat) (st st':aM):Prop:=∀ R W aG M a w,lB X R W aG M n st a w->lB X R W aG M n st' a w
theorem dh.refl(st:aM):dh X n st st:=fun _ _ _ _ _ _ h=>h
theorem dh.trans{a b c:aM} (h:dh X n a b) (k:dh X n b c):dh X n a c:=fun _ _ _ _ _ _ ag=>k _ _ _ _ _ _ (h _ _ _ _ _ _ ag)
theorem dh.sub(dY:rP st.L st'.L) (ds:kf st.H st'.H):dh X n st st':=fun _ _ _ _ _ _ ⟨ks,env,B,ai,H,bJ,ag⟩=>by
 obtain⟨H',h⟩:=ag.ep dY ds;exact⟨ks,env,B,ai,H',bJ,h⟩
def vm(L:cL):List Nat->Option cL
 | []=>some []
 | k :: ks=>match aU L k,vm L ks with
  | some v,some r=>some ((k,v) :: r)
  | _,_=>none
def qB(h:bx):List Nat->Option bx
 | []=>some []
 | k :: ks=>match aU h k,qB h ks with
  | some b,some r=>match aU r k with
   | none=>some ((k,b) :: r)
   | some _=>none
  | _,_=>none
theorem E4{L:cL}:∀ {ks:List Nat} {dL:cL},vm L ks=some dL->rP L dL
 | [],_,h=>by cases h; exact .nil
 | k :: ks,dL,h=>by
  unfold vm at h
  split at h
  ·rename_i v r J U
   cases h;exact .cons J (E4 U)
  ·cases h
theorem tc{aN:bx}:∀ {ks:List Nat} {aO:bx},qB aN ks=some aO->kf aN aO
 | [],_,h=>by cases h; exact .nil
 | k :: ks,aO,h=>by
  unfold qB at h
  split at h
  ·rename_i b r J U
   split at h
   ·rename_i ah
    cases h;exact .cons J ah (tc U)
   ·cases h
  ·cases h
theorem dh.pick(ks ak:List Nat) {dL:cL} {H':bx} (J:vm st.L ks=some dL) (U:qB st.H ak=some H'):dh X n st ⟨dL,H'⟩:=dh.sub (E4 J) (tc U)
theorem dh.di{id:Nat} (h:di id st=some st'):dh X n st st':=fun _ _ _ _ _ _ ⟨ks,env,B,ai,H,bJ,ag⟩=>by
 obtain⟨env',B',cD,H',h,_⟩:=ag.di h;exact⟨ks,env',B',cD,H',bJ,h⟩
theorem dh.nil(s id:Nat) (t:TypeId) (g:aQ) (hid:Nat.blt id n=true) (ak:aU st.L s=some (.c (.val (.slice none 0 0)))):dh X n st ⟨(s,.c (.an id)) :: eJ id .dead st.L,(id,.row t g [] none) :: dq id .dead st.H⟩:=fun _ _ _ _ _ _ ⟨ks,env,B,ai,H,bJ,ag⟩=>by
 obtain⟨env',H',h⟩:=ag.pD (s:=s) (id:=id) (t:=t) (g:=g) (fun q aq=>by have J:=(ag.df _ _ aq).1; have U:=du hid; omega) ak;exact⟨ks,env',B,ai,H',bJ,h⟩
end
end
section
def vn(X:br) (B:Nat->Prop) (w:World):Prop:=∀ i x,X.AR i=some x->rH B w i x
def vo(X:br) (env:Nat->Loc) (B:Nat->Prop) (H:List bb) (W:World) (Q:b0->bx->Prop) (v:Value) (w':World):Prop:=
 ∃ env' B' cD H' sv aO,Q sv aO/\(∀ k,B k->B' k)/\(∀ k,B' k->B k\/(¬ gh W H k/\qs cD k))/\c6 (gh W H) W cD/\ei env' B' cD sv v/\bu env' B' cD aO H'/\bF (fun k=>gh W H k\/B' k) cD H' w'/\∀ id l,(mI<=id/\∃ b,l=.blk b)\/hZ<=id->env id=l->env' id=l
def AC(X:br) (f:FuncId) (args:List bf) (h:bx) (Q:b0->bx->Prop):Prop:=
 ∀ (B:Nat->Prop) (ai:World) (env:Nat->Loc) (vs:List Value) (H:List bb) (W:World),vn X B ai->dw env B ai args vs->bu env B ai h H->bF B ai H W->oJ X.P f vs.toArray W (vo X env B H W Q)
def E5(X:br) (st:aM):ResultVar->Option (Bool×bf)
 | .tmp s=>bm X st.L (.tmp s)
 | .cell s t=>match bm X st.L (.tmp s)with
  | some (g,.c (.ptr id 0))=>match AT X st t (.c (.ptr id 0))with
   | some (c,x)=>some (g&&c,x)
   | none=>none
  | _=>none
def A6(X:br) (st:aM):List ResultVar->Option (Bool×List bf)
 | []=>some (true,[])
 | r :: l=>match E5 X st r,A6 X st l with
  | some (c,x),some (c',xs)=>some (c&&c',x :: xs)
  | _,_=>none
def vp(X:br) (st:aM) (l:List ResultVar):Option (Bool×b0):=
 match A6 X st l with
 | some (c,[x])=>some (c,.a x)
 | some (c,xs)=>some (c,.da xs)
 | none=>none
def qC:Nat->List bf->cL
 | _,[]=>[]
 | k,x :: r=>(k,.a x) :: qC (k+1) r
section
variable {X:br} {R:Nat->Prop} {W:World} {aG:eX} {n:Nat} {ks:List Nat} {env:Nat->Loc} {B:Nat->Prop} {ai:World} {H:List bb} {st st':aM} {a aS:Act} {w w':World}
theorem dw.length:∀ {xs:List bf} {vs:List Value},dw env B w xs vs->vs.length=xs.length
 | [],_,h=>by rw[show _=[] from h]; rfl
 | _ :: _,_,⟨v,r,e,_,U⟩=>by rw[e,List.length_cons,List.length_cons,dw.length U]
theorem E6:∀ {xs:List bf} {vs:List Value} {k s:Nat} {sv:b0},dw env B w xs vs->aU (qC k xs) s=some sv->k<=s/\∃ v,vs[s - k]?=some v/\ei env B w sv v
 | [],_,_,_,_,_,h=>by cases h
 | x :: xs,vs,k,s,sv,⟨v,r,e,J,U⟩,h=>by
  unfold qC at h;rw[cl]at h;subst e
  split at h
  ·rename_i e
   subst e;cases h;exact⟨Nat.le_refl _,v,by simp,J⟩
  ·obtain⟨ah,u,au,aF⟩:=E6 U h
   exact⟨by omega,u,by rw[show s - k=(s - (k+1))+1 by omega,List.getElem?_cons_succ]; exact au,aF⟩
def A7(tmps:Array Value):ResultVar->Sem Value
 | .tmp t=>pure (tmps.getD t undef)
 | .cell s t=>do loadVar t (<- asAddr (tmps.getD s undef))
theorem LQ(fn:Func) (tmps:Array Value):results fn tmps=(do let vs <- fn.results.mapM (A7 tmps); pure (if h:vs.size=1 then vs[0] else .tuple vs)):=by
 unfold results
 congr 1
theorem Ug(ar:X.tt.ok X.P) (h:bH X R W aG n ks env B ai H st a w) {r:ResultVar} {c:Bool} {x:bf} (az:E5 X st r=some (c,x)) (aa:c=true) :
  ∃ v,dI env B ai x v/\∀ w,bF (fun k=>R k\/B k) ai (H++ks.map c3) w->(A7 a.tmps r).run X.P w=.ok v w:=by
 cases r with
 | tmp s=>
  obtain⟨v,J,U⟩:=h.aD (x:=.tmp s) az aa;refine⟨v,U,fun w _=>?_⟩
  have:=h.bL.aD J
  show(pure (a.eval (.tmp s)):Sem Value).run X.P w=_;rw[this]
  rfl
 | cell s t=>
  simp only[E5]at az
  split at az
  ·rename_i g id ak
   split at az
   ·rename_i c' y ad
    cases az;simp only[Bool.and_eq_true]at aa;obtain⟨v,J,b,he,rfl⟩:=h.aD ak aa.1;have U:=h.bL.aD J
    obtain ⟨u, ah, au⟩ := Lm (o := { dst := none, op := .load t (.tmp s), type := 0, pos := "", after := #[], guard := none }) ar rfl ak aa.1 (by rw [aa.2] at ad; exact ad) h
    refine⟨u,ah,fun w hw=>?_⟩;have aF:=au w (fun _=>hw);have aY:a.tmps.getD s undef=.pointer (some ⟨b,0,none⟩):=U;simp only[execOp,U,Instr.loadAt,Instr.sureAddr]at aF;simp only[A7,aY,asAddr];simp only[Sem.run_bind,Sem.run_pure,Result.andThen_ok]at aF ⊢;cases ao:(loadVar t ⟨b,0,none⟩).run X.P w with
    | ok q hB=>
     rw[ao]at aF;simp only[Result.andThen_ok]at aF;cases aF
     rfl
    | halt q hB=>rw[ao]at aF; simp[Result.andThen]at aF
   ·cases az
  ·cases az
theorem E7(ar:X.tt.ok X.P) (h:bH X R W aG n ks env B ai H st a w):∀ {l:List ResultVar} {c:Bool} {xs:List bf},A6 X st l=some (c,xs)->c=true ->
  ∃ vs,dw env B ai xs vs/\∀ w,bF (fun k=>R k\/B k) ai (H++ks.map c3) w->(l.mapM (A7 a.tmps)).run X.P w=.ok vs w
 | [],c,xs,az,_=>by cases az; exact⟨[],rfl,fun w _=>by simp⟩
 | r :: l,c,xs,az,aa=>by
  simp only[A6]at az
  split at az
  ·rename_i fs x cF ys J U
   cases az;simp only[Bool.and_eq_true]at aa;obtain⟨v,ah,au⟩:=Ug ar h J aa.1;obtain⟨vs,aF,aY⟩:=E7 ar h U aa.2;refine⟨v :: vs,⟨v,vs,rfl,ah,aF⟩,fun w hw=>?_⟩;rw[List.mapM_cons];simp only[Sem.run_bind,au w hw,Result.andThen_ok,aY w hw,Sem.run_pure]
  ·cases az
theorem Uh(ar:X.tt.ok X.P) (h:bH X R W aG n ks env B ai H st a w) {fn:Func} {l:List ResultVar} {c:Bool} {sv:b0} (aA:fn.results=l.toArray) (az:vp X st l=some (c,sv)) (aa:c=true) :
  ∃ v,ei env B ai sv v/\∀ w,bF (fun k=>R k\/B k) ai (H++ks.map c3) w->(results fn a.tmps).run X.P w=.ok v w:=by
 unfold vp at az
 split at az
 ·rename_i c' x J
  cases az;obtain⟨vs,U,ah⟩:=E7 ar h J aa;obtain⟨v,r,rfl,au,aF⟩:=U
  have:r=[]:=aF
  subst this;refine⟨v,au,fun w hw=>?_⟩;rw[LQ,aA]
  have:=ah w hw
  simp[this]
 ·rename_i c' xs cu J
  cases az;obtain⟨vs,U,ah⟩:=E7 ar h J aa;refine⟨.tuple vs.toArray,⟨vs,rfl,U⟩,fun w hw=>?_⟩;rw[LQ,aA];have ad:=U.length
  have:¬ vs.length=1:=fun e=>by
   rw[e]at ad
   match xs,ad,cu with
   | [x],_,cu=>exact cu x rfl
  simp[ah w hw,this]
 ·cases az
end
end
end Go.Proofs.YtcheedjfedcbpaaGreatDoor
