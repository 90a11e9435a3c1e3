/- Part 1 of 6 of the proof. -/
import Derived.WalkKit
import Derived.OwnWalkIn
import Derived.TacticsInMore
import Derived.OrdersIn
import Derived.RangeFuncCalls
import Derived.Below
import Derived.Laws.AppendOwn
import Derived.Laws.OwnMore
import Derived.Laws.CopyRow
import Derived.Laws.BitsAllLaws
import Derived.OrdersHeld
import Derived.MapKept
import Derived.Laws.StructEq
import Derived.Laws.IdiomCopy
import Derived.Laws.MakeOwn
import Derived.RangeFuncNested
import Derived.RangeFuncLeaves
import Derived.RangeFuncBound
import Derived.Laws.IdiomStrings
import Derived.ProofKit
import Derived.Deep.Slices
set_option linter.unusedSimpArgs false
set_option linter.unusedVariables false
set_option maxRecDepth 100000
namespace Go.Proofs.YtcheedjfedcbpaaGreatDoor
open Go.RowKit
section
def WF(r:Option Nat):Fence:={ Fence.wide with round:=r }
structure cT(n:Nat) (D:List Deferred) (L:List (Nat×Value)) (a:Act):Prop where
 size:a.tmps.size=n
 defs:a.defers=D
 has:∀ s v,L.lookup s=some v->a.tmps[s]?=some v
def aD(L:List (Nat×Value)):Operand->Option Value
 | .tmp s=>L.lookup s
 | .const v=>some v
 | .global g=>some (.pointer (some ⟨g,0,none⟩))
 | .func f=>some (.func (.func f) #[] #[])
def iE(L:List (Nat×Value)):List Operand->Option (List Value)
 | []=>some []
 | x :: xs=>match aD L x,iE L xs with
  | some v,some l=>some (v :: l)
  | _,_=>none
section
variable {n:Nat} {D:List Deferred} {L:List (Nat×Value)} {a:Act}
theorem cT.aD(h:cT n D L a) {x:Operand} {v:Value} (ak:aD L x=some v):a.eval x=v:=by
 cases x with
 | tmp s=>
  have J:=h.has s v ak;show a.tmps.getD s undef=v;rw[Array.getD_eq_getD_getElem?,J]; rfl
 | const u=>exact Option.some.inj ak
 | global g=>exact Option.some.inj ak
 | func f=>exact Option.some.inj ak
theorem cT.iE(h:cT n D L a):∀ {xs:List Operand} {vs:List Value},iE L xs=some vs->xs.map a.eval=vs
 | [],vs,ak=>by cases ak; rfl
 | x :: xs,vs,ak=>by
  unfold YtcheedjfedcbpaaGreatDoor.iE at ak;cases J:YtcheedjfedcbpaaGreatDoor.aD L x with
  | none=>rw[J]at ak; cases ak
  | some v=>
   cases U:YtcheedjfedcbpaaGreatDoor.iE L xs with
   | none=>rw[J,U]at ak; cases ak
   | some l=>
    rw[J,U]at ak;cases ak;rw[List.map_cons,h.aD J,h.iE U]
theorem cT.put(h:cT n D L a) (d:Nat) (v:Value) (ax:d < n):cT n D ((d,v) :: L) (a.put (some d) v):=by
 refine⟨?_,h.defs,fun s u an=>?_⟩
 ·simpa [Act.put] using h.size
 ·by_cases e:s=d
  ·subst e
   simp at an
   subst an
   simp[Act.put,h.size,ax]
  ·have:(s == d)=false:=by simpa using e
   rw[List.lookup_cons,this]at an;simp only[Act.put];rw[Array.getElem?_setIfInBounds_ne (fun cj=>e cj.symm)];exact h.has s u an
end
/-! ### One operation -/
section
variable {r:Option Nat} {P:Program} {ops:Array Oper} {Q:Exit->Act->World->Prop} {o:Oper} {KK:Act->World->Prop}
variable {n:Nat} {D:List Deferred} {L:List (Nat×Value)} {a:Act} {w:World}
abbrev se (r:Option Nat) (P:Program) (ops:Array Oper) (Q:Exit->Act->World->Prop) (l:List Oper) (a:Act) (w:World):Prop:=wpListIn (WF r) 0 P ops Q l a w
def x6(P:Program) (o:Oper) (a:Act) (w:World) (Fb:Value->World->Prop):Prop:=
 (∃ v w',(execOp a.eval o).run P w=.ok (.value v) w'/\Fb v w')\/(∃ w',(execOp a.eval o).run P w=.ok .skip w'/\Fb undef w') \/
 (∃ f args b1,(execOp a.eval o).run P w=.ok (.enter f args) b1/\Calls P f args b1 fun e w'=>∃ v,e=.returned v/\Fb v w')
def eS(P:Program) (ops:Array Oper) (o:Oper) (KK:Act->World->Prop) (a:Act) (w:World):Prop:=
 (Region.wanted o (yielded ops a.tmps)=true/\x6 P o a w fun v w'=>KK (a.put o.dst v) w')\/(Region.wanted o (yielded ops a.tmps)=false/\KK (a.put o.dst undef) w)
theorem Fc{x:Next} {w':World} (h:(execOp a.eval o).run P w=.ok x w') (ak:∀ d,x≠.defer d) (c:Call):o.op≠.defer c:=by
 intro aA;simp only[execOp,aA,Sem.run_bind]at h;cases aw:(resolve a.eval c o.type).run P w with
 | ok d b1=>
  rw[aw]at h
  simp at h
  exact ak d h.1.symm
 | halt y b1=>rw[aw]at h; simp[Result.andThen]at h
theorem Fe(h:∀ c,o.op≠.defer c):o.semAt r a.eval=execOp a.eval o:=by
 cases r with
 | none=>rfl
 | some l=>exact Oper.semAt_some l _ _ h
theorem eS.fenced(h:eS P ops o KK a w) :
  if Region.wanted o (yielded ops a.tmps)=true then Oper.wpIn (WF r) 0 P o a w KK Q else(∀ f,o.about P w a.eval=some f->(WF r).fn f)/\KK (a.put o.dst undef) w:=by
 rcases h with⟨hw,h⟩ | ⟨hw,h⟩
 ·rw[if_pos hw]
  refine⟨fun _ _=>trivial,?_⟩;show Oper.uponIn _ _ _ _ _ _ _ ((o.semAt r a.eval).run P w)
  rcases h with⟨v,w',aw,ab⟩ | ⟨w',aw,ab⟩ | ⟨f,args,b1,aw,aa⟩
  ·rw[Fe (Fc aw (fun _ h=>by cases h)),aw]; exact ab
  ·rw[Fe (Fc aw (fun _ h=>by cases h)),aw]; exact ab
  ·rw[Fe (Fc aw (fun _ h=>by cases h)),aw]
   refine⟨(fun h=>by cases h),?_⟩;have Tu:=(callsIn_wide (n:=0)).2 aa;refine CallsIn.mono (F:=WF r) Tu ?_;rintro e w' ⟨v,rfl,aC⟩;exact aC
 ·rw[if_neg (by rw[hw]; simp)]
  exact⟨fun _ _=>trivial,h⟩
theorem LV{rest:List Oper} (h:eS P ops o (se r P ops Q rest) a w):se r P ops Q (o :: rest) a w:=eS.fenced h
theorem hP{v:Value} {w':World} {d:Nat} (aI:cT n D L a) (dS:o.guard=none) (eK:o.dst=some d) (ax:d < n)
  (dy:(execOp a.eval o).run P w=.ok (.value v) w') (h:∀ aP,cT n D ((d,v) :: L) aP->KK aP w'):eS P ops o KK a w:=
 .inl ⟨by simp[Region.wanted,dS],.inl ⟨v,w',dy,h _ (by rw[eK]; exact aI.put d v ax)⟩⟩
theorem Bj{w':World} (aI:cT n D L a) (dS:o.guard=none) (eK:o.dst=none)
  (dy:(execOp a.eval o).run P w=.ok .skip w') (h:∀ aP,cT n D L aP->KK aP w'):eS P ops o KK a w:=
 .inl ⟨by simp[Region.wanted,dS],.inr (.inl ⟨w',dy,h _ (by rw[eK]; exact aI)⟩)⟩
theorem LW(h:Q .normal a w):se r P ops Q [] a w:=h
end
end
section
structure bD where
  desc:TypeDesc
  size:Nat
  bytes:Nat
  zero:Value
def bD.ok(P:Program) (t:TypeId) (i:bD):Prop:=
  P.underlying t=some i.desc/\(P.info? t).map (fun x=>(x.size,x.bytes,x.zero))=some (i.size,i.bytes,some i.zero)
def hp(P:Program) (T:List (TypeId×bD)):Prop:=∀ t i,T.lookup t=some i->bD.ok P t i
theorem hp.nil(P:Program):hp P []:=fun _ _ h=>by cases h
theorem hp.cons{P:Program} {T:List (TypeId×bD)} {t:TypeId} {i:bD} (h:bD.ok P t i) (bI:hp P T):hp P ((t,i) :: T):=fun s j an=>by
  rw[List.lookup_cons]at an
  by_cases e:(s == t)=true
  · rw[e]at an
    have ay:s=t:=by simpa using e
    have aS:i=j:=Option.some.inj an;subst ay; subst aS; exact h
  · have cj:(s == t)=false:=by simpa using e
    rw[cj]at an;exact bI s j an
theorem bD.info{P:Program} {t:TypeId} {i:bD} (h:bD.ok P t i):∃ x,P.info? t=some x/\x.size=i.size/\x.bytes=i.bytes/\x.zero=some i.zero:=by
  have U:=h.2;cases ak:P.info? t with
  | none=>rw[ak]at U; cases U
  | some x=>
    rw[ak]at U;simp only[Option.map_some,Option.some.injEq,Prod.mk.injEq]at U;exact⟨x,rfl,U.1,U.2.1,U.2.2⟩
def lR:TypeDesc->Bool
  | .struct _ | .array _ _=>true
  | _=>false
section
variable {P:Program} {t:TypeId} {i:bD} (h:bD.ok P t i) (w:World)
include h
theorem bD.x7:(isAgg t).run P w=.ok (lR i.desc) w:=by
  have ax:=h.1;unfold isAgg;simp only[Sem.run_bind,run_underlying ax,Result.andThen_ok];cases i.desc<;>simp[lR]
theorem bD.run_sizeOf:(sizeOf t).run P w=.ok i.size w:=by
  obtain⟨x,ak,J,_⟩:=bD.info h
  simp[sizeOf,typeInfo,ak,J]
theorem bD.qU:(zeroValue t).run P w=.ok i.zero w:=by
  obtain⟨x,ak,_,_,ag⟩:=bD.info h
  simp[zeroValue,typeInfo,ak,ag]
end
structure c6(B:Nat->Prop) (w w':World):Prop where
  os:w'.os=w.os
  tape:w'.tape=w.tape
  output:w'.output=w.output
  size:w.heap.size<=w'.heap.size
  block:∀ k,B k->w'.heap[k]?=w.heap[k]?
theorem c6.refl(B:Nat->Prop) (w:World):c6 B w w:=⟨rfl,rfl,rfl,Nat.le_refl _,fun _ _=>rfl⟩
theorem c6.trans{B:Nat->Prop} {a b c:World} (h:c6 B a b) (k:c6 B b c):c6 B a c:=
  ⟨k.os.trans h.os,k.tape.trans h.tape,k.output.trans h.output,Nat.le_trans h.size k.size,fun i hi=>(k.block i hi).trans (h.block i hi)⟩
theorem c6.cell{B:Nat->Prop} {w w':World} (h:c6 B w w') {p:Addr} (ao:B p.block):w'.cell? p=w.cell? p:=World.cell?_of_block (w:=w) (h.block p.block ao)
theorem c6.Tv{w w':World} {B:Nat->Prop} (h:Below w.heap.size w w') (cm:∀ k,B k->k < w.heap.size):c6 B w w':=⟨h.os,h.tape,h.output,h.size,fun k ab=>h.block k (cm k ab)⟩
def eQ(w:World) (B:Nat->Prop) (e:TypeId) (size:Nat) (A:Option Addr) (c n:Nat) (xs:List Value):Prop:=
  xs.length=n * size/\((A=none/\n=0/\c=0)\/∃ g cur dz,A=some ⟨g,0,none⟩/\¬ B g/\w.heap[g]?=some (.cells cur e dz)/\(dz.1=dz.2\/cur.size<=dz.1)/\n<=c/\c<=maxLen/\cur.size=c * size/\cur.toList.take (n * size)=xs)
theorem eQ.lt{w:World} {B:Nat->Prop} {e:TypeId} {size c n:Nat} {A:Option Addr} {xs:List Value} (h:eQ w B e size A c n xs) {b:Nat} (ae:A.map (·.block)=some b):¬ B b/\b < w.heap.size:=by
  rcases h.2 with⟨rfl,_⟩ | ⟨g,cur,dz,rfl,aQ,cg,_⟩
  · cases ae
  · have:g=b:=Option.some.inj ae
    subst this;exact⟨aQ,(Array.getElem?_eq_some_iff.1 cg).1⟩
theorem eQ.dQ{w w':World} {B:Nat->Prop} {e:TypeId} {size c n:Nat} {A:Option Addr} {xs:List Value} (h:eQ w B e size A c n xs) (ab:∀ b,A.map (·.block)=some b->w'.heap[b]?=w.heap[b]?):eQ w' B e size A c n xs:=by
  refine⟨h.1,?_⟩
  rcases h.2 with aV | ⟨g,cur,dz,rfl,ae,Tw,rest⟩
  · exact .inl aV
  · exact .inr ⟨g,cur,dz,rfl,ae,(ab g rfl).trans Tw,rest⟩
theorem eQ.base{w:World} {B B':Nat->Prop} {e:TypeId} {size c n:Nat} {A:Option Addr} {xs:List Value} (h:eQ w B e size A c n xs) (cm:∀ b,A.map (·.block)=some b->¬ B' b):eQ w B' e size A c n xs:=by
  refine⟨h.1,?_⟩
  rcases h.2 with aV | ⟨g,cur,dz,rfl,ae,rest⟩
  · exact .inl aV
  · exact .inr ⟨g,cur,dz,rfl,cm g rfl,rest⟩
structure ga where
  A:Option Addr
  c:Nat
  e:TypeId
  size:Nat
  n:Nat
  xs:List Value
def ga.has(r:ga) (b:Nat):Prop:=r.A.map (·.block)=some b
def ga.ok(B:Nat->Prop) (w:World) (r:ga):Prop:=eQ w B r.e r.size r.A r.c r.n r.xs
def ga.off(r s:ga):Prop:=∀ b,r.has b->¬ s.has b
inductive bf where
  | obj (b:Nat) (o:Obj)
  | gQ (b:Nat) (cs:List Value) (e:TypeId)
  | row (A:Option Addr) (c:Nat) (e:TypeId) (size n:Nat) (xs:List Value)
  | tree (rs:List ga)
def bf.has:bf->Nat->Prop
  | .obj b _,k=>some b=some k
  | .gQ b _ _,k=>some b=some k
  | .row A _ _ _ _ _,k=>A.map (·.block)=some k
  | .tree rs,k=>∃ r∈rs,r.has k
def bf.ok(B:Nat->Prop) (w:World):bf->Prop
  | .obj b o=>¬ B b/\w.heap[b]?=some o
  | .gQ b cs e=>¬ B b/\w.heap[b]?=some (.cells cs.toArray e)
  | .row A c e size n xs=>eQ w B e size A c n xs
  | .tree rs=>(∀ r∈rs,r.ok B w)/\rs.Pairwise ga.off
def bf.off(c d:bf):Prop:=∀ b,c.has b->¬ d.has b
structure bE(B:Nat->Prop) (al:World) (H:List bf) (w:World):Prop where
  below:c6 B al w
  base:∀ k,B k->k < w.heap.size
  ok:∀ c∈H,c.ok B w
  apart:H.Pairwise bf.off
abbrev Tx (W:World) (H:List bf) (w:World):Prop:=bE (fun k=>k < W.heap.size) W H w
theorem bf.ok.lt{B:Nat->Prop} {w:World} {c:bf} (h:c.ok B w) {b:Nat} (ae:c.has b):¬ B b/\b < w.heap.size:=by
  cases c with
  | obj b' o=>
    have:b'=b:=Option.some.inj ae
    subst this;exact⟨h.1,(Array.getElem?_eq_some_iff.1 h.2).1⟩
  | gQ b' cs e=>
    have:b'=b:=Option.some.inj ae
    subst this;exact⟨h.1,(Array.getElem?_eq_some_iff.1 h.2).1⟩
  | row A c e size n xs=>exact eQ.lt h ae
  | tree rs=>
    obtain⟨r,aw,ae⟩:=ae;exact eQ.lt (h.1 r aw) ae
theorem bf.ok.dQ{B:Nat->Prop} {w w':World} {c:bf} (h:c.ok B w) (ab:∀ b,c.has b->w'.heap[b]?=w.heap[b]?):c.ok B w':=by
  cases c with
  | obj b o=>exact⟨h.1,(ab b rfl).trans h.2⟩
  | gQ b cs e=>exact⟨h.1,(ab b rfl).trans h.2⟩
  | row A c e size n xs=>exact eQ.dQ h ab
  | tree rs=>exact⟨fun r aw=>eQ.dQ (h.1 r aw) fun b ae=>ab b ⟨r,aw,ae⟩,h.2⟩
theorem bf.ok.base{B B':Nat->Prop} {w:World} {c:bf} (h:c.ok B w) (cm:∀ b,c.has b->¬ B' b):c.ok B' w:=by
  cases c with
  | obj b o=>exact⟨cm b rfl,h.2⟩
  | gQ b cs e=>exact⟨cm b rfl,h.2⟩
  | row A c e size n xs=>exact eQ.base h cm
  | tree rs=>exact⟨fun r aw=>eQ.base (h.1 r aw) fun b ae=>cm b ⟨r,aw,ae⟩,h.2⟩
section
variable {B:Nat->Prop} {al w w':World} {H:List bf}
theorem bE.start(w:World):Tx w [] w:=⟨c6.refl _ _,fun _ h=>h,(fun _ h=>by cases h),List.Pairwise.nil⟩
theorem bE.Ty(h:bE B al H w) (ae:Below w.heap.size w w'):bE B al H w':=
  ⟨h.below.trans (c6.Tv ae h.base),fun k ab=>Nat.lt_of_lt_of_le (h.base k ab) ae.size,fun c aa=>(h.ok c aa).dQ fun b e=>ae.block b ((h.ok c aa).lt e).2,h.apart⟩
theorem bE.drew(h:bE B al H w):bE B al H w.drew:=⟨⟨h.below.os,h.below.tape,h.below.output,h.below.size,h.below.block⟩,h.base,fun c aa=>(h.ok c aa).dQ fun _ _=>rfl,h.apart⟩
theorem bE.fresh(h:bE B al H w):¬ B w.heap.size:=fun ae=>Nat.lt_irrefl _ (h.base _ ae)
theorem bE.alloc(h:bE B al H w) (o:Obj):bE B al (.obj w.heap.size o :: H) (w.alloc o):=by
  have ae:=h.Ty ((Below.refl w.heap.size w).alloc (Nat.le_refl _) o);exact⟨ae.below,ae.base,fun c aa=>by
    rcases List.mem_cons.1 aa with rfl | aa
    · exact⟨h.fresh,heap_alloc_new w o⟩
    · exact ae.ok c aa,
   List.Pairwise.cons (fun c aa b e cj=>by have:=((h.ok c aa).lt cj).2; have e:w.heap.size=b:=Option.some.inj e; omega) h.apart⟩
theorem bE.Ff(h:bE B al H w) (cs:List Value) (e:TypeId):bE B al (.gQ w.heap.size cs e :: H) (w.alloc (.cells cs.toArray e)):=by
  have J:=h.alloc (.cells cs.toArray e);exact⟨J.below,J.base,fun c aa=>by
    rcases List.mem_cons.1 aa with rfl | aa
    · exact J.ok (.obj w.heap.size (.cells cs.toArray e)) (by simp)
    · exact J.ok c (List.mem_cons_of_mem _ aa),by
    obtain⟨U,ag⟩:=List.pairwise_cons.1 J.apart;exact List.Pairwise.cons (fun c aa b e=>U c aa b e) ag⟩
theorem bE.e6(h:bE B al H w) {H':List bf} (an:H'.Sublist H):bE B al H' w:=
  ⟨h.below,h.base,fun c aa=>h.ok c (an.subset aa),h.apart.sublist an⟩
theorem bE.perm(h:bE B al H w) {H':List bf} (ao:H.Perm H'):bE B al H' w:=
  ⟨h.below,h.base,fun c aa=>h.ok c (ao.mem_iff.2 aa),(List.Perm.pairwise_iff (fun {c d} Bk b e cj=>Bk b cj e) ao).1 h.apart⟩
end
def gj(w:World) (H:List bf) (k:Nat):Prop:=k < w.heap.size/\∀ c∈H,¬ c.has k
theorem bE.rest{B:Nat->Prop} {al w:World} {H:List bf} (h:bE B al H w):bE (gj w H) w H w:=
  ⟨c6.refl _ _,fun _ ab=>ab.1,fun c aa=>(h.ok c aa).base fun b e aw=>aw.2 c aa e,h.apart⟩
theorem bE.back{B:Nat->Prop} {al w w':World} {H H':List bf} (h:bE B al H w) (aK:bE (gj w H) w H' w'):bE B al H' w':=by
  have aw:∀ k,B k->gj w H k:=fun k ab=>⟨h.base k ab,fun c aa e=>((h.ok c aa).lt e).1 ab⟩
  exact⟨h.below.trans ⟨aK.below.os,aK.below.tape,aK.below.output,aK.below.size,fun k ab=>aK.below.block k (aw k ab)⟩,fun k ab=>aK.base k (aw k ab),
    fun c aa=>(aK.ok c aa).base fun b e cm=>((aK.ok c aa).lt e).1 (aw b cm),aK.apart⟩
def iS(H:List bf) (c:bf) (K:bf->List bf):Prop:=∃ X Y,H=X++c :: Y/\K=fun c'=>X++c' :: Y
theorem vT{c:bf} {H:List bf}:iS (c :: H) c (fun c'=>c' :: H):=⟨[],H,rfl,rfl⟩
section
variable {B:Nat->Prop} {al w w':World} {H:List bf} {c:bf} {K:bf->List bf}
theorem iS.mem(h:iS H c K):c∈H:=by obtain⟨X,Y,rfl,_⟩:=h; simp
theorem bE.tH(h:bE B al H w) (az:iS H c K) {c':bf} (ae:c6 B w w') (aa:c'.ok B w')
    (iv:∀ b,c'.has b->c.has b\/w.heap.size<=b) (ab:∀ b,b < w.heap.size->¬ c.has b->w'.heap[b]?=w.heap[b]?):bE B al (K c') w':=by
  obtain⟨X,Y,rfl,rfl⟩:=az;have ao:=h.apart;have dQ:∀ d∈X++c :: Y,bf.off c d->d.ok B w':=fun d ax bg=>(h.ok d ax).dQ fun b e=>ab b ((h.ok d ax).lt e).2 (fun cj=>bg b cj e)
  rw[List.pairwise_append,List.pairwise_cons]at ao;obtain⟨av,⟨LX,cw⟩,Fg⟩:=ao;refine⟨h.below.trans ae,fun k ab=>Nat.lt_of_lt_of_le (h.base k ab) ae.size,fun d ax=>?_,?_⟩
  · rcases List.mem_append.1 ax with ax | ax
    · exact dQ d (by simp[ax]) (fun b e cj=>Fg d ax c (by simp) b cj e)
    · rcases List.mem_cons.1 ax with rfl | ax
      · exact aa
      · exact dQ d (by simp[ax]) (LX d ax)
  · rw[List.pairwise_append,List.pairwise_cons]
    refine⟨av,⟨fun d ax b e cj=>?_,cw⟩,fun d ax x ak b e cj=>?_⟩
    · rcases iv b e with aS | aS
      · exact LX d ax b aS cj
      · have:=((h.ok d (by simp[ax])).lt cj).2; omega
    · rcases List.mem_cons.1 ak with rfl | ak
      · rcases iv b cj with aS | aS
        · exact Fg d ax c (by simp) b e aS
        · have:=((h.ok d (by simp[ax])).lt e).2; omega
      · exact Fg d ax x (by simp[ak]) b e cj
end
theorem eQ.at{w:World} {B:Nat->Prop} {e:TypeId} {size c n:Nat} {A:Option Addr} {xs:List Value} (h:eQ w B e size A c n xs) (aV:0 < n):∃ b,A=some ⟨b,0,none⟩:=by
  rcases h.2 with⟨_,aN,_⟩ | ⟨g,cur,dz,aj,_⟩
  · omega
  · exact⟨g,aj⟩
def ga.ee(r:ga):bf:=.row r.A r.c r.e r.size r.n r.xs
section
variable {B:Nat->Prop} {al w:World} {H X Y:List bf} {r:ga} {I eL:List ga}
theorem bE.Tz(h:bE B al (.tree (r :: I) :: H) w):bE B al (r.ee :: .tree I :: H) w:=by
  obtain⟨J,U⟩:=h.ok _ List.mem_cons_self;obtain⟨ag,aq⟩:=List.pairwise_cons.1 U;obtain⟨aE,bb⟩:=List.pairwise_cons.1 h.apart;refine⟨h.below,h.base,fun c aa=>?_,List.Pairwise.cons (fun c aa b ae dM=>?_) (List.Pairwise.cons (fun c aa b ae dM=>?_) bb)⟩
  · rcases List.mem_cons.1 aa with rfl | aa
    · exact J r List.mem_cons_self
    · rcases List.mem_cons.1 aa with rfl | aa
      · exact⟨fun s an=>J s (List.mem_cons_of_mem _ an),aq⟩
      · exact h.ok c (List.mem_cons_of_mem _ aa)
  · rcases List.mem_cons.1 aa with rfl | aa
    · obtain⟨s,an,hq⟩:=dM
      exact ag s an b ae hq
    · exact aE c aa b ⟨r,List.mem_cons_self,ae⟩ dM
  · obtain⟨s,an,hq⟩:=ae
    exact aE c aa b ⟨s,List.mem_cons_of_mem _ an,hq⟩ dM
theorem bE.Fh(h:bE B al (r.ee :: .tree I :: H) w):bE B al (.tree (r :: I) :: H) w:=by
  have J:=h.ok _ List.mem_cons_self;obtain⟨U,qV⟩:=h.ok (.tree I) (by simp);obtain⟨ag,aq⟩:=List.pairwise_cons.1 h.apart;obtain⟨aE,bb⟩:=List.pairwise_cons.1 aq;refine⟨h.below,h.base,fun c aa=>?_,List.Pairwise.cons (fun c aa b ae dM=>?_) bb⟩
  · rcases List.mem_cons.1 aa with rfl | aa
    · refine⟨fun s an=>?_,List.Pairwise.cons (fun s an b ae dM=>ag (.tree I) List.mem_cons_self b ae ⟨s,an,dM⟩) qV⟩
      rcases List.mem_cons.1 an with rfl | an
      · exact J
      · exact U s an
    · exact h.ok c (by simp[aa])
  · obtain⟨s,an,hq⟩:=ae
    rcases List.mem_cons.1 an with rfl | an
    · exact ag c (List.mem_cons_of_mem _ aa) b hq dM
    · exact aE c aa b ⟨s,an,hq⟩ dM
theorem pY{c:bf}:(X++c :: Y).Perm (c :: (X++Y)):=List.perm_middle
theorem bE.Bl(h:bE B al (X++.tree (r :: I) :: Y) w):bE B al (r.ee :: (X++.tree I :: Y)) w:=
  ((h.perm pY).Tz).perm (List.Perm.cons _ pY.symm)
theorem bE.LY(h:bE B al (r.ee :: (X++.tree I :: Y)) w):bE B al (X++.tree (r :: I) :: Y) w:=
  ((h.perm (List.Perm.cons _ pY)).Fh).perm pY.symm
theorem ga.TA{r s:ga} (h:r.off s):s.off r:=fun b J U=>h b U J
theorem bE.x8(h:bE B al (X++.tree I :: Y) w) (an:∃ eA,I.Perm eA/\eL.Sublist eA):bE B al (X++.tree eL :: Y) w:=by
  obtain⟨eA,ao,an⟩:=an;have hm:∀ s∈eL,s∈I:=fun s hq=>ao.mem_iff.2 (an.subset hq)
  have aK:=h.perm pY;obtain⟨J,U⟩:=aK.ok _ List.mem_cons_self;obtain⟨aE,bb⟩:=List.pairwise_cons.1 aK.apart;refine bE.perm (H:=.tree eL :: (X++Y)) ⟨h.below,h.base,fun c aa=>?_,List.Pairwise.cons (fun c aa b ae dM=>?_) bb⟩ pY.symm
  · rcases List.mem_cons.1 aa with rfl | aa
    · exact⟨fun s an=>J s (hm s an),((List.Perm.pairwise_iff (fun h=>ga.TA h) ao).1 U).sublist an⟩
    · exact aK.ok c (List.mem_cons_of_mem _ aa)
  · obtain⟨s,an,hq⟩:=ae
    exact aE c aa b ⟨s,hm s an,hq⟩ dM
end
end
section
structure Sym(n:Nat) (D:List Deferred) (L:List (Nat×Value)) (B:Nat->Prop) (al:World) (H:List bf) (a:Act) (w:World):Prop where
 st:cT n D L a
 aM:bE B al H w
theorem dY{a b:Nat} (h:Nat.blt a b=true):a < b:=Nat.le_of_ble_eq_true h
section
variable {r:Option Nat} {P:Program} {ops:Array Oper} {Q:Exit->Act->World->Prop} {o:Oper} {KK:Act->World->Prop}
variable {n:Nat} {D:List Deferred} {L:List (Nat×Value)} {B:Nat->Prop} {al:World} {H:List bf} {a:Act} {w:World}
variable {T:List (TypeId×bD)} {d:Nat}
def fa(P:Program) (o:Oper) (a:Act) (v:Value):Prop:=∀ w,(execOp a.eval o).run P w=.ok (.value v) w
theorem Sym.aD(av:Sym n D L B al H a w) {x:Operand} {v:Value} (ak:aD L x=some v):a.eval x=v:=av.st.aD ak
theorem qW{v:Value} {w':World} {H':List bf} (av:Sym n D L B al H a w) (bg:o.guard=none/\o.dst=some d) (ax:Nat.blt d n=true)
  (dy:(execOp a.eval o).run P w=.ok (.value v) w') (dt:bE B al H' w') (h:∀ aP w',Sym n D ((d,v) :: L) B al H' aP w'->KK aP w'):eS P ops o KK a w:=
 hP av.st bg.1 bg.2 (dY ax) dy fun aP aI=>h aP w' ⟨aI,dt⟩
theorem LZ{w':World} {H':List bf} (av:Sym n D L B al H a w) (bg:o.guard=none/\o.dst=none)
  (dy:(execOp a.eval o).run P w=.ok .skip w') (dt:bE B al H' w') (h:∀ aP w',Sym n D L B al H' aP w'->KK aP w'):eS P ops o KK a w:=
 Bj av.st bg.1 bg.2 dy fun aP aI=>h aP w' ⟨aI,dt⟩
theorem L0{x:Operand} {v:Value} (aI:cT n D L a) (aA:o.op=.move x)
  (ak:aD L x=some v):fa P o a (v):=fun w=>by simp only[execOp,aA,Sem.run_pure,aI.aD ak]
theorem L1{x:Operand} {v:Value} (aI:cT n D L a) (aA:o.op=.assign x)
  (ak:aD L x=some v):fa P o a (v):=fun w=>by simp only[execOp,aA,Sem.run_pure,aI.aD ak]
theorem L2{c x y:Operand} {g:Bool} {v:Value} (aI:cT n D L a) (aA:o.op=.pick c x y)
  (aa:aD L c=some (.bool g)) (aQ:g=true) (ak:aD L x=some v):fa P o a (v):=fun w=>by subst aQ; simp[execOp,aA,aI.aD aa,aI.aD ak,asBool]
theorem L3{c x y:Operand} {g:Bool} {v:Value} (aI:cT n D L a) (aA:o.op=.pick c x y)
  (aa:aD L c=some (.bool g)) (aQ:g=false) (ak:aD L y=some v):fa P o a (v):=fun w=>by subst aQ; simp[execOp,aA,aI.aD aa,aI.aD ak,asBool]
theorem TB{x:Operand} {t:TypeId} {g:Bool} (aI:cT n D L a) (aA:o.op=.unOp .not t x)
  (ak:aD L x=some (.bool g)):fa P o a (.bool (!g)):=fun w=>by simp[execOp,aA,aI.aD ak,Op.unary]
theorem L4{x:Operand} {k:Nat} {vs:List Value} {v:Value} (aI:cT n D L a) (aA:o.op=.extract x k)
  (ak:aD L x=some (.tuple vs.toArray)) (aC:vs[k]?=some v):fa P o a (v):=fun w=>by simp[execOp,aA,aI.aD ak,Instr.extract,aC]
theorem TC{fn:Fn} {xs:List Operand} {vs:List Value} (aI:cT n D L a) (aA:o.op=.makeFunc fn #[] xs.toArray) (aC:iE L xs=some vs):fa P o a (.func fn #[] vs.toArray):=fun w=>by
 simp[execOp,aA,Instr.makeFunc,aI.iE aC]
theorem TD{k:IntKind} {u v:Operand} {t bW:TypeId} {x y z:Int} (aI:cT n D L a) (aA:o.op=.binOp .add t u v bW)
  (hu:aD L u=some (.int k x)) (aC:aD L v=some (.int k y)) (bG:k.wrap (x+y)=z):fa P o a (.int k z):=fun w=>by simp[execOp,aA,aI.aD hu,aI.aD aC,eqGuard,binOp,Op.intArith,bG]
theorem TE{k:IntKind} {u v:Operand} {t bW:TypeId} {x y z:Int} (aI:cT n D L a) (aA:o.op=.binOp .sub t u v bW)
  (hu:aD L u=some (.int k x)) (aC:aD L v=some (.int k y)) (bG:k.wrap (x - y)=z):fa P o a (.int k z):=fun w=>by simp[execOp,aA,aI.aD hu,aI.aD aC,eqGuard,binOp,Op.intArith,bG]
theorem TF{k:IntKind} {u v:Operand} {t bW:TypeId} {x y z:Int} (aI:cT n D L a) (aA:o.op=.binOp .mul t u v bW)
  (hu:aD L u=some (.int k x)) (aC:aD L v=some (.int k y)) (bG:k.wrap (x * y)=z):fa P o a (.int k z):=fun w=>by simp[execOp,aA,aI.aD hu,aI.aD aC,eqGuard,binOp,Op.intArith,bG]
theorem TG{k:IntKind} {u v:Operand} {t bW:TypeId} {x y z:Int} (aI:cT n D L a) (aA:o.op=.binOp .quo t u v bW)
  (hu:aD L u=some (.int k x)) (aC:aD L v=some (.int k y)) (aN:y≠0) (bG:k.wrap (x.tdiv y)=z):fa P o a (.int k z):=fun w=>by simp[execOp,aA,aI.aD hu,aI.aD aC,eqGuard,binOp,Op.intDiv,aN,bG]
theorem TH{k:IntKind} {u v:Operand} {t bW:TypeId} {x y z:Int} (aI:cT n D L a) (aA:o.op=.binOp .rem t u v bW)
  (hu:aD L u=some (.int k x)) (aC:aD L v=some (.int k y)) (aN:y≠0) (bG:x.tmod y=z):fa P o a (.int k z):=fun w=>by simp[execOp,aA,aI.aD hu,aI.aD aC,eqGuard,binOp,Op.intDiv,aN,bG]
theorem TI{k:IntKind} {u v:Operand} {t bW:TypeId} {x y:Int} (aI:cT n D L a) (aA:o.op=.binOp .lss t u v bW)
  (hu:aD L u=some (.int k x)) (aC:aD L v=some (.int k y)):fa P o a (.bool (decide (x < y))):=fun w=>by simp[execOp,aA,aI.aD hu,aI.aD aC,eqGuard,binOp,Op.intCmp]
theorem TJ{k:IntKind} {u v:Operand} {t bW:TypeId} {x y:Int} (aI:cT n D L a) (aA:o.op=.binOp .leq t u v bW)
  (hu:aD L u=some (.int k x)) (aC:aD L v=some (.int k y)):fa P o a (.bool (decide (x<=y))):=fun w=>by simp[execOp,aA,aI.aD hu,aI.aD aC,eqGuard,binOp,Op.intCmp]
theorem TK{k:IntKind} {u v:Operand} {t bW:TypeId} {x y:Int} (aI:cT n D L a) (aA:o.op=.binOp .gtr t u v bW)
  (hu:aD L u=some (.int k x)) (aC:aD L v=some (.int k y)):fa P o a (.bool (decide (x > y))):=fun w=>by simp[execOp,aA,aI.aD hu,aI.aD aC,eqGuard,binOp,Op.intCmp]
theorem TL{k:IntKind} {u v:Operand} {t bW:TypeId} {x y:Int} (aI:cT n D L a) (aA:o.op=.binOp .geq t u v bW)
  (hu:aD L u=some (.int k x)) (aC:aD L v=some (.int k y)):fa P o a (.bool (decide (x ≥ y))):=fun w=>by simp[execOp,aA,aI.aD hu,aI.aD aC,eqGuard,binOp,Op.intCmp]
theorem TM{k:IntKind} {u v:Operand} {t bW:TypeId} {x y:Int} (aI:cT n D L a) (aA:o.op=.binOp .eql t u v bW)
  (hu:aD L u=some (.int k x)) (aC:aD L v=some (.int k y)):fa P o a (.bool (x == y)):=fun w=>by simp[execOp,aA,aI.aD hu,aI.aD aC,eqGuard,binOp,Op.intCmp]
theorem TN{k:IntKind} {u v:Operand} {t bW:TypeId} {x y:Int} (aI:cT n D L a) (aA:o.op=.binOp .neq t u v bW)
  (hu:aD L u=some (.int k x)) (aC:aD L v=some (.int k y)):fa P o a (.bool (x != y)):=fun w=>by simp[execOp,aA,aI.aD hu,aI.aD aC,eqGuard,binOp,Op.intCmp]
theorem TO{k:IntKind} {u v:Operand} {t bW:TypeId} {x y z:Int} (aI:cT n D L a) (aA:o.op=.binOp .and t u v bW)
  (hu:aD L u=some (.int k x)) (aC:aD L v=some (.int k y)) (bG:bits .and k x y=z):fa P o a (.int k z):=fun w=>by simp only[<- bG]; simp[execOp,aA,aI.aD hu,aI.aD aC,eqGuard,binOp,Op.intBits,bits]
theorem TP{k:IntKind} {u v:Operand} {t bW:TypeId} {x y z:Int} (aI:cT n D L a) (aA:o.op=.binOp .or t u v bW)
  (hu:aD L u=some (.int k x)) (aC:aD L v=some (.int k y)) (bG:bits .or k x y=z):fa P o a (.int k z):=fun w=>by simp only[<- bG]; simp[execOp,aA,aI.aD hu,aI.aD aC,eqGuard,binOp,Op.intBits,bits]
theorem TQ{k:IntKind} {u v:Operand} {t bW:TypeId} {x y z:Int} (aI:cT n D L a) (aA:o.op=.binOp .xor t u v bW)
  (hu:aD L u=some (.int k x)) (aC:aD L v=some (.int k y)) (bG:bits .xor k x y=z):fa P o a (.int k z):=fun w=>by simp only[<- bG]; simp[execOp,aA,aI.aD hu,aI.aD aC,eqGuard,binOp,Op.intBits,bits]
theorem TR{k k':IntKind} {u v:Operand} {t bW:TypeId} {x z:Int} {y:Nat} (aI:cT n D L a) (aA:o.op=.binOp .shl t u v bW)
  (hu:aD L u=some (.int k x)) (aC:aD L v=some (.int k' (y:Int))) (bG:k.wrap (x * 2 ^ (min y k.bits))=z):fa P o a (.int k z):=fun w=>by simp only[<- bG]; simp[execOp,aA,aI.aD hu,aI.aD aC,eqGuard,binOp,Op.shift]; omega
theorem TS{k k':IntKind} {u v:Operand} {t bW:TypeId} {x z:Int} {y:Nat} (aI:cT n D L a) (aA:o.op=.binOp .shr t u v bW)
  (hu:aD L u=some (.int k x)) (aC:aD L v=some (.int k' (y:Int))) (bG:x.fdiv (2 ^ (min y k.bits))=z):fa P o a (.int k z):=fun w=>by simp only[<- bG]; simp[execOp,aA,aI.aD hu,aI.aD aC,eqGuard,binOp,Op.shift]; omega
theorem TT{k k':IntKind} {u:Operand} {t bW:TypeId} {i i':bD} {x z:Int} (aI:cT n D L a) (aA:o.op=.convert t bW u)
  (bI:hp P T) (J:T.lookup t=some i) (U:T.lookup bW=some i') (ag:i'.desc=.int k') (hu:aD L u=some (.int k x)) (bG:k'.wrap x=z):fa P o a (.int k' z):=fun w=>by have ay:=(bI _ _ J).1; have aS:=(bI _ _ U).1; rw[ag]at aS; simp[execOp,aA,aI.aD hu,convert,run_underlying ay,run_underlying aS,Conv.intToInt,bG]
theorem vU{u:Operand} {t:TypeId} {i:bD} {e:TypeId} {A:Option Addr} {m c:Nat} (aI:cT n D L a) (aA:o.op=.call { callee:=.builtin .len,args:=#[u],argTypes:=#[t] })
  (bI:hp P T) (J:T.lookup t=some i) (U:i.desc=.slice e) (hu:aD L u=some (.slice A m c)):fa P o a (.int .i64 (m:Int)):=fun w=>by have ay:=(bI _ _ J).1; rw[U]at ay; simp[execOp,aA,resolve,invoke,builtin,Builtin.len_,aI.aD hu,run_underlying ay,goInt]
theorem Fi{u:Operand} {t:TypeId} {i:bD} {e:TypeId} {A:Option Addr} {m c:Nat} (aI:cT n D L a) (aA:o.op=.call { callee:=.builtin .cap,args:=#[u],argTypes:=#[t] })
  (bI:hp P T) (J:T.lookup t=some i) (U:i.desc=.slice e) (hu:aD L u=some (.slice A m c)):fa P o a (.int .i64 (c:Int)):=fun w=>by have ay:=(bI _ _ J).1; rw[U]at ay; simp[execOp,aA,resolve,invoke,builtin,Builtin.cap_,aI.aD hu,run_underlying ay,goInt]
theorem Fj{u:Operand} {t:TypeId} {k:Nat} {i i':bD} {c1:Array Field} {L5 eF TU:String} {ty:TypeId} {off TV:Nat} {em:Bool} {b p:Nat} (aI:cT n D L a) (aA:o.op=.fieldAddr t u k)
  (bI:hp P T) (J:T.lookup t=some i) (U:i.desc=.struct c1) (ag:c1[k]?=some ⟨L5,ty,off,em,eF,TU,TV⟩) (aq:T.lookup ty=some i') (aE:Nat.blt 0 i'.size=true) (hu:aD L u=some (.pointer (some ⟨b,p,none⟩))) :
  fa P o a (.pointer (some ⟨b,p+off,none⟩)):=fun w=>by
 have ay:=(bI _ _ J).1;rw[U]at ay;have aS:=bD.run_sizeOf (bI _ _ aq);have cz:i'.size≠0:=(Nat.pos_iff_ne_zero.1 (dY aE))
 simp[execOp,aA,aI.aD hu,Instr.fieldAt,run_underlying ay,ag,Instr.sureAddr,fieldPlace,aS,cz,Addr.add_lit]
theorem Bm{u x:Operand} {t e:TypeId} {i i':bD} {b p m c j:Nat} {k:IntKind} {z:Int} (aI:cT n D L a) (aA:o.op=.indexAddr t u x)
  (bI:hp P T) (J:T.lookup t=some i) (U:i.desc=.slice e) (aq:T.lookup e=some i') (hu:aD L u=some (.slice (some ⟨b,p,none⟩) m c)) (ak:aD L x=some (.int k z)) (bG:z=(j:Int)) (aH:j < m):fa P o a (.pointer (some ⟨b,p+j * i'.size,none⟩)):=fun w=>by subst bG; have ay:=(bI _ _ J).1; rw[U]at ay; have aS:=bD.run_sizeOf (bI _ _ aq); simp[execOp,aA,aI.aD hu,aI.aD ak,Instr.indexAt,asIntOf,run_underlying ay,aS,Addr.add_lit,aH]
end
end
section
section
variable {r:Option Nat} {P:Program} {ops:Array Oper} {Q:Exit->Act->World->Prop} {o:Oper} {KK:Act->World->Prop}
variable {n:Nat} {D:List Deferred} {L:List (Nat×Value)} {B:Nat->Prop} {al:World} {H:List bf} {a:Act} {w:World}
variable {T:List (TypeId×bD)} {d:Nat} {K:bf->List bf}
theorem Fk(dt:bE B al H w) {b:Nat} {cs:List Value} {e:TypeId} (az:iS H (.gQ b cs e) K):w.heap[b]?=some (.cells cs.toArray e):=(dt.ok _ az.mem).2
theorem Fl(dt:bE B al H w) {b:Nat} {cs:List Value} {e:TypeId} (az:iS H (.gQ b cs e) K) (j:Nat):w.cell? ⟨b,j,none⟩=cs[j]?:=by
 simp[World.cell?,Fk dt az]
theorem bE.TW(dt:bE B al H w) {b:Nat} {cs o3:List Value} {e:TypeId} (az:iS H (.gQ b cs e) K) {w':World}
  (hw:w'.os=w.os/\w'.tape=w.tape/\w'.output=w.output/\w'.heap.size=w.heap.size) (ae:w'.heap[b]?=some (.cells o3.toArray e)) (bg:∀ k,k≠b->w'.heap[k]?=w.heap[k]?) :
  bE B al (K (.gQ b o3 e)) w':=by
 have aa:=dt.ok _ az.mem;refine dt.tH az ⟨hw.1,hw.2.1,hw.2.2.1,Nat.le_of_eq hw.2.2.2.symm,fun k ab=>bg k (fun cj=>by subst cj; exact aa.1 ab)⟩ ⟨aa.1,ae⟩ (fun b' cj=>.inl cj) fun b' _ cr=>bg b' (fun cj=>cr (by subst cj; rfl))
theorem TX{t:TypeId} {i:bD} (hi:bD.ok P t i) (U:lR i.desc=true) {b p:Nat} {vs:List Value} (ah:vs.length=i.size) (aa:∀ j v,vs[j]?=some v->w.cell? ⟨b,p+j,none⟩=some v) :
  (loadVar t ⟨b,p,none⟩).run P w=.ok (.agg vs.toArray) w:=by
 have:=run_loadCells_list (P:=P) w ⟨b,p,none⟩ vs (fun j v aH=>by rw[Addr.add_lit]; exact aa j v aH)
 rw[ah]at this
 simp[loadVar,bD.x7 hi,U,bD.run_sizeOf hi,this]
theorem TY{t:TypeId} {i:bD} (hi:bD.ok P t i) {b p:Nat} {v:Value} {cs:List Value} {e:TypeId} (ae:w.heap[b]?=some (.cells cs.toArray e)) (an:v.cells.size=i.size)
  (J:∀ u∈v.cells.toList,u.oneCell'=true) (ao:p+v.cells.size<=cs.length) :
  (storeVar t ⟨b,p,none⟩ v).run P w=.ok () (w.setRow b (cs.take p++v.cells.toList++cs.drop (p+v.cells.size)).toArray):=by
 have U:=run_storeCells_at P b p e v.cells.toList 0 cs.toArray w ae (by simpa using ao) J;simp only[Nat.add_zero]at U;unfold storeVar
 simp[bD.run_sizeOf hi,an,U]
end
end
section
theorem TZ{z:Int} (J:-9223372036854775808<=z) (U:z<=9223372036854775807):IntKind.i64.wrap z=z:=by rw[IntKind.wrap_i64]; omega
def o4(P:Program) (f:FuncId) (args:Array Value) (w:World) (R:Value->World->Prop):Prop:=
 Calls P f args w fun e w'=>∃ v,e=.returned v/\R v w'
theorem o4.mono{P:Program} {f:FuncId} {args:Array Value} {w:World} {R qX:Value->World->Prop} (h:o4 P f args w R) (aw:∀ v w',R v w'->qX v w'):o4 P f args w qX:=
 Calls.mono h fun _ _ ⟨v,e,aC⟩=>⟨v,e,aw v _ aC⟩
section
variable {r:Option Nat} {P:Program} {ops:Array Oper} {Q:Exit->Act->World->Prop} {o:Oper} {KK:Act->World->Prop}
variable {n:Nat} {D:List Deferred} {L:List (Nat×Value)} {B:Nat->Prop} {al:World} {H:List bf} {a:Act} {w:World}
variable {T:List (TypeId×bD)} {d:Nat}
theorem sf(av:Sym n D L B al H a w) {j s:Nat} {want g:Bool} (aQ:o.guard=some (j,want)) (aH:(ops[j]?).bind (·.dst)=some s) (an:L.lookup s=some (.bool g)) :
  Region.wanted o (yielded ops a.tmps)=(g == want):=by
 have J:=av.st.has s _ an;have U:yielded ops a.tmps j=some g:=by simp[yielded,aH,J]
 simp only[Region.wanted,aQ,U];cases g<;>cases want<;>rfl
theorem Bn(av:Sym n D L B al H a w) {j s:Nat} {want:Bool} (aQ:o.guard=some (j,want)) (aH:(ops[j]?).bind (·.dst)=some s) (an:L.lookup s=some undef) :
  Region.wanted o (yielded ops a.tmps)=false:=by
 have J:=av.st.has s _ an;have U:yielded ops a.tmps j=none:=by simp[yielded,aH,J,undef]
 simp only[Region.wanted,aQ,U]
 rfl
theorem T0{f:FuncId} {fn:Func} {xs:List Operand} {fN:Array TypeId} {vs:List Value} (aA:o.op=.call { callee:=.value (.func f),args:=xs.toArray,argTypes:=fN }) (gX:P.funcs[f]?=some fn)
  (aV : (fn.name == "runtime.NumGoroutine") = false) (ae : fn.body.isNone = false) (aC : xs.map a.eval = vs) : (execOp a.eval o).run P w = .ok (.enter f vs.toArray) w := by
 have e:a.eval (.func f)=.func (.func f) #[] #[]:=rfl
 have hr : fn.name ≠ "runtime.NumGoroutine" := by simpa using aV
 have dM:fn.body≠none:=by intro h; rw[h]at ae; cases ae
 simp[execOp,aA,resolve,e,Deferred.ofValue,invoke,callFunc,program,Sem.run,gX,hr,dM,aC]
theorem T1{f:FuncId} {fn:Func} {xs:List Operand} {fN:Array TypeId} {vs:List Value} {R:Value->World->Prop} (av:Sym n D L B al H a w)
  (aA:o.op=.call { callee:=.value (.func f),args:=xs.toArray,argTypes:=fN }) (bg:o.guard=none/\o.dst=some d) (ax:Nat.blt d n=true)
  (gX : P.funcs[f]? = some fn) (aV : (fn.name == "runtime.NumGoroutine") = false) (ae : fn.body.isNone = false) (aC : iE L xs = some vs) (dA : o4 P f vs.toArray w R)
  (h:∀ v aP w',R v w'->cT n D ((d,v) :: L) aP->KK aP w'):eS P ops o KK a w:=by
 refine .inl ⟨by simp[Region.wanted,bg.1],.inr (.inr ⟨f,vs.toArray,w,T0 aA gX aV ae (av.st.iE aC),?_⟩)⟩;refine Calls.mono dA ?_;rintro e w' ⟨v,rfl,dT⟩;exact⟨v,rfl,h v _ w' dT (by rw[bg.2]; exact av.st.put d v (dY ax))⟩
/-! ### Control -/
variable {c fw cL:Code}
abbrev kJ (r:Option Nat) (P:Program) (c:Code) (Q:Exit->Act->World->Prop) (a:Act) (w:World):Prop:=c.wpIn (WF r) 0 P Q a w
theorem T2(h:∀ K:Act->World->Prop,(∀ a w,kJ r P cL Q a w->K a w)->kJ r P fw (Exit.then K Q) a w):kJ r P (.seq fw cL) Q a w:=wpIn_seq_k h
theorem L6{id:Nat} {l:List Oper} (h:se r P l.toArray Q l a w):kJ r P (.region id l.toArray false) Q a w:=wpIn_region_lit h
theorem L7(h:Q .normal a w):kJ r P .skip Q a w:=wpIn_skip h
theorem Fm{id:Nat} (h:Q (.exit id) a w):kJ r P (.exit id) Q a w:=wpIn_exit h
theorem T3(h:Q .ret a w):kJ r P .ret Q a w:=wpIn_ret h
theorem T4{id:Nat} (h:kJ r P c (Exit.inBlock id Q) a w):kJ r P (.block id c) Q a w:=wpIn_block h
theorem T5{x:Operand} {g:Bool} (av:Sym n D L B al H a w) (ak:aD L x=some (.bool g)) (J:g=true->kJ r P fw Q a w) (aN:g=false->kJ r P cL Q a w):kJ r P (.cond x fw cL) Q a w:=
 wpIn_cond_split (av.aD ak) J aN
theorem least(S:Nat->Prop) (h:∃ k,S k):∃ k,S k/\∀ j,S j->k<=j:=by
 obtain⟨k,ab⟩:=h
 induction k using Nat.strongRecOn with
 | _ k br=>
  by_cases e:∃ j,j < k/\S j
  ·obtain⟨j,aH,an⟩:=e; exact br j aH an
  ·exact⟨k,ab,fun j aH=>Nat.le_of_not_lt fun aW=>e ⟨j,aW,aH⟩⟩
noncomputable def vV (S:Nat->Prop):Nat:=by
 classical
 exact if h:∃ k,S k then Classical.choose (least S h)else 0
theorem T6{S:Nat->Prop} {k:Nat} (h:S k):vV S<=k:=by
 unfold vV; rw[dif_pos ⟨k,h⟩]; exact(Classical.choose_spec (least S ⟨k,h⟩)).2 k h
theorem T7{S:Nat->Prop} {k:Nat} (h:S k):S (vV S):=by
 unfold vV; rw[dif_pos ⟨k,h⟩]; exact(Classical.choose_spec (least S ⟨k,h⟩)).1
theorem T8{α:Type} (M:α->Act->World->Prop) (m:α->Nat) (x:α) (aN:M x a w)
  (aw:∀ x a w,M x a w->kJ r P c (Exit.then (fun aP w'=>∃ y,M y aP w'/\m y < m x) Q) a w):kJ r P (.loop c) Q a w:=by
 refine wpIn_loop (fun a w=>∃ x,M x a w) (fun a w=>vV fun k=>∃ x,M x a w/\m x=k) ⟨x,aN⟩ ?_;rintro a w ⟨y,aL⟩;obtain⟨z,bG,hm⟩:=T7 (S:=fun k=>∃ x,M x a w/\m x=k) (k:=m y) ⟨y,aL,rfl⟩;refine wpIn_mono (aw z a w bG) ?_;intro e aP w' ar;cases e with
 | normal=>
  obtain⟨u,hu,aW⟩:=ar;refine⟨⟨u,hu⟩,?_⟩
  have:=T6 (S:=fun k=>∃ x,M x aP w'/\m x=k) (k:=m u) ⟨u,hu,rfl⟩
  show _ < vV _;rw[<- hm];omega
 | _=>exact ar
/-! ### Beginning and end -/
theorem T9{N:Nat} (vs:List Value) (a6:vs.length<=N):(vs.toArray++Array.replicate (N - vs.toArray.size) undef).size=N:=by simp; omega
end
end
section
section
variable {P:Program} {ops:Array Oper} {Q:Exit->Act->World->Prop} {o:Oper} {KK:Act->World->Prop}
variable {n:Nat} {D:List Deferred} {L:List (Nat×Value)} {B:Nat->Prop} {al:World} {H:List bf} {a:Act} {w:World}
variable {d:Nat} {S:World->Prop} {listed L8:Array Bool} {fuel:Nat}
end
end
end Go.Proofs.YtcheedjfedcbpaaGreatDoor
namespace Go.Proofs.YtcheedjfedcbpaaGreatDoor
open Go.RowKit
section
variable {r:Option Nat} {P:Program} {ops:Array Oper} {Q:Exit->Act->World->Prop} {o:Oper} {KK:Act->World->Prop}
variable {n:Nat} {D:List Deferred} {L L':List (Nat×Value)} {B:Nat->Prop} {al:World} {H H':List bf} {a:Act} {w:World}
variable {d:Nat} {c:Code}
end
end Go.Proofs.YtcheedjfedcbpaaGreatDoor
namespace Go.Proofs.YtcheedjfedcbpaaGreatDoor
end Go.Proofs.YtcheedjfedcbpaaGreatDoor
namespace Go.Proofs.YtcheedjfedcbpaaGreatDoor
end Go.Proofs.YtcheedjfedcbpaaGreatDoor
namespace Go.Proofs.YtcheedjfedcbpaaGreatDoor
end Go.Proofs.YtcheedjfedcbpaaGreatDoor
namespace Go.Proofs.YtcheedjfedcbpaaGreatDoor
end Go.Proofs.YtcheedjfedcbpaaGreatDoor
namespace Go.Proofs.YtcheedjfedcbpaaGreatDoor
open Go.RowKit
section
theorem Fo{P:Program} {t:TypeId} {k:IntKind} (h:P.underlying t=some (.int k)) (b:Bool) (n:Nat) (x:Int) (w:World) :
  (Instr.checkKey b (n+1) t (.int k x)).run P w=.ok () w:=by
 simp[Instr.checkKey,run_underlying h]
section
variable {P:Program} {ops:Array Oper} {o:Oper} {KK:Act->World->Prop}
variable {n:Nat} {D:List Deferred} {L:List (Nat×Value)} {B:Nat->Prop} {al:World} {H:List bf} {a:Act} {w:World}
variable {T:List (TypeId×bD)} {d:Nat} {K:bf->List bf}
theorem bE.x9(dt:bE B al H w) {b:Nat} {x x':Obj} (az:iS H (.obj b x) K) :
  bE B al (K (.obj b x')) { w with heap:=w.heap.setIfInBounds b x' }:=by
 have aa:=dt.ok _ az.mem;have aW:=(Array.getElem?_eq_some_iff.1 aa.2).1;have bg:∀ k,k≠b->(w.heap.setIfInBounds b x')[k]?=w.heap[k]?:=fun k ab=>Array.getElem?_setIfInBounds_ne (Ne.symm ab)
 refine dt.tH az ⟨rfl,rfl,rfl,by simp,fun k ab=>bg k (fun cj=>by subst cj; exact aa.1 ab)⟩ ⟨aa.1,by simp[aW]⟩ (fun b' cj=>.inl cj) fun b' _ cr=>bg b' (fun cj=>cr (by subst cj; rfl))
end
end
end Go.Proofs.YtcheedjfedcbpaaGreatDoor
namespace Go.Proofs.YtcheedjfedcbpaaGreatDoor
open Go.RowKit
section
variable {P:Program} {o:Oper} {n:Nat} {D:List Deferred} {L:List (Nat×Value)} {a:Act} {T:List (TypeId×bD)}
theorem Ua{u v:Operand} {t bW:TypeId} {i:bD} {x y:Bool} (aI:cT n D L a) (aA:o.op=.binOp .eql t u v bW) (bI:hp P T) (J:T.lookup t=some i) (U:i.desc=.bool) (hu:aD L u=some (.bool x)) (aC:aD L v=some (.bool y)):fa P o a (.bool (x == y)):=fun w=>by
 have ay:=(bI _ _ J).1;rw[U]at ay
 have:(Op.equal t (.bool x) (.bool y)).run P w=.ok (x == y) w:=run_equalIn_bool w 9999 t x y ay
 simp[execOp,aA,aI.aD hu,aI.aD aC,eqGuard,binOp,this]
theorem Ub{u v:Operand} {t bW:TypeId} {i:bD} {x y:Bool} (aI:cT n D L a) (aA:o.op=.binOp .neq t u v bW) (bI:hp P T) (J:T.lookup t=some i) (U:i.desc=.bool) (hu:aD L u=some (.bool x)) (aC:aD L v=some (.bool y)):fa P o a (.bool (x != y)):=fun w=>by
 have ay:=(bI _ _ J).1;rw[U]at ay
 have:(Op.equal t (.bool x) (.bool y)).run P w=.ok (x == y) w:=run_equalIn_bool w 9999 t x y ay
 simp[execOp,aA,aI.aD hu,aI.aD aC,eqGuard,binOp,this,bne]
theorem Uc{u v:Operand} {t bW:TypeId} {x y:ByteArray} (aI:cT n D L a) (aA:o.op=.binOp .eql t u v bW) (hu:aD L u=some (.string x)) (aC:aD L v=some (.string y)):fa P o a (.bool (x.toList == y.toList)):=fun w=>by
 simp[execOp,aA,aI.aD hu,aI.aD aC,eqGuard,binOp,Op.stringOp]
theorem Ud{u v:Operand} {t bW:TypeId} {x y:ByteArray} (aI:cT n D L a) (aA:o.op=.binOp .neq t u v bW) (hu:aD L u=some (.string x)) (aC:aD L v=some (.string y)):fa P o a (.bool (!(x.toList == y.toList))):=fun w=>by
 simp[execOp,aA,aI.aD hu,aI.aD aC,eqGuard,binOp,Op.stringOp]
theorem Ue{u v:Operand} {t bW:TypeId} {x y:Array Value} {r:Bool} (aI:cT n D L a) (aA:o.op=.binOp .eql t u v bW) (hu:aD L u=some (.agg x)) (aC:aD L v=some (.agg y)) (hm:P.eqGuardType P.depth t=false)
  (he:∀ w,(Op.equalIn 10000 t (.agg x) (.agg y)).run P w=.ok r w):fa P o a (.bool r):=fun w=>by
 simp[execOp,aA,aI.aD hu,aI.aD aC,run_eqGuard_agg w .eql t u v x y hm,run_eql_struct,he w]
theorem Uf{u v:Operand} {t bW:TypeId} {x y:Array Value} {r:Bool} (aI:cT n D L a) (aA:o.op=.binOp .neq t u v bW) (hu:aD L u=some (.agg x)) (aC:aD L v=some (.agg y)) (hm:P.eqGuardType P.depth t=false)
  (he:∀ w,(Op.equalIn 10000 t (.agg x) (.agg y)).run P w=.ok r w):fa P o a (.bool (!r)):=fun w=>by
 simp[execOp,aA,aI.aD hu,aI.aD aC,run_eqGuard_agg w .neq t u v x y hm,run_neq_struct,he w]
end
end Go.Proofs.YtcheedjfedcbpaaGreatDoor
namespace Go.Proofs.YtcheedjfedcbpaaGreatDoor
theorem Ug{P:Program} (w:World) (d:Nat) (t:TypeId) (xs ys:Array Value) {c1:List Field} (h:P.underlying t=some (.struct c1.toArray)) (ao:P.stoodInHeld t=false) :
  (Op.equalIn (d+1) t (.agg xs) (.agg ys)).run P w=(Op.eqFields d xs ys c1).run P w:=by
 have az:P.fieldsOf t=c1.toArray:=by simp[Program.fieldsOf,h]
 rw[run_equalIn_struct w d t xs ys (by rw[az]; exact h) ao,az]
end Go.Proofs.YtcheedjfedcbpaaGreatDoor
namespace Go.Proofs.YtcheedjfedcbpaaGreatDoor
open Go.RowKit
/-! ### The memory yu a row -/
section
variable {w:World} {B:Nat->Prop} {e:TypeId} {size n c:Nat} {A:Option Addr} {xs:List Value}
theorem ya(g:Nat) (e:TypeId) (dz:Nat×Nat):∀ (vs:List Value) (o:Nat) (w:World) (cur:Array Value),w.heap[g]?=some (.cells cur e dz)->o+vs.length<=cur.size ->
  w.setCells g o vs=w.setRow g (cur.toList.take o++vs++cur.toList.drop (o+vs.length)).toArray
 | [],o,w,cur,aQ,_=>by
  simp only[World.setCells,List.append_nil,List.length_nil,Nat.add_zero,List.take_append_drop,Array.toArray_toList];exact(setRow_self w g cur e dz aQ).symm
 | v :: vs,o,w,cur,aQ,ah=>by
  simp only[List.length_cons]at ah;have J:w.setCell ⟨g,o,none⟩ v=w.setRow g (cur.setIfInBounds o v):=by
   unfold World.setCell World.setRow
   congr 1
   apply Array.ext
   ·simp
   ·intro i J U
    simp only[Array.getElem_modify]
    split
    ·rename_i hi
     subst hi;rw[(Array.getElem?_eq_some_iff.1 aQ).2]
     simp
    ·rfl
  have U:=setRow_heap w g cur (cur.setIfInBounds o v) e dz aQ;rw[World.setCells,J,ya g e dz vs (o+1) _ _ U (by simp; omega),setRow_setRow]
  congr 1
  apply congrArg List.toArray
  rw[Array.toList_setIfInBounds,List.take_succ_eq_append_getElem (by simp; omega)];simp only[List.getElem_set_self,List.append_assoc,List.length_cons];rw[List.take_set_of_le (by omega),List.drop_set_of_lt (by omega)]
  simp[Nat.add_comm,Nat.add_left_comm]
theorem eQ.cells(h:eQ w B e size A c n xs) {g:Nat} (aj:A=some ⟨g,0,none⟩) (j:Nat) (aH:j < n * size):w.cell? ⟨g,j,none⟩=xs[j]?:=by
 rcases h.2 with⟨J,_⟩ | ⟨g',cur,dz,J,_,cg,_,_,_,_,a8⟩
 ·rw[aj]at J; cases J
 ·rw[aj]at J
  have:g=g':=by injection J with J; injection J
  subst this;rw[<- a8,List.getElem?_take,if_pos aH]
  simp[World.cell?,cg]
theorem eQ.le(h:eQ w B e size A c n xs):n<=c/\c<=maxLen:=by
 rcases h.2 with⟨_,J,U⟩ | ⟨g',cur,dz,J,_,cg,_,J,U,_,a8⟩
 ·subst J; subst U; exact⟨Nat.le_refl _,Nat.zero_le _⟩
 ·exact⟨J,U⟩
end
section
variable {P:Program} {w:World}
theorem Uh{B:Nat->Prop} {t ty e:TypeId} {i:bD} (a8:P.underlying t=some (.slice e)) (hi:bD.ok P e i) (dv:0 < i.size) (oa:i.zero.cells.size=i.size)
  {A:Option Addr} {c n:Nat} {xs:List Value} (fx:eQ w B e i.size A c n xs)
  {b:Nat} {p m cc:Nat} {news:List Value} (ah:news.length=m * i.size) (Ui:∀ j u,news[j]?=some u->w.cell? ⟨b,p+j,none⟩=some u) (J:∀ u∈news,u.oneCell'=true)
  (L9:(n+m) * i.bytes<=140737488355328) (hm:n+m<=140737488355328) (o5:¬ B w.heap.size) :
  ∃ bP c' w',(Builtin.append_ #[t,t] ty #[.slice A n c,.slice (some ⟨b,p,none⟩) m cc]).run P w=.ok (.slice bP (n+m) c') w'/\eQ w' B e i.size bP c' (n+m) (xs++news) /\
   w'.os=w.os/\w'.tape=w.tape/\w'.output=w.output/\w.heap.size<=w'.heap.size /\
   (∀ k,k < w.heap.size->A.map (·.block)≠some k->w'.heap[k]?=w.heap[k]?)/\(∀ k,bP.map (·.block)=some k->A.map (·.block)=some k\/w.heap.size<=k)/\(n+m<=c->c'=c):=by
 obtain⟨inf,pZ,fb,ih,mn⟩:=bD.info hi;have hlen:(xs++news).length=(n+m) * i.size:=by rw[List.length_append,fx.1,ah,Nat.add_mul]
 have Fp:∀ j v,news[j]?=some v->w.cell? ((⟨b,p,none⟩:Addr).add j)=some v:=fun j v aH=>by rw[Addr.add_lit]; exact Ui j v aH
 have Uj:n+m<=maxLen:=by simp only[maxLen]; omega
 have grown:∀ (jD:Nat),jD < n+m ->
   eQ (w.drew.alloc (.cells (xs.toArray++news.toArray++Builtin.zeroCells i.zero.cells (grownCap w (n+m) jD e - (n+m))) e)) B e i.size (some ⟨w.heap.size,0,none⟩) (grownCap w (n+m) jD e) (n+m) (xs++news):=by
  intro jD _;have p0:=grownCap_ge w (n+m) jD e;have iF:grownCap w (n+m) jD e<=maxLen:=grownCap_le_maxLen w (n+m) jD e Uj;refine⟨hlen,.inr ⟨w.heap.size,_,(0,0),rfl,o5,heap_alloc_new w.drew _,.inl rfl,p0,iF,?_,?_⟩⟩
  ·simp only[Array.size_append,List.size_toArray,size_zeroCells,oa,fx.1,ah,<- Nat.add_mul]
   congr 1
   omega
  ·simp only[Array.toList_append,List.append_assoc]
   rw[<- List.append_assoc,<- hlen];exact List.take_left
 have blk:∀ o k,k < w.heap.size->(w.drew.alloc o).heap[k]?=w.heap[k]?:=fun o k ab=>Below.heap_alloc w.drew o k ab
 rcases fx.2 with⟨rfl,rfl,rfl⟩ | ⟨g,cur,dz,rfl,p1,aQ,kK,o6,iF,h3,p2⟩
 ·have ak:xs=[]:=List.eq_nil_of_length_eq_zero (by simpa using fx.1)
  subst ak
  by_cases o7:m=0
  ·subst o7
   have aV:news=[]:=List.eq_nil_of_length_eq_zero (by simpa using ah);subst aV;refine⟨none,0,w,?_,by simpa using fx,rfl,rfl,rfl,Nat.le_refl _,fun _ _ _=>rfl,(fun k h=>by cases h),fun _=>rfl⟩
   simp[Builtin.append_,run_underlying a8,sizeOf,typeInfo,pZ,Builtin.lenOf,Builtin.firstCells,loadCells,loadCellsFrom]
  ·have aw:=run_append_nil (P:=P) w t ty e inf i.zero a8 pZ mn ⟨b,p,none⟩ m cc news (by rw[ah,fb]) Fp (by omega) (by omega) (by rw[ih]; have:=L9; simp only[Nat.zero_add]at this; omega)
   have kk:=grown 0 (by omega);simp only[Nat.zero_add,List.nil_append,Array.empty_append]at kk ⊢;exact⟨_,_,_,aw,kk,rfl,rfl,rfl,by simp,fun k ab _=>blk _ k ab,fun k ab=>.inr (by simp at ab; omega),fun aa=>by omega⟩
 ·have holds:∀ j u,xs[j]?=some u->w.cell? ((⟨g,0,none⟩:Addr).add j)=some u:=fun j u hu=>by
   rw[Addr.add_lit,Nat.zero_add];have aH:j < n * i.size:=by have:=(List.getElem?_eq_some_iff.1 hu).1; rw[fx.1]at this; exact this
   rw[fx.cells rfl j aH];exact hu
  by_cases qY:n+m<=c
  ·have yb:n * i.size+news.length<=cur.size:=by rw[ah,h3,<- Nat.add_mul]; exact Nat.mul_le_mul_right _ qY
   have az:=run_firstCells_some (P:=P) w i.size m ⟨b,p,none⟩ m cc news ah Fp;have cU:=run_storeCells_cells (P:=P) g (n * i.size) news 0 w (fun j aH=>by
     simp only[World.cell?,aQ]
     simp; omega) (fun j aH=>by
     simp only[World.frozen?,aQ]
     rcases kK with h | h
     ·simp; omega
     ·simp; omega) J
   rw[Nat.add_zero,ya g e dz news _ w cur aQ yb]at cU;have dy:(Builtin.append_ #[t,t] ty #[.slice (some ⟨g,0,none⟩) n c,.slice (some ⟨b,p,none⟩) m cc]).run P w =
     .ok (.slice (some ⟨g,0,none⟩) (n+m) c) (w.setRow g (cur.toList.take (n * i.size)++news++cur.toList.drop (n * i.size+news.length)).toArray):=by
    simp[Builtin.append_,run_underlying a8,sizeOf,typeInfo,pZ,fb,Builtin.lenOf,qY,az,Addr.add_lit,cU]
   refine⟨some ⟨g,0,none⟩,c,_,dy,⟨hlen,.inr ⟨g,_,dz,rfl,p1,setRow_heap w g cur _ e _ aQ,?_,qY,iF,?_,?_⟩⟩,rfl,rfl,rfl,by simp,fun k _ ab=>setRow_other w g k _ (fun cj=>ab (by simp[cj])),fun k ab=>.inl ab,fun _=>rfl⟩
   ·rcases kK with h | h
    ·exact .inl h
    ·exact .inr (by simp; omega)
   ·simp only[List.size_toArray,List.length_append,List.length_take,List.length_drop,Array.length_toList]
    omega
   ·rw[p2,<- hlen]
    exact List.take_left
  ·have aw:=run_append_grow (P:=P) w t ty e inf i.zero a8 pZ mn ⟨g,0,none⟩ n c xs (by rw[fx.1,fb]) holds ⟨b,p,none⟩ m cc news (by rw[ah,fb]) Fp (by omega) (by omega) (growslice_fits (by omega) (by rw[ih]; exact L9))
   exact⟨_,_,_,aw,grown c (by omega),rfl,rfl,rfl,by simp,fun k ab _=>blk _ k ab,fun k ab=>.inr (by simp at ab; omega),fun aa=>absurd aa qY⟩
end
end Go.Proofs.YtcheedjfedcbpaaGreatDoor
namespace Go.Proofs.YtcheedjfedcbpaaGreatDoor
open Go.RowKit
def Reads(w:World) (A:Option Addr) (m size:Nat) (news:List Value):Prop:=
 news.length=m * size/\(0 < m->∃ b p,A=some ⟨b,p,none⟩/\∀ j u,news[j]?=some u->w.cell? ⟨b,p+j,none⟩=some u)
def jm(A:Option Addr) (l size m:Nat):Option Addr:=if m=l then A else A.map (·.add (l * size))
theorem Reads.nil(w:World) (A:Option Addr) (size:Nat):Reads w A 0 size []:=⟨by simp,fun h=>absurd h (by omega)⟩
theorem Reads.cut{w:World} {A:Option Addr} {m size l h c:Nat} {news:List Value} (aw:Reads w A m size news) (ah:l<=h) (cg:h<=m) (aa:h<=c) :
  Reads w (jm A l size c) (h - l) size ((news.drop (l * size)).take ((h - l) * size)):=by
 have dv:h * size<=m * size:=Nat.mul_le_mul_right _ cg;have p3:l * size<=h * size:=Nat.mul_le_mul_right _ ah;refine⟨by rw[List.length_take,List.length_drop,aw.1,Nat.sub_mul]; omega,fun ao=>?_⟩;obtain⟨b,p,rfl,k9⟩:=aw.2 (by omega);refine⟨b,p+l * size,?_,fun j u hu=>?_⟩
 ·unfold jm
  rw[if_neg (by omega)]
  simp[Addr.add_lit]
 ·rw[List.getElem?_take]at hu
  split at hu
  ·rw[List.getElem?_drop]at hu
   have:=k9 _ u hu
   rw[Nat.add_assoc];exact this
  ·cases hu
section
variable {w al:World} {B:Nat->Prop} {H:List bf} {K:bf->List bf}
theorem Reads.row(dt:bE B al H w) {A:Option Addr} {c:Nat} {e:TypeId} {size n:Nat} {xs:List Value} (az:iS H (.row A c e size n xs) K):Reads w A n size xs:=by
 have bg:eQ w B e size A c n xs:=dt.ok _ az.mem;refine⟨bg.1,fun aV=>?_⟩
 rcases bg.2 with⟨_,J,_⟩ | ⟨g,cur,dz,J,_⟩
 ·omega
 ·refine⟨g,0,J,fun j u hu=>?_⟩
  rw[Nat.zero_add,bg.cells J j (by have:=(List.getElem?_eq_some_iff.1 hu).1; rw[bg.1]at this; exact this)];exact hu
theorem bE.sg(dt:bE B al H w) (e:TypeId) (size:Nat):bE B al (.row none 0 e size 0 [] :: H) w:=
 ⟨dt.below,dt.base,fun c aa=>by
  rcases List.mem_cons.1 aa with rfl | aa
  ·exact⟨by simp,.inl ⟨rfl,rfl,rfl⟩⟩
  ·exact dt.ok c aa,List.Pairwise.cons (fun c aa b e=>by cases e) dt.apart⟩
end
section
variable {P:Program} {ops:Array Oper} {o:Oper} {KK:Act->World->Prop}
variable {n:Nat} {D:List Deferred} {L:List (Nat×Value)} {B:Nat->Prop} {al:World} {H:List bf} {a:Act} {w:World}
variable {T:List (TypeId×bD)} {d:Nat} {K:bf->List bf}
theorem Uk{s x:Operand} {t e:TypeId} {i i':bD} {A c2:Option Addr} {c k m cc:Nat} {xs news:List Value} (av:Sym n D L B al H a w)
  (aA:o.op=.call { callee:=.builtin .append,args:=#[s,x],argTypes:=#[t,t] }) (bg:o.guard=none/\o.dst=some d) (ax:Nat.blt d n=true)
  (bI:hp P T) (J:T.lookup t=some i) (U:i.desc=.slice e) (ag:T.lookup e=some i') (aq:Nat.blt 0 i'.size=true) (aE:i'.zero.cells.size=i'.size) (an:aD L s=some (.slice A k c)) (ak:aD L x=some (.slice c2 m cc))
  (az:iS H (.row A c e i'.size k xs) K) (aw:Reads w c2 m i'.size news) (iT:∀ u∈news,u.oneCell'=true) (hs:(k+m) * i'.bytes<=140737488355328) (ij:k+m<=140737488355328)
  (h:∀ bP c' aP w',(k+m<=c->c'=c)->Sym n D ((d,.slice bP (k+m) c') :: L) B al (K (.row bP c' e i'.size (k+m) (xs++news))) aP w'->KK aP w'):eS P ops o KK a w:=by
 have ay:=(bI _ _ J).1;rw[U]at ay;have cz:=bI _ _ ag;have fx:eQ w B e i'.size A c k xs:=av.aM.ok _ az.mem
 by_cases hm:m=0
 ·subst hm
  have aV:news=[]:=List.eq_nil_of_length_eq_zero (by simpa using aw.1);subst aV;have dy:(execOp a.eval o).run P w=.ok (.value (.slice A (k+0) c)) w:=by
   have hle:=fx.le.1;have o8:(Builtin.append_ #[t,t] o.type #[.slice A k c,.slice c2 0 cc]).run P w=.ok (.slice A k c) w:=by
    have hh:=bD.run_sizeOf cz w;have o9:(Builtin.firstCells i'.size 0 (.slice c2 0 cc)).run P w=.ok #[] w:=by
     cases c2<;>simp[Builtin.firstCells,loadCells,loadCellsFrom]
    simp only[Builtin.append_,Sem.run_bind,run_underlying ay,Result.andThen_ok,hh]
    simp[run_underlying ay,Builtin.lenOf,hle,o9]
    cases A<;>simp[storeCells,hh,o9]
   simp[execOp,aA,resolve,invoke,builtin,av.aD an,av.aD ak,o8]
  refine qW av bg ax dy ?_ (fun aP w'=>h A c aP w' fun _=>rfl)
  have:=av.aM
  obtain⟨X,Y,rfl,rfl⟩:=az
  simpa using this
 ·obtain⟨b,p,rfl,aa⟩:=aw.2 (by omega)
  obtain⟨bP,c',w',dy,Ul,sh,Bo,p4,dv,lS,iv,qY⟩:=Uh (P:=P) (ty:=o.type) ay cz (dY aq) aE fx (cc:=cc) aw.1 aa iT hs ij av.aM.fresh;refine qW av bg ax (w':=w') (v:=.slice bP (k+m) c') (by simp[execOp,aA,resolve,invoke,builtin,av.aD an,av.aD ak,dy]) ?_ (fun aP w'=>h bP c' aP w' qY);exact av.aM.tH az ⟨sh,Bo,p4,dv,fun q ar=>lS q (av.aM.base q ar) (fun cj=>(bf.ok.lt (c:=.row A c e i'.size k xs) fx cj).1 ar)⟩ Ul iv lS
theorem Bp{s x:Operand} {t e:TypeId} {i i':bD} {A c2:Option Addr} {c k m cc:Nat} {xs news:List Value} (av:Sym n D L B al H a w)
  (aA:o.op=.call { callee:=.builtin .append,args:=#[s,x],argTypes:=#[t,t] }) (bg:o.guard=none/\o.dst=some d) (ax:Nat.blt d n=true)
  (bI:hp P T) (J:T.lookup t=some i) (U:i.desc=.slice e) (ag:T.lookup e=some i') (aq:Nat.blt 0 i'.size=true) (aE:i'.zero.cells.size=i'.size) (an:aD L s=some (.slice A k c)) (ak:aD L x=some (.slice c2 m cc))
  (az:iS H (.row A c e i'.size k xs) K) (aw:Reads w c2 m i'.size news) (iT:∀ u∈news,u.oneCell'=true) (hs:(k+m) * i'.bytes<=140737488355328) (ij:k+m<=140737488355328)
  (h:∀ bP c' aP w',Sym n D ((d,.slice bP (k+m) c') :: L) B al (K (.row bP c' e i'.size (k+m) (xs++news))) aP w'->KK aP w'):eS P ops o KK a w:=
 Uk av aA bg ax bI J U ag aq aE an ak az aw iT hs ij fun bP c' aP w' _=>h bP c' aP w'
/-! ### Slices put together out of values -/
end
end Go.Proofs.YtcheedjfedcbpaaGreatDoor
namespace Go.Proofs.YtcheedjfedcbpaaGreatDoor
open Go.RowKit
section
variable {P:Program} {ops:Array Oper} {o:Oper} {KK:Act->World->Prop}
variable {n:Nat} {D:List Deferred} {L:List (Nat×Value)} {B:Nat->Prop} {al:World} {H:List bf} {a:Act} {w:World}
variable {T:List (TypeId×bD)} {d:Nat} {K:bf->List bf}
theorem Ma{u x:Operand} {t e:TypeId} {i i':bD} {A:Option Addr} {m c l:Nat} {k:IntKind} {z:Int} (aI:cT n D L a) (aA:o.op=.slice t u (some x) none none)
  (bI:hp P T) (J:T.lookup t=some i) (U:i.desc=.slice e) (ag:T.lookup e=some i') (hu:aD L u=some (.slice A m c)) (ak:aD L x=some (.int k z)) (bG:z=(l:Int)) (ah:l<=m) :
  fa P o a (.slice (jm A l i'.size c) (m - l) (c - l)):=fun w=>by
 subst bG;have ay:=(bI _ _ J).1;rw[U]at ay;have ajS:(l:Int)<=(m:Int):=by omega
 simp[execOp,aA,aI.aD hu,aI.aD ak,Instr.sliceAt,Instr.slice,Instr.sliceBounds,Instr.sliceBound,asIntOf,run_underlying ay,bD.run_sizeOf (bI _ _ ag),ah,jm]
theorem Um{u x:Operand} {t e:TypeId} {i i':bD} {A:Option Addr} {m c h:Nat} {k:IntKind} {z:Int} (aI:cT n D L a) (aA:o.op=.slice t u none (some x) none)
  (bI:hp P T) (J:T.lookup t=some i) (U:i.desc=.slice e) (ag:T.lookup e=some i') (hu:aD L u=some (.slice A m c)) (ak:aD L x=some (.int k z)) (bG:z=(h:Int)) (ah:h<=c) :
  fa P o a (.slice A h c):=fun w=>by
 subst bG;have ay:=(bI _ _ J).1;rw[U]at ay
 simp[execOp,aA,aI.aD hu,aI.aD ak,Instr.sliceAt,Instr.slice,Instr.sliceBounds,Instr.sliceBound,asIntOf,run_underlying ay,bD.run_sizeOf (bI _ _ ag),ah]
 by_cases aa:c=0
 ·simp[aa]
 ·cases A with
  | none=>simp
  | some vW=>simp[Addr.add]
theorem Un{u x y:Operand} {t e:TypeId} {i i':bD} {A:Option Addr} {m c l h:Nat} {k k':IntKind} {z ob:Int} (aI:cT n D L a) (aA:o.op=.slice t u (some x) (some y) none)
  (bI:hp P T) (J:T.lookup t=some i) (U:i.desc=.slice e) (ag:T.lookup e=some i') (hu:aD L u=some (.slice A m c)) (ak:aD L x=some (.int k z)) (aL:aD L y=some (.int k' ob)) (bG:z=(l:Int)) (qZ:ob=(h:Int)) (ah:l<=h) (cg:h<=c) :
  fa P o a (.slice (jm A l i'.size c) (h - l) (c - l)):=fun w=>by
 subst bG; subst qZ;have ay:=(bI _ _ J).1;rw[U]at ay
 simp[execOp,aA,aI.aD hu,aI.aD ak,aI.aD aL,Instr.sliceAt,Instr.slice,Instr.sliceBounds,Instr.sliceBound,asIntOf,run_underlying ay,bD.run_sizeOf (bI _ _ ag),ah,cg,jm]
def ek(z:List Value) (k:Nat):List Value:=(List.replicate k z).flatten
theorem yc(z:List Value) (k:Nat):(ek z k).length=k * z.length:=by simp[ek]
theorem Mb(z:List Value) (bG:0 < z.length):∀ k:Nat,(Array.range (k * z.length)).map (fun j=>z.toArray[j % z.toArray.size]!)=(ek z k).toArray:=by
 intro k
 apply Array.ext
 ·simp[ek]
 ·intro j J U
  simp only[Array.size_map,Array.size_range]at J;simp only[Array.getElem_map,Array.getElem_range,List.size_toArray];have hm:=Nat.mod_lt j bG;have hlen:j < (ek z k).length:=by rw[yc]; exact J
  have key:∀ (k j:Nat),j < k * z.length->(ek z k)[j]?=z[j % z.length]?:=by
   intro k
   induction k with
   | zero=>intro j aH; simp at aH
   | succ k br=>
    intro j aH
    have:ek z (k+1)=z++ek z k:=by simp[ek,List.replicate_succ]
    rw[this]
    by_cases aW:j < z.length
    ·rw[List.getElem?_append_left aW,Nat.mod_eq_of_lt aW]
    ·rw[List.getElem?_append_right (by omega),br (j - z.length) (by rw[Nat.add_mul]at aH; omega)]
     congr 1
     exact(Nat.mod_eq_sub_mod (by omega)).symm
  have ag:=key k j J;have aq:(ek z k)[j]?=some (ek z k)[j]:=List.getElem?_eq_getElem hlen;rw[aq,List.getElem?_eq_getElem hm]at ag;have aE:(ek z k).toArray[j]=(ek z k)[j]:=by simp
  rw[aE,Option.some.inj ag]
  simp[hm]
theorem Uo{s x:Operand} {t e:TypeId} {i i':bD} {A c2:Option Addr} {c k cc:Nat} {xs news:List Value} (av:Sym n D L B al H a w)
  (aA:o.op=.call { callee:=.builtin .copy,args:=#[s,x],argTypes:=#[t,t] }) (bg:o.guard=none/\o.dst=some d) (ax:Nat.blt d n=true)
  (bI:hp P T) (J:T.lookup t=some i) (U:i.desc=.slice e) (ag:T.lookup e=some i') (an:aD L s=some (.slice A k c)) (ak:aD L x=some (.slice c2 k cc))
  (az:iS H (.row A c e i'.size k xs) K) (aw:Reads w c2 k i'.size news) (iT:∀ u∈news,u.oneCell'=true)
  (h:∀ aP w',Sym n D ((d,.int .i64 (k:Int)) :: L) B al (K (.row A c e i'.size k news)) aP w'->KK aP w'):eS P ops o KK a w:=by
 have ay:=(bI _ _ J).1;rw[U]at ay;have cz:=bI _ _ ag;have fx:eQ w B e i'.size A c k xs:=av.aM.ok _ az.mem
 by_cases ab:k=0
 ·subst ab
  have aV:news=[]:=List.eq_nil_of_length_eq_zero (by simpa using aw.1);have hr:xs=[]:=List.eq_nil_of_length_eq_zero (by simpa using fx.1);subst aV; subst hr;have o8:(Builtin.copy_ #[t,t] o.type #[.slice A 0 c,.slice c2 0 cc]).run P w=.ok (.int .i64 0) w:=by
   have o9:(Builtin.firstCells i'.size 0 (.slice c2 0 cc)).run P w=.ok #[] w:=by
    cases c2<;>simp[Builtin.firstCells,loadCells,loadCellsFrom]
   cases A<;>simp[Builtin.copy_,run_underlying ay,Builtin.lenOf,bD.run_sizeOf cz,o9,storeCells,goInt]
  refine qW av bg ax (w':=w) (v:=.int .i64 ((0:Nat):Int)) (by simp[execOp,aA,resolve,invoke,builtin,av.aD an,av.aD ak,o8]) ?_ h
  have:=av.aM
  obtain⟨X,Y,rfl,rfl⟩:=az;exact this
 ·obtain⟨b,p,rfl,aa⟩:=aw.2 (by omega)
  rcases fx.2 with⟨_,aN,_⟩ | ⟨g,cur,dz,rfl,p1,aQ,kK,o6,iF,h3,p2⟩
  ·omega
  ·have yb:0+news.length<=cur.size:=by rw[aw.1,h3,Nat.zero_add]; exact Nat.mul_le_mul_right _ o6
   have gR:=run_firstCells_some (P:=P) w i'.size k ⟨b,p,none⟩ k cc news aw.1 (fun j v aH=>by rw[Addr.add_lit]; exact aa j v aH);have cU:=run_storeCells_cells (P:=P) g 0 news 0 w (fun j aH=>by
     simp only[World.cell?,aQ]
     simp; omega) (fun j aH=>by
     simp only[World.frozen?,aQ]
     rcases kK with h | h
     ·simp; omega
     ·simp; omega) iT
   rw[Nat.add_zero,ya g e dz news _ w cur aQ yb]at cU;have o8:(Builtin.copy_ #[t,t] o.type #[.slice (some ⟨g,0,none⟩) k c,.slice (some ⟨b,p,none⟩) k cc]).run P w=.ok (.int .i64 (k:Int)) (w.setRow g (cur.toList.take 0++news++cur.toList.drop (0+news.length)).toArray):=by
    have yd:Nat.min k k=k:=Nat.min_self k;simp only[Builtin.copy_,Sem.run_bind]
    simp[run_underlying ay,Builtin.lenOf,bD.run_sizeOf cz,yd,gR,cU,goInt]
   refine qW av bg ax (w':=w.setRow g (cur.toList.take 0++news++cur.toList.drop (0+news.length)).toArray) (v:=.int .i64 (k:Int)) (by simp only[execOp,aA,resolve,invoke,builtin,Sem.run_bind,Sem.run_pure,Result.andThen_ok,List.map_toArray,List.map_cons,List.map_nil,av.aD an,av.aD ak,o8]) ?_ h;refine av.aM.tH az ⟨rfl,rfl,rfl,by simp,fun q ar=>setRow_other w g q _ (fun cj=>by subst cj; exact p1 ar)⟩ (c':=.row (some ⟨g,0,none⟩) c e i'.size k news) ?_ (fun q ar=>.inl ar) fun q _ ar=>setRow_other w g q _ (fun cj=>ar (by subst cj; rfl))
   refine⟨aw.1,.inr ⟨g,_,dz,rfl,p1,setRow_heap w g cur _ e _ aQ,?_,o6,iF,?_,?_⟩⟩
   ·rcases kK with h | h
    ·exact .inl h
    ·exact .inr (by simp; omega)
   ·simp only[List.size_toArray,List.length_append,List.length_take,List.length_drop,Array.length_toList]
    omega
   ·simp only[List.take_zero,List.nil_append,<- aw.1]
    exact List.take_left
theorem Mc{s x:Operand} {t e:TypeId} {i i':bD} {A c2:Option Addr} {c k aT m cc:Nat} {xs news:List Value} (av:Sym n D L B al H a w)
  (aA:o.op=.call { callee:=.builtin .copy,args:=#[s,x],argTypes:=#[t,t] }) (bg:o.guard=none/\o.dst=some d) (ax:Nat.blt d n=true)
  (bI:hp P T) (J:T.lookup t=some i) (U:i.desc=.slice e) (ag:T.lookup e=some i') (an:aD L s=some (.slice (jm A aT i'.size c) (k - aT) (c - aT))) (ak:aD L x=some (.slice c2 m cc))
  (az:iS H (.row A c e i'.size k xs) K) (aw:Reads w c2 m i'.size news) (iT:∀ u∈news,u.oneCell'=true) (dv:0 < i'.size) (hm:aT+m<=k)
  (h:∀ aP w',Sym n D ((d,.int .i64 (m:Int)) :: L) B al (K (.row A c e i'.size k (xs.take (aT * i'.size)++news++xs.drop (aT * i'.size+news.length)))) aP w'->KK aP w'):eS P ops o KK a w:=by
 have ay:=(bI _ _ J).1;rw[U]at ay;have cz:=bI _ _ ag;have fx:eQ w B e i'.size A c k xs:=av.aM.ok _ az.mem
 by_cases ab:m=0
 ·subst ab
  have aV:news=[]:=List.eq_nil_of_length_eq_zero (by simpa using aw.1);subst aV;have o8:(Builtin.copy_ #[t,t] o.type #[.slice (jm A aT i'.size c) (k - aT) (c - aT),.slice c2 0 cc]).run P w=.ok (.int .i64 0) w:=by
   have o9:(Builtin.firstCells i'.size 0 (.slice c2 0 cc)).run P w=.ok #[] w:=by
    cases c2<;>simp[Builtin.firstCells,loadCells,loadCellsFrom]
   generalize jm A aT i'.size c=bP
   cases bP<;>simp[Builtin.copy_,run_underlying ay,Builtin.lenOf,bD.run_sizeOf cz,o9,storeCells,goInt]
  refine qW av bg ax (w':=w) (v:=.int .i64 ((0:Nat):Int)) (by simp[execOp,aA,resolve,invoke,builtin,av.aD an,av.aD ak,o8]) ?_ h
  have:=av.aM
  obtain⟨X,Y,rfl,rfl⟩:=az;rw[List.append_nil,List.length_nil,Nat.add_zero,List.take_append_drop];exact this
 ·obtain⟨b,p,rfl,aa⟩:=aw.2 (by omega)
  rcases fx.2 with⟨_,aN,_⟩ | ⟨g,cur,dz,rfl,p1,aQ,kK,o6,iF,h3,p2⟩
  ·omega
  ·have Up:aT≠c:=by omega
   have Fq:jm (some ⟨g,0,none⟩) aT i'.size c=some ⟨g,aT * i'.size,none⟩:=by
    unfold jm;rw[if_neg (fun e=>Up e.symm)]
    by_cases aN:aT * i'.size=0
    ·simp[Addr.add,aN]
    ·simp[Addr.add,aN]
   rw[Fq]at an;have vX:(aT+m) * i'.size<=k * i'.size:=Nat.mul_le_mul_right _ hm;have ajT:k * i'.size<=c * i'.size:=Nat.mul_le_mul_right _ o6;have yb:aT * i'.size+news.length<=cur.size:=by
    rw[aw.1,h3,<- Nat.add_mul];omega
   have gR:=run_firstCells_some (P:=P) w i'.size m ⟨b,p,none⟩ m cc news aw.1 (fun j v aH=>by rw[Addr.add_lit]; exact aa j v aH);have cU:=run_storeCells_cells (P:=P) g (aT * i'.size) news 0 w (fun j aH=>by
     simp only[World.cell?,aQ]
     simp; omega) (fun j aH=>by
     simp only[World.frozen?,aQ]
     rcases kK with h | h
     ·simp; omega
     ·simp; omega) iT
   rw[Nat.add_zero,ya g e dz news _ w cur aQ yb]at cU;have o8:(Builtin.copy_ #[t,t] o.type #[.slice (some ⟨g,aT * i'.size,none⟩) (k - aT) (c - aT),.slice (some ⟨b,p,none⟩) m cc]).run P w=.ok (.int .i64 (m:Int)) (w.setRow g (cur.toList.take (aT * i'.size)++news++cur.toList.drop (aT * i'.size+news.length)).toArray):=by
    have yd:Nat.min (k - aT) m=m:=Nat.min_eq_right (by omega);have Uq:Nat.min m (k - aT)=m:=Nat.min_eq_left (by omega);simp only[Builtin.copy_,Sem.run_bind]
    simp[run_underlying ay,Builtin.lenOf,bD.run_sizeOf cz,yd,Uq,gR,cU,goInt]
   refine qW av bg ax (w':=w.setRow g (cur.toList.take (aT * i'.size)++news++cur.toList.drop (aT * i'.size+news.length)).toArray) (v:=.int .i64 (m:Int)) (by simp only[execOp,aA,resolve,invoke,builtin,Sem.run_bind,Sem.run_pure,Result.andThen_ok,List.map_toArray,List.map_cons,List.map_nil,av.aD an,av.aD ak,o8]) ?_ h;refine av.aM.tH az ⟨rfl,rfl,rfl,by simp,fun q ar=>setRow_other w g q _ (fun cj=>by subst cj; exact p1 ar)⟩ (c':=.row (some ⟨g,0,none⟩) c e i'.size k (xs.take (aT * i'.size)++news++xs.drop (aT * i'.size+news.length))) ?_ (fun q ar=>.inl ar) fun q _ ar=>setRow_other w g q _ (fun cj=>ar (by subst cj; rfl))
   have j0:=fx.1;have si:m * i'.size=news.length:=aw.1.symm;have Ur:aT * i'.size+news.length<=k * i'.size:=by rw[<- si,<- Nat.add_mul]; exact vX
   refine⟨?_,.inr ⟨g,_,dz,rfl,p1,setRow_heap w g cur _ e _ aQ,?_,o6,iF,?_,?_⟩⟩
   ·simp only[List.length_append,List.length_take,List.length_drop,j0]
    omega
   ·rcases kK with h | h
    ·exact .inl h
    ·exact .inr (by simp only[List.size_toArray,List.length_append,List.length_take,List.length_drop,Array.length_toList]; omega)
   ·simp only[List.size_toArray,List.length_append,List.length_take,List.length_drop,Array.length_toList]
    omega
   ·show(cur.toList.take (aT * i'.size)++news++cur.toList.drop (aT * i'.size+news.length)).take (k * i'.size)=_
    have hh:(cur.toList.take (aT * i'.size)++news).length=aT * i'.size+news.length:=by
     simp only[List.length_append,List.length_take,Array.length_toList];omega
    rw[List.take_append,List.take_of_length_le (by rw[hh]; exact Ur),hh,<- p2,List.take_take,Nat.min_eq_left (by omega),List.drop_take]
end
end Go.Proofs.YtcheedjfedcbpaaGreatDoor
namespace Go.Proofs.YtcheedjfedcbpaaGreatDoor
end Go.Proofs.YtcheedjfedcbpaaGreatDoor
namespace Go.Proofs.YtcheedjfedcbpaaGreatDoor
open Go.RowKit
section
def bf.Us:bf->Bool
 | .obj _ _=>false
 | _=>true
theorem eQ.isCells{w:World} {B:Nat->Prop} {e:TypeId} {size c n:Nat} {A:Option Addr} {xs:List Value} (h:eQ w B e size A c n xs) {b:Nat} (ae:A.map (·.block)=some b):∃ cs e dz,w.heap[b]?=some (.cells cs e dz):=by
 rcases h.2 with⟨rfl,_⟩ | ⟨g,cur,dz,rfl,aQ,cg,_⟩
 ·cases ae
 ·have:g=b:=Option.some.inj ae
  subst this;exact⟨_,_,_,cg⟩
theorem bf.ok.cells{B:Nat->Prop} {w:World} {c:bf} (h:c.ok B w) (aa:c.Us=true) {b:Nat} (ae:c.has b):∃ cs e dz,w.heap[b]?=some (.cells cs e dz):=by
 cases c with
 | obj b' o=>cases aa
 | gQ b' cs e=>
  have:b'=b:=Option.some.inj ae
  subst this;exact⟨_,_,_,h.2⟩
 | row A c e size n xs=>exact eQ.isCells h ae
 | tree rs=>
  obtain⟨r,aw,ae⟩:=ae;exact eQ.isCells (h.1 r aw) ae
section
variable {B:Nat->Prop} {al w:World}
end
def tI(k:Nat):Deferred:={ target:=.collected k,args:=#[] }
end
end Go.Proofs.YtcheedjfedcbpaaGreatDoor
namespace Go.Proofs.YtcheedjfedcbpaaGreatDoor
open Go.RowKit
section
variable {r:Option Nat} {P:Program} {ops:Array Oper} {Q:Exit->Act->World->Prop} {o:Oper} {KK:Act->World->Prop} {c:Code}
variable {n:Nat} {D:List Deferred} {L:List (Nat×Value)} {B:Nat->Prop} {al:World} {H:List bf} {a:Act} {w:World} {d:Nat}
theorem Md{N:Nat} {vs:List Value} {fn:Func} (a6:fn.ntmps=N) (hle:vs.length<=N) (la:List (Nat×Value)) (dV:la=vs.zipIdx.map fun p=>(p.2,p.1)) :
  cT N [] la { tmps:=vs.toArray++Array.replicate (fn.ntmps - vs.toArray.size) undef,defers:=[] }:=by
 refine⟨by rw[a6]; exact T9 vs hle,rfl,fun s v an=>?_⟩;have key:∀ (vs:List Value) (k:Nat),((vs.zipIdx k).map fun p=>(p.2,p.1)).lookup s=some v->k<=s/\vs[s - k]?=some v:=by
  intro vs
  induction vs with
  | nil=>intro k h; cases h
  | cons u vs br=>
   intro k h;simp only[List.zipIdx_cons,List.map_cons,List.lookup_cons]at h
   by_cases e:s=k
   ·subst e
    simp at h
    subst h
    simp
   ·have cj:(s == k)=false:=by simpa using e
    rw[cj]at h;obtain⟨J,U⟩:=br (k+1) h;refine⟨by omega,?_⟩;rw[show s - k=(s - (k+1))+1 by omega,List.getElem?_cons_succ];exact U
 have J:=(key vs 0 (by rw[<- dV]; exact an)).2;simp only[Nat.sub_zero]at J;have aW:s < vs.length:=(List.getElem?_eq_some_iff.1 J).1;show(vs.toArray++_)[s]?=some v;rw[Array.getElem?_append_left (by simpa using aW)]
 simpa using J
theorem Me{fn:Func} {tmps:Array Value} {R:Value->World->Prop} {v:Value} (sj:∀ w,bE B al H w->(results fn tmps).run P w=.ok v w) (h:∀ w,bE B al H w->R v w) :
  ∀ (ks:List Nat) (w:World),bE B al (ks.map (fun k=>bf.obj k (.deferred (some [])))++H) w->LeavesInM Fence.wide 0 P fn tmps (fun e w'=>∃ v,e=.returned v/\R v w') (ks.map tI) .returning w
 | [],w,an=>⟨v,sj w an,v,rfl,h w an⟩
 | k :: ks,w,an=>by
  have ab:=(an.ok (.obj k (.deferred (some []))) (by simp)).2;refine⟨by simp,.inl ⟨k,_,rfl,run_takeDeferred ab,?_⟩⟩;refine Me sj h ks _ ?_
  have:=(an.x9 (x':=.deferred none) (K:=fun c=>c :: (ks.map (fun k=>bf.obj k (.deferred (some [])))++H)) vT).e6 (List.sublist_cons_self _ _)
  exact this
theorem Mf{fn:Func} {R:Value->World->Prop} {v:Value} (ks:List Nat) (av:Sym n (ks.map tI) L B al (ks.map (fun k=>bf.obj k (.deferred (some [])))++H) a w)
  (sj:∀ w,bE B al H w->(results fn a.tmps).run P w=.ok v w) (h:∀ w,bE B al H w->R v w):bodyPostM Fence.wide 0 P fn (fun e w'=>∃ v,e=.returned v/\R v w') .ret a w:=by
 show LeavesInM _ _ _ _ _ _ a.defers _ _;rw[av.st.defs];exact Me sj h ks w av.aM
end
end Go.Proofs.YtcheedjfedcbpaaGreatDoor
namespace Go.Proofs.YtcheedjfedcbpaaGreatDoor
theorem bE.frame{B:Nat->Prop} {al w w':World} {H1 H Mg:List bf} (h:bE B al (H1++H) w) (aK:bE (gj w H1) w Mg w'):bE B al (Mg++H) w':=by
 have J:bE B al H1 w:=h.e6 (List.sublist_append_left _ _);have U:bE B al H w:=h.e6 (List.sublist_append_right _ _);have ab:=J.back aK;have kl:=(List.pairwise_append.1 h.apart).2.2;have aw:∀ c∈H,∀ b,c.has b->gj w H1 b:=fun c aa b e=>⟨((U.ok c aa).lt e).2,fun d ax cj=>kl d ax c aa b cj e⟩
 refine⟨ab.below,ab.base,fun c hm=>?_,List.pairwise_append.2 ⟨ab.apart,U.apart,fun c hm d ax b e cj=>?_⟩⟩
 ·rcases List.mem_append.1 hm with hm | hm
  ·exact ab.ok c hm
  ·exact(U.ok c hm).dQ fun b e=>aK.below.block b (aw c hm b e)
 ·exact((aK.ok c hm).lt e).1 (aw d ax b cj)
theorem Mh {P : Program} {f : FuncId} {fn : Func} {args : Array Value} {w : World} (gX : P.funcs[f]? = some fn) (aV : (fn.name == "runtime.NumGoroutine") = false) (ae : fn.body.isNone = false) : (callFunc f args).run P w = .ok (.enter f args) w := by
 have hr : fn.name ≠ "runtime.NumGoroutine" := by simpa using aV
 have dM:fn.body≠none:=by intro h; rw[h]at ae; cases ae
 simp[callFunc,program,Sem.run,gX,hr,dM]
end Go.Proofs.YtcheedjfedcbpaaGreatDoor
namespace Go.Proofs.YtcheedjfedcbpaaGreatDoor
end Go.Proofs.YtcheedjfedcbpaaGreatDoor
namespace Go.Proofs.YtcheedjfedcbpaaGreatDoor
open Go.RowKit
section
section
variable {P:Program} {ops:Array Oper} {o:Oper} {KK:Act->World->Prop} {n:Nat} {D:List Deferred} {L:List (Nat×Value)} {B:Nat->Prop} {al:World} {H:List bf} {a:Act} {w:World} {d:Nat} {T:List (TypeId×bD)}
theorem Ut{f:FuncId} {fn:Func} {s:Nat} {lb:List Value} {xs:List Operand} {fN:Array TypeId} {vs:List Value} (av:Sym n D L B al H a w) (aA:o.op=.call { callee:=.value (.tmp s),args:=xs.toArray,argTypes:=fN })
  (an:L.lookup s=some (.func (.func f) #[] lb.toArray)) (gX:P.funcs[f]?=some fn)
  (aV : (fn.name == "runtime.NumGoroutine") = false) (ae : fn.body.isNone = false) (aC : iE L xs = some vs) : (execOp a.eval o).run P w = .ok (.enter f (vs ++ lb).toArray) w := by
 have e:a.eval (.tmp s)=.func (.func f) #[] lb.toArray:=av.aD (x:=.tmp s) an
 have hr : fn.name ≠ "runtime.NumGoroutine" := by simpa using aV
 have dM:fn.body≠none:=by intro h; rw[h]at ae; cases ae
 simp[execOp,aA,resolve,e,Deferred.ofValue,invoke,callFunc,program,Sem.run,gX,hr,dM,av.st.iE aC]
theorem Uu{f:FuncId} {fn:Func} {s:Nat} {lb:List Value} {xs:List Operand} {fN:Array TypeId} {vs:List Value} {R:Value->World->Prop} (av:Sym n D L B al H a w)
  (aA:o.op=.call { callee:=.value (.tmp s),args:=xs.toArray,argTypes:=fN }) (bg:o.guard=none/\o.dst=some d) (ax:Nat.blt d n=true) (an:L.lookup s=some (.func (.func f) #[] lb.toArray))
  (gX : P.funcs[f]? = some fn) (aV : (fn.name == "runtime.NumGoroutine") = false) (ae : fn.body.isNone = false) (aC : iE L xs = some vs) (dA : o4 P f (vs ++ lb).toArray w R)
  (h:∀ v aP w',R v w'->cT n D ((d,v) :: L) aP->KK aP w'):eS P ops o KK a w:=by
 refine .inl ⟨by simp[Region.wanted,bg.1],.inr (.inr ⟨f,(vs++lb).toArray,w,Ut av aA an gX aV ae aC,?_⟩)⟩;refine Calls.mono dA ?_;rintro e w' ⟨v,rfl,dT⟩;exact⟨v,rfl,h v _ w' dT (by rw[bg.2]; exact av.st.put d v (dY ax))⟩
theorem bE.Uv{b:Nat} {cs:List Value} {e:TypeId} {size m:Nat} (dt:bE B al (.gQ b cs e :: H) w) (ah:cs.length=m * size) (hm:m<=140737488355328):bE B al (.row (some ⟨b,0,none⟩) m e size m cs :: H) w:=by
 refine⟨dt.below,dt.base,fun c aa=>?_,?_⟩
 ·rcases List.mem_cons.1 aa with rfl | aa
  ·have:=dt.ok _ (List.mem_cons_self)
   exact⟨ah,.inr ⟨b,cs.toArray,(0,0),rfl,this.1,this.2,.inl rfl,Nat.le_refl _,by unfold maxLen; omega,by simpa using ah,by simp[<- ah]⟩⟩
  ·exact dt.ok c (List.mem_cons_of_mem _ aa)
 ·have:=List.pairwise_cons.1 dt.apart
  exact List.Pairwise.cons (fun c aa b cj=>this.1 c aa b (by simpa [bf.has] using cj)) this.2
inductive p5:List Value->Nat->List Value->List Value->Prop where
 | nil {l:List Value}:p5 l 0 [] l
 | cons {c v:Value} {l l' vs:List Value} (h:p5 l 0 vs l'):p5 (c :: l) 0 (v :: vs) (v :: l')
 | skip {c:Value} {l l' vs:List Value} {k:Nat} (h:p5 l k vs l'):p5 (c :: l) (k+1) vs (c :: l')
theorem p5.eq{l l' vs:List Value} {k:Nat} (h:p5 l k vs l'):l'=l.take k++vs++l.drop (k+vs.length)/\k+vs.length<=l.length:=by
 induction h with
 | nil=>simp
 | cons _ br=>exact⟨by simp only[Nat.zero_add,List.take_zero,List.nil_append]at br; rw[br.1]; simp,by simp only[List.length_cons]at *; omega⟩
 | skip _ br=>exact⟨by rw[br.1,show ∀ a b:Nat,a+1+b=(a+b)+1 by omega]; simp,by simp only[List.length_cons]at *; omega⟩
theorem Fs:∀ (vs:List Value) (l:List Value) (k j:Nat),k+j+vs.length<=l.length ->
  ((vs.zipIdx j).foldl (fun(cs:Array Value) (p:Value×Nat)=>cs.setIfInBounds (k+p.2) p.1) l.toArray)=(l.take (k+j)++vs++l.drop (k+j+vs.length)).toArray
 | [],l,k,j,h=>by simp
 | v :: vs,l,k,j,h=>by
  simp only[List.length_cons]at h;simp only[List.zipIdx_cons,List.foldl_cons];rw[show l.toArray.setIfInBounds (k+j) v=(l.set (k+j) v).toArray by simp];rw[Fs vs _ k (j+1) (by simp; omega)]
  congr 1
  rw[show k+(j+1)=k+j+1 by omega,List.take_succ_eq_append_getElem (by simp; omega)];simp only[List.getElem_set_self,List.append_assoc,List.length_cons];rw[List.take_set_of_le (by omega),List.drop_set_of_lt (by omega)]
  simp[Nat.add_comm,Nat.add_left_comm]
theorem Uw{pl:Nat->Option (Nat×Nat)} {z ob:List Value} {i off size:Nat} {v:Value} {rest:List (Nat×Value)} (ao:pl i=some (off,size)) (ah:v.cells.size=size) (h:p5 z off v.cells.toList ob) :
  Instr.fill pl z.toArray ((i,v) :: rest)=Instr.fill pl ob.toArray rest:=by
 obtain⟨J,U⟩:=h.eq;rw[Instr.fill];simp only[ao];simp only[Array.length_toList]at U J;rw[if_neg (by simp[ah]; simp[ah]at U; omega)]
 congr 1
 have:=Fs v.cells.toList z off 0 (by simp only[Array.length_toList]; omega)
 rw[J,<- Array.foldl_toList];simp only[Nat.add_zero,Array.toList_zipIdx,Array.length_toList]at this ⊢;exact this
end
end
end Go.Proofs.YtcheedjfedcbpaaGreatDoor
namespace Go.Proofs.YtcheedjfedcbpaaGreatDoor
open Go.RowKit
theorem Ux(q0:ByteArray):∀ (k i:Nat) (r:List UInt8),q0.size - i=k->ByteArray.toList.loop q0 i r=r.reverse++q0.data.toList.drop i:=by
 intro k
 induction k with
 | zero=>
  intro i r h;unfold ByteArray.toList.loop;rw[if_neg (by omega),List.drop_of_length_le (by simp; show q0.size<=i; omega),List.append_nil]
 | succ k br=>
  intro i r h;have hi:i < q0.size:=by omega
  unfold ByteArray.toList.loop;rw[if_pos hi,br (i+1) _ (by omega)];have lT:i < q0.data.toList.length:=by simpa using hi
  rw[List.drop_eq_getElem_cons lT]
  have:q0.get! i=q0.data.toList[i]:=by
   simp only[ByteArray.get!,Array.getElem_toList];exact getElem!_pos q0.data i (by simpa using hi)
  simp[this]
theorem ye(l:List UInt8):(ByteArray.mk l.toArray).toList=l:=by
 unfold ByteArray.toList;rw[Ux _ _ 0 [] rfl]
 simp
def fc(l:List UInt8):Value:=.string ⟨l.toArray⟩
section
variable {P:Program} {ops:Array Oper} {Q:Exit->Act->World->Prop} {o:Oper} {KK:Act->World->Prop} {n:Nat} {D:List Deferred} {L:List (Nat×Value)} {B:Nat->Prop} {al:World} {H:List bf} {a:Act} {w:World} {d:Nat} {T:List (TypeId×bD)} {r:Option Nat} {c:Code}
theorem Uy{u v:Operand} {t bW:TypeId} {x y:List UInt8} (aI:cT n D L a) (aA:o.op=.binOp .eql t u v bW) (hu:aD L u=some (fc x)) (aC:aD L v=some (fc y)):fa P o a (.bool (x == y)):=by
 have:=Uc (P:=P) aI aA hu aC
 rw[ye,ye]at this;exact this
theorem Uz{u v:Operand} {t bW:TypeId} {x y:List UInt8} (aI:cT n D L a) (aA:o.op=.binOp .neq t u v bW) (hu:aD L u=some (fc x)) (aC:aD L v=some (fc y)):fa P o a (.bool (!(x == y))):=by
 have:=Ud (P:=P) aI aA hu aC
 rw[ye,ye]at this;exact this
end
end Go.Proofs.YtcheedjfedcbpaaGreatDoor
namespace Go.Proofs.YtcheedjfedcbpaaGreatDoor
end Go.Proofs.YtcheedjfedcbpaaGreatDoor
namespace Go.Proofs.YtcheedjfedcbpaaGreatDoor
open Go.RowKit
section
section
variable {P:Program} {ops:Array Oper} {Q:Exit->Act->World->Prop} {o:Oper} {KK:Act->World->Prop} {n:Nat} {D:List Deferred} {L:List (Nat×Value)} {B:Nat->Prop} {al:World} {H:List bf} {a:Act} {w:World} {d:Nat} {T:List (TypeId×bD)} {K:bf->List bf}
theorem bE.rowAt(dt:bE B al H w) {A:Option Addr} {c:Nat} {e:TypeId} {size m:Nat} {xs:List Value} (az:iS H (.row A c e size m xs) K) (hm:0 < m):∃ g,A=some ⟨g,0,none⟩:=by
 rcases (dt.ok _ az.mem).2 with⟨_,h,_⟩ | ⟨g,_,_,h,_⟩
 ·omega
 ·exact⟨g,h⟩
end
end
section
open Go.ChangeShapes Go.WideShapes Go.ChangeAt Go.RowKit
section
variable {H:Type} {enc:TypeId×Value->H} {P:Program}
theorem Mi(ah:laidOutB P=true) {W da:World} (ae:Below W.heap.size W da) {sp:Nat->Bool} :
  ∀ (fN:List TypeId) (vs:List Value) (aG:List (DataW H)) (ps:List MemPlace),(∀ t∈fN,P.readableRec t=true/\t < P.types.size)->(∀ x∈ps,x.block < W.heap.size)->(∀ x∈ps,sp x.block=true) ->
   DataW.TrodAll enc P W 0 (fun _=>true) true fN vs aG ps->DataW.TrodAll enc P da 0 sp true fN vs aG ps
 | [],[],[],ps,_,_,_,h=>h
 | t :: fN,v :: vs,d :: aG,ps,aw,aW,jn,h=>by
  obtain⟨p,q,J,U,rfl⟩:=h;refine⟨p,q,WideElems.Trod_stays ah (aw t (by simp)).1 (aw t (by simp)).2 J (fun x ak=>ae.same (aW x (by simp[ak]))) (fun x ak=>jn x (by simp[ak])),?_,rfl⟩;exact Mi ah ae fN vs aG q (fun bW a8=>aw bW (by simp[a8])) (fun x ak=>aW x (by simp[ak])) (fun x ak=>jn x (by simp[ak])) U
 | [],[],_ :: _,_,_,_,_,h=>h.elim
 | [],_ :: _,_,_,_,_,_,h=>h.elim
 | _ :: _,[],_,_,_,_,_,h=>h.elim
 | _ :: _,_ :: _,[],_,_,_,_,h=>h.elim
theorem UA{f:Func} {s:ChangeSpec} {apart fresh handsOn:Bool} {t:TypeId} {W da:World} {args:Array Value} {aG gs:List (DataW H)} {before:List MemPlace}
  (mo:DataW.Whole enc P f.params.toList s.vars apart W args.toList aG gs before) (aC:s.vars=[]) (gX:s.fn H (aG++gs)={ results:=[.lit (.bool true)],args:=aG }) (UB:f.resultTypes=#[t]) (a8:P.underlying t=some .bool)
  (ah:laidOutB P=true) (UC:∀ t∈f.params.toList,P.readableRec t=true/\t < P.types.size) (ae:Below W.heap.size W da):s.post enc P f apart fresh handsOn false W args (.bool true) da:=by
 have aW:∀ p∈before,p.block < W.heap.size:=fun p ao=>mo.lt p ao
 have Bq:=mo;obtain⟨p,q,J,U,rfl,_,_⟩:=mo;rw[aC]at U;obtain⟨rfl,rfl⟩:=trodVars_none U;simp only[List.append_nil]at aW Bq gX;refine⟨aG,[],p,[],p,[],Bq,?_,?_,?_,World.keptBut_mono (fun x ak=>⟨ak,Or.inr (Or.inl ak)⟩) (ae.frame (·∈p)),fun h=>by cases h⟩
 ·simp only[List.append_nil,gX,UB]
  exact trodAll_mk1 (shut_bool a8 true)
 ·simp only[List.append_nil,gX]
  exact Mi ah ae _ _ _ _ UC aW (fun x ak=>by simpa using aW x ak) J
 ·simp only[List.append_nil,gX,aC]
  rfl
end
end
section
section
variable {P:Program} {ops:Array Oper} {Q:Exit->Act->World->Prop} {o:Oper} {KK:Act->World->Prop} {n:Nat} {D:List Deferred} {L:List (Nat×Value)} {B:Nat->Prop} {al:World} {H:List bf} {a:Act} {w:World} {d:Nat} {T:List (TypeId×bD)} {K:bf->List bf}
end
theorem mX{α:Type} (f:α->List Value) (s:Nat) (az:∀ x,(f x).length=s) (l:List α):(l.flatMap f).length=l.length * s:=by
 induction l with
 | nil=>simp
 | cons x l br=>rw[List.flatMap_cons,List.length_append,br,az,List.length_cons,Nat.add_mul]; omega
theorem Mj{α:Type} (f:α->List Value) (s:Nat) (az:∀ x,(f x).length=s) (l:List α) (k j:Nat) (ab:k < l.length) (v:Value) (aC:(f l[k])[j]?=some v):(l.flatMap f)[k * s+j]?=some v:=by
 induction l generalizing k with
 | nil=>simp at ab
 | cons x l br=>
  have ak:=az x;cases k with
  | zero=>
   have aH:=(List.getElem?_eq_some_iff.1 aC).1;rw[List.flatMap_cons,List.getElem?_append_left (by simp only[List.getElem_cons_zero]at aH; omega)]
   simpa using aC
  | succ k=>
   have:=br k (by simpa using ab) (by simpa using aC)
   rw[List.flatMap_cons,List.getElem?_append_right (by rw[ak,Nat.add_mul]; omega),ak,show(k+1) * s+j - s=k * s+j by rw[Nat.add_mul]; omega];exact this
theorem Reads.Mk{B:Nat->Prop} {al w:World} {H:List bf} (dt:bE B al H w) {A:Option Addr} {c:Nat} {e:TypeId} {size n:Nat} {xs:List Value} (hm:bf.row A c e size n xs∈H):Reads w A n size xs:=by
 obtain⟨X,Y,rfl⟩:=List.append_of_mem hm;exact Reads.row dt (K:=fun c=>X++c :: Y) ⟨X,Y,rfl,rfl⟩
end
section
open Go.ChangeShapes Go.WideShapes Go.ChangeAt Go.RowKit
section
variable {H:Type} {enc:TypeId×Value->H} {P:Program} {W:World}
theorem Ml{a:Addr} {v:Value} (h:W.cell? a=some v):a=⟨a.block,a.off,none⟩:=by
 obtain⟨b,p,s⟩:=a;cases s with
 | none=>rfl
 | some s=>
  exfalso
  simp only[World.cell?]at h
  split at h<;>simp at h
theorem Ft{α:Type} {Q:Nat->α->Prop}:∀ n:Nat,(∀ i,i < n->∃ x,Q i x)->∃ l:List α,l.length=n/\∀ i (hi:i < l.length),Q i l[i]
 | 0,_=>⟨[],rfl,fun i hi=>by simp at hi⟩
 | n+1,h=>by
  obtain⟨l,ah,ar⟩:=Ft n (fun i hi=>h i (by omega));obtain⟨x,ak⟩:=h n (by omega);refine⟨l++[x],by simp[ah],fun i hi=>?_⟩
  by_cases lT:i < l.length
  ·rw[List.getElem_append_left lT]; exact ar i lT
  ·have:i=n:=by simp at hi; omega
   subst this;rw[List.getElem_append_right (by omega)]
   simpa [ah] using ak
theorem UD{α:Type} {f:α->List Value} {s:Nat} (an:∀ x,(f x).length=s) (km:0 < s) {t e:TypeId} {r:Reach} {pa:Nat} {v:Value} {d:DataW H} {ps:List MemPlace} (a8:P.underlying t=some (.slice e)) (aa:P.cellsOf e=s)
  (mq:∀ k cs x,DataW.trod enc P W 0 (fun _=>true) true k e cs=some x->∃ y:α,cs=f y) (tJ:Value.okWide P W r pa t v) (ax:DataW.Trod enc P W 0 (fun _=>true) true t v d ps) :
  ∃ A len cap,∃ l:List α,v=.slice A len cap/\l.length=len/\len<=cap/\cap<=maxLen/\Reads W A len s (l.flatMap f):=by
 obtain⟨A,len,cap,rfl⟩:=okWide_slice a8 tJ;obtain⟨fuel,az⟩:=ax;have ay:(Value.slice A len cap).cells.toList=[.slice A len cap]:=rfl;rw[ay]at az
 rcases DataW.trod_slice a8 az with⟨h,_⟩ | ⟨a,ajU,ajV,elems,rest,n,_,h,_,_,ah,hm,hlen,nD,_,_⟩
 ·simp only[List.cons.injEq,Value.slice.injEq,and_true]at h
  obtain⟨rfl,rfl,rfl⟩:=h;exact⟨none,0,0,[],rfl,rfl,Nat.le_refl _,Nat.zero_le _,Reads.nil _ _ _⟩
 ·simp only[List.cons.injEq,Value.slice.injEq,and_true]at h
  obtain⟨rfl,rfl,rfl⟩:=h;rw[aa]at nD;obtain⟨l,p6,ar⟩:=Ft (Q:=fun i (y:α)=>∀ j,j < s->W.cell? ((a.add (i * s)).add j)=(f y)[j]?) len (fun i hi=>by
   have J:=nD i hi;have U:elems[i]?=some (elems[i]'(by omega)):=List.getElem?_eq_getElem (by omega);rw[U,Option.bind_eq_some_iff]at J;obtain⟨cs,ag,aq⟩:=J;obtain⟨y,rfl⟩:=mq _ _ _ aq;exact⟨y,(World.cells?_some ag).2.2⟩)
  refine⟨some a,len,cap,l,rfl,p6,ah,hm,by rw[mX f s an,p6],fun aN=>?_⟩;have bG:=ar 0 (by omega) 0 km;have qZ:W.cell? a=some ((f l[0])[0]'(by rw[an]; exact km)):=by
   have aS:(a.add (0 * s)).add 0=a:=by simp[Addr.add]
   rw[aS,List.getElem?_eq_getElem (by rw[an]; exact km)]at bG;exact bG
  have jn:=Ml qZ;refine⟨a.block,a.off,congrArg some jn,fun j u hu=>?_⟩;have aH:j < len * s:=by have:=(List.getElem?_eq_some_iff.1 hu).1; rwa [mX f s an,p6]at this
  have hdiv:j / s < len:=(Nat.div_lt_iff_lt_mul km).2 aH;have tK:=Nat.mod_lt j km;have aE:=ar (j / s) (by omega) (j % s) tK;rw[jn,Addr.add_lit,Addr.add_lit,List.getElem?_eq_getElem (by rw[an]; exact tK)]at aE;have bb:=Mj f s an l (j / s) (j % s) (by omega) _ (List.getElem?_eq_getElem (by rw[an]; exact tK));have yf:j / s * s+j % s=j:=by rw[Nat.mul_comm]; exact Nat.div_add_mod j s
  rw[yf,hu]at bb;rw[Nat.add_assoc,yf]at aE;rw[aE,bb]
end
end
section
section
variable {P:Program} {ops:Array Oper} {Q:Exit->Act->World->Prop} {o:Oper} {KK:Act->World->Prop} {n:Nat} {D:List Deferred} {L:List (Nat×Value)} {B:Nat->Prop} {al:World} {H:List bf} {a:Act} {w:World} {d:Nat} {T:List (TypeId×bD)} {K:bf->List bf}
theorem Mm{u y v:Operand} {t e:TypeId} {i i':bD} {A:Option Addr} {m c h q:Nat} {k' Br:IntKind} {ob Mn:Int} (aI:cT n D L a) (aA:o.op=.slice t u none (some y) (some v))
  (bI:hp P T) (J:T.lookup t=some i) (U:i.desc=.slice e) (ag:T.lookup e=some i') (hu:aD L u=some (.slice A m c)) (aL:aD L y=some (.int k' ob)) (aC:aD L v=some (.int Br Mn)) (qZ:ob=(h:Int)) (UE:Mn=(q:Int)) (cg:h<=q) (ar:q<=c) :
  fa P o a (.slice A h q):=fun w=>by
 subst qZ; subst UE;have ay:=(bI _ _ J).1;rw[U]at ay
 simp[execOp,aA,aI.aD hu,aI.aD aL,aI.aD aC,Instr.sliceAt,Instr.slice,Instr.sliceBounds,Instr.sliceBound,asIntOf,run_underlying ay,bD.run_sizeOf (bI _ _ ag),cg,ar]
 by_cases aa:q=0
 ·simp[aa]
 ·cases A with
  | none=>simp
  | some vW=>simp[Addr.add]
theorem UF{s x:Operand} {t e:TypeId} {i i':bD} {b p jE hF c k m cc:Nat} {xs news:List Value} (av:Sym n D L B al H a w)
  (aA:o.op=.call { callee:=.builtin .append,args:=#[s,x],argTypes:=#[t,t] }) (bg:o.guard=none/\o.dst=some d) (ax:Nat.blt d n=true)
  (bI:hp P T) (J:T.lookup t=some i) (U:i.desc=.slice e) (ag:T.lookup e=some i') (aq:Nat.blt 0 i'.size=true) (aE:i'.zero.cells.size=i'.size) (an:aD L s=some (.slice (some ⟨b,p,none⟩) k c)) (ak:aD L x=some (.slice (some ⟨jE,hF,none⟩) m cc))
  (ab:0 < k) (hm:0 < m) (jF:Reads w (some ⟨b,p,none⟩) k i'.size xs) (aw:Reads w (some ⟨jE,hF,none⟩) m i'.size news) (ajW:c < k+m) (hs:(k+m) * i'.bytes<=140737488355328) (ij:k+m<=140737488355328)
  (h:∀ g c' aP w',Sym n D ((d,.slice (some ⟨g,0,none⟩) (k+m) c') :: L) B al (.row (some ⟨g,0,none⟩) c' e i'.size (k+m) (xs++news) :: H) aP w'->KK aP w'):eS P ops o KK a w:=by
 have ay:=(bI _ _ J).1;rw[U]at ay;have cz:=bI _ _ ag;obtain⟨inf,pZ,fb,ih,mn⟩:=bD.info cz;obtain⟨b',Bs,cj,iG⟩:=jF.2 ab;cases cj;obtain⟨b',Bs,cj,h4⟩:=aw.2 hm;cases cj;have hlen:(xs++news).length=(k+m) * i'.size:=by rw[List.length_append,jF.1,aw.1,Nat.add_mul]
 have dy:=run_append_grow (P:=P) w t o.type e inf i'.zero ay pZ mn ⟨b,p,none⟩ k c xs (by rw[jF.1,fb]) (fun j u hu=>by rw[Addr.add_lit]; exact iG j u hu) ⟨jE,hF,none⟩ m cc news (by rw[aw.1,fb]) (fun j u hu=>by rw[Addr.add_lit]; exact h4 j u hu) (by omega) (by omega) (growslice_fits (by omega) (by rw[ih]; exact hs));have p0:=grownCap_ge w (k+m) c e;have iF:grownCap w (k+m) c e<=maxLen:=grownCap_le_maxLen w (k+m) c e (by simp only[maxLen]; omega);refine qW av bg ax (v:=.slice (some ⟨w.heap.size,0,none⟩) (k+m) (grownCap w (k+m) c e)) (w':=w.drew.alloc (.cells (xs.toArray++news.toArray++Builtin.zeroCells i'.zero.cells (grownCap w (k+m) c e - (k+m))) e)) (by simp[execOp,aA,resolve,invoke,builtin,av.aD an,av.aD ak,dy]) ?_ (h w.heap.size (grownCap w (k+m) c e));have lU:=av.aM.drew;have aX:=lU.alloc (.cells (xs.toArray++news.toArray++Builtin.zeroCells i'.zero.cells (grownCap w (k+m) c e - (k+m))) e);have ao:=List.pairwise_cons.1 aX.apart;refine⟨aX.below,aX.base,fun ee ik=>?_,List.Pairwise.cons (fun ee ik q cj=>ao.1 ee ik q (by simpa [bf.has] using cj)) ao.2⟩
 rcases List.mem_cons.1 ik with rfl | ik
 ·refine⟨hlen,.inr ⟨w.heap.size,_,(0,0),rfl,av.aM.fresh,heap_alloc_new w.drew _,.inl rfl,p0,iF,?_,?_⟩⟩
  ·simp only[Array.size_append,List.size_toArray,size_zeroCells,aE,jF.1,aw.1,<- Nat.add_mul]
   congr 1
   omega
  ·simp only[Array.toList_append,List.append_assoc]
   rw[<- List.append_assoc,<- hlen];exact List.take_left
 ·exact aX.ok ee (List.mem_cons_of_mem _ ik)
end
end
inductive aU where
 | int (k:IntKind)
 | bool
 | str
 | ai (g:aU)
 | gS (g:aU)
 | unit
 | fn
 | pair (g h:aU)
 deriving DecidableEq
abbrev aU.D:aU->Type
 | .int _=>Int
 | .bool=>Bool
 | .str=>List UInt8
 | .ai g=>List g.D
 | .gS g=>List g.D
 | .unit=>Unit
 | .fn=>Option Nat
 | .pair g h=>g.D×h.D
def aU.size:aU->Nat
 | .pair g h=>g.size+h.size
 | .unit=>0
 | _=>1
abbrev aU.zero:(g:aU)->g.D
 | .int _=>(0:Int)
 | .bool=>false
 | .str=>([]:List UInt8)
 | .ai g=>([]:List g.D)
 | .gS g=>([]:List g.D)
 | .unit=>()
 | .fn=>(none:Option Nat)
 | .pair g h=>(g.zero,h.zero)
def Flat{α:Type} (R:α->List Value->Prop):List α->List Value->Prop
 | [],vs=>vs=[]
 | x :: l,vs=>∃ v1 v2,vs=v1++v2/\R x v1/\Flat R l v2
def nE(B:Nat->Prop) (w:World) (A:Option Addr) (m size:Nat) (vs:List Value):Prop:=Reads w A m size vs/\∀ b p,0 < m->A=some ⟨b,p,none⟩->B b
def UG:Option Nat->Value
 | none=>.nilFunc
 | some f=>.func (.func f) #[] #[]
def bF(B:Nat->Prop) (w:World):(g:aU)->g.D->List Value->Prop
 | .int k=>fun(x:Int) vs=>vs=[.int k x]
 | .bool=>fun(x:Bool) vs=>vs=[.bool x]
 | .str=>fun(x:List UInt8) vs=>vs=[fc x]
 | .ai g=>fun(l:List g.D) vs=>∃ A c xs,vs=[.slice A l.length c]/\l.length<=c/\c<=maxLen/\Flat (bF B w g) l xs/\nE B w A l.length g.size xs
 | .gS g=>fun(l:List g.D) vs=>∃ A xs,vs=[.slice A l.length l.length]/\l.length<=maxLen/\Flat (bF B w g) l xs/\nE B w A l.length g.size xs
 | .unit=>fun _ vs=>vs=[]
 | .fn=>fun(x:Option Nat) vs=>vs=[UG x]
 | .pair g h=>fun(x:g.D×h.D) vs=>∃ v1 v2,vs=v1++v2/\bF B w g x.1 v1/\bF B w h x.2 v2
theorem Flat.mono{α:Type} {R qX:α->List Value->Prop} (h:∀ x vs,R x vs->qX x vs):∀ {l:List α} {vs:List Value},Flat R l vs->Flat qX l vs
 | [],_,az=>az
 | _ :: _,_,⟨v1,v2,e,J,U⟩=>⟨v1,v2,e,h _ _ J,Flat.mono h U⟩
theorem Flat.length{α:Type} {R:α->List Value->Prop} {k:Nat} (h:∀ x vs,R x vs->vs.length=k):∀ {l:List α} {vs:List Value},Flat R l vs->vs.length=l.length * k
 | [],_,az=>by rw[show _=[] from az]; simp
 | _ :: l,_,⟨v1,v2,e,J,U⟩=>by
  rw[e,List.length_append,h _ _ J,Flat.length h U,List.length_cons,Nat.add_mul,Nat.one_mul,Nat.add_comm]
theorem Flat.append{α:Type} {R:α->List Value->Prop}:∀ {l l':List α} {vs pb:List Value},Flat R l vs->Flat R l' pb->Flat R (l++l') (vs++pb)
 | [],_,_,_,h,aK=>by rw[show _=[] from h]; exact aK
 | _ :: l,_,_,_,⟨v1,v2,e,J,U⟩,aK=>⟨v1,_,by rw[e,List.append_assoc],J,Flat.append U aK⟩
theorem Flat.split{α:Type} {R:α->List Value->Prop} {k:Nat} (h:∀ x vs,R x vs->vs.length=k):∀ {l:List α} {vs:List Value} (n:Nat),Flat R l vs->Flat R (l.take n) (vs.take (n * k))/\Flat R (l.drop n) (vs.drop (n * k))
 | [],vs,n,az=>by rw[show vs=[] from az]; simp[Flat]
 | x :: l,vs,0,az=>by simp only[List.take_zero,Nat.zero_mul,List.drop_zero]; exact⟨rfl,az⟩
 | x :: l,vs,n+1,⟨v1,v2,e,J,U⟩=>by
  obtain⟨aX,ae⟩:=Flat.split h n U;have ab:=h _ _ J;have ay:(v1++v2).take ((n+1) * k)=v1++v2.take (n * k):=by
   rw[List.take_append,List.take_of_length_le (by rw[ab,Nat.add_mul]; omega),ab]
   congr 2
   rw[Nat.add_mul]; omega
  have aS:(v1++v2).drop ((n+1) * k)=v2.drop (n * k):=by
   rw[List.drop_append,List.drop_of_length_le (by rw[ab,Nat.add_mul]; omega),ab,List.nil_append]
   congr 1
   rw[Nat.add_mul]; omega
  rw[e,ay,aS];exact⟨⟨v1,_,rfl,J,aX⟩,ae⟩
theorem Flat.get{α:Type} {R:α->List Value->Prop} {k:Nat} (h:∀ x vs,R x vs->vs.length=k) {l:List α} {vs:List Value} (az:Flat R l vs) {i:Nat} {x:α} (hi:l[i]?=some x):R x ((vs.drop (i * k)).take k):=by
 obtain⟨_,U⟩:=Flat.split h i az;have aW:i < l.length:=(List.getElem?_eq_some_iff.1 hi).1;have e:l.drop i=x :: l.drop (i+1):=by
  rw[List.drop_eq_getElem_cons aW,(List.getElem?_eq_some_iff.1 hi).2]
 rw[e]at U;obtain⟨v1,v2,aS,ag,_⟩:=U;rw[aS,List.take_append,List.take_of_length_le (by rw[h _ _ ag]; exact Nat.le_refl _),h _ _ ag,Nat.sub_self,List.take_zero,List.append_nil];exact ag
theorem Flat.set{α:Type} {R:α->List Value->Prop} {k:Nat} (h:∀ x vs,R x vs->vs.length=k) {l:List α} {vs:List Value} (az:Flat R l vs) {i:Nat} (hi:i < l.length) {x:α} {us:List Value} (ak:R x us) :
  Flat R (l.set i x) (vs.take (i * k)++us++vs.drop (i * k+k)):=by
 obtain⟨J,_⟩:=Flat.split h i az;obtain⟨_,U⟩:=Flat.split h (i+1) az;rw[List.set_eq_take_append_cons_drop,if_pos hi,List.append_assoc];refine J.append ⟨us,_,rfl,ak,?_⟩;rw[Nat.add_mul,Nat.one_mul]at U;exact U
theorem bF.length{B:Nat->Prop} {w:World}:∀ {g:aU} {x:g.D} {vs:List Value},bF B w g x vs->vs.length=g.size
 | .int _,_,_,h=>by rw[show _=[_] from h]; rfl
 | .bool,_,_,h=>by rw[show _=[_] from h]; rfl
 | .str,_,_,h=>by rw[show _=[_] from h]; rfl
 | .ai _,_,_,⟨_,_,_,h,_⟩=>by rw[h]; rfl
 | .gS _,_,_,⟨_,_,h,_⟩=>by rw[h]; rfl
 | .unit,_,_,h=>by rw[show _=[] from h]; rfl
 | .fn,_,_,h=>by rw[show _=[_] from h]; rfl
 | .pair g h,_,_,⟨v1,v2,e,J,U⟩=>by rw[e,List.length_append,bF.length J,bF.length U]; rfl
theorem bF.mX{B:Nat->Prop} {w:World} {g:aU} {l:List g.D} {vs:List Value} (h:Flat (bF B w g) l vs):vs.length=l.length * g.size:=Flat.length (fun _ _=>bF.length) h
def oc(el:Bool) (B:Nat->Prop) (w:World) (g:aU) (x:List g.D) (vs:List Value):Prop:=match el with
 | true=>bF B w (.gS g) x vs
 | false=>bF B w (.ai g) x vs
theorem oc.length{el:Bool} {B:Nat->Prop} {w:World} {g:aU} {x:List g.D} {vs:List Value} (h:oc el B w g x vs):vs.length=1:=by
 cases el with
 | true=>exact bF.length (g:=.gS g) h
 | false=>exact bF.length (g:=.ai g) h
theorem oc.mX{el:Bool} {B:Nat->Prop} {w:World} {g:aU} {l:List (List g.D)} {vs:List Value} (h:Flat (oc el B w g) l vs):vs.length=l.length:=by
 have:=Flat.length (fun _ _=>oc.length) h
 omega
structure fJ(B:Nat->Prop) (w:World) (B':Nat->Prop) (w':World):Prop where
 sub:∀ k,B k->B' k
 same:∀ k,B k->w'.heap[k]?=w.heap[k]?
theorem fJ.cell{B B':Nat->Prop} {w w':World} (h:fJ B w B' w') {b o:Nat} (ae:B b):w'.cell? ⟨b,o,none⟩=w.cell? ⟨b,o,none⟩:=World.cell?_of_block (h.same b ae)
theorem nE.up{B B':Nat->Prop} {w w':World} (h:fJ B w B' w') {A:Option Addr} {m size:Nat} {vs:List Value} (aw:nE B w A m size vs):nE B' w' A m size vs:=by
 refine⟨⟨aw.1.1,fun hm=>?_⟩,fun b p hm e=>h.sub b (aw.2 b p hm e)⟩;obtain⟨b,p,e,aa⟩:=aw.1.2 hm;exact⟨b,p,e,fun j u hu=>by rw[h.cell (aw.2 b p hm e)]; exact aa j u hu⟩
theorem bF.up{B B':Nat->Prop} {w w':World} (h:fJ B w B' w'):∀ {g:aU} {x:g.D} {vs:List Value},bF B w g x vs->bF B' w' g x vs
 | .int _,_,_,az=>az
 | .bool,_,_,az=>az
 | .str,_,_,az=>az
 | .ai _,_,_,⟨A,c,xs,e,J,U,ag,aq⟩=>⟨A,c,xs,e,J,U,Flat.mono (fun _ _=>bF.up h) ag,aq.up h⟩
 | .gS _,_,_,⟨A,xs,e,U,ag,aq⟩=>⟨A,xs,e,U,Flat.mono (fun _ _=>bF.up h) ag,aq.up h⟩
 | .unit,_,_,az=>az
 | .fn,_,_,az=>az
 | .pair _ _,_,_,⟨v1,v2,e,J,U⟩=>⟨v1,v2,e,bF.up h J,bF.up h U⟩
theorem oc.up{B B':Nat->Prop} {w w':World} (h:fJ B w B' w') {el:Bool} {g:aU} {x:List g.D} {vs:List Value} (az:oc el B w g x vs):oc el B' w' g x vs:=by
 cases el with
 | true=>exact bF.up (g:=.gS g) h az
 | false=>exact bF.up (g:=.ai g) h az
inductive e4 where
 | id (i:Nat)
 | eT (g:aU) (x:g.D)
inductive bm where
 | val (v:Value)
 | str (s:List UInt8)
 | dead
 | ptr (id off:Nat)
 | eG (id cJ i off:Nat)
 | fO (g:aU) (x:g.D) (off:Nat)
 | par (g:aU) (l:List g.D)
 | ai (id:Nat)
 | bk (g:aU) (l:List g.D) (cap:Option Nat)
 | fn (f:FuncId) (ids:List e4)
 | b8 (id:Nat)
 | iH (f:FuncId) (id:Nat)
 | hG (id o:Nat)
 | iI (id s o:Nat)
 | iU (id:Nat)
 | hQ (b:Bool) (id:Nat)
inductive bl where
 | c (x:bm)
 | agg (cs:List bm)
 | arr (g:aU) (l:List g.D)
inductive b3 where
 | a (x:bl)
 | may (g:Bool) (x:bl)
 | c3 (vs:List bl)
abbrev b3.c (x:bm):b3:=.a (.c x)
inductive Loc where
 | no
 | blk (b:Nat)
 | row (A:Option Addr) (c n:Nat)
def At(B:Nat->Prop) (w:World) (g:aU) (x:g.D) (b o:Nat):Prop:=B b/\∃ vs,bF B w g x vs/\∀ j u,vs[j]?=some u->w.cell? ⟨b,o+j,none⟩=some u
def UH(env:Nat->Loc) (B:Nat->Prop) (w:World):e4->Value->Prop
 | .id i,v=>∃ b,env i=.blk b/\v=.pointer (some ⟨b,0,none⟩)
 | .eT g x,v=>∃ b o,v=.pointer (some ⟨b,o,none⟩)/\At B w g x b o
def eZ(env:Nat->Loc) (B:Nat->Prop) (w:World):List e4->List Value->Prop
 | [],vs=>vs=[]
 | c :: cs,vs=>∃ v r,vs=v :: r/\UH env B w c v/\eZ env B w cs r
def dB(env:Nat->Loc) (B:Nat->Prop) (w:World):bm->Value->Prop
 | .val v,u=>u=v
 | .str s,u=>u=fc s
 | .dead,_=>True
 | .ptr id off,u=>∃ b,env id=.blk b/\u=.pointer (some ⟨b,off,none⟩)
 | .eG id cJ i off,u=>∃ b c n,env id=.row (some ⟨b,0,none⟩) c n/\u=.pointer (some ⟨b,i * cJ+off,none⟩)
 | .fO g x off,u=>∃ b o,u=.pointer (some ⟨b,o+off,none⟩)/\At B w g x b o
 | .par g l,u=>∃ b o vs,u=.pointer (some ⟨b,o,none⟩)/\B b/\Flat (bF B w g) l vs/\∀ j u,vs[j]?=some u->w.cell? ⟨b,o+j,none⟩=some u
 | .ai id,u=>∃ A c n,env id=.row A c n/\u=.slice A n c
 | .bk g l cap,u=>∃ A c xs,u=.slice A l.length c/\l.length<=c/\c<=maxLen/\(∀ k,cap=some k->c=k)/\Flat (bF B w g) l xs/\nE B w A l.length g.size xs
 | .fn f ids,u=>∃ vs,u=.func (.func f) #[] vs.toArray/\eZ env B w ids vs
 | .b8 id,u=>∃ b,env id=.blk b/\u=.map (some b)
 | .iH f id,u=>∃ b,env id=.blk b/\u=.func (.func f) #[.pointer (some ⟨b,0,none⟩)] #[]
 | .iI id s o,u=>∃ A c n,env id=.row A c n/\o<=n/\u=.slice (jm A o s c) (n - o) (c - o)
 | .iU id,u=>∃ A c n,env id=.row A c n/\u=.int .i64 (c:Int)
 | .hG id o,u=>∃ b c n,env id=.row (some ⟨b,0,none⟩) c n/\u=.pointer (some ⟨b,o,none⟩)
 | .hQ b id,u=>∃ k,(b=true->env id=.blk k)/\u=.pointer (if b then some ⟨k,0,none⟩else none)
def cH(env:Nat->Loc) (B:Nat->Prop) (w:World):List bm->List Value->Prop
 | [],vs=>vs=[]
 | c :: cs,vs=>∃ v r,vs=v :: r/\dB env B w c v/\cH env B w cs r
def dH(env:Nat->Loc) (B:Nat->Prop) (w:World):bl->Value->Prop
 | .c x,v=>dB env B w x v
 | .agg cs,v=>∃ vs,v=.agg vs.toArray/\cH env B w cs vs
 | .arr g l,v=>∃ vs,v=.agg vs.toArray/\Flat (bF B w g) l vs
def dn(env:Nat->Loc) (B:Nat->Prop) (w:World):List bl->List Value->Prop
 | [],vs=>vs=[]
 | c :: cs,vs=>∃ v r,vs=v :: r/\dH env B w c v/\dn env B w cs r
def eH(env:Nat->Loc) (B:Nat->Prop) (w:World):b3->Value->Prop
 | .a x,v=>dH env B w x v
 | .may g x,v=>(g=true->dH env B w x v)/\(g=false->v=undef)
 | .c3 xs,v=>∃ vs,v=.tuple vs.toArray/\dn env B w xs vs
theorem At.up{B B':Nat->Prop} {w w':World} (h:fJ B w B' w') {g:aU} {x:g.D} {b o:Nat} (aX:At B w g x b o):At B' w' g x b o:=by
 obtain⟨ae,vs,J,U⟩:=aX;exact⟨h.sub b ae,vs,bF.up h J,fun j u hu=>by rw[h.cell ae]; exact U j u hu⟩
theorem eZ.up{env:Nat->Loc} {B B':Nat->Prop} {w w':World} (h:fJ B w B' w'):∀ {cs:List e4} {vs:List Value},eZ env B w cs vs->eZ env B' w' cs vs
 | [],_,aa=>aa
 | .id _ :: _,_,⟨v,r,e,J,U⟩=>⟨v,r,e,J,eZ.up h U⟩
 | .eT _ _ :: _,_,⟨v,r,e,⟨b,o,J,ag⟩,U⟩=>⟨v,r,e,⟨b,o,J,ag.up h⟩,eZ.up h U⟩
theorem dB.up{env:Nat->Loc} {B B':Nat->Prop} {w w':World} (h:fJ B w B' w'):∀ {c:bm} {v:Value},dB env B w c v->dB env B' w' c v
 | .val _,_,aa=>aa
 | .str _,_,aa=>aa
 | .dead,_,aa=>aa
 | .ptr _ _,_,aa=>aa
 | .eG _ _ _ _,_,aa=>aa
 | .fO _ _ _,_,⟨b,o,e,aX⟩=>⟨b,o,e,aX.up h⟩
 | .par _ _,_,⟨b,o,vs,e,ae,J,U⟩=>⟨b,o,vs,e,h.sub b ae,Flat.mono (fun _ _=>bF.up h) J,fun j u hu=>by rw[h.cell ae]; exact U j u hu⟩
 | .ai _,_,aa=>aa
 | .bk _ _ _,_,⟨A,c,xs,e,J,U,ag,aq,aE⟩=>⟨A,c,xs,e,J,U,ag,Flat.mono (fun _ _=>bF.up h) aq,aE.up h⟩
 | .fn _ _,_,⟨vs,e,ao⟩=>⟨vs,e,ao.up h⟩
 | .b8 _,_,aa=>aa
 | .iH _ _,_,aa=>aa
 | .hG _ _,_,aa=>aa
 | .iI _ _ _,_,aa=>aa
 | .iU _,_,aa=>aa
 | .hQ _ _,_,aa=>aa
theorem cH.up{env:Nat->Loc} {B B':Nat->Prop} {w w':World} (h:fJ B w B' w'):∀ {c:List bm} {v:List Value},cH env B w c v->cH env B' w' c v
 | [],_,aa=>aa
 | _ :: _,_,⟨v,r,e,J,U⟩=>⟨v,r,e,J.up h,cH.up h U⟩
theorem dH.up{env:Nat->Loc} {B B':Nat->Prop} {w w':World} (h:fJ B w B' w'):∀ {c:bl} {v:Value},dH env B w c v->dH env B' w' c v
 | .c _,_,aa=>dB.up h aa
 | .agg _,_,⟨vs,e,J⟩=>⟨vs,e,J.up h⟩
 | .arr _ _,_,⟨vs,e,J⟩=>⟨vs,e,Flat.mono (fun _ _=>bF.up h) J⟩
theorem dn.up{env:Nat->Loc} {B B':Nat->Prop} {w w':World} (h:fJ B w B' w'):∀ {c:List bl} {v:List Value},dn env B w c v->dn env B' w' c v
 | [],_,aa=>aa
 | _ :: _,_,⟨v,r,e,J,U⟩=>⟨v,r,e,J.up h,dn.up h U⟩
theorem eH.up{env:Nat->Loc} {B B':Nat->Prop} {w w':World} (h:fJ B w B' w'):∀ {c:b3} {v:Value},eH env B w c v->eH env B' w' c v
 | .a _,_,aa=>dH.up h aa
 | .may _ _,_,aa=>⟨fun aQ=>(aa.1 aQ).up h,aa.2⟩
 | .c3 _,_,⟨vs,e,J⟩=>⟨vs,e,J.up h⟩
section
structure bh where
 bq:bD
 g:Option aU
def aU.ek:aU->List Value
 | .int k=>[.int k 0]
 | .bool=>[.bool false]
 | .str=>[fc []]
 | .ai _=>[.slice none 0 0]
 | .gS _=>[.slice none 0 0]
 | .unit=>[]
 | .fn=>[.nilFunc]
 | .pair g h=>g.ek++h.ek
structure bh.ok(P:Program) (t:TypeId) (e:bh):Prop where
 bq:bD.ok P t e.bq
 g:∀ g,e.g=some g->g.size=e.bq.size/\e.bq.zero.cells.toList=g.ek/\0 < g.size
inductive b9 where
 | leaf
 | node (l:b9) (k:TypeId) (e:bh) (r:b9)
def b9.find:b9->TypeId->Option bh
 | .leaf,_=>none
 | .node l k e r,t=>match Nat.blt t k with
  | true=>l.find t
  | false=>match Nat.beq t k with
   | true=>some e
   | false=>r.find t
def b9.ok(P:Program):b9->Prop
 | .leaf=>True
 | .node l k e r=>l.ok P/\bh.ok P k e/\r.ok P
theorem b9.get{P:Program}:∀ {tt:b9} {t:TypeId} {e:bh},tt.ok P->tt.find t=some e->bh.ok P t e
 | .leaf,_,_,_,h=>by cases h
 | .node l k cj r,t,e,⟨J,U,ag⟩,h=>by
  unfold b9.find at h
  split at h
  ·exact b9.get J h
  ·split at h
   ·rename_i ab
    have:t=k:=Nat.eq_of_beq_eq_true ab
    subst this;cases h;exact U
   ·exact b9.get ag h
theorem bD.uniq{P:Program} {t:TypeId} {i j:bD} (h:bD.ok P t i) (k:bD.ok P t j):i=j:=by
 obtain⟨i1,i2,i3,i4⟩:=i;obtain⟨ajX,tL,ajY,ajZ⟩:=j;have J:=h.1.symm.trans k.1;have U:=h.2.symm.trans k.2;simp only[Option.some.injEq,Prod.mk.injEq]at J U;obtain⟨rfl,rfl,rfl⟩:=U;subst J
 rfl
theorem Bt{P:Program} {t:TypeId} {i:bD} (h:bD.ok P t i):∃ T,hp P T/\T.lookup t=some i:=⟨[(t,i)],hp.cons h (hp.nil _),by simp⟩
theorem mY{P:Program} {t e:TypeId} {i j:bD} (h:bD.ok P t i) (k:bD.ok P e j):∃ T,hp P T/\T.lookup t=some i/\T.lookup e=some j:=by
 refine⟨[(t,i),(e,j)],hp.cons h (hp.cons k (hp.nil _)),by simp,?_⟩
 by_cases he:e=t
 ·subst he
  rw[bD.uniq h k]
  simp
 ·simp[List.lookup_cons,beq_false_of_ne he]
inductive cv where
 | cells (t:TypeId) (cs:List bm)
 | row (t:TypeId) (g:aU) (l:List g.D) (cap:Option Nat)
 | kn (s:ByteArray) (pos:Nat)
 | mp (gk aY:aU) (l:List (gk.D×aY.D)) (o:Option (List MapEntry×Nat))
 | it (eU:Nat) (es:List MapEntry) (clock:Nat) (ps:List Nat)
 | ko
 | hj (eU:Nat)
 | cM (el:Bool) (t:TypeId) (g:aU) (l:List (List g.D)) (cap:Option Nat) (i d:Nat)
 | kL
 | gl (t:TypeId) (g:aU) (l:List g.D)
 | b2 (t bW:TypeId) (g:aU) (l:List (Bool×List g.D)) (cap:Option Nat) (h:Option (Nat×Option Nat))
abbrev bz:=List (Nat×cv)
abbrev cX:=List (Nat×b3)
structure aO where
 L:cX
 H:bz
def bd{α:Type}:List (Nat×α)->Nat->Option α
 | [],_=>none
 | (k,v) :: r,s=>match Nat.beq s k with
  | true=>some v
  | false=>bd r s
theorem cI{α:Type} {k:Nat} {v:α} {r:List (Nat×α)} {s:Nat}:bd ((k,v) :: r) s=if s=k then some v else bd r s:=by
 show(match Nat.beq s k with | true=>some v | false=>bd r s)=_
 split
 ·rename_i h
  rw[if_pos (Nat.eq_of_beq_eq_true h)]
 ·rename_i h
  rw[if_neg (Nat.ne_of_beq_eq_false h)]
def dZ(B:Nat->Prop) (w:World):(g:aU)->g.D->Value->Prop
 | .pair g h=>fun x v=>∃ vs,v=.agg vs.toArray/\bF B w (.pair g h) x vs
 | g=>fun x v=>bF B w g x [v]
theorem dZ.up{B B':Nat->Prop} {w w':World} (h:fJ B w B' w'):∀ {g:aU} {x:g.D} {v:Value},dZ B w g x v->dZ B' w' g x v
 | .pair _ _,_,_,⟨vs,e,J⟩=>⟨vs,e,bF.up h J⟩
 | .int _,_,_,J=>bF.up h J
 | .bool,_,_,J=>bF.up h J
 | .str,_,_,J=>bF.up h J
 | .ai _,_,_,J=>bF.up h J
 | .gS _,_,_,J=>bF.up h J
 | .unit,_,_,J=>bF.up h J
 | .fn,_,_,J=>bF.up h J
def gb(B:Nat->Prop) (w:World) (gk aY:aU):List (gk.D×aY.D)->List MapEntry->Prop
 | [],es=>es=[]
 | x :: l,es=>∃ e r,es=e :: r/\dZ B w gk x.1 e.key/\dZ B w aY x.2 e.val/\gb B w gk aY l r
theorem gb.up{B B':Nat->Prop} {w w':World} (h:fJ B w B' w') {gk aY:aU}:∀ {l:List (gk.D×aY.D)} {es:List MapEntry},gb B w gk aY l es->gb B' w' gk aY l es
 | [],_,cg=>cg
 | _ :: _,_,⟨e,r,ay,J,U,ag⟩=>⟨e,r,ay,J.up h,U.up h,gb.up h ag⟩
def Stamped(es:List MapEntry) (clock:Nat):Prop:=(es.map (·.born)).Pairwise (· < ·)/\∀ b∈es.map (·.born),b < clock
def UI(es:List MapEntry) (ps:List Nat):List Nat:=ps.map fun j=>((es[j]?).map (·.born)).getD 0
def dI(B:Nat->Prop) (w:World) (bW:TypeId) (g:aU):List (Bool×List g.D)->List Value->List ga->Prop
 | [],vs,I=>vs=[]/\I=[]
 | x :: r,vs,I=>∃ v eV,vs=v :: eV/\match x.1 with
  | true=>∃ A k xs eL,v=.slice A x.2.length k/\I=⟨A,k,bW,g.size,x.2.length,xs⟩ :: eL/\Flat (bF B w g) x.2 xs/\dI B w bW g r eV eL
  | false=>bF B w (.ai g) x.2 [v]/\dI B w bW g r eV I
theorem dI.length{B:Nat->Prop} {w:World} {bW:TypeId} {g:aU}:∀ {l:List (Bool×List g.D)} {vs:List Value} {I:List ga},dI B w bW g l vs I->vs.length=l.length
 | [],_,_,⟨e,_⟩=>by rw[e]; rfl
 | (true,_) :: _,_,_,⟨v,eV,e,_,_,_,_,_,_,_,h⟩=>by rw[e,List.length_cons,List.length_cons,dI.length h]
 | (false,_) :: _,_,_,⟨v,eV,e,_,h⟩=>by rw[e,List.length_cons,List.length_cons,dI.length h]
theorem dI.up{B B':Nat->Prop} {w w':World} (h:fJ B w B' w') {bW:TypeId} {g:aU}:∀ {l:List (Bool×List g.D)} {vs:List Value} {I:List ga},dI B w bW g l vs I->dI B' w' bW g l vs I
 | [],_,_,J=>J
 | (true,_) :: _,_,_,⟨v,eV,e,A,k,xs,eL,J,U,ag,aq⟩=>⟨v,eV,e,A,k,xs,eL,J,U,Flat.mono (fun _ _=>bF.up h) ag,dI.up h aq⟩
 | (false,_) :: _,_,_,⟨v,eV,e,J,U⟩=>⟨v,eV,e,bF.up h J,dI.up h U⟩
def Mo{α:Type} (l:List (Bool×List α)):Option (Nat×Option Nat)->List (Bool×List α)
 | none=>l
 | some (i,_)=>l.set i (false,[])
def yg(env:Nat->Loc) (n:Nat) (ys c4:List Value):Option (Nat×Option Nat)->Prop
 | none=>c4=ys
 | some (i,Mp)=>i < n/\∃ v,c4=ys.set i v/\∀ d,Mp=some d->∃ A c m,env d=.row A c m/\v=.slice A m c
def er(env:Nat->Loc) (B:Nat->Prop) (w:World) (id:Nat):cv->bf->Prop
 | .cells t cs,c=>∃ b vs,env id=.blk b/\c=.gQ b vs t/\cH env B w cs vs
 | .row t g l cap,c=>∃ A k xs,env id=.row A k l.length/\c=.row A k t g.size l.length xs/\Flat (bF B w g) l xs/\∀ q,cap=some q->k=q
 | .kn s p,c=>∃ b,env id=.blk b/\c=.obj b (.stringIter s p)
 | .mp gk aY l o,c=>∃ b es clock,env id=.blk b/\c=.obj b (.map es.toArray clock)/\gb B w gk aY l es/\Stamped es clock/\∀ q,o=some q->q=(es,clock)
 | .it eU es clock ps,c=>∃ b m,env id=.blk b/\env eU=.blk m/\c=.obj b (.mapIter (some m) clock (UI es ps).toArray clock)
 | .ko,c=>∃ b o,env id=.blk b/\c=.obj b o
 | .hj eU,c=>∃ b m q,env id=.blk b/\env eU=.blk m/\c=.obj b (.mapIter (some m) q #[] q)
 | .cM el t g l cap i d,c=>∃ A k ys bP c' m,env id=.row A k l.length/\c=.row A k t 1 l.length (ys.set i (.slice bP m c'))/\Flat (oc el B w g) l ys/\i < l.length/\env d=.row bP c' m/\(∀ q,cap=some q->k=q)/\(el=true->c'=m)
 | .kL,c=>∃ A k n t s m xs,env id=.row A k n/\c=.row A k t s m xs
 | .gl t g l,c=>∃ A k,env id=.row A k l.length/\((∃ xs,c=.row A k t g.size l.length xs/\Flat (bF B w g) l xs)\/(c=.row none 0 t g.size 0 []/\k=l.length/\k<=maxLen/\∃ xs,Flat (bF B w g) l xs/\nE B w A l.length g.size xs))
 | .b2 t bW g l cap h,c=>∃ A k ys c4 I,env id=.row A k l.length/\c=.tree (⟨A,k,t,1,l.length,c4⟩ :: I)/\dI B w bW g (Mo l h) ys I/\yg env l.length ys c4 h/\∀ q,cap=some q->k=q
def bA(env:Nat->Loc) (B:Nat->Prop) (w:World):bz->List bf->Prop
 | [],H=>H=[]
 | (id,b) :: h,H=>∃ c H',H=c :: H'/\er env B w id b c/\bA env B w h H'
theorem er.up{env:Nat->Loc} {B B':Nat->Prop} {w w':World} (h:fJ B w B' w') {id:Nat}:∀ {b:cv} {c:bf},er env B w id b c->er env B' w' id b c
 | .cells _ _,_,⟨b,vs,e,aa,J⟩=>⟨b,vs,e,aa,J.up h⟩
 | .row _ _ _ _,_,⟨A,k,xs,e,aa,J,U⟩=>⟨A,k,xs,e,aa,Flat.mono (fun _ _=>bF.up h) J,U⟩
 | .kn _ _,_,ae=>ae
 | .mp _ _ _ _,_,⟨b,es,k,e,aa,J,U⟩=>⟨b,es,k,e,aa,J.up h,U⟩
 | .it _ _ _ _,_,ae=>ae
 | .hj _,_,ae=>ae
 | .ko,_,ae=>ae
 | .cM _ _ _ _ _ _ _,_,⟨A,k,ys,bP,c',m,e,aa,J,U⟩=>⟨A,k,ys,bP,c',m,e,aa,Flat.mono (fun _ _=>oc.up h) J,U⟩
 | .kL,_,ae=>ae
 | .b2 _ _ _ _ _ _,_,⟨A,k,ys,c4,I,e,aa,J,U⟩=>⟨A,k,ys,c4,I,e,aa,J.up h,U⟩
 | .gl _ _ _,_,⟨A,k,e,J⟩=>⟨A,k,e,J.imp (fun⟨xs,a,b⟩=>⟨xs,a,Flat.mono (fun _ _=>bF.up h) b⟩) fun⟨a,b,c,xs,d,r⟩=>⟨a,b,c,xs,Flat.mono (fun _ _=>bF.up h) d,r.up h⟩⟩
theorem bA.up{env:Nat->Loc} {B B':Nat->Prop} {w w':World} (h:fJ B w B' w'):∀ {l:bz} {H:List bf},bA env B w l H->bA env B' w' l H
 | [],_,cg=>cg
 | _ :: _,_,⟨c,H',e,J,U⟩=>⟨c,H',e,J.up h,bA.up h U⟩
theorem bA.gz{env:Nat->Loc} {B:Nat->Prop} {w:World}:∀ {l:bz} {H:List bf} {id:Nat} {b:cv},bA env B w l H->bd l id=some b->∃ c K,er env B w id b c/\iS H c K
 | [],_,_,_,_,h=>by cases h
 | (k,b') :: l,H,id,b,⟨c,H',e,J,U⟩,h=>by
  rw[cI]at h;subst e
  split at h
  ·rename_i e
   subst e;cases h;exact⟨c,_,J,vT⟩
  ·obtain⟨c',K,ag,X,Y,aq,aE⟩:=bA.gz U h
   exact⟨c',fun z=>c :: K z,ag,c :: X,Y,by rw[aq]; rfl,by rw[aE]; rfl⟩
def eM(id:Nat) (b:cv):bz->bz
 | []=>[]
 | (k,b') :: r=>match Nat.beq k id with
  | true=>(k,b) :: r
  | false=>(k,b') :: eM id b r
theorem bA.put{env:Nat->Loc} {B:Nat->Prop} {w:World}:∀ {l:bz} {H:List bf} {id:Nat} {b:cv},bA env B w l H->bd l id=some b->∃ c K,er env B w id b c/\iS H c K/\∀ b' c',er env B w id b' c'->bA env B w (eM id b' l) (K c')
 | [],_,_,_,_,h=>by cases h
 | (k,b') :: l,H,id,b,⟨c,H',e,J,U⟩,h=>by
  rw[cI]at h;subst e
  split at h
  ·rename_i e
   subst e;cases h;refine⟨c,_,J,vT,fun jE cL ae=>?_⟩;unfold eM;rw[Nat.beq_refl];exact⟨cL,H',rfl,ae,U⟩
  ·rename_i cr
   obtain⟨c',K,ag,⟨X,Y,aq,aE⟩,bb⟩:=bA.put U h;refine⟨c',fun z=>c :: K z,ag,⟨c :: X,Y,by rw[aq]; rfl,by rw[aE]; rfl⟩,fun jE cL ae=>?_⟩;unfold eM
   have:Nat.beq k id=false:=by
    cases ab:Nat.beq k id with
    | false=>rfl
    | true=>exact absurd (Nat.eq_of_beq_eq_true ab).symm cr
   rw[this];exact⟨c,_,rfl,J,bb jE cL ae⟩
def tM(i:Nat):List e4->Bool
 | []=>false
 | .id j :: r=>Nat.beq j i || tM i r
 | .eT _ _ :: r=>tM i r
def bm.sub:bm->Nat->bm->bm
 | .ptr i o,id,_=>match Nat.beq i id with
  | true=>.dead
  | false=>.ptr i o
 | .eG i cJ j o,id,_=>match Nat.beq i id with
  | true=>.dead
  | false=>.eG i cJ j o
 | .ai i,id,z=>match Nat.beq i id with
  | true=>z
  | false=>.ai i
 | .fn f ids,id,_=>match tM id ids with
  | true=>.dead
  | false=>.fn f ids
 | .b8 i,id,_=>match Nat.beq i id with
  | true=>.dead
  | false=>.b8 i
 | .iH f i,id,_=>match Nat.beq i id with
  | true=>.dead
  | false=>.iH f i
 | .hG i o,id,_=>match Nat.beq i id with
  | true=>.dead
  | false=>.hG i o
 | .iU i,id,_=>match Nat.beq i id with
  | true=>.dead
  | false=>.iU i
 | .iI i s o,id,_=>match Nat.beq i id with
  | true=>.dead
  | false=>.iI i s o
 | .hQ b i,id,_=>match Nat.beq i id with
  | true=>.dead
  | false=>.hQ b i
 | c,_,_=>c
def q1(id:Nat) (z:bm):List bm->List bm
 | []=>[]
 | c :: r=>c.sub id z :: q1 id z r
def bl.sub:bl->Nat->bm->bl
 | .c x,id,z=>.c (x.sub id z)
 | .agg cs,id,z=>.agg (q1 id z cs)
 | .arr g l,_,_=>.arr g l
def yh(id:Nat) (z:bm):List bl->List bl
 | []=>[]
 | c :: r=>c.sub id z :: yh id z r
def b3.sub:b3->Nat->bm->b3
 | .a x,id,z=>.a (x.sub id z)
 | .may g x,id,z=>.may g (x.sub id z)
 | .c3 xs,id,z=>.c3 (yh id z xs)
def fK(id:Nat) (z:bm):cX->cX
 | []=>[]
 | (k,v) :: r=>(k,v.sub id z) :: fK id z r
def cv.sub:cv->Nat->bm->cv
 | .cells t cs,id,z=>.cells t (q1 id z cs)
 | .it eU es k ps,id,_=>match Nat.beq eU id with
  | true=>.ko
  | false=>.it eU es k ps
 | .hj eU,id,_=>match Nat.beq eU id with
  | true=>.ko
  | false=>.hj eU
 | .cM el t g l cap i d,id,z=>match Nat.beq d id with
  | true=>match z with
   | .bk g' l2 _=>match decEq g' g with
    | isTrue h=>match el with
     | true=>.row t (.gS g) (l.set i (h ▸ l2)) cap
     | false=>.row t (.ai g) (l.set i (h ▸ l2)) cap
    | isFalse _=>.kL
   | _=>.kL
  | false=>.cM el t g l cap i d
 | .b2 t bW g l cap (some (i,some d)),id,_=>match Nat.beq d id with
  | true=>.b2 t bW g l cap (some (i,none))
  | false=>.b2 t bW g l cap (some (i,some d))
 | b,_,_=>b
def ef(id:Nat) (z:bm):bz->bz
 | []=>[]
 | (k,b) :: r=>match Nat.beq k id with
  | true=>ef id z r
  | false=>(k,b.sub id z) :: ef id z r
section
variable {env env':Nat->Loc} {B:Nat->Prop} {w:World} {id:Nat} {z:bm}
theorem eZ.Fu(he:∀ j,j≠id->env' j=env j):∀ {ids:List e4} {vs:List Value},tM id ids=false->eZ env B w ids vs->eZ env' B w ids vs
 | [],_,_,h=>h
 | .id i :: ids,_,aV,⟨v,r,e,⟨b,ae,aC⟩,h⟩=>by
  simp only[tM,Bool.or_eq_false_iff]at aV;exact⟨v,r,e,⟨b,by rw[he i (Nat.ne_of_beq_eq_false aV.1)]; exact ae,aC⟩,eZ.Fu he aV.2 h⟩
 | .eT g x :: ids,_,aV,⟨v,r,e,J,h⟩=>⟨v,r,e,J,eZ.Fu he (by simpa [tM] using aV) h⟩
theorem dB.sub(he:∀ j,j≠id->env' j=env j) (bG:∀ v,dB env B w (.ai id) v->dB env' B w z v):∀ {c:bm} {v:Value},dB env B w c v->dB env' B w (c.sub id z) v
 | .val _,_,aa=>aa
 | .str _,_,aa=>aa
 | .dead,_,aa=>aa
 | .ptr i o,v,aa=>by
  simp only[bm.sub]
  split
  ·trivial
  ·rename_i h
   obtain⟨b,e,aC⟩:=aa;exact⟨b,by rw[he i (Nat.ne_of_beq_eq_false h)]; exact e,aC⟩
 | .eG i cJ j o,v,aa=>by
  simp only[bm.sub]
  split
  ·trivial
  ·rename_i h
   obtain⟨b,c,n,e,aC⟩:=aa;exact⟨b,c,n,by rw[he i (Nat.ne_of_beq_eq_false h)]; exact e,aC⟩
 | .hQ b i,v,aa=>by
  simp only[bm.sub]
  split
  ·trivial
  ·rename_i h
   obtain⟨k,e,aC⟩:=aa;exact⟨k,fun ae=>by rw[he i (Nat.ne_of_beq_eq_false h)]; exact e ae,aC⟩
 | .iU i,v,aa=>by
  simp only[bm.sub]
  split
  ·trivial
  ·rename_i h
   obtain⟨b,c,n,e,aC⟩:=aa;exact⟨b,c,n,by rw[he i (Nat.ne_of_beq_eq_false h)]; exact e,aC⟩
 | .iI i s o,v,aa=>by
  simp only[bm.sub]
  split
  ·trivial
  ·rename_i h
   obtain⟨b,c,n,e,aC⟩:=aa;exact⟨b,c,n,by rw[he i (Nat.ne_of_beq_eq_false h)]; exact e,aC⟩
 | .hG i o,v,aa=>by
  simp only[bm.sub]
  split
  ·trivial
  ·rename_i h
   obtain⟨b,c,n,e,aC⟩:=aa;exact⟨b,c,n,by rw[he i (Nat.ne_of_beq_eq_false h)]; exact e,aC⟩
 | .fO _ _ _,_,aa=>aa
 | .par _ _,_,aa=>aa
 | .ai i,v,aa=>by
  simp only[bm.sub]
  split
  ·rename_i h
   have:i=id:=Nat.eq_of_beq_eq_true h
   subst this;exact bG v aa
  ·rename_i h
   obtain⟨A,c,n,e,aC⟩:=aa;exact⟨A,c,n,by rw[he i (Nat.ne_of_beq_eq_false h)]; exact e,aC⟩
 | .bk _ _ _,_,aa=>aa
 | .fn f ids,v,aa=>by
  simp only[bm.sub]
  split
  ·trivial
  ·rename_i h
   obtain⟨vs,aC,ao⟩:=aa;exact⟨vs,aC,ao.Fu he h⟩
 | .b8 i,v,aa=>by
  simp only[bm.sub]
  split
  ·trivial
  ·rename_i h
   obtain⟨b,e,aC⟩:=aa;exact⟨b,by rw[he i (Nat.ne_of_beq_eq_false h)]; exact e,aC⟩
 | .iH f i,v,aa=>by
  simp only[bm.sub]
  split
  ·trivial
  ·rename_i h
   obtain⟨b,e,aC⟩:=aa;exact⟨b,by rw[he i (Nat.ne_of_beq_eq_false h)]; exact e,aC⟩
variable (he:∀ j,j≠id->env' j=env j) (bG:∀ v,dB env B w (.ai id) v->dB env' B w z v)
include he bG
theorem cH.sub:∀ {c:List bm} {v:List Value},cH env B w c v->cH env' B w (q1 id z c) v
 | [],_,aa=>aa
 | _ :: _,_,⟨v,r,e,J,U⟩=>⟨v,r,e,J.sub he bG,cH.sub U⟩
theorem dH.sub:∀ {c:bl} {v:Value},dH env B w c v->dH env' B w (c.sub id z) v
 | .c _,_,aa=>dB.sub he bG aa
 | .agg _,_,⟨vs,e,J⟩=>⟨vs,e,J.sub he bG⟩
 | .arr _ _,_,h=>h
theorem dn.sub:∀ {c:List bl} {v:List Value},dn env B w c v->dn env' B w (yh id z c) v
 | [],_,aa=>aa
 | _ :: _,_,⟨v,r,e,J,U⟩=>⟨v,r,e,J.sub he bG,dn.sub U⟩
theorem eH.sub:∀ {c:b3} {v:Value},eH env B w c v->eH env' B w (c.sub id z) v
 | .a _,_,aa=>dH.sub he bG aa
 | .may _ _,_,aa=>⟨fun aQ=>(aa.1 aQ).sub he bG,aa.2⟩
 | .c3 _,_,⟨vs,e,J⟩=>⟨vs,e,J.sub he bG⟩
theorem er.sub{k:Nat} (ab:k≠id):∀ {b:cv} {c:bf},er env B w k b c->er env' B w k (b.sub id z) c
 | .cells _ _,_,⟨b,vs,e,aa,J⟩=>⟨b,vs,by rw[he k ab]; exact e,aa,J.sub he bG⟩
 | .row _ _ _ _,_,⟨A,c,xs,e,aa,J⟩=>⟨A,c,xs,by rw[he k ab]; exact e,aa,J⟩
 | .kn _ _,_,⟨b,e,aa⟩=>⟨b,by rw[he k ab]; exact e,aa⟩
 | .mp _ _ _ _,_,⟨b,es,q,e,aa⟩=>⟨b,es,q,by rw[he k ab]; exact e,aa⟩
 | .it eU _ _ _,_,⟨b,m,e,hm,aa⟩=>by
  simp only[cv.sub]
  split
  ·exact⟨b,_,by rw[he k ab]; exact e,aa⟩
  ·rename_i h
   exact⟨b,m,by rw[he k ab]; exact e,by rw[he eU (Nat.ne_of_beq_eq_false h)]; exact hm,aa⟩
 | .hj eU,_,⟨b,m,q,e,hm,aa⟩=>by
  simp only[cv.sub]
  split
  ·exact⟨b,_,by rw[he k ab]; exact e,aa⟩
  ·rename_i h
   exact⟨b,m,q,by rw[he k ab]; exact e,by rw[he eU (Nat.ne_of_beq_eq_false h)]; exact hm,aa⟩
 | .ko,_,⟨b,o,e,aa⟩=>⟨b,o,by rw[he k ab]; exact e,aa⟩
 | .cM el t g l cap i d,_,⟨A,c,ys,bP,c',m,e,aa,J,hi,U,ag⟩=>by
  simp only[cv.sub]
  split
  ·rename_i h
   have ax:d=id:=Nat.eq_of_beq_eq_true h;subst ax
   split
   ·rename_i g' l2 sk
    split
    ·rename_i aQ _
     subst aQ;obtain⟨c2,cL,xs,aS,db,eB,_,iJ,j1⟩:=bG _ ⟨bP,c',m,U,rfl⟩;have ah:ys.length=l.length:=oc.mX J;have cz:ys.set i (.slice bP m c')=ys.take i++([.slice bP m c']++ys.drop (i+1)):=by
      rw[List.set_eq_take_append_cons_drop,if_pos (by omega)]
      rfl
     split
     ·refine⟨A,c,_,by rw[he k ab,List.length_set]; exact e,by rw[List.length_set]; exact aa,?_,ag.1⟩
      have iF:=ag.2 rfl;have an:=Flat.set (k:=1) (fun _ _=>bF.length) (show Flat (bF B w (.gS g')) l ys from J) hi (x:=l2) (us:=[.slice bP m c']) ⟨c2,xs,by
       subst iF;rw[show c'=l2.length by injection aS]
       injection aS with q _ _
       rw[q],by
       subst iF
       have:c'=l2.length:=by injection aS
       omega,iJ,j1⟩
      rw[cz];rw[Nat.mul_one,List.append_assoc]at an;exact an
     ·refine⟨A,c,_,by rw[he k ab,List.length_set]; exact e,by rw[List.length_set]; exact aa,?_,ag.1⟩
      have an:=Flat.set (k:=1) (fun _ _=>bF.length) (show Flat (bF B w (.ai g')) l ys from J) hi (x:=l2) (us:=[.slice bP m c']) ⟨c2,cL,xs,by rw[aS],db,eB,iJ,j1⟩;rw[cz];rw[Nat.mul_one,List.append_assoc]at an;exact an
    ·exact⟨A,c,_,_,_,_,_,by rw[he k ab]; exact e,aa⟩
   ·exact⟨A,c,_,_,_,_,_,by rw[he k ab]; exact e,aa⟩
  ·rename_i h
   exact⟨A,c,ys,bP,c',m,by rw[he k ab]; exact e,aa,J,hi,by rw[he d (Nat.ne_of_beq_eq_false h)]; exact U,ag⟩
 | .kL,_,⟨A,c,n,t,s,m,xs,e,aa⟩=>⟨A,c,n,t,s,m,xs,by rw[he k ab]; exact e,aa⟩
 | .gl _ _ _,_,⟨A,c,e,J⟩=>⟨A,c,by rw[he k ab]; exact e,J⟩
 | .b2 _ _ _ _ _ none,_,⟨A,q,ys,c4,I,e,aa,J,U,ag⟩=>⟨A,q,ys,c4,I,by rw[he k ab]; exact e,aa,J,U,ag⟩
 | .b2 _ _ _ _ _ (some (i,none)),_,⟨A,q,ys,c4,I,e,aa,J,⟨U,v,aq,_⟩,ag⟩=>⟨A,q,ys,c4,I,by rw[he k ab]; exact e,aa,J,⟨U,v,aq,fun _ h=>by cases h⟩,ag⟩
 | .b2 _ _ _ _ _ (some (i,some d)),_,⟨A,q,ys,c4,I,e,aa,J,⟨U,v,aq,aE⟩,ag⟩=>by
  simp only[cv.sub]
  split
  ·exact⟨A,q,ys,c4,I,by rw[he k ab]; exact e,aa,J,⟨U,v,aq,fun _ h=>by cases h⟩,ag⟩
  ·rename_i h
   exact⟨A,q,ys,c4,I,by rw[he k ab]; exact e,aa,J,⟨U,v,aq,fun c5 ax=>by cases ax; rw[he d (Nat.ne_of_beq_eq_false h)]; exact aE d rfl⟩,ag⟩
theorem bA.del:∀ {l:bz} {H:List bf},bA env B w l H->∃ H',H'.Sublist H/\bA env' B w (ef id z l) H'
 | [],_,cg=>⟨[],by rw[show _=[] from cg]; exact List.Sublist.refl _,rfl⟩
 | (k,b) :: l,_,⟨c,H',e,J,U⟩=>by
  obtain⟨H2,an,ag⟩:=bA.del U;subst e;unfold ef
  split
  ·exact⟨H2,an.cons _,ag⟩
  ·rename_i h
   exact⟨c :: H2,an.cons_cons _,c,H2,rfl,J.sub he bG (Nat.ne_of_beq_eq_false h),ag⟩
def iw:bf->Bool
 | .gQ _ _ _=>true
 | _=>false
omit he bG in
theorem er.nF{k:Nat}:∀ {b:cv} {c:bf},er env B w k b c->(∀ t cs,b≠.cells t cs)->iw c=false
 | .cells t cs,_,_,h=>absurd rfl (h t cs)
 | .row _ _ _ _,_,⟨_,_,_,_,e,_⟩,_=>by rw[e]; rfl
 | .kn _ _,_,⟨_,_,e⟩,_=>by rw[e]; rfl
 | .mp _ _ _ _,_,⟨_,_,_,_,e,_⟩,_=>by rw[e]; rfl
 | .it _ _ _ _,_,⟨_,_,_,_,e⟩,_=>by rw[e]; rfl
 | .hj _,_,⟨_,_,_,_,_,e⟩,_=>by rw[e]; rfl
 | .ko,_,⟨_,_,_,e⟩,_=>by rw[e]; rfl
 | .cM _ _ _ _ _ _ _,_,⟨_,_,_,_,_,_,_,e,_⟩,_=>by rw[e]; rfl
 | .kL,_,⟨_,_,_,_,_,_,_,_,e⟩,_=>by rw[e]; rfl
 | .b2 _ _ _ _ _ _,_,⟨_,_,_,_,_,_,e,_⟩,_=>by rw[e]; rfl
 | .gl _ _ _,_,⟨_,_,_,h⟩,_=>by
  rcases h with⟨_,e,_⟩ | ⟨e,_⟩
  ·rw[e]; rfl
  ·rw[e]; rfl
theorem bA.Fv:∀ {l:bz} {H:List bf},bA env B w l H->(∀ b c,(id,b)∈l->er env B w id b c->iw c=false)->∃ H',H'.Sublist H/\bA env' B w (ef id z l) H'/\∀ c∈H,iw c=true->c∈H'
 | [],_,cg,_=>⟨[],by rw[show _=[] from cg]; exact List.Sublist.refl _,rfl,fun c aa _=>by rw[show _=[] from cg]at aa; exact aa⟩
 | (k,b) :: l,_,⟨c,H',e,J,U⟩,ab=>by
  obtain⟨H2,an,ag,aq⟩:=bA.Fv U (fun b c ae=>ab b c (List.mem_cons_of_mem _ ae));subst e;unfold ef
  split
  ·rename_i hid
   have UJ:=Nat.eq_of_beq_eq_true hid;subst UJ;refine⟨H2,an.cons _,ag,fun c' dE jG=>?_⟩
   rcases List.mem_cons.1 dE with rfl | dE
   ·rw[ab b c' (List.mem_cons_self ..) J]at jG; cases jG
   ·exact aq c' dE jG
  ·rename_i h
   refine⟨c :: H2,an.cons_cons _,⟨c,H2,rfl,J.sub he bG (Nat.ne_of_beq_eq_false h),ag⟩,fun c' dE jG=>?_⟩
   rcases List.mem_cons.1 dE with rfl | dE
   ·exact List.mem_cons_self ..
   ·exact List.mem_cons_of_mem _ (aq c' dE jG)
omit he bG in
theorem pc:∀ {l:cX} {s:Nat} {v:b3},bd (fK id z l) s=some v->∃ u,bd l s=some u/\v=u.sub id z
 | [],_,_,h=>by cases h
 | (k,u) :: l,s,v,h=>by
  unfold fK at h;rw[cI]at h ⊢
  split at h
  ·rename_i e
   cases h;rw[if_pos e];exact⟨u,rfl,rfl⟩
  ·rename_i e
   rw[if_neg e];exact pc h
end
end
section
structure Bu where
 g:aU
 l:List g.D
structure bs where
 P:Program
 tt:b9
 Bv:Nat->Option Bu
def dk(k:Nat):bf:=.obj k (.deferred (some []))
structure e0 where
 b:Nat->Prop
 p:Nat->Loc->Prop
 d:List Deferred
def j2(ks:List Nat) (aJ:e0):List Deferred:=ks.map tI++aJ.d
def q2(w:World) (k:Nat):Prop:=∃ cs e dz,w.heap[k]?=some (.cells cs e dz)
theorem q2.dQ{w w':World} {k:Nat} (h:q2 w k) (e:w'.heap[k]?=w.heap[k]?):q2 w' k:=by
 obtain⟨cs,t,dz,h⟩:=h;exact⟨cs,t,dz,e.trans h⟩
def mZ:Nat:=1000000
def h5:Nat:=2000000
def sl(B:Nat->Prop) (w:World) (i:Nat) (x:Bu):Prop:=dB (fun _=>.no) B w (.par x.g x.l) (.pointer (some ⟨i,0,none⟩))/\∃ cs e dz,w.heap[i]?=some (.cells cs e dz)/\cs.size=x.l.length * x.g.size
theorem sl.up{B B':Nat->Prop} {w w':World} (h:fJ B w B' w') {i:Nat} {x:Bu} (aQ:sl B w i x):sl B' w' i x:=by
 refine⟨aQ.1.up h,?_⟩;obtain⟨⟨b,o,vs,e,ae,_⟩,cs,t,dz,J,U⟩:=aQ;cases e;exact⟨cs,t,dz,by rw[h.same _ ae]; exact J,U⟩
structure bH(X:bs) (R:Nat->Prop) (W:World) (aJ:e0) (n:Nat) (ks:List Nat) (env:Nat->Loc) (B:Nat->Prop) (al:World) (H:List bf) (st:aO) (a:Act) (w:World):Prop where
 size:a.tmps.size=n
 defs:a.defers=j2 ks aJ
 has:∀ s sv,bd st.L s=some sv->∃ v,a.tmps[s]?=some v/\eH env B al sv v
 heap:bA env B al st.H H
 aM:bE (fun k=>R k\/B k) al (H++ks.map dk) w
 sub:∀ k,aJ.b k->B k
 new:∀ k,B k->aJ.b k\/(¬ R k/\q2 al k)
 dL:∀ id l,aJ.p id l->n<=id/\env id=l/\((∃ b,l=.blk b)\/h5<=id)
 base:c6 R W al
 et:∀ i x,X.Bv i=some x->sl B al i x
def Fw(M:Bool) (ks:List Nat) (aJ:e0):Prop:=(M=false->ks=[])/\(M=true->∀ id l,aJ.p id l->mZ<=id)
def lV(X:bs) (R:Nat->Prop) (W:World) (aJ:e0) (M:Bool) (n:Nat) (st:aO) (a:Act) (w:World):Prop:=
 ∃ ks env B al H,Fw M ks aJ/\bH X R W aJ n ks env B al H st a w
def gm(a:Act):List (Nat×Value):=a.tmps.toList.zipIdx.map fun p=>(p.2,p.1)
theorem UK{s:Nat} {v:Value}:∀ (vs:List Value) (k:Nat),((vs.zipIdx k).map fun p=>(p.2,p.1)).lookup s=some v->k<=s/\vs[s - k]?=some v:=by
 intro vs
 induction vs with
 | nil=>intro k h; cases h
 | cons u vs br=>
  intro k h;simp only[List.zipIdx_cons,List.map_cons,List.lookup_cons]at h
  by_cases e:s=k
  ·subst e
   simp at h
   subst h
   simp
  ·have cj:(s == k)=false:=by simpa using e
   rw[cj]at h;obtain⟨J,U⟩:=br (k+1) h;refine⟨by omega,?_⟩;rw[show s - k=(s - (k+1))+1 by omega,List.getElem?_cons_succ];exact U
theorem UL{s:Nat} {v:Value}:∀ (vs:List Value) (k:Nat),vs[s]?=some v->((vs.zipIdx k).map fun p=>(p.2,p.1)).lookup (k+s)=some v:=by
 intro vs
 induction vs generalizing s with
 | nil=>intro k h; simp at h
 | cons u vs br=>
  intro k h;simp only[List.zipIdx_cons,List.map_cons,List.lookup_cons];cases s with
  | zero=>simp at h; simp[h]
  | succ s=>
   have e:(k+(s+1) == k)=false:=by simp
   rw[e]
   have:=br (k+1) (by simpa using h)
   rw[show k+1+s=k+(s+1) by omega]at this;exact this
theorem UM(a:Act):cT a.tmps.size a.defers (gm a) a:=⟨rfl,rfl,fun s v h=>by
 have:=(UK a.tmps.toList 0 h).2
 simpa using this⟩
theorem h6{a:Act} {s:Nat} {v:Value} (h:a.tmps[s]?=some v):(gm a).lookup s=some v:=by
 have:=UL a.tmps.toList 0 (s:=s) (v:=v) (by simpa using h)
 simpa [gm] using this
def Mq:Value->bm
 | .string s=>.str s.data.toList
 | v=>.val v
def sn:List Value->List bm
 | []=>[]
 | v :: r=>Mq v :: sn r
def bp(X:bs) (L:cX):Operand->Option (Bool×bl)
 | .tmp s=>match bd L s with
  | some (.a x)=>some (true,x)
  | some (.may g x)=>some (g,x)
  | _=>none
 | .const v=>match v with
  | .string s=>some (true,.c (.str s.data.toList))
  | .agg cs=>some (true,.agg (sn cs.toList))
  | .tuple _=>none
  | v=>some (true,.c (.val v))
 | .global i=>match X.Bv i with
  | some x=>some (true,.c (.par x.g x.l))
  | none=>none
 | .func f=>some (true,.c (.fn f []))
section
variable {X:bs} {R:Nat->Prop} {W:World} {aJ:e0} {n:Nat} {ks:List Nat} {env:Nat->Loc} {B:Nat->Prop} {al:World} {H:List bf} {st:aO} {a:Act} {w:World}
theorem UN(s:ByteArray):fc s.data.toList=.string s:=rfl
theorem UO:∀ v:Value,dB env B al (Mq v) v
 | .string _=>rfl
 | .bool _=>rfl
 | .int _ _=>rfl
 | .float _ _=>rfl
 | .complex _ _ _=>rfl
 | .pointer _=>rfl
 | .slice _ _ _=>rfl
 | .map _=>rfl
 | .chan _=>rfl
 | .func _ _ _=>rfl
 | .nilFunc=>rfl
 | .iface _ _=>rfl
 | .nilIface=>rfl
 | .agg _=>rfl
 | .tuple _=>rfl
theorem yi:∀ vs:List Value,cH env B al (sn vs) vs
 | []=>rfl
 | v :: r=>⟨v,r,rfl,UO v,yi r⟩
theorem bH.aD(h:bH X R W aJ n ks env B al H st a w) {x:Operand} {g:Bool} {bx:bl} (ak:bp X st.L x=some (g,bx)) (aQ:g=true):∃ v,aD (gm a) x=some v/\dH env B al bx v:=by
 cases x with
 | tmp s=>
  simp only[bp]at ak;cases J:bd st.L s with
  | none=>rw[J]at ak; cases ak
  | some sv=>
   obtain⟨v,U,ag⟩:=h.has s sv J;rw[J]at ak;cases sv with
   | a x=>cases ak; exact⟨v,h6 U,ag⟩
   | may g' x=>cases ak; exact⟨v,h6 U,ag.1 aQ⟩
   | c3 xs=>cases ak
 | const v=>
  refine⟨v,rfl,?_⟩;cases v with
  | string s=>cases ak; exact UN s
  | agg cs=>cases ak; exact⟨cs.toList,by simp,yi _⟩
  | tuple vs=>cases ak
  | _=>cases ak; rfl
 | global i=>
  simp only[bp]at ak;cases J:X.Bv i with
  | none=>rw[J]at ak; cases ak
  | some x=>
   rw[J]at ak;cases ak;exact⟨_,rfl,(h.et i x J).1⟩
 | func f=>cases ak; exact⟨_,rfl,[],rfl,rfl⟩
theorem bH.bZ(h:bH X R W aJ n ks env B al H st a w):cT n (j2 ks aJ) (gm a) a:=by
 have:=UM a
 rw[h.size,h.defs]at this;exact this
end
def p7:Op->Bool
 | .load _ _=>true
 | _=>false
def ix(X:bs) (st:aO) (o:Oper) (bx:bl):Prop:=
 ∀ {R:Nat->Prop} {W:World} {aJ:e0} {n:Nat} {ks:List Nat} {env:Nat->Loc} {B:Nat->Prop} {al:World} {H:List bf} {a:Act} {b1:World},bH X R W aJ n ks env B al H st a b1 ->
  ∃ v,dH env B al bx v/\∀ w,(p7 o.op=true->bE (fun k=>R k\/B k) al (H++ks.map dk) w)->(execOp a.eval o).run X.P w=.ok (.value v) w
def bj(x:Int):Bool:=Nat.ble (-x).toNat 9223372036854775808&&Nat.ble x.toNat 9223372036854775807
theorem Bw{x:Int}:bj x=true ↔ -9223372036854775808<=x/\x<=9223372036854775807:=by
 unfold bj;rw[Bool.and_eq_true,Nat.ble_eq,Nat.ble_eq];omega
def gd(b:Nat) (z:Int):Bool:=Nat.ble (b * z.toNat) 140737488355328&&Nat.ble z.toNat 140737488355328
theorem Mr{b:Nat} {z:Int} (bG:0<=z):gd b z=true ↔ (b:Int) * z<=140737488355328/\z<=140737488355328:=by
 unfold gd;rw[Bool.and_eq_true,Nat.ble_eq,Nat.ble_eq]
 have:((b * z.toNat:Nat):Int)=(b:Int) * z:=by rw[Int.natCast_mul,Int.toNat_of_nonneg bG]
 omega
theorem UP{x:Int} (h:bj x=true):IntKind.i64.wrap x=x:=by
 rw[Bw]at h;exact TZ h.1 h.2
def na:IntKind->Int->Bool×Int
 | .i64,x=>(bj x,x)
 | k,x=>(true,k.wrap x)
theorem vY{k:IntKind} {x z:Int} (h:na k x=(true,z)):k.wrap x=z:=by
 cases k<;>simp only[na,Prod.mk.injEq,true_and]at h
 case i64=>obtain⟨J,rfl⟩:=h; exact UP J
 all_goals exact h
def vZ(op:BinOp) (k k':IntKind) (x y:Int):Option (Bool×bm):=
 match op with
 | .shl=>some (decide (0<=y),.val (.int k (k.wrap (x * 2 ^ (min y.toNat k.bits)))))
 | .shr=>some (decide (0<=y),.val (.int k (x.fdiv (2 ^ (min y.toNat k.bits)))))
 | _=>match decide (k=k')with
  | false=>none
  | true=>match op with
   | .add=>match na k (x+y)with
    | (c,z)=>some (c,.val (.int k z))
   | .sub=>match na k (x - y)with
    | (c,z)=>some (c,.val (.int k z))
   | .mul=>match na k (x * y)with
    | (c,z)=>some (c,.val (.int k z))
   | .quo=>match na k (x.tdiv y)with
    | (c,z)=>some (c&&decide (y≠0),.val (.int k z))
   | .rem=>some (decide (y≠0),.val (.int k (x.tmod y)))
   | .and=>some (true,.val (.int k (bits .and k x y)))
   | .or=>some (true,.val (.int k (bits .or k x y)))
   | .xor=>some (true,.val (.int k (bits .xor k x y)))
   | .lss=>some (true,.val (.bool (decide (x < y))))
   | .leq=>some (true,.val (.bool (decide (x<=y))))
   | .gtr=>some (true,.val (.bool (decide (y < x))))
   | .geq=>some (true,.val (.bool (decide (y<=x))))
   | .eql=>some (true,.val (.bool (decide (x=y))))
   | .neq=>some (true,.val (.bool (!decide (x=y))))
   | _=>none
def Fx(op:BinOp) (x y:List UInt8):Option (Bool×bm):=
 match op with
 | .eql=>some (true,.val (.bool (x == y)))
 | .neq=>some (true,.val (.bool (!(x == y))))
 | .add=>some (decide (x.length+y.length<=140737488355328),.str (x++y))
 | _=>none
def Ms(op:BinOp) (x y:Bool):Option (Bool×bm):=
 match op with
 | .eql=>some (true,.val (.bool (x == y)))
 | .neq=>some (true,.val (.bool (x != y)))
 | _=>none
def Fy(X:bs) (op:BinOp) (t:TypeId) (x y:bl):Option (Bool×bm):=
 match x,y with
 | .c (.val (.int k x)),.c (.val (.int k' y))=>vZ op k k' x y
 | .c (.str x),.c (.str y)=>Fx op x y
 | .c (.val (.bool x)),.c (.val (.bool y))=>match X.tt.find t with
  | some ⟨⟨.bool,_,_,_⟩,_⟩=>Ms op x y
  | _=>none
 | .c (.bk _ l _),.c (.val (.slice none 0 0))=>match X.tt.find t,op with
  | some ⟨⟨.slice _,_,_,_⟩,_⟩,.eql=>some (decide (0 < l.length),.val (.bool false))
  | some ⟨⟨.slice _,_,_,_⟩,_⟩,.neq=>some (decide (0 < l.length),.val (.bool true))
  | _,_=>none
 | .c (.val (.slice none 0 0)),.c (.val (.slice none 0 0))=>match X.tt.find t,op with
  | some ⟨⟨.slice _,_,_,_⟩,_⟩,.eql=>some (true,.val (.bool true))
  | some ⟨⟨.slice _,_,_,_⟩,_⟩,.neq=>some (true,.val (.bool false))
  | _,_=>none
 | _,_=>none
section
variable {P:Program} {o:Oper} {n:Nat} {D:List Deferred} {L:List (Nat×Value)} {a:Act}
theorem UQ{op:BinOp} {t bW:TypeId} {u v:Operand} {k k':IntKind} {x y:Int} {b4:bm} (aI:cT n D L a) (aA:o.op=.binOp op t u v bW) (hu:aD L u=some (.int k x)) (aC:aD L v=some (.int k' y))
  (h:vZ op k k' x y=some (true,b4)):∃ r,b4=.val r/\fa P o a r:=by
 cases op
 case shl=>
  simp only[vZ,Option.some.injEq,Prod.mk.injEq,decide_eq_true_eq]at h;obtain⟨aN,rfl⟩:=h;exact⟨_,rfl,TR aI aA hu (by rw[aC,Int.toNat_of_nonneg aN]) rfl⟩
 case shr=>
  simp only[vZ,Option.some.injEq,Prod.mk.injEq,decide_eq_true_eq]at h;obtain⟨aN,rfl⟩:=h;exact⟨_,rfl,TS aI aA hu (by rw[aC,Int.toNat_of_nonneg aN]) rfl⟩
 all_goals
  have e:k=k':=by
   cases ab:decide (k=k')with
   | true=>exact of_decide_eq_true ab
   | false=>simp only[vZ,ab]at h; cases h
  subst e;simp only[vZ,decide_true]at h
 case add=>generalize hw:na k (x+y)=q at h; obtain⟨c,z⟩:=q; cases h; exact⟨_,rfl,TD aI aA hu aC (vY hw)⟩
 case sub=>generalize hw:na k (x - y)=q at h; obtain⟨c,z⟩:=q; cases h; exact⟨_,rfl,TE aI aA hu aC (vY hw)⟩
 case mul=>generalize hw:na k (x * y)=q at h; obtain⟨c,z⟩:=q; cases h; exact⟨_,rfl,TF aI aA hu aC (vY hw)⟩
 case quo=>
  generalize hw:na k (x.tdiv y)=q at h; obtain⟨c,z⟩:=q
  simp only[Option.some.injEq,Prod.mk.injEq,Bool.and_eq_true,decide_eq_true_eq]at h;obtain⟨⟨rfl,aN⟩,rfl⟩:=h;exact⟨_,rfl,TG aI aA hu aC aN (vY hw)⟩
 case rem=>
  simp only[Option.some.injEq,Prod.mk.injEq,decide_eq_true_eq]at h;obtain⟨aN,rfl⟩:=h;exact⟨_,rfl,TH aI aA hu aC aN rfl⟩
 case and=>cases h; exact⟨_,rfl,TO aI aA hu aC rfl⟩
 case or=>cases h; exact⟨_,rfl,TP aI aA hu aC rfl⟩
 case xor=>cases h; exact⟨_,rfl,TQ aI aA hu aC rfl⟩
 case lss=>cases h; exact⟨_,rfl,TI aI aA hu aC⟩
 case leq=>cases h; exact⟨_,rfl,TJ aI aA hu aC⟩
 case gtr=>cases h; exact⟨_,rfl,TK aI aA hu aC⟩
 case geq=>cases h; exact⟨_,rfl,TL aI aA hu aC⟩
 case eql=>cases h; exact⟨_,rfl,TM aI aA hu aC⟩
 case neq=>cases h; exact⟨_,rfl,TN aI aA hu aC⟩
 case andNot=>cases h
theorem UR{u v:Operand} {t bW:TypeId} {x y:List UInt8} (aI:cT n D L a) (aA:o.op=.binOp .add t u v bW) (hu:aD L u=some (fc x)) (aC:aD L v=some (fc y)) (ah:x.length+y.length<=140737488355328):fa P o a (fc (x++y)):=fun w=>by
 have ay:((ByteArray.mk x.toArray).size+(ByteArray.mk y.toArray).size:Nat)=x.length+y.length:=by simp[ByteArray.size]
 have aS:(ByteArray.mk x.toArray)++(ByteArray.mk y.toArray)=ByteArray.mk (x++y).toArray:=by
  apply ByteArray.ext
  simp[ByteArray.data_append]
 have cz:¬ (((ByteArray.mk x.toArray).size+(ByteArray.mk y.toArray).size:Nat):Int) > IntKind.i64.max:=by
  rw[ay,show IntKind.i64.max=9223372036854775807 from rfl]; omega
 have hh:(Op.stringOp .add (ByteArray.mk x.toArray) (ByteArray.mk y.toArray)).run P w=.ok (fc (x++y)) w:=by
  unfold Op.stringOp;simp only[if_neg cz];rw[aS]
  rfl
 simp only[execOp,aA,aI.aD hu,aI.aD aC,fc,eqGuard,binOp];simp only[fc]at hh
 simp[hh]
theorem US{op:BinOp} {t bW:TypeId} {u v:Operand} {x y:List UInt8} {b4:bm} (aI:cT n D L a) (aA:o.op=.binOp op t u v bW) (hu:aD L u=some (fc x)) (aC:aD L v=some (fc y))
  (h:Fx op x y=some (true,b4)) {env:Nat->Loc} {B:Nat->Prop} {al:World}:∃ r,dB env B al b4 r/\fa P o a r:=by
 cases op<;>simp only[Fx,Option.some.injEq,Prod.mk.injEq,true_and,decide_eq_true_eq,reduceCtorEq]at h
 case eql=>subst h; exact⟨_,rfl,Uy aI aA hu aC⟩
 case neq=>subst h; exact⟨_,rfl,Uz aI aA hu aC⟩
 case add=>obtain⟨ah,rfl⟩:=h; exact⟨_,rfl,UR aI aA hu aC ah⟩
theorem Mt{P:Program} {t e:TypeId} (h:P.underlying t=some (.slice e)) (d:Nat) (a:Addr) (m c:Nat) (w:World):(Op.equalIn (d+1) t (.slice (some a) m c) (.slice none 0 0)).run P w=.ok false w:=by
 unfold Op.equalIn
 simp[run_underlying h]
theorem Mu{P:Program} {t e:TypeId} (h:P.underlying t=some (.slice e)) (d:Nat) (w:World):(Op.equalIn (d+1) t (.slice none 0 0) (.slice none 0 0)).run P w=.ok true w:=by
 unfold Op.equalIn
 simp[run_underlying h]
theorem UT{X:bs} (av:X.tt.ok X.P) {op:BinOp} {t bW:TypeId} {u v:Operand} {x y:bl} {vx vy:Value} {b4:bm} {env:Nat->Loc} {B:Nat->Prop} {al:World} (aI:cT n D L a) (aA:o.op=.binOp op t u v bW) (hu:aD L u=some vx) (aC:aD L v=some vy)
  (ak:dH env B al x vx) (aL:dH env B al y vy) (h:Fy X op t x y=some (true,b4)):∃ r,dB env B al b4 r/\fa X.P o a r:=by
 unfold Fy at h
 split at h
 ·rw[show vx=_ from ak]at hu
  rw[show vy=_ from aL]at aC;obtain⟨r,rfl,aw⟩:=UQ aI aA hu aC h;exact⟨r,rfl,aw⟩
 ·rw[show vx=_ from ak]at hu
  rw[show vy=_ from aL]at aC;exact US aI aA hu aC h
 ·rw[show vx=_ from ak]at hu
  rw[show vy=_ from aL]at aC
  split at h
  ·rename_i az
   obtain⟨T,bI,J⟩:=Bt (b9.get av az).bq;cases op<;>simp only[Ms,Option.some.injEq,Prod.mk.injEq,true_and,reduceCtorEq]at h
   case eql=>subst h; exact⟨_,rfl,Ua aI aA bI J rfl hu aC⟩
   case neq=>subst h; exact⟨_,rfl,Ub aI aA bI J rfl hu aC⟩
  ·cases h
 ·rename_i g l cap
  obtain⟨A,c,xs,rfl,_,_,_,_,hR⟩:=ak;rw[show vy=_ from aL]at aC
  split at h
  ·rename_i e s b z kq az
   have ay:=(b9.get av az).bq.1;simp only[Option.some.injEq,Prod.mk.injEq,decide_eq_true_eq]at h;obtain⟨ah,rfl⟩:=h;obtain⟨b,p,rfl,_⟩:=hR.1.2 ah;have he:∀ w,(Op.equal t _ _).run X.P w=.ok _ w:=fun w=>Mt ay 9999 ⟨b,p,none⟩ l.length c w
   exact⟨_,rfl,fun w=>by simp[execOp,aA,aI.aD hu,aI.aD aC,eqGuard,binOp,he]⟩
  ·rename_i e s b z kq az
   have ay:=(b9.get av az).bq.1;simp only[Option.some.injEq,Prod.mk.injEq,decide_eq_true_eq]at h;obtain⟨ah,rfl⟩:=h;obtain⟨b,p,rfl,_⟩:=hR.1.2 ah;have he:∀ w,(Op.equal t _ _).run X.P w=.ok _ w:=fun w=>Mt ay 9999 ⟨b,p,none⟩ l.length c w
   exact⟨_,rfl,fun w=>by simp[execOp,aA,aI.aD hu,aI.aD aC,eqGuard,binOp,he]⟩
  ·cases h
 ·rw[show vx=_ from ak]at hu
  rw[show vy=_ from aL]at aC
  split at h
  ·rename_i e s b z kq az
   have ay:=(b9.get av az).bq.1;cases h;have he:∀ w,(Op.equal t _ _).run X.P w=.ok _ w:=fun w=>Mu ay 9999 w
   exact⟨_,rfl,fun w=>by simp[execOp,aA,aI.aD hu,aI.aD aC,eqGuard,binOp,he]⟩
  ·rename_i e s b z kq az
   have ay:=(b9.get av az).bq.1;cases h;have he:∀ w,(Op.equal t _ _).run X.P w=.ok _ w:=fun w=>Mu ay 9999 w
   exact⟨_,rfl,fun w=>by simp[execOp,aA,aI.aD hu,aI.aD aC,eqGuard,binOp,he]⟩
  ·cases h
 ·cases h
end
end
section
section
variable {P:Program} {T:List (TypeId×bD)} {n:Nat} {D:List Deferred} {L:List (Nat×Value)} {a:Act} {o:Oper}
theorem v7{u x:Operand} {t e:TypeId} {i i':bD} {b m j p q:Nat} {k:IntKind} {z:Int} (aI:cT n D L a) (aA:o.op=.indexAddr t u x)
  (bI:hp P T) (J:T.lookup t=some i) (U:i.desc=.array m e) (aq:T.lookup e=some i') (hu:aD L u=some (.pointer (some ⟨b,p,none⟩))) (ak:aD L x=some (.int k z)) (bG:z=(j:Int)) (aH:j < m) (ar:p+j * i'.size=q):fa P o a (.pointer (some ⟨b,q,none⟩)):=fun w=>by subst bG; subst ar; have ay:=(bI _ _ J).1; rw[U]at ay; have aS:=bD.run_sizeOf (bI _ _ aq); simp[execOp,aA,aI.aD hu,aI.aD ak,Instr.indexAt,Instr.sureAddr,asIntOf,run_underlying ay,aS,Addr.add_lit,aH]
end
end
section
def nth{α:Type}:List α->Nat->Option α
 | [],_=>none
 | x :: _,0=>some x
 | _ :: r,n+1=>nth r n
def p8:List bm->Nat->Nat->Option (List bm)
 | _ :: r,o+1,n=>p8 r o n
 | _,0,0=>some []
 | x :: r,0,n+1=>match p8 r 0 n with
  | some l=>some (x :: l)
  | none=>none
 | [],_,_=>none
def ld:(g:aU)->g.D->Nat->Option bm
 | .int k,x,0=>some (.val (.int k x))
 | .bool,x,0=>some (.val (.bool x))
 | .str,x,0=>some (.str x)
 | .ai g,x,0=>some (.bk g x none)
 | .gS g,x,0=>some (.bk g x (some (List.length x)))
 | .fn,none,0=>some (.val .nilFunc)
 | .fn,some f,0=>some (.fn f [])
 | .pair g h,x,o=>match Nat.blt o g.size with
  | true=>ld g x.1 o
  | false=>ld h x.2 (o - g.size)
 | _,_,_=>none
def od(g:aU) (x:g.D):Nat->Nat->Option (List bm)
 | _,0=>some []
 | o,n+1=>match ld g x o,od g x (o+1) n with
  | some c,some l=>some (c :: l)
  | _,_=>none
def Part(vs us:List Value) (o n:Nat):Prop:=us.length=n/\∀ j u,us[j]?=some u->vs[o+j]?=some u
section
variable {env:Nat->Loc} {B:Nat->Prop} {w:World}
theorem cH.nth:∀ {cs:List bm} {vs:List Value} {o:Nat} {c:bm},cH env B w cs vs->nth cs o=some c->∃ v,vs[o]?=some v/\dB env B w c v
 | [],_,_,_,_,h=>by cases h
 | c' :: cs,vs,0,c,⟨v,r,e,J,_⟩,h=>by cases h; subst e; exact⟨v,rfl,J⟩
 | c' :: cs,vs,o+1,c,⟨v,r,e,_,U⟩,h=>by
  obtain⟨u,ag,aq⟩:=cH.nth U h;subst e;exact⟨u,ag,aq⟩
theorem cH.length:∀ {cs:List bm} {vs:List Value},cH env B w cs vs->vs.length=cs.length
 | [],_,h=>by rw[show _=[] from h]; rfl
 | _ :: _,_,⟨v,r,e,_,U⟩=>by rw[e,List.length_cons,List.length_cons,cH.length U]
theorem cH.cut:∀ {cs:List bm} {vs:List Value} {o n:Nat} {aG:List bm},cH env B w cs vs->p8 cs o n=some aG->∃ us,Part vs us o n/\cH env B w aG us
 | c :: cs,vs,o+1,n,aG,⟨v,r,e,_,U⟩,h=>by
  obtain⟨us,⟨ag,aq⟩,aE⟩:=cH.cut (o:=o) U (by simpa [p8] using h);subst e;exact⟨us,⟨ag,fun j u aH=>by rw[show o+1+j=(o+j)+1 by omega,List.getElem?_cons_succ]; exact aq j u aH⟩,aE⟩
 | [],vs,0,0,aG,J,h=>by
  simp only[p8,Option.some.injEq]at h;subst h;exact⟨[],⟨rfl,fun j u aH=>by simp at aH⟩,rfl⟩
 | c :: cs,vs,0,0,aG,J,h=>by
  simp only[p8,Option.some.injEq]at h;subst h;exact⟨[],⟨rfl,fun j u aH=>by simp at aH⟩,rfl⟩
 | c :: cs,vs,0,n+1,aG,⟨v,r,e,J,U⟩,h=>by
  simp only[p8]at h
  split at h
  ·rename_i l ah
   cases h;obtain⟨us,⟨ag,aq⟩,aE⟩:=cH.cut U ah;subst e;refine⟨v :: us,⟨by rw[List.length_cons,ag],fun j u aH=>?_⟩,v,us,rfl,J,aE⟩;cases j with
   | zero=>simpa using aH
   | succ j=>
    rw[show 0+(j+1)=(0+j)+1 by omega,List.getElem?_cons_succ];exact aq j u (by simpa using aH)
  ·cases h
 | [],_,0,_+1,_,_,h=>by simp[p8]at h
 | [],_,_+1,_,_,_,h=>by simp[p8]at h
theorem bF.cell:∀ {g:aU} {x:g.D} {vs:List Value} {o:Nat} {c:bm},bF B w g x vs->ld g x o=some c->∃ v,vs[o]?=some v/\dB env B w c v
 | .int k,x,vs,0,c,az,h=>by cases h; rw[show vs=[_] from az]; exact⟨_,rfl,rfl⟩
 | .bool,x,vs,0,c,az,h=>by cases h; rw[show vs=[_] from az]; exact⟨_,rfl,rfl⟩
 | .str,x,vs,0,c,az,h=>by cases h; rw[show vs=[_] from az]; exact⟨_,rfl,rfl⟩
 | .ai g,x,vs,0,c,⟨A,k,xs,e,J,U,ag,aq⟩,h=>by cases h; rw[e]; exact⟨_,rfl,A,k,xs,rfl,J,U,(fun _ aa=>by cases aa),ag,aq⟩
 | .gS g,x,vs,0,c,⟨A,xs,e,U,ag,aq⟩,h=>by cases h; rw[e]; exact⟨_,rfl,A,_,xs,rfl,Nat.le_refl _,U,(fun _ aa=>by cases aa; rfl),ag,aq⟩
 | .pair g h,x,vs,o,c,⟨v1,v2,e,J,U⟩,aa=>by
  simp only[ld]at aa;have ah:=bF.length J
  split at aa
  ·rename_i ae
   have aW:o < g.size:=dY ae;obtain⟨v,ag,aq⟩:=bF.cell J aa;exact⟨v,by rw[e,List.getElem?_append_left (by omega)]; exact ag,aq⟩
  ·rename_i ae
   have p0:¬ o < g.size:=fun aW=>by
    have:Nat.blt o g.size=true:=Nat.ble_eq_true_of_le aW
    rw[this]at ae; cases ae
   obtain⟨v,ag,aq⟩:=bF.cell U aa;exact⟨v,by rw[e,List.getElem?_append_right (by omega),ah]; exact ag,aq⟩
 | .int _,_,_,_+1,_,_,h=>by simp[ld]at h
 | .bool,_,_,_+1,_,_,h=>by simp[ld]at h
 | .str,_,_,_+1,_,_,h=>by simp[ld]at h
 | .ai _,_,_,_+1,_,_,h=>by simp[ld]at h
 | .gS _,_,_,_+1,_,_,h=>by simp[ld]at h
 | .fn,none,vs,0,c,az,h=>by cases h; rw[show vs=[_] from az]; exact⟨_,rfl,rfl⟩
 | .fn,some f,vs,0,c,az,h=>by cases h; rw[show vs=[_] from az]; exact⟨_,rfl,[],rfl,rfl⟩
 | .fn,none,_,_+1,_,_,h=>by simp[ld]at h
 | .fn,some _,_,_+1,_,_,h=>by simp[ld]at h
 | .unit,_,_,_,_,_,h=>by simp[ld]at h
theorem bF.cells{g:aU} {x:g.D} {vs:List Value} (az:bF B w g x vs):∀ {n o:Nat} {aG:List bm},od g x o n=some aG->∃ us,Part vs us o n/\cH env B w aG us
 | 0,o,aG,h=>by
  simp only[od,Option.some.injEq]at h;subst h;exact⟨[],⟨rfl,fun j u aH=>by simp at aH⟩,rfl⟩
 | n+1,o,aG,h=>by
  simp only[od]at h
  split at h
  ·rename_i c l aa ah
   cases h;obtain⟨v,J,U⟩:=bF.cell (env:=env) az aa;obtain⟨us,⟨ag,aq⟩,aE⟩:=bF.cells az ah;refine⟨v :: us,⟨by rw[List.length_cons,ag],fun j u aH=>?_⟩,v,us,rfl,U,aE⟩;cases j with
   | zero=>simp at aH; subst aH; exact J
   | succ j=>
    rw[show o+(j+1)=o+1+j by omega];exact aq j u (by simpa using aH)
  ·cases h
end
def Bx(X:bs) (st:aO) (t:TypeId) (x:bl):Option (Bool×bl):=
 match X.tt.find t with
 | none=>none
 | some bw=>match lR bw.bq.desc with
  | false=>match x with
   | .c (.ptr id o)=>match bd st.H id with
    | some (.cells _ cs)=>match nth cs o with
     | some c=>some (true,.c c)
     | none=>none
    | _=>none
   | .c (.eG id cJ i o)=>match bd st.H id with
    | some (.row _ g l _)=>match Nat.beq cJ g.size,ld g (l.getD i g.zero) o with
     | true,some c=>some (decide (i < l.length),.c c)
     | _,_=>none
    | _=>none
   | .c (.fO g x o)=>match ld g x o with
    | some c=>some (true,.c c)
    | none=>none
   | _=>none
  | true=>match x with
   | .c (.ptr id o)=>match bd st.H id with
    | some (.cells _ cs)=>match p8 cs o bw.bq.size with
     | some c=>some (true,.agg c)
     | none=>none
    | _=>none
   | .c (.eG id cJ i o)=>match bd st.H id with
    | some (.row _ g l _)=>match Nat.beq cJ g.size,od g (l.getD i g.zero) o bw.bq.size with
     | true,some c=>some (decide (i < l.length),.agg c)
     | _,_=>none
    | _=>none
   | .c (.fO g x o)=>match od g x o bw.bq.size with
    | some c=>some (true,.agg c)
    | none=>none
   | _=>none
section
variable {X:bs} {R:Nat->Prop} {W:World} {aJ:e0} {n:Nat} {ks:List Nat} {env:Nat->Loc} {B:Nat->Prop} {al:World} {H:List bf} {st:aO} {a:Act} {w b1:World} {o:Oper}
theorem iS.more{H H2:List bf} {c:bf} {K:bf->List bf} (h:iS H c K):iS (H++H2) c (fun z=>K z++H2):=by
 obtain⟨A,Y,J,U⟩:=h;exact⟨A,Y++H2,by rw[J]; simp,by rw[U]; funext z; simp⟩
theorem v8{t:TypeId} {i:bD} {x:Operand} {b p:Nat} {v:Value} {D:List Deferred} {L:List (Nat×Value)} (aI:cT n D L a) (aA:o.op=.load t x) (hi:bD.ok X.P t i) (U:lR i.desc=false) (ak:Go.Proofs.YtcheedjfedcbpaaGreatDoor.aD L x=some (.pointer (some ⟨b,p,none⟩)))
  (aa:w.cell? ⟨b,p,none⟩=some v):(execOp a.eval o).run X.P w=.ok (.value v) w:=by
 simp[execOp,aA,aI.aD ak,Instr.loadAt,Instr.sureAddr,loadVar,bD.x7 hi,U,aa]
theorem Fz{t:TypeId} {i:bD} {x:Operand} {b p:Nat} {vs:List Value} {D:List Deferred} {L:List (Nat×Value)} (aI:cT n D L a) (aA:o.op=.load t x) (hi:bD.ok X.P t i) (U:lR i.desc=true) (ak:Go.Proofs.YtcheedjfedcbpaaGreatDoor.aD L x=some (.pointer (some ⟨b,p,none⟩)))
  (ah:vs.length=i.size) (aa:∀ j v,vs[j]?=some v->w.cell? ⟨b,p+j,none⟩=some v):(execOp a.eval o).run X.P w=.ok (.value (.agg vs.toArray)) w:=by
 have:=TX (w:=w) hi U (b:=b) (p:=p) ah aa
 simp[execOp,aA,aI.aD ak,Instr.loadAt,Instr.sureAddr,this]
theorem FA{b p:Nat} {v:Value} (ae:B b) (aa:al.cell? ⟨b,p,none⟩=some v) (an:bE (fun k=>R k\/B k) al H w):w.cell? ⟨b,p,none⟩=some v:=by
 rw[an.below.cell (p:=⟨b,p,none⟩) (.inr ae)]; exact aa
theorem Mv(h:bH X R W aJ n ks env B al H st a b1) {id:Nat} {t:TypeId} {g:aU} {l:List g.D} {cap:Option Nat} (ah:bd st.H id=some (.row t g l cap)) {i:Nat} (hi:i < l.length) {b c m:Nat} (he:env id=.row (some ⟨b,0,none⟩) c m) :
  ∃ vs,bF B al g (l.getD i g.zero) vs/\∀ w,bE (fun k=>R k\/B k) al (H++ks.map dk) w->∀ q v,vs[q]?=some v->w.cell? ⟨b,i * g.size+q,none⟩=some v:=by
 obtain⟨ee,K,⟨A,k,xs,cV,rfl,az,_⟩,ey⟩:=h.heap.gz ah;rw[he]at cV;cases cV;have ak:l[i]?=some (l.getD i g.zero):=by rw[List.getD_eq_getElem?_getD,List.getElem?_eq_getElem hi]; rfl
 have J:=Flat.get (fun _ _=>bF.length) az ak;refine⟨_,J,fun w an q v ar=>?_⟩;have fx:eQ w (fun k=>R k\/B k) t g.size (some ⟨b,0,none⟩) c l.length xs:=an.ok _ ey.more.mem;rw[List.getElem?_take]at ar
 split at ar
 ·rename_i aW
  rw[List.getElem?_drop]at ar;have hbound:i * g.size+q < l.length * g.size:=by
   have U:(i+1) * g.size<=l.length * g.size:=Nat.mul_le_mul_right _ hi;rw[Nat.add_mul]at U;omega
  rw[fx.cells rfl _ hbound];exact ar
 ·cases ar
theorem Mw(av:X.tt.ok X.P) {t:TypeId} {u:Operand} {g:Bool} {x bx:bl} (aA:o.op=.load t u) (hu:bp X st.L u=some (g,x)) (aQ:g=true) (ah:Bx X st t x=some (true,bx)):ix X st o bx:=by
 intro R W aJ n ks env B al H a b1 h;obtain⟨v,aC,aw⟩:=h.aD hu aQ;have aI:=h.bZ;unfold Bx at ah
 split at ah
 ·cases ah
 ·rename_i bw dh
  have hi:=(b9.get av dh).bq
  split at ah
  ·rename_i U
   split at ah
   ·split at ah
    ·rename_i b5
     split at ah
     ·rename_i aV
      cases ah;obtain⟨b,he,rfl⟩:=aw;obtain⟨ee,K,⟨b',vs,cV,rfl,h3⟩,az⟩:=h.heap.gz b5;rw[he]at cV;cases cV;obtain⟨v,ag,aq⟩:=h3.nth aV;exact⟨v,aq,fun w hq=>have an:=hq (by rw[aA]; rfl); v8 aI aA hi U aC (by rw[Fl an az.more]; exact ag)⟩
     ·cases ah
    ·cases ah
   ·split at ah
    ·rename_i b5
     split at ah
     ·rename_i dv aV
      simp only[Option.some.injEq,Prod.mk.injEq,decide_eq_true_eq]at ah;obtain⟨aW,rfl⟩:=ah;obtain⟨b,c,m,he,rfl⟩:=aw;obtain⟨vs,ag,aq⟩:=Mv h b5 aW he;obtain⟨v,aE,bb⟩:=bF.cell ag aV;have gJ:=Nat.eq_of_beq_eq_true dv;subst gJ;exact⟨v,bb,fun w hq=>have an:=hq (by rw[aA]; rfl); v8 aI aA hi U aC (aq w an _ _ aE)⟩
     ·cases ah
    ·cases ah
   ·split at ah
    ·rename_i aV
     cases ah;obtain⟨b,p,rfl,ae,vs,ag,aq⟩:=aw;obtain⟨v,aE,bb⟩:=bF.cell ag aV;exact⟨v,bb,fun w hq=>have an:=hq (by rw[aA]; rfl); v8 aI aA hi U aC (FA ae (aq _ _ aE) an)⟩
    ·cases ah
   ·cases ah
  ·rename_i U
   split at ah
   ·split at ah
    ·rename_i b5
     split at ah
     ·rename_i aV
      cases ah;obtain⟨b,he,rfl⟩:=aw;obtain⟨ee,K,⟨b',vs,cV,rfl,h3⟩,az⟩:=h.heap.gz b5;rw[he]at cV;cases cV;obtain⟨us,⟨ag,aq⟩,aE⟩:=h3.cut aV;exact⟨_,⟨us,rfl,aE⟩,fun w hq=>have an:=hq (by rw[aA]; rfl); Fz aI aA hi U aC ag (fun j v aH=>by rw[Fl an az.more]; exact aq j v aH)⟩
     ·cases ah
    ·cases ah
   ·split at ah
    ·rename_i b5
     split at ah
     ·rename_i dv aV
      simp only[Option.some.injEq,Prod.mk.injEq,decide_eq_true_eq]at ah;obtain⟨aW,rfl⟩:=ah;obtain⟨b,c,m,he,rfl⟩:=aw;obtain⟨vs,ag,aq⟩:=Mv h b5 aW he;obtain⟨us,⟨aE,bb⟩,bX⟩:=bF.cells ag aV;have gJ:=Nat.eq_of_beq_eq_true dv;subst gJ;exact⟨_,⟨us,rfl,bX⟩,fun w hq=>have an:=hq (by rw[aA]; rfl); Fz aI aA hi U aC aE (fun j v aH=>by rw[Nat.add_assoc]; exact aq w an _ _ (bb j v aH))⟩
     ·cases ah
    ·cases ah
   ·split at ah
    ·rename_i aV
     cases ah;obtain⟨b,p,rfl,ae,vs,ag,aq⟩:=aw;obtain⟨us,⟨aE,bb⟩,bX⟩:=bF.cells ag aV;exact⟨_,⟨us,rfl,bX⟩,fun w hq=>have an:=hq (by rw[aA]; rfl); Fz aI aA hi U aC aE (fun j v aH=>by rw[Nat.add_assoc]; exact FA ae (aq _ _ (bb j v aH)) an)⟩
    ·cases ah
   ·cases ah
end
end
section
def FB(X:bs) (t:TypeId) (x:bl) (k:Nat):Option (Bool×bl):=
 match X.tt.find t with
 | some ⟨⟨.struct c1,_,_,_⟩,_⟩=>match nth c1.toList k with
  | some f=>match X.tt.find f.type with
   | some bw=>match Nat.blt 0 bw.bq.size,x with
    | true,.c (.ptr id o)=>some (true,.c (.ptr id (o+f.offset)))
    | true,.c (.eG id cJ i o)=>some (true,.c (.eG id cJ i (o+f.offset)))
    | true,.c (.fO g x o)=>some (true,.c (.fO g x (o+f.offset)))
    | _,_=>none
   | none=>none
  | none=>none
 | _=>none
def bc(z:Int) (n:Nat):Bool:=decide (0<=z)&&decide (z < (n:Int))
def FC(X:bs) (st:aO) (t:TypeId) (x:bl) (i:bl):Option (Bool×bl):=
 match X.tt.find t with
 | some ⟨⟨.slice e,_,_,_⟩,_⟩=>match X.tt.find e with
  | some bw=>match x,i with
   | .c (.bk g l _),.c (.val (.int _ z))=>match Nat.beq g.size bw.bq.size with
    | true=>some (bc z l.length,.c (.fO g (l.getD z.toNat g.zero) 0))
    | false=>none
   | .c (.ai id),.c (.val (.int _ z))=>match bd st.H id with
    | some (.row _ g l _)=>match Nat.beq g.size bw.bq.size with
     | true=>some (bc z l.length,.c (.eG id g.size z.toNat 0))
     | false=>none
    | some (.cM _ _ _ l _ _ _)=>match Nat.beq 1 bw.bq.size with
     | true=>some (bc z l.length,.c (.eG id 1 z.toNat 0))
     | false=>none
    | some (.b2 _ _ _ l _ _)=>match Nat.beq 1 bw.bq.size with
     | true=>some (bc z l.length,.c (.eG id 1 z.toNat 0))
     | false=>none
    | _=>none
   | _,_=>none
  | none=>none
 | some ⟨⟨.array m e,_,_,_⟩,_⟩=>match X.tt.find e with
  | some bw=>match x,i with
   | .c (.ptr id o),.c (.val (.int _ z))=>some (bc z m,.c (.ptr id (o+z.toNat * bw.bq.size)))
   | .c (.fO g x o),.c (.val (.int _ z))=>some (bc z m,.c (.fO g x (o+z.toNat * bw.bq.size)))
   | .c (.par g l),.c (.val (.int _ z))=>match Nat.beq g.size bw.bq.size with
    | true=>some (bc z m&&bc z l.length,.c (.fO g (l.getD z.toNat g.zero) 0))
    | false=>none
   | .c (.eG id cJ 0 0),.c (.val (.int _ z))=>match Nat.beq cJ bw.bq.size with
    | true=>some (bc z m,.c (.eG id cJ z.toNat 0))
    | false=>none
   | .c (.hG id o),.c (.val (.int _ z))=>match Nat.beq bw.bq.size 1 with
    | true=>some (bc z m,.c (.eG id 1 (o+z.toNat) 0))
    | false=>some (bc z m,.c (.hG id (o+z.toNat * bw.bq.size)))
   | _,_=>none
  | none=>none
 | _=>none
def FD:Option Nat->Nat->Option Nat
 | some c,k=>some (c - k)
 | none,_=>none
def wa(X:bs) (t:TypeId) (x:bl) (lo hi yj:Option bl):Option (Bool×bl):=
 match X.tt.find t with
 | some ⟨⟨.slice e,_,_,_⟩,_⟩=>match X.tt.find e with
  | some bw=>match x with
   | .c (.bk g l cap)=>match Nat.beq g.size bw.bq.size with
    | true=>match lo,hi,yj with
     | some (.c (.val (.int _ z))),none,none=>some (decide (0<=z)&&decide (z<=(l.length:Int)),.c (.bk g (l.drop z.toNat) (FD cap z.toNat)))
     | none,some (.c (.val (.int _ y))),none=>some (decide (0<=y)&&decide (y<=(l.length:Int)),.c (.bk g (l.take y.toNat) cap))
     | some (.c (.val (.int _ z))),some (.c (.val (.int _ y))),none=>some (decide (0<=z)&&decide (z<=y)&&decide (y<=(l.length:Int)),.c (.bk g ((l.take y.toNat).drop z.toNat) (FD cap z.toNat)))
     | none,some (.c (.val (.int _ y))),some (.c (.val (.int _ q)))=>some (decide (0<=y)&&decide (y<=q)&&decide (q<=(l.length:Int)),.c (.bk g (l.take y.toNat) (some q.toNat)))
     | _,_,_=>none
    | false=>none
   | _=>none
  | none=>none
 | _=>none
def FE(X:bs) (st:aO) (t:TypeId) (x:bl):Option (Bool×bl):=
 match X.tt.find t with
 | some ⟨⟨.slice _,_,_,_⟩,_⟩=>match x with
  | .c (.bk _ l _)=>some (true,.c (.val (.int .i64 (l.length:Int))))
  | .c (.ai id)=>match bd st.H id with
   | some (.row _ _ l _)=>some (true,.c (.val (.int .i64 (l.length:Int))))
   | some (.cM _ _ _ l _ _ _)=>some (true,.c (.val (.int .i64 (l.length:Int))))
   | some (.gl _ _ l)=>some (true,.c (.val (.int .i64 (l.length:Int))))
   | some (.b2 _ _ _ l _ _)=>some (true,.c (.val (.int .i64 (l.length:Int))))
   | _=>none
  | .c (.val (.slice none 0 0))=>some (true,.c (.val (.int .i64 0)))
  | _=>none
 | some ⟨⟨.string,_,_,_⟩,_⟩=>match x with
  | .c (.str s)=>some (true,.c (.val (.int .i64 (s.length:Int))))
  | _=>none
 | _=>none
def FF(X:bs) (t:TypeId) (x:bl):Option (Bool×bl):=
 match X.tt.find t with
 | some ⟨⟨.slice _,_,_,_⟩,_⟩=>match x with
  | .c (.bk _ _ c)=>some (c.isSome,.c (.val (.int .i64 ((c.getD 0:Nat):Int))))
  | .c (.val (.slice none 0 0))=>some (true,.c (.val (.int .i64 0)))
  | _=>none
 | _=>none
def FG(X:bs) (t bW:TypeId) (x:bl):Option (Bool×bl):=
 match X.tt.find t,X.tt.find bW with
 | some _,some ⟨⟨.int k',_,_,_⟩,_⟩=>match x with
  | .c (.val (.int _ z))=>match na k' z with
   | (c,r)=>some (c,.c (.val (.int k' r)))
  | _=>none
 | some _,some ⟨⟨.string,_,_,_⟩,_⟩=>match x with
  | .c (.str s)=>some (true,.c (.str s))
  | _=>none
 | _,_=>none
section
variable {X:bs} {R:Nat->Prop} {W:World} {aJ:e0} {n:Nat} {ks:List Nat} {env:Nat->Loc} {B:Nat->Prop} {al:World} {H:List bf} {st:aO} {a:Act} {w b1:World} {o:Oper}
theorem FH{α:Type}:∀ {l:List α} {k:Nat} {x:α},nth l k=some x->l[k]?=some x
 | [],_,_,h=>by cases h
 | _ :: _,0,_,h=>h
 | _ :: r,k+1,_,h=>by rw[List.getElem?_cons_succ]; exact FH (l:=r) h
theorem UU(av:X.tt.ok X.P) {t:TypeId} {u:Operand} {g:Bool} {x bx:bl} {k:Nat} (aA:o.op=.fieldAddr t u k) (hu:bp X st.L u=some (g,x)) (aQ:g=true) (ah:FB X t x k=some (true,bx)):ix X st o bx:=by
 intro R W aJ n ks env B al H a b1 h;obtain⟨v,aC,aw⟩:=h.aD hu aQ;have aI:=h.bZ;unfold FB at ah
 split at ah
 ·rename_i c1 s b z kq az
  split at ah
  ·rename_i f ab
   split at ah
   ·rename_i bw dh
    obtain⟨T,bI,J,aq⟩:=mY (b9.get av az).bq (b9.get av dh).bq;have ag:c1[k]?=some ⟨f.name,f.type,f.offset,f.embedded,f.tag,f.pkgPath,f.byteOffset⟩:=by have:=FH ab; simpa using this
    split at ah
    ·rename_i aE
     cases ah;obtain⟨b,he,rfl⟩:=aw;exact⟨_,⟨b,he,rfl⟩,fun w _=>Fj aI aA bI J rfl ag aq aE aC w⟩
    ·rename_i aE
     cases ah;obtain⟨b,c,m,he,rfl⟩:=aw;exact⟨_,⟨b,c,m,he,rfl⟩,fun w _=>by have:=Fj aI aA bI J rfl ag aq aE aC w; rw[Nat.add_assoc]at this; exact this⟩
    ·rename_i aE
     cases ah;obtain⟨b,p,rfl,iv⟩:=aw;exact⟨_,⟨b,p,rfl,iv⟩,fun w _=>by have:=Fj aI aA bI J rfl ag aq aE aC w; rw[Nat.add_assoc]at this; exact this⟩
    ·cases ah
   ·cases ah
  ·cases ah
 ·cases ah
theorem mr{z:Int} {n:Nat} (h:bc z n=true):∃ j:Nat,z=(j:Int)/\j < n/\z.toNat=j:=by
 simp only[bc,Bool.and_eq_true,decide_eq_true_eq]at h;exact⟨z.toNat,by omega,by omega,rfl⟩
theorem Mx(g:aU) (l:List g.D) {xs:List Value} (az:Flat (bF B al g) l xs) {b p j:Nat} (ae:B b) (aa:∀ i u,xs[i]?=some u->al.cell? ⟨b,p+i,none⟩=some u) (aH:j < l.length):At B al g (l.getD j g.zero) b (p+j * g.size):=by
 have ak:l[j]?=some (l.getD j g.zero):=by rw[List.getD_eq_getElem?_getD,List.getElem?_eq_getElem aH]; rfl
 have J:=Flat.get (fun _ _=>bF.length) az ak;refine⟨ae,_,J,fun q v ar=>?_⟩;rw[List.getElem?_take]at ar
 split at ar
 ·rw[List.getElem?_drop]at ar
  rw[Nat.add_assoc];exact aa _ _ ar
 ·cases ar
theorem UW(av:X.tt.ok X.P) {t:TypeId} {u y:Operand} {g g':Bool} {x i bx:bl} (aA:o.op=.indexAddr t u y) (hu:bp X st.L u=some (g,x)) (aQ:g=true) (aL:bp X st.L y=some (g',i)) (ea:g'=true) (ah:FC X st t x i=some (true,bx)):ix X st o bx:=by
 intro R W aJ n ks env B al H a b1 h;obtain⟨v,aC,aw⟩:=h.aD hu aQ;obtain⟨eV,gY,iy⟩:=h.aD aL ea;have aI:=h.bZ;unfold FC at ah
 split at ah
 ·rename_i e s b z kq az
  split at ah
  ·rename_i bw dh
   obtain⟨T,bI,J,aq⟩:=mY (b9.get av az).bq (b9.get av dh).bq
   split at ah
   ·rename_i g l cap k z
    split at ah
    ·rename_i dv
     simp only[Option.some.injEq,Prod.mk.injEq]at ah;obtain⟨ae,rfl⟩:=ah;obtain⟨j,rfl,aH,ht⟩:=mr ae;obtain⟨A,c,xs,rfl,iG,h4,_,di,hR⟩:=aw;rw[show eV=_ from iy]at gY;have jH:0 < l.length:=by omega
     obtain⟨b,p,rfl,k9⟩:=hR.1.2 jH;have cm:=hR.2 b p jH rfl;rw[ht];refine⟨_,⟨b,p+j * g.size,rfl,Mx g l di cm k9 aH⟩,fun w _=>?_⟩
     have:=Bm aI aA bI J rfl aq aC gY rfl aH w
     rw[<- Nat.eq_of_beq_eq_true dv]at this;exact this
    ·cases ah
   ·rename_i id k z
    split at ah
    ·rename_i t2 g l cap b5
     split at ah
     ·rename_i dv
      simp only[Option.some.injEq,Prod.mk.injEq]at ah;obtain⟨ae,rfl⟩:=ah;obtain⟨j,rfl,aH,ht⟩:=mr ae;obtain⟨A,c,m,he,rfl⟩:=aw;rw[show eV=_ from iy]at gY;obtain⟨ee,K,⟨bP,k',xs,cV,rfl,di,_⟩,ey⟩:=h.heap.gz b5;rw[he]at cV;cases cV;obtain⟨b,rfl⟩:=h.aM.rowAt ey.more (by omega);rw[ht];refine⟨_,⟨b,_,_,he,rfl⟩,fun w _=>?_⟩
      have:=Bm aI aA bI J rfl aq aC gY rfl aH w
      rw[<- Nat.eq_of_beq_eq_true dv,Nat.zero_add]at this;exact this
     ·cases ah
    ·rename_i t2 g l cap db eB b5
     split at ah
     ·rename_i dv
      simp only[Option.some.injEq,Prod.mk.injEq]at ah;obtain⟨ae,rfl⟩:=ah;obtain⟨j,rfl,aH,ht⟩:=mr ae;obtain⟨A,c,m,he,rfl⟩:=aw;rw[show eV=_ from iy]at gY;obtain⟨ee,K,⟨bP,k',ys,c2,cL,m2,cV,rfl,di,_⟩,ey⟩:=h.heap.gz b5;rw[he]at cV;cases cV;obtain⟨b,rfl⟩:=h.aM.rowAt ey.more (by omega);rw[ht];refine⟨_,⟨b,_,_,he,rfl⟩,fun w _=>?_⟩
      have:=Bm aI aA bI J rfl aq aC gY rfl aH w
      rw[<- Nat.eq_of_beq_eq_true dv,Nat.zero_add]at this;exact this
     ·cases ah
    ·rename_i t2 t3 g l cap db b5
     split at ah
     ·rename_i dv
      simp only[Option.some.injEq,Prod.mk.injEq]at ah;obtain⟨ae,rfl⟩:=ah;obtain⟨j,rfl,aH,ht⟩:=mr ae;obtain⟨A,c,m,he,rfl⟩:=aw;rw[show eV=_ from iy]at gY;obtain⟨ee,K,⟨bP,k',ys,c4,I,cV,rfl,_⟩,ey⟩:=h.heap.gz b5;rw[he]at cV;cases cV;obtain⟨b,rfl⟩:=eQ.at ((h.aM.ok _ ey.more.mem).1 _ List.mem_cons_self) (by show 0 < l.length; omega);rw[ht];refine⟨_,⟨b,_,_,he,rfl⟩,fun w _=>?_⟩
      have:=Bm aI aA bI J rfl aq aC gY rfl aH w
      rw[<- Nat.eq_of_beq_eq_true dv,Nat.zero_add]at this;exact this
     ·cases ah
    ·cases ah
   ·cases ah
  ·cases ah
 ·rename_i m e s b z kq az
  split at ah
  ·rename_i bw dh
   obtain⟨T,bI,J,aq⟩:=mY (b9.get av az).bq (b9.get av dh).bq
   split at ah
   ·rename_i id p k z
    simp only[Option.some.injEq,Prod.mk.injEq]at ah;obtain⟨ae,rfl⟩:=ah;obtain⟨j,rfl,aH,ht⟩:=mr ae;obtain⟨b,he,rfl⟩:=aw;rw[show eV=_ from iy]at gY;rw[ht];exact⟨_,⟨b,he,rfl⟩,fun w _=>v7 aI aA bI J rfl aq aC gY rfl aH rfl w⟩
   ·rename_i g x p k z
    simp only[Option.some.injEq,Prod.mk.injEq]at ah;obtain⟨ae,rfl⟩:=ah;obtain⟨j,rfl,aH,ht⟩:=mr ae;obtain⟨b,q,rfl,iv⟩:=aw;rw[show eV=_ from iy]at gY;rw[ht];exact⟨_,⟨b,q,rfl,iv⟩,fun w _=>v7 aI aA bI J rfl aq aC gY rfl aH (by omega) w⟩
   ·rename_i g l k z
    split at ah
    ·rename_i dv
     simp only[Option.some.injEq,Prod.mk.injEq,Bool.and_eq_true]at ah;obtain⟨⟨kM,ae⟩,rfl⟩:=ah;obtain⟨j,rfl,aH,ht⟩:=mr ae;obtain⟨iV,UX,kN,_⟩:=mr kM;obtain⟨b,p,vs,rfl,cm,di,k9⟩:=aw;rw[show eV=_ from iy]at gY;rw[ht];refine⟨_,⟨b,p+j * g.size,rfl,Mx g l di cm k9 aH⟩,fun w _=>?_⟩;exact v7 aI aA bI J rfl aq aC gY rfl (by omega) (by rw[Nat.eq_of_beq_eq_true dv]; rfl) w
    ·cases ah
   ·rename_i id cJ k z
    split at ah
    ·rename_i dv
     simp only[Option.some.injEq,Prod.mk.injEq]at ah;obtain⟨ae,rfl⟩:=ah;obtain⟨j,rfl,aH,ht⟩:=mr ae;obtain⟨b,c,q,he,rfl⟩:=aw;rw[show eV=_ from iy]at gY;rw[ht];exact⟨_,⟨b,c,q,he,rfl⟩,fun w _=>v7 aI aA bI J rfl aq aC gY rfl aH (by rw[Nat.eq_of_beq_eq_true dv]; simp) w⟩
    ·cases ah
   ·rename_i id p k z
    split at ah
    ·rename_i dv
     simp only[Option.some.injEq,Prod.mk.injEq]at ah;obtain⟨ae,rfl⟩:=ah;obtain⟨j,rfl,aH,ht⟩:=mr ae;obtain⟨b,c,q,he,rfl⟩:=aw;rw[show eV=_ from iy]at gY;rw[ht];have yk:=Nat.eq_of_beq_eq_true dv;exact⟨_,⟨b,c,q,he,rfl⟩,fun w _=>v7 aI aA bI J rfl aq aC gY rfl aH (by rw[yk]; omega) w⟩
    ·simp only[Option.some.injEq,Prod.mk.injEq]at ah
     obtain⟨ae,rfl⟩:=ah;obtain⟨j,rfl,aH,ht⟩:=mr ae;obtain⟨b,c,q,he,rfl⟩:=aw;rw[show eV=_ from iy]at gY;rw[ht];exact⟨_,⟨b,c,q,he,rfl⟩,fun w _=>v7 aI aA bI J rfl aq aC gY rfl aH rfl w⟩
   ·cases ah
  ·cases ah
 ·cases ah
theorem Flat.cut{g:aU} {l:List g.D} {xs:List Value} (az:Flat (bF B al g) l xs) (lo hi:Nat):Flat (bF B al g) ((l.take hi).drop lo) ((xs.drop (lo * g.size)).take ((hi - lo) * g.size)):=by
 have J:=(Flat.split (fun _ _=>bF.length) hi az).1;have U:=(Flat.split (fun _ _=>bF.length) lo J).2;have e:(xs.take (hi * g.size)).drop (lo * g.size)=(xs.drop (lo * g.size)).take ((hi - lo) * g.size):=by
  rw[List.drop_take,Nat.sub_mul]
 rw[e]at U;exact U
theorem nE.cut{A:Option Addr} {m size l h c:Nat} {xs:List Value} (aw:nE B al A m size xs) (ah:l<=h) (cg:h<=m) (aa:h<=c):nE B al (jm A l size c) (h - l) size ((xs.drop (l * size)).take ((h - l) * size)):=by
 refine⟨aw.1.cut ah cg aa,fun b p ao e=>?_⟩;obtain⟨pa,My,rfl,_⟩:=aw.1.2 (by omega);unfold jm at e
 split at e
 ·cases e; exact aw.2 _ _ (by omega) rfl
 ·simp only[Option.map_some,Option.some.injEq,Addr.add_lit]at e
  cases e;exact aw.2 _ _ (by omega) rfl
theorem Mz{g:aU} {l:List g.D} {A:Option Addr} {c:Nat} {xs:List Value} {cap:Option Nat} (di:Flat (bF B al g) l xs) (hR:nE B al A l.length g.size xs) (h4:c<=maxLen) (lo hi q:Nat) (J:lo<=hi) (U:hi<=l.length) (ag:hi<=q) (aq:q<=c) (fy:∀ k,cap=some k->q - lo=k) :
  dB env B al (.bk g ((l.take hi).drop lo) cap) (.slice (jm A lo g.size q) (hi - lo) (q - lo)):=by
 have hlen:((l.take hi).drop lo).length=hi - lo:=by simp; omega
 refine⟨_,q - lo,_,by rw[hlen],by rw[hlen]; omega,by omega,fy,di.cut lo hi,?_⟩;rw[hlen];exact hR.cut J U ag
theorem By(av:X.tt.ok X.P) {t:TypeId} {u:Operand} {lo hi yj:Option Operand} {g:Bool} {x bx:bl} {FI FJ FK:Option bl} (aA:o.op=.slice t u lo hi yj) (hu:bp X st.L u=some (g,x)) (aQ:g=true)
  (MA:∀ s,FI=some s->∃ y,lo=some y/\∃ g',bp X st.L y=some (g',s)/\g'=true) (MB:FI=none->lo=none) (FL:∀ s,FJ=some s->∃ y,hi=some y/\∃ g',bp X st.L y=some (g',s)/\g'=true) (UY:FJ=none->hi=none)
  (UZ:∀ s,FK=some s->∃ y,yj=some y/\∃ g',bp X st.L y=some (g',s)/\g'=true) (FM:FK=none->yj=none) (ah:wa X t x FI FJ FK=some (true,bx)):ix X st o bx:=by
 intro R W aJ n ks env B al H a b1 h;obtain⟨v,aC,aw⟩:=h.aD hu aQ;have aI:=h.bZ;unfold wa at ah
 split at ah
 ·rename_i e s b z kq az
  split at ah
  ·rename_i bw dh
   obtain⟨T,bI,J,aq⟩:=mY (b9.get av az).bq (b9.get av dh).bq
   split at ah
   ·rename_i g l cap
    obtain⟨A,c,xs,rfl,iG,h4,fy,di,hR⟩:=aw
    split at ah
    ·rename_i dv
     have gJ:=Nat.eq_of_beq_eq_true dv
     split at ah
     ·rename_i k z
      simp only[Option.some.injEq,Prod.mk.injEq,Bool.and_eq_true,decide_eq_true_eq]at ah;obtain⟨⟨q3,q4⟩,rfl⟩:=ah;obtain⟨y,rfl,g',aL,ea⟩:=MA _ rfl;rw[UY rfl,FM rfl]at aA;obtain⟨eV,gY,iy⟩:=h.aD aL ea;rw[show eV=_ from iy]at gY;refine⟨_,?_,fun w _=>Ma aI aA bI J rfl aq aC gY (l:=z.toNat) (by omega) (by omega) w⟩;rw[<- gJ]
      have:=Mz (env:=env) (cap:=FD cap z.toNat) di hR h4 z.toNat l.length c (by omega) (Nat.le_refl _) iG (Nat.le_refl _) (by
       intro k ab;cases cap with
       | none=>cases ab
       | some c'=>have:=fy c' rfl; cases ab; rw[this])
      rw[List.take_length]at this;exact this
     ·rename_i k y
      simp only[Option.some.injEq,Prod.mk.injEq,Bool.and_eq_true,decide_eq_true_eq]at ah;obtain⟨⟨q3,q4⟩,rfl⟩:=ah;obtain⟨q,rfl,g',aL,ea⟩:=FL _ rfl;rw[MB rfl,FM rfl]at aA;obtain⟨eV,gY,iy⟩:=h.aD aL ea;rw[show eV=_ from iy]at gY;refine⟨_,?_,fun w _=>Um aI aA bI J rfl aq aC gY (h:=y.toNat) (by omega) (by omega) w⟩;have hlen:(l.take y.toNat).length=y.toNat:=by simp; omega
      have aE:=di.cut 0 y.toNat;have bb:=hR.1.cut (l:=0) (h:=y.toNat) (c:=c) (by omega) (by omega) (by omega);have aj:jm A 0 g.size c=A:=by
       unfold jm
       split
       ·rfl
       ·cases A with
        | none=>rfl
        | some vW=>simp[Addr.add]
      rw[aj]at bb;refine⟨A,c,_,by rw[hlen],by rw[hlen]; omega,h4,fy,by simpa using aE,?_⟩;rw[hlen];refine⟨by simpa using bb,fun b p ao e=>hR.2 b p (by omega) e⟩
     ·rename_i k z k' y
      simp only[Option.some.injEq,Prod.mk.injEq,Bool.and_eq_true,decide_eq_true_eq]at ah;obtain⟨⟨⟨q3,q4⟩,nG⟩,rfl⟩:=ah;obtain⟨q,rfl,g',aL,ea⟩:=MA _ rfl;obtain⟨hv,rfl,U0,iW,FN⟩:=FL _ rfl;rw[FM rfl]at aA;obtain⟨eV,gY,iy⟩:=h.aD aL ea;rw[show eV=_ from iy]at gY;obtain⟨FO,yl,FP⟩:=h.aD iW FN;rw[show FO=_ from FP]at yl;refine⟨_,?_,fun w _=>Un aI aA bI J rfl aq aC gY yl (l:=z.toNat) (h:=y.toNat) (by omega) (by omega) (by omega) (by omega) w⟩;rw[<- gJ];exact Mz (env:=env) di hR h4 z.toNat y.toNat c (by omega) (by omega) (by omega) (Nat.le_refl _) (by
       intro k ab;cases cap with
       | none=>cases ab
       | some c'=>have:=fy c' rfl; cases ab; rw[this])
     ·rename_i k y k' q
      simp only[Option.some.injEq,Prod.mk.injEq,Bool.and_eq_true,decide_eq_true_eq]at ah;obtain⟨⟨⟨q3,q4⟩,nG⟩,rfl⟩:=ah;obtain⟨db,rfl,g',aL,ea⟩:=FL _ rfl;obtain⟨eB,rfl,U0,iW,FN⟩:=UZ _ rfl;rw[MB rfl]at aA;obtain⟨eV,gY,iy⟩:=h.aD aL ea;rw[show eV=_ from iy]at gY;obtain⟨FO,yl,FP⟩:=h.aD iW FN;rw[show FO=_ from FP]at yl;refine⟨_,?_,fun w _=>Mm aI aA bI J rfl aq aC gY yl (h:=y.toNat) (q:=q.toNat) (by omega) (by omega) (by omega) (by omega) w⟩;have hlen:(l.take y.toNat).length=y.toNat:=by simp; omega
      have aE:=di.cut 0 y.toNat;have bb:=hR.1.cut (l:=0) (h:=y.toNat) (c:=c) (by omega) (by omega) (by omega);have aj:jm A 0 g.size c=A:=by
       unfold jm
       split
       ·rfl
       ·cases A with
        | none=>rfl
        | some vW=>simp[Addr.add]
      rw[aj]at bb;refine⟨A,q.toNat,_,by rw[hlen],by rw[hlen]; omega,by omega,(fun _ ab=>by cases ab; rfl),by simpa using aE,?_⟩;rw[hlen];refine⟨by simpa using bb,fun b p ao e=>hR.2 b p (by omega) e⟩
     ·cases ah
    ·cases ah
   ·cases ah
  ·cases ah
 ·cases ah
end
end
def oe:List bm->Nat->List bm->Option (List bm)
 | l,0,[]=>some l
 | _ :: l,0,v :: vs=>match oe l 0 vs with
  | some r=>some (v :: r)
  | none=>none
 | c :: l,k+1,vs=>match oe l k vs with
  | some r=>some (c :: r)
  | none=>none
 | [],_,_=>none
def bl.cells:bl->List bm
 | .c x=>[x]
 | .agg cs=>cs
 | .arr g l=>List.replicate (l.length * g.size) .dead
def bm.live:bm->Bool
 | .dead=>false
 | .val v=>v.oneCell'
 | _=>true
def og:List bm->Bool
 | []=>true
 | c :: r=>c.live&&og r
def fieldAt(X:bs):List Field->Nat->Option (Nat×Nat)
 | c1,k=>match nth c1 k with
  | some f=>match X.tt.find f.type with
   | some bw=>some (f.offset,bw.bq.size)
   | none=>none
  | none=>none
def q5(X:bs) (L:cX) (pl:Nat->Option (Nat×Nat)):List (Nat×Operand)->Bool->List bm->Option (Bool×List bm)
 | [],c,z=>some (c,z)
 | (k,u) :: r,c,z=>match pl k,bp X L u with
  | some (off,size),some (g,x)=>match Nat.beq x.cells.length size,og x.cells,oe z off x.cells with
   | true,true,some ob=>q5 X L pl r (c&&g) ob
   | _,_,_=>none
  | _,_=>none
def Bz(X:bs):List Field->Bool
 | []=>true
 | f :: r=>(X.tt.find f.type).isSome&&Bz X r
def FQ(X:bs) (L:cX) (t:TypeId) (ps:List (Nat×Operand)):Option (Bool×bl):=
 match X.tt.find t with
 | some ⟨⟨.struct c1,_,_,.agg z⟩,_⟩=>match Bz X c1.toList with
  | true=>match q5 X L (fieldAt X c1.toList) ps true (sn z.toList)with
   | some (c,r)=>some (c,.agg r)
   | none=>none
  | false=>none
 | some ⟨⟨.array _ e,_,_,.agg z⟩,_⟩=>match X.tt.find e with
  | some bw=>match q5 X L (fun i=>some (i * bw.bq.size,bw.bq.size)) ps true (sn z.toList)with
   | some (c,r)=>some (c,.agg r)
   | none=>none
  | none=>none
 | _=>none
def ym(b:Bool):bl->bl->Option bl
 | .c (.val (.int k x)),.c (.val (.int k' y))=>match decide (k=k')with
  | true=>some (.c (.val (.int k (cond b x y))))
  | false=>none
 | .c (.val (.bool x)),.c (.val (.bool y))=>some (.c (.val (.bool (cond b x y))))
 | .c (.str x),.c (.str y)=>some (.c (.str (cond b x y)))
 | _,_=>none
def fP(X:bs) (L:cX):List Operand->Option (List e4)
 | []=>some []
 | u :: r=>match bp X L u,fP X L r with
  | some (true,.c (.ptr id 0)),some l=>some (.id id :: l)
  | some (true,.c (.fO g x 0)),some l=>some (.eT g x :: l)
  | _,_=>none
def tN(isMax:Bool) (k:IntKind) (acc:Int) (X:bs) (L:cX):List Operand->Bool->Option (Bool×bm)
 | [],c=>some (c,.val (.int k acc))
 | u :: r,c=>match bp X L u with
  | some (g,.c (.val (.int k' y)))=>match decide (k=k'),isMax with
   | true,true=>tN true k (if acc < y then y else acc) X L r (c&&g)
   | true,false=>tN false k (if y < acc then y else acc) X L r (c&&g)
   | false,_=>none
  | _=>none
def tO(X:bs) (st:aO):Op->Option (Bool×bl)
 | .move u=>bp X st.L u
 | .assign u=>bp X st.L u
 | .pick c u v=>match bp X st.L c,bp X st.L u,bp X st.L v with
  | some (gc,.c (.val (.bool b))),some (yn,x),some (aY,y)=>match ym b x y with
   | some r=>some (gc&&(!b || yn)&&(b || aY),r)
   | none=>none
  | _,_,_=>none
 | .unOp .not _ u=>match bp X st.L u with
  | some (g,.c (.val (.bool b)))=>some (g,.c (.val (.bool (!b))))
  | _=>none
 | .unOp .neg _ u=>match bp X st.L u with
  | some (g,.c (.val (.int k x)))=>match na k (0 - x)with
   | (c,z)=>some (g&&c,.c (.val (.int k z)))
  | _=>none
 | .binOp op t u v _=>match bp X st.L u,bp X st.L v with
  | some (g,x),some (g',y)=>match Fy X op t x y with
   | some (c,r)=>some (g&&g'&&c,.c r)
   | none=>none
  | _,_=>none
 | .load t u=>match bp X st.L u with
  | some (g,x)=>match Bx X st t x with
   | some (c,r)=>some (g&&c,r)
   | none=>none
  | none=>none
 | .fieldAddr t u k=>match bp X st.L u with
  | some (g,x)=>match FB X t x k with
   | some (c,r)=>some (g&&c,r)
   | none=>none
  | none=>none
 | .indexAddr t u v=>match bp X st.L u,bp X st.L v with
  | some (g,x),some (g',y)=>match FC X st t x y with
   | some (c,r)=>some (g&&g'&&c,r)
   | none=>none
  | _,_=>none
 | .slice t u none none none=>none
 | .slice t u (some l) none none=>match bp X st.L u,bp X st.L l with
  | some (g,x),some (g1,mu)=>match wa X t x (some mu) none none with
   | some (c,r)=>some (g&&g1&&c,r)
   | none=>none
  | _,_=>none
 | .slice t u none (some l) none=>match bp X st.L u,bp X st.L l with
  | some (g,x),some (g1,mu)=>match wa X t x none (some mu) none with
   | some (c,r)=>some (g&&g1&&c,r)
   | none=>none
  | _,_=>none
 | .slice t u (some l) (some h) none=>match bp X st.L u,bp X st.L l,bp X st.L h with
  | some (g,x),some (g1,mu),some (g2,lf)=>match wa X t x (some mu) (some lf) none with
   | some (c,r)=>some (g&&g1&&g2&&c,r)
   | none=>none
  | _,_,_=>none
 | .slice t u none (some l) (some h)=>match bp X st.L u,bp X st.L l,bp X st.L h with
  | some (g,x),some (g1,mu),some (g2,lf)=>match wa X t x none (some mu) (some lf)with
   | some (c,r)=>some (g&&g1&&g2&&c,r)
   | none=>none
  | _,_,_=>none
 | .convert t bW u=>match bp X st.L u with
  | some (g,x)=>match FG X t bW x with
   | some (c,r)=>some (g&&c,r)
   | none=>none
  | none=>none
 | .build t ps=>FQ X st.L t ps.toList
 | .makeFunc (.func f) ⟨[]⟩ cs=>match fP X st.L cs.toList with
  | some ids=>some (true,.c (.fn f ids))
  | none=>none
 | .makeFunc (.func f) ⟨[u]⟩ ⟨[]⟩=>match bp X st.L u with
  | some (true,.c (.ptr id 0))=>some (true,.c (.iH f id))
  | _=>none
 | .nilCheck u=>match bp X st.L u with
  | some (g,.c (.ptr id o))=>some (g,.c (.ptr id o))
  | some (g,.c (.eG id s i o))=>some (g,.c (.eG id s i o))
  | some (g,.c (.fO t x o))=>some (g,.c (.fO t x o))
  | some (g,.c (.par t x))=>some (g,.c (.par t x))
  | _=>none
 | .extract (.tmp s) k=>match bd st.L s with
  | some (.c3 vs)=>match nth vs k with
   | some x=>some (true,x)
   | none=>none
  | _=>none
 | .call ⟨.builtin .len,⟨[u]⟩,⟨[t]⟩⟩=>match bp X st.L u with
  | some (g,x)=>match FE X st t x with
   | some (c,r)=>some (g&&c,r)
   | none=>none
  | none=>none
 | .call ⟨.builtin .cap,⟨[u]⟩,⟨[t]⟩⟩=>match bp X st.L u with
  | some (g,x)=>match FF X t x with
   | some (c,r)=>some (g&&c,r)
   | none=>none
  | none=>none
 | .call ⟨.builtin .min,⟨u :: r⟩,_⟩=>match bp X st.L u with
  | some (g,.c (.val (.int k x)))=>match tN false k x X st.L r g with
   | some (c,y)=>some (c,.c y)
   | none=>none
  | _=>none
 | .call ⟨.builtin .max,⟨u :: r⟩,_⟩=>match bp X st.L u with
  | some (g,.c (.val (.int k x)))=>match tN true k x X st.L r g with
   | some (c,y)=>some (c,.c y)
   | none=>none
  | _=>none
 | .index t u v=>match X.tt.find t with
  | some ⟨⟨.string,_,_,_⟩,_⟩=>match bp X st.L u,bp X st.L v with
   | some (g,.c (.str s)),some (g',.c (.val (.int _ z)))=>some (g&&g'&&bc z s.length,.c (.val (.int .u8 ((s.getD z.toNat 0).toNat:Int))))
   | _,_=>none
  | _=>none
 | _=>none
section
section
variable {X:bs} {R:Nat->Prop} {W:World} {aJ:e0} {n:Nat} {ks:List Nat} {env:Nat->Loc} {B:Nat->Prop} {al:World} {H:List bf} {st:aO} {a:Act} {w b1:World} {o:Oper}
theorem yo:∀ {cs:List bm} {vs:List Value} {k:Nat} {xs:List bm} {us:List Value} {r:List bm},cH env B w cs vs->cH env B w xs us->oe cs k xs=some r->∃ rs,p5 vs k us rs/\cH env B w r rs
 | cs,vs,0,[],us,r,J,U,h=>by
  have e:us=[]:=U;subst e;cases cs with
  | nil=>simp only[oe,Option.some.injEq]at h; subst h; exact⟨vs,.nil,J⟩
  | cons c cs=>simp only[oe,Option.some.injEq]at h; subst h; exact⟨vs,.nil,J⟩
 | c :: cs,vs,0,x :: xs,us,r,⟨v,U1,e,_,J⟩,⟨u,aj0,aS,U,ag⟩,h=>by
  simp only[oe]at h
  split at h
  ·rename_i q ar
   cases h;obtain⟨rs,aq,aE⟩:=yo J ag ar;subst e; subst aS;exact⟨u :: rs,.cons aq,u,rs,rfl,U,aE⟩
  ·cases h
 | c :: cs,vs,k+1,xs,us,r,⟨v,U1,e,aN,J⟩,U,h=>by
  simp only[oe]at h
  split at h
  ·rename_i q ar
   cases h;obtain⟨rs,aq,aE⟩:=yo J U ar;subst e;exact⟨v :: rs,.skip aq,v,rs,rfl,aN,aE⟩
  ·cases h
 | [],_,0,_ :: _,_,_,_,_,h=>by simp[oe]at h
 | [],_,_+1,_,_,_,_,_,h=>by simp[oe]at h
theorem cH.MC:∀ vs:List Value,cH env B w (List.replicate vs.length .dead) vs
 | []=>rfl
 | v :: r=>⟨v,r,rfl,trivial,cH.MC r⟩
theorem dH.cells:∀ {x:bl} {v:Value},dH env B w x v->(∀ c,x=.c c->v.oneCell'=true)->cH env B w x.cells v.cells.toList
 | .c x,v,h,bg=>by
  have aC:=bg x rfl;have U2:v.cells=#[v]:=by cases v<;>first | rfl | (simp[Value.oneCell']at aC)
  rw[U2];exact⟨v,[],rfl,h,rfl⟩
 | .agg cs,v,⟨vs,e,h⟩,_=>by subst e; simpa [Value.cells,bl.cells] using h
 | .arr g l,v,⟨vs,e,h⟩,_=>by
  subst e;have J:=cH.MC (env:=env) (B:=B) (w:=w) vs;rw[bF.mX h]at J
  simpa [Value.cells,bl.cells] using J
theorem dB.one:∀ {c:bm} {v:Value},c.live=true->dB env B w c v->v.oneCell'=true
 | .val _,_,h,e=>by rw[show _=_ from e]; exact h
 | .str _,_,_,e=>by rw[show _=fc _ from e]; rfl
 | .dead,_,h,_=>by cases h
 | .ptr _ _,_,_,⟨_,_,e⟩=>by rw[e]; rfl
 | .eG _ _ _ _,_,_,⟨_,_,_,_,e⟩=>by rw[e]; rfl
 | .fO _ _ _,_,_,⟨_,_,e,_⟩=>by rw[e]; rfl
 | .par _ _,_,_,⟨_,_,_,e,_⟩=>by rw[e]; rfl
 | .ai _,_,_,⟨_,_,_,_,e⟩=>by rw[e]; rfl
 | .bk _ _ _,_,_,⟨_,_,_,e,_⟩=>by rw[e]; rfl
 | .fn _ _,_,_,⟨_,e,_⟩=>by rw[e]; rfl
 | .b8 _,_,_,⟨_,_,e⟩=>by rw[e]; rfl
 | .iH _ _,_,_,⟨_,_,e⟩=>by rw[e]; rfl
 | .hG _ _,_,_,⟨_,_,_,_,e⟩=>by rw[e]; rfl
 | .iI _ _ _,_,_,⟨_,_,_,_,_,e⟩=>by rw[e]; rfl
 | .iU _,_,_,⟨_,_,_,_,e⟩=>by rw[e]; rfl
 | .hQ b _,_,_,⟨_,_,e⟩=>by rw[e]; cases b<;>rfl
theorem cH.iX:∀ {cs:List bm} {vs:List Value},og cs=true->cH env B w cs vs->∀ u∈vs,u.oneCell'=true
 | [],_,_,h,u,hu=>by rw[show _=[] from h]at hu; cases hu
 | c :: cs,_,ah,⟨v,r,e,J,U⟩,u,hu=>by
  simp only[og,Bool.and_eq_true]at ah;subst e
  rcases List.mem_cons.1 hu with rfl | hu
  ·exact dB.one ah.1 J
  ·exact cH.iX ah.2 U u hu
theorem U3{P:Program} {o:Oper} {a:Act} {n:Nat} {D:List Deferred} {L:List (Nat×Value)} {f:Fn} {x:Operand} {v:Value} (aI:cT n D L a) (aA:o.op=.makeFunc f #[x] #[]) (aC:aD L x=some v):fa P o a (.func f #[v] #[]):=fun w=>by
 simp[execOp,aA,Instr.makeFunc,aI.aD aC]
theorem FR(h:bH X R W aJ n ks env B al H st a b1):∀ {us:List Operand} {ids:List e4},fP X st.L us=some ids->∃ vs,iE (gm a) us=some vs/\eZ env B al ids vs
 | [],ids,aa=>by cases aa; exact⟨[],rfl,rfl⟩
 | u :: us,ids,aa=>by
  simp only[fP]at aa
  split at aa
  ·rename_i id l hu ah
   cases aa;obtain⟨v,J,b,he,rfl⟩:=h.aD hu rfl;obtain⟨vs,U,ag⟩:=FR h ah;refine⟨_ :: vs,?_,_,vs,rfl,⟨b,he,rfl⟩,ag⟩;unfold iE;rw[J,U]
  ·rename_i g x l hu ah
   cases aa;obtain⟨v,J,b,o,rfl,iv⟩:=h.aD hu rfl;obtain⟨vs,U,ag⟩:=FR h ah;refine⟨_ :: vs,?_,_,vs,rfl,⟨b,o,rfl,iv⟩,ag⟩;unfold iE;rw[J,U]
   rfl
  ·cases aa
theorem BA(h:bH X R W aJ n ks env B al H st a b1) {k:IntKind}:∀ {m:Bool} {us:List Operand} {acc:Int} {c:Bool} {b4:bm},tN m k acc X st.L us c=some (true,b4) ->
  c=true/\∃ z,b4=.val (.int k z)/\∀ w,((us.map a.eval).foldlM (if m then Builtin.max2 else Builtin.min2) (.int k acc)).run X.P w=.ok (.int k z) w
 | m,[],acc,c,b4,hm=>by
  simp only[tN,Option.some.injEq,Prod.mk.injEq]at hm;obtain⟨rfl,rfl⟩:=hm;exact⟨rfl,acc,rfl,fun w=>by simp⟩
 | m,u :: us,acc,c,b4,hm=>by
  simp only[tN]at hm
  split at hm
  ·rename_i g k' y hu
   have hS:k=k':=by
    split at hm
    ·rename_i ab; exact of_decide_eq_true ab
    ·rename_i ab; exact of_decide_eq_true ab
    ·cases hm
   subst hS;rw[decide_eq_true rfl]at hm;cases m with
   | true=>
    obtain⟨aa,z,rfl,bG⟩:=BA (m:=true) h hm;simp only[Bool.and_eq_true]at aa;obtain⟨v,J,U⟩:=h.aD hu aa.2;have ag:=h.bZ.aD J;rw[show v=_ from U]at ag;refine⟨aa.1,z,rfl,fun w=>?_⟩
    have:=bG w
    simp[ag,Builtin.max2]at this ⊢
    exact this
   | false=>
    obtain⟨aa,z,rfl,bG⟩:=BA (m:=false) h hm;simp only[Bool.and_eq_true]at aa;obtain⟨v,J,U⟩:=h.aD hu aa.2;have ag:=h.bZ.aD J;rw[show v=_ from U]at ag;refine⟨aa.1,z,rfl,fun w=>?_⟩
    have:=bG w
    simp[ag,Builtin.min2]at this ⊢
    exact this
  ·cases hm
theorem MD(av:X.tt.ok X.P):∀ (c1:List Field),Bz X c1=true->∃ l:List (Nat×Nat),(∀ w,(c1.mapM fun f=>Prod.mk f.offset <$> sizeOf f.type:Sem (List (Nat×Nat))).run X.P w=.ok l w)/\∀ k p,fieldAt X c1 k=some p->l[k]?=some p
 | [],_=>⟨[],fun w=>by simp,fun k p h=>by simp[fieldAt,nth]at h⟩
 | f :: c1,lW=>by
  simp only[Bz,Bool.and_eq_true]at lW;obtain⟨l,J,U⟩:=MD av c1 lW.2;cases az:X.tt.find f.type with
  | none=>rw[az]at lW; simp at lW
  | some bw=>
   refine⟨(f.offset,bw.bq.size) :: l,fun w=>?_,fun k p h=>?_⟩
   ·simp[bD.run_sizeOf (b9.get av az).bq,J]
   ·cases k with
    | zero=>
     simp only[fieldAt,nth,az,Option.some.injEq]at h
     simp[h]
    | succ k=>
     rw[List.getElem?_cons_succ];exact U k p (by simpa [fieldAt,nth] using h)
theorem U4{pl:Nat->Option (Nat×Nat)}:∀ (ps:List (Nat×Operand)) (c:Bool) (z:List bm) (c':Bool) (r:List bm),q5 X st.L pl ps c z=some (c',r)->c'=true->c=true:=by
 intro ps
 induction ps with
 | nil=>intro c z c' r J U; simp only[q5,Option.some.injEq,Prod.mk.injEq]at J; rw[J.1]; exact U
 | cons p ps br=>
  intro c z c' r J U;obtain⟨k,u⟩:=p;simp only[q5]at J
  split at J
  ·split at J
   ·have:=br _ _ _ _ J U
    simp only[Bool.and_eq_true]at this;exact this.1
   ·cases J
  ·cases J
theorem FT(h:bH X R W aJ n ks env B al H st a b1) {pl l:Nat->Option (Nat×Nat)} (ah:∀ k p,pl k=some p->l k=some p):∀ {ps:List (Nat×Operand)} {c c':Bool} {z r:List bm} {vs:List Value},cH env B al z vs ->
  q5 X st.L pl ps c z=some (c',r)->c'=true->∃ rs:List Value,Instr.fill l vs.toArray (ps.map fun p=>(p.1,a.eval p.2))=some rs.toArray/\cH env B al r rs
 | [],c,c',z,r,vs,bG,az,aa=>by
  simp only[q5,Option.some.injEq,Prod.mk.injEq]at az;obtain⟨rfl,rfl⟩:=az;exact⟨vs,rfl,bG⟩
 | (k,u) :: ps,c,c',z,r,vs,bG,az,aa=>by
  simp only[q5]at az
  split at az
  ·rename_i off size g x FU hu
   split at az
   ·rename_i ob dv q6 ao
    have gJ:=Nat.eq_of_beq_eq_true dv;have ME:=U4 _ _ _ _ _ az aa;simp only[Bool.and_eq_true]at ME;obtain⟨v,J,U⟩:=h.aD hu ME.2;have h3:cH env B al x.cells v.cells.toList:=U.cells fun c e=>by
     subst e;simp only[bl.cells,og,Bool.and_true]at q6;exact dB.one q6 U
    obtain⟨rs,ag,aq⟩:=yo bG h3 ao;obtain⟨U5,aE,bb⟩:=FT h ah aq az aa;refine⟨U5,?_,bb⟩;rw[List.map_cons,h.bZ.aD J];rw[Uw (ah _ _ FU) (by rw[<- gJ,<- h3.length]; simp) ag];exact aE
   ·cases az
  ·cases az
theorem U6(av:X.tt.ok X.P) {t:TypeId} {ps:Array (Nat×Operand)} {bx:bl} (aA:o.op=.build t ps) (ah:FQ X st.L t ps.toList=some (true,bx)):ix X st o bx:=by
 intro R W aJ n ks env B al H a b1 h;unfold FQ at ah
 split at ah
 ·rename_i c1 s b z kq az
  obtain⟨fl,rfl⟩:∃ fl:List Field,c1=fl.toArray:=⟨c1.toList,by simp⟩
  split at ah
  ·rename_i lW
   split at ah
   ·rename_i c r wb
    cases ah;obtain⟨l,J,U⟩:=MD av _ lW;obtain⟨rs,ag,aq⟩:=FT h (l:=fun k=>l[k]?) U (yi z.toList) wb rfl;refine⟨_,⟨rs,rfl,aq⟩,fun w _=>?_⟩;have ay:=(b9.get av az).bq.1;have aS:=bD.qU (b9.get av az).bq w;have cz:=J w
    have:(Instr.build t (ps.map fun p=>(p.1,a.eval p.2))).run X.P w=.ok (.agg rs.toArray) w:=by
     unfold Instr.build;simp only[Array.toArray_toList]at ag
     simp[aS,run_underlying ay,cz,Value.cells,ag]
    simp only[execOp,aA]
    simp[this]
   ·cases ah
  ·cases ah
 ·rename_i m e s b z kq az
  split at ah
  ·rename_i bw dh
   split at ah
   ·rename_i c r wb
    cases ah;obtain⟨rs,ag,aq⟩:=FT h (l:=fun i=>some (i * bw.bq.size,bw.bq.size)) (fun _ _ h=>h) (yi z.toList) wb rfl;refine⟨_,⟨rs,rfl,aq⟩,fun w _=>?_⟩;have ay:=(b9.get av az).bq.1;have aS:=bD.qU (b9.get av az).bq w;have cz:=bD.run_sizeOf (b9.get av dh).bq w
    have:(Instr.build t (ps.map fun p=>(p.1,a.eval p.2))).run X.P w=.ok (.agg rs.toArray) w:=by
     unfold Instr.build;simp only[Array.toArray_toList]at ag
     simp[aS,run_underlying ay,cz,Value.cells,ag]
    simp only[execOp,aA]
    simp[this]
   ·cases ah
  ·cases ah
 ·cases ah
theorem U7(av:X.tt.ok X.P) {t:TypeId} {u:Operand} {g:Bool} {x bx:bl} (aA:o.op=.call ⟨.builtin .len,⟨[u]⟩,⟨[t]⟩⟩) (hu:bp X st.L u=some (g,x)) (aQ:g=true) (ah:FE X st t x=some (true,bx)):ix X st o bx:=by
 intro R W aJ n ks env B al H a b1 h;obtain⟨v,aC,aw⟩:=h.aD hu aQ;have aI:=h.bZ;unfold FE at ah
 split at ah
 ·rename_i e s b z kq az
  obtain⟨T,bI,J⟩:=Bt (b9.get av az).bq
  split at ah
  ·cases ah
   obtain⟨A,c,xs,rfl,_⟩:=aw;exact⟨_,rfl,fun w _=>vU aI aA bI J rfl aC w⟩
  ·split at ah
   ·rename_i b5
    cases ah;obtain⟨A,c,m,he,rfl⟩:=aw;obtain⟨ee,K,⟨bP,k',xs,cV,rfl,di,_⟩,ey⟩:=h.heap.gz b5;rw[he]at cV;cases cV;exact⟨_,rfl,fun w _=>vU aI aA bI J rfl aC w⟩
   ·rename_i b5
    cases ah;obtain⟨A,c,m,he,rfl⟩:=aw;obtain⟨ee,K,⟨bP,k',ys,c2,cL,m2,cV,rfl,_⟩,ey⟩:=h.heap.gz b5;rw[he]at cV;cases cV;exact⟨_,rfl,fun w _=>vU aI aA bI J rfl aC w⟩
   ·rename_i b5
    cases ah;obtain⟨A,c,m,he,rfl⟩:=aw;obtain⟨ee,K,⟨bP,k',cV,_⟩,ey⟩:=h.heap.gz b5;rw[he]at cV;cases cV;exact⟨_,rfl,fun w _=>vU aI aA bI J rfl aC w⟩
   ·rename_i b5
    cases ah;obtain⟨A,c,m,he,rfl⟩:=aw;obtain⟨ee,K,⟨bP,k',ys,c4,I,cV,_⟩,ey⟩:=h.heap.gz b5;rw[he]at cV;cases cV;exact⟨_,rfl,fun w _=>vU aI aA bI J rfl aC w⟩
   ·cases ah
  ·cases ah
   rw[show v=_ from aw]at aC;exact⟨_,rfl,fun w _=>vU aI aA bI J rfl aC w⟩
  ·cases ah
 ·rename_i s b z kq az
  have ay:=(b9.get av az).bq.1
  split at ah
  ·rename_i ai
   cases ah;rw[show v=_ from aw]at aC;refine⟨_,rfl,fun w _=>?_⟩;have aS:(ByteArray.mk ai.toArray).size=ai.length:=by show ai.toArray.size=_; simp
   simp[execOp,aA,resolve,invoke,builtin,Builtin.len_,aI.aD aC,fc,run_underlying ay,goInt,aS]
  ·cases ah
 ·cases ah
theorem U8(av:X.tt.ok X.P) {t:TypeId} {u:Operand} {g:Bool} {x bx:bl} (aA:o.op=.call ⟨.builtin .cap,⟨[u]⟩,⟨[t]⟩⟩) (hu:bp X st.L u=some (g,x)) (aQ:g=true) (ah:FF X t x=some (true,bx)):ix X st o bx:=by
 intro R W aJ n ks env B al H a b1 h;obtain⟨v,aC,aw⟩:=h.aD hu aQ;have aI:=h.bZ;unfold FF at ah
 split at ah
 ·rename_i e s b z kq az
  obtain⟨T,bI,J⟩:=Bt (b9.get av az).bq
  split at ah
  ·rename_i cc
   cases cc with
   | none=>cases ah
   | some cc=>
    cases ah;obtain⟨A,c,xs,rfl,_,_,aa,_⟩:=aw
    have:=aa _ rfl
    subst this;exact⟨_,rfl,fun w _=>Fi aI aA bI J rfl aC w⟩
  ·cases ah
   rw[show v=_ from aw]at aC;exact⟨_,rfl,fun w _=>Fi aI aA bI J rfl aC w⟩
  ·cases ah
 ·cases ah
theorem U9(av:X.tt.ok X.P) {t bW:TypeId} {u:Operand} {g:Bool} {x bx:bl} (aA:o.op=.convert t bW u) (hu:bp X st.L u=some (g,x)) (aQ:g=true) (ah:FG X t bW x=some (true,bx)):ix X st o bx:=by
 intro R W aJ n ks env B al H a b1 h;obtain⟨v,aC,aw⟩:=h.aD hu aQ;have aI:=h.bZ;unfold FG at ah
 split at ah
 ·rename_i bw k' s b z kq az gR
  obtain⟨T,bI,J,U⟩:=mY (b9.get av az).bq (b9.get av gR).bq
  split at ah
  ·rename_i k z
   generalize hw:na k' z=q at ah
   obtain⟨c,r⟩:=q;cases ah;rw[show v=_ from aw]at aC;exact⟨_,rfl,fun w _=>TT aI aA bI J U rfl aC (vY hw) w⟩
  ·cases ah
 ·rename_i bw s b z kq az gR
  split at ah
  ·cases ah
   rw[show v=_ from aw]at aC;refine⟨_,rfl,fun w _=>?_⟩;have ay:=(b9.get av az).bq.1;have aS:=(b9.get av gR).bq.1
   simp[execOp,aA,aI.aD aC,convert,run_underlying ay,run_underlying aS,fc]
  ·cases ah
 ·cases ah
theorem BB(av:X.tt.ok X.P) {c:Bool} {bx:bl} (ah:tO X st o.op=some (c,bx)) (aa:c=true):ix X st o bx:=by
 unfold tO at ah
 split at ah
 ·rename_i u aA
  intro R W aJ n ks env B al H a b1 h;obtain⟨v,J,U⟩:=h.aD ah aa;exact⟨v,U,fun w _=>L0 h.bZ aA J w⟩
 ·rename_i u aA
  intro R W aJ n ks env B al H a b1 h;obtain⟨v,J,U⟩:=h.aD ah aa;exact⟨v,U,fun w _=>L1 h.bZ aA J w⟩
 ·rename_i uc u v aA
  split at ah
  ·rename_i gc b yn x aY y ay aS cz
   split at ah
   ·rename_i r ao
    cases ah;simp only[Bool.and_eq_true,Bool.or_eq_true,Bool.not_eq_true']at aa;obtain⟨⟨FV,hs⟩,kM⟩:=aa;intro R W aJ n ks env B al H a b1 h;obtain⟨Va,J,U⟩:=h.aD ay FV;rw[show Va=_ from U]at J;have MF:∀ vx vy,(b=true->dH env B al x vx)->(b=false->dH env B al y vy)->dH env B al bx (if b then vx else vy):=by
     intro vx vy ak aL;unfold ym at ao
     split at ao
     ·split at ao
      ·rename_i ab
       have hS:=of_decide_eq_true ab;subst hS;cases ao;cases b
       ·exact aL rfl
       ·exact ak rfl
      ·cases ao
     ·cases ao
      cases b
      ·exact aL rfl
      ·exact ak rfl
     ·cases ao
      cases b
      ·exact aL rfl
      ·exact ak rfl
     ·cases ao
    cases b with
    | true=>
     obtain⟨vx,ag,aq⟩:=h.aD aS (by simpa using hs);exact⟨vx,MF vx vx (fun _=>aq) (fun h=>by cases h),fun w _=>L2 h.bZ aA J rfl ag w⟩
    | false=>
     obtain⟨vy,ag,aq⟩:=h.aD cz (by simpa using kM);exact⟨vy,MF vy vy (fun h=>by cases h) (fun _=>aq),fun w _=>L3 h.bZ aA J rfl ag w⟩
   ·cases ah
  ·cases ah
 ·rename_i t u aA
  split at ah
  ·rename_i g b ay
   cases ah;intro R W aJ n ks env B al H a b1 h;obtain⟨v,J,U⟩:=h.aD ay aa;rw[show v=_ from U]at J;exact⟨_,rfl,fun w _=>TB h.bZ aA J w⟩
  ·cases ah
 ·rename_i t u aA
  split at ah
  ·rename_i g k x ay
   generalize hw:na k (0 - x)=q at ah
   obtain⟨c',z⟩:=q;simp only[Option.some.injEq,Prod.mk.injEq]at ah;obtain⟨rfl,rfl⟩:=ah;simp only[Bool.and_eq_true]at aa;obtain⟨aQ,rfl⟩:=aa;intro R W aJ n ks env B al H a b1 h;obtain⟨v,J,U⟩:=h.aD ay aQ;rw[show v=_ from U]at J;exact⟨_,rfl,fun w _=>by have pd:=vY hw; simp only[Int.zero_sub]at pd; simp[execOp,aA,h.bZ.aD J,Op.unary,Op.intArith,pd]⟩
  ·cases ah
 ·rename_i op t u v bW aA
  split at ah
  ·rename_i g x g' y ay aS
   split at ah
   ·rename_i c' r ae
    cases ah;simp only[Bool.and_eq_true]at aa;obtain⟨⟨aQ,ea⟩,rfl⟩:=aa;intro R W aJ n ks env B al H a b1 h;obtain⟨vx,J,U⟩:=h.aD ay aQ;obtain⟨vy,ag,aq⟩:=h.aD aS ea;obtain⟨r,aE,bb⟩:=UT av h.bZ aA J ag U aq ae;exact⟨r,aE,fun w _=>bb w⟩
   ·cases ah
  ·cases ah
 ·rename_i t u aA
  split at ah
  ·rename_i g x ay
   split at ah
   ·rename_i c' r ae
    cases ah;simp only[Bool.and_eq_true]at aa;obtain⟨aQ,rfl⟩:=aa;exact Mw av aA ay aQ ae
   ·cases ah
  ·cases ah
 ·rename_i t u k aA
  split at ah
  ·rename_i g x ay
   split at ah
   ·rename_i c' r ae
    cases ah;simp only[Bool.and_eq_true]at aa;obtain⟨aQ,rfl⟩:=aa;exact UU av aA ay aQ ae
   ·cases ah
  ·cases ah
 ·rename_i t u v aA
  split at ah
  ·rename_i g x g' y ay aS
   split at ah
   ·rename_i c' r ae
    cases ah;simp only[Bool.and_eq_true]at aa;obtain⟨⟨aQ,ea⟩,rfl⟩:=aa;exact UW av aA ay aQ aS ea ae
   ·cases ah
  ·cases ah
 ·cases ah
 ·rename_i t u l aA
  split at ah
  ·rename_i g x g1 mu ay aS
   split at ah
   ·rename_i c' r ae
    cases ah;simp only[Bool.and_eq_true]at aa;obtain⟨⟨aQ,ea⟩,rfl⟩:=aa;exact By av aA ay aQ (fun s an=>by cases an; exact⟨_,rfl,_,aS,ea⟩) (fun h=>by cases h) (fun s an=>by cases an) (fun _=>rfl) (fun s an=>by cases an) (fun _=>rfl) ae
   ·cases ah
  ·cases ah
 ·rename_i t u l aA
  split at ah
  ·rename_i g x g1 mu ay aS
   split at ah
   ·rename_i c' r ae
    cases ah;simp only[Bool.and_eq_true]at aa;obtain⟨⟨aQ,ea⟩,rfl⟩:=aa;exact By av aA ay aQ (fun s an=>by cases an) (fun _=>rfl) (fun s an=>by cases an; exact⟨_,rfl,_,aS,ea⟩) (fun h=>by cases h) (fun s an=>by cases an) (fun _=>rfl) ae
   ·cases ah
  ·cases ah
 ·rename_i t u l cg aA
  split at ah
  ·rename_i g x g1 mu g2 lf ay aS cz
   split at ah
   ·rename_i c' r ae
    cases ah;simp only[Bool.and_eq_true]at aa;obtain⟨⟨⟨aQ,ea⟩,dm⟩,rfl⟩:=aa;exact By av aA ay aQ (fun s an=>by cases an; exact⟨_,rfl,_,aS,ea⟩) (fun h=>by cases h) (fun s an=>by cases an; exact⟨_,rfl,_,cz,dm⟩) (fun h=>by cases h) (fun s an=>by cases an) (fun _=>rfl) ae
   ·cases ah
  ·cases ah
 ·rename_i t u l cg aA
  split at ah
  ·rename_i g x g1 mu g2 lf ay aS cz
   split at ah
   ·rename_i c' r ae
    cases ah;simp only[Bool.and_eq_true]at aa;obtain⟨⟨⟨aQ,ea⟩,dm⟩,rfl⟩:=aa;exact By av aA ay aQ (fun s an=>by cases an) (fun _=>rfl) (fun s an=>by cases an; exact⟨_,rfl,_,aS,ea⟩) (fun h=>by cases h) (fun s an=>by cases an; exact⟨_,rfl,_,cz,dm⟩) (fun h=>by cases h) ae
   ·cases ah
  ·cases ah
 ·rename_i t bW u aA
  split at ah
  ·rename_i g x ay
   split at ah
   ·rename_i c' r ae
    cases ah;simp only[Bool.and_eq_true]at aa;obtain⟨aQ,rfl⟩:=aa;exact U9 av aA ay aQ ae
   ·cases ah
  ·cases ah
 ·rename_i t ps aA
  subst aa;exact U6 av aA ah
 ·rename_i f cs aA
  split at ah
  ·rename_i ids wc
   cases ah;intro R W aJ n ks env B al H a b1 h;obtain⟨vs,J,U⟩:=FR h wc;exact⟨_,⟨vs,rfl,U⟩,fun w _=>TC (xs:=cs.toList) h.bZ (by rw[aA]) J w⟩
  ·cases ah
 ·rename_i f u aA
  split at ah
  ·rename_i id ay
   cases ah;intro R W aJ n ks env B al H a b1 h;obtain⟨v,J,b,ae,rfl⟩:=h.aD ay rfl;exact⟨_,⟨b,ae,rfl⟩,fun w _=>U3 h.bZ (by rw[aA]) J w⟩
  ·cases ah
 ·rename_i u aA
  intro R W aJ n ks env B al H a b1 h
  split at ah
  ·rename_i ay
   cases ah;obtain⟨v,J,U⟩:=h.aD ay aa;have ag:=h.bZ.aD J;obtain⟨b,he,rfl⟩:=U;exact⟨_,⟨b,he,rfl⟩,fun w _=>by simp[execOp,aA,ag]⟩
  ·rename_i ay
   cases ah;obtain⟨v,J,U⟩:=h.aD ay aa;have ag:=h.bZ.aD J;obtain⟨b,c,m,he,rfl⟩:=U;exact⟨_,⟨b,c,m,he,rfl⟩,fun w _=>by simp[execOp,aA,ag]⟩
  ·rename_i ay
   cases ah;obtain⟨v,J,U⟩:=h.aD ay aa;have ag:=h.bZ.aD J;obtain⟨b,p,rfl,iv⟩:=U;exact⟨_,⟨b,p,rfl,iv⟩,fun w _=>by simp[execOp,aA,ag]⟩
  ·rename_i ay
   cases ah;obtain⟨v,J,U⟩:=h.aD ay aa;have ag:=h.bZ.aD J;obtain⟨b,p,vs,rfl,iv⟩:=U;exact⟨_,⟨b,p,vs,rfl,iv⟩,fun w _=>by simp[execOp,aA,ag]⟩
  ·cases ah
 ·rename_i s k aA
  split at ah
  ·rename_i vs ay
   split at ah
   ·rename_i x aS
    cases ah;intro R W aJ n ks env B al H a b1 h;obtain⟨v,J,us,rfl,U⟩:=h.has _ _ ay;have key:∀ {xs:List bl} {us:List Value} {k:Nat} {x:bl},dn env B al xs us->nth xs k=some x->∃ u,us[k]?=some u/\dH env B al x u:=by
     intro xs
     induction xs with
     | nil=>intro us k x _ h; cases h
     | cons y ys br=>
      intro us k x an aV;obtain⟨v,r,rfl,ag,aq⟩:=an;cases k with
      | zero=>cases aV; exact⟨v,rfl,ag⟩
      | succ k=>obtain⟨u,aE,bb⟩:=br aq aV; exact⟨u,by rw[List.getElem?_cons_succ]; exact aE,bb⟩
    obtain⟨u,ag,aq⟩:=key U aS;exact⟨u,aq,fun w _=>L4 h.bZ aA (h6 J) ag w⟩
   ·cases ah
  ·cases ah
 ·rename_i u t aA
  split at ah
  ·rename_i g x ay
   split at ah
   ·rename_i c' r ae
    cases ah;simp only[Bool.and_eq_true]at aa;obtain⟨aQ,rfl⟩:=aa;exact U7 av aA ay aQ ae
   ·cases ah
  ·cases ah
 ·rename_i u t aA
  split at ah
  ·rename_i g x ay
   split at ah
   ·rename_i c' r ae
    cases ah;simp only[Bool.and_eq_true]at aa;obtain⟨aQ,rfl⟩:=aa;exact U8 av aA ay aQ ae
   ·cases ah
  ·cases ah
 ·rename_i u r fN aA
  split at ah
  ·rename_i g k x ay
   split at ah
   ·rename_i c' y hm
    cases ah;subst aa;intro R W aJ n ks env B al H a b1 h;obtain⟨aQ,z,rfl,bG⟩:=BA h hm;obtain⟨v,J,U⟩:=h.aD ay aQ;have ag:=h.bZ.aD J;rw[show v=_ from U]at ag;refine⟨_,rfl,fun w _=>?_⟩
    have:=bG w
    simp only[Bool.false_eq_true,if_false]at this
    simp[execOp,aA,resolve,invoke,builtin,Builtin.min_,ag,this]
   ·cases ah
  ·cases ah
 ·rename_i u r fN aA
  split at ah
  ·rename_i g k x ay
   split at ah
   ·rename_i c' y hm
    cases ah;subst aa;intro R W aJ n ks env B al H a b1 h;obtain⟨aQ,z,rfl,bG⟩:=BA h hm;obtain⟨v,J,U⟩:=h.aD ay aQ;have ag:=h.bZ.aD J;rw[show v=_ from U]at ag;refine⟨_,rfl,fun w _=>?_⟩
    have:=bG w
    simp only[if_true]at this
    simp[execOp,aA,resolve,invoke,builtin,Builtin.max_,ag,this]
   ·cases ah
  ·cases ah
 ·rename_i t u v aA
  split at ah
  ·rename_i cJ b z0 kq az
   split at ah
   ·rename_i g s g' k z ay aS
    simp only[Option.some.injEq,Prod.mk.injEq]at ah;obtain⟨rfl,rfl⟩:=ah;simp only[Bool.and_eq_true]at aa;obtain⟨⟨aQ,ea⟩,ae⟩:=aa;intro R W aJ n ks env B al H a b1 h;obtain⟨iz,J,U⟩:=h.aD ay aQ;rw[show iz=fc s from U]at J;obtain⟨vx,ag,aq⟩:=h.aD aS ea;rw[show vx=_ from aq]at ag;obtain⟨j,rfl,aH,ht⟩:=mr ae;have db:=(b9.get av az).bq.1;have q7:(ByteArray.mk s.toArray)[j]?=some (s.getD j 0):=by
     have aW:j < (ByteArray.mk s.toArray).size:=by simpa [ByteArray.size] using aH
     have aS:(ByteArray.mk s.toArray)[j]?=some ((ByteArray.mk s.toArray)[j]'aW):=by
      exact getElem?_pos (ByteArray.mk s.toArray) j aW
     rw[aS,List.getD_eq_getElem?_getD,List.getElem?_eq_getElem aH]
     rfl
    refine⟨_,rfl,fun w _=>?_⟩;have aN:(0:Int)<=(j:Int):=Int.natCast_nonneg j;have dy:(Instr.index t (fc s) (.int k (j:Int))).run X.P w=.ok (.int .u8 ((s.getD j 0).toNat:Int)) w:=by
     simp only[Instr.index,fc,asIntOf,Sem.run_bind,Sem.run_pure,Result.andThen_ok,run_underlying db,aN,if_true,Int.toNat_natCast,q7]
    rw[Int.toNat_natCast]
    simp[execOp,aA,h.bZ.aD J,h.bZ.aD ag,dy]
   ·cases ah
  ·cases ah
 ·cases ah
end
end
section
def we:Op->Bool
 | .store _ _ _=>false
 | .call ⟨.builtin .len,_,_⟩=>true
 | .call ⟨.builtin .cap,_,_⟩=>true
 | .call ⟨.builtin .min,_,_⟩=>true
 | .call ⟨.builtin .max,_,_⟩=>true
 | .call _=>false
 | _=>true
def BC:Op->Bool
 | .store _ _ _=>false
 | .call ⟨.builtin .append,_,_⟩=>true
 | o=>we o
def p9(d:Nat):bz->Bool
 | []=>true
 | (k,b) :: r=>(match Nat.beq k d,b with
  | true,.cells _ _=>false
  | _,_=>true)&&p9 d r
def qa(o:Oper) (H:bz):Bool:=match o.dst with
 | some d=>p9 d H
 | none=>true
def tP(d:Nat):bz->Bool
 | []=>true
 | (k,_) :: r=>match Nat.beq k d with
  | true=>false
  | false=>tP d r
def so(o:Oper) (H:bz):Bool:=match o.dst with
 | some d=>tP d H
 | none=>true
theorem MG{d:Nat}:∀ {l:bz} {b:cv},p9 d l=true->(d,b)∈l->∀ t cs,b≠.cells t cs
 | (k,b') :: r,b,h,ae,t,cs=>by
  simp only[p9,Bool.and_eq_true]at h
  rcases List.mem_cons.1 ae with e | ae
  ·injection e with ay aS
   subst ay; subst aS;intro e;rw[e,Nat.beq_refl]at h
   simp at h
  ·exact MG h.2 ae t cs
structure BD(o:Oper) (st:aO) (H:List bf) (w:World) (H':List bf) (w':World):Prop where
 new:we o.op=true->Below w.heap.size w w'
 dQ:BC o.op=true->qa o st.H=true->∀ c∈H,iw c=true->c∈H'
 all:we o.op=true->so o st.H=true->∀ c∈H,c∈H'
def tQ(X:bs) (n:Nat) (st:aO) (o:Oper) (st':aO):Prop:=
 ∀ {R:Nat->Prop} {W:World} {aJ:e0} {ks:List Nat} {env:Nat->Loc} {B:Nat->Prop} {al:World} {H:List bf} {a:Act} {w:World} (ops:Array Oper) (KK:Act->World->Prop),bH X R W aJ n ks env B al H st a w ->
  (∀ aP w' env' H',BD o st H w H' w'->bH X R W aJ n ks env' B al H' st' aP w'->KK aP w')->eS X.P ops o KK a w
def MH(k:IntKind):List bm->Option (Bool×Int×List bm)
 | .val (.int k' x) :: r=>match decide (k=k')with
  | true=>some (true,x,r)
  | false=>none
 | _=>none
def MI:List bm->Option (Bool×Bool×List bm)
 | .val (.bool x) :: r=>some (true,x,r)
 | _=>none
def MJ:List bm->Option (Bool×List UInt8×List bm)
 | .str x :: r=>some (true,x,r)
 | _=>none
def MK(g:aU):List bm->Option (Bool×List g.D×List bm)
 | .val (.slice none 0 0) :: r=>some (true,[],r)
 | .bk g' l _ :: r=>match decEq g' g with
  | isTrue h=>some (true,h ▸ l,r)
  | isFalse _=>none
 | _=>none
def ML(g:aU):List bm->Option (Bool×List g.D×List bm)
 | .val (.slice none 0 0) :: r=>some (true,[],r)
 | .bk g' l (some c) :: r=>match decEq g' g with
  | isTrue h=>some (decide (c=l.length),h ▸ l,r)
  | isFalse _=>none
 | _=>none
def MM:List bm->Option (Bool×Option Nat×List bm)
 | .fn f [] :: r=>some (true,some f,r)
 | .val .nilFunc :: r=>some (true,none,r)
 | _=>none
def dec:(g:aU)->List bm->Option (Bool×g.D×List bm)
 | .int k,r=>MH k r
 | .bool,r=>MI r
 | .str,r=>MJ r
 | .ai g,r=>MK g r
 | .gS g,r=>ML g r
 | .unit,r=>some (true,(),r)
 | .fn,r=>MM r
 | .pair g h,r=>match dec g r with
  | some (fw,x,aF)=>match dec h aF with
   | some (cL,y,a7)=>some (fw&&cL,(x,y),a7)
   | none=>none
  | none=>none
section
variable {env:Nat->Loc} {B:Nat->Prop} {w:World}
theorem qb:∀ {g:aU} {cs:List bm} {c:Bool} {x:g.D} {r:List bm} {vs:List Value},cH env B w cs vs->dec g cs=some (c,x,r)->c=true->∃ v1 v2,vs=v1++v2/\bF B w g x v1/\cH env B w r v2
 | .int k,cs,c,x,r,vs,h,ax,aa=>by
  simp only[dec,MH]at ax
  split at ax
  ·split at ax
   ·rename_i ab
    have hS:=of_decide_eq_true ab;subst hS;cases ax;obtain⟨v,rr,rfl,J,U⟩:=h;exact⟨[v],rr,rfl,by rw[show v=_ from J]; exact rfl,U⟩
   ·cases ax
  ·cases ax
 | .bool,cs,c,x,r,vs,h,ax,aa=>by
  simp only[dec,MI]at ax
  split at ax
  ·cases ax
   obtain⟨v,rr,rfl,J,U⟩:=h;exact⟨[v],rr,rfl,by rw[show v=_ from J]; exact rfl,U⟩
  ·cases ax
 | .str,cs,c,x,r,vs,h,ax,aa=>by
  simp only[dec,MJ]at ax
  split at ax
  ·cases ax
   obtain⟨v,rr,rfl,J,U⟩:=h;exact⟨[v],rr,rfl,by rw[show v=_ from J]; exact rfl,U⟩
  ·cases ax
 | .ai g,cs,c,x,r,vs,h,ax,aa=>by
  simp only[dec,MK]at ax
  split at ax
  ·cases ax
   obtain⟨v,rr,rfl,J,U⟩:=h;exact⟨[v],rr,rfl,⟨none,0,[],by rw[show v=_ from J]; rfl,Nat.le_refl _,Nat.zero_le _,rfl,Reads.nil _ _ _,(fun _ _ h=>absurd h (Nat.lt_irrefl 0))⟩,U⟩
  ·split at ax
   ·rename_i aQ _
    subst aQ;cases ax;obtain⟨v,rr,rfl,⟨A,c,xs,rfl,ag,aq,aE,bb,bX⟩,U⟩:=h;exact⟨[_],rr,rfl,⟨A,c,xs,rfl,ag,aq,bb,bX⟩,U⟩
   ·cases ax
  ·cases ax
 | .gS g,cs,c,x,r,vs,h,ax,aa=>by
  simp only[dec,ML]at ax
  split at ax
  ·cases ax
   obtain⟨v,rr,rfl,J,U⟩:=h;exact⟨[v],rr,rfl,⟨none,[],by rw[show v=_ from J]; rfl,Nat.zero_le _,rfl,Reads.nil _ _ _,(fun _ _ h=>absurd h (Nat.lt_irrefl 0))⟩,U⟩
  ·split at ax
   ·rename_i aQ _
    subst aQ;simp only[Option.some.injEq,Prod.mk.injEq]at ax;obtain⟨rfl,rfl,rfl⟩:=ax;have dE:=of_decide_eq_true aa;obtain⟨v,rr,rfl,⟨A,c,xs,rfl,ag,aq,aE,bb,bX⟩,U⟩:=h
    have:=aE _ rfl
    subst this;rw[dE];exact⟨[_],rr,rfl,⟨A,xs,rfl,by rw[dE]at aq; exact aq,bb,bX⟩,U⟩
   ·cases ax
  ·cases ax
 | .fn,cs,c,x,r,vs,h,ax,aa=>by
  simp only[dec,MM]at ax
  split at ax
  ·cases ax
   obtain⟨v,rr,rfl,⟨us,J,ag⟩,U⟩:=h;rw[show us=[] from ag]at J;exact⟨[v],rr,rfl,by rw[J]; exact rfl,U⟩
  ·cases ax
   obtain⟨v,rr,rfl,J,U⟩:=h;exact⟨[v],rr,rfl,by rw[show v=_ from J]; exact rfl,U⟩
  ·cases ax
 | .unit,cs,c,x,r,vs,h,ax,aa=>by
  simp only[dec]at ax;cases ax;exact⟨[],vs,rfl,rfl,h⟩
 | .pair g aK,cs,c,x,r,vs,h,ax,aa=>by
  simp only[dec]at ax
  split at ax
  ·rename_i fw oh aF J
   split at ax
   ·rename_i cL jI a7 U
    cases ax;simp only[Bool.and_eq_true]at aa;obtain⟨v1,v2,rfl,ag,aq⟩:=qb h J aa.1;obtain⟨v3,v4,rfl,aE,bb⟩:=qb aq U aa.2;exact⟨v1++v3,v4,by rw[List.append_assoc],⟨v1,v3,rfl,ag,aE⟩,bb⟩
   ·cases ax
  ·cases ax
end
section
variable {X:bs} {R:Nat->Prop} {W:World} {aJ:e0} {n:Nat} {ks:List Nat} {env:Nat->Loc} {B:Nat->Prop} {al:World} {H:List bf} {st:aO} {a aP:Act} {w w':World} {o:Oper} {d:Nat}
theorem bH.sym(h:bH X R W aJ n ks env B al H st a w):Sym n (j2 ks aJ) (gm a) (fun k=>R k\/B k) al (H++ks.map dk) a w:=⟨h.bZ,h.aM⟩
theorem cT.same{D:List Deferred} (aI:cT n D (gm a) aP) {s:Nat} {u:Value} (hu:a.tmps[s]?=some u):aP.tmps[s]?=some u:=aI.has s u (h6 hu)
theorem cT.other{D:List Deferred} {v:Value} (aI:cT n D ((d,v) :: gm a) aP) {s:Nat} (an:s≠d) {u:Value} (hu:a.tmps[s]?=some u):aP.tmps[s]?=some u:=
 aI.has s u (by rw[List.lookup_cons,beq_false_of_ne an]; exact h6 hu)
theorem cT.this{D:List Deferred} {v:Value} (aI:cT n D ((d,v) :: gm a) aP):aP.tmps[d]?=some v:=aI.has d v (by simp)
theorem bH.set(h:bH X R W aJ n ks env B al H st a w) {sv:b3} {v:Value} (aC:eH env B al sv v) (aI:cT n (j2 ks aJ) ((d,v) :: gm a) aP):bH X R W aJ n ks env B al H ⟨(d,sv) :: st.L,st.H⟩ aP w:=
 ⟨aI.size,aI.defs,fun s u an=>by
  rw[cI]at an
  split at an
  ·rename_i e; subst e; cases an; exact⟨v,aI.this,aC⟩
  ·rename_i e; obtain⟨fL,J,U⟩:=h.has s u an; exact⟨fL,aI.other e J,U⟩,h.heap,h.aM,h.sub,h.new,h.dL,h.base,h.et⟩
def kr(env:Nat->Loc) (id:Nat) (l:Loc):Nat->Loc:=fun j=>if j=id then l else env j
theorem fp{id:Nat} {l:Loc}:kr env id l id=l:=if_pos rfl
theorem jJ{id:Nat} {l:Loc}:∀ j,j≠id->kr env id l j=env j:=fun _ h=>if_neg h
theorem tR{id:Nat} {l:Loc} {p:Nat->Loc->Prop} (h:∀ id l,p id l->n<=id/\env id=l/\((∃ b,l=.blk b)\/h5<=id)) (ax:∀ l,¬ p id l):∀ j q,p j q->n<=j/\kr env id l j=q/\((∃ b,q=.blk b)\/h5<=j):=fun j q ao=>
 ⟨(h j q ao).1,by rw[jJ j (fun e=>ax q (by rw[<- e]; exact ao))]; exact(h j q ao).2.1,(h j q ao).2.2⟩
theorem bA.MN{d:Nat} {l:Loc}:∀ {L:bz} {H:List bf},tP d L=true->bA env B al L H->bA (kr env d l) B al (ef d .dead L) H
 | [],_,_,h=>h
 | (k,b) :: L,_,aV,⟨c,H',e,J,U⟩=>by
  unfold tP at aV
  split at aV
  ·cases aV
  ·rename_i ab
   unfold ef;rw[ab];exact⟨c,H',e,J.sub (z:=.dead) (jJ (env:=env)) (fun _ _=>trivial) (Nat.ne_of_beq_eq_false ab),bA.MN aV U⟩
theorem bH.oi(h:bH X R W aJ n ks env B al H st a w) (ax:Nat.blt d n=true) {l:Loc} {c:bf} {blk:cv} {sv:b3} {v:Value} (an:bE (fun k=>R k\/B k) al (c :: (H++ks.map dk)) w') (ae:er (kr env d l) B al d blk c) (aC:eH (kr env d l) B al sv v)
  (aI:cT n (j2 ks aJ) ((d,v) :: gm a) aP):∃ H',((p9 d st.H=true->∀ c∈H,iw c=true->c∈H')/\(tP d st.H=true->∀ c∈H,c∈H'))/\bH X R W aJ n ks (kr env d l) B al H' ⟨(d,sv) :: fK d .dead st.L,(d,blk) :: ef d .dead st.H⟩ aP w':=by
 have FW:∃ H2,H2.Sublist H/\bA (kr env d l) B al (ef d .dead st.H) H2/\(p9 d st.H=true->∀ c∈H,iw c=true->c∈H2)/\(tP d st.H=true->∀ c∈H,c∈H2):=by
  cases ab:tP d st.H with
  | true=>exact⟨H,List.Sublist.refl _,bA.MN ab h.heap,fun _ c aa _=>aa,fun _ c aa=>aa⟩
  | false=>
  cases aV:p9 d st.H with
  | true=>
   obtain⟨H2,J,U,ag⟩:=h.heap.Fv (z:=.dead) (jJ (env:=env) (id:=d) (l:=l)) (fun _ _=>trivial) (fun b c ae sq=>sq.nF (MG aV ae));exact⟨H2,J,U,fun _=>ag,fun h=>by cases h⟩
  | false=>
   obtain⟨H2,J,U⟩:=h.heap.del (z:=.dead) (jJ (env:=env) (id:=d) (l:=l)) (fun _ _=>trivial);exact⟨H2,J,U,(fun h=>by cases h),fun h=>by cases h⟩
 obtain⟨H2,J,U,ag,BE⟩:=FW;refine⟨c :: H2,⟨fun aV c aa jG=>List.mem_cons_of_mem _ (ag aV c aa jG),fun aV c aa=>List.mem_cons_of_mem _ (BE aV c aa)⟩,aI.size,aI.defs,fun s u an=>?_,⟨c,H2,rfl,ae,U⟩,an.e6 ((J.append_right _).cons_cons _),h.sub,h.new,tR h.dL (fun q ao=>by have J:=(h.dL _ _ ao).1; have U:=dY ax; omega),h.base,fun i x ak=>h.et i x ak⟩;rw[cI]at an
 split at an
 ·rename_i e; subst e; cases an; exact⟨v,aI.this,aC⟩
 ·rename_i e
  obtain⟨jK,jL,rfl⟩:=pc an;obtain⟨fL,ag,aq⟩:=h.has s jK jL;exact⟨fL,aI.other e ag,eH.sub (z:=.dead) (jJ (env:=env)) (fun _ _=>trivial) aq⟩
def sr(X:bs) (n:Nat) (st:aO) (t:TypeId) (d:Nat) (cs:List bm):Option (Bool×aO):=
 match Nat.blt d n with
 | true=>some (true,⟨(d,.c (.ptr d 0)) :: fK d .dead st.L,(d,.cells t (q1 d .dead cs)) :: ef d .dead st.H⟩)
 | false=>none
theorem Vb{x:Operand} {t:TypeId} {g:Bool} {bx:bl} {st':aO} {c:Bool} (aA:o.op=.box t x) (dS:o.guard=none) (eK:o.dst=some d) (ak:bp X st.L x=some (g,bx)) (aQ:g=true) (ah:og bx.cells=true)
  (ae:sr X n st t d bx.cells=some (c,st')):tQ X n st o st':=by
 intro R W aJ ks env B al H a w ops KK h bQ;unfold sr at ae
 split at ae
 ·rename_i ax
  cases ae;obtain⟨v,J,U⟩:=h.aD ak aQ;have h3:cH env B al bx.cells v.cells.toList:=U.cells fun c e=>by
   subst e;simp only[bl.cells,og,Bool.and_true]at ah;exact dB.one ah U
  have aC:=h.bZ.aD J;refine hP h.bZ dS eK (dY ax) (v:=.pointer (some ⟨w.heap.size,0,none⟩)) (w':=w.alloc (.cells v.cells.toList.toArray t)) (by simp[execOp,aA,aC,Instr.box,newVar,newRow,newObj,Sem.run]) fun aP aI=>?_
  obtain⟨H',lg,ag⟩:=h.oi (d:=d) ax (l:=.blk w.heap.size) (blk:=.cells t (q1 d .dead bx.cells)) (sv:=.c (.ptr d 0)) (h.aM.Ff _ t) ⟨_,_,fp,rfl,cH.sub (z:=.dead) jJ (fun _ _=>trivial) h3⟩ ⟨_,fp,rfl⟩ aI;exact bQ _ _ _ _ ⟨fun _=>(Below.refl _ _).alloc (Nat.le_refl _) _,fun _ aV=>lg.1 (by simpa [qa,eK] using aV),fun _ aV=>lg.2 (by simpa [so,eK] using aV)⟩ ag
 ·cases ae
theorem Vc(av:X.tt.ok X.P) {t:TypeId} {bw:bh} {st':aO} {c:Bool} (aA:o.op=.alloc t) (dS:o.guard=none) (eK:o.dst=some d) (dh:X.tt.find t=some bw)
  (ae:sr X n st t d (sn bw.bq.zero.cells.toList)=some (c,st')):tQ X n st o st':=by
 intro R W aJ ks env B al H a w ops KK h bQ;unfold sr at ae
 split at ae
 ·rename_i ax
  cases ae;have bG:=bD.qU (b9.get av dh).bq;refine hP h.bZ dS eK (dY ax) (v:=.pointer (some ⟨w.heap.size,0,none⟩)) (w':=w.alloc (.cells bw.bq.zero.cells.toList.toArray t)) (by simp[execOp,aA,Instr.alloc,bG,newVar,newRow,newObj,Sem.run]) fun aP aI=>?_
  obtain⟨H',lg,ag⟩:=h.oi (d:=d) ax (l:=.blk w.heap.size) (blk:=.cells t (q1 d .dead (sn bw.bq.zero.cells.toList))) (sv:=.c (.ptr d 0)) (h.aM.Ff _ t) ⟨_,_,fp,rfl,cH.sub (z:=.dead) (env:=env) jJ (fun _ _=>trivial) (yi _)⟩ ⟨_,fp,rfl⟩ aI;exact bQ _ _ _ _ ⟨fun _=>(Below.refl _ _).alloc (Nat.le_refl _) _,fun _ aV=>lg.1 (by simpa [qa,eK] using aV),fun _ aV=>lg.2 (by simpa [so,eK] using aV)⟩ ag
 ·cases ae
theorem bH.pe(h:bH X R W aJ n ks env B al H st a w) {id:Nat} {b b':cv} (b5:bd st.H id=some b):∃ c K,er env B al id b c/\iS (H++ks.map dk) c K/\∀ c' aP w',er env B al id b' c'->bE (fun k=>R k\/B k) al (K c') w'->cT n (j2 ks aJ) (gm a) aP->∃ H',bH X R W aJ n ks env B al H' ⟨st.L,eM id b' st.H⟩ aP w':=by
 obtain⟨c,K,J,U,ag⟩:=h.heap.put b5;refine⟨c,_,J,U.more,fun c' aP w' ae an aI=>⟨K c',aI.size,aI.defs,fun s u hu=>?_,ag b' c' ae,an,h.sub,h.new,h.dL,h.base,h.et⟩⟩;obtain⟨fL,aq,aE⟩:=h.has s u hu;exact⟨fL,aI.same aq,aE⟩
def yp(X:bs) (st:aO) (t:TypeId) (x y:bl):Option (Bool×aO):=
 match X.tt.find t,og y.cells with
 | some bw,true=>match Nat.beq y.cells.length bw.bq.size,x with
  | true,.c (.ptr id o)=>match bd st.H id with
   | some (.cells bW cs)=>match oe cs o y.cells with
    | some r=>some (true,⟨st.L,eM id (.cells bW r) st.H⟩)
    | none=>none
   | _=>none
  | true,.c (.eG id cJ i o)=>match bd st.H id with
   | some (.row bW g l cap)=>match Nat.beq cJ g.size,od g (l.getD i g.zero) 0 g.size with
    | true,some cs=>match oe cs o y.cells with
     | some r=>match dec g r with
      | some (c,z,_)=>some (decide (i < l.length)&&c,⟨st.L,eM id (.row bW g (l.set i z) cap) st.H⟩)
      | none=>none
     | none=>none
    | _,_=>none
   | _=>none
  | _,_=>none
 | _,_=>none
theorem Vd{t e:TypeId} {i:bD} {x y:Operand} {b p:Nat} {cs o3:List Value} {v:Value} {D:List Deferred} {L:List (Nat×Value)} {K:bf->List bf} {ops:Array Oper} {KK:Act->World->Prop} (av:Sym n D L B al H a w) (aA:o.op=.store t x y) (bg:o.guard=none/\o.dst=none)
  (hi:bD.ok X.P t i) (ak:Go.Proofs.YtcheedjfedcbpaaGreatDoor.aD L x=some (.pointer (some ⟨b,p,none⟩))) (aL:Go.Proofs.YtcheedjfedcbpaaGreatDoor.aD L y=some v) (dv:v.cells.size=i.size) (U:∀ u∈v.cells.toList,u.oneCell'=true) (az:iS H (.gQ b cs e) K) (an:p5 cs p v.cells.toList o3)
  (h:∀ aP w',Sym n D L B al (K (.gQ b o3 e)) aP w'->KK aP w'):eS X.P ops o KK a w:=by
 obtain⟨ag,aq⟩:=an.eq;have ah:v.cells.toList.length=v.cells.size:=by simp
 have dy:=TY (w:=w) (v:=v) (p:=p) hi (Fk av.aM az) dv U (by omega);refine LZ av bg (w':=_) (by simp[execOp,aA,av.aD ak,av.aD aL,Instr.storeAt,Instr.sureAddr,dy]; rfl) (H':=K (.gQ b o3 e)) ?_ h;refine av.aM.TW az ⟨rfl,rfl,rfl,by simp⟩ ?_ fun k ab=>setRow_other w b k _ ab
 rw[setRow_heap w b cs.toArray _ e _ (Fk av.aM az),ag,ah];simp only[List.append_assoc]
theorem BF{t e:TypeId} {i:bD} {x y:Operand} {g j c m size:Nat} {xs:List Value} {v:Value} {D:List Deferred} {L:List (Nat×Value)} {K:bf->List bf} {ops:Array Oper} {KK:Act->World->Prop} (av:Sym n D L B al H a w) (aA:o.op=.store t x y) (bg:o.guard=none/\o.dst=none)
  (hi:bD.ok X.P t i) (ak:Go.Proofs.YtcheedjfedcbpaaGreatDoor.aD L x=some (.pointer (some ⟨g,j,none⟩))) (aL:Go.Proofs.YtcheedjfedcbpaaGreatDoor.aD L y=some v) (dv:v.cells.size=i.size) (U:∀ u∈v.cells.toList,u.oneCell'=true) (az:iS H (.row (some ⟨g,0,none⟩) c e size m xs) K) (aH:j+v.cells.toList.length<=m * size)
  (h:∀ aP w',Sym n D L B al (K (.row (some ⟨g,0,none⟩) c e size m (xs.take j++v.cells.toList++xs.drop (j+v.cells.toList.length)))) aP w'->KK aP w'):eS X.P ops o KK a w:=by
 have fx:eQ w B e size (some ⟨g,0,none⟩) c m xs:=av.aM.ok _ az.mem;have j0:=fx.1
 generalize yq:v.cells.toList=vs at U aH h
 have gJ:vs.length=i.size:=by rw[<- yq]; simpa using dv
 rcases fx.2 with⟨aN,_⟩ | ⟨g',cur,dz,aj,p1,aQ,kK,o6,iF,h3,p2⟩
 ·cases aN
 ·have:g=g':=by injection aj with aj; injection aj
  subst this;have mv:m * size<=cur.size:=by rw[h3]; exact Nat.mul_le_mul_right _ o6
  have Ve:j+vs.length<=cur.size:=Nat.le_trans aH mv;have cU:=run_storeCells_cells (P:=X.P) g j vs 0 w (fun q ar=>by
    simp only[World.cell?,aQ]
    simp; omega) (fun q ar=>by
    simp only[World.frozen?,aQ]
    rcases kK with h | h
    ·simp; omega
    ·simp; omega) U
  simp only[Nat.add_zero]at cU;rw[ya g e dz vs j w cur aQ Ve]at cU;have dy:(storeVar t ⟨g,j,none⟩ v).run X.P w=.ok () (w.setRow g (cur.toList.take j++vs++cur.toList.drop (j+vs.length)).toArray):=by
   unfold storeVar
   simp[bD.run_sizeOf hi,dv]
   rw[yq];rw[List.append_assoc]at cU;exact cU
  refine LZ av bg (w':=w.setRow g (cur.toList.take j++vs++cur.toList.drop (j+vs.length)).toArray) (by simp only[execOp,aA,av.aD ak,av.aD aL,Instr.storeAt,Instr.sureAddr,Sem.run_bind,Sem.run_pure,Result.andThen_ok,dy]) ?_ h;refine av.aM.tH az ⟨rfl,rfl,rfl,by simp,fun q ar=>setRow_other w g q _ (fun cj=>by subst cj; exact p1 ar)⟩ (c':=.row (some ⟨g,0,none⟩) c e size m (xs.take j++vs++xs.drop (j+vs.length))) ?_ (fun q ar=>.inl ar) fun q _ ar=>setRow_other w g q _ (fun cj=>ar (by subst cj; rfl))
  have hlen:(cur.toList.take j++vs++cur.toList.drop (j+vs.length)).length=cur.size:=by simp; omega
  refine⟨by simp; omega,.inr ⟨g,_,dz,rfl,p1,setRow_heap w g cur _ e _ aQ,?_,o6,iF,?_,?_⟩⟩
  ·rcases kK with h | h
   ·exact .inl h
   ·exact .inr (by rw[List.size_toArray,hlen]; exact h)
  ·rw[List.size_toArray,hlen]; exact h3
  ·show(cur.toList.take j++vs++cur.toList.drop (j+vs.length)).take (m * size)=_
   rw[<- p2,List.take_take,Nat.min_eq_left (by omega),List.take_append,List.take_of_length_le (by simp; omega),List.drop_take]
   congr 2
   simp; omega
theorem Vf(av:X.tt.ok X.P) {x y:Operand} {t:TypeId} {g g' c:Bool} {e7 eb:bl} {st':aO} (aA:o.op=.store t x y) (dS:o.guard=none) (eK:o.dst=none) (ak:bp X st.L x=some (g,e7)) (aQ:g=true) (aL:bp X st.L y=some (g',eb)) (ea:g'=true)
  (ae:yp X st t e7 eb=some (c,st')) (aa:c=true):tQ X n st o st':=by
 intro R W aJ ks env B al H a w ops KK h bQ;obtain⟨vx,gZ,kt⟩:=h.aD ak aQ;obtain⟨vy,fF,j3⟩:=h.aD aL ea;unfold yp at ae
 split at ae
 ·rename_i bw dh q6
  have hi:=(b9.get av dh).bq;have h3:cH env B al eb.cells vy.cells.toList:=j3.cells fun c e=>by
   subst e;simp only[bl.cells,og,Bool.and_true]at q6;exact dB.one q6 j3
  have iT:=h3.iX q6;have hlen:=h3.length
  split at ae
  ·rename_i id p dv
   split at ae
   ·rename_i bW cs b5
    split at ae
    ·rename_i r ao
     cases ae;obtain⟨b,he,rfl⟩:=kt;obtain⟨ee,K,⟨b',vs,cV,rfl,Vg⟩,az,ha⟩:=h.pe (b':=.cells bW r) b5;rw[he]at cV;cases cV;obtain⟨rs,J,U⟩:=yo Vg h3 ao;refine Vd h.sym aA ⟨dS,eK⟩ hi gZ fF (by rw[<- Nat.eq_of_beq_eq_true dv,<- hlen]; simp) iT az J fun aP w' cw=>?_
     obtain⟨H',ag⟩:=ha _ aP w' ⟨b,rs,he,rfl,U⟩ cw.aM cw.st;exact bQ _ _ _ _ ⟨fun h=>(by rw[aA]at h; cases h),fun h=>(by rw[aA]at h; cases h),fun h=>(by rw[aA]at h; cases h)⟩ ag
    ·cases ae
   ·cases ae
  ·rename_i id cJ i p dv
   split at ae
   ·rename_i bW g l cap b5
    split at ae
    ·rename_i cs Vh hcells
     split at ae
     ·rename_i r ao
      split at ae
      ·rename_i c' z rr ax
       cases ae;simp only[Bool.and_eq_true,decide_eq_true_eq]at aa;obtain⟨aW,dE⟩:=aa;obtain⟨b,cc,m,he,rfl⟩:=kt;have Vi:=Nat.eq_of_beq_eq_true Vh;subst Vi;obtain⟨ee,K,⟨A,k,xs,cV,rfl,di,fy⟩,az,ha⟩:=h.pe (b':=.row bW g (l.set i z) cap) b5;rw[he]at cV;cases cV;have q8:l[i]?=some (l.getD i g.zero):=by rw[List.getD_eq_getElem?_getD,List.getElem?_eq_getElem aW]; rfl
       have Vj:=Flat.get (fun _ _=>bF.length) di q8;obtain⟨us,⟨aj1,Vk⟩,Vl⟩:=bF.cells (env:=env) Vj hcells;have aj2:=bF.mX di;have hmul:(i+1) * g.size<=l.length * g.size:=Nat.mul_le_mul_right _ aW;rw[Nat.add_mul,Nat.one_mul]at hmul;have Vm:us=(xs.drop (i * g.size)).take g.size:=by
        apply List.ext_getElem?
        intro j
        by_cases aH:j < us.length
        ·have:=Vk j us[j] (List.getElem?_eq_getElem aH)
         rw[Nat.zero_add]at this;rw[this,List.getElem?_eq_getElem aH]
        ·rw[List.getElem?_eq_none (by omega),List.getElem?_eq_none (by simp; omega)]
       obtain⟨rs,J,U⟩:=yo Vl h3 ao;obtain⟨v1,v2,wg,ag,aq⟩:=qb U ax dE;obtain⟨aE,bb⟩:=J.eq;have oj:=bF.length ag;have q9:rs.length=g.size:=by rw[aE]; simp only[List.length_append,List.length_take,List.length_drop]; omega
       have lh:v2=[]:=by
        have:=congrArg List.length wg
        rw[List.length_append]at this;exact List.eq_nil_of_length_eq_zero (by omega)
       rw[lh,List.append_nil]at wg;subst wg;have FX:=Flat.set (fun _ _=>bF.length) di aW ag;refine BF h.sym aA ⟨dS,eK⟩ hi gZ fF (by rw[<- Nat.eq_of_beq_eq_true dv,<- hlen]; simp) iT az (by omega) fun aP w' cw=>?_
       have MO:(l.set i z).length=l.length:=by simp
       obtain⟨H',bX⟩:=ha _ aP w' ⟨some ⟨b,0,none⟩,cc,_,by rw[MO]; exact he,by rw[MO],FX,fy⟩ (by
        have e:xs.take (i * g.size+p)++vy.cells.toList++xs.drop (i * g.size+p+vy.cells.toList.length)=xs.take (i * g.size)++rs++xs.drop (i * g.size+g.size):=by
         have ay:xs.drop (i * g.size+g.size)=(xs.drop (i * g.size+(p+vy.cells.toList.length))).drop (g.size - (p+vy.cells.toList.length)):=by rw[List.drop_drop]; congr 1; omega
         have aS:xs.drop (i * g.size+p+vy.cells.toList.length)=xs.drop (i * g.size+(p+vy.cells.toList.length)):=by rw[Nat.add_assoc]
         rw[aE,Vm,List.take_take,Nat.min_eq_left (by omega),List.drop_take,List.drop_drop,List.take_add,ay,aS];simp only[List.append_assoc];rw[List.take_append_drop]
        rw[e]at cw;exact cw.aM) cw.st
       exact bQ _ _ _ _ ⟨fun h=>(by rw[aA]at h; cases h),fun h=>(by rw[aA]at h; cases h),fun h=>(by rw[aA]at h; cases h)⟩ bX
      ·cases ae
     ·cases ae
    ·cases ae
   ·cases ae
  ·cases ae
 ·cases ae
end
end
section
section
variable {env env':Nat->Loc} {B:Nat->Prop} {w:World}
theorem bF.iX:∀ {g:aU} {x:g.D} {vs:List Value},bF B w g x vs->∀ u∈vs,u.oneCell'=true
 | .int _,_,_,h,u,hu=>by rw[show _=[_] from h]at hu; simp at hu; subst hu; rfl
 | .bool,_,_,h,u,hu=>by rw[show _=[_] from h]at hu; simp at hu; subst hu; rfl
 | .str,_,_,h,u,hu=>by rw[show _=[_] from h]at hu; simp at hu; subst hu; rfl
 | .ai _,_,_,⟨_,_,_,h,_⟩,u,hu=>by rw[h]at hu; simp at hu; subst hu; rfl
 | .gS _,_,_,⟨_,_,h,_⟩,u,hu=>by rw[h]at hu; simp at hu; subst hu; rfl
 | .unit,_,_,h,u,hu=>by rw[show _=[] from h]at hu; cases hu
 | .fn,x,_,h,u,hu=>by rw[show _=[_] from h]at hu; simp at hu; subst hu; cases x<;>rfl
 | .pair _ _,_,_,⟨v1,v2,e,J,U⟩,u,hu=>by
  rw[e]at hu
  rcases List.mem_append.1 hu with hu | hu
  ·exact bF.iX J u hu
  ·exact bF.iX U u hu
theorem Flat.iX{α:Type} {R:α->List Value->Prop} (dT:∀ x vs,R x vs->∀ u∈vs,u.oneCell'=true):∀ {l:List α} {vs:List Value},Flat R l vs->∀ u∈vs,u.oneCell'=true
 | [],_,h,u,hu=>by rw[show _=[] from h]at hu; cases hu
 | _ :: _,_,⟨v1,v2,e,J,U⟩,u,hu=>by
  rw[e]at hu
  rcases List.mem_append.1 hu with hu | hu
  ·exact dT _ _ J u hu
  ·exact Flat.iX dT U u hu
theorem bF.ek:∀ g:aU,bF B w g g.zero g.ek
 | .int _=>rfl
 | .bool=>rfl
 | .str=>rfl
 | .ai _=>⟨none,0,[],rfl,Nat.le_refl _,Nat.zero_le _,rfl,Reads.nil _ _ _,fun _ _ h=>absurd h (Nat.lt_irrefl 0)⟩
 | .gS _=>⟨none,[],rfl,Nat.zero_le _,rfl,Reads.nil _ _ _,fun _ _ h=>absurd h (Nat.lt_irrefl 0)⟩
 | .unit=>rfl
 | .fn=>rfl
 | .pair g h=>⟨_,_,rfl,bF.ek g,bF.ek h⟩
theorem Flat.ek(g:aU):∀ k:Nat,Flat (bF B w g) (List.replicate k g.zero) (ek g.ek k)
 | 0=>rfl
 | k+1=>⟨g.ek,_,rfl,bF.ek g,Flat.ek g k⟩
theorem bA.take{id:Nat}:∀ {l:bz} {H:List bf} {b:cv},bA env B w l H->bd l id=some b ->
  ∃ c Y Z,er env B w id b c/\H=Y++c :: Z/\∀ (env':Nat->Loc) (z:bm),(∀ j,j≠id->env' j=env j)->(∀ v,dB env B w (.ai id) v->dB env' B w z v)->∃ H2,H2.Sublist (Y++Z)/\bA env' B w (ef id z l) H2/\((∀ b,env id≠.blk b)->∀ c∈Y++Z,iw c=true->c∈H2)
 | [],_,_,_,h=>by cases h
 | (k,b') :: l,H,b,⟨c,H',e,J,U⟩,h=>by
  rw[cI]at h;subst e
  split at h
  ·rename_i e
   subst e;cases h;refine⟨c,[],H',J,rfl,fun env' z he bG=>?_⟩;have FW:∃ H2,H2.Sublist H'/\bA env' B w (ef id z l) H2/\((∀ b,env id≠.blk b)->∀ c∈H',iw c=true->c∈H2):=by
    by_cases ae:∀ b,env id≠.blk b
    ·obtain⟨H2,ag,aq,aE⟩:=bA.Fv he bG U (fun b c _ sq=>sq.nF fun t cs e=>by
      subst e;obtain⟨b',_,e,_⟩:=sq;exact ae _ e)
     exact⟨H2,ag,aq,fun _=>aE⟩
    ·obtain⟨H2,ag,aq⟩:=bA.del he bG U
     exact⟨H2,ag,aq,fun h=>absurd h ae⟩
   obtain⟨H2,ag,aq,aE⟩:=FW;refine⟨H2,ag,?_,aE⟩;unfold ef;rw[Nat.beq_refl];exact aq
  ·rename_i e
   obtain⟨c',Y,Z,ag,aq,aE⟩:=bA.take U h;have ab:Nat.beq k id=false:=by
    cases ae:Nat.beq k id with
    | false=>rfl
    | true=>exact absurd (Nat.eq_of_beq_eq_true ae).symm e
   refine⟨c',c :: Y,Z,ag,by rw[aq]; rfl,fun env' z he bG=>?_⟩;obtain⟨H2,bb,bX,dj⟩:=aE env' z he bG;refine⟨c :: H2,bb.cons_cons _,?_,fun ae c' dE jG=>?_⟩
   ·unfold ef
    rw[ab];exact⟨c,H2,rfl,J.sub he bG (Nat.ne_of_beq_eq_false ab),bX⟩
   ·rw[List.cons_append]at dE
    rcases List.mem_cons.1 dE with rfl | dE
    ·exact List.mem_cons_self ..
    ·exact List.mem_cons_of_mem _ (dj ae c' dE jG)
end
section
variable {X:bs} {R:Nat->Prop} {W:World} {aJ:e0} {n:Nat} {ks:List Nat} {env:Nat->Loc} {B:Nat->Prop} {al:World} {H:List bf} {st:aO} {a aP:Act} {w w':World} {o:Oper} {d:Nat}
theorem bH.FY(h:bH X R W aJ n ks env B al H st a w) {id:Nat} {b b':cv} (b5:bd st.H id=some b) (cM:∀ q,¬ aJ.p id q):∃ c K,er env B al id b c/\iS (H++ks.map dk) c K /\
  ∀ (l:Loc) c' aP w' sv v,er (kr env id l) B al id b' c'->eH (kr env id l) B al sv v->bE (fun k=>R k\/B k) al (K c') w'->cT n (j2 ks aJ) ((d,v) :: gm a) aP ->
   ∃ H',((∀ b,env id≠.blk b)->∀ c'∈H,iw c'=true->c'≠c->c'∈H')/\bH X R W aJ n ks (kr env id l) B al H' ⟨(d,sv) :: fK id .dead st.L,(id,b') :: ef id .dead st.H⟩ aP w':=by
 obtain⟨c,Y,Z,J,U,ag⟩:=h.heap.take b5;refine⟨c,fun z=>Y++z :: (Z++ks.map dk),J,⟨Y,Z++ks.map dk,by rw[U]; simp,rfl⟩,fun l c' aP w' sv v ae aC an aI=>?_⟩;obtain⟨H2,aq,aE,il⟩:=ag (kr env id l) .dead jJ (fun _ _=>trivial);refine⟨c' :: H2,fun ae q ar jG cr=>List.mem_cons_of_mem _ (il ae q (by
  rw[U]at ar
  rcases List.mem_append.1 ar with ar | ar
  ·exact List.mem_append_left _ ar
  ·rcases List.mem_cons.1 ar with e | ar
   ·exact absurd e cr
   ·exact List.mem_append_right _ ar) jG),aI.size,aI.defs,fun s u hu=>?_,⟨c',H2,rfl,ae,aE⟩,?_,h.sub,h.new,tR h.dL cM,h.base,h.et⟩
 ·rw[cI]at hu
  split at hu
  ·rename_i e; subst e; cases hu; exact⟨v,aI.this,aC⟩
  ·rename_i e
   obtain⟨jK,jL,rfl⟩:=pc hu;obtain⟨fL,bb,bX⟩:=h.has s jK jL;exact⟨fL,aI.other e bb,eH.sub (z:=.dead) jJ (fun _ _=>trivial) bX⟩
 ·have ao:(Y++c' :: (Z++ks.map dk)).Perm (c' :: (Y++Z++ks.map dk)):=by
   rw[List.append_assoc];exact List.perm_middle
  exact(an.perm ao).e6 ((aq.append_right _).cons_cons _)
def BG(X:bs) (L:cX) (size:Nat):List (Nat×Operand)->Nat->Option (Bool×List bm)
 | [],_=>some (true,[])
 | (j,u) :: r,k=>match Nat.beq j k,bp X L u,BG X L size r (k+1)with
  | true,some (g,x),some (c,l)=>match Nat.beq x.cells.length size,og x.cells with
   | true,true=>some (g&&c,x.cells++l)
   | _,_=>none
  | _,_,_=>none
def BH(g:aU):Nat->List bm->Option (Bool×List g.D)
 | 0,_=>some (true,[])
 | k+1,cs=>match dec g cs with
  | some (c,x,r)=>match BH g k r with
   | some (c',l)=>some (c&&c',x :: l)
   | none=>none
  | none=>none
def newRow(n:Nat) (st:aO) (d:Nat) (t:TypeId) (g:aU) (l:List g.D) (cap:Option Nat):Option aO:=
 match Nat.blt d n with
 | true=>some ⟨(d,.c (.ai d)) :: fK d .dead st.L,(d,.row t g l cap) :: ef d .dead st.H⟩
 | false=>none
def yr(X:bs) (n:Nat) (st:aO) (t:TypeId) (N:Nat) (ps:List (Nat×Operand)) (d:Nat):Option (Bool×aO):=
 match X.tt.find t with
 | some ⟨⟨.slice e,_,_,_⟩,_⟩=>match X.tt.find e with
  | some ⟨bw,some g⟩=>match Nat.ble (N * bw.size) 16777216,Nat.beq ps.length N,BG X st.L bw.size ps 0 with
   | true,true,some (c,cs)=>match BH g N cs with
    | some (c',l)=>match newRow n st d e g l (some N)with
     | some st'=>some (c&&c',st')
     | none=>none
    | none=>none
   | _,_,_=>none
  | _=>none
 | _=>none
theorem MP{env:Nat->Loc} {B:Nat->Prop} {w:World} {g:aU}:∀ {k:Nat} {cs:List bm} {c:Bool} {l:List g.D} {vs:List Value},cH env B w cs vs->BH g k cs=some (c,l)->c=true->l.length=k/\∃ v1 v2,vs=v1++v2/\Flat (bF B w g) l v1
 | 0,cs,c,l,vs,_,ax,_=>by cases ax; exact⟨rfl,[],vs,rfl,rfl⟩
 | k+1,cs,c,l,vs,h,ax,aa=>by
  simp only[BH]at ax
  split at ax
  ·rename_i fw x r J
   split at ax
   ·rename_i cL l2 U
    cases ax;simp only[Bool.and_eq_true]at aa;obtain⟨v1,v2,rfl,ag,aq⟩:=qb h J aa.1;obtain⟨aE,v3,v4,rfl,bb⟩:=MP aq U aa.2;exact⟨by rw[List.length_cons,aE],v1++v3,v4,by rw[List.append_assoc],v1,v3,rfl,ag,bb⟩
   ·cases ax
  ·cases ax
theorem cH.append{env:Nat->Loc} {B:Nat->Prop} {w:World}:∀ {cs aG:List bm} {vs us:List Value},cH env B w cs vs->cH env B w aG us->cH env B w (cs++aG) (vs++us)
 | [],_,_,_,h,aK=>by rw[show _=[] from h]; exact aK
 | _ :: _,_,_,_,⟨v,r,e,J,U⟩,aK=>⟨v,_,by rw[e]; rfl,J,cH.append U aK⟩
theorem MQ(h:bH X R W aJ n ks env B al H st a w) {size:Nat}:∀ {ps:List (Nat×Operand)} {k:Nat} {c:Bool} {cs:List bm},BG X st.L size ps k=some (c,cs)->c=true ->
  ∃ vs:List Value,(ps.map fun p=>(p.1,a.eval p.2))=(vs.zipIdx k).map (fun p=>(p.2,p.1))/\(∀ v∈vs,v.cells.size=size)/\cH env B al cs (vs.flatMap fun v=>v.cells.toList)
 | [],k,c,cs,ao,_=>by cases ao; exact⟨[],rfl,(fun _ h=>by cases h),rfl⟩
 | (j,u) :: ps,k,c,cs,ao,aa=>by
  simp only[BG]at ao
  split at ao
  ·rename_i g x c' l aH hu aw
   split at ao
   ·rename_i dv q6
    cases ao;simp only[Bool.and_eq_true]at aa;obtain⟨v,J,U⟩:=h.aD hu aa.1;have h3:cH env B al x.cells v.cells.toList:=U.cells fun c e=>by
     subst e;simp only[bl.cells,og,Bool.and_true]at q6;exact dB.one q6 U
    obtain⟨vs,ag,aq,aE⟩:=MQ h aw aa.2;refine⟨v :: vs,?_,fun u hu=>?_,?_⟩
    ·rw[List.map_cons,ag,List.zipIdx_cons,List.map_cons,h.bZ.aD J,Nat.eq_of_beq_eq_true aH]
    ·rcases List.mem_cons.1 hu with rfl | hu
     ·rw[<- Nat.eq_of_beq_eq_true dv,<- h3.length]; simp
     ·exact aq u hu
    ·rw[List.flatMap_cons]
     exact h3.append aE
   ·cases ao
  ·cases ao
theorem MR(size:Nat):∀ (vs:List Value) (k:Nat) (done zs:List Value),(∀ v∈vs,v.cells.size=size)->done.length=k * size->zs.length=vs.length * size ->
  Instr.fill (fun i=>some (i * size,size)) (done++zs).toArray ((vs.zipIdx k).map fun p=>(p.2,p.1))=some (done++vs.flatMap fun v=>v.cells.toList).toArray
 | [],k,done,zs,_,_,ah=>by
  have:zs=[]:=List.eq_nil_of_length_eq_zero (by simpa using ah)
  subst this; simp[Instr.fill]
 | v :: vs,k,done,zs,aC,ax,ah=>by
  have qc:=aC v (by simp);have FZ:v.cells.toList.length=size:=by simpa using qc
  have bG:size<=zs.length:=by rw[ah,List.length_cons,Nat.add_mul]; omega
  have br:=MR size vs (k+1) (done++v.cells.toList) (zs.drop size) (fun u hu=>aC u (List.mem_cons_of_mem _ hu)) (by rw[List.length_append,ax,FZ,Nat.add_mul]; omega) (by rw[List.length_drop,ah,List.length_cons,Nat.add_mul]; omega);have ao:=Fs v.cells.toList (done++zs) (k * size) 0 (by rw[List.length_append,ax,FZ]; omega);simp only[List.zipIdx_cons,List.map_cons,Instr.fill];rw[if_neg (by simp[qc,ax]; omega)];rw[<- Array.foldl_toList];simp only[Array.toList_zipIdx];simp only[Nat.add_zero]at ao;rw[ao,<- ax,List.take_left,FZ];have aS:(done++zs).drop (done.length+size)=zs.drop size:=by rw[List.drop_append]; simp
  rw[aS]
  simpa using br
theorem range_zero(z:List Value) (k:Nat) (size:Nat) (an:z.length=size) (aN:0 < size):(Array.range (k * size)).map (fun j=>z.toArray[j % z.toArray.size]!)=(ek z k).toArray:=by
 subst an; exact Mb z aN k
theorem Vn{P:Program} {t e:TypeId} {i:bD} {N:Nat} {vs:List Value} {z:List Value} {w:World} (a8:P.underlying t=some (.slice e)) (hi:bD.ok P e i) (bG:i.zero.cells.toList=z) (yt:z.length=i.size) (aN:0 < i.size) (a6:vs.length=N) (hle:N * i.size<=16777216) (aC:∀ v∈vs,v.cells.size=i.size) :
  (Instr.buildSlice t N ((vs.zipIdx.map fun p=>(p.2,p.1)).toArray)).run P w=.ok (.slice (some ⟨w.heap.size,0,none⟩) N N) (w.alloc (.cells (vs.flatMap fun v=>v.cells.toList).toArray e)):=by
 have wb:=MR i.size vs 0 [] (ek z N) aC (by simp) (by rw[yc,yt,a6]);simp only[List.nil_append]at wb;have q4:=range_zero z N i.size yt aN;have nG:i.zero.cells=z.toArray:=by rw[<- bG]
 unfold Instr.buildSlice;simp only[Sem.run_bind,run_underlying a8,Result.andThen_ok,bD.run_sizeOf hi];rw[if_neg (by omega)]
 by_cases cr:N * i.size=0
 ·have Vo:N=0:=by
   rcases Nat.mul_eq_zero.1 cr with h | h
   ·exact h
   ·omega
  subst Vo
  have:vs=[]:=List.eq_nil_of_length_eq_zero a6
  subst this;have gA:(Array.range 0)=#[]:=rfl
  simp[Instr.fill,newObj,Sem.run,Go.newRow,gA]
 ·simp only[cr,if_false,Sem.run_bind,bD.qU hi,Result.andThen_ok,Sem.run_pure,nG]
  rw[q4]
  simp[wb,Go.newRow,newObj,Sem.run]
theorem Vp(av:X.tt.ok X.P) {t:TypeId} {N:Nat} {ps:Array (Nat×Operand)} {c:Bool} {st':aO} (aA:o.op=.buildSlice t N ps) (dS:o.guard=none) (eK:o.dst=some d) (ae:yr X n st t N ps.toList d=some (c,st')) (aa:c=true):tQ X n st o st':=by
 intro R W aJ ks env B al H a w ops KK h bQ;unfold yr at ae
 split at ae
 ·rename_i e s1 s2 MS s4 az
  split at ae
  ·rename_i bw g dh
   split at ae
   ·rename_i fw cs hle gT hpc
    split at ae
    ·rename_i cL l hdn
     split at ae
     ·rename_i gK ku
      cases ae;simp only[Bool.and_eq_true]at aa;unfold Go.Proofs.YtcheedjfedcbpaaGreatDoor.newRow at ku
      split at ku
      ·rename_i ax
       cases ku;obtain⟨dN,dm,jo⟩:=(b9.get av dh).g g rfl;have ra:=(b9.get av dh).bq;dsimp only at dN dm ra;obtain⟨vs,J,U,ag⟩:=MQ h hpc aa.1;obtain⟨aq,v1,v2,aE,bb⟩:=MP ag hdn aa.2;have qc:vs.length=N:=by
        have:=congrArg List.length J
        simp only[List.length_map,List.length_zipIdx]at this;rw[<- this];exact Nat.eq_of_beq_eq_true gT
       have MT:(vs.flatMap fun v=>v.cells.toList).length=N * bw.size:=by
        rw[<- qc]
        clear J ag aE qc
        induction vs with
        | nil=>simp
        | cons v vs br=>rw[List.flatMap_cons,List.length_append,br (fun u hu=>U u (List.mem_cons_of_mem _ hu)),List.length_cons,Nat.add_mul,Nat.one_mul,Array.length_toList,U v (by simp),Nat.add_comm]
       have lh:v2=[]:=by
        have ay:=congrArg List.length aE;rw[List.length_append,bF.mX bb,aq,MT,dN]at ay;exact List.eq_nil_of_length_eq_zero (by omega)
       subst lh;rw[List.append_nil]at aE;have dy:=Vn (w:=w) (N:=N) (vs:=vs) (b9.get av az).bq.1 ra (z:=g.ek) dm (by rw[<- bF.length (bF.ek (B:=B) (w:=al) g)]at dN; exact dN) (by rw[<- dN]; exact jo) qc (Nat.le_of_ble_eq_true hle) U;have mw:ps.map (fun p=>(p.1,a.eval p.2))=((vs.zipIdx.map fun p=>(p.2,p.1)).toArray):=by
        rw[<- J,<- List.map_toArray]
       refine hP h.bZ dS eK (dY ax) (v:=.slice (some ⟨w.heap.size,0,none⟩) N N) (w':=w.alloc (.cells (vs.flatMap fun v=>v.cells.toList).toArray e)) (by
        simp only[execOp,aA];rw[mw]
        simp[dy]) fun aP aI=>?_
       have cM:=bE.Uv (size:=g.size) (m:=N) (h.aM.Ff (vs.flatMap fun v=>v.cells.toList) e) (by rw[MT,dN]) (by
        have:=Nat.le_of_ble_eq_true hle
        have bX:N<=N * bw.size:=Nat.le_mul_of_pos_right _ (by rw[<- dN]; exact jo);omega)
       obtain⟨H',lg,dj⟩:=h.oi (d:=d) ax (l:=.row (some ⟨w.heap.size,0,none⟩) N l.length) (blk:=.row e g l (some N)) (sv:=.c (.ai d)) cM ⟨_,_,_,fp,by rw[aq],by rw[aE]; exact bb,fun q ar=>by cases ar; rfl⟩ ⟨_,_,_,fp,by rw[aq]⟩ aI;exact bQ _ _ _ _ ⟨fun _=>(Below.refl _ _).alloc (Nat.le_refl _) _,fun _ aV=>lg.1 (by simpa [qa,eK] using aV),fun _ aV=>lg.2 (by simpa [so,eK] using aV)⟩ dj
      ·cases ku
     ·cases ae
    ·cases ae
   ·cases ae
  ·cases ae
 ·cases ae
theorem MU{P:Program} {B:Nat->Prop} {al w:World} {H:List bf} {t e:TypeId} {i':bD} {z:List Value} {m c:Nat} {k k':IntKind} (dt:bE B al H w) (ay:P.underlying t=some (.slice e)) (cz:bD.ok P e i') (aq:i'.zero.cells=z.toArray) (aE:z.length=i'.size) (dv:0 < i'.size)
  (yv:m<=c) (ae:i'.bytes * c<=140737488355328) (aa:c<=140737488355328) :
  (Instr.makeSlice t (.int k (m:Int)) (.int k' (c:Int))).run P w=.ok (.slice (some ⟨w.heap.size,0,none⟩) m c) (w.alloc (.cells (ek z c).toArray e))/\bE B al (.row (some ⟨w.heap.size,0,none⟩) c e i'.size m (ek z m) :: H) (w.alloc (.cells (ek z c).toArray e)):=by
 obtain⟨inf,pZ,fb,ih,mn⟩:=bD.info cz;have dM:(inf.bytes:Int) * (c:Int)<=281474976710656:=by
  have:((inf.bytes * c:Nat):Int)<=140737488355328:=by rw[ih]; omega
  rw[Int.natCast_mul]at this;omega
 constructor
 ·have aw:=run_make (P:=P) w t e inf i'.zero ay pZ mn k k' m c (by omega) (by omega) dM (by omega)
  simp only[Int.toNat_natCast]at aw;rw[aw];have bG:madeCells i'.zero.cells (c * inf.size)=(ek z c).toArray:=by
   rw[fb,aq,<- aE];unfold madeCells;exact Mb z (by omega) c
  rw[bG]
 ·have aX:=dt.alloc (.cells (ek z c).toArray e)
  have ao:=List.pairwise_cons.1 aX.apart;refine⟨aX.below,aX.base,fun ee ik=>?_,List.Pairwise.cons (fun ee ik b cj=>ao.1 ee ik b (by simpa [bf.has] using cj)) ao.2⟩
  rcases List.mem_cons.1 ik with rfl | ik
  ·refine⟨by rw[yc,aE],.inr ⟨w.heap.size,_,(0,0),rfl,dt.fresh,heap_alloc_new w _,.inl rfl,yv,by unfold maxLen; omega,by simp[yc,aE],?_⟩⟩
   have:ek z c=ek z m++ek z (c - m):=by
    unfold ek;rw[<- List.flatten_append,List.replicate_append_replicate]
    congr 2
    omega
   show(ek z c).take _=_;rw[this,List.take_left' (by rw[yc,aE])]
  ·exact aX.ok ee (List.mem_cons_of_mem _ ik)
def wh:Option aU->aU->aU
 | some (.ai (.gS h)),.ai _=>.gS h
 | _,g=>g
theorem Vq(eF:Option aU) (g:aU):(wh eF g).size=g.size/\(wh eF g).ek=g.ek:=by
 unfold wh
 split<;>exact⟨rfl,rfl⟩
def yw(X:bs) (n:Nat) (st:aO) (t:TypeId) (x y:bl) (d:Nat):Option (Bool×aO):=
 match X.tt.find t with
 | some ⟨⟨.slice e,_,_,_⟩,eF⟩=>match X.tt.find e with
  | some ⟨⟨_,_,gU,_⟩,some g⟩=>match x,y with
   | .c (.val (.int _ h7)),.c (.val (.int _ hx))=>match newRow n st d e (wh eF g) (List.replicate h7.toNat (wh eF g).zero) (some hx.toNat)with
    | some st'=>some (decide (0<=h7)&&decide (h7<=hx)&&gd gU hx,st')
    | none=>none
   | _,_=>none
  | _=>none
 | _=>none
theorem Vr(av:X.tt.ok X.P) {t:TypeId} {x y:Operand} {g g' c:Bool} {e7 eb:bl} {st':aO} (aA:o.op=.makeSlice t x y) (dS:o.guard=none) (eK:o.dst=some d) (ak:bp X st.L x=some (g,e7)) (aQ:g=true) (aL:bp X st.L y=some (g',eb)) (ea:g'=true)
  (ae:yw X n st t e7 eb d=some (c,st')) (aa:c=true):tQ X n st o st':=by
 intro R W aJ ks env B al H a w ops KK h bQ;obtain⟨vx,gZ,kt⟩:=h.aD ak aQ;obtain⟨vy,fF,j3⟩:=h.aD aL ea;unfold yw at ae
 split at ae
 ·rename_i e s1 s2 MS s4 az
  split at ae
  ·rename_i aG cJ gU kO g dh
   split at ae
   ·rename_i k h7 k' hx
    split at ae
    ·rename_i gK ku
     cases ae;simp only[Bool.and_eq_true,decide_eq_true_eq]at aa;obtain⟨⟨q3,q4⟩,nG⟩:=aa;obtain⟨nG,F0⟩:=(Mr (by omega)).1 nG;unfold Go.Proofs.YtcheedjfedcbpaaGreatDoor.newRow at ku
     split at ku
     ·rename_i ax
      cases ku;rw[show vx=_ from kt]at gZ;rw[show vy=_ from j3]at fF;obtain⟨dN,dm,jo⟩:=(b9.get av dh).g g rfl;obtain⟨T,bI,J,aq⟩:=mY (b9.get av az).bq (b9.get av dh).bq;dsimp only at dN dm aq;obtain⟨j4,en⟩:=Vq s4 g;rw[<- j4]at dN jo;rw[<- en]at dm
      clear j4 en
      generalize wh s4 g=g at dN dm jo bQ ⊢
      have yt:g.ek.length=cJ:=by rw[<- dN]; exact bF.length (bF.ek (B:=B) (w:=al) g)
      obtain⟨dy,cM⟩:=MU (i':=⟨aG,cJ,gU,kO⟩) h.aM (b9.get av az).bq.1 (b9.get av dh).bq (z:=g.ek) (by rw[<- dm]) yt (by rw[<- dN]; exact jo) (k:=k) (k':=k') (m:=h7.toNat) (c:=hx.toNat) (by omega) (by
       have:((gU * hx.toNat:Nat):Int)=(gU:Int) * hx:=by rw[Int.natCast_mul,Int.toNat_of_nonneg (by omega)]
       show gU * hx.toNat<=_;omega) (by omega)
      rw[Int.toNat_of_nonneg q3,Int.toNat_of_nonneg (by omega)]at dy;refine hP h.bZ dS eK (dY ax) (v:=.slice (some ⟨w.heap.size,0,none⟩) h7.toNat hx.toNat) (w':=w.alloc (.cells (ek g.ek hx.toNat).toArray e)) (by simp[execOp,aA,h.bZ.aD gZ,h.bZ.aD fF,dy]) fun aP aI=>?_
      obtain⟨H',lg,dj⟩:=h.oi (d:=d) ax (l:=.row (some ⟨w.heap.size,0,none⟩) hx.toNat (List.replicate h7.toNat g.zero).length) (blk:=.row e g (List.replicate h7.toNat g.zero) (some hx.toNat)) (sv:=.c (.ai d)) cM ⟨_,_,_,fp,by rw[List.length_replicate,dN],Flat.ek g _,fun q ar=>by cases ar; rfl⟩ ⟨_,_,_,fp,by rw[List.length_replicate]⟩ aI;exact bQ _ _ _ _ ⟨fun _=>(Below.refl _ _).alloc (Nat.le_refl _) _,fun _ aV=>lg.1 (by simpa [qa,eK] using aV),fun _ aV=>lg.2 (by simpa [so,eK] using aV)⟩ dj
     ·cases ku
    ·cases ae
   ·cases ae
  ·cases ae
 ·cases ae
end
end
section
def mx(st:aO) (g:aU):bl->Option (List g.D)
 | .c (.val (.slice none 0 0))=>some []
 | .c (.bk g' l _)=>match decEq g' g with
  | isTrue h=>some (h ▸ l)
  | isFalse _=>none
 | .c (.ai id)=>match bd st.H id with
  | some (.row _ g' l _)=>match decEq g' g with
   | isTrue h=>some (h ▸ l)
   | isFalse _=>none
  | _=>none
 | _=>none
def eg(gU k:Nat):Bool:=decide (k * gU<=140737488355328)&&decide (k<=140737488355328)
def yx(X:bs) (n:Nat) (st:aO) (t:TypeId) (x y:bl) (d:Nat):Option (Bool×aO):=
 match X.tt.find t with
 | some ⟨⟨.slice e,_,_,_⟩,_⟩=>match X.tt.find e with
  | some ⟨⟨_,cJ,gU,_⟩,some ge⟩=>match x with
   | .c (.ai id)=>match bd st.H id with
    | some (.row cj g l _)=>match Nat.blt d n&&Nat.blt id h5,Nat.beq cj e,Nat.beq g.size cJ,mx st g y with
     | true,true,true,some l2=>some (eg gU (l.length+l2.length),⟨(d,.c (.ai id)) :: fK id .dead st.L,(id,.row e g (l++l2) none) :: ef id .dead st.H⟩)
     | _,_,_,_=>none
    | _=>none
   | .c (.val (.slice none 0 0))=>match mx st ge y with
    | some l2=>match newRow n st d e ge l2 none with
     | some st'=>some (eg gU l2.length,st')
     | none=>none
    | none=>none
   | .c (.bk g l (some c))=>match Nat.beq g.size cJ,mx st g y with
    | true,some l2=>match newRow n st d e g (l++l2) none with
     | some st'=>some (eg gU (l.length+l2.length)&&decide (c=l.length)&&decide (0 < l.length)&&decide (0 < l2.length),st')
     | none=>none
    | _,_=>none
   | _=>none
  | _=>none
 | _=>none
section
variable {X:bs} {R:Nat->Prop} {W:World} {aJ:e0} {n:Nat} {ks:List Nat} {env:Nat->Loc} {B:Nat->Prop} {al:World} {H:List bf} {st:aO} {a aP:Act} {w w':World} {o:Oper} {d:Nat}
theorem nE.jD{A:Option Addr} {m size:Nat} {xs:List Value} (aw:nE B al A m size xs) (an:bE (fun k=>R k\/B k) al H w):Reads w A m size xs:=by
 refine⟨aw.1.1,fun hm=>?_⟩;obtain⟨b,p,e,aa⟩:=aw.1.2 hm;exact⟨b,p,e,fun j u hu=>FA (aw.2 b p hm e) (aa j u hu) an⟩
theorem ss(h:bH X R W aJ n ks env B al H st a w) {g:aU} {y:bl} {l:List g.D} {v:Value} (an:mx st g y=some l) (aw:dH env B al y v):∃ A c xs,v=.slice A l.length c/\Flat (bF B al g) l xs/\Reads w A l.length g.size xs:=by
 unfold mx at an
 split at an
 ·cases an
  exact⟨none,0,[],aw,rfl,Reads.nil _ _ _⟩
 ·split at an
  ·rename_i aQ _
   subst aQ;cases an;obtain⟨A,c,xs,rfl,_,_,_,di,hR⟩:=aw;exact⟨A,c,xs,rfl,di,hR.jD h.aM⟩
  ·cases an
 ·split at an
  ·rename_i b5
   split at an
   ·rename_i aQ _
    subst aQ;cases an;obtain⟨A,c,m,he,rfl⟩:=aw;obtain⟨ee,K,⟨bP,k',xs,cV,rfl,di,_⟩,ey⟩:=h.heap.gz b5;rw[he]at cV;cases cV;exact⟨A,c,xs,rfl,di,Reads.Mk h.aM ey.more.mem⟩
   ·cases an
  ·cases an
 ·cases an
theorem Vs(av:X.tt.ok X.P) {t:TypeId} {x y:Operand} {g g' c:Bool} {e7 eb:bl} {st':aO} (aA:o.op=.call ⟨.builtin .append,⟨[x,y]⟩,⟨[t,t]⟩⟩) (dS:o.guard=none) (eK:o.dst=some d) (ak:bp X st.L x=some (g,e7)) (aQ:g=true) (aL:bp X st.L y=some (g',eb)) (ea:g'=true)
  (ae:yx X n st t e7 eb d=some (c,st')) (aa:c=true):tQ X n st o st':=by
 intro R W aJ ks env B al H a w ops KK h bQ;obtain⟨vx,gZ,kt⟩:=h.aD ak aQ;obtain⟨vy,fF,j3⟩:=h.aD aL ea;unfold yx at ae
 split at ae
 ·rename_i e s1 s2 MS s4 az
  split at ae
  ·rename_i aG cJ gU kO ge dh
   obtain⟨dN,dm,jo⟩:=(b9.get av dh).g ge rfl;obtain⟨T,bI,J,aq⟩:=mY (b9.get av az).bq (b9.get av dh).bq;dsimp only at dN dm aq;have oa:kO.cells.size=cJ:=by
    have:kO.cells.toList.length=cJ:=by rw[dm,<- dN]; exact bF.length (bF.ek (B:=B) (w:=al) ge)
    simpa using this
   split at ae
   ·rename_i id
    split at ae
    ·rename_i cj g l cap b5
     split at ae
     ·rename_i l2 kv he dv my
      cases ae;simp only[Bool.and_eq_true]at kv;obtain⟨ax,tS⟩:=kv;have cV:=Nat.eq_of_beq_eq_true he;subst cV;have gJ:=Nat.eq_of_beq_eq_true dv;simp only[eg,Bool.and_eq_true,decide_eq_true_eq]at aa;obtain⟨c2,cL,gB,rfl,iK,fS⟩:=ss h my j3;obtain⟨A,c,m,iL,rfl⟩:=kt;obtain⟨ee,K,⟨bP,k',xs,nb,rfl,di,_⟩,ey,nH⟩:=h.FY (d:=d) (b':=.row cj g (l++l2) none) b5 (fun q ao=>by
       obtain⟨_,aE,bb⟩:=h.dL _ _ ao;rw[iL]at aE
       rcases bb with⟨b,bb⟩ | bb
       ·rw[<- aE]at bb; cases bb
       ·have:=dY tS; omega)
      rw[iL]at nb;cases nb;rw[gJ]at ey fS;refine Bp h.sym aA ⟨dS,eK⟩ ax bI J rfl aq (by rw[<- dN]; exact Nat.ble_eq_true_of_le jo) oa gZ fF ey fS (Flat.iX (fun _ _=>bF.iX) iK) aa.1 aa.2 fun bP c' aP w' cw=>?_
      obtain⟨H',lg,dj⟩:=nH (.row bP c' (l.length+l2.length)) _ aP w' (.c (.ai id)) _ ⟨bP,c',xs++gB,by rw[fp,List.length_append],by rw[List.length_append],di.append iK,fun q ar=>by cases ar⟩ ⟨bP,c',_,fp,rfl⟩ (by rw[gJ]; exact cw.aM) cw.st;exact bQ _ _ _ _ ⟨fun h=>(by rw[aA]at h; cases h),fun _ _ c aa jG=>lg (fun b=>by rw[iL]; simp) c aa jG (fun e=>by rw[e]at jG; cases jG),fun h=>(by rw[aA]at h; cases h)⟩ dj
     ·cases ae
    ·cases ae
   ·split at ae
    ·rename_i l2 my
     split at ae
     ·rename_i gK ku
      cases ae;simp only[eg,Bool.and_eq_true,decide_eq_true_eq]at aa;unfold Go.Proofs.YtcheedjfedcbpaaGreatDoor.newRow at ku
      split at ku
      ·rename_i ax
       cases ku;obtain⟨c2,cL,gB,rfl,iK,fS⟩:=ss h my j3;rw[show vx=_ from kt]at gZ;rw[dN]at fS;have tT:Sym n (j2 ks aJ) (gm a) (fun k=>R k\/B k) al (.row none 0 e cJ 0 [] :: (H++ks.map dk)) a w:=⟨h.bZ,h.aM.sg e cJ⟩
       refine Bp tT aA ⟨dS,eK⟩ ax bI J rfl aq (by rw[<- dN]; exact Nat.ble_eq_true_of_le jo) oa gZ fF vT fS (Flat.iX (fun _ _=>bF.iX) iK) (by rw[Nat.zero_add]; exact aa.1) (by rw[Nat.zero_add]; exact aa.2) fun bP c' aP w' cw=>?_
       rw[Nat.zero_add,List.nil_append,<- dN]at cw;obtain⟨H',lg,dj⟩:=h.oi (d:=d) ax (l:=.row bP c' l2.length) (blk:=.row e ge l2 none) (sv:=.c (.ai d)) cw.aM ⟨_,_,_,fp,rfl,iK,fun q ar=>by cases ar⟩ ⟨_,_,_,fp,rfl⟩ cw.st;exact bQ _ _ _ _ ⟨fun h=>(by rw[aA]at h; cases h),fun _ aV=>lg.1 (by simpa [qa,eK] using aV),fun h=>(by rw[aA]at h; cases h)⟩ dj
      ·cases ku
     ·cases ae
    ·cases ae
   ·rename_i g l cc
    split at ae
    ·rename_i l2 dv my
     split at ae
     ·rename_i gK ku
      cases ae;simp only[eg,Bool.and_eq_true,decide_eq_true_eq]at aa;obtain⟨⟨⟨iG,h4⟩,MV⟩,MW⟩:=aa;unfold Go.Proofs.YtcheedjfedcbpaaGreatDoor.newRow at ku
      split at ku
      ·rename_i ax
       cases ku;have gJ:=Nat.eq_of_beq_eq_true dv;obtain⟨c2,cL,gB,rfl,iK,fS⟩:=ss h my j3;obtain⟨A,c,xs,rfl,_,_,fy,di,hR⟩:=kt;have om:=fy _ rfl;have rb:=hR.jD h.aM;rw[gJ]at fS rb;obtain⟨wi,h8,rfl,_⟩:=rb.2 MV;obtain⟨jE,hF,rfl,_⟩:=fS.2 MW;refine UF h.sym aA ⟨dS,eK⟩ ax bI J rfl aq (by rw[<- dN]; exact Nat.ble_eq_true_of_le jo) oa gZ fF MV MW rb fS (by omega) iG.1 iG.2 fun kq c' aP w' cw=>?_
       rw[<- gJ]at cw;obtain⟨H',lg,dj⟩:=h.oi (d:=d) ax (l:=.row (some ⟨kq,0,none⟩) c' (l++l2).length) (blk:=.row e g (l++l2) none) (sv:=.c (.ai d)) cw.aM ⟨_,_,_,fp,by rw[List.length_append],di.append iK,fun q ar=>by cases ar⟩ ⟨_,_,_,fp,by rw[List.length_append]⟩ cw.st;exact bQ _ _ _ _ ⟨fun h=>(by rw[aA]at h; cases h),fun _ aV=>lg.1 (by simpa [qa,eK] using aV),fun h=>(by rw[aA]at h; cases h)⟩ dj
      ·cases ku
     ·cases ae
    ·cases ae
   ·cases ae
  ·cases ae
 ·cases ae
/-! ### Freezing -/
def de(id:Nat) (st:aO):Option aO:=
 match bd st.H id with
 | some (.row _ g l cap)=>some ⟨fK id (.bk g l cap) st.L,ef id (.bk g l cap) st.H⟩
 | _=>none
theorem bH.de(h:bH X R W aJ n ks env B al H st a w) {id:Nat} {st':aO} (az:de id st=some st'):∃ env' B' cC H',bH X R W aJ n ks env' B' cC H' st' a w/\(∀ k,B k->B' k)/\c6 (fun k=>R k\/B k) al cC/\∀ c∈H,iw c=true->c∈H':=by
 unfold Go.Proofs.YtcheedjfedcbpaaGreatDoor.de at az
 split at az
 ·rename_i t g l cap b5
  cases az;obtain⟨c0,_,⟨A,k,BI,he,rfl,_,fy⟩,nI⟩:=h.heap.gz b5;have dp:fJ B al (fun q=>B q\/A.map (·.block)=some q) w:=⟨fun q ar=>.inl ar,fun q ar=>h.aM.below.block q (.inr ar)⟩
  obtain⟨c,Y,Z,⟨bP,k',xs,cV,rfl,di,_⟩,U,ag⟩:=(h.heap.up dp).take b5;rw[he]at cV;cases cV;have kP:bf.row A k t g.size l.length xs∈H++ks.map dk:=by rw[U]; simp
  have fx:eQ w (fun k=>R k\/B k) t g.size A k l.length xs:=h.aM.ok _ kP;have hH:∀ q,A.map (·.block)=some q->¬ (R q\/B q)/\q < w.heap.size:=fun q ar=>(h.aM.ok _ kP).lt ar
  have su:∀ v,dB env (fun q=>B q\/A.map (·.block)=some q) w (.ai id) v->dB env (fun q=>B q\/A.map (·.block)=some q) w (.bk g l cap) v:=by
   rintro v ⟨bP,c',m,cV,rfl⟩;rw[he]at cV;cases cV;exact⟨A,k,xs,rfl,fx.le.1,fx.le.2,fy,di,Reads.Mk h.aM kP,fun b p _ e=>.inr (by rw[e]; rfl)⟩
  obtain⟨H2,aq,aE,Vt⟩:=ag env (.bk g l cap) (fun _ _=>rfl) su;have lX:=h.aM.apart;rw[U,List.append_assoc,List.cons_append]at lX;refine⟨env,_,w,H2,⟨h.size,h.defs,fun s u hu=>?_,aE,?_,fun q ar=>.inl (h.sub q ar),fun q ar=>?_,h.dL,h.base.trans ⟨h.aM.below.os,h.aM.below.tape,h.aM.below.output,h.aM.below.size,fun q ar=>h.aM.below.block q (.inl ar)⟩,fun i x ak=>(h.et i x ak).up dp⟩,fun q ar=>.inl ar,h.aM.below,fun c aa jG=>Vt (fun b=>by rw[he]; simp) c ?_ jG⟩
  ·obtain⟨jK,jL,rfl⟩:=pc hu
   obtain⟨fL,bb,bX⟩:=h.has s jK jL;exact⟨fL,bb,eH.sub (fun _ _=>rfl) su (bX.up dp)⟩
  ·have an:bE (fun k=>R k\/B k) al (H2++ks.map dk) w:=by
    have bb:=h.aM;rw[U]at bb;have ao:(Y++bf.row A k t g.size l.length xs :: Z++ks.map dk).Perm (bf.row A k t g.size l.length xs :: (Y++Z++ks.map dk)):=by
     simp only[List.append_assoc,List.cons_append];exact List.perm_middle
    exact(bb.perm ao).e6 (((aq.append_right _)).cons _)
   refine⟨c6.refl _ _,fun q ar=>?_,fun c aa=>(an.ok c aa).base fun b ae cm=>?_,an.apart⟩
   ·rcases ar with ar | ar | ar
    ·exact h.aM.base q (.inl ar)
    ·exact h.aM.base q (.inr ar)
    ·exact(hH q ar).2
   ·rcases cm with cm | cm | cm
    ·exact((an.ok c aa).lt ae).1 (.inl cm)
    ·exact((an.ok c aa).lt ae).1 (.inr cm)
    ·have iF:c∈Y++(Z++ks.map dk):=by
      rcases List.mem_append.1 aa with aa | aa
      ·have:=aq.subset aa
       rcases List.mem_append.1 this with bX | bX
       ·exact List.mem_append_left _ bX
       ·exact List.mem_append_right _ (List.mem_append_left _ bX)
      ·exact List.mem_append_right _ (List.mem_append_right _ aa)
     rw[List.pairwise_append,List.pairwise_cons]at lX;obtain⟨_,⟨dj,_⟩,il⟩:=lX
     rcases List.mem_append.1 iF with bX | bX
     ·exact il c bX _ List.mem_cons_self b ae cm
     ·exact dj c bX b cm ae
  ·rcases ar with ar | ar
   ·exact(h.new q ar).imp_right fun aK=>⟨aK.1,aK.2.dQ (h.aM.below.block q (.inr ar))⟩
   ·exact .inr ⟨fun dT=>(hH q ar).1 (.inl dT),(h.aM.ok _ kP).cells rfl ar⟩
  ·rw[U]at aa
   rcases List.mem_append.1 aa with aa | aa
   ·exact List.mem_append_left _ aa
   ·rcases List.mem_cons.1 aa with aa | aa
    ·rw[aa]at jG; cases jG
    ·exact List.mem_append_right _ aa
 ·cases az
/-! ### Forgetting -/
inductive wj (L:cX):cX->Prop where
 | nil:wj L []
 | cons {k:Nat} {v:b3} {L':cX} (ab:bd L k=some v) (h:wj L L'):wj L ((k,v) :: L')
inductive lj (h:bz):bz->Prop where
 | nil:lj h []
 | cons {k:Nat} {b:cv} {aK:bz} (ab:bd h k=some b) (aV:bd aK k=none) (aw:lj h aK):lj h ((k,b) :: aK)
theorem wj.look{L L':cX} (h:wj L L'):∀ s v,bd L' s=some v->bd L s=some v:=by
 induction h with
 | nil=>intro s v h; cases h
 | cons ab _ br=>
  intro s v h;rw[cI]at h
  split at h
  ·rename_i e; subst e; cases h; exact ab
  ·exact br s v h
def mz(id:Nat):bz->bz
 | []=>[]
 | (k,b) :: r=>match Nat.beq k id with
  | true=>r
  | false=>(k,b) :: mz id r
theorem bA.erase{id:Nat}:∀ {l:bz} {H:List bf} {b:cv},bA env B w l H->bd l id=some b->∃ c H2,er env B w id b c/\H.Perm (c :: H2)/\bA env B w (mz id l) H2
 | [],_,_,_,h=>by cases h
 | (k,b') :: l,H,b,⟨c,H',e,J,U⟩,h=>by
  rw[cI]at h;subst e
  split at h
  ·rename_i e
   subst e;cases h;refine⟨c,H',J,List.Perm.refl _,?_⟩;unfold mz;rw[Nat.beq_refl];exact U
  ·rename_i e
   obtain⟨c',H2,ag,aq,aE⟩:=bA.erase U h;have ab:Nat.beq k id=false:=by
    cases ae:Nat.beq k id with
    | false=>rfl
    | true=>exact absurd (Nat.eq_of_beq_eq_true ae).symm e
   refine⟨c',c :: H2,ag,(List.Perm.cons _ aq).trans (List.Perm.swap _ _ _),?_⟩;unfold mz;rw[ab];exact⟨c,H2,rfl,J,aE⟩
theorem MX{id k:Nat} (ab:k≠id):∀ {l:bz},bd (mz id l) k=bd l k
 | []=>rfl
 | (j,b) :: l=>by
  unfold mz
  split
  ·rename_i h
   have:j=id:=Nat.eq_of_beq_eq_true h
   subst this;rw[cI,if_neg ab]
  ·rw[cI,cI,MX ab]
theorem lj.F1{l l':bz} (an:lj l l'):∀ {H:List bf},bA env B w l H->∃ H' Y,H.Perm (H'++Y)/\bA env B w l' H':=by
 have key:∀ {l l':bz},(∀ k b,bd l' k=some b->bd l k=some b)->(∀ (p:Nat×cv) (Y Z:bz),l'=Y++p :: Z->bd Z p.1=none)->∀ {H:List bf},bA env B w l H->∃ H' Y,H.Perm (H'++Y)/\bA env B w l' H':=by
  intro l l'
  induction l' generalizing l with
  | nil=>intro _ _ H h; exact⟨[],H,List.Perm.refl _,rfl⟩
  | cons p r br=>
   obtain⟨k,b⟩:=p;intro J U H h;have ab:=J k b (by rw[cI,if_pos rfl]);have aV:=U (k,b) [] r rfl;obtain⟨c,H2,ag,aq,aE⟩:=h.erase ab;obtain⟨H',Y,bb,bX⟩:=br (l:=mz k l) (fun j b' aH=>by
    have cr:j≠k:=fun e=>by subst e; rw[aV]at aH; cases aH
    rw[MX cr];exact J j b' (by rw[cI,if_neg cr]; exact aH)) (fun p Y Z e=>U p ((k,b) :: Y) Z (by rw[e]; rfl)) aE
   exact⟨c :: H',Y,aq.trans (List.Perm.cons _ bb),c,H',rfl,ag,bX⟩
 intro H h;refine key (l:=l) (l':=l') ?_ ?_ h
 ·clear h
  induction an with
  | nil=>intro k b h; cases h
  | cons ab _ _ br=>
   intro j b' h;rw[cI]at h
   split at h
   ·rename_i e; subst e; cases h; exact ab
   ·exact br j b' h
 ·clear h
  induction an with
  | nil=>intro p Y Z e; cases Y<;>cases e
  | cons _ aV _ br=>
   intro p Y Z e;cases Y with
   | nil=>cases e; exact aV
   | cons q Y=>cases e; exact br p Y Z rfl
theorem bH.e6(h:bH X R W aJ n ks env B al H st a w) {st':aO} (dV:wj st.L st'.L) (dt:lj st.H st'.H):∃ H',bH X R W aJ n ks env B al H' st' a w:=by
 obtain⟨H',Y,J,U⟩:=dt.F1 h.heap;refine⟨H',h.size,h.defs,fun s u hu=>h.has s u (dV.look s u hu),U,?_,h.sub,h.new,h.dL,h.base,h.et⟩;have ao:(H++ks.map dk).Perm ((H'++ks.map dk)++Y):=by
  refine(J.append_right _).trans ?_;rw[List.append_assoc,List.append_assoc];exact(List.perm_append_comm).append_left _
 exact(h.aM.perm ao).e6 (List.sublist_append_left _ _)
theorem bH.sg(h:bH X R W aJ n ks env B al H st a w) {s id:Nat} {t:TypeId} {g:aU} (hid:∀ q,¬ aJ.p id q) (an:bd st.L s=some (.c (.val (.slice none 0 0)))):∃ env' H',bH X R W aJ n ks env' B al H' ⟨(s,.c (.ai id)) :: fK id .dead st.L,(id,.row t g [] none) :: ef id .dead st.H⟩ a w:=by
 obtain⟨H2,J,U⟩:=h.heap.del (z:=.dead) (jJ (env:=env) (id:=id) (l:=.row none 0 0)) (fun _ _=>trivial);obtain⟨v,ag,aq⟩:=h.has _ _ an;refine⟨kr env id (.row none 0 0),.row none 0 t g.size 0 [] :: H2,h.size,h.defs,fun q u hu=>?_,⟨_,H2,rfl,⟨none,0,[],fp,rfl,rfl,fun _ ar=>by cases ar⟩,U⟩,(h.aM.sg t g.size).e6 ((J.append_right _).cons_cons _),h.sub,h.new,tR h.dL hid,h.base,h.et⟩;rw[cI]at hu
 split at hu
 ·rename_i e; subst e; cases hu; exact⟨v,ag,none,0,0,fp,aq⟩
 ·obtain⟨jK,jL,rfl⟩:=pc hu
  obtain⟨fL,bb,bX⟩:=h.has q jK jL;exact⟨fL,bb,eH.sub (z:=.dead) jJ (fun _ _=>trivial) bX⟩
end
end
section
inductive MY where
 | ok (c:Bool) (st:aO)
 | stop
def yy(X:bs) (n:Nat) (st:aO) (d:Option Nat):Op->Option (Bool×aO)
 | .alloc t=>match d,X.tt.find t with
  | some d,some bw=>sr X n st t d (sn bw.bq.zero.cells.toList)
  | _,_=>none
 | .box t u=>match d,bp X st.L u with
  | some d,some (g,x)=>match og x.cells,sr X n st t d x.cells with
   | true,some (c,st')=>some (g&&c,st')
   | _,_=>none
  | _,_=>none
 | .store t u v=>match d,bp X st.L u,bp X st.L v with
  | none,some (g,x),some (g',y)=>match yp X st t x y with
   | some (c,st')=>some (g&&g'&&c,st')
   | none=>none
  | _,_,_=>none
 | .buildSlice t N ps=>match d with
  | some d=>yr X n st t N ps.toList d
  | none=>none
 | .makeSlice t u v=>match d,bp X st.L u,bp X st.L v with
  | some d,some (g,x),some (g',y)=>match yw X n st t x y d with
   | some (c,st')=>some (g&&g'&&c,st')
   | none=>none
  | _,_,_=>none
 | .call ⟨.builtin .append,⟨[u,v]⟩,⟨[t,bW]⟩⟩=>match d,Nat.beq t bW,bp X st.L u,bp X st.L v with
  | some d,true,some (g,x),some (g',y)=>match yx X n st t x y d with
   | some (c,st')=>some (g&&g'&&c,st')
   | none=>none
  | _,_,_,_=>none
 | _=>none
def wk(X:bs) (n:Nat) (L:cX) (H:bz) (o:Oper) (g:Bool):MY:=
 match tO X ⟨L,H⟩ o.op,o.dst with
 | some (c,bx),some d=>match Nat.blt d n with
  | true=>.ok (!g || c) ⟨(d,.may g bx) :: L,H⟩
  | false=>.stop
 | _,_=>.stop
def BJ(L:cX):Op->Option (List bl)
 | .move (.tmp s)=>match bd L s with
  | some (.c3 xs)=>some xs
  | _=>none
 | .assign (.tmp s)=>match bd L s with
  | some (.c3 xs)=>some xs
  | _=>none
 | _=>none
def oo(X:bs) (n:Nat) (df:List (Option Nat)):aO->Oper->MY
 | ⟨L,H⟩,o=>match o.guard with
  | none=>match tO X ⟨L,H⟩ o.op with
   | some (c,bx)=>match o.dst with
    | some d=>match Nat.blt d n with
     | true=>.ok c ⟨(d,.a bx) :: L,H⟩
     | false=>.stop
    | none=>.stop
   | none=>match BJ L o.op with
    | some xs=>match o.dst with
     | some d=>match Nat.blt d n with
      | true=>.ok true ⟨(d,.c3 xs) :: L,H⟩
      | false=>.stop
     | none=>.stop
    | none=>match yy X n ⟨L,H⟩ o.dst o.op with
     | some (c,st')=>.ok c st'
     | none=>.stop
  | some (j,want)=>match nth df j with
   | some (some s)=>match bd L s,want with
    | some (.a (.c (.val (.bool b)))),true=>wk X n L H o b
    | some (.a (.c (.val (.bool b)))),false=>wk X n L H o (!b)
    | some (.may g (.c (.val (.bool b)))),true=>wk X n L H o (g&&b)
    | some (.may g (.c (.val (.bool b)))),false=>wk X n L H o (g&&!b)
    | _,_=>.stop
   | _=>.stop
def e1(l:List Oper):List (Option Nat):=l.map (·.dst)
section
variable {X:bs} {R:Nat->Prop} {W:World} {aJ:e0} {n:Nat} {ks:List Nat} {env:Nat->Loc} {B:Nat->Prop} {al:World} {H:List bf} {st st':aO} {a aP:Act} {w w':World} {o:Oper} {d:Nat}
theorem Vu(av:X.tt.ok X.P) {c:Bool} (dS:o.guard=none) (ae:yy X n st o.dst o.op=some (c,st')) (aa:c=true):tQ X n st o st':=by
 unfold yy at ae
 split at ae
 ·rename_i t aA
  split at ae
  ·rename_i d bw ax dh
   exact Vc av aA dS ax dh ae
  ·cases ae
 ·rename_i t u aA
  split at ae
  ·rename_i d g x ax hu
   split at ae
   ·rename_i c' gK ah U
    cases ae;simp only[Bool.and_eq_true]at aa;exact Vb aA dS ax hu aa.1 ah U
   ·cases ae
  ·cases ae
 ·rename_i t u v aA
  split at ae
  ·rename_i g x g' y ax hu aC
   split at ae
   ·rename_i c' gK U
    cases ae;simp only[Bool.and_eq_true]at aa;exact Vf av aA dS ax hu aa.1.1 aC aa.1.2 U aa.2
   ·cases ae
  ·cases ae
 ·rename_i t N ps aA
  split at ae
  ·rename_i d ax
   exact Vp av aA dS ax ae aa
  ·cases ae
 ·rename_i t u v aA
  split at ae
  ·rename_i d g x g' y ax hu aC
   split at ae
   ·rename_i c' gK U
    cases ae;simp only[Bool.and_eq_true]at aa;exact Vr av aA dS ax hu aa.1.1 aC aa.1.2 U aa.2
   ·cases ae
  ·cases ae
 ·rename_i u v t bW aA
  split at ae
  ·rename_i d g x g' y ax a8 hu aC
   split at ae
   ·rename_i c' gK U
    cases ae;simp only[Bool.and_eq_true]at aa;have Vv:=Nat.eq_of_beq_eq_true a8;subst Vv;intro R W aJ ks env B al H a w ops KK h bQ;exact Vs av aA dS ax hu aa.1.1 aC aa.1.2 U aa.2 ops KK h bQ
   ·cases ae
  ·cases ae
 ·cases ae
theorem Vw(h:bH X R W aJ n ks env B al H st a w) {ops:Array Oper} {KK:Act->World->Prop} {bx:bl} {g:Bool} (ao:g=true->ix X st o bx) (hw:Region.wanted o (yielded ops a.tmps)=g) (eK:o.dst=some d) (ax:Nat.blt d n=true)
  (bQ:∀ aP w' env' H',BD o st H w H' w'->bH X R W aJ n ks env' B al H' ⟨(d,.may g bx) :: st.L,st.H⟩ aP w'->KK aP w'):eS X.P ops o KK a w:=by
 have put:∀ v,cT n (j2 ks aJ) ((d,v) :: gm a) (a.put o.dst v):=fun v=>by rw[eK]; exact h.bZ.put d v (dY ax)
 cases g with
 | true=>
  obtain⟨v,J,U⟩:=ao rfl h;exact .inl ⟨hw,.inl ⟨v,w,U w (fun _=>h.aM),bQ _ _ _ _ ⟨fun _=>Below.refl _ _,fun _ _ c aa _=>aa,fun _ _ c aa=>aa⟩ (h.set ⟨fun _=>J,fun h=>by cases h⟩ (put v))⟩⟩
 | false=>exact .inr ⟨hw,bQ _ _ _ _ ⟨fun _=>Below.refl _ _,fun _ _ c aa _=>aa,fun _ _ c aa=>aa⟩ (h.set ⟨(fun h=>by cases h),fun _=>rfl⟩ (put undef))⟩
theorem F2{α β:Type} {f:α->β}:∀ {l:List α} {k:Nat} {y:β},nth (l.map f) k=some y->∃ x,l[k]?=some x/\y=f x
 | [],_,_,h=>by cases h
 | x :: _,0,_,h=>by cases h; exact⟨x,rfl,rfl⟩
 | _ :: r,k+1,_,h=>by obtain⟨x,J,U⟩:=F2 (l:=r) h; exact⟨x,by rw[List.getElem?_cons_succ]; exact J,U⟩
theorem BK(av:X.tt.ok X.P) {ops:Array Oper} {c g:Bool} (an:wk X n st.L st.H o g=.ok c st') (aa:c=true) (h:bH X R W aJ n ks env B al H st a w) (hw:Region.wanted o (yielded ops a.tmps)=g) {KK:Act->World->Prop}
  (bQ:∀ aP w' env' H',BD o st H w H' w'->bH X R W aJ n ks env' B al H' st' aP w'->KK aP w'):eS X.P ops o KK a w:=by
 unfold wk at an
 split at an
 ·rename_i c' bx d ao eK
  split at an
  ·rename_i ax
   cases an;exact Vw h (g:=g) (fun aQ=>BB (st:=st) av ao (by rw[aQ]at aa; simpa using aa)) hw eK ax bQ
  ·cases an
 ·cases an
theorem MZ(h:bH X R W aJ n ks env B al H st a w) {xs:List bl} (hm:BJ st.L o.op=some xs):∃ v,eH env B al (.c3 xs) v/\∀ w,(execOp a.eval o).run X.P w=.ok (.value v) w:=by
 unfold BJ at hm
 split at hm
 ·rename_i s aA
  split at hm
  ·rename_i ys b5
   cases hm;obtain⟨v,J,U⟩:=h.has _ _ b5;exact⟨v,U,L0 h.bZ aA (h6 J)⟩
  ·cases hm
 ·rename_i s aA
  split at hm
  ·rename_i ys b5
   cases hm;obtain⟨v,J,U⟩:=h.has _ _ b5;exact⟨v,U,L1 h.bZ aA (h6 J)⟩
  ·cases hm
 ·cases hm
theorem BL(av:X.tt.ok X.P) {l:List Oper} {c:Bool} (an:oo X n (e1 l) st o=.ok c st') (aa:c=true) (h:bH X R W aJ n ks env B al H st a w) {KK:Act->World->Prop}
  (bQ:∀ aP w' env' H',BD o st H w H' w'->bH X R W aJ n ks env' B al H' st' aP w'->KK aP w'):eS X.P l.toArray o KK a w:=by
 obtain⟨L,wm⟩:=st;simp only[oo]at an
 split at an
 ·rename_i dS
  split at an
  ·rename_i c' bx ao
   split at an
   ·rename_i d eK
    split at an
    ·rename_i ax
     cases an;obtain⟨v,J,U⟩:=BB av ao aa h;exact hP h.bZ dS eK (dY ax) (U w (fun _=>h.aM)) fun aP aI=>bQ _ _ _ _ ⟨fun _=>Below.refl _ _,fun _ _ c aa _=>aa,fun _ _ c aa=>aa⟩ (h.set J aI)
    ·cases an
   ·cases an
  ·split at an
   ·rename_i xs hm
    split at an
    ·rename_i d eK
     split at an
     ·rename_i ax
      cases an;obtain⟨v,J,U⟩:=MZ h hm;exact hP h.bZ dS eK (dY ax) (U w) fun aP aI=>bQ _ _ _ _ ⟨fun _=>Below.refl _ _,fun _ _ c aa _=>aa,fun _ _ c aa=>aa⟩ (h.set J aI)
     ·cases an
    ·cases an
   ·split at an
    ·rename_i c' gK he
     cases an;exact Vu av dS he aa _ _ h bQ
    ·cases an
 ·rename_i j want dS
  split at an
  ·rename_i s aH
   obtain⟨eu,hT,sw⟩:=F2 aH;have kN:(l.toArray[j]?).bind (·.dst)=some s:=by simp[hT,<- sw]
   split at an
   ·rename_i b b5
    obtain⟨v,J,U⟩:=h.has _ _ b5;rw[show v=_ from U]at J;refine BK (st:=⟨L,wm⟩) av an aa h ?_ bQ;rw[sf h.sym dS kN (h6 J)];cases b<;>rfl
   ·rename_i b b5
    obtain⟨v,J,U⟩:=h.has _ _ b5;rw[show v=_ from U]at J;refine BK (st:=⟨L,wm⟩) av an aa h ?_ bQ;rw[sf h.sym dS kN (h6 J)];cases b<;>rfl
   ·rename_i g b b5
    obtain⟨v,J,U,ag⟩:=h.has _ _ b5;refine BK (st:=⟨L,wm⟩) av an aa h ?_ bQ;cases g with
    | true=>
     rw[show v=_ from U rfl]at J;rw[sf h.sym dS kN (h6 J)];cases b<;>rfl
    | false=>
     rw[ag rfl]at J;rw[Bn h.sym dS kN (h6 J)]
     rfl
   ·rename_i g b b5
    obtain⟨v,J,U,ag⟩:=h.has _ _ b5;refine BK (st:=⟨L,wm⟩) av an aa h ?_ bQ;cases g with
    | true=>
     rw[show v=_ from U rfl]at J;rw[sf h.sym dS kN (h6 J)];cases b<;>rfl
    | false=>
     rw[ag rfl]at J;rw[Bn h.sym dS kN (h6 J)]
     rfl
   ·cases an
  ·cases an
end
def Vx(X:bs) (R:Nat->Prop) (W:World) (aJ:e0) (M:Bool) (n:Nat) (Q:Exit->aO->Prop):Exit->Act->World->Prop:=fun e a w=>∃ st,Q e st/\lV X R W aJ M n st a w
def lk(X:bs) (M:Bool) (n:Nat) (r:Option Nat) (c:Code) (st:aO) (Q:Exit->aO->Prop):Prop:=
 ∀ R W aJ a w,lV X R W aJ M n st a w->kJ r X.P c (Vx X R W aJ M n Q) a w
section
variable {X:bs} {M:Bool} {n:Nat} {r:Option Nat} {st st':aO} {Q pf:Exit->aO->Prop} {fw cL c:Code} {ops l l':List Oper}
theorem F3(h:lk X M n r c st Q) (ar:∀ e st,Q e st->pf e st):lk X M n r c st pf:=fun R W aJ a w aj=>wpIn_mono (h R W aJ a w aj) fun e a w ⟨st,J,U⟩=>⟨st,ar e st J,U⟩
theorem Vy(h:Q .normal st):lk X M n r .skip st Q:=fun R W aJ a w aj=>L7 ⟨st,h,aj⟩
theorem Vz{id:Nat} (h:Q (.exit id) st):lk X M n r (.exit id) st Q:=fun R W aJ a w aj=>Fm ⟨st,h,aj⟩
theorem VA(h:Q .ret st):lk X M n r .ret st Q:=fun R W aJ a w aj=>T3 ⟨st,h,aj⟩
def fq(X:bs) (n:Nat) (st st':aO):Prop:=∀ R W aJ M a w,lV X R W aJ M n st a w->lV X R W aJ M n st' a w
theorem fq.refl(st:aO):fq X n st st:=fun _ _ _ _ _ _ h=>h
theorem fq.trans{a b c:aO} (h:fq X n a b) (k:fq X n b c):fq X n a c:=fun _ _ _ _ _ _ aj=>k _ _ _ _ _ _ (h _ _ _ _ _ _ aj)
def tU(h:bz):List Nat->Option bz
 | []=>some []
 | k :: ks=>match bd h k,tU h ks with
  | some b,some r=>match bd r k with
   | none=>some ((k,b) :: r)
   | some _=>none
  | _,_=>none
theorem yz{aN:bz}:∀ {ks:List Nat} {aK:bz},tU aN ks=some aK->lj aN aK
 | [],_,h=>by cases h; exact .nil
 | k :: ks,aK,h=>by
  unfold tU at h
  split at h
  ·rename_i b r J U
   split at h
   ·rename_i ag
    cases h;exact .cons J ag (yz U)
   ·cases h
  ·cases h
theorem fq.de{id:Nat} (h:de id st=some st'):fq X n st st':=fun _ _ _ _ _ _ ⟨ks,env,B,al,H,bL,aj⟩=>by
 obtain⟨env',B',cC,H',h,_⟩:=aj.de h;exact⟨ks,env',B',cC,H',bL,h⟩
theorem fq.nil(s id:Nat) (t:TypeId) (g:aU) (hid:Nat.blt id n=true) (an:bd st.L s=some (.c (.val (.slice none 0 0)))):fq X n st ⟨(s,.c (.ai id)) :: fK id .dead st.L,(id,.row t g [] none) :: ef id .dead st.H⟩:=fun _ _ _ _ _ _ ⟨ks,env,B,al,H,bL,aj⟩=>by
 obtain⟨env',H',h⟩:=aj.sg (s:=s) (id:=id) (t:=t) (g:=g) (fun q ao=>by have J:=(aj.dL _ _ ao).1; have U:=dY hid; omega) an;exact⟨ks,env',B,al,H',bL,h⟩
end
end
section
def wo(X:bs) (B:Nat->Prop) (w:World):Prop:=∀ i x,X.Bv i=some x->sl B w i x
def wq(X:bs) (env:Nat->Loc) (B:Nat->Prop) (H:List bf) (W:World) (Q:b3->bz->Prop) (v:Value) (w':World):Prop:=
 ∃ env' B' cC H' sv aK,Q sv aK/\(∀ k,B k->B' k)/\(∀ k,B' k->B k\/(¬ gj W H k/\q2 cC k))/\c6 (gj W H) W cC/\eH env' B' cC sv v/\bA env' B' cC aK H'/\bE (fun k=>gj W H k\/B' k) cC H' w'/\∀ id l,(mZ<=id/\∃ b,l=.blk b)\/h5<=id->env id=l->env' id=l
def AC(X:bs) (f:FuncId) (args:List bl) (h:bz) (Q:b3->bz->Prop):Prop:=
 ∀ (B:Nat->Prop) (al:World) (env:Nat->Loc) (vs:List Value) (H:List bf) (W:World),wo X B al->dn env B al args vs->bA env B al h H->bE B al H W->o4 X.P f vs.toArray W (wq X env B H W Q)
def F4(X:bs) (st:aO):ResultVar->Option (Bool×bl)
 | .tmp s=>bp X st.L (.tmp s)
 | .cell s t=>match bp X st.L (.tmp s)with
  | some (g,.c (.ptr id 0))=>match Bx X st t (.c (.ptr id 0))with
   | some (c,x)=>some (g&&c,x)
   | none=>none
  | _=>none
def BM(X:bs) (st:aO):List ResultVar->Option (Bool×List bl)
 | []=>some (true,[])
 | r :: l=>match F4 X st r,BM X st l with
  | some (c,x),some (c',xs)=>some (c&&c',x :: xs)
  | _,_=>none
def wu(X:bs) (st:aO) (l:List ResultVar):Option (Bool×b3):=
 match BM X st l with
 | some (c,[x])=>some (c,.a x)
 | some (c,xs)=>some (c,.c3 xs)
 | none=>none
def re:Nat->List bl->cX
 | _,[]=>[]
 | k,x :: r=>(k,.a x) :: re (k+1) r
section
variable {X:bs} {R:Nat->Prop} {W:World} {aJ:e0} {n:Nat} {ks:List Nat} {env:Nat->Loc} {B:Nat->Prop} {al:World} {H:List bf} {st st':aO} {a aP:Act} {w w':World}
theorem dn.length:∀ {xs:List bl} {vs:List Value},dn env B w xs vs->vs.length=xs.length
 | [],_,h=>by rw[show _=[] from h]; rfl
 | _ :: _,_,⟨v,r,e,_,U⟩=>by rw[e,List.length_cons,List.length_cons,dn.length U]
theorem F5:∀ {xs:List bl} {vs:List Value} {k s:Nat} {sv:b3},dn env B w xs vs->bd (re k xs) s=some sv->k<=s/\∃ v,vs[s - k]?=some v/\eH env B w sv v
 | [],_,_,_,_,_,h=>by cases h
 | x :: xs,vs,k,s,sv,⟨v,r,e,J,U⟩,h=>by
  unfold re at h;rw[cI]at h;subst e
  split at h
  ·rename_i e
   subst e;cases h;exact⟨Nat.le_refl _,v,by simp,J⟩
  ·obtain⟨ag,u,aq,aE⟩:=F5 U h
   exact⟨by omega,u,by rw[show s - k=(s - (k+1))+1 by omega,List.getElem?_cons_succ]; exact aq,aE⟩
def BN(tmps:Array Value):ResultVar->Sem Value
 | .tmp t=>pure (tmps.getD t undef)
 | .cell s t=>do loadVar t (<- asAddr (tmps.getD s undef))
theorem M0(fn:Func) (tmps:Array Value):results fn tmps=(do let vs <- fn.results.mapM (BN tmps); pure (if h:vs.size=1 then vs[0] else .tuple vs)):=by
 unfold results
 congr 1
theorem VB(av:X.tt.ok X.P) (h:bH X R W aJ n ks env B al H st a w) {r:ResultVar} {c:Bool} {x:bl} (aw:F4 X st r=some (c,x)) (aa:c=true) :
  ∃ v,dH env B al x v/\∀ w,bE (fun k=>R k\/B k) al (H++ks.map dk) w->(BN a.tmps r).run X.P w=.ok v w:=by
 cases r with
 | tmp s=>
  obtain⟨v,J,U⟩:=h.aD (x:=.tmp s) aw aa;refine⟨v,U,fun w _=>?_⟩
  have:=h.bZ.aD J
  show(pure (a.eval (.tmp s)):Sem Value).run X.P w=_;rw[this]
  rfl
 | cell s t=>
  simp only[F4]at aw
  split at aw
  ·rename_i g id an
   split at aw
   ·rename_i c' y ah
    cases aw;simp only[Bool.and_eq_true]at aa;obtain⟨v,J,b,he,rfl⟩:=h.aD an aa.1;have U:=h.bZ.aD J
    obtain ⟨u, ag, aq⟩ := Mw (o := { dst := none, op := .load t (.tmp s), type := 0, pos := "", after := #[], guard := none }) av rfl an aa.1 (by rw [aa.2] at ah; exact ah) h
    refine⟨u,ag,fun w hw=>?_⟩;have aE:=aq w (fun _=>hw);have bb:a.tmps.getD s undef=.pointer (some ⟨b,0,none⟩):=U;simp only[execOp,U,Instr.loadAt,Instr.sureAddr]at aE;simp only[BN,bb,asAddr];simp only[Sem.run_bind,Sem.run_pure,Result.andThen_ok]at aE ⊢;cases ar:(loadVar t ⟨b,0,none⟩).run X.P w with
    | ok q hI=>
     rw[ar]at aE;simp only[Result.andThen_ok]at aE;cases aE
     rfl
    | halt q hI=>rw[ar]at aE; simp[Result.andThen]at aE
   ·cases aw
  ·cases aw
theorem F6(av:X.tt.ok X.P) (h:bH X R W aJ n ks env B al H st a w):∀ {l:List ResultVar} {c:Bool} {xs:List bl},BM X st l=some (c,xs)->c=true ->
  ∃ vs,dn env B al xs vs/\∀ w,bE (fun k=>R k\/B k) al (H++ks.map dk) w->(l.mapM (BN a.tmps)).run X.P w=.ok vs w
 | [],c,xs,aw,_=>by cases aw; exact⟨[],rfl,fun w _=>by simp⟩
 | r :: l,c,xs,aw,aa=>by
  simp only[BM]at aw
  split at aw
  ·rename_i fw x cL ys J U
   cases aw;simp only[Bool.and_eq_true]at aa;obtain⟨v,ag,aq⟩:=VB av h J aa.1;obtain⟨vs,aE,bb⟩:=F6 av h U aa.2;refine⟨v :: vs,⟨v,vs,rfl,ag,aE⟩,fun w hw=>?_⟩;rw[List.mapM_cons];simp only[Sem.run_bind,aq w hw,Result.andThen_ok,bb w hw,Sem.run_pure]
  ·cases aw
theorem VC(av:X.tt.ok X.P) (h:bH X R W aJ n ks env B al H st a w) {fn:Func} {l:List ResultVar} {c:Bool} {sv:b3} (az:fn.results=l.toArray) (aw:wu X st l=some (c,sv)) (aa:c=true) :
  ∃ v,eH env B al sv v/\∀ w,bE (fun k=>R k\/B k) al (H++ks.map dk) w->(results fn a.tmps).run X.P w=.ok v w:=by
 unfold wu at aw
 split at aw
 ·rename_i c' x J
  cases aw;obtain⟨vs,U,ag⟩:=F6 av h J aa;obtain⟨v,r,rfl,aq,aE⟩:=U
  have:r=[]:=aE
  subst this;refine⟨v,aq,fun w hw=>?_⟩;rw[M0,az]
  have:=ag w hw
  simp[this]
 ·rename_i c' xs cr J
  cases aw;obtain⟨vs,U,ag⟩:=F6 av h J aa;refine⟨.tuple vs.toArray,⟨vs,rfl,U⟩,fun w hw=>?_⟩;rw[M0,az];have ah:=U.length
  have:¬ vs.length=1:=fun e=>by
   rw[e]at ah
   match xs,ah,cr with
   | [x],_,cr=>exact cr x rfl
  simp[ag w hw,this]
 ·cases aw
end
end
end Go.Proofs.YtcheedjfedcbpaaGreatDoor
